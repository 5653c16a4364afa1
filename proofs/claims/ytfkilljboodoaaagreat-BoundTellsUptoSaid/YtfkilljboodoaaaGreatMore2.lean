/-
 A range over a function,the caller's side: its rounds are walked like the rounds of any loop. More steps: cells of boxes that hold slices which the call may write in place.
-/
import Derived.Test.YtfkilljboodoaaaGreatIter
namespace Go.Proofs.YtfkilljboodoaaaGreat
open Go.RowKit

def J5d:List Tmp→List AV→Fr→Fr
 | p::ps,u::us,l=>J5d ps us ((p,u)::l)
 | _,_,l=>l
theorem Q3.round {w:World} {β:H6} {L:Loc}:∀ {ps:List Tmp} {us:List AV} {vs:List Value} {tmps:Array Value} {l:Fr},ps.length=us.length→vs.length=us.length→(∀ p∈ps,p < tmps.size)→Q3 { tmps:=tmps,defers:=[] } w β L l →
  (∀ (j:Nat) u v,us[j]? = some u→vs[j]? = some v→V w β L u v)→Q3 { tmps:=(ps.zip vs).foldl (fun t (x:Tmp×Value)=>t.setIfInBounds x.1 x.2) tmps,defers:=[] } w β L (J5d ps us l)
 | [],[],[],_,_,_,_,_,h,_=>h
 | p::ps,u::us,v::vs,tmps,l,h1,h2,h3,h,hv=>by
  have hp:=h.put (d:=p) (u:=u) (v:=v) (h3 p (List.mem_cons_self ..)) (hv 0 u v rfl rfl)
  exact Q3.round (ps:=ps) (us:=us) (vs:=vs) (by simpa using h1) (by simpa using h2) (fun q hq=>by simpa using h3 q (List.mem_cons_of_mem _ hq)) hp (fun j u' v' hu hv'=>hv (j+1) u' v' (by simpa using hu) (by simpa using hv'))
 | [],_::_,_,_,_,h,_,_,_,_=>by simp at h
 | _::_,[],_,_,_,h,_,_,_,_=>by simp at h
 | _,[],_::_,_,_,_,h,_,_,_=>by simp at h
 | _,_::_,[],_,_,_,h,_,_,_=>by simp at h
theorem Step.thenW {w0 W W':World} {β0 β β':H6} {L0 L L':Loc} (h:Step w0 β0 L0 W β L) (k:H50 W β L W' β' L') (h1:W'.os=W.os) (h2:W'.tape=W.tape) (h3:W'.output=W.output∧W.drawn≤W'.drawn) (h4:W.heap.size≤W'.heap.size)
  (hid:∀ b i,b < w0.heap.size→(β'.hid b i ↔ β.hid b i)) (far:∀ b,b < w0.heap.size→(∀ id,(lk L id).isSome=true→β id≠some b)→W'.heap[b]? = W.heap[b]? ∧ ∀ id,(lk L' id).isSome=true→β' id≠some b):Step w0 β0 L0 W' β' L' where
 os:=h1.trans h.os
 tape:=h2.trans h.tape
 output:=⟨h3.1.trans h.output.1,Nat.le_trans h.output.2 h3.2⟩
 size:=Nat.le_trans h.size h4
 hid:=fun b i hb=>(hid b i hb).trans (h.hid b i hb)
 stab:=fun b i hs=>by
  obtain⟨a1,a2⟩:=h.stab b i hs
  obtain⟨k1,k2⟩:=k.stab b i a1
  exact⟨k1,k2.trans a2⟩
 far:=fun b hb hf=>by
  obtain⟨a1,a2⟩:=h.far b hb hf
  obtain⟨k1,k2⟩:=far b hb a2
  exact⟨k1.trans a1,k2⟩
 box:=fun id t cs hi=>by
  obtain⟨h1,cs',h2⟩:=h.box id t cs hi
  obtain⟨k1,k2⟩:=k.box id t cs' h2
  exact⟨k1.trans h1,k2⟩
 map:=fun id t es hi=>by
  obtain⟨h1,es',h2⟩:=h.map id t es hi
  obtain⟨k1,k2⟩:=k.map id t es' h2
  exact⟨k1.trans h1,k2⟩
 iter:=fun id m n es hi=>by
  obtain⟨h1,n',es',h2⟩:=h.iter id m n es hi
  obtain⟨k1,k2⟩:=k.iter id m n' es' h2
  exact⟨k1.trans h1,k2⟩
 vec:=fun id t kk ver xs hi=>by
  obtain⟨v1,xs1,h1,h2,h3⟩:=h.vec id t kk ver xs hi
  obtain⟨v2,xs2,k1,k2,k3⟩:=k.vec id t kk v1 xs1 h1
  refine⟨v2,xs2,k1,Nat.le_trans h2 k2,fun e=>?_⟩
  obtain⟨a1,a2,a3⟩:=h3 (by omega)
  obtain⟨b1,b2,b3⟩:=k3 (by omega)
  exact⟨b1.trans a1,b2.trans a2,fun b hb=>(b3 b (a2.trans hb)).trans (a3 b hb)⟩
 spare:=fun id t kk ver hw hi=>by
  obtain⟨v1,hw1,h1,h2,h3⟩:=h.spare id t kk ver hw hi
  obtain⟨v2,hw2,k1,k2,k3⟩:=k.spare id t kk v1 hw1 h1
  refine⟨v2,hw2,k1,Nat.le_trans h2 k2,fun e=>?_⟩
  obtain⟨a1,a2,a3⟩:=h3 (by omega)
  obtain⟨b1,b2,b3⟩:=k3 (by omega)
  exact⟨b1.trans a1,b2.trans a2,fun b hb=>(b3 b (a2.trans hb)).trans (a3 b hb)⟩

theorem Step.drop {w0 w:World} {β0 β:H6} {L0 L L':Loc} {N:G4f} {a:Act} {l l':Fr} (h:Step w0 β0 L0 w β L) (hsat:Sat w β L) (hbase:∀ id,(lk L0 id).isSome=true→id∈N.base) (hf:Fits N.base l L l' L') (ha:N.n≤a.tmps.size) (hd:a.defers=[]) (hfr:Q3 a w β L l):Step w0 β0 L0 w β L':=
 (G12.fits (N:=N) (a:=a) ⟨hsat,h,hfr,ha,hbase,by rw [hd]; exact .nil⟩ hf).step

structure Between (P:Program) (N:G4f) (w0:World) (β0:H6) (L0:Loc) (tmps:Array Value) (ds:List Deferred) (l1:Fr) (S:Nat→Nat→Prop) (n0 lp D:Nat) (rec:Loop) (L:Loc) (X:Nat→Prop) (T:Nat→Nat→Prop) (W:World) (β:H6):Prop where
 sat:Sat W β L
 step:Step w0 β0 L0 W β L
 frame:Q3 { tmps:=tmps,defers:=[] } W β L l1
 obj:∀ id b,(lk L id).isSome=true→β id=some b→X b∧b≠lp∧b≠D
 hid:∀ b,n0≤b→b < W.heap.size→¬ X b→∀ i,¬ T b i→β.hid b i
 lt:∀ b,X b→b < W.heap.size
 loop:W.heap[lp]? = some (.loop rec)
 mark:W.heap[D]? = some (.deferred (some []))
 old:n0≤W.heap.size
 data:∀ b i,S b i→Js W β L b i
 tdata:∀ b i,T b i→n0≤b∧Js W β L b i
 defs:H57 none w0.heap.size W β L ds
 deflt:∀ d∈ds,∀ D',d={ target:=.collected D',args:=#[] }→D' < n0
theorem H57.turned {ro:Option Nat} {B n0:Nat} {w w':World} {β β':H6} {L:Loc} {ds:List Deferred} (h:H57 ro B w β L ds) (hlt:∀ d∈ds,∀ D',d={ target:=.collected D',args:=#[] }→D' < n0) (hk:∀ D,D < n0→w.heap[D]? = some (.deferred (some []))→w'.heap[D]? = w.heap[D]?) (hb:∀ id,β' id=β id):H57 ro B w' β' L ds:=
 ⟨h.top,h.nodup,fun d hd=>by
  obtain⟨D,e,h1,h2,h3⟩:=h.each d hd
  exact⟨D,e,h1,(hk D (hlt d hd D e) h2).trans h2,fun id hi he=>h3 id hi ((hb id).symm.trans he)⟩⟩

theorem Between.more {P:Program} {N:G4f} {w0:World} {β0:H6} {L0:Loc} {tmps:Array Value} {ds:List Deferred} {l1:Fr} {S:Nat→Nat→Prop} {n0 lp D:Nat} {rec:Loop} {L:Loc} {X:Nat→Prop} {T T':Nat→Nat→Prop} {W:World} {β:H6}
  (h:Between P N w0 β0 L0 tmps ds l1 S n0 lp D rec L X T W β) (h1:∀ b i,T b i→T' b i) (h2:∀ b i,T' b i→¬ T b i→n0≤b∧¬ X b∧b < W.heap.size) (h0:w0.heap.size≤n0) :
  Between P N w0 β0 L0 tmps ds l1 S n0 lp D rec L X T' W ⟨β.at_,fun b i=>β.hid b i∧¬ T' b i⟩:=by
 have told:∀ b i,T' b i→n0≤b:=fun b i h'=>by
  by_cases ht:T b i
  ·exact(h.tdata b i ht).1
  ·exact(h2 b i h' ht).1
 have stab:∀ b i,Js W β L b i→Js W ⟨β.at_,fun b i=>β.hid b i∧¬ T' b i⟩ L b i:=fun b i hs=>⟨hs.lt,fun hh=>hs.seen hh.1,hs.kept⟩
 have stw:H50 W β L W ⟨β.at_,fun b i=>β.hid b i∧¬ T' b i⟩ L:=⟨fun b i hs=>⟨stab b i hs,rfl⟩,fun _ _ cs h=>⟨rfl,cs,h⟩,fun _ _ es h=>⟨rfl,es,h⟩,fun _ _ n es h=>⟨rfl,n,es,h⟩,
  fun id _ _ ver xs h=>⟨ver,xs,h,Nat.le_refl _,fun _=>⟨rfl,rfl,fun b hb=>rfl⟩⟩,fun id _ _ ver hw h=>⟨ver,hw,h,Nat.le_refl _,fun _=>⟨rfl,rfl,fun b hb=>rfl⟩⟩⟩
 refine⟨⟨fun b i hh=>h.sat.hid b i hh.1,h.sat.bnd,fun id b j h1 h2 hh=>h.sat.apart id b j h1 h2 hh.1,h.sat.inj,fun id o ho=>(h.sat.obj id o ho).stepW stw (fun b hb=>rfl)⟩,
  h.step.thenW stw rfl rfl ⟨rfl,Nat.le_refl _⟩ (Nat.le_refl _) (fun b i hlt=>⟨fun hh=>hh.1,fun hh=>⟨hh,fun ht=>by have:=told b i ht; omega⟩⟩) (fun b hlt hf=>⟨rfl,hf⟩),⟨fun t=>(h.frame.tmp t).stepW stw⟩,h.obj,
  fun b g1 g2 g3 i g4=>⟨h.hid b g1 g2 g3 i (fun ht=>g4 (h1 b i ht)),g4⟩,h.lt,h.loop,h.mark,h.old,fun b i hs=>stab b i (h.data b i hs),fun b i ht'=>⟨told b i ht',?_⟩,h.defs.turned h.deflt (fun _ _ _=>rfl) (fun _=>rfl),h.deflt⟩
 by_cases ht:T b i
 ·exact stab b i (h.tdata b i ht).2
 ·obtain⟨g1,g2,g3⟩:=h2 b i ht' ht
  exact⟨g3,fun hh=>hh.2 ht',fun id o ho hb=>(g2 (h.obj id b (by rw [ho]; rfl) hb).1).elim⟩

end Go.Proofs.YtfkilljboodoaaaGreat
namespace Go.Proofs.YtfkilljboodoaaaGreat
open Go.RowKit

def G87 (l:Fr):List Operand→List AV→Prop
 | [],[]=>True
 | x::r,u::s=>((ev l x).plain=u∨∃ k,u=.list k []∧ev l x=.sc (.slice none 0 0))∧u.isData=true∧G87 l r s
 | _,_=>False
theorem G87.length {l:Fr}:∀ {xs:List Operand} {us:List AV},G87 l xs us→xs.length=us.length
 | [],[],_=>rfl
 | _::_,_::_,h=>by simp [G87.length h.2.2]
 | [],_::_,h=>h.elim
 | _::_,[],h=>h.elim
theorem G87.get {l:Fr}:∀ {xs:List Operand} {us:List AV},G87 l xs us→∀ {j:Nat} {x:Operand} {u:AV},xs[j]? = some x→us[j]? = some u→((ev l x).plain=u∨∃ k,u=.list k []∧ev l x=.sc (.slice none 0 0))∧u.isData=true
 | x::r,u::s,h,j,x',u',hx,hu=>by
  cases j with
  | zero=>simp at hx hu; subst hx; subst hu; exact⟨h.1,h.2.1⟩
  | succ j=>simp at hx hu; exact h.2.2.get hx hu
 | [],[],_,j,_,_,hx,_=>by simp at hx
 | [],_::_,h,_,_,_,_,_=>h.elim
 | _::_,[],h,_,_,_,_,_=>h.elim
/-! ### A variable of a map's type is set anew: the new map takes the old one's name -/
theorem G9d.conv {w:World} {β:H6} {L L':Loc} {ob:Option Nat} {o o':Je} (hd:Hd6 L L') (hc:Ga0 (fun i=>(lk L' i).isSome) o o') (h0:G9d w β L ob o):G9d w β L' ob o':=by
 cases hc with
 | same=>exact h0
 | map=>
  obtain⟨b,h1,ents,h2,h3,h4⟩:=h0
  exact⟨b,h1,ents,h2,h3,fun i e k u he hu=>⟨(h4 i e k u he hu).1,(h4 i e k u he hu).2.1.mono fun b i hs=>⟨hd.stab hs,rfl⟩,(h4 i e k u he hu).2.2⟩⟩
 | vec=>
  obtain⟨h00,h0⟩:=h0
  refine⟨h00,?_⟩
  rcases h0 with h0 | ⟨b,h1,vs,h2,h3,h4⟩
  ·exact .inl h0
  ·exact .inr ⟨b,h1,vs,h2,h3,fun j u v hu hv=>(h4 j u v hu hv).mono fun b i hs=>⟨hd.stab hs,rfl⟩⟩
 | iter hm=>
  obtain⟨b,h1,bm,t,es,h2,h3,h4⟩:=h0
  obtain⟨o',ho'⟩:=Option.isSome_iff_exists.1 hm
  obtain⟨o2,ho2,hl⟩:=hd.like _ o' ho'
  rw [h2] at ho2; cases ho2
  cases o' <;> simp [Je.like] at hl
  subst hl
  exact⟨b,h1,bm,_,_,ho',h3,h4⟩
 | box hl hc=>
  obtain⟨b,h1,vs,h2,h3,h4⟩:=h0
  refine⟨b,h1,vs,h2,h3.trans hl,fun j u' v hu' hv=>?_⟩
  rename_i cs cs'
  have hj:j < cs.length:=by
   rcases Nat.lt_or_ge j cs'.length with h | h
   ·omega
   ·simp [List.getElem?_eq_none h] at hu'
  exact(h4 j cs[j] v (by simp [hj]) hv).conv hd (hc j _ _ (by simp [hj]) hu')

def RenF (i j:Nat) (ok:Nat→Bool) (l:Fr):Fr→Prop
 | []=>True
 | (s,u)::r=>((look l s=.mp j∧u=.mp i)∨(look l s=u∧u.refs ok=true))∧RenF i j ok l r
theorem RenF.get {i j:Nat} {ok:Nat→Bool} {l:Fr}:∀ {l':Fr},RenF i j ok l l'→∀ t,look l' t=.junk∨(look l t=.mp j∧look l' t=.mp i)∨(look l t=look l' t∧(look l' t).refs ok=true)
 | [],_,t=>.inl (by simp [look])
 | (s,u)::r,h,t=>by
  by_cases e:s=t
  ·subst e
   have e1:look ((s,u)::r) s=u:=by simp [look]
   rw [e1]; exact .inr h.1
  ·have hb:Nat.beq s t=false:=by
    cases hb:Nat.beq s t with
    | false=>rfl
    | true=>exact absurd (Nat.eq_of_beq_eq_true hb) e
   have e1:look ((s,u)::r) t=look r t:=by simp [look,hb]
   rw [e1]; exact RenF.get h.2 t

theorem A_makeD {P:Program} {o:Oper} {l:Fr} {L:Loc} {x y:Operand} {T E k by_ n:Nat} {kd kd':IntKind} {nx ny:Int} (zs:List Value) (ho:o.op=.makeSlice T x y) (hx:ev l x=.sc (.int kd nx)) (hy:ev l y=.sc (.int kd' ny))
  (hT:sliceB P T E k=true) (hE:Zp P E k by_=true) (hz:(P.info? E).bind (fun i=>i.zero.map Value.cells)=some zs.toArray) (hn:nx=(n:Int)) (hm:ny=(n:Int)) (hb:decide (by_*n≤281474976710656∧n≤maxLen∧n*k≤16777216)=true)
  (z:AV) (hzz:∀ (w:World) (S:Nat→Nat→Prop) (j:Nat) a b,z.cells[j]? = some a→zs[j]? = some b→D w S a b) (hzk:z.cells.length=k) :
  H2 P o l L (Is (.list k (List.replicate n z)) L):=by
 subst hn hm
 intro a w β K Q hsat hf hK
 have hb':=of_decide_eq_true hb
 obtain⟨inf,zv,e1,e2,e3,e4,e5,e6⟩:=Zp.out hE
 have hvx:=hf.ev x
 rw [hx] at hvx
 have hvy:=hf.ev y
 rw [hy] at hvy
 have h63':(n:Int)≤9223372036854775807:=by
  have h:=hb'.2.1
  simp [maxLen] at h
  omega
 have hb2:(inf.bytes:Int)*(n:Int)≤281474976710656:=by
  have h:((inf.bytes*n:Nat):Int)≤281474976710656:=by rw [e3]; have:=hb'.1; omega
  rwa [Int.natCast_mul] at h
 have hr:=run_make (P:=P) w T E inf zv (sliceB.out hT).1 e1 e4 kd kd' n n (by omega) (Int.le_refl _) hb2 h63'
 simp only [Int.toNat_natCast] at hr
 have hrun:(execOp a.eval o).run P w=.ok (.value (.slice (some ⟨w.heap.size,0,none⟩) n n)) (w.alloc (.cells (madeCells zv.cells (n*inf.size)) E)):=by
  simp [execOp,ho,hvx.inv_sc,hvy.inv_sc,hr]
 unfold Oper.wp
 rw [hrun]
 have hzs:zv.cells=zs.toArray:=by
  rw [e1] at hz
  simp [e4] at hz
  exact hz
 have hkl0:∀ x∈List.replicate n z,x.cells.length=k:=fun y hy=>by rw [List.eq_of_mem_replicate hy]; exact hzk
 have hd:=D.newRow (E:=E) (vs:=madeCells zv.cells (n*inf.size)) hsat hkl0 (by rw [List.length_replicate]; exact hb'.2.1) (by rw [Jj hkl0,List.length_replicate,size_madeCells,e2]) (fun j u v hu hv=>by
  rw [e2] at hv
  -- the cells
  have hkl:∀ x∈List.replicate n z,x.cells.length=k:=fun y hy=>by rw [List.eq_of_mem_replicate hy]; exact hzk
  have hj:j < n*k:=by
   have:=(List.getElem?_eq_some_iff.1 hu).1
   rw [Jj hkl] at this
   simpa using this
  have hdm:j=j / k*k+j % k:=by rw [Nat.mul_comm]; exact(Nat.div_add_mod j k).symm
  have hq:j / k < n:=Nat.div_lt_of_lt_mul (by rw [Nat.mul_comm]; exact hj)
  have hzi:(List.replicate n z)[j / k]? = some z:=by simp [hq]
  rw [hdm,Gb0 hkl hzi (Nat.mod_lt _ e6)] at hu
  have hzsl:zs.length=k:=by
   have:=e5
   rw [hzs] at this
   simpa using this
  refine hzz _ _ (j % k) u v hu ?_
  rw [madeCells] at hv
  simp [hj] at hv
  rw [← hv,hzs]
  have hmk:j % k < zs.length:=by rw [hzsl]; exact Nat.mod_lt _ e6
  simp [hzsl,hmk]
  rw [List.getElem?_eq_getElem hmk]; rfl)
 rw [List.length_replicate] at hd
 exact hK _ _ _ _ β ⟨rfl,rfl⟩ (hsat.new _) (Step.new hsat _) (.data hd)
theorem A_makeDM {P:Program} {o:Oper} {l:Fr} {L:Loc} {x y:Operand} {T E k by_ n:Nat} {kd kd':IntKind} {nx ny:Int} {α:Type} {f:α→AV} (z:α) (zs:List Value) (ho:o.op=.makeSlice T x y) (hx:ev l x=.sc (.int kd nx)) (hy:ev l y=.sc (.int kd' ny))
  (hT:sliceB P T E k=true) (hE:Zp P E k by_=true) (hz:(P.info? E).bind (fun i=>i.zero.map Value.cells)=some zs.toArray) (hn:nx=(n:Int)) (hm:ny=(n:Int)) (hb:decide (by_*n≤281474976710656∧n≤maxLen∧n*k≤16777216)=true)
  (hzz:ZOk (f z).cells zs) (hzk:(f z).cells.length=k):H2 P o l L (Is (.list k ((List.replicate n z).map f)) L):=by
 have h:=A_makeD (P:=P) (T:=T) (E:=E) (L:=L) zs ho hx hy hT hE hz hn hm hb (f z) (fun w S j a b ha hb'=>by
  have:=ZOk.get (w:=w) (β:=⟨fun _=>none,fun b i=>¬ S b i⟩) (L:=[]) hzz j a b ha hb'
  refine(this.data_of_nil).mono fun b i hs=>⟨Classical.byContradiction fun hn=>hs.seen hn,rfl⟩) hzk
 simpa only [List.map_replicate] using h
end Go.Proofs.YtfkilljboodoaaaGreat
