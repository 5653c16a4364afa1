/-
 Calls that leave objects whose versions are not known beforehand. Models of functions that range over maps: from the model that fixes the order of each range to the one that holds for every order. Functions that are ranged over: their contract,and how it is shown: a walk in which each call of yield hands the memory to the loop's body and takes it back. A range over a function,the caller's side: its rounds are walked like the rounds of any loop.
-/
import Derived.Test.YtecjdioomlhhiaaGreatSub
set_option linter.unusedVariables false
namespace Go.Proofs.YtecjdioomlhhiaaGreat
open Go.RowKit

theorem Qb.mono {P:Program} {f:FuncId} {args:List AV} {L0:Loc} {R R':AV→Loc→Prop} (h:Qb P f args L0 R) (hr:∀ u L,R u L→R' u L):Qb P f args L0 R':=fun w β vs a b c=>
 (h w β vs a b c).mono fun e w' hh=>by
  obtain⟨v,r,β',L',h1,h2,h3,h4,h5⟩:=hh
  exact⟨v,r,β',L',h1,h2,h3,h4,hr _ _ h5⟩
theorem Pure.monoP {P:Program} {f:FuncId} {args:List AV} {R R':AV→Prop} (h:Pure P f args R) (hr:∀ u,R u→R' u):Pure P f args R':=Qb.mono h (fun u L hh=>⟨hh.1,hr u hh.2⟩)
def R40:Loc→List Nat→Bool
 | [],_=>true
 | (i,_)::r,B=>B.any (Nat.beq i)&&R40 r B
theorem Ga6 {B:List Nat}:∀ {L0:Loc},R40 L0 B=true→∀ id,(lk L0 id).isSome=true→id∈B
 | [],_,id,h=>by simp [lk] at h
 | (i,o)::r,hb,id,h=>by
  simp only [R40,Bool.and_eq_true,List.any_eq_true] at hb
  rw [Gr] at h
  by_cases e:i=id
  ·obtain⟨x,hx,hxi⟩:=hb.1
   rw [← e,Nat.eq_of_beq_eq_true hxi]; exact hx
  ·rw [if_neg e] at h; exact Ga6 hb.2 id h

theorem Zg {P:Program} {N:Cfg} {c:Code} {Q:Post} {l:Fr} {L:Loc} (s:Nat) {i ver k n E:Nat} {xs:List AV} (h1:look l s=.vec i ver k n) (hi:lk L i=some (.vec E k ver xs)) (h:n=xs.length→JC P N c Q l L):JC P N c Q l L:=fun n w0 β0 L0 a w β hs=>
 h (by
  have hv:=hs.frame.tmp s
  rw [h1] at hv
  exact(Gb8 hs.sat hi hv).1) n w0 β0 L0 a w β hs
section calls
variable {P:Program} {o:Oper} {l:Fr} {L:Loc} {γ:Type}
theorem Q08 {f:FuncId} {vs:Array Value} {args:List AV} {L0:Loc} {u:γ→AV} {Lr:γ→Loc} {a:Act} {w:World} {β:H5} {K:Act→World→Prop} {Q:Exit→Act→World→Prop} (hc:Qb P f args L0 (fun r L'=>∃ p,r=u p∧L'=Lr p)) (hsat:Sat w β L)
  (hsub:Q2d L L0) (hcl:closedIn (inL L0) L0=true) (hnew:∀ p,H32 L L0 (Lr p)=true) (hl:vs.size=args.length)
  (hv:∀ (j:Nat) u v,args[j]? = some u→vs[j]? = some v→V w β L u v∧u.refs (inL L0)=true)
  (hK:∀ u' L' v w' β',(∃ p,u'=u p∧L'=Lr p++Hc1 L L0)→Sat w' β' L'→Step w β L w' β' L'→V w' β' L' u' v→K (a.put o.dst v) w') :
  Calls P f vs w fun
   | .returned v,w''=>K (a.put o.dst v) w''
   | .panicked chain,w''=>Q (.panic chain) a w''
   | .outgrown,_=>LetsOut Q:=by
 refine(Q00 hc hsat (fun id ob h=>hsub.get h) (fun id ob h=>closedIn.get hcl h) hl hv (fun r L' hR id h=>by obtain⟨p,_,rfl⟩:=hR; exact H32.get (hnew p) h)).mono fun e w' h=>?_
 obtain⟨v,r,β',L',rfl,⟨p,rfl,rfl⟩,h1,h2,h3⟩:=h
 exact hK _ _ v w' _ ⟨p,rfl,rfl⟩ h1 h2 h3

theorem Ge2 {f:FuncId} {xs:List Operand} {args:List AV} {ts:Array TypeId} {L0:Loc} {u:γ→AV} {Lr:γ→Loc} (ho:o.op=.call { callee:=.value (.func f),args:=xs.toArray,argTypes:=ts }) (hc:Qb P f args L0 (fun r L'=>∃ p,r=u p∧L'=Lr p)) (hB:H7 P f=true) (ha:Hf1 l L0 xs args)
  (hsub:Q2d L L0) (hcl:closedIn (inL L0) L0=true) (hnew:∀ p,H32 L L0 (Lr p)=true):H1 P o l L (fun u' L''=>∃ p,u'=u p∧L''=Lr p++Hc1 L L0):=by
 intro a w β K Q hsat hf hK
 have hr:(execOp a.eval o).run P w=.ok (.enter f (xs.toArray.map a.eval)) w:=by
  simp [execOp,ho,resolve,Act.eval,Deferred.ofValue,invoke,H7.out hB]
 unfold Oper.wp
 rw [hr]
 refine Q08 hc hsat hsub hcl hnew (by simp [ha.length]) (fun j u v hu hv=>?_) hK
 simp only [Array.getElem?_map,List.getElem?_toArray,Option.map_eq_some_iff] at hv
 obtain⟨x,hx,rfl⟩:=hv
 obtain⟨h1,h2⟩:=ha.get hx hu
 refine⟨?_,h2⟩
 rcases h1 with h1 | h1
 ·rw [← h1]; exact hf.ev x
 ·rw [← h1]; exact(hf.ev x).plain

end calls
end Go.Proofs.YtecjdioomlhhiaaGreat
namespace Go.Proofs.YtecjdioomlhhiaaGreat
open Go.RowKit

section rel
variable {α β σ R:Type} {r:R}
def Rel (r:R) (m:Option Prop) (d:Option R):Prop:=d=some r→∃ p:Prop,m=some p∧p
theorem H83 {e:R}:Rel r (some (e=r)) (some e):=fun h=>⟨_,rfl,Option.some.inj h⟩
theorem Hda {m:Option Prop}:Rel r m none:=fun h=>by cases h
theorem H1a {m:Option α} {k:α→Option Prop} {k':α→Option R} (h:∀ x,Rel r (k x) (k' x)):Rel r (bnd m k) (bnd m k'):=by
 cases m with
 | none=>exact Hda
 | some x=>exact h x
theorem Gfa {c:Bool} {x y:Option Prop} {x' y':Option R} (h1:c=true→Rel r x x') (h2:c=false→Rel r y y'):Rel r (bif c then x else y) (bif c then x' else y'):=by
 cases c with
 | true=>exact h1 rfl
 | false=>exact h2 rfl
theorem R5a {z:Int} {k:Int→Option Prop} {k':Int→Option R} (h:∀ x,Rel r (k x) (k' x)):Rel r (chk z k) (chk z k'):=by
 unfold chk; exact Gfa (fun _=>h z) (fun _=>Hda)
theorem Y2c {m:(α→Option Prop)→Option Prop} {m':(α→Option R)→Option R} {k:α→Option Prop} {k':α→Option R} (h:∀ K K',(∀ a,Rel r (K a) (K' a))→Rel r (m K) (m' K')) (hk:∀ a,Rel r (k a) (k' a)):Rel r (jp m k) (jp m' k'):=h k k' hk
theorem Hdb {b:α→Nat→σ→(σ→Option Prop)→Option Prop} {b':α→Nat→σ→(σ→Option R)→Option R} {kx:σ→Option Prop} {kx':σ→Option R}
  (h:∀ x i s nx nx',(∀ s,Rel r (nx s) (nx' s))→Rel r (b x i s nx) (b' x i s nx')) (hk:∀ s,Rel r (kx s) (kx' s)):∀ {xs:List α} {i:Nat} {s:σ},Rel r (each b kx xs i s) (each b' kx' xs i s)
 | [],_,s=>hk s
 | x::_,i,s=>h x i s _ _ (fun _=>Hdb h hk)
theorem J44 {c:α→Bool} {e e':β}:∀ (l:List α) (s:Unit),J45 (fun x (_:Unit) nx=>bif c x then lft (some e) else nx ()) (fun _=>some e') l s=some (bif l.any c then e else e')
 | [],_=>rfl
 | x::l,s=>by
  rw [J45]
  cases hc:c x with
  | true=>simp [lft,hc]
  | false=>simp [hc,J44 l]
theorem Rf6 {c:α→Bool} {e e':R} {l:List α}:Rel r (Q61 (fun x (_:Unit) nx=>bif c x then lft (some (e=r)) else nx ()) (fun _=>some (e'=r)) l ()) (J45 (fun x (_:Unit) nx=>bif c x then lft (some e) else nx ()) (fun _=>some e') l ()):=fun h=>by
 refine⟨_,rfl,fun q hq=>?_⟩
 rw [J44] at h
 refine⟨_,J44 q (),?_⟩
 have hany:q.any c=l.any c:=by
  rw [Bool.eq_iff_iff,List.any_eq_true,List.any_eq_true]
  exact⟨fun⟨x,h1,h2⟩=>⟨x,hq.mem_iff.1 h1,h2⟩,fun⟨x,h1,h2⟩=>⟨x,hq.mem_iff.2 h1,h2⟩⟩
 rw [hany]
 have:=Option.some.inj h
 cases hc:l.any c <;> rw [hc] at this <;> exact this
end rel
end Go.Proofs.YtecjdioomlhhiaaGreat
set_option linter.unusedVariables false
set_option linter.unusedSimpArgs false
namespace Go.Proofs.YtecjdioomlhhiaaGreat
open Go.RowKit

structure He7 (X:Nat→Prop) (W W':World):Prop where
 os:W'.os=W.os
 tape:W'.tape=W.tape
 output:W'.output=W.output∧W.drawn≤W'.drawn
 size:W.heap.size≤W'.heap.size
 keep:∀ b,b < W.heap.size→¬ X b→W'.heap[b]? = W.heap[b]?

structure J06 where
 W0:World
 S:Nat→Nat→Prop
 lp:Nat
 J:Nat→(Nat→Prop)→(Nat→Nat→Prop)→World→Prop
 ys:List (List AV)
def J06.After (E:J06) (k:Nat) (X:Nat→Prop) (T:Nat→Nat→Prop) (W:World) (e:Ending) (W':World):Prop:=
 e=.returned (.bool true)∧∃ X':Nat→Prop,E.J (k+1) X' T W'∧He7 X W W'∧(∀ b,b < W.heap.size→(X' b ↔ X b))∧∀ b,X' b→b < W'.heap.size
structure J06.Ok (E:J06) (P:Program):Prop where
 abide:∀ k X T W W',E.J k X T W→He7 (fun b=>E.W0.heap.size≤b∧¬ X b) W W'→(∀ b i,T b i→W'.cell? ⟨b,i,none⟩=W.cell? ⟨b,i,none⟩)→E.J k X T W'
 round:∀ (m k:Nat) us X T (T':Nat→Nat→Prop) W (vs:Array Value),E.ys[k]? = some us→E.J k X T W→(∀ b i,T b i→T' b i)→(∀ b i,T' b i→¬ T b i→E.W0.heap.size≤b∧¬ X b∧b < W.heap.size)→vs.size=us.length →
  (∀ (j:Nat) u v,us[j]? = some u→vs[j]? = some v→D W (fun b i=>E.S b i∨T' b i) u v)→YieldAt Fence.wide m P E.lp vs W (E.After k X T' W)

structure StI (E:J06) (N:Cfg) (a:Act) (w:World) (β:H5) (l:Fr) (L:Loc) (k:Nat):Prop where
 sat:Sat w β L
 frame:Q3 a w β L l
 size:N.n≤a.tmps.size
 defers:a.defers=[]
 old:E.W0.heap.size≤w.heap.size
 own:∀ id b,(lk L id).isSome=true→β id=some b→E.W0.heap.size≤b
 gh:∃ X T,E.J k X T w∧(∀ b,X b→b < w.heap.size∧∀ i,β.hid b i)∧∀ b i,T b i→Jy w β L b i
 vis:∀ b i,b < E.W0.heap.size→¬ β.hid b i→E.S b i

structure H3f where
 norm:Fr→Loc→Nat→Prop
 ret:Fr→Loc→Nat→Prop
 exit:Nat→Fr→Loc→Nat→Prop
def H3f.seq (Q:H3f) (K:Fr→Loc→Nat→Prop):H3f:=⟨K,Q.ret,Q.exit⟩
def H3f.blk (Q:H3f) (i:Nat):H3f:=⟨Q.norm,Q.ret,fun j l L k=>bif Nat.beq j i then Q.norm l L k else Q.exit j l L k⟩
def H3f.out (Q:H3f) (E:J06) (N:Cfg):Exit→Act→World→Prop
 | .normal,a,w=>∃ β l L k,StI E N a w β l L k∧Q.norm l L k
 | .ret,a,w=>∃ β l L k,StI E N a w β l L k∧Q.ret l L k
 | .exit i,a,w=>∃ β l L k,StI E N a w β l L k∧Q.exit i l L k
 | _,_,_=>False
theorem StI.step {E:J06} {P:Program} {N:Cfg} {a a':Act} {w w':World} {β β':H5} {l l':Fr} {L L':Loc} {k:Nat} (hE:E.Ok P) (h:StI E N a w β l L k) (hst:Step w β L w' β' L') (hsat:Sat w' β' L') (hf:Q3 a' w' β' L' l') (hsz:a'.tmps.size=a.tmps.size) (hd:a'.defers=a.defers):StI E N a' w' β' l' L' k:=by
 have old':=h.old
 refine⟨hsat,hf,by rw [hsz]; exact h.size,by rw [hd]; exact h.defers,Nat.le_trans h.old hst.size,fun id b h1 h2=>?_,?_,fun b i hb hn=>h.vis b i hb fun hh=>hn ((hst.hid b i (Nat.lt_of_lt_of_le hb h.old)).2 hh)⟩
 ·rcases Nat.lt_or_ge b w.heap.size with hb | hb
  ·refine Classical.byContradiction fun hn=>?_
   have:∀ id0,(lk L id0).isSome=true→β id0≠some b:=fun id0 h3 h4=>hn (h.own id0 b h3 h4)
   exact(hst.far b hb this).2 id h1 h2
  ·omega
 ·obtain⟨X,T,hJ,hX,hT⟩:=h.gh
  refine⟨X,T,hE.abide k X T w w' hJ ⟨hst.os,hst.tape,hst.output,hst.size,fun b hb hn=>(hst.far b hb fun id h1 h2=>?_).1⟩ (fun b i h=>(hst.stab b i (hT b i h)).2),fun b hb=>⟨Nat.lt_of_lt_of_le (hX b hb).1 hst.size,fun i=>(hst.hid b i (hX b hb).1).2 ((hX b hb).2 i)⟩,fun b i h=>(hst.stab b i (hT b i h)).1⟩
  exact hn ⟨h.own id b h1 h2,fun hx=>h.sat.apart id b 0 h1 h2 ((hX b hx).2 0)⟩

theorem Sat.fits {B:List Nat} {w:World} {β:H5} {l l':Fr} {L L':Loc} (hs:Sat w β L) (h:Fits B l L l' L'):Sat w β L':=by
 have hd:=h.drop
 refine⟨hs.hid,fun id b hid hb=>hs.bnd id b (hd.some hid) hb,fun id b j hid hb=>hs.apart id b j (hd.some hid) hb,fun id id' b h1 h2=>hs.inj id id' b (hd.some h1) (hd.some h2),fun id o' ho'=>?_⟩
 obtain⟨o,ho,hc⟩:=h.loc.get ho'
 have h0:=hs.obj id o ho
 cases hc with
 | same=>exact h0
 | map=>
  obtain⟨b,h1,ents,h2,h3,h4⟩:=h0
  exact⟨b,h1,ents,h2,h3,fun i e k u he hu=>⟨(h4 i e k u he hu).1,(h4 i e k u he hu).2.1.mono fun b i hs=>⟨hd.stab hs,rfl⟩,(h4 i e k u he hu).2.2⟩⟩
 | vec=>
  obtain⟨h00,h0⟩:=h0
  refine⟨h00,?_⟩
  rcases h0 with h0 | ⟨b,h1,vs,h2,h3,h4⟩
  ·exact .inl h0
  ·exact .inr ⟨b,h1,vs,h2,h3,fun j u v hu hv=>(h4 j u v hu hv).mono fun b i hs=>⟨hd.stab hs,rfl⟩⟩
 | iter hm=>
  obtain⟨b,h1,bm,t,es,h2,h3,h4⟩:=h0
  obtain⟨o',ho'⟩:=Option.isSome_iff_exists.1 hm
  obtain⟨o2,ho2,hl⟩:=hd.like _ o' ho'
  rw [h2] at ho2; cases ho2
  cases o' <;> simp [Jg.like] at hl
  subst hl
  exact⟨b,h1,bm,_,_,ho',h3,h4⟩
 | box hl hc=>
  obtain⟨b,h1,vs,h2,h3,h4⟩:=h0
  refine⟨b,h1,vs,h2,h3.trans hl,fun j u' v hu' hv=>?_⟩
  rename_i cs cs'
  have hj:j < cs.length:=by
   rcases Nat.lt_or_ge j cs'.length with h | h
   ·omega
   ·simp [List.getElem?_eq_none h] at hu'
  exact(h4 j cs[j] v (by simp [hj]) hv).conv hd (hc j _ _ (by simp [hj]) hu')
theorem StI.fits {E:J06} {N:Cfg} {a:Act} {w:World} {β:H5} {l l':Fr} {L L':Loc} {k:Nat} (h:StI E N a w β l L k) (hfit:Fits N.base l L l' L'):StI E N a w β l' L' k:=
 ⟨h.sat.fits hfit,⟨fun t=>(h.frame.tmp t).conv hfit.drop (hfit.fr.get t)⟩,h.size,h.defers,h.old,fun id b h1 h2=>h.own id b (hfit.drop.some h1) h2,(by obtain⟨X,T,h1,h2,h3⟩:=h.gh; exact⟨X,T,h1,h2,fun b i h=>hfit.drop.stab (h3 b i h)⟩),h.vis⟩

section code
variable {E:J06} {P:Program} {N:Cfg} {Q:H3f} {l:Fr} {L:Loc} {k:Nat}

end code

section ops
variable {E:J06} {P:Program} {N:Cfg} {Q:H3f} {l:Fr} {L L':Loc} {k:Nat} {ops:Array Oper} {o:Oper} {rest:List Oper} {u:AV}

theorem StI.round {L:Loc} {w w':World} {β:H5} {X X':Nat→Prop} {T:Nat→Nat→Prop} (hsat:Sat w β L) (hX:∀ b,X b→b < w.heap.size∧∀ i,¬ T b i→β.hid b i) (notX:∀ id b,(lk L id).isSome=true→β id=some b→¬ X b) (ht:He7 X w w')
  (hT:∀ b i,T b i→X b→w'.cell? ⟨b,i,none⟩=w.cell? ⟨b,i,none⟩) (hX':∀ b,b < w.heap.size→(X' b ↔ X b)) (hlt:∀ b,X' b→b < w'.heap.size) :
  let β':H5:=⟨β.at_,fun b i=>β.hid b i∨(w.heap.size≤b∧b < w'.heap.size)⟩
  Sat w' β' L∧H8c w β L w' β' L∧∀ b,X' b→b < w'.heap.size∧∀ i,¬ T b i→β'.hid b i:=by
 intro β'
 have same:∀ id b,(lk L id).isSome=true→β id=some b→w'.heap[b]? = w.heap[b]? := fun id b h1 h2=>ht.keep b (hsat.bnd id b h1 h2) (notX id b h1 h2)
 have stab:∀ b i,Jy w β L b i→Jy w' β' L b i:=fun b i hs=>⟨Nat.lt_of_lt_of_le hs.lt ht.size,fun h=>h.elim hs.seen (fun h=>by have:=hs.lt; omega),hs.kept⟩
 have cell:∀ b i,Jy w β L b i→w'.cell? ⟨b,i,none⟩=w.cell? ⟨b,i,none⟩:=fun b i hs=>by
  by_cases hx:X b
  ·by_cases h:T b i
   ·exact hT b i h hx
   ·exact(hs.seen ((hX b hx).2 i h)).elim
  ·exact World.cell?_of_block (w:=w) (ht.keep b hs.lt hx)
 have stw:H8c w β L w' β' L:=⟨fun b i hs=>⟨stab b i hs,cell b i hs⟩,fun _ _ cs h=>⟨rfl,cs,h⟩,fun _ _ es h=>⟨rfl,es,h⟩,fun _ _ n es h=>⟨rfl,n,es,h⟩,
  fun id _ _ ver xs h=>⟨ver,xs,h,Nat.le_refl _,fun _=>⟨rfl,rfl,fun b hb=>G40 (same id b (by rw [h]; rfl) hb)⟩⟩,
  fun id _ _ ver hw h=>⟨ver,hw,h,Nat.le_refl _,fun _=>⟨rfl,rfl,fun b hb=>same id b (by rw [h]; rfl) hb⟩⟩⟩
 refine⟨⟨fun b i h=>h.elim (fun h=>Nat.lt_of_lt_of_le (hsat.hid b i h) ht.size) (fun h=>h.2),fun id b h1 h2=>Nat.lt_of_lt_of_le (hsat.bnd id b h1 h2) ht.size,fun id b j h1 h2 h=>h.elim (hsat.apart id b j h1 h2) (fun h=>by have:=hsat.bnd id b h1 h2; omega),hsat.inj,
  fun id o ho=>(hsat.obj id o ho).stepW stw (fun b hb=>same id b (by rw [ho]; rfl) hb)⟩,stw,fun b hb=>⟨hlt b hb,fun i hn=>?_⟩⟩
 rcases Nat.lt_or_ge b w.heap.size with h | h
 ·exact .inl ((hX b ((hX' b h).1 hb)).2 i hn)
 ·exact .inr ⟨h,hlt b hb⟩

def J9f (l:Fr):List Operand→List AV→Prop
 | [],[]=>True
 | x::r,u::s=>ev l x=u∧u.isData=true∧J9f l r s
 | _,_=>False
theorem J9f.length {l:Fr}:∀ {xs:List Operand} {us:List AV},J9f l xs us→xs.length=us.length
 | [],[],_=>rfl
 | _::_,_::_,h=>by simp [J9f.length h.2.2]
 | [],_::_,h=>h.elim
 | _::_,[],h=>h.elim
theorem J9f.get {l:Fr}:∀ {xs:List Operand} {us:List AV},J9f l xs us→∀ {j:Nat} {x:Operand} {u:AV},xs[j]? = some x→us[j]? = some u→ev l x=u∧u.isData=true
 | _::_,_::_,h,0,x,u,hx,hu=>by simp at hx hu; subst hx; subst hu; exact⟨h.1,h.2.1⟩
 | _::_,_::_,h,j+1,x,u,hx,hu=>J9f.get h.2.2 (by simpa using hx) (by simpa using hu)
 | [],[],_,j,x,u,hx,_=>by simp at hx
 | [],_::_,h,_,_,_,_,_=>h.elim
 | _::_,[],h,_,_,_,_,_=>h.elim

end ops

section code
variable {E:J06} {P:Program} {N:Cfg} {Q:H3f} {l:Fr} {L:Loc} {k:Nat}
end code
end Go.Proofs.YtecjdioomlhhiaaGreat
namespace Go.Proofs.YtecjdioomlhhiaaGreat
open Go.RowKit

def Jaf:List Tmp→List AV→Fr→Fr
 | p::ps,u::us,l=>Jaf ps us ((p,u)::l)
 | _,_,l=>l
theorem Q3.round {w:World} {β:H5} {L:Loc}:∀ {ps:List Tmp} {us:List AV} {vs:List Value} {tmps:Array Value} {l:Fr},ps.length=us.length→vs.length=us.length→(∀ p∈ps,p < tmps.size)→Q3 { tmps:=tmps,defers:=[] } w β L l →
  (∀ (j:Nat) u v,us[j]? = some u→vs[j]? = some v→V w β L u v)→Q3 { tmps:=(ps.zip vs).foldl (fun t (x:Tmp×Value)=>t.setIfInBounds x.1 x.2) tmps,defers:=[] } w β L (Jaf ps us l)
 | [],[],[],_,_,_,_,_,h,_=>h
 | p::ps,u::us,v::vs,tmps,l,h1,h2,h3,h,hv=>by
  have hp:=h.put (d:=p) (u:=u) (v:=v) (h3 p (List.mem_cons_self ..)) (hv 0 u v rfl rfl)
  exact Q3.round (ps:=ps) (us:=us) (vs:=vs) (by simpa using h1) (by simpa using h2) (fun q hq=>by simpa using h3 q (List.mem_cons_of_mem _ hq)) hp (fun j u' v' hu hv'=>hv (j+1) u' v' (by simpa using hu) (by simpa using hv'))
 | [],_::_,_,_,_,h,_,_,_,_=>by simp at h
 | _::_,[],_,_,_,h,_,_,_,_=>by simp at h
 | _,[],_::_,_,_,_,h,_,_,_=>by simp at h
 | _,_::_,[],_,_,_,h,_,_,_=>by simp at h
theorem Step.thenW {w0 W W':World} {β0 β β':H5} {L0 L L':Loc} (h:Step w0 β0 L0 W β L) (k:H8c W β L W' β' L') (h1:W'.os=W.os) (h2:W'.tape=W.tape) (h3:W'.output=W.output∧W.drawn≤W'.drawn) (h4:W.heap.size≤W'.heap.size)
  (hid:∀ b i,b < w0.heap.size→(β'.hid b i ↔ β.hid b i)) (far:∀ b,b < w0.heap.size→(∀ id,(lk L id).isSome=true→β id≠some b)→W'.heap[b]? = W.heap[b]? ∧ ∀ id,(lk L' id).isSome=true→β' id≠some b):Step w0 β0 L0 W' β' L' where
 os:=h1.trans h.os
 tape:=h2.trans h.tape
 output:=⟨h3.1.trans h.output.1,Nat.le_trans h.output.2 h3.2⟩
 size:=Nat.le_trans h.size h4
 hid:=fun b i hb=>(hid b i hb).trans (h.hid b i hb)
 stab:=fun b i hs=>by
  obtain⟨a1,a2⟩:=h.stab b i hs
  obtain⟨k1,k2⟩:=k.stab b i a1
  exact⟨k1,k2.trans a2⟩
 far:=fun b hb hf=>by
  obtain⟨a1,a2⟩:=h.far b hb hf
  obtain⟨k1,k2⟩:=far b hb a2
  exact⟨k1.trans a1,k2⟩
 box:=fun id t cs hi=>by
  obtain⟨h1,cs',h2⟩:=h.box id t cs hi
  obtain⟨k1,k2⟩:=k.box id t cs' h2
  exact⟨k1.trans h1,k2⟩
 map:=fun id t es hi=>by
  obtain⟨h1,es',h2⟩:=h.map id t es hi
  obtain⟨k1,k2⟩:=k.map id t es' h2
  exact⟨k1.trans h1,k2⟩
 iter:=fun id m n es hi=>by
  obtain⟨h1,n',es',h2⟩:=h.iter id m n es hi
  obtain⟨k1,k2⟩:=k.iter id m n' es' h2
  exact⟨k1.trans h1,k2⟩
 vec:=fun id t kk ver xs hi=>by
  obtain⟨v1,xs1,h1,h2,h3⟩:=h.vec id t kk ver xs hi
  obtain⟨v2,xs2,k1,k2,k3⟩:=k.vec id t kk v1 xs1 h1
  refine⟨v2,xs2,k1,Nat.le_trans h2 k2,fun e=>?_⟩
  obtain⟨a1,a2,a3⟩:=h3 (by omega)
  obtain⟨b1,b2,b3⟩:=k3 (by omega)
  exact⟨b1.trans a1,b2.trans a2,fun b hb=>(b3 b (a2.trans hb)).trans (a3 b hb)⟩
 spare:=fun id t kk ver hw hi=>by
  obtain⟨v1,hw1,h1,h2,h3⟩:=h.spare id t kk ver hw hi
  obtain⟨v2,hw2,k1,k2,k3⟩:=k.spare id t kk v1 hw1 h1
  refine⟨v2,hw2,k1,Nat.le_trans h2 k2,fun e=>?_⟩
  obtain⟨a1,a2,a3⟩:=h3 (by omega)
  obtain⟨b1,b2,b3⟩:=k3 (by omega)
  exact⟨b1.trans a1,b2.trans a2,fun b hb=>(b3 b (a2.trans hb)).trans (a3 b hb)⟩

theorem Step.drop {w0 w:World} {β0 β:H5} {L0 L L':Loc} {N:Cfg} {a:Act} {l l':Fr} (h:Step w0 β0 L0 w β L) (hsat:Sat w β L) (hbase:∀ id,(lk L0 id).isSome=true→id∈N.base) (hf:Fits N.base l L l' L') (ha:N.n≤a.tmps.size) (hd:a.defers=[]) (hfr:Q3 a w β L l):Step w0 β0 L0 w β L':=
 (Yt.fits (N:=N) (a:=a) ⟨hsat,h,hfr,ha,hbase,by rw [hd]; exact .nil⟩ hf).step

structure Between (P:Program) (N:Cfg) (w0:World) (β0:H5) (L0:Loc) (tmps:Array Value) (ds:List Deferred) (l1:Fr) (S:Nat→Nat→Prop) (n0 lp D:Nat) (rec:Loop) (L:Loc) (X:Nat→Prop) (T:Nat→Nat→Prop) (W:World) (β:H5):Prop where
 sat:Sat W β L
 step:Step w0 β0 L0 W β L
 frame:Q3 { tmps:=tmps,defers:=[] } W β L l1
 obj:∀ id b,(lk L id).isSome=true→β id=some b→X b∧b≠lp∧b≠D
 hid:∀ b,n0≤b→b < W.heap.size→¬ X b→∀ i,¬ T b i→β.hid b i
 lt:∀ b,X b→b < W.heap.size
 loop:W.heap[lp]? = some (.loop rec)
 mark:W.heap[D]? = some (.deferred (some []))
 old:n0≤W.heap.size
 data:∀ b i,S b i→Jy W β L b i
 tdata:∀ b i,T b i→n0≤b∧Jy W β L b i
 defs:H98 none w0.heap.size W β L ds
 deflt:∀ d∈ds,∀ D',d={ target:=.collected D',args:=#[] }→D' < n0
theorem H98.turned {ro:Option Nat} {B n0:Nat} {w w':World} {β β':H5} {L:Loc} {ds:List Deferred} (h:H98 ro B w β L ds) (hlt:∀ d∈ds,∀ D',d={ target:=.collected D',args:=#[] }→D' < n0) (hk:∀ D,D < n0→w.heap[D]? = some (.deferred (some []))→w'.heap[D]? = w.heap[D]?) (hb:∀ id,β' id=β id):H98 ro B w' β' L ds:=
 ⟨h.top,h.nodup,fun d hd=>by
  obtain⟨D,e,h1,h2,h3⟩:=h.each d hd
  exact⟨D,e,h1,(hk D (hlt d hd D e) h2).trans h2,fun id hi he=>h3 id hi ((hb id).symm.trans he)⟩⟩

theorem Between.more {P:Program} {N:Cfg} {w0:World} {β0:H5} {L0:Loc} {tmps:Array Value} {ds:List Deferred} {l1:Fr} {S:Nat→Nat→Prop} {n0 lp D:Nat} {rec:Loop} {L:Loc} {X:Nat→Prop} {T T':Nat→Nat→Prop} {W:World} {β:H5}
  (h:Between P N w0 β0 L0 tmps ds l1 S n0 lp D rec L X T W β) (h1:∀ b i,T b i→T' b i) (h2:∀ b i,T' b i→¬ T b i→n0≤b∧¬ X b∧b < W.heap.size) (h0:w0.heap.size≤n0) :
  Between P N w0 β0 L0 tmps ds l1 S n0 lp D rec L X T' W ⟨β.at_,fun b i=>β.hid b i∧¬ T' b i⟩:=by
 have told:∀ b i,T' b i→n0≤b:=fun b i h'=>by
  by_cases ht:T b i
  ·exact(h.tdata b i ht).1
  ·exact(h2 b i h' ht).1
 have stab:∀ b i,Jy W β L b i→Jy W ⟨β.at_,fun b i=>β.hid b i∧¬ T' b i⟩ L b i:=fun b i hs=>⟨hs.lt,fun hh=>hs.seen hh.1,hs.kept⟩
 have stw:H8c W β L W ⟨β.at_,fun b i=>β.hid b i∧¬ T' b i⟩ L:=⟨fun b i hs=>⟨stab b i hs,rfl⟩,fun _ _ cs h=>⟨rfl,cs,h⟩,fun _ _ es h=>⟨rfl,es,h⟩,fun _ _ n es h=>⟨rfl,n,es,h⟩,
  fun id _ _ ver xs h=>⟨ver,xs,h,Nat.le_refl _,fun _=>⟨rfl,rfl,fun b hb=>rfl⟩⟩,fun id _ _ ver hw h=>⟨ver,hw,h,Nat.le_refl _,fun _=>⟨rfl,rfl,fun b hb=>rfl⟩⟩⟩
 refine⟨⟨fun b i hh=>h.sat.hid b i hh.1,h.sat.bnd,fun id b j h1 h2 hh=>h.sat.apart id b j h1 h2 hh.1,h.sat.inj,fun id o ho=>(h.sat.obj id o ho).stepW stw (fun b hb=>rfl)⟩,
  h.step.thenW stw rfl rfl ⟨rfl,Nat.le_refl _⟩ (Nat.le_refl _) (fun b i hlt=>⟨fun hh=>hh.1,fun hh=>⟨hh,fun ht=>by have:=told b i ht; omega⟩⟩) (fun b hlt hf=>⟨rfl,hf⟩),⟨fun t=>(h.frame.tmp t).stepW stw⟩,h.obj,
  fun b g1 g2 g3 i g4=>⟨h.hid b g1 g2 g3 i (fun ht=>g4 (h1 b i ht)),g4⟩,h.lt,h.loop,h.mark,h.old,fun b i hs=>stab b i (h.data b i hs),fun b i ht'=>⟨told b i ht',?_⟩,h.defs.turned h.deflt (fun _ _ _=>rfl) (fun _=>rfl),h.deflt⟩
 by_cases ht:T b i
 ·exact stab b i (h.tdata b i ht).2
 ·obtain⟨g1,g2,g3⟩:=h2 b i ht' ht
  exact⟨g3,fun hh=>hh.2 ht',fun id o ho hb=>(g2 (h.obj id b (by rw [ho]; rfl) hb).1).elim⟩

end Go.Proofs.YtecjdioomlhhiaaGreat
