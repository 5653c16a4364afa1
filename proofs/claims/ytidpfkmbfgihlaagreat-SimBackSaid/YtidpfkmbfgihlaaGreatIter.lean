/-
 Functions that are ranged over: their contract,and how it is shown: a walk in which each call of yield hands the memory to the loop's body and takes it back.
-/
import Derived.Test.YtidpfkmbfgihlaaGreatRel
set_option linter.unusedVariables false
set_option linter.unusedSimpArgs false
namespace Go.Proofs.YtidpfkmbfgihlaaGreat
open Go.RowKit

structure Y9d (X:Nat→Prop) (W W':World):Prop where
 os:W'.os=W.os
 tape:W'.tape=W.tape
 output:W'.output=W.output∧W.drawn≤W'.drawn
 size:W.heap.size≤W'.heap.size
 keep:∀ b,b < W.heap.size→¬ X b→W'.heap[b]? = W.heap[b]?

structure H8e (κ:Type) where
 W0:World
 S:Nat→Nat→Prop
 lp:Nat
 J:κ→(Nat→Prop)→(Nat→Nat→Prop)→World→Prop
 nx:κ→List AV→κ→Prop
def H8e.After {κ:Type} (E:H8e κ) (k':κ) (X:Nat→Prop) (T:Nat→Nat→Prop) (W:World) (e:Ending) (W':World):Prop:=
 e=.returned (.bool true)∧∃ X':Nat→Prop,E.J k' X' T W'∧Y9d X W W'∧(∀ b,b < W.heap.size→(X' b ↔ X b))∧∀ b,X' b→b < W'.heap.size
structure H8e.Ok {κ:Type} (E:H8e κ) (P:Program):Prop where
 abide:∀ k X T W W',E.J k X T W→Y9d (fun b=>E.W0.heap.size≤b∧¬ X b) W W'→(∀ b i,T b i→G35 W' b i=G35 W b i)→E.J k X T W'
 round:∀ (m:Nat) (k k':κ) us X T (T':Nat→Nat→Prop) W (vs:Array Value),E.nx k us k'→E.J k X T W→(∀ b i,T b i→T' b i)→(∀ b i,T' b i→¬ T b i→E.W0.heap.size≤b∧¬ X b∧b < W.heap.size)→vs.size=us.length →
  (∀ (j:Nat) u v,us[j]? = some u→vs[j]? = some v→D W (fun b i=>E.S b i∨T' b i) u v)→YieldAt Fence.wide m P E.lp vs W (E.After k' X T' W)

def Gb8 (P:Program) (g:FuncId) (caps:List AV) {κ:Type} (k0:κ) (nx:κ→List AV→κ→Prop) (fin:κ→Prop):Prop:=
 ∀ (n:Nat) (E:H8e κ) (lb:Array Value) (X0:Nat→Prop),E.Ok P→E.nx=nx→lb.size=caps.length→(∀ (j:Nat) u v,caps[j]? = some u→lb[j]? = some v→D E.W0 E.S u v)→(∀ b i,E.S b i→b < E.W0.heap.size∧¬ X0 b)→(∀ b,X0 b→b < E.W0.heap.size) →
  E.J k0 X0 (fun _ _=>False) E.W0→CallsIn Fence.wide n P g (#[.func (.yield E.lp) #[] #[]]++lb) E.W0 fun e W'=>(∃ v,e=.returned v)∧∃ k X T,fin k∧E.J k X T W'
def Y28 (ys:List (List AV)):Nat→List AV→Nat→Prop:=fun k us k'=>ys[k]? = some us∧k'=k+1
def Iter (P:Program) (g:FuncId) (caps:List AV) (ys:List (List AV)):Prop:=Gb8 P g caps 0 (Y28 ys) (fun k=>k=ys.length)

structure StI {κ:Type} (E:H8e κ) (N:Cfg) (a:Act) (w:World) (β:H4) (l:Fr) (L:Loc) (k:κ):Prop where
 sat:Sat w β L
 frame:Q8 a w β L l
 size:N.n≤a.tmps.size
 defers:a.defers=[]
 old:E.W0.heap.size≤w.heap.size
 own:∀ id b,(lk L id).isSome=true→β id=some b→E.W0.heap.size≤b
 gh:∃ X T,E.J k X T w∧(∀ b,X b→b < w.heap.size∧∀ i,β.hid b i)∧∀ b i,T b i→Jt w β L b i
 vis:∀ b i,b < E.W0.heap.size→¬ β.hid b i→E.S b i

structure H00 (κ:Type) where
 norm:Fr→Loc→κ→Prop
 ret:Fr→Loc→κ→Prop
 exit:Nat→Fr→Loc→κ→Prop
def H00.seq {κ:Type} (Q:H00 κ) (K:Fr→Loc→κ→Prop):H00 κ:=⟨K,Q.ret,Q.exit⟩
def H00.blk {κ:Type} (Q:H00 κ) (i:Nat):H00 κ:=⟨Q.norm,Q.ret,fun j l L k=>bif Nat.beq j i then Q.norm l L k else Q.exit j l L k⟩
def H00.out {κ:Type} (Q:H00 κ) (E:H8e κ) (N:Cfg):Exit→Act→World→Prop
 | .normal,a,w=>∃ β l L k,StI E N a w β l L k∧Q.norm l L k
 | .ret,a,w=>∃ β l L k,StI E N a w β l L k∧Q.ret l L k
 | .exit i,a,w=>∃ β l L k,StI E N a w β l L k∧Q.exit i l L k
 | _,_,_=>False
def JI {κ:Type} (E:H8e κ) (P:Program) (N:Cfg) (c:Code) (Q:H00 κ) (l:Fr) (L:Loc) (k:κ):Prop:=
 ∀ (n:Nat) a w β,StI E N a w β l L k→c.wpIn Fence.wide n P (Q.out E N) a w
def JIL {κ:Type} (E:H8e κ) (P:Program) (N:Cfg) (ops:Array Oper) (rest:List Oper) (Q:H00 κ) (l:Fr) (L:Loc) (k:κ):Prop:=
 ∀ (n:Nat) a w β,StI E N a w β l L k→wpListIn Fence.wide n P ops (Q.out E N) rest a w

theorem StI.step {κ:Type} {E:H8e κ} {P:Program} {N:Cfg} {a a':Act} {w w':World} {β β':H4} {l l':Fr} {L L':Loc} {k:κ} (hE:E.Ok P) (h:StI E N a w β l L k) (hst:Step w β L w' β' L') (hsat:Sat w' β' L') (hf:Q8 a' w' β' L' l') (hsz:a'.tmps.size=a.tmps.size) (hd:a'.defers=a.defers):StI E N a' w' β' l' L' k:=by
 have old':=h.old
 refine⟨hsat,hf,by rw [hsz]; exact h.size,by rw [hd]; exact h.defers,Nat.le_trans h.old hst.size,fun id b h1 h2=>?_,?_,fun b i hb hn=>h.vis b i hb fun hh=>hn ((hst.hid b i (Nat.lt_of_lt_of_le hb h.old)).2 hh)⟩
 ·rcases Nat.lt_or_ge b w.heap.size with hb | hb
  ·refine Classical.byContradiction fun hn=>?_
   have:∀ id0,(lk L id0).isSome=true→β id0≠some b:=fun id0 h3 h4=>hn (h.own id0 b h3 h4)
   exact(hst.far b hb this).2 id h1 h2
  ·omega
 ·obtain⟨X,T,hJ,hX,hT⟩:=h.gh
  refine⟨X,T,hE.abide k X T w w' hJ ⟨hst.os,hst.tape,hst.output,hst.size,fun b hb hn=>(hst.far b hb fun id h1 h2=>?_).1⟩ (fun b i h=>(hst.stab b i (hT b i h)).2),fun b hb=>⟨Nat.lt_of_lt_of_le (hX b hb).1 hst.size,fun i=>(hst.hid b i (hX b hb).1).2 ((hX b hb).2 i)⟩,fun b i h=>(hst.stab b i (hT b i h)).1⟩
  exact hn ⟨h.own id b h1 h2,fun hx=>h.sat.apart id b 0 h1 h2 ((hX b hx).2 0)⟩

theorem Sat.fits {B:List Nat} {w:World} {β:H4} {l l':Fr} {L L':Loc} (hs:Sat w β L) (h:Fits B l L l' L'):Sat w β L':=by
 have hd:=h.drop
 refine⟨hs.hid,fun id b hid hb=>hs.bnd id b (hd.some hid) hb,fun id b j hid hb=>hs.apart id b j (hd.some hid) hb,fun id id' b h1 h2=>hs.inj id id' b (hd.some h1) (hd.some h2),fun id o' ho'=>?_⟩
 obtain⟨o,ho,hc⟩:=h.loc.get ho'
 have h0:=hs.obj id o ho
 cases hc with
 | same=>exact h0
 | map=>
  obtain⟨b,h1,h2⟩:=h0
  exact⟨b,h1,h2.mono rfl fun h=>h.mono fun b i hs=>⟨hd.stab hs,rfl⟩⟩
 | vec=>
  obtain⟨h00,h0⟩:=h0
  refine⟨h00,?_⟩
  rcases h0 with h0 | ⟨b,h1,vs,h2,h3,h4⟩
  ·exact .inl h0
  ·exact .inr ⟨b,h1,vs,h2,h3,fun j u v hu hv=>(h4 j u v hu hv).mono fun b i hs=>⟨hd.stab hs,rfl⟩⟩
 | iter hm=>
  obtain⟨b,h1,bm,h2,h4⟩:=h0
  exact⟨b,h1,bm,h2.drop hd hm,h4⟩
 | box hl hc=>
  obtain⟨b,h1,vs,h2,h3,h4⟩:=h0
  refine⟨b,h1,vs,h2,h3.trans hl,fun j u' v hu' hv=>?_⟩
  rename_i cs cs'
  have hj:j < cs.length:=by
   rcases Nat.lt_or_ge j cs'.length with h | h
   ·omega
   ·simp [List.getElem?_eq_none h] at hu'
  exact(h4 j cs[j] v (by simp [hj]) hv).conv hd (hc j _ _ (by simp [hj]) hu')
theorem StI.fits {κ:Type} {E:H8e κ} {N:Cfg} {a:Act} {w:World} {β:H4} {l l':Fr} {L L':Loc} {k:κ} (h:StI E N a w β l L k) (hfit:Fits N.base l L l' L'):StI E N a w β l' L' k:=
 ⟨h.sat.fits hfit,⟨fun t=>(h.frame.tmp t).conv hfit.drop (hfit.fr.get t)⟩,h.size,h.defers,h.old,fun id b h1 h2=>h.own id b (hfit.drop.some h1) h2,(by obtain⟨X,T,h1,h2,h3⟩:=h.gh; exact⟨X,T,h1,h2,fun b i h=>hfit.drop.stab (h3 b i h)⟩),h.vis⟩

section code
variable {κ:Type} {E:H8e κ} {P:Program} {N:Cfg} {Q:H00 κ} {l:Fr} {L:Loc} {k:κ}

theorem Rh {x y:Code} (h:∀ K:Fr→Loc→κ→Prop,(∀ l L k,JI E P N y Q l L k→K l L k)→JI E P N x (Q.seq K) l L k):JI E P N (.seq x y) Q l L k:=
 fun n a w β hs=>wpIn_seq (Code.wpIn_mono (fun e a' w' q=>by
  cases e with
  | normal=>obtain⟨β',l',L',k',hs',hq⟩:=q; exact hq n a' w' β' hs'
  | exit i=>exact q
  | ret=>exact q
  | goto l=>exact q
  | panic c=>exact q
  | outgrown=>exact q) (h (fun l L k=>JI E P N y Q l L k) (fun _ _ _ h=>h) n a w β hs))
theorem Gcb (h:Q.norm l L k):JI E P N .skip Q l L k:=fun _ _ _ β hs=>wpIn_skip ⟨β,l,L,k,hs,h⟩
theorem Hf6 {i:Nat} (h:Q.exit i l L k):JI E P N (.exit i) Q l L k:=fun _ _ _ β hs=>wpIn_exit ⟨β,l,L,k,hs,h⟩
theorem J49 {c:Operand} {x y:Code} {b:Bool} (hc:ev l c=.sc (.bool b)) (ht:b=true→JI E P N x Q l L k) (hf:b=false→JI E P N y Q l L k):JI E P N (.cond c x y) Q l L k:=
 fun n a w β hs=>by
  have hv:=hs.frame.ev c
  rw [hc] at hv
  exact wpIn_cond_split hv.inv_sc (fun e=>ht e n a w β hs) (fun e=>hf e n a w β hs)
theorem G3f {i:Nat} {c:Code} (h:JI E P N c (Q.blk i) l L k):JI E P N (.block i c) Q l L k:=
 fun n a w β hs=>wpIn_block (Code.wpIn_mono (fun e a' w' q=>by
  cases e with
  | normal=>exact q
  | exit j=>
   obtain⟨β',l',L',k',hs',hq⟩:=q
   simp only [Exit.inBlock]
   by_cases e:j=i
   ·subst e
    simp only [if_true]
    exact⟨β',l',L',k',hs',by simpa [H00.blk] using hq⟩
   ·have hb:Nat.beq j i=false:=by
     cases hb:Nat.beq j i with
     | false=>rfl
     | true=>exact absurd (Nat.eq_of_beq_eq_true hb) e
    simp only [if_neg e]
    exact⟨β',l',L',k',hs',by simpa [H00.blk,e] using hq⟩
  | ret=>exact q
  | goto l=>exact q
  | panic c=>exact q
  | outgrown=>exact q) (h n a w β hs))
theorem Qh {id:Nat} {ops:List Oper} (h:JIL E P N ops.toArray ops Q l L k):JI E P N (.region id ops.toArray false) Q l L k:=
 fun n a w β hs=>wpIn_region_lit (h n a w β hs)
theorem Rf {ops:Array Oper} (h:Q.norm l L k):JIL E P N ops [] Q l L k:=fun _ _ _ β hs=>⟨β,l,L,k,hs,h⟩

theorem Q3b {body:Code} {X:Type} (I:X→Prop) (F:X→Fr) (M:X→Loc) (kf:X→κ) (μ:X→Nat) (x0:X) (h0:I x0) (hf:Fits N.base l L (F x0) (M x0)) (hk:k=kf x0)
  (hr:∀ x,I x→∀ K:Fr→Loc→κ→Prop,(∀ l L x',I x'→μ x' < μ x→Fits N.base l L (F x') (M x')→K l L (kf x'))→JI E P N body (Q.seq K) (F x) (M x) (kf x)):JI E P N (.loop body) Q l L k:=by
 subst hk
 intro n a w β hs b kk cs hro hb' hroom
 have key:∀ m x a w β,μ x=m→I x→StI E N a w β (F x) (M x) (kf x) →
   ∃ e a' w',Q.out E N e a' w'∧ArrivesIn (Machine.fenced P Fence.wide) P (lone (b.atR a (.code body::.inLoop body::kk)) cs w) b kk cs e a' w':=by
  intro m
  induction m using Nat.strongRecOn with
  | _ m ih=>
   intro x a w β hn hI hs
   obtain⟨e,a₁,w₁,hq,harr⟩:=hr x hI (fun l L q=>∃ x',I x'∧μ x' < μ x∧Fits N.base l L (F x') (M x')∧q=kf x') (fun l L x' h1 h2 h3=>⟨x',h1,h2,h3,rfl⟩) n a w β hs b (.inLoop body::kk) cs hro hb' hroom
   cases e with
   | normal=>
    obtain⟨β',l',L',q,hs',x',hI',hlt,hfit,rfl⟩:=hq
    obtain⟨e₂,a₂,w₂,hq₂,harr₂⟩:=ih (μ x') (hn ▸ hlt) x' a₁ w₁ β' rfl hI' (hs'.fits hfit)
    exact⟨e₂,a₂,w₂,hq₂,.of_steps (StepsIn.trans harr (.one (fenced_calm hb' hroom rfl) stepR_inLoop)) harr₂⟩
   | exit id=>exact⟨.exit id,a₁,w₁,hq,.pass (x:=.inLoop body) rfl (fun _ _=>.inl (by simp)) harr⟩
   | goto l=>exact hq.elim
   | ret=>exact⟨.ret,a₁,w₁,hq,.pass (x:=.inLoop body) rfl (fun _ _=>.inl (by simp)) harr⟩
   | panic ch=>exact hq.elim
   | outgrown=>exact hq.elim
 obtain⟨e,a',w',hq,harr⟩:=key _ x0 a w β rfl h0 (hs.fits hf)
 exact⟨e,a',w',hq,.of_steps (.one (fenced_calm hb' hroom rfl) stepR_loop) harr⟩
end code

section ops
variable {κ:Type} {E:H8e κ} {P:Program} {N:Cfg} {Q:H00 κ} {l:Fr} {L L':Loc} {k:κ} {ops:Array Oper} {o:Oper} {rest:List Oper} {u:AV}

theorem J2 {d:Nat} (hE:E.Ok P) (h:H0 P o l L (Is u L')) (hk:JIL E P N ops rest Q ((d,u)::l) L' k) (hg:o.guard=none) (hd:o.dst=some d) (hn:Nat.blt d N.n=true) (hnd:G4c o=true):JIL E P N ops (o::rest) Q l L k:=by
 intro n a w β hs
 refine Gd4 (ro:=none) hg hnd fun K hK=>h a w β K _ hs.sat hs.frame ?_
 intro u' L'' v w' β' hr hsat hst hv
 obtain⟨rfl,rfl⟩:=hr
 have hlt:d < a.tmps.size:=Nat.lt_of_lt_of_le (by simpa [Nat.blt_eq] using hn) hs.size
 rw [hd]
 exact hK _ _ (hk n _ w' β' (hs.step hE hst hsat ((hs.frame.step hst).put hlt hv) (Act.put_size ..) (Act.put_defers' ..)))
theorem Y2f (hE:E.Ok P) (h:H0 P o l L (Is u L')) (hk:JIL E P N ops rest Q l L' k) (hg:o.guard=none) (hd:o.dst=none) (hnd:G4c o=true):JIL E P N ops (o::rest) Q l L k:=by
 intro n a w β hs
 refine Gd4 (ro:=none) hg hnd fun K hK=>h a w β K _ hs.sat hs.frame ?_
 intro u' L'' v w' β' hr hsat hst hv
 obtain⟨rfl,rfl⟩:=hr
 rw [hd]
 exact hK _ _ (hk n _ w' β' (hs.step hE hst hsat (hs.frame.step hst) rfl rfl))

theorem StI.round {L:Loc} {w w':World} {β:H4} {X X':Nat→Prop} {T:Nat→Nat→Prop} (hsat:Sat w β L) (hX:∀ b,X b→b < w.heap.size∧∀ i,¬ T b i→β.hid b i) (notX:∀ id b,(lk L id).isSome=true→β id=some b→¬ X b) (ht:Y9d X w w')
  (hT:∀ b i,T b i→X b→G35 w' b i=G35 w b i) (hX':∀ b,b < w.heap.size→(X' b ↔ X b)) (hlt:∀ b,X' b→b < w'.heap.size) :
  let β':H4:=⟨β.at_,fun b i=>β.hid b i∨(w.heap.size≤b∧b < w'.heap.size)⟩
  Sat w' β' L∧Hb9 w β L w' β' L∧∀ b,X' b→b < w'.heap.size∧∀ i,¬ T b i→β'.hid b i:=by
 intro β'
 have same:∀ id b,(lk L id).isSome=true→β id=some b→w'.heap[b]? = w.heap[b]? := fun id b h1 h2=>ht.keep b (hsat.bnd id b h1 h2) (notX id b h1 h2)
 have stab:∀ b i,Jt w β L b i→Jt w' β' L b i:=fun b i hs=>⟨Nat.lt_of_lt_of_le hs.lt ht.size,fun h=>h.elim hs.seen (fun h=>by have:=hs.lt; omega),hs.kept⟩
 have cell:∀ b i,Jt w β L b i→G35 w' b i=G35 w b i:=fun b i hs=>by
  by_cases hx:X b
  ·by_cases h:T b i
   ·exact hT b i h hx
   ·exact(hs.seen ((hX b hx).2 i h)).elim
  ·exact Q2 (w:=w) (ht.keep b hs.lt hx)
 have stw:Hb9 w β L w' β' L:=⟨fun b i hs=>⟨stab b i hs,cell b i hs⟩,fun _ _ cs h=>⟨rfl,cs,h⟩,fun _ _ es h=>⟨rfl,es,h⟩,fun _ _ n es h=>⟨rfl,n,es,h⟩,
  fun id _ _ ver xs h=>⟨ver,xs,h,Nat.le_refl _,fun _=>⟨rfl,rfl,fun b hb=>G12 (same id b (by rw [h]; rfl) hb)⟩⟩,
  fun id _ _ ver hw h=>⟨ver,hw,h,Nat.le_refl _,fun _=>⟨rfl,rfl,fun b hb=>same id b (by rw [h]; rfl) hb⟩⟩⟩
 refine⟨⟨fun b i h=>h.elim (fun h=>Nat.lt_of_lt_of_le (hsat.hid b i h) ht.size) (fun h=>h.2),fun id b h1 h2=>Nat.lt_of_lt_of_le (hsat.bnd id b h1 h2) ht.size,fun id b j h1 h2 h=>h.elim (hsat.apart id b j h1 h2) (fun h=>by have:=hsat.bnd id b h1 h2; omega),hsat.inj,
  fun id o ho=>(hsat.obj id o ho).stepW stw (fun b hb=>same id b (by rw [ho]; rfl) hb)⟩,stw,fun b hb=>⟨hlt b hb,fun i hn=>?_⟩⟩
 rcases Nat.lt_or_ge b w.heap.size with h | h
 ·exact .inl ((hX b ((hX' b h).1 hb)).2 i hn)
 ·exact .inr ⟨h,hlt b hb⟩

def Jc0 (l:Fr):List Operand→List AV→Prop
 | [],[]=>True
 | x::r,u::s=>ev l x=u∧u.isData=true∧Jc0 l r s
 | _,_=>False
theorem Jc0.length {l:Fr}:∀ {xs:List Operand} {us:List AV},Jc0 l xs us→xs.length=us.length
 | [],[],_=>rfl
 | _::_,_::_,h=>by simp [Jc0.length h.2.2]
 | [],_::_,h=>h.elim
 | _::_,[],h=>h.elim
theorem Jc0.get {l:Fr}:∀ {xs:List Operand} {us:List AV},Jc0 l xs us→∀ {j:Nat} {x:Operand} {u:AV},xs[j]? = some x→us[j]? = some u→ev l x=u∧u.isData=true
 | _::_,_::_,h,0,x,u,hx,hu=>by simp at hx hu; subst hx; subst hu; exact⟨h.1,h.2.1⟩
 | _::_,_::_,h,j+1,x,u,hx,hu=>Jc0.get h.2.2 (by simpa using hx) (by simpa using hu)
 | [],[],_,j,x,u,hx,_=>by simp at hx
 | [],_::_,h,_,_,_,_,_=>h.elim
 | _::_,[],h,_,_,_,_,_=>h.elim

theorem Hc2 {k':κ} {d:Nat} {x:Operand} {xs:List Operand} {us:List AV} {ts:Array TypeId} (hE:E.Ok P) (ho:o.op=.call { callee:=.value x,args:=xs.toArray,argTypes:=ts }) (hx:ev l x=.sc (.func (.yield E.lp) #[] #[]))
  (ha:Jc0 l xs us) (hy:E.nx k us k') (hk:JIL E P N ops rest Q ((d,BL true)::l) L k') (hg:o.guard=none) (hd:o.dst=some d) (hn:Nat.blt d N.n=true):JIL E P N ops (o::rest) Q l L k:=by
 intro n a w β hs
 obtain⟨X,T,hJ,hX,hT⟩:=hs.gh
 have hlt:d < a.tmps.size:=Nat.lt_of_lt_of_le (by simpa [Nat.blt_eq] using hn) hs.size
 have hv:=hs.frame.ev x
 rw [hx] at hv
 have hxe:=hv.inv_sc
 obtain⟨fn,tmps,assign,body,hr,hR⟩:=hE.round (n - 1) k k' us X T (fun b i=>T b i∨(E.W0.heap.size≤b∧Jt w β L b i)) w (xs.toArray.map a.eval) hy hJ (fun b i h=>.inl h) (fun b i h hn=>h.elim (fun h=>(hn h).elim) fun h=>⟨h.1,fun hx=>h.2.seen ((hX b hx).2 i),h.2.lt⟩) (by simp [ha.length]) (fun j u v hu hv=>by
  simp only [Array.getElem?_map,List.getElem?_toArray,Option.map_eq_some_iff] at hv
  obtain⟨y,hy,rfl⟩:=hv
  obtain⟨h1,h2⟩:=ha.get hy hu
  have:=hs.frame.ev y
  rw [h1] at this
  exact(this.toD h2).mono fun b i hs'=>⟨(Nat.lt_or_ge b E.W0.heap.size).elim (fun h=>.inl (hs.vis b i h hs'.seen)) (fun h=>.inr (.inr ⟨h,hs'⟩)),rfl⟩)
 refine wpListIn_plain hg fun K hK=>?_
 refine⟨fun _ _=>trivial,?_⟩
 have hrun:(execOp a.eval o).run P w=.ok (.round E.lp fn tmps assign body) w:=by
  have h0:(execOp a.eval o).run P w=(Instr.yield E.lp (xs.toArray.map a.eval)).run P w:=by
   simp [execOp,ho,resolve,hxe,Deferred.ofValue,invoke]
   done
  rw [h0,hr]
 rw [show o.semAt Fence.wide.round a.eval=execOp a.eval o from rfl,hrun,Oper.uponIn_round]
 refine⟨fun e=>(by cases e),hR.mono fun e w' h=>?_⟩
 obtain⟨rfl,X',hJ',ht,hX',hlt'⟩:=h
 have hTs:∀ b i,(T b i∨(E.W0.heap.size≤b∧Jt w β L b i))→Jt w β L b i:=fun b i h=>h.elim (hT b i) (·.2)
 obtain⟨h1,h2,h3⟩:=StI.round (T:=fun _ _=>False) hs.sat (fun b h=>⟨(hX b h).1,fun i _=>(hX b h).2 i⟩) (fun id b h1 h2 hx=>hs.sat.apart id b 0 h1 h2 ((hX b hx).2 0)) ht (fun _ _ h=>h.elim) hX' hlt'
 rw [hd]
 refine hK _ _ (hk n _ w' _ ⟨h1,(hs.frame.stepW h2).put hlt .sc,by rw [Act.put_size]; exact hs.size,by rw [Act.put_defers']; exact hs.defers,Nat.le_trans hs.old ht.size,hs.own,⟨X',_,hJ',fun b h=>⟨(h3 b h).1,fun i=>(h3 b h).2 i id⟩,fun b i h=>(h2.stab b i (hTs b i h)).1⟩,fun b i hb hn=>hs.vis b i hb fun h=>hn (.inl h)⟩)

theorem Jbb {g:FuncId} {fn:Func} {c:Code} {caps:List AV} {κ:Type} {k0:κ} {nx:κ→List AV→κ→Prop} {fi:κ→Prop} (hf:P.funcs[g]? = some fn) (hb:fn.body=some c) (hres:fn.results=#[])
  (h:∀ E:H8e κ,E.Ok P→E.nx=nx→JI E P ⟨fn.ntmps,[],none⟩ c ⟨fun _ _ k=>fi k,fun _ _ k=>fi k,fun _ _ _ _=>False⟩ (H0e 0 (.sc (.func (.yield E.lp) #[] #[])::caps)) [] k0):Gb8 P g caps k0 nx fi:=by
 intro n E lb X0 hE hys hl hcap hS hX0 hJ
 have hsz:(#[Value.func (.yield E.lp) #[] #[]]++lb).size=(AV.sc (.func (.yield E.lp) #[] #[])::caps).length:=by simp [hl]; omega
 refine callsIn_of_wp hf hb trivial (Code.wpIn_mono (fun e a' w' q=>?_) (h E hE hys n _ E.W0 ⟨fun _=>none,fun b i=>¬ E.S b i∧b < E.W0.heap.size⟩ ⟨⟨fun b i h=>h.2,fun id b h=>by simp [lk] at h,fun id b j h=>by simp [lk] at h,fun id id' b h=>by simp [lk] at h,fun id o h=>by simp [lk] at h⟩,⟨fun t=>?_⟩,?_,rfl,Nat.le_refl _,fun id b h=>by simp [lk] at h,⟨X0,_,hJ,fun b hb=>⟨hX0 b hb,fun i=>⟨fun hs=>(hS b i hs).2 hb,hX0 b hb⟩⟩,fun _ _ h=>h.elim⟩,fun b i hb hn=>Classical.byContradiction fun h=>hn ⟨h,hb⟩⟩))
 ·have fin:(∃ β' l' L' k',StI E ⟨fn.ntmps,[],none⟩ a' w' β' l' L' k'∧fi k')→a'.defers=[]∧∃ v,(results fn a'.tmps).run P w'=.ok v w'∧((∃ v',Ending.returned v=.returned v')∧∃ k X T,fi k∧E.J k X T w'):=by
   rintro⟨β',l',L',k',hs,hfi⟩
   obtain⟨X,T,hX,_⟩:=hs.gh
   exact⟨hs.defers,_,results_none hres _ _ _,⟨_,rfl⟩,k',X,T,hfi,hX⟩
  cases e with
  | normal=>exact fin q
  | ret=>exact fin q
  | exit i=>obtain⟨_,_,_,_,_,hq⟩:=q; exact hq.elim
  | goto l=>exact q.elim
  | panic c=>exact q.elim
  | outgrown=>exact q.elim
 ·rw [J1e]
  simp only [Nat.zero_le,if_true,Nat.sub_zero]
  cases hu:(AV.sc (.func (.yield E.lp) #[] #[])::caps)[t]? with
  | none=>exact .junk
  | some u=>
   have ht:t < (#[Value.func (.yield E.lp) #[] #[]]++lb).size:=by rw [hsz]; exact(List.getElem?_eq_some_iff.1 hu).1
   have e:((#[Value.func (.yield E.lp) #[] #[]]++lb)++Array.replicate (fn.ntmps - (#[Value.func (.yield E.lp) #[] #[]]++lb).size) undef).getD t undef=(#[Value.func (.yield E.lp) #[] #[]]++lb)[t]:=by
    rw [Array.getD_eq_getD_getElem?,Array.getElem?_append_left ht,Array.getElem?_eq_getElem ht]; rfl
   rw [e]
   cases t with
   | zero=>simp at hu; subst hu; simp; exact .sc
   | succ t=>
    have hu':caps[t]? = some u:=by simpa using hu
    have hlt:t < lb.size:=by rw [hl]; exact(List.getElem?_eq_some_iff.1 hu').1
    have hv:=hcap t u lb[t] hu' (by simp [hlt])
    have ev:(#[Value.func (.yield E.lp) #[] #[]]++lb)[t+1]=lb[t]:=by simp [Array.getElem_append]
    rw [ev]
    exact .data (hv.mono fun b i hs=>⟨⟨(hS b i hs).1,fun h=>h.1 hs,fun id o h=>by simp [lk] at h⟩,rfl⟩)
 ·simp; omega
theorem Y32 {g:FuncId} {fn:Func} {c:Code} {caps:List AV} {ys:List (List AV)} (hf:P.funcs[g]? = some fn) (hb:fn.body=some c) (hres:fn.results=#[])
  (h:∀ E:H8e Nat,E.Ok P→E.nx=Y28 ys→JI E P ⟨fn.ntmps,[],none⟩ c ⟨fun _ _ k=>k=ys.length,fun _ _ k=>k=ys.length,fun _ _ _ _=>False⟩ (H0e 0 (.sc (.func (.yield E.lp) #[] #[])::caps)) [] 0):Iter P g caps ys:=Jbb hf hb hres h
end ops

section code
variable {κ:Type} {E:H8e κ} {P:Program} {N:Cfg} {Q:H00 κ} {l:Fr} {L:Loc} {k:κ}
theorem Jb9 {body:Code} {σ:Type} (I:Nat→σ→Prop) (F:Nat→σ→Fr) (M:Nat→σ→Loc) (kf:Nat→σ→κ) (μ:Nat→Nat) (i0:Nat) (s0:σ) (h0:I i0 s0) (hf:Fits N.base l L (F i0 s0) (M i0 s0)) (hk:k=kf i0 s0)
  (hr:∀ i s,I i s→∀ K:Fr→Loc→κ→Prop,(∀ l L i' s' k',I i' s'→μ i' < μ i→Fits N.base l L (F i' s') (M i' s')→k'=kf i' s'→K l L k')→JI E P N body (Q.seq K) (F i s) (M i s) (kf i s)):JI E P N (.loop body) Q l L k:=
 Q3b (fun x:Nat×σ=>I x.1 x.2) (fun x=>F x.1 x.2) (fun x=>M x.1 x.2) (fun x=>kf x.1 x.2) (fun x=>μ x.1) (i0,s0) h0 hf hk
  (fun x hi K hK=>hr x.1 x.2 hi K (fun l L i' s' k' h1 h2 h3 h4=>h4 ▸ hK l L (i',s') h1 h2 h3))
theorem Qb8 {c:Operand} {x y:Code} (hc:ev l c=.sc (.bool true)) (ht:JI E P N x Q l L k):JI E P N (.cond c x y) Q l L k:=J49 hc (fun _=>ht) (fun e=>by cases e)
theorem H3a {c:Operand} {x y:Code} (hc:ev l c=.sc (.bool false)) (hf:JI E P N y Q l L k):JI E P N (.cond c x y) Q l L k:=J49 hc (fun e=>by cases e) (fun _=>hf)
theorem Ydf {ops:Array Oper} {o:Oper} {rest:List Oper} {T Et k' d kk:Nat} {x:Operand} {xs:List AV} (hE:E.Ok P) (hT:sliceB P T Et k'=true) (hk:xs.length≤maxLen→JIL E P N ops rest Q ((d,I64 (xs.length:Int))::l) L k) (ho:o.op=.call { callee:=.builtin .len,args:=#[x],argTypes:=#[T] }) (hx:Qf (ev l x)=some (kk,xs))
  (hg:o.guard=none) (hd:o.dst=some d) (hn:Nat.blt d N.n=true):JIL E P N ops (o::rest) Q l L k:=by
 intro n a w β hs
 obtain⟨ao,cap,h1,h2,h3⟩:=((hs.frame.ev x).Qf hx).len
 exact J2 hE (Yb3 hT ho hx) (hk (Nat.le_trans h2 h3)) hg hd hn (by unfold G4c; rw [ho]) n a w β hs
theorem Qba {ops:Array Oper} {o:Oper} {rest:List Oper} {x:Operand} {T Et kk k' d:Nat} {α:Type} {f:α→AV} {xs:List α} (hE:E.Ok P) (hT:sliceB P T Et k'=true) (ho:o.op=.call { callee:=.builtin .len,args:=#[x],argTypes:=#[T] }) (hx:Qf (ev l x)=some (kk,xs.map f))
  (hk:xs.length≤maxLen→JIL E P N ops rest Q ((d,I64 (xs.length:Int))::l) L k) (hg:o.guard=none) (hd:o.dst=some d) (hn:Nat.blt d N.n=true):JIL E P N ops (o::rest) Q l L k:=
 Ydf hE hT (fun hm=>by simp only [List.length_map] at hm ⊢; exact hk hm) ho hx hg hd hn
theorem Ra3 {E:H8e Nat} {k:Nat} {α:Type} [DecidableEq α] {f:α→List AV} {ys:List α} {x:α} (hys:E.nx=Y28 (ys.map f)) (h:decide (ys[k]? = some x)=true):E.nx k (f x) (k+1):=by
 rw [hys]; exact⟨by rw [List.getElem?_map,of_decide_eq_true h]; rfl,rfl⟩
theorem Y0c {k:Nat} {α:Type} {f:α→List AV} {ys:List α} (h:decide (k=ys.length)=true):k=(ys.map f).length:=by
 rw [List.length_map]; exact of_decide_eq_true h
theorem Y1e {α β:Type} {f:α→β} {ys:List α} {k:Nat} {u:β} (h:(ys.map f)[k]? = some u):∃ hk:k < ys.length,u=f ys[k]:=by
 rw [List.getElem?_map] at h
 cases hy:ys[k]? with
 | none=>rw [hy] at h; cases h
 | some y=>
  rw [hy] at h
  obtain⟨hk,e⟩:=List.getElem?_eq_some_iff.1 hy
  exact⟨hk,by rw [e]; exact(Option.some.inj h).symm⟩
end code
end Go.Proofs.YtidpfkmbfgihlaaGreat
