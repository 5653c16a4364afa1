/-
 A range over a function,the caller's side: its rounds are walked like the rounds of any loop.
-/
import Derived.Test.YtidpfkmbfgihlaaGreatIter
namespace Go.Proofs.YtidpfkmbfgihlaaGreat
open Go.RowKit

def J9b:List Tmp→List AV→Fr→Fr
 | p::ps,u::us,l=>J9b ps us ((p,u)::l)
 | _,_,l=>l
theorem Q8.round {w:World} {β:H4} {L:Loc}:∀ {ps:List Tmp} {us:List AV} {vs:List Value} {tmps:Array Value} {l:Fr},ps.length=us.length→vs.length=us.length→(∀ p∈ps,p < tmps.size)→Q8 { tmps:=tmps,defers:=[] } w β L l →
  (∀ (j:Nat) u v,us[j]? = some u→vs[j]? = some v→V w β L u v)→Q8 { tmps:=(ps.zip vs).foldl (fun t (x:Tmp×Value)=>t.setIfInBounds x.1 x.2) tmps,defers:=[] } w β L (J9b ps us l)
 | [],[],[],_,_,_,_,_,h,_=>h
 | p::ps,u::us,v::vs,tmps,l,h1,h2,h3,h,hv=>by
  have hp:=h.put (d:=p) (u:=u) (v:=v) (h3 p (List.mem_cons_self ..)) (hv 0 u v rfl rfl)
  exact Q8.round (ps:=ps) (us:=us) (vs:=vs) (by simpa using h1) (by simpa using h2) (fun q hq=>by simpa using h3 q (List.mem_cons_of_mem _ hq)) hp (fun j u' v' hu hv'=>hv (j+1) u' v' (by simpa using hu) (by simpa using hv'))
 | [],_::_,_,_,_,h,_,_,_,_=>by simp at h
 | _::_,[],_,_,_,h,_,_,_,_=>by simp at h
 | _,[],_::_,_,_,_,h,_,_,_=>by simp at h
 | _,_::_,[],_,_,_,h,_,_,_=>by simp at h
theorem Y6f {ps:List Tmp}:∀ {vs:List Value} {tmps:Array Value},((ps.zip vs).foldl (fun t (x:Tmp×Value)=>t.setIfInBounds x.1 x.2) tmps).size=tmps.size:=by
 induction ps with
 | nil=>intro vs tmps; simp
 | cons p ps ih=>
  intro vs tmps
  cases vs with
  | nil=>simp
  | cons v vs=>rw [List.zip_cons_cons,List.foldl_cons,ih]; simp

theorem Step.thenW {w0 W W':World} {β0 β β':H4} {L0 L L':Loc} (h:Step w0 β0 L0 W β L) (k:Hb9 W β L W' β' L') (h1:W'.os=W.os) (h2:W'.tape=W.tape) (h3:W'.output=W.output∧W.drawn≤W'.drawn) (h4:W.heap.size≤W'.heap.size)
  (hid:∀ b i,b < w0.heap.size→(β'.hid b i ↔ β.hid b i)) (far:∀ b,b < w0.heap.size→(∀ id,(lk L id).isSome=true→β id≠some b)→W'.heap[b]? = W.heap[b]? ∧ ∀ id,(lk L' id).isSome=true→β' id≠some b):Step w0 β0 L0 W' β' L' where
 os:=h1.trans h.os
 tape:=h2.trans h.tape
 output:=⟨h3.1.trans h.output.1,Nat.le_trans h.output.2 h3.2⟩
 size:=Nat.le_trans h.size h4
 hid:=fun b i hb=>(hid b i hb).trans (h.hid b i hb)
 stab:=fun b i hs=>by
  obtain⟨a1,a2⟩:=h.stab b i hs
  obtain⟨k1,k2⟩:=k.stab b i a1
  exact⟨k1,k2.trans a2⟩
 far:=fun b hb hf=>by
  obtain⟨a1,a2⟩:=h.far b hb hf
  obtain⟨k1,k2⟩:=far b hb a2
  exact⟨k1.trans a1,k2⟩
 box:=fun id t cs hi=>by
  obtain⟨h1,cs',h2⟩:=h.box id t cs hi
  obtain⟨k1,k2⟩:=k.box id t cs' h2
  exact⟨k1.trans h1,k2⟩
 map:=fun id t es hi=>by
  obtain⟨h1,es',h2⟩:=h.map id t es hi
  obtain⟨k1,k2⟩:=k.map id t es' h2
  exact⟨k1.trans h1,k2⟩
 iter:=fun id m n es hi=>by
  obtain⟨h1,n',es',h2⟩:=h.iter id m n es hi
  obtain⟨k1,k2⟩:=k.iter id m n' es' h2
  exact⟨k1.trans h1,k2⟩
 vec:=fun id t kk ver xs hi=>by
  obtain⟨v1,xs1,h1,h2,h3⟩:=h.vec id t kk ver xs hi
  obtain⟨v2,xs2,k1,k2,k3⟩:=k.vec id t kk v1 xs1 h1
  refine⟨v2,xs2,k1,Nat.le_trans h2 k2,fun e=>?_⟩
  obtain⟨a1,a2,a3⟩:=h3 (by omega)
  obtain⟨b1,b2,b3⟩:=k3 (by omega)
  exact⟨b1.trans a1,b2.trans a2,fun b hb=>(b3 b (a2.trans hb)).trans (a3 b hb)⟩
 spare:=fun id t kk ver hw hi=>by
  obtain⟨v1,hw1,h1,h2,h3⟩:=h.spare id t kk ver hw hi
  obtain⟨v2,hw2,k1,k2,k3⟩:=k.spare id t kk v1 hw1 h1
  refine⟨v2,hw2,k1,Nat.le_trans h2 k2,fun e=>?_⟩
  obtain⟨a1,a2,a3⟩:=h3 (by omega)
  obtain⟨b1,b2,b3⟩:=k3 (by omega)
  exact⟨b1.trans a1,b2.trans a2,fun b hb=>(b3 b (a2.trans hb)).trans (a3 b hb)⟩

theorem Step.drop {w0 w:World} {β0 β:H4} {L0 L L':Loc} {N:Cfg} {a:Act} {l l':Fr} (h:Step w0 β0 L0 w β L) (hsat:Sat w β L) (hbase:∀ id,(lk L0 id).isSome=true→id∈N.base) (hf:Fits N.base l L l' L') (ha:N.n≤a.tmps.size) (hd:a.defers=[]) (hfr:Q8 a w β L l):Step w0 β0 L0 w β L':=
 (Ri.fits (N:=N) (a:=a) ⟨hsat,h,hfr,ha,hbase,by rw [hd]; exact .nil⟩ hf).step

def J73:Loc→Bool
 | []=>true
 | (_,.spare _ _ _ hw)::r=>Nat.beq hw 0&&J73 r
 | _::r=>J73 r
theorem Qf0:∀ {L:Loc},J73 L=true→∀ {id:Nat} {o:Jh},lk L id=some o→∀ i,¬ o.keeps i
 | (j,x)::r,h,id,o,ho,i=>by
  rw [Gh] at ho
  split at ho
  ·cases ho
   cases x with
   | spare t k ver hw=>
    simp only [J73,Bool.and_eq_true] at h
    have:=Nat.eq_of_beq_eq_true h.1
    subst this
    simp [Jh.keeps]
   | _=>simp [Jh.keeps]
  ·refine Qf0 (L:=r) ?_ ho i
   cases x <;> simp [J73] at h ⊢ <;> first | exact h | exact h.2
 | [],_,id,o,ho,_=>by simp [lk] at ho

structure Between (P:Program) (N:Cfg) (w0:World) (β0:H4) (L0:Loc) (tmps:Array Value) (ds:List Deferred) (l1:Fr) (S:Nat→Nat→Prop) (n0 lp D:Nat) (rec:Loop) (L:Loc) (X:Nat→Prop) (T:Nat→Nat→Prop) (W:World) (β:H4):Prop where
 sat:Sat W β L
 step:Step w0 β0 L0 W β L
 frame:Q8 { tmps:=tmps,defers:=[] } W β L l1
 obj:∀ id b,(lk L id).isSome=true→β id=some b→X b∧b≠lp∧b≠D
 hid:∀ b,n0≤b→b < W.heap.size→¬ X b→∀ i,¬ T b i→β.hid b i
 lt:∀ b,X b→b < W.heap.size
 loop:W.heap[lp]? = some (.loop rec)
 mark:W.heap[D]? = some (.deferred (some []))
 old:n0≤W.heap.size
 data:∀ b i,S b i→Jt W β L b i
 tdata:∀ b i,T b i→n0≤b∧Jt W β L b i
 defs:Hc3 none w0.heap.size W β L ds
 deflt:∀ d∈ds,∀ D',d={ target:=.collected D',args:=#[] }→D' < n0
theorem Hc3.turned {ro:Option Nat} {B n0:Nat} {w w':World} {β β':H4} {L:Loc} {ds:List Deferred} (h:Hc3 ro B w β L ds) (hlt:∀ d∈ds,∀ D',d={ target:=.collected D',args:=#[] }→D' < n0) (hk:∀ D,D < n0→w.heap[D]? = some (.deferred (some []))→w'.heap[D]? = w.heap[D]?) (hb:∀ id,β' id=β id):Hc3 ro B w' β' L ds:=
 ⟨h.top,h.nodup,fun d hd=>by
  obtain⟨D,e,h1,h2,h3⟩:=h.each d hd
  exact⟨D,e,h1,(hk D (hlt d hd D e) h2).trans h2,fun id hi he=>h3 id hi ((hb id).symm.trans he)⟩⟩

def Mid (P:Program) (N:Cfg) (body:Code) (Q:Post) (l:Fr) (L:Loc):Prop:=
 ∃ l' L',(∀ w0 β0 L0 a w β,Ri N w0 β0 L0 a w β l L→∃ β',Ri N w0 β0 L0 a w β' l' L')∧JC P ⟨N.n,L'.map (·.1),N.ro⟩ body Q l' L'
theorem Qa6 {P:Program} {N:Cfg} {body:Code} {Q:Post} {l:Fr} {L:Loc} (h:JC P ⟨N.n,L.map (·.1),N.ro⟩ body Q l L):Mid P N body Q l L:=⟨l,L,fun _ _ _ _ _ β hs=>⟨β,hs⟩,h⟩
theorem R90 {P:Program} {N:Cfg} {body:Code} {Q:Post} {l l':Fr} {L L':Loc} (hc:∀ w0 β0 L0 a w β,Ri N w0 β0 L0 a w β l L→∃ β',Ri N w0 β0 L0 a w β' l' L') (h:Mid P N body Q l' L'):Mid P N body Q l L:=by
 obtain⟨l2,L2,h1,h2⟩:=h
 refine⟨l2,L2,fun w0 β0 L0 a w β hs=>?_,h2⟩
 obtain⟨β',hs'⟩:=hc w0 β0 L0 a w β hs
 exact h1 w0 β0 L0 a w β' hs'

theorem Qa7 {P:Program} {N:Cfg} {body:Code} {Q:Post} {l:Fr} {L:Loc} (l':Fr) (L':Loc) (i:Nat) {t:TypeId} {cs:List AV} (hi:lk L i=some (.box t cs)) (hd:Qy (fun _=>false) cs=true)
  (hi':lk L' i=none) (hl:H01 (fun j=>(lk L' j).isSome) L L') (hb:allIn L' N.base=true) (hf:Y04 i cs (fun j=>(lk L' j).isSome) l l') (hk:Mid P N body Q l' L'):Mid P N body Q l L:=
 R90 (fun _ _ _ _ _ β hs=>⟨β,hs.freeze i hi hd hi' hl hb hf⟩) hk
theorem Between.more {P:Program} {N:Cfg} {w0:World} {β0:H4} {L0:Loc} {tmps:Array Value} {ds:List Deferred} {l1:Fr} {S:Nat→Nat→Prop} {n0 lp D:Nat} {rec:Loop} {L:Loc} {X:Nat→Prop} {T T':Nat→Nat→Prop} {W:World} {β:H4}
  (h:Between P N w0 β0 L0 tmps ds l1 S n0 lp D rec L X T W β) (h1:∀ b i,T b i→T' b i) (h2:∀ b i,T' b i→¬ T b i→n0≤b∧¬ X b∧b < W.heap.size) (h0:w0.heap.size≤n0) :
  Between P N w0 β0 L0 tmps ds l1 S n0 lp D rec L X T' W ⟨β.at_,fun b i=>β.hid b i∧¬ T' b i⟩:=by
 have told:∀ b i,T' b i→n0≤b:=fun b i h'=>by
  by_cases ht:T b i
  ·exact(h.tdata b i ht).1
  ·exact(h2 b i h' ht).1
 have stab:∀ b i,Jt W β L b i→Jt W ⟨β.at_,fun b i=>β.hid b i∧¬ T' b i⟩ L b i:=fun b i hs=>⟨hs.lt,fun hh=>hs.seen hh.1,hs.kept⟩
 have stw:Hb9 W β L W ⟨β.at_,fun b i=>β.hid b i∧¬ T' b i⟩ L:=⟨fun b i hs=>⟨stab b i hs,rfl⟩,fun _ _ cs h=>⟨rfl,cs,h⟩,fun _ _ es h=>⟨rfl,es,h⟩,fun _ _ n es h=>⟨rfl,n,es,h⟩,
  fun id _ _ ver xs h=>⟨ver,xs,h,Nat.le_refl _,fun _=>⟨rfl,rfl,fun b hb=>rfl⟩⟩,fun id _ _ ver hw h=>⟨ver,hw,h,Nat.le_refl _,fun _=>⟨rfl,rfl,fun b hb=>rfl⟩⟩⟩
 refine⟨⟨fun b i hh=>h.sat.hid b i hh.1,h.sat.bnd,fun id b j h1 h2 hh=>h.sat.apart id b j h1 h2 hh.1,h.sat.inj,fun id o ho=>(h.sat.obj id o ho).stepW stw (fun b hb=>rfl)⟩,
  h.step.thenW stw rfl rfl ⟨rfl,Nat.le_refl _⟩ (Nat.le_refl _) (fun b i hlt=>⟨fun hh=>hh.1,fun hh=>⟨hh,fun ht=>by have:=told b i ht; omega⟩⟩) (fun b hlt hf=>⟨rfl,hf⟩),⟨fun t=>(h.frame.tmp t).stepW stw⟩,h.obj,
  fun b g1 g2 g3 i g4=>⟨h.hid b g1 g2 g3 i (fun ht=>g4 (h1 b i ht)),g4⟩,h.lt,h.loop,h.mark,h.old,fun b i hs=>stab b i (h.data b i hs),fun b i ht'=>⟨told b i ht',?_⟩,h.defs.turned h.deflt (fun _ _ _=>rfl) (fun _=>rfl),h.deflt⟩
 by_cases ht:T b i
 ·exact stab b i (h.tdata b i ht).2
 ·obtain⟨g1,g2,g3⟩:=h2 b i ht' ht
  exact⟨g3,fun hh=>hh.2 ht',fun id o ho hb=>(g2 (h.obj id b (by rw [ho]; rfl) hb).1).elim⟩

theorem H21 {κ:Type} {k0:κ} {nx:κ→List AV→κ→Prop} {fi:κ→Prop} {P:Program} {N:Cfg} {gop:Operand} {ps:List Tmp} {assign body:Code} {Q:Post} {l:Fr} {L:Loc} (l1:Fr) {gf:FuncId} {caps:List AV} {σ:Type} (I:κ→σ→Prop) (M:σ→Loc) (s0:σ)
  (hro:N.ro=none) (hg:ev l gop=.fn gf caps) (hcd:Qy (fun _=>false) caps=true) (hB:H7 P gf=true) (hit:Gb8 P gf caps k0 nx fi) (h0:I k0 s0) (hf:Fits N.base l L l1 (M s0)) (hnk:J73 (M s0)=true)
  (hps:∀ k us k',nx k us k'→ps.length=us.length) (hpn:∀ p∈ps,p < N.n) (hl1:∀ s,Jbc (fun i=>(lk (M s) i).isSome) l1 l1) (hbs:∀ s,allIn (M s) N.base=true)
  (hr:∀ k us k' s,nx k us k'→I k s→∀ (lr:Nat) (K:Fr→Loc→Prop),(∀ l L s',I k' s'→Fits [] l L [] (M s')→K l L) →
   JC P ⟨N.n,(M s).map (·.1),some lr⟩ assign ⟨fun l2 L2=>Mid P ⟨N.n,(M s).map (·.1),some lr⟩ body ⟨K,fun _ _=>False,fun _ _ _=>False⟩ l2 L2,fun _ _=>False,fun _ _ _=>False⟩ (J9b ps us l1) (M s))
  (hdone:∀ k s,fi k→I k s→Q.norm l1 (M s)):JC P N (.rangeFunc gop ps.toArray assign body) Q l L:=by
 intro n w0 β0 L0 a w β hs
 have hs1:=hs.fits hf
 have hv:=hs.frame.ev gop
 rw [hg] at hv
 obtain⟨lb,he,hlb,hcv⟩:=hv.inv_fn
 rw [hro]
 refine wpIn_rangeFunc (F:=FR none) ?_
 intro fn hfn
 obtain⟨rec,hrec⟩:∃ rec:LoopState→Option Code→Loop,rec=fun st pe=>{ state:=st,pending:=pe,fn,tmps:=a.tmps,params:=ps.toArray,assign,body,defers:=w.heap.size }:=⟨_,rfl⟩
 obtain⟨W1,hW1⟩:∃ W1,(w.alloc (.deferred (some []))).alloc (.loop (rec .ready none))=W1:=⟨_,rfl⟩
 have hsz1:W1.heap.size=w.heap.size+2:=by rw [← hW1]; simp
 have hL1:W1.heap[w.heap.size+1]? = some (.loop (rec .ready none)):=by
  rw [← hW1]; have:=World.alloc_heap_new (w.alloc (.deferred (some []))) (.loop (rec .ready none)); rwa [World.size_alloc] at this
 have hK1:W1.heap[w.heap.size]? = some (.deferred (some [])):=by
  rw [← hW1]; exact(Below.heap_alloc _ _ _ (by simp)).trans (World.alloc_heap_new w _)
 have hold1:∀ b,b < w.heap.size→W1.heap[b]? = w.heap[b]? := fun b hb=>by
  rw [← hW1]; exact(Q6 _ _ (by simp; omega)).trans (Q6 w _ hb)
 have hw0:w0.heap.size≤w.heap.size:=hs.step.size
 obtain⟨S,hSd⟩:∃ S:Nat→Nat→Prop,S=Jt w β (M s0):=⟨_,rfl⟩
 obtain⟨X0,hX0⟩:∃ X0:Nat→Prop,X0=fun b=>∃ id,(lk (M s0) id).isSome=true∧β id=some b:=⟨_,rfl⟩
 obtain⟨E,hE⟩:∃ E:H8e κ,E={ W0:=W1,S:=S,lp:=w.heap.size+1,nx:=nx,J:=fun k X T W=>∃ β1 s,I k s∧Between P N w0 β0 L0 a.tmps a.defers l1 S W1.heap.size (w.heap.size+1) w.heap.size (rec .ready none) (M s) X T W β1 }:=⟨_,rfl⟩
 have stw1:Hb9 w β (M s0) W1 β (M s0):=by
  refine⟨fun b i h=>⟨⟨by have:=h.lt; omega,h.seen,h.kept⟩,Q2 (w:=w) (hold1 b h.lt)⟩,fun _ _ cs h=>⟨rfl,cs,h⟩,fun _ _ es h=>⟨rfl,es,h⟩,fun _ _ n es h=>⟨rfl,n,es,h⟩,
   fun id _ _ ver xs h=>⟨ver,xs,h,Nat.le_refl _,fun _=>⟨rfl,rfl,fun b hb=>G12 (hold1 b (hs1.sat.bnd id b (by rw [h]; rfl) hb))⟩⟩,
   fun id _ _ ver hw h=>⟨ver,hw,h,Nat.le_refl _,fun _=>⟨rfl,rfl,fun b hb=>hold1 b (hs1.sat.bnd id b (by rw [h]; rfl) hb)⟩⟩⟩
 have hdlt:∀ d∈a.defers,∀ D',d={ target:=.collected D',args:=#[] }→D' < w.heap.size:=fun d hd D' e=>by
  obtain⟨D,e2,_,h2,_⟩:=hs1.defers.each d hd
  have:D'=D:=by rw [e] at e2; injection e2 with e3; injection e3
  subst this
  exact(Array.getElem?_eq_some_iff.1 h2).1
 have start:Between P N w0 β0 L0 a.tmps a.defers l1 S W1.heap.size (w.heap.size+1) w.heap.size (rec .ready none) (M s0) X0 (fun _ _=>False) W1 β:=by
  refine⟨⟨fun b i h=>by have:=hs1.sat.hid b i h; omega,fun id b h1 h2=>by have:=hs1.sat.bnd id b h1 h2; omega,hs1.sat.apart,hs1.sat.inj,fun id o ho=>(hs1.sat.obj id o ho).stepW stw1 (fun b hb=>hold1 b (hs1.sat.bnd id b (by rw [ho]; rfl) hb))⟩,
   hs1.step.thenW stw1 (by rw [← hW1]; rfl) (by rw [← hW1]; rfl) (by rw [← hW1]; exact⟨rfl,Nat.le_refl _⟩) (by omega) (fun _ _ _=>Iff.rfl) (fun b hb hf=>⟨hold1 b (by omega),hf⟩),⟨fun t=>(hs1.frame.tmp t).stepW stw1⟩,fun id b h1 h2=>?_,fun b h1 h2=>by omega,fun b hb=>?_,hL1,hK1,Nat.le_refl _,fun b i hb=>?_,fun _ _ h=>h.elim,?_,?_⟩
  ·have:=hs1.sat.bnd id b h1 h2
   exact⟨by rw [hX0]; exact⟨id,h1,h2⟩,by omega,by omega⟩
  ·rw [hX0] at hb; obtain⟨id,h1,h2⟩:=hb
   have:=hs1.sat.bnd id b h1 h2; omega
  ·rw [hSd] at hb; exact(stw1.stab b i hb).1
  ·have:=hs1.defers
   rw [hro] at this
   exact this.turned (n0:=w.heap.size) hdlt (fun D hD _=>hold1 D hD) (fun _=>rfl)
  ·intro d hd D' e
   have:=hdlt d hd D' e; omega
 have hEok:E.Ok P:=by
  subst hE
  refine⟨fun k X T W W' hJ ht hTc=>?_,fun m k k' us X T0 T W vs hy hJ hT1 hT2 hsz hD=>?_⟩
  ·obtain⟨β1,s,hI,hb⟩:=hJ
   obtain⟨g1,g2,g3⟩:=StI.round (X:=fun b=>W1.heap.size≤b∧¬ X b∧b < W.heap.size) (X':=fun b=>W1.heap.size≤b∧¬ X b∧b < W'.heap.size) (T:=T) (w':=W') hb.sat (fun b h=>⟨h.2.2,hb.hid b h.1 h.2.2 h.2.1⟩) (fun id b h1 h2 hx=>hx.2.1 (hb.obj id b h1 h2).1)
    ⟨ht.os,ht.tape,ht.output,ht.size,fun b h1 h2=>ht.keep b h1 (fun h=>h2 ⟨h.1,h.2,h1⟩)⟩ (fun b i h _=>hTc b i h) (fun b h=>⟨fun h'=>⟨h'.1,h'.2.1,h⟩,fun h'=>⟨h'.1,h'.2.1,by have:=ht.size; omega⟩⟩) (fun b h=>h.2.2)
   have hn0:∀ b,b < W1.heap.size→b < W.heap.size→W'.heap[b]? = W.heap[b]? := fun b h1 h2=>ht.keep b h2 (fun h=>by have h3:W1.heap.size≤b:=h.1; omega)
   refine⟨_,s,hI,g1,hb.step.thenW g2 ht.os ht.tape ht.output ht.size (fun b i hlt=>⟨fun h=>h.elim id (fun h=>by have:=hb.old; omega),.inl⟩) (fun b hlt hf=>⟨hn0 b (by omega) (by have:=hb.old; omega),hf⟩),⟨fun t=>(hb.frame.tmp t).stepW g2⟩,hb.obj,fun b h1 h2 h3=>(g3 b ⟨h1,h3,h2⟩).2,fun b h=>Nat.lt_of_lt_of_le (hb.lt b h) ht.size,?_,?_,Nat.le_trans hb.old ht.size,fun b i h=>(g2.stab b i (hb.data b i h)).1,fun b i h=>⟨(hb.tdata b i h).1,(g2.stab b i (hb.tdata b i h).2).1⟩,?_,hb.deflt⟩
   ·exact(hn0 _ (by omega) (Array.getElem?_eq_some_iff.1 hb.loop).1).trans hb.loop
   ·exact(hn0 _ (by omega) (Array.getElem?_eq_some_iff.1 hb.mark).1).trans hb.mark
   ·exact hb.defs.turned hb.deflt (fun D h1 h2=>hn0 D h1 (Array.getElem?_eq_some_iff.1 h2).1) (fun _=>rfl)
  ·obtain⟨βq,s,hI,hb0⟩:=hJ
   obtain⟨β1,hb⟩:∃ β1,Between P N w0 β0 L0 a.tmps a.defers l1 S W1.heap.size (w.heap.size+1) w.heap.size (rec .ready none) (M s) X T W β1:=⟨_,hb0.more hT1 hT2 (by omega)⟩
   have hlen:ps.length=us.length:=hps k us k' hy
   have hyr:=run_yield (P:=P) (args:=vs) hb.loop (by rw [hrec]; simp [hsz,hlen])
   rw [hrec] at hyr
   have htm:(ps.toArray.zip vs).foldl (fun(tmps:Array Value) (x:Tmp×Value)=>tmps.setIfInBounds x.1 x.2) a.tmps=(ps.zip vs.toList).foldl (fun(tmps:Array Value) (x:Tmp×Value)=>tmps.setIfInBounds x.1 x.2) a.tmps:=by
    rw [← Array.foldl_toList,Array.toList_zip]
   have hlpW:w.heap.size+1 < W.heap.size:=(Array.getElem?_eq_some_iff.1 hb.loop).1
   have hDW:w.heap.size < W.heap.size:=by omega
   have nlp:∀ id,(lk (M s) id).isSome=true→β1 id≠some (w.heap.size+1):=fun id h1 h2=>(hb.obj id _ h1 h2).2.1 rfl
   have nD:∀ id,(lk (M s) id).isSome=true→β1 id≠some w.heap.size:=fun id h1 h2=>(hb.obj id _ h1 h2).2.2 rfl
   have hsize:N.n≤((ps.toArray.zip vs).foldl (fun(tmps:Array Value) (x:Tmp×Value)=>tmps.setIfInBounds x.1 x.2) a.tmps).size:=by rw [htm,Y6f]; exact hs.size
   have hfr:Q8 { tmps:=(ps.toArray.zip vs).foldl (fun(tmps:Array Value) (x:Tmp×Value)=>tmps.setIfInBounds x.1 x.2) a.tmps,defers:=[] } W β1 (M s) (J9b ps us l1):=by
    rw [htm]
    refine Q8.round hlen (by simpa using hsz) (fun p hp=>Nat.lt_of_lt_of_le (hpn p hp) hs.size) hb.frame (fun j u v hu hv=>.data ((hD j u v hu (by simpa using hv)).mono fun b i h=>⟨h.elim (hb.data b i) (fun h=>(hb.tdata b i h).2),rfl⟩))
   have mem_ids:∀ (L:Loc) id,(lk L id).isSome=true→id∈L.map (·.1):=fun L id h=>by
    induction L with
    | nil=>simp [lk] at h
    | cons p r ih=>
     obtain⟨j,o⟩:=p
     rw [Gh] at h
     by_cases e:j=id
     ·subst e; simp
     ·rw [if_neg e] at h; simp [ih h]
   refine⟨fn,_,assign,body,hyr,roundIn_of_wpIn hfn ?_⟩
   refine wpIn_mono (hr k us k' s hy hI (w.heap.size+1) (fun l3 L3=>∃ s',I k' s'∧Fits [] l3 L3 [] (M s')) (fun l3 L3 s' h1 h2=>⟨s',h1,h2⟩) m W β1 (M s) _ W β1 ⟨hb.sat,Step.refl _ _ _,hfr,hsize,mem_ids (M s),.nil⟩) (fun e a1 w1 q=>?_)
   cases e with
   | normal=>
    obtain⟨βm,lm,Lm,hsm,l2,L2,hcv,hbody⟩:=q
    obtain⟨β2,hs2⟩:=hcv _ _ _ _ _ _ hsm
    have st1:=hs2.step
    have f1:=st1.far _ hlpW nlp
    have d1:=st1.far _ hDW nD
    have hl1':=f1.1.trans hb.loop
    refine⟨_,run_beginRound hl1' (by rw [hrec]),?_⟩
    obtain⟨W2,hW2⟩:∃ W2,w1.putObj (w.heap.size+1) (.loop { rec .ready none with state:=.busy })=W2:=⟨_,rfl⟩
    have sw2:Hb9 w1 β2 L2 W2 β2 L2:=by rw [← hW2]; exact Ged hl1' (by simp) (by simp) f1.2
    have sat2:Sat W2 β2 L2:=by rw [← hW2]; exact Hdd hl1' (by simp) (by simp) f1.2 hs2.sat
    have hlp2:W2.heap[w.heap.size+1]? = some (.loop { rec .ready none with state:=.busy }):=by rw [← hW2]; exact World.putObj_heap_same (Array.getElem?_eq_some_iff.1 hl1').1
    have oth2:∀ b,b≠w.heap.size+1→W2.heap[b]? = w1.heap[b]? := fun b hb=>by rw [← hW2]; exact World.putObj_heap_other hb
    have sz2:W2.heap.size=w1.heap.size:=by rw [← hW2]; exact World.putObj_size
    have a1d:a1.defers=[]:=hs2.defers.top rfl
    rw [hW2]
    refine wpIn_mono (hbody m W2 β2 L2 a1 W2 β2 ⟨sat2,Step.refl _ _ _,⟨fun t=>(hs2.frame.tmp t).stepW sw2⟩,hs2.size,mem_ids L2,by rw [a1d]; exact .nil⟩) (fun e a3 w3 q=>?_)
    cases e with
    | normal=>
     obtain⟨β3,l3,L3,hs3,s',hI',hfit⟩:=q
     have st2:=hs3.step
     have f2:=st2.far (w.heap.size+1) (by have:=st1.size; omega) f1.2
     have d2:=st2.far w.heap.size (by have:=st1.size; omega) d1.2
     have hl3:=f2.1.trans hlp2
     have hend:=run_endRound (P:=P) none hl3
     obtain⟨W4,hW4⟩:∃ W4,w3.putObj (w.heap.size+1) (.loop (rec .ready none))=W4:=⟨_,rfl⟩
     have hend':(Instr.endRound (w.heap.size+1) none).run P w3=.ok (.bool true) W4:=by
      rw [← hW4]
      rw [hrec] at hend ⊢
      exact hend
     have sz4:W4.heap.size=w3.heap.size:=by rw [← hW4]; exact World.putObj_size
     have oth4:∀ b,b≠w.heap.size+1→W4.heap[b]? = w3.heap[b]? := fun b hb=>by rw [← hW4]; exact World.putObj_heap_other hb
     have hlp4:W4.heap[w.heap.size+1]? = some (.loop (rec .ready none)):=by rw [← hW4]; exact World.putObj_heap_same (Array.getElem?_eq_some_iff.1 hl3).1
     have hfit':Fits N.base l3 L3 [] (M s'):=⟨hfit.fr,hfit.loc,hbs s'⟩
     have hdr:=hfit.drop
     have f4:∀ id,(lk (M s') id).isSome=true→β3 id≠some (w.heap.size+1):=fun id h=>f2.2 id (hdr.some h)
     have sw4:Hb9 w3 β3 (M s') W4 β3 (M s'):=by rw [← hW4]; exact Ged hl3 (by simp) (by simp) f4
     have sat3:Sat w3 β3 (M s'):=hs3.sat.fits hfit'
     have sat4:Sat W4 β3 (M s'):=by rw [← hW4]; exact Hdd hl3 (by simp) (by simp) f4 sat3
     have szs1:=st1.size
     have szs2:=st2.size
     have hBle:w0.heap.size≤w.heap.size+1:=by omega
     -- the steps since the call began
     have g1:Step w0 β0 L0 w1 β2 L2:=hb.step.trans st1
     have g2:Step w0 β0 L0 W2 β2 L2:=by rw [← hW2]; exact H91 hl1' (by simp) (by simp) f1.2 w0 β0 L0 (Nat.le_refl _) hBle g1
     have g3:Step w0 β0 L0 w3 β3 L3:=g2.trans st2
     have g3':Step w0 β0 L0 w3 β3 (M s'):=g3.drop (N:=N) (a:={ a3 with defers:=[] }) hs3.sat hs.base hfit' hs3.size rfl ⟨hs3.frame.tmp⟩
     have g4:Step w0 β0 L0 W4 β3 (M s'):=by rw [← hW4]; exact H91 hl3 (by simp) (by simp) f4 w0 β0 L0 (Nat.le_refl _) hBle g3'
     have fr3:Q8 { tmps:=a.tmps,defers:=[] } w3 β3 L3 l1:=((hb.frame.step st1).stepW sw2).step st2
     have fr4:Q8 { tmps:=a.tmps,defers:=[] } W4 β3 (M s') l1:=⟨fun t=>((fr3.tmp t).conv hdr ((hl1 s').get t)).stepW sw4⟩
     -- what lay in W and is none of the caller's objects
     have keepW:∀ b,b < W.heap.size→b≠w.heap.size+1→(∀ id,(lk (M s) id).isSome=true→β1 id≠some b)→W4.heap[b]? = W.heap[b]? ∧ ∀ id,(lk L3 id).isSome=true→β3 id≠some b:=fun b hb1 hb2 hb3=>by
      obtain⟨e1,e2⟩:=st1.far b hb1 hb3
      obtain⟨e3,e4⟩:=st2.far b (by omega) e2
      exact⟨(oth4 b hb2).trans (e3.trans ((oth2 b hb2).trans e1)),e4⟩
     have hkD:=keepW w.heap.size hDW (by omega) nD
     have stabW:∀ b i,Jt W β1 (M s) b i→Jt W4 β3 (M s') b i:=fun b i h=>(sw4.stab b i (hdr.stab (st2.stab b i (sw2.stab b i (st1.stab b i h).1).1).1)).1
     refine⟨_,_,hend',rfl,fun b=>X b∨(W.heap.size≤b∧b < W4.heap.size),⟨β3,s',hI',sat4,g4,fr4,fun id b h1 h2=>?_,fun b h1 h2 h3 i h4=>?_,fun b h=>h.elim (fun h=>by have:=hb.lt b h; omega) (fun h=>h.2),hlp4,hkD.1.trans hb.mark,by have:=hb.old; omega,fun b i h=>stabW b i (hb.data b i h),fun b i h=>⟨(hb.tdata b i h).1,stabW b i (hb.tdata b i h).2⟩,?_,hb.deflt⟩,⟨?_,?_,?_,by omega,fun b h1 h2=>?_⟩,fun b h=>⟨fun h'=>h'.elim _root_.id (fun h'=>by omega),.inl⟩,fun b h=>h.elim (fun h=>by have:=hb.lt b h; omega) (fun h=>h.2)⟩
     ·have hl3':=hdr.some h1
      refine⟨?_,fun e=>f4 id h1 (by rw [h2,e]),fun e=>hkD.2 id hl3' (by rw [h2,e])⟩
      rcases Nat.lt_or_ge b W.heap.size with hlt | hge
      ·refine .inl (Classical.byContradiction fun hx=>?_)
       exact(keepW b hlt (fun e=>f4 id h1 (by rw [h2,e])) (fun id' h3 h4=>hx (hb.obj id' b h3 h4).1)).2 id hl3' h2
      ·exact .inr ⟨hge,by have:=sat4.bnd id b h1 h2; exact this⟩
     ·have hlt:b < W.heap.size:=Nat.lt_of_not_le fun h=>h3 (.inr ⟨h,h2⟩)
      have:=hb.hid b h1 hlt (fun h=>h3 (.inl h)) i h4
      exact(st2.hid b i (by omega)).2 ((st1.hid b i hlt).2 this)
     ·have q1:=hb.defs.step st1
      have nel:∀ d∈a.defers,∀ D',d={ target:=.collected D',args:=#[] }→W.heap[D']? = some (.deferred (some []))→D'≠w.heap.size+1:=fun d _ D' _ h e=>by rw [e,hb.loop] at h; cases h
      refine⟨q1.top,q1.nodup,fun d hd=>?_⟩
      obtain⟨D',e,h1,h2,h3⟩:=hb.defs.each d hd
      have hne:=nel d hd D' e h2
      have hkk:=keepW D' (Array.getElem?_eq_some_iff.1 h2).1 hne h3
      exact⟨D',e,h1,hkk.1.trans h2,fun id hi=>hkk.2 id (hdr.some hi)⟩
     ·rw [← hW4]; exact st2.os.trans (by rw [← hW2]; exact st1.os)
     ·rw [← hW4]; exact st2.tape.trans (by rw [← hW2]; exact st1.tape)
     ·have e2:=st2.output
      have e1:=st1.output
      rw [← hW2] at e2
      rw [← hW4]
      exact⟨e2.1.trans e1.1,Nat.le_trans e1.2 e2.2⟩
     ·by_cases e:b=w.heap.size+1
      ·rw [e,hlp4,hb.loop]
      ·exact(keepW b h1 e (fun id h3 h4=>h2 (hb.obj id b h3 h4).1)).1
    | ret=>obtain⟨_,_,_,_,hq⟩:=q; exact hq.elim
    | exit i=>obtain⟨_,_,_,_,hq⟩:=q; exact hq.elim
    | goto t=>exact q.elim
    | panic c=>exact q.elim
    | outgrown=>exact q.elim
   | ret=>obtain⟨_,_,_,_,hq⟩:=q; exact hq.elim
   | exit i=>obtain⟨_,_,_,_,hq⟩:=q; exact hq.elim
   | goto t=>exact q.elim
   | panic c=>exact q.elim
   | outgrown=>exact q.elim
 have hcap:∀ (j:Nat) u v,caps[j]? = some u→lb[j]? = some v→D W1 S u v:=fun j u v hu hv=>by
  have:=(hcv j u v hu hv).toD (G07 hcd u (List.mem_of_getElem? hu))
  refine this.mono fun b i h=>?_
  have h':=hf.drop.stab h
  refine⟨by rw [hSd]; exact h',Q2 (w:=w) (hold1 b h'.lt)⟩
 have hSX:∀ b i,S b i→b < W1.heap.size∧¬ X0 b:=fun b i h=>by
  rw [hSd] at h
  refine⟨by have:=h.lt; omega,fun hx=>?_⟩
  rw [hX0] at hx
  obtain⟨id,h1,h2⟩:=hx
  obtain⟨o,ho⟩:=Option.isSome_iff_exists.1 h1
  exact Qf0 hnk ho i (h.kept id o ho h2)
 have hXlt:∀ b,X0 b→b < W1.heap.size:=start.lt
 have hcall:=hit (n - 1) E lb X0 hEok (by rw [hE]) hlb (by rw [hE]; exact hcap) (by rw [hE]; exact hSX) (by rw [hE]; exact hXlt) (by rw [hE]; exact⟨β,s0,h0,start⟩)
 refine⟨w.heap.size+1,[{ target:=.collected w.heap.size,args:=#[] }],W1,{ target:=.fn (.func gf) lb,args:=#[.func (.yield (w.heap.size+1)) #[] #[]] },W1,gf,
  #[.func (.yield (w.heap.size+1)) #[] #[]]++lb,W1,?_,?_,fun _ _=>trivial,?_,fun e=>(by cases e),?_⟩
 ·rw [← hW1,hrec]; exact run_enterLoop_outer _ _ _ _ _
 ·simp only [resolve,he]
  simp [go_sem]
 ·simp [invoke,go_sem,H7.out hB]
 ·rw [hE] at hcall
  refine CallsIn.mono (F:=FR none) hcall fun e W2 h=>?_
  obtain⟨⟨v,rfl⟩,k,X,T,hfi,β1,s,hI,hb⟩:=h
  have hend:=run_endLoop (P:=P) hb.loop (by rw [hrec]; simp)
  refine⟨none,W2.putObj (w.heap.size+1) (.loop { rec .ready none with state:=.exhausted }),by rw [hrec] at hend ⊢; exact hend,β1,l1,M s,?_,hdone k s hfi hI⟩
  have nlp:∀ id,(lk (M s) id).isSome=true→β1 id≠some (w.heap.size+1):=fun id h1 h2=>(hb.obj id _ h1 h2).2.1 rfl
  refine⟨Hdd hb.loop (by simp) (by simp) nlp hb.sat,H91 hb.loop (by simp) (by simp) nlp w0 β0 L0 (Nat.le_refl _) (by omega) hb.step,⟨fun t=>(hb.frame.tmp t).stepW (Ged hb.loop (by simp) (by simp) nlp)⟩,hs.size,hs.base,?_⟩
  rw [hro]
  refine⟨fun h=>(by cases h),List.nodup_cons.2 ⟨fun h=>?_,hb.defs.nodup⟩,fun d hd=>?_⟩
  ·have:=hdlt _ h _ rfl; omega
  ·rcases List.mem_cons.1 hd with rfl | hd
   ·exact⟨_,rfl,hw0,(World.putObj_heap_other (by omega)).trans hb.mark,fun id h1 h2=>(hb.obj id _ h1 h2).2.2 rfl⟩
   ·obtain⟨D',e,h1,h2,h3⟩:=hb.defs.each d hd
    refine⟨D',e,h1,(World.putObj_heap_other fun e2=>?_).trans h2,h3⟩
    rw [e2,hb.loop] at h2; cases h2
theorem Jba {P:Program} {N:Cfg} {gop:Operand} {ps:List Tmp} {assign body:Code} {Q:Post} {l:Fr} {L:Loc} (l1:Fr) {gf:FuncId} {caps:List AV} (ys:List (List AV)) {σ:Type} (I:Nat→σ→Prop) (M:σ→Loc) (s0:σ)
  (hro:N.ro=none) (hg:ev l gop=.fn gf caps) (hcd:Qy (fun _=>false) caps=true) (hB:H7 P gf=true) (hit:Iter P gf caps ys) (h0:I 0 s0) (hf:Fits N.base l L l1 (M s0)) (hnk:J73 (M s0)=true)
  (hps:∀ us∈ys,ps.length=us.length) (hpn:∀ p∈ps,p < N.n) (hl1:∀ s,Jbc (fun i=>(lk (M s) i).isSome) l1 l1) (hbs:∀ s,allIn (M s) N.base=true)
  (hr:∀ k us s,ys[k]? = some us→I k s→∀ (lr:Nat) (K:Fr→Loc→Prop),(∀ l L s',I (k+1) s'→Fits [] l L [] (M s')→K l L) →
   JC P ⟨N.n,(M s).map (·.1),some lr⟩ assign ⟨fun l2 L2=>Mid P ⟨N.n,(M s).map (·.1),some lr⟩ body ⟨K,fun _ _=>False,fun _ _ _=>False⟩ l2 L2,fun _ _=>False,fun _ _ _=>False⟩ (J9b ps us l1) (M s))
  (hdone:∀ s,I ys.length s→Q.norm l1 (M s)):JC P N (.rangeFunc gop ps.toArray assign body) Q l L:=
 H21 l1 I M s0 hro hg hcd hB hit h0 hf hnk (fun k us k' h=>hps us (List.mem_of_getElem? h.1)) hpn hl1 hbs (fun k us k' s h hI=>by
  obtain⟨h1,rfl⟩:=h
  exact hr k us s h1 hI) (fun k s e hI=>by subst e; exact hdone s hI)
end Go.Proofs.YtidpfkmbfgihlaaGreat
