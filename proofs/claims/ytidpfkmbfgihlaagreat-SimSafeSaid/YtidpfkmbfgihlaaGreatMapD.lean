/-
 A range over a function,the caller's side: More steps: Slices that begin aQ an empty literal and are appended to; Is a slice nil: Appending to a part from the front of a slice of the call's A slice of slices of the call's own,whose last slice still g Drawn orders whose last operation,behind all the others,is g The typed steps of slices of slices whose last slice grows. Slices with known cells behind them: Maps from which entries are deleted:
-/
import Derived.Test.YtidpfkmbfgihlaaGreatIter
import Derived.Test.YtidpfkmbfgihlaaGreatSortI
namespace Go.Proofs.YtidpfkmbfgihlaaGreat
open Go.RowKit

def Ja6:List Tmp→List AV→Fr→Fr
 | p::ps,u::us,l=>Ja6 ps us ((p,u)::l)
 | _,_,l=>l
theorem Q8.round {w:World} {β:H5} {L:Loc}:∀ {ps:List Tmp} {us:List AV} {vs:List Value} {tmps:Array Value} {l:Fr},ps.length=us.length→vs.length=us.length→(∀ p∈ps,p < tmps.size)→Q8 { tmps:=tmps,defers:=[] } w β L l →
  (∀ (j:Nat) u v,us[j]? = some u→vs[j]? = some v→V w β L u v)→Q8 { tmps:=(ps.zip vs).foldl (fun t (x:Tmp×Value)=>t.setIfInBounds x.1 x.2) tmps,defers:=[] } w β L (Ja6 ps us l)
 | [],[],[],_,_,_,_,_,h,_=>h
 | p::ps,u::us,v::vs,tmps,l,h1,h2,h3,h,hv=>by
  have hp:=h.put (d:=p) (u:=u) (v:=v) (h3 p (List.mem_cons_self ..)) (hv 0 u v rfl rfl)
  exact Q8.round (ps:=ps) (us:=us) (vs:=vs) (by simpa using h1) (by simpa using h2) (fun q hq=>by simpa using h3 q (List.mem_cons_of_mem _ hq)) hp (fun j u' v' hu h0=>hv (j+1) u' v' (by simpa using hu) (by simpa using h0))
 | [],_::_,_,_,_,h,_,_,_,_=>by simp at h
 | _::_,[],_,_,_,h,_,_,_,_=>by simp at h
 | _,[],_::_,_,_,_,h,_,_,_=>by simp at h
 | _,_::_,[],_,_,_,h,_,_,_=>by simp at h
theorem Y80 {ps:List Tmp}:∀ {vs:List Value} {tmps:Array Value},((ps.zip vs).foldl (fun t (x:Tmp×Value)=>t.setIfInBounds x.1 x.2) tmps).size=tmps.size:=by
 induction ps with
 | nil=>intro vs tmps; simp
 | cons p ps ih=>
  intro vs tmps
  cases vs with
  | nil=>simp
  | cons v vs=>rw [List.zip_cons_cons,List.foldl_cons,ih]; simp

theorem Step.thenW {w0 W W':World} {β0 β β':H5} {L0 L L':Loc} (h:Step w0 β0 L0 W β L) (k:Hc2 W β L W' β' L') (h1:W'.os=W.os) (h2:W'.tape=W.tape) (h3:W'.output=W.output∧W.drawn≤W'.drawn) (h4:W.heap.size≤W'.heap.size)
  (hid:∀ b i,b < w0.heap.size→(β'.hid b i ↔ β.hid b i)) (far:∀ b,b < w0.heap.size→(∀ id,(lk L id).isSome=true→β id≠some b)→W'.heap[b]? = W.heap[b]? ∧ ∀ id,(lk L' id).isSome=true→β' id≠some b):Step w0 β0 L0 W' β' L' where
 os:=h1.trans h.os
 tape:=h2.trans h.tape
 output:=⟨h3.1.trans h.output.1,Nat.le_trans h.output.2 h3.2⟩
 size:=Nat.le_trans h.size h4
 hid:=fun b i hb=>(hid b i hb).trans (h.hid b i hb)
 stab:=fun b i hs=>by
  obtain⟨a1,a2⟩:=h.stab b i hs
  obtain⟨k1,k2⟩:=k.stab b i a1
  exact⟨k1,k2.trans a2⟩
 far:=fun b hb hf=>by
  obtain⟨a1,a2⟩:=h.far b hb hf
  obtain⟨k1,k2⟩:=far b hb a2
  exact⟨k1.trans a1,k2⟩
 box:=fun id t cs hi=>by
  obtain⟨h1,cs',h2⟩:=h.box id t cs hi
  obtain⟨k1,k2⟩:=k.box id t cs' h2
  exact⟨k1.trans h1,k2⟩
 map:=fun id t es hi=>by
  obtain⟨h1,es',h2⟩:=h.map id t es hi
  obtain⟨k1,k2⟩:=k.map id t es' h2
  exact⟨k1.trans h1,k2⟩
 iter:=fun id m n es hi=>by
  obtain⟨h1,n',es',h2⟩:=h.iter id m n es hi
  obtain⟨k1,k2⟩:=k.iter id m n' es' h2
  exact⟨k1.trans h1,k2⟩
 vec:=fun id t kk ver xs hi=>by
  obtain⟨v1,xs1,h1,h2,h3⟩:=h.vec id t kk ver xs hi
  obtain⟨v2,xs2,k1,k2,k3⟩:=k.vec id t kk v1 xs1 h1
  refine⟨v2,xs2,k1,Nat.le_trans h2 k2,fun e=>?_⟩
  obtain⟨a1,a2,a3⟩:=h3 (by omega)
  obtain⟨b1,b2,b3⟩:=k3 (by omega)
  exact⟨b1.trans a1,b2.trans a2,fun b hb=>(b3 b (a2.trans hb)).trans (a3 b hb)⟩
 spare:=fun id t kk ver hw hi=>by
  obtain⟨v1,hw1,h1,h2,h3⟩:=h.spare id t kk ver hw hi
  obtain⟨v2,h0,k1,k2,k3⟩:=k.spare id t kk v1 hw1 h1
  refine⟨v2,h0,k1,Nat.le_trans h2 k2,fun e=>?_⟩
  obtain⟨a1,a2,a3⟩:=h3 (by omega)
  obtain⟨b1,b2,b3⟩:=k3 (by omega)
  exact⟨b1.trans a1,b2.trans a2,fun b hb=>(b3 b (a2.trans hb)).trans (a3 b hb)⟩

theorem Step.drop {w0 w:World} {β0 β:H5} {L0 L L':Loc} {N:Cfg} {a:Act} {l l':Fr} (h:Step w0 β0 L0 w β L) (h1:Sat w β L) (h0:∀ id,(lk L0 id).isSome=true→id∈N.base) (hf:Fits N.base l L l' L') (ha:N.n≤a.tmps.size) (hd:a.defers=[]) (h2:Q8 a w β L l):Step w0 β0 L0 w β L':=
 (Rk.fits (N:=N) (a:=a) ⟨h1,h,h2,ha,h0,by rw [hd]; exact .nil⟩ hf).step

def J7c:Loc→Bool
 | []=>true
 | (_,.spare _ _ _ hw)::r=>Nat.beq hw 0&&J7c r
 | _::r=>J7c r
theorem Qfb:∀ {L:Loc},J7c L=true→∀ {id:Nat} {o:Ji},lk L id=some o→∀ i,¬ o.keeps i
 | (j,x)::r,h,id,o,ho,i=>by
  rw [Gi] at ho
  split at ho
  ·cases ho
   cases x with
   | spare t k ver hw=>
    simp only [J7c,Mh] at h
    have:=Kv h.1
    subst this
    simp [Ji.keeps]
   | _=>simp [Ji.keeps]
  ·refine Qfb (L:=r) ?_ ho i
   cases x <;> simp [J7c] at h ⊢ <;> first | exact h | exact h.2
 | [],_,id,o,ho,_=>by simp [lk] at ho

structure Between (P:Program) (N:Cfg) (w0:World) (β0:H5) (L0:Loc) (tmps:Array Value) (ds:List Deferred) (l1:Fr) (S:Nat→Nat→Prop) (n0 lp D:Nat) (rec:Loop) (L:Loc) (X:Nat→Prop) (T:Nat→Nat→Prop) (W:World) (β:H5):Prop where
 sat:Sat W β L
 step:Step w0 β0 L0 W β L
 frame:Q8 { tmps:=tmps,defers:=[] } W β L l1
 obj:∀ id b,(lk L id).isSome=true→β id=some b→X b∧b≠lp∧b≠D
 hid:∀ b,n0≤b→b < W.heap.size→¬ X b→∀ i,¬ T b i→β.hid b i
 lt:∀ b,X b→b < W.heap.size
 loop:W.heap[lp]? = some (.loop rec)
 mark:W.heap[D]? = some (.deferred (some []))
 old:n0≤W.heap.size
 data:∀ b i,S b i→Ju W β L b i
 tdata:∀ b i,T b i→n0≤b∧Ju W β L b i
 defs:Hcc none w0.heap.size W β L ds
 deflt:∀ d∈ds,∀ D',d={ target:=.collected D',args:=#[] }→D' < n0
theorem Hcc.turned {ro:Option Nat} {B n0:Nat} {w w':World} {β β':H5} {L:Loc} {ds:List Deferred} (h:Hcc ro B w β L ds) (h0:∀ d∈ds,∀ D',d={ target:=.collected D',args:=#[] }→D' < n0) (hk:∀ D,D < n0→w.heap[D]? = some (.deferred (some []))→w'.heap[D]? = w.heap[D]?) (hb:∀ id,β' id=β id):Hcc ro B w' β' L ds:=
 ⟨h.top,h.nodup,fun d hd=>by
  obtain⟨D,e,h1,h2,h3⟩:=h.each d hd
  exact⟨D,e,h1,(hk D (h0 d hd D e) h2).trans h2,fun id hi he=>h3 id hi ((hb id).symm.trans he)⟩⟩

def Mid (P:Program) (N:Cfg) (body:Code) (Q:Post) (l:Fr) (L:Loc):Prop:=
 ∃ l' L',(∀ w0 β0 L0 a w β,Rk N w0 β0 L0 a w β l L→∃ β',Rk N w0 β0 L0 a w β' l' L')∧JC P ⟨N.n,L'.map (·.1),N.ro⟩ body Q l' L'
theorem Qb2 {P:Program} {N:Cfg} {body:Code} {Q:Post} {l:Fr} {L:Loc} (h:JC P ⟨N.n,L.map (·.1),N.ro⟩ body Q l L):Mid P N body Q l L:=⟨l,L,fun _ _ _ _ _ β hs=>⟨β,hs⟩,h⟩
theorem R9f {P:Program} {N:Cfg} {body:Code} {Q:Post} {l l':Fr} {L L':Loc} (hc:∀ w0 β0 L0 a w β,Rk N w0 β0 L0 a w β l L→∃ β',Rk N w0 β0 L0 a w β' l' L') (h:Mid P N body Q l' L'):Mid P N body Q l L:=by
 obtain⟨l2,L2,h1,h2⟩:=h
 refine⟨l2,L2,fun w0 β0 L0 a w β hs=>?_,h2⟩
 obtain⟨β',h0⟩:=hc w0 β0 L0 a w β hs
 exact h1 w0 β0 L0 a w β' h0

theorem Qb3 {P:Program} {N:Cfg} {body:Code} {Q:Post} {l:Fr} {L:Loc} (l':Fr) (L':Loc) (i:Nat) {t:TypeId} {cs:List AV} (hi:lk L i=some (.box t cs)) (hd:Qz (fun _=>false) cs=true)
  (h0:lk L' i=none) (hl:H07 (fun j=>(lk L' j).isSome) L L') (hb:allIn L' N.base=true) (hf:Y13 i cs (fun j=>(lk L' j).isSome) l l') (hk:Mid P N body Q l' L'):Mid P N body Q l L:=
 R9f (fun _ _ _ _ _ β hs=>⟨β,hs.freeze i hi hd h0 hl hb hf⟩) hk
theorem Between.more {P:Program} {N:Cfg} {w0:World} {β0:H5} {L0:Loc} {tmps:Array Value} {ds:List Deferred} {l1:Fr} {S:Nat→Nat→Prop} {n0 lp D:Nat} {rec:Loop} {L:Loc} {X:Nat→Prop} {T T':Nat→Nat→Prop} {W:World} {β:H5}
  (h:Between P N w0 β0 L0 tmps ds l1 S n0 lp D rec L X T W β) (h1:∀ b i,T b i→T' b i) (h2:∀ b i,T' b i→¬ T b i→n0≤b∧¬ X b∧b < W.heap.size) (h0:w0.heap.size≤n0) :
  Between P N w0 β0 L0 tmps ds l1 S n0 lp D rec L X T' W ⟨β.at_,fun b i=>β.hid b i∧¬ T' b i⟩:=by
 have told:∀ b i,T' b i→n0≤b:=fun b i h'=>by
  by_cases ht:T b i
  ·exact(h.tdata b i ht).1
  ·exact(h2 b i h' ht).1
 have stab:∀ b i,Ju W β L b i→Ju W ⟨β.at_,fun b i=>β.hid b i∧¬ T' b i⟩ L b i:=fun b i hs=>⟨hs.lt,fun hh=>hs.seen hh.1,hs.kept⟩
 have stw:Hc2 W β L W ⟨β.at_,fun b i=>β.hid b i∧¬ T' b i⟩ L:=⟨fun b i hs=>⟨stab b i hs,rfl⟩,fun _ _ cs h=>⟨rfl,cs,h⟩,fun _ _ es h=>⟨rfl,es,h⟩,fun _ _ n es h=>⟨rfl,n,es,h⟩,
  fun id _ _ ver xs h=>⟨ver,xs,h,M8,fun _=>⟨rfl,rfl,fun b hb=>rfl⟩⟩,fun id _ _ ver hw h=>⟨ver,hw,h,M8,fun _=>⟨rfl,rfl,fun b hb=>rfl⟩⟩⟩
 refine⟨⟨fun b i hh=>h.sat.hid b i hh.1,h.sat.bnd,fun id b j h1 h2 hh=>h.sat.apart id b j h1 h2 hh.1,h.sat.inj,fun id o ho=>(h.sat.obj id o ho).stepW stw (fun b hb=>rfl)⟩,
  h.step.thenW stw rfl rfl ⟨rfl,M8⟩ (M8) (fun b i h4=>⟨fun hh=>hh.1,fun hh=>⟨hh,fun ht=>by have:=told b i ht; omega⟩⟩) (fun b h4 hf=>⟨rfl,hf⟩),⟨fun t=>(h.frame.tmp t).stepW stw⟩,h.obj,
  fun b g1 g2 g3 i g4=>⟨h.hid b g1 g2 g3 i (fun ht=>g4 (h1 b i ht)),g4⟩,h.lt,h.loop,h.mark,h.old,fun b i hs=>stab b i (h.data b i hs),fun b i h3=>⟨told b i h3,?_⟩,h.defs.turned h.deflt (fun _ _ _=>rfl) (fun _=>rfl),h.deflt⟩
 by_cases ht:T b i
 ·exact stab b i (h.tdata b i ht).2
 ·obtain⟨g1,g2,g3⟩:=h2 b i h3 ht
  exact⟨g3,fun hh=>hh.2 h3,fun id o ho hb=>(g2 (h.obj id b (by rw [ho]; rfl) hb).1).elim⟩

theorem H27 {κ:Type} {k0:κ} {nx:κ→List AV→κ→Prop} {fi:κ→Prop} {P:Program} {N:Cfg} {gop:Operand} {ps:List Tmp} {assign body:Code} {Q:Post} {l:Fr} {L:Loc} (l1:Fr) {gf:FuncId} {caps:List AV} {σ:Type} (I:κ→σ→Prop) (M:σ→Loc) (s0:σ)
  (b5:N.ro=none) (hg:ev l gop=.fn gf caps) (e5:Qz (fun _=>false) caps=true) (hB:H7 P gf=true) (e6:Gbd P gf caps k0 nx fi) (h0:I k0 s0) (hf:Fits N.base l L l1 (M s0)) (e7:J7c (M s0)=true)
  (e8:∀ k us k',nx k us k'→ps.length=us.length) (e9:∀ p∈ps,p < N.n) (f0:∀ s,Jc7 (fun i=>(lk (M s) i).isSome) l1 l1) (f3:∀ s,allIn (M s) N.base=true)
  (hr:∀ k us k' s,nx k us k'→I k s→∀ (lr:Nat) (K:Fr→Loc→Prop),(∀ l L s',I k' s'→Fits [] l L [] (M s')→K l L) →
   JC P ⟨N.n,(M s).map (·.1),some lr⟩ assign ⟨fun l2 L2=>Mid P ⟨N.n,(M s).map (·.1),some lr⟩ body ⟨K,fun _ _=>False,fun _ _ _=>False⟩ l2 L2,fun _ _=>False,fun _ _ _=>False⟩ (Ja6 ps us l1) (M s))
  (c3:∀ k s,fi k→I k s→Q.norm l1 (M s)):JC P N (.rangeFunc gop ps.toArray assign body) Q l L:=by
 intro n w0 β0 L0 a w β hs
 have h5:=hs.fits hf
 have hv:=hs.frame.ev gop
 rw [hg] at hv
 obtain⟨lb,he,f5,b6⟩:=hv.inv_fn
 rw [b5]
 refine wpIn_rangeFunc (F:=FR none) ?_
 intro fn f6
 obtain⟨rec,h9⟩:∃ rec:LoopState→Option Code→Loop,rec=fun st pe=>{ state:=st,pending:=pe,fn,tmps:=a.tmps,params:=ps.toArray,assign,body,defers:=w.heap.size }:=⟨_,rfl⟩
 obtain⟨W1,a0⟩:∃ W1,(w.alloc (.deferred (some []))).alloc (.loop (rec .ready none))=W1:=⟨_,rfl⟩
 have i7:W1.heap.size=w.heap.size+2:=by rw [← a0]; simp
 have f7:W1.heap[w.heap.size+1]? = some (.loop (rec .ready none)):=by
  rw [← a0]; have:=World.alloc_heap_new (w.alloc (.deferred (some []))) (.loop (rec .ready none)); rwa [World.size_alloc] at this
 have f8:W1.heap[w.heap.size]? = some (.deferred (some [])):=by
  rw [← a0]; exact(Below.heap_alloc _ _ _ (by simp)).trans (World.alloc_heap_new w _)
 have h6:∀ b,b < w.heap.size→W1.heap[b]? = w.heap[b]? := fun b hb=>by
  rw [← a0]; exact(Q6 _ _ (by simp; omega)).trans (Q6 w _ hb)
 have f9:w0.heap.size≤w.heap.size:=hs.step.size
 obtain⟨S,b7⟩:∃ S:Nat→Nat→Prop,S=Ju w β (M s0):=⟨_,rfl⟩
 obtain⟨X0,b8⟩:∃ X0:Nat→Prop,X0=fun b=>∃ id,(lk (M s0) id).isSome=true∧β id=some b:=⟨_,rfl⟩
 obtain⟨E,hE⟩:∃ E:H96 κ,E={ W0:=W1,S:=S,lp:=w.heap.size+1,nx:=nx,J:=fun k X T W=>∃ β1 s,I k s∧Between P N w0 β0 L0 a.tmps a.defers l1 S W1.heap.size (w.heap.size+1) w.heap.size (rec .ready none) (M s) X T W β1 }:=⟨_,rfl⟩
 have stw1:Hc2 w β (M s0) W1 β (M s0):=by
  refine⟨fun b i h=>⟨⟨by have:=h.lt; omega,h.seen,h.kept⟩,Q2 (w:=w) (h6 b h.lt)⟩,fun _ _ cs h=>⟨rfl,cs,h⟩,fun _ _ es h=>⟨rfl,es,h⟩,fun _ _ n es h=>⟨rfl,n,es,h⟩,
   fun id _ _ ver xs h=>⟨ver,xs,h,M8,fun _=>⟨rfl,rfl,fun b hb=>G18 (h6 b (h5.sat.bnd id b (by rw [h]; rfl) hb))⟩⟩,
   fun id _ _ ver hw h=>⟨ver,hw,h,M8,fun _=>⟨rfl,rfl,fun b hb=>h6 b (h5.sat.bnd id b (by rw [h]; rfl) hb)⟩⟩⟩
 have b0:∀ d∈a.defers,∀ D',d={ target:=.collected D',args:=#[] }→D' < w.heap.size:=fun d hd D' e=>by
  obtain⟨D,e2,_,h2,_⟩:=h5.defers.each d hd
  have:D'=D:=by rw [e] at e2; injection e2 with e3; injection e3
  subst this
  exact(Ks h2).1
 have start:Between P N w0 β0 L0 a.tmps a.defers l1 S W1.heap.size (w.heap.size+1) w.heap.size (rec .ready none) (M s0) X0 (fun _ _=>False) W1 β:=by
  refine⟨⟨fun b i h=>by have:=h5.sat.hid b i h; omega,fun id b h1 h2=>by have:=h5.sat.bnd id b h1 h2; omega,h5.sat.apart,h5.sat.inj,fun id o ho=>(h5.sat.obj id o ho).stepW stw1 (fun b hb=>h6 b (h5.sat.bnd id b (by rw [ho]; rfl) hb))⟩,
   h5.step.thenW stw1 (by rw [← a0]; rfl) (by rw [← a0]; rfl) (by rw [← a0]; exact⟨rfl,M8⟩) (by omega) (fun _ _ _=>Iff.rfl) (fun b hb hf=>⟨h6 b (by omega),hf⟩),⟨fun t=>(h5.frame.tmp t).stepW stw1⟩,fun id b h1 h2=>?_,fun b h1 h2=>by omega,fun b hb=>?_,f7,f8,M8,fun b i hb=>?_,fun _ _ h=>h.elim,?_,?_⟩
  ·have:=h5.sat.bnd id b h1 h2
   exact⟨by rw [b8]; exact⟨id,h1,h2⟩,by omega,by omega⟩
  ·rw [b8] at hb; obtain⟨id,h1,h2⟩:=hb
   have:=h5.sat.bnd id b h1 h2; omega
  ·rw [b7] at hb; exact(stw1.stab b i hb).1
  ·have:=h5.defers
   rw [b5] at this
   exact this.turned (n0:=w.heap.size) b0 (fun D hD _=>h6 D hD) (fun _=>rfl)
  ·intro d hd D' e
   have:=b0 d hd D' e; omega
 have d6:E.Ok P:=by
  subst hE
  refine⟨fun k X T W W' hJ ht g0=>?_,fun m k k' us X T0 T W vs hy hJ g5 g6 c7 hD=>?_⟩
  ·obtain⟨β1,s,hI,hb⟩:=hJ
   obtain⟨g1,g2,g3⟩:=StI.round (X:=fun b=>W1.heap.size≤b∧¬ X b∧b < W.heap.size) (X':=fun b=>W1.heap.size≤b∧¬ X b∧b < W'.heap.size) (T:=T) (w':=W') hb.sat (fun b h=>⟨h.2.2,hb.hid b h.1 h.2.2 h.2.1⟩) (fun id b h1 h2 hx=>hx.2.1 (hb.obj id b h1 h2).1)
    ⟨ht.os,ht.tape,ht.output,ht.size,fun b h1 h2=>ht.keep b h1 (fun h=>h2 ⟨h.1,h.2,h1⟩)⟩ (fun b i h _=>g0 b i h) (fun b h=>⟨fun h'=>⟨h'.1,h'.2.1,h⟩,fun h'=>⟨h'.1,h'.2.1,by have:=ht.size; omega⟩⟩) (fun b h=>h.2.2)
   have b2:∀ b,b < W1.heap.size→b < W.heap.size→W'.heap[b]? = W.heap[b]? := fun b h1 h2=>ht.keep b h2 (fun h=>by have h3:W1.heap.size≤b:=h.1; omega)
   refine⟨_,s,hI,g1,hb.step.thenW g2 ht.os ht.tape ht.output ht.size (fun b i a5=>⟨fun h=>h.elim id (fun h=>by have:=hb.old; omega),.inl⟩) (fun b a5 hf=>⟨b2 b (by omega) (by have:=hb.old; omega),hf⟩),⟨fun t=>(hb.frame.tmp t).stepW g2⟩,hb.obj,fun b h1 h2 h3=>(g3 b ⟨h1,h3,h2⟩).2,fun b h=>Kt (hb.lt b h) ht.size,?_,?_,Nat.le_trans hb.old ht.size,fun b i h=>(g2.stab b i (hb.data b i h)).1,fun b i h=>⟨(hb.tdata b i h).1,(g2.stab b i (hb.tdata b i h).2).1⟩,?_,hb.deflt⟩
   ·exact(b2 _ (by omega) (Ks hb.loop).1).trans hb.loop
   ·exact(b2 _ (by omega) (Ks hb.mark).1).trans hb.mark
   ·exact hb.defs.turned hb.deflt (fun D h1 h2=>b2 D h1 (Ks h2).1) (fun _=>rfl)
  ·obtain⟨βq,s,hI,g7⟩:=hJ
   obtain⟨β1,hb⟩:∃ β1,Between P N w0 β0 L0 a.tmps a.defers l1 S W1.heap.size (w.heap.size+1) w.heap.size (rec .ready none) (M s) X T W β1:=⟨_,g7.more g5 g6 (by omega)⟩
   have b9:ps.length=us.length:=e8 k us k' hy
   have c8:=run_yield (P:=P) (args:=vs) hb.loop (by rw [h9]; simp [c7,b9])
   rw [h9] at c8
   have c9:(ps.toArray.zip vs).foldl (fun(tmps:Array Value) (x:Tmp×Value)=>tmps.setIfInBounds x.1 x.2) a.tmps=(ps.zip vs.toList).foldl (fun(tmps:Array Value) (x:Tmp×Value)=>tmps.setIfInBounds x.1 x.2) a.tmps:=by
    rw [← Array.foldl_toList,Array.toList_zip]
   have d7:w.heap.size+1 < W.heap.size:=(Ks hb.loop).1
   have d0:w.heap.size < W.heap.size:=by omega
   have nlp:∀ id,(lk (M s) id).isSome=true→β1 id≠some (w.heap.size+1):=fun id h1 h2=>(hb.obj id _ h1 h2).2.1 rfl
   have nD:∀ id,(lk (M s) id).isSome=true→β1 id≠some w.heap.size:=fun id h1 h2=>(hb.obj id _ h1 h2).2.2 rfl
   have c4:N.n≤((ps.toArray.zip vs).foldl (fun(tmps:Array Value) (x:Tmp×Value)=>tmps.setIfInBounds x.1 x.2) a.tmps).size:=by rw [c9,Y80]; exact hs.size
   have g8:Q8 { tmps:=(ps.toArray.zip vs).foldl (fun(tmps:Array Value) (x:Tmp×Value)=>tmps.setIfInBounds x.1 x.2) a.tmps,defers:=[] } W β1 (M s) (Ja6 ps us l1):=by
    rw [c9]
    refine Q8.round b9 (by simpa using c7) (fun p hp=>Kt (e9 p hp) hs.size) hb.frame (fun j u v hu hv=>.data ((hD j u v hu (by simpa using hv)).mono fun b i h=>⟨h.elim (hb.data b i) (fun h=>(hb.tdata b i h).2),rfl⟩))
   have mem_ids:∀ (L:Loc) id,(lk L id).isSome=true→id∈L.map (·.1):=fun L id h=>by
    induction L with
    | nil=>simp [lk] at h
    | cons p r ih=>
     obtain⟨j,o⟩:=p
     rw [Gi] at h
     by_cases e:j=id
     ·subst e; simp
     ·rw [if_neg e] at h; simp [ih h]
   refine⟨fn,_,assign,body,c8,roundIn_of_wpIn f6 ?_⟩
   refine wpIn_mono (hr k us k' s hy hI (w.heap.size+1) (fun l3 L3=>∃ s',I k' s'∧Fits [] l3 L3 [] (M s')) (fun l3 L3 s' h1 h2=>⟨s',h1,h2⟩) m W β1 (M s) _ W β1 ⟨hb.sat,Step.refl _ _ _,g8,c4,mem_ids (M s),.nil⟩) (fun e a1 w1 q=>?_)
   cases e with
   | normal=>
    obtain⟨βm,lm,Lm,g9,l2,L2,b6,c5⟩:=q
    obtain⟨β2,a6⟩:=b6 _ _ _ _ _ _ g9
    have st1:=a6.step
    have f1:=st1.far _ d7 nlp
    have d1:=st1.far _ d0 nD
    have a2:=f1.1.trans hb.loop
    refine⟨_,run_beginRound a2 (by rw [h9]),?_⟩
    obtain⟨W2,h7⟩:∃ W2,w1.putObj (w.heap.size+1) (.loop { rec .ready none with state:=.busy })=W2:=⟨_,rfl⟩
    have sw2:Hc2 w1 β2 L2 W2 β2 L2:=by rw [← h7]; exact Gf1 a2 (by simp) (by simp) f1.2
    have sat2:Sat W2 β2 L2:=by rw [← h7]; exact He5 a2 (by simp) (by simp) f1.2 a6.sat
    have d8:W2.heap[w.heap.size+1]? = some (.loop { rec .ready none with state:=.busy }):=by rw [← h7]; exact World.putObj_heap_same (Ks a2).1
    have oth2:∀ b,b≠w.heap.size+1→W2.heap[b]? = w1.heap[b]? := fun b hb=>by rw [← h7]; exact World.putObj_heap_other hb
    have sz2:W2.heap.size=w1.heap.size:=by rw [← h7]; exact World.putObj_size
    have a1d:a1.defers=[]:=a6.defers.top rfl
    rw [h7]
    refine wpIn_mono (c5 m W2 β2 L2 a1 W2 β2 ⟨sat2,Step.refl _ _ _,⟨fun t=>(a6.frame.tmp t).stepW sw2⟩,a6.size,mem_ids L2,by rw [a1d]; exact .nil⟩) (fun e a3 w3 q=>?_)
    cases e with
    | normal=>
     obtain⟨β3,l3,L3,a7,s',i0,b1⟩:=q
     have st2:=a7.step
     have f2:=st2.far (w.heap.size+1) (by have:=st1.size; omega) f1.2
     have d2:=st2.far w.heap.size (by have:=st1.size; omega) d1.2
     have a8:=f2.1.trans d8
     have a4:=run_endRound (P:=P) none a8
     obtain⟨W4,h8⟩:∃ W4,w3.putObj (w.heap.size+1) (.loop (rec .ready none))=W4:=⟨_,rfl⟩
     have c6:(Instr.endRound (w.heap.size+1) none).run P w3=.ok (.bool true) W4:=by
      rw [← h8]
      rw [h9] at a4 ⊢
      exact a4
     have sz4:W4.heap.size=w3.heap.size:=by rw [← h8]; exact World.putObj_size
     have oth4:∀ b,b≠w.heap.size+1→W4.heap[b]? = w3.heap[b]? := fun b hb=>by rw [← h8]; exact World.putObj_heap_other hb
     have c0:W4.heap[w.heap.size+1]? = some (.loop (rec .ready none)):=by rw [← h8]; exact World.putObj_heap_same (Ks a8).1
     have b3:Fits N.base l3 L3 [] (M s'):=⟨b1.fr,b1.loc,f3 s'⟩
     have a9:=b1.drop
     have f4:∀ id,(lk (M s') id).isSome=true→β3 id≠some (w.heap.size+1):=fun id h=>f2.2 id (a9.some h)
     have sw4:Hc2 w3 β3 (M s') W4 β3 (M s'):=by rw [← h8]; exact Gf1 a8 (by simp) (by simp) f4
     have sat3:Sat w3 β3 (M s'):=a7.sat.fits b3
     have sat4:Sat W4 β3 (M s'):=by rw [← h8]; exact He5 a8 (by simp) (by simp) f4 sat3
     have szs1:=st1.size
     have szs2:=st2.size
     have c1:w0.heap.size≤w.heap.size+1:=by omega
     -- the steps since the call began
     have g1:Step w0 β0 L0 w1 β2 L2:=hb.step.trans st1
     have g2:Step w0 β0 L0 W2 β2 L2:=by rw [← h7]; exact H99 a2 (by simp) (by simp) f1.2 w0 β0 L0 (M8) c1 g1
     have g3:Step w0 β0 L0 w3 β3 L3:=g2.trans st2
     have g3':Step w0 β0 L0 w3 β3 (M s'):=g3.drop (N:=N) (a:={ a3 with defers:=[] }) a7.sat hs.base b3 a7.size rfl ⟨a7.frame.tmp⟩
     have g4:Step w0 β0 L0 W4 β3 (M s'):=by rw [← h8]; exact H99 a8 (by simp) (by simp) f4 w0 β0 L0 (M8) c1 g3'
     have fr3:Q8 { tmps:=a.tmps,defers:=[] } w3 β3 L3 l1:=((hb.frame.step st1).stepW sw2).step st2
     have fr4:Q8 { tmps:=a.tmps,defers:=[] } W4 β3 (M s') l1:=⟨fun t=>((fr3.tmp t).conv a9 ((f0 s').get t)).stepW sw4⟩
     -- what lay in W and is none of the caller's objects
     have keepW:∀ b,b < W.heap.size→b≠w.heap.size+1→(∀ id,(lk (M s) id).isSome=true→β1 id≠some b)→W4.heap[b]? = W.heap[b]? ∧ ∀ id,(lk L3 id).isSome=true→β3 id≠some b:=fun b i1 d3 i2=>by
      obtain⟨e1,e2⟩:=st1.far b i1 i2
      obtain⟨e3,e4⟩:=st2.far b (by omega) e2
      exact⟨(oth4 b d3).trans (e3.trans ((oth2 b d3).trans e1)),e4⟩
     have d4:=keepW w.heap.size d0 (by omega) nD
     have stabW:∀ b i,Ju W β1 (M s) b i→Ju W4 β3 (M s') b i:=fun b i h=>(sw4.stab b i (a9.stab (st2.stab b i (sw2.stab b i (st1.stab b i h).1).1).1)).1
     refine⟨_,_,c6,rfl,fun b=>X b∨(W.heap.size≤b∧b < W4.heap.size),⟨β3,s',i0,sat4,g4,fr4,fun id b h1 h2=>?_,fun b h1 h2 h3 i h4=>?_,fun b h=>h.elim (fun h=>by have:=hb.lt b h; omega) (fun h=>h.2),c0,d4.1.trans hb.mark,by have:=hb.old; omega,fun b i h=>stabW b i (hb.data b i h),fun b i h=>⟨(hb.tdata b i h).1,stabW b i (hb.tdata b i h).2⟩,?_,hb.deflt⟩,⟨?_,?_,?_,by omega,fun b h1 h2=>?_⟩,fun b h=>⟨fun h'=>h'.elim _root_.id (fun h'=>by omega),.inl⟩,fun b h=>h.elim (fun h=>by have:=hb.lt b h; omega) (fun h=>h.2)⟩
     ·have c2:=a9.some h1
      refine⟨?_,fun e=>f4 id h1 (by rw [h2,e]),fun e=>d4.2 id c2 (by rw [h2,e])⟩
      rcases Kx b W.heap.size with a5 | i3
      ·refine .inl (Classical.byContradiction fun hx=>?_)
       exact(keepW b a5 (fun e=>f4 id h1 (by rw [h2,e])) (fun id' h3 h4=>hx (hb.obj id' b h3 h4).1)).2 id c2 h2
      ·exact .inr ⟨i3,by have:=sat4.bnd id b h1 h2; exact this⟩
     ·have a5:b < W.heap.size:=Nat.lt_of_not_le fun h=>h3 (.inr ⟨h,h2⟩)
      have:=hb.hid b h1 a5 (fun h=>h3 (.inl h)) i h4
      exact(st2.hid b i (by omega)).2 ((st1.hid b i a5).2 this)
     ·have q1:=hb.defs.step st1
      have nel:∀ d∈a.defers,∀ D',d={ target:=.collected D',args:=#[] }→W.heap[D']? = some (.deferred (some []))→D'≠w.heap.size+1:=fun d _ D' _ h e=>by rw [e,hb.loop] at h; cases h
      refine⟨q1.top,q1.nodup,fun d hd=>?_⟩
      obtain⟨D',e,h1,h2,h3⟩:=hb.defs.each d hd
      have i4:=nel d hd D' e h2
      have d5:=keepW D' (Ks h2).1 i4 h3
      exact⟨D',e,h1,d5.1.trans h2,fun id hi=>d5.2 id (a9.some hi)⟩
     ·rw [← h8]; exact st2.os.trans (by rw [← h7]; exact st1.os)
     ·rw [← h8]; exact st2.tape.trans (by rw [← h7]; exact st1.tape)
     ·have e2:=st2.output
      have e1:=st1.output
      rw [← h7] at e2
      rw [← h8]
      exact⟨e2.1.trans e1.1,Nat.le_trans e1.2 e2.2⟩
     ·by_cases e:b=w.heap.size+1
      ·rw [e,c0,hb.loop]
      ·exact(keepW b h1 e (fun id h3 h4=>h2 (hb.obj id b h3 h4).1)).1
    | ret=>obtain⟨_,_,_,_,hq⟩:=q; exact hq.elim
    | exit i=>obtain⟨_,_,_,_,hq⟩:=q; exact hq.elim
    | goto t=>exact q.elim
    | panic c=>exact q.elim
    | outgrown=>exact q.elim
   | ret=>obtain⟨_,_,_,_,hq⟩:=q; exact hq.elim
   | exit i=>obtain⟨_,_,_,_,hq⟩:=q; exact hq.elim
   | goto t=>exact q.elim
   | panic c=>exact q.elim
   | outgrown=>exact q.elim
 have d9:∀ (j:Nat) u v,caps[j]? = some u→lb[j]? = some v→D W1 S u v:=fun j u v hu hv=>by
  have:=(b6 j u v hu hv).toD (G0d e5 u (M6 hu))
  refine this.mono fun b i h=>?_
  have h':=hf.drop.stab h
  refine⟨by rw [b7]; exact h',Q2 (w:=w) (h6 b h'.lt)⟩
 have i5:∀ b i,S b i→b < W1.heap.size∧¬ X0 b:=fun b i h=>by
  rw [b7] at h
  refine⟨by have:=h.lt; omega,fun hx=>?_⟩
  rw [b8] at hx
  obtain⟨id,h1,h2⟩:=hx
  obtain⟨o,ho⟩:=Kr h1
  exact Qfb e7 ho i (h.kept id o ho h2)
 have e0:∀ b,X0 b→b < W1.heap.size:=start.lt
 have b4:=e6 (n - 1) E lb X0 d6 (by rw [hE]) f5 (by rw [hE]; exact d9) (by rw [hE]; exact i5) (by rw [hE]; exact e0) (by rw [hE]; exact⟨β,s0,h0,start⟩)
 refine⟨w.heap.size+1,[{ target:=.collected w.heap.size,args:=#[] }],W1,{ target:=.fn (.func gf) lb,args:=#[.func (.yield (w.heap.size+1)) #[] #[]] },W1,gf,
  #[.func (.yield (w.heap.size+1)) #[] #[]]++lb,W1,?_,?_,fun _ _=>trivial,?_,fun e=>(by cases e),?_⟩
 ·rw [← a0,h9]; exact run_enterLoop_outer _ _ _ _ _
 ·simp only [resolve,he]
  simp [go_sem]
 ·simp [invoke,go_sem,H7.out hB]
 ·rw [hE] at b4
  refine CallsIn.mono (F:=FR none) b4 fun e W2 h=>?_
  obtain⟨⟨v,rfl⟩,k,X,T,i6,β1,s,hI,hb⟩:=h
  have a4:=run_endLoop (P:=P) hb.loop (by rw [h9]; simp)
  refine⟨none,W2.putObj (w.heap.size+1) (.loop { rec .ready none with state:=.exhausted }),by rw [h9] at a4 ⊢; exact a4,β1,l1,M s,?_,c3 k s i6 hI⟩
  have nlp:∀ id,(lk (M s) id).isSome=true→β1 id≠some (w.heap.size+1):=fun id h1 h2=>(hb.obj id _ h1 h2).2.1 rfl
  refine⟨He5 hb.loop (by simp) (by simp) nlp hb.sat,H99 hb.loop (by simp) (by simp) nlp w0 β0 L0 (M8) (by omega) hb.step,⟨fun t=>(hb.frame.tmp t).stepW (Gf1 hb.loop (by simp) (by simp) nlp)⟩,hs.size,hs.base,?_⟩
  rw [b5]
  refine⟨fun h=>(by cases h),List.nodup_cons.2 ⟨fun h=>?_,hb.defs.nodup⟩,fun d hd=>?_⟩
  ·have:=b0 _ h _ rfl; omega
  ·rcases Mo.1 hd with rfl | hd
   ·exact⟨_,rfl,f9,(World.putObj_heap_other (by omega)).trans hb.mark,fun id h1 h2=>(hb.obj id _ h1 h2).2.2 rfl⟩
   ·obtain⟨D',e,h1,h2,h3⟩:=hb.defs.each d hd
    refine⟨D',e,h1,(World.putObj_heap_other fun e2=>?_).trans h2,h3⟩
    rw [e2,hb.loop] at h2; cases h2
theorem Jc5 {P:Program} {N:Cfg} {gop:Operand} {ps:List Tmp} {assign body:Code} {Q:Post} {l:Fr} {L:Loc} (l1:Fr) {gf:FuncId} {caps:List AV} (ys:List (List AV)) {σ:Type} (I:Nat→σ→Prop) (M:σ→Loc) (s0:σ)
  (h3:N.ro=none) (hg:ev l gop=.fn gf caps) (h4:Qz (fun _=>false) caps=true) (hB:H7 P gf=true) (h5:Iter P gf caps ys) (h0:I 0 s0) (hf:Fits N.base l L l1 (M s0)) (h6:J7c (M s0)=true)
  (h7:∀ us∈ys,ps.length=us.length) (h8:∀ p∈ps,p < N.n) (h9:∀ s,Jc7 (fun i=>(lk (M s) i).isSome) l1 l1) (a0:∀ s,allIn (M s) N.base=true)
  (hr:∀ k us s,ys[k]? = some us→I k s→∀ (lr:Nat) (K:Fr→Loc→Prop),(∀ l L s',I (k+1) s'→Fits [] l L [] (M s')→K l L) →
   JC P ⟨N.n,(M s).map (·.1),some lr⟩ assign ⟨fun l2 L2=>Mid P ⟨N.n,(M s).map (·.1),some lr⟩ body ⟨K,fun _ _=>False,fun _ _ _=>False⟩ l2 L2,fun _ _=>False,fun _ _ _=>False⟩ (Ja6 ps us l1) (M s))
  (h2:∀ s,I ys.length s→Q.norm l1 (M s)):JC P N (.rangeFunc gop ps.toArray assign body) Q l L:=
 H27 l1 I M s0 h3 hg h4 hB h5 h0 hf h6 (fun k us k' h=>h7 us (M6 h.1)) h8 h9 a0 (fun k us k' s h hI=>by
  obtain⟨h1,rfl⟩:=h
  exact hr k us s h1 hI) (fun k s e hI=>by subst e; exact h2 s hI)
set_option linter.unusedSimpArgs false

theorem Rk.vecCell {N:Cfg} {w0 w:World} {β0 β:H5} {L0 L:Loc} {a:Act} {l:Fr} (hs:Rk N w0 β0 L0 a w β l L) (i j id E k:Nat) {t:TypeId} {cs cs':List AV} (hi:lk L i=some (.box t cs)) (hid:lk L id=none) (hj:cs[j]? = some (.sc (.slice none 0 0)))
  (h2:cs.set j (.vec id 0 k 0)=cs'):∃ β',Rk N w0 β0 L0 a w β' l ((i,.box t cs')::(id,.vec E k 0 [])::L):=by
 obtain⟨st,sat⟩:=Rw (w':=w) (t:=E) (k:=k) (ver1:=0) (xs':=[]) (ob':=none) hs.sat (.inl hid) rfl rfl ⟨rfl,M8⟩ (M8) (fun _ _ _=>rfl) (.inl rfl)
 have h1:Rk N w0 β0 L0 a w (upP β id none) l ((id,.vec E k 0 [])::L):=⟨sat ⟨by simp,.inl ⟨rfl,rfl⟩⟩,hs.step.trans st,hs.frame.step st,hs.size,hs.base,hs.defers.step st⟩
 have h3:id≠i:=fun e=>by subst e; rw [hi] at hid; cases hid
 refine⟨_,h1.redescribe (i:=i) (t:=t) (cs:=cs) (by rw [Gi,if_neg h3]; exact hi) (by rw [← h2]; simp) fun vs q u v h0 h5 hu hv=>?_⟩
 rw [← h2] at hu
 by_cases e:j=q
 ·subst e
  have h4:j < cs.length:=(M3 hj).1
  simp [List.getElem?_set,h4] at hu
  subst hu
  have:=h0 j _ v hj hv
  rw [this.inv_sc]
  exact .vec ⟨E,0,[],(by rw [Gi,if_pos rfl]:lk ((id,Ji.vec E k 0 [])::L) id=_),M8,fun _=>⟨rfl,.inl ⟨rfl,rfl,by rw [show (upP β id none).at_ id=none by simp [upP]]⟩⟩⟩ rfl
 ·rw [List.getElem?_set_ne e] at hu
  exact h0 q u v hu hv
theorem Y10 {P:Program} {N:Cfg} {ops:Array Oper} {rest:List Oper} {Q:Post} {l:Fr} {L:Loc} (i j id E k:Nat) {t:TypeId} {cs cs':List AV} (hi:lk L i=some (.box t cs)) (hid:lk L id=none) (hj:cs[j]? = some (.sc (.slice none 0 0)))
  (h0:cs.set j (.vec id 0 k 0)=cs') (hk:JL P N ops rest Q l ((i,.box t cs')::(id,.vec E k 0 [])::L)):JL P N ops rest Q l L:=
 fun n w0 β0 L0 a w β hs=>by
  obtain⟨β',h⟩:=hs.vecCell i j id E k hi hid hj h0
  exact hk n w0 β0 L0 a w β' h

theorem Jh.ver {P:Program} {f:FuncId} {args:List AV} {i t k n:Nat} {xs:List AV} (h:Jh P f args [] (fun u L'=>∃ p:Nat,u=.vec i p k n∧L'=[(i,.vec t k p xs)])) (q:Nat):Jh P f args [] (fun u L'=>u=.vec i q k n∧L'=[(i,.vec t k q xs)]):=by
 intro w β vs h6 hl hv
 refine(h w β vs h6 hl hv).mono fun e w' hr=>?_
 obtain⟨v,r,β',L',rfl,hs,st,h8,p,rfl,rfl⟩:=hr
 have h4:∀ id,(lk [(i,Ji.vec t k p xs)] id).isSome=(lk [(i,Ji.vec t k q xs)] id).isSome:=fun id=>by
  rw [Gi,Gi]; split <;> rfl
 have h5:∀ b j,Ju w' β' [(i,Ji.vec t k p xs)] b j→Ju w' β' [(i,Ji.vec t k q xs)] b j:=fun b j h=>⟨h.lt,h.seen,fun id o ho hb=>by
  rw [Gi] at ho
  by_cases e:i=id
  ·subst e
   rw [if_pos rfl] at ho; cases ho
   exact(show False from h.kept i (.vec t k p xs) (by rw [Gi,if_pos rfl]) hb).elim
  ·rw [if_neg e] at ho; cases ho⟩
 refine⟨v,_,β',_,rfl,⟨hs.hid,fun id b h1=>hs.bnd id b (by rw [h4]; exact h1),fun id b j h1=>hs.apart id b j (by rw [h4]; exact h1),fun id id' b h1 h2=>hs.inj id id' b (by rw [h4]; exact h1) (by rw [h4]; exact h2),fun id o ho=>?_⟩,
  ⟨st.os,st.tape,st.output,st.size,st.hid,fun b j h=>⟨h5 b j (st.stab b j h).1,(st.stab b j h).2⟩,fun b hb hf=>⟨(st.far b hb hf).1,fun id hid=>(st.far b hb hf).2 id (by rw [h4]; exact hid)⟩,fun id t cs h=>by simp [lk] at h,fun id t cs h=>by simp [lk] at h,fun id t n cs h=>by simp [lk] at h,fun id t k ver xs h=>by simp [lk] at h,fun id t k ver xs h=>by simp [lk] at h⟩,?_,rfl,rfl⟩
 ·rw [Gi] at ho
  by_cases e:i=id
  ·subst e
   rw [if_pos rfl] at ho; cases ho
   have h0:=hs.obj i _ (by rw [Gi,if_pos rfl])
   refine⟨h0.1,h0.2.imp_right ?_⟩
   rintro⟨b,hb,vs,a1,a2,a3⟩
   exact⟨b,hb,vs,a1,a2,fun j u v hu hv=>(a3 j u v hu hv).mono fun b i hs=>⟨h5 b i hs,rfl⟩⟩
  ·rw [if_neg e] at ho; cases ho
 ·cases h8 with
  | data h=>cases h
  | vec hp h7=>
   obtain⟨t',ver',xs',h1,_,h3⟩:=hp
   rw [Gi,if_pos rfl] at h1; cases h1
   exact .vec ⟨t,q,xs,by rw [Gi,if_pos rfl],M8,fun _=>h3 rfl⟩ h7
theorem Jh.fresh0 {P:Program} {f:FuncId} {args:List AV} {i E k n:Nat} {xs:List AV} (h:Jh P f args [] (fun av L'=>∃ p,av=.vec i p k n∧L'=[(i,.vec E k p xs)])):Jh P f args [] (fun av L'=>av=.vec i 0 k n∧L'=[(i,.vec E k 0 xs)]):=h.ver 0

theorem Jh.data0 {P:Program} {f:FuncId} {args:List AV} {i E k n:Nat} {xs:List AV} (h:Jh P f args [] (fun av L'=>∃ p,av=.vec i p k n∧L'=[(i,.vec E k p xs)])):Pure P f args (·=.list k xs):=by
 intro w β vs h0 hl hv
 refine(h w β vs h0 hl hv).mono fun e w' hh=>?_
 obtain⟨v,r,β',L',rfl,hs,st,h1,p,rfl,rfl⟩:=hh
 have hd:V w' β' [] (.list k xs) v:=V.vfreeze hs (by rw [Gi,if_pos rfl]) ⟨fun id o h=>by simp [lk] at h⟩ rfl h1
 refine⟨v,_,β',[],rfl,⟨hs.hid,fun id b h=>by simp [lk] at h,fun id b j h=>by simp [lk] at h,fun id id' b h=>by simp [lk] at h,fun id o h=>by simp [lk] at h⟩,
  ⟨st.os,st.tape,st.output,st.size,st.hid,fun b j hb=>⟨⟨(st.stab b j hb).1.lt,(st.stab b j hb).1.seen,fun id o h=>by simp [lk] at h⟩,(st.stab b j hb).2⟩,fun b hb hf=>⟨(st.far b hb hf).1,fun id h=>by simp [lk] at h⟩,fun id t cs h=>by simp [lk] at h,fun id t cs h=>by simp [lk] at h,fun id m n es h=>by simp [lk] at h,fun id t k ver xs h=>by simp [lk] at h,fun id t k ver hw h=>by simp [lk] at h⟩,hd,rfl,rfl⟩

def Gce (l:Fr):List Operand→List AV→Prop
 | [],[]=>True
 | x::r,u::s=>((ev l x).plain=u∨∃ k,u=.list k []∧ev l x=.sc (.slice none 0 0))∧u.isData=true∧Gce l r s
 | _,_=>False
theorem Gce.length {l:Fr}:∀ {xs:List Operand} {us:List AV},Gce l xs us→xs.length=us.length
 | [],[],_=>rfl
 | _::_,_::_,h=>by simp [Gce.length h.2.2]
 | [],_::_,h=>h.elim
 | _::_,[],h=>h.elim
theorem Gce.get {l:Fr}:∀ {xs:List Operand} {us:List AV},Gce l xs us→∀ {j:Nat} {x:Operand} {u:AV},xs[j]? = some x→us[j]? = some u→((ev l x).plain=u∨∃ k,u=.list k []∧ev l x=.sc (.slice none 0 0))∧u.isData=true
 | x::r,u::s,h,j,x',u',hx,hu=>by
  cases j with
  | zero=>simp at hx hu; subst hx; subst hu; exact⟨h.1,h.2.1⟩
  | succ j=>simp at hx hu; exact h.2.2.get hx hu
 | [],[],_,j,_,_,hx,_=>by simp at hx
 | [],_::_,h,_,_,_,_,_=>h.elim
 | _::_,[],h,_,_,_,_,_=>h.elim
theorem Ycc {P:Program} {o:Oper} {l:Fr} {L:Loc} {u:AV} {f:FuncId} {xs:List Operand} {args:List AV} {ts:Array TypeId} (ho:o.op=.call { callee:=.value (.func f),args:=xs.toArray,argTypes:=ts }) (hc:Pure P f args (·=u)) (hB:H7 P f=true) (ha:Gce l xs args):H2 P o l L (Is u L):=by
 intro a w β K Q h0 hf hK
 have hr:(execOp a.eval o).run P w=.ok (.enter f (xs.toArray.map a.eval)) w:=by
  simp [execOp,ho,resolve,Act.eval,Deferred.ofValue,invoke,H7.out hB]
 unfold Oper.wp
 rw [hr]
 show Calls P f _ w _
 refine(J3c hc h0 (vs:=xs.toArray.map a.eval) (by simp [ha.length]) (fun j u v hu hv=>?_)).mono fun e w' h=>?_
 ·simp only [Array.getElem?_map,List.getElem?_toArray,Option.map_eq_some_iff] at hv
  obtain⟨x,hx,rfl⟩:=hv
  obtain⟨h1,h2⟩:=ha.get hx hu
  rcases h1 with h1 | ⟨k0,h1,h3⟩
  ·have:=(hf.ev x).plain
   rw [h1] at this
   exact this.toD h2
  ·have hv:=hf.ev x
   rw [h3] at hv
   rw [h1,hv.inv_sc]
   exact .nil (Nat.zero_le _)
 ·obtain⟨v,r,rfl,h1,h2,h3,h4⟩:=h
  exact hK r L v w' β ⟨h4,rfl⟩ h1 h2 h3
/-! ### A variable of a map's type is set anew: the new map takes the old one's name -/

theorem Q83 {P:Program} {o:Oper} {a:Act} {w:World} {T E k:Nat} (ho:o.op=.buildSlice T 0 #[]) (hT:sliceB P T E k=true):(execOp a.eval o).run P w=.ok (.value (.slice (some ⟨w.heap.size,0,none⟩) 0 0)) (w.alloc (.cells #[] E)):=by
 have h0:=Qe (sliceB.out hT).2 w
 simp [execOp,ho,Instr.buildSlice,underlying,(sliceB.out hT).1,run_program,Sem.run_bind,Result.andThen_ok,h0,newRow,Instr.fill]
 exact congrArg (fun x=>w.alloc (Obj.cells x E)) (Array.toList_inj.1 (by simp))

theorem Y25 {w:World} {β:H5} {L:Loc} {i:Nat} (E k:Nat) (vs:Array Value) (cap:Nat) (h7:cap≤maxLen) (h8:(w.alloc (.cells vs E)).ownsRow 0 E k (.slice (some ⟨w.heap.size,0,none⟩) 0 cap) 0 []) (h0:Sat w β L) (hi:lk L i=none) :
  Step w β L (w.alloc (.cells vs E)) (upP β i (some w.heap.size)) ((i,.spare E k 0 0)::L)∧Sat (w.alloc (.cells vs E)) (upP β i (some w.heap.size)) ((i,.spare E k 0 0)::L) ∧
  V (w.alloc (.cells vs E)) (upP β i (some w.heap.size)) ((i,.spare E k 0 0)::L) (.own i 0 k []) (.slice (some ⟨w.heap.size,0,none⟩) 0 cap):=by
 have a0:∀ id,(lk L id).isSome=true→i≠id:=fun id h e=>by subst e; rw [hi] at h; cases h
 have h5:∀ b,b < w.heap.size→(w.alloc (.cells vs E)).heap[b]? = w.heap[b]? := fun b hb=>Q6 w _ hb
 have h6:w.heap.size < (w.alloc (.cells vs E)).heap.size:=by simp
 have st:Step w β L (w.alloc (.cells vs E)) (upP β i (some w.heap.size)) ((i,.spare E k 0 0)::L):=by
  refine⟨rfl,rfl,⟨rfl,M8⟩,Nat.le_of_lt h6,fun _ _ _=>Iff.rfl,fun b j hs=>⟨⟨Nat.lt_trans hs.lt h6,hs.seen,fun id ob hid hb=>?_⟩,Q2 (w:=w) (h5 b hs.lt)⟩,fun b hb h9=>⟨h5 b hb,fun id hid e=>?_⟩,fun id t cs hid=>?_,fun id t cs hid=>?_,fun id t n cs hid=>?_,fun id t k' ver xs hid=>?_,fun id t k' ver hw hid=>?_⟩
  ·rw [Gi] at hid
   by_cases e:i=id
   ·subst e; simp only [upP,if_true] at hb; cases hb; exact absurd hs.lt (Nat.lt_irrefl _)
   ·rw [if_neg e] at hid; simp only [upP,if_neg (Ne.symm e)] at hb; exact hs.kept id ob hid hb
  ·rw [Gi] at hid
   by_cases e':i=id
   ·subst e'; simp only [upP,if_true] at e; cases e; exact absurd hb (Nat.lt_irrefl _)
   ·rw [if_neg e'] at hid; simp only [upP,if_neg (Ne.symm e')] at e; exact h9 id hid e
  all_goals
   have e:=a0 id (by rw [hid]; rfl)
  ·exact⟨by simp [upP,Ne.symm e],cs,by rw [Gi,if_neg e]; exact hid⟩
  ·exact⟨by simp [upP,Ne.symm e],cs,by rw [Gi,if_neg e]; exact hid⟩
  ·exact⟨by simp [upP,Ne.symm e],n,cs,by rw [Gi,if_neg e]; exact hid⟩
  ·exact⟨ver,xs,by rw [Gi,if_neg e]; exact hid,M8,fun _=>⟨rfl,by simp [upP,Ne.symm e],fun b hb=>G18 (h5 b (h0.bnd id b (by rw [hid]; rfl) hb))⟩⟩
  ·exact⟨ver,hw,by rw [Gi,if_neg e]; exact hid,M8,fun _=>⟨rfl,by simp [upP,Ne.symm e],fun b hb=>h5 b (h0.bnd id b (by rw [hid]; rfl) hb)⟩⟩
 refine⟨st,⟨fun b j h=>Nat.lt_trans (h0.hid b j h) h6,fun id b hid hb=>?_,fun id b j hid hb hh=>?_,fun id id' b h1 h2 h3 h4=>?_,fun id ob hid=>?_⟩,?_⟩
 ·rw [Gi] at hid
  by_cases e:i=id
  ·subst e; simp only [upP,if_true] at hb; cases hb; exact h6
  ·rw [if_neg e] at hid; simp only [upP,if_neg (Ne.symm e)] at hb; exact Nat.lt_trans (h0.bnd id b hid hb) h6
 ·rw [Gi] at hid
  by_cases e:i=id
  ·subst e; simp only [upP,if_true] at hb; cases hb; exact absurd (h0.hid _ _ hh) (Nat.lt_irrefl _)
  ·rw [if_neg e] at hid; simp only [upP,if_neg (Ne.symm e)] at hb; exact h0.apart id b j hid hb hh
 ·by_cases e:i=id
  ·by_cases e':i=id'
   ·rw [← e,e']
   ·subst e
    rw [Gi,if_neg e'] at h2
    simp only [upP,if_true] at h3
    simp only [upP,if_neg (Ne.symm e')] at h4
    cases h3
    exact absurd (h0.bnd id' _ h2 h4) (Nat.lt_irrefl _)
  ·by_cases e':i=id'
   ·subst e'
    rw [Gi,if_neg e] at h1
    simp only [upP,if_true] at h4
    simp only [upP,if_neg (Ne.symm e)] at h3
    cases h4
    exact absurd (h0.bnd id _ h1 h3) (Nat.lt_irrefl _)
   ·rw [Gi,if_neg e] at h1
    rw [Gi,if_neg e'] at h2
    simp only [upP,if_neg (Ne.symm e)] at h3
    simp only [upP,if_neg (Ne.symm e')] at h4
    exact h0.inj id id' b h1 h2 h3 h4
 ·rw [Gi] at hid
  by_cases e:i=id
  ·subst e; simp at hid; subst hid
   exact .inr ⟨w.heap.size,by simp [upP],vs,heap_alloc_new w _,by simp⟩
  ·rw [if_neg e] at hid
   simp only [upP,if_neg (Ne.symm e)]
   exact(h0.obj id ob hid).step st (fun b hb=>h5 b (h0.bnd id b (by rw [hid]; rfl) hb))
 ·exact .own (.nil h7) ⟨E,0,0,by rw [Gi,if_pos rfl],M8,fun _=>⟨rfl,by simp [Value.ownBlock,upP],[],h8,fun j u hu=>by simp [flat] at hu⟩⟩

theorem Yda {w:World} {β:H5} {L:Loc} {i:Nat} (E k:Nat) (h0:Sat w β L) (hi:lk L i=none) :
  Step w β L (w.alloc (.cells #[] E)) (upP β i (some w.heap.size)) ((i,.spare E k 0 0)::L)∧Sat (w.alloc (.cells #[] E)) (upP β i (some w.heap.size)) ((i,.spare E k 0 0)::L) ∧
  V (w.alloc (.cells #[] E)) (upP β i (some w.heap.size)) ((i,.spare E k 0 0)::L) (.own i 0 k []) (.slice (some ⟨w.heap.size,0,none⟩) 0 0):=
 Y25 E k #[] 0 (Nat.zero_le _) (World.ownsRow_lit w #[] 0 (Nat.zero_le _) (Nat.zero_le _) (by simp)) h0 hi

def Jb4 (P:Program) (T f off:Nat):Bool:=
 match P.underlying T with
 | some (.struct fs)=>match fs[f]? with
  | some fld=>fld.offset==off&&Y6 P fld.type
  | none=>false
 | _=>false
theorem Jb4.out {P:Program} {T f off:Nat} (h:Jb4 P T f off=true):∃ fs fld,P.underlying T=some (.struct fs)∧fs[f]? = some fld∧fld.offset=off∧Y6 P fld.type=true:=by
 unfold Jb4 at h
 split at h
 ·rename_i fs h1
  split at h
  ·rename_i fld h2
   simp only [Mh,beq_iff_eq] at h
   exact⟨fs,fld,h1,h2,h.1,h.2⟩
  ·cases h
 ·cases h

def R11 (P:Program) (T n k:Nat):Bool:=
 match P.underlying T with
 | some (.array m e)=>m==n&&Yx P e k
 | _=>false
section ops
variable {P:Program} {N:Cfg} {o:Oper} {l:Fr} {L L':Loc} {u:AV} {α:Type}

theorem Hcd (i E k:Nat) {T:Nat} (ho:o.op=.buildSlice T 0 #[]) (hi:lk L i=none) (hT:sliceB P T E k=true):H2 P o l L (Is (.own i 0 k []) ((i,.spare E k 0 0)::L)):=by
 intro a w β K Q h0 hf hK
 unfold Oper.wp
 rw [Q83 (E:=E) (k:=k) ho hT]
 obtain⟨st,sat,hv⟩:=Yda E k h0 hi
 exact hK _ _ _ _ _ ⟨rfl,rfl⟩ sat st hv

theorem Q32 (w:World) (base:Nat) (t ty e:TypeId) (i:TypeInfo) (size:Nat) (ht:P.underlying t=some (.slice e)) (hi:P.info? e=some i)
  (v:Value) (n:Nat) (xs:List Value) (h0:w.ownsRow base e size v n xs) (ao:Option Addr) (c:Nat) :
  (Builtin.append_ #[t,t] ty #[v,.slice ao 0 c]).run P w=.ok v w:=by
 rcases h0.2 with ⟨rfl,rfl⟩ | ⟨g,cap,cur,rfl,_,_,h1,_⟩
 ·cases ao <;> simp [Builtin.append_,run_underlying ht,sizeOf,typeInfo,hi,Builtin.lenOf,Builtin.firstCells,loadCells,loadCellsFrom]
 ·cases ao <;> simp [Builtin.append_,run_underlying ht,sizeOf,typeInfo,hi,Builtin.lenOf,Builtin.firstCells,h1,storeCells,loadCells,loadCellsFrom]

theorem Y7e {s x:Operand} {T E k by_ i ver n:Nat} {kx:Nat} {xs:List AV} (ho:o.op=.call { callee:=.builtin .append,args:=#[s,x],argTypes:=#[T,T] }) (hs:ev l s=.own i ver k xs) (hi:lk L i=some (.spare E k ver n)) (hx:Qf (ev l x)=some (kx,[]))
  (hT:sliceB P T E k=true) (hE:Z8 P E k by_=true):H2 P o l L (Is (.own i ver k xs) L):=
 Hj fun a w β h7 hf=>by
  have hv:=hf.ev s
  rw [hs] at hv
  have h4:=(hf.ev x).Qf hx
  obtain⟨ao,cap,h5,_⟩:=h4.len
  obtain⟨inf,z,e1,e2,e3,e4,e5,e6⟩:=Z8.out hE
  have h6:=hv
  cases hv with
  | data h=>cases h
  | own hd hp=>
   obtain⟨t,ver',hw,h1,h2,h3⟩:=hp
   rw [hi] at h1
   cases h1
   obtain⟨rfl,h8,vals,h0,h9⟩:=h3 rfl
   have hr:=Q32 (P:=P) w 0 T o.type E inf k (sliceB.out hT).1 e1 (a.eval s) _ _ h0 ao cap
   exact⟨a.eval s,by simp [execOp,ho,resolve,invoke,builtin,h5,hr],h6⟩

theorem H66 {L:Loc} {s x:Operand} {T E k by_ i kx:Nat} {f:α→AV} {xs ys:List α} (ho:o.op=.call { callee:=.builtin .append,args:=#[s,x],argTypes:=#[T,T] }) (hs:ev l s=OW i k f xs) (hi:lk L i=some (.spare E k xs.length xs.length)) (hx:Qf (ev l x)=some (kx,ys.map f))
  (hT:sliceB P T E k=true) (hE:Z8 P E k by_=true) (hb:decide ((xs.length+ys.length)*by_≤140737488355328∧xs.length+ys.length≤maxLen)=true) (h2:∀ y,(f y).flatOk=true) (hk:kx=k∨ys=[]) :
  H2 P o l L (Is (OW i k f (xs++ys)) ((i,.spare E k (xs++ys).length (xs++ys).length)::L)):=by
 have h3:=Kz hb
 by_cases h0:ys=[]
 ·subst h0
  have h:=Y7e (P:=P) (o:=o) (by_:=by_) ho hs hi (by simpa using hx) hT hE
  rw [List.append_nil]
  intro a w β K Q h4 hf hK
  refine h a w β K Q h4 hf (fun u L1 v w1 β1 hu h5 st1 h6=>?_)
  obtain⟨rfl,rfl⟩:=hu
  have h1:Ha4 L1 ((i,.spare E k xs.length xs.length)::L1):=fun j=>by
   rw [Gi]
   by_cases e:i=j
   ·subst e; rw [if_pos rfl,hi]
   ·rw [if_neg e]
  exact hK _ _ v w1 β1 ⟨rfl,rfl⟩ (h5.locEq h1) (st1.locEq h1) (h6.locEq h1)
 ·have h:=Jf9 (ver1:=(xs++ys).length) (xs:=xs.map f) (ys:=ys.map f) ho hs hi hx hT hE (by simpa using h3.1) (by simpa using h3.2) (fun y hy=>by
   obtain⟨z,_,rfl⟩:=Mm.1 hy
   exact h2 z) (hk.imp id (fun e=>by rw [e]; rfl)) (by
   have:=List.length_pos_iff.2 h0
   rw [Mf]; omega)
  simpa only [OW,List.map_append,Mf,Mj] using h
def R12 (P:Program) (T n:Nat):Bool:=
 match P.underlying T with
 | some (.array m e)=>m==n&&(Y6 P e&&Yx P e 1)
 | _=>false
theorem R12.out {P:Program} {T n:Nat} (h:R12 P T n=true):∃ e,P.underlying T=some (.array n e)∧Y6 P e=true∧Yx P e 1=true:=by
 unfold R12 at h
 split at h
 ·rename_i m e h1
  simp only [Mh,beq_iff_eq] at h
  obtain⟨rfl,h2,h3⟩:=h
  exact⟨_,h1,h2,h3⟩
 ·cases h
theorem J51 {x ix:Operand} {T n j:Nat} {kd:IntKind} {z:Int} {cs:List AV} (hT:R12 P T n=true) (ho:o.op=.index T x ix) (hx:ev l x=.agg cs) (hi:ev l ix=.sc (.int kd z)) (hz:z=(j:Int)) (h0:Nat.blt j n=true) (hn:cs[j]? = some u):H2 P o l L (Is u L):=
 Hj fun a w β _ hf=>by
  have h1:=hf.ev x
  rw [hx] at h1
  have h2:=hf.ev ix
  rw [hi] at h2
  obtain⟨vs,he,hl,hv⟩:=h1.inv_agg
  have h3:j < vs.size:=by
   rw [hl]
   rcases Kx j cs.length with h | h
   ·exact h
   ·simp [List.getElem?_eq_none h] at hn
  obtain⟨e,g1,g2,g3⟩:=R12.out hT
  have hs:=Qe g3 w
  have h4:j < n:=by rw [Nat.blt_eq] at h0; exact h0
  have hb:(0:Int)≤(j:Int)∧(j:Int) < (n:Int):=by omega
  subst hz
  exact⟨vs[j],by simp [execOp,ho,Instr.index,asIntOf,underlying,g1,he,h2.inv_sc,hb,hs,asAgg,part,H40 g2,h3]; intro hc; omega,hv j u _ hn (by simp [h3])⟩
theorem R1a {x y:Operand} {T i ver m t k kk fo:Nat} {f:α→AV} {xs:List α} {e z:α} {u:AV} (hT:Yx P T kk=true) (ho:o.op=.store T x y) (hu:ev l y=u) (hx:ev l x=.vptr i ver m fo) (hi:lk L i=some (.vec t k ver (xs.map f))) (he:xs[m]? = some e)
  (hc:u.flatOk=true) (hd:u.isData=true) (h1:J53 fo u.cells (f e).cells=some (f z).cells) (hk:u.cells.length=kk) (h0:Nat.blt 0 kk=true) :
  H2 P o l L (Is .junk ((i,.vec t k ver ((xs.set m z).map f))::L)):=by
 have h:=Ra5 (P:=P) (e:=f e) (z:=f z) (ds:=(f z).cells) hT ho hu hx hi (Ydd he) hc hd h1 rfl hk h0
 rw [← List.map_set] at h
 exact h
end ops

theorem Y5c {P:Program} {T E k:Nat} (hT:sliceB P T E k=true) (a:Option Addr) (n c:Nat) (w:World):(Op.equal T (.slice a n c) (.slice none 0 0)).run P w=.ok a.isNone w:=by
 have h:=(sliceB.out hT).1
 unfold Op.equal
 generalize hd:Op.maxDepth=d
 obtain⟨d,rfl⟩:∃ m,d=m+1:=⟨Op.maxDepth - 1,by rw [← hd]; rfl⟩
 clear hd
 cases a with
 | none=>rw [Op.equalIn]; simp [underlying,h]
 | some a=>rw [Op.equalIn]; simp [underlying,h]

def R83 {α β:Type} [DecidableEq β] (xs:List α) (k:Bool→Option β):Option β:=
 match xs with
 | []=>if k true=k false then k false else none
 | _=>k false
theorem H2b {α β γ:Type} [DecidableEq β] {xs:List α} {k:Bool→Option β} {r:β} {f:α→γ} (h:R83 xs k=some r) (b:Bool) (hb:b=true→xs.map f=[]):k b=some r:=by
 cases xs with
 | nil=>
  have h:(if k true=k false then k false else none)=some r:=h
  by_cases e:k true=k false
  ·rw [if_pos e] at h
   cases b with
   | true=>rw [e]; exact h
   | false=>exact h
  ·rw [if_neg e] at h; cases h
 | cons x l=>
  cases b with
  | true=>have:=hb rfl; cases this
  | false=>exact h
section
variable {P:Program} {o:Oper} {l:Fr} {L:Loc}
theorem Ha8 {x:Operand} {T T' E k k':Nat} {xs:List AV} (hT:sliceB P T E k'=true) (ho:o.op=.binOp .eql T x (.const (.slice none 0 0)) T') (hx:Qf (ev l x)=some (k,xs)):H2 P o l L (fun u L'=>∃ b:Bool,(b=true→xs=[])∧u=BL b∧L'=L):=by
 intro a w β K Q h0 hf hK
 have hd:=(hf.ev x).Qf hx
 have key:∀ ao n c,a.eval x=.slice ao n c→(execOp a.eval o).run P w=.ok (.value (.bool ao.isNone)) w:=fun ao n c e=>by
  have e2:a.eval (.const (.slice none 0 0))=.slice none 0 0:=rfl
  simp [execOp,ho,eqGuard,binOp,e,e2,Y5c hT]
 generalize hv:a.eval x=v at hd
 cases hd with
 | nil h=>
  rename_i cap ao
  unfold Oper.wp
  rw [key _ _ _ hv]
  exact hK _ _ _ _ _ ⟨ao.isNone,fun _=>rfl,rfl,rfl⟩ h0 (Step.refl _ _ _) .sc
 | list vals h1 hm hk hS h=>
  unfold Oper.wp
  rw [key _ _ _ hv]
  exact hK _ _ _ _ _ ⟨false,fun e=>(by cases e),rfl,rfl⟩ h0 (Step.refl _ _ _) .sc
theorem Q49 (i E k:Nat) {x:Operand} {ver:Nat} {xs:List AV} (ho:o.op=.assign x) (hx:ev l x=.sc (.slice none 0 0)) (hi:lk L i=some (.vec E k ver xs)):H2 P o l L (Is (.vec i (ver+1) k 0) ((i,.vec E k (ver+1) [])::L)):=by
 intro a w β K Q h0 hf hK
 have hv:=hf.ev x
 rw [hx] at hv
 have hr:(execOp a.eval o).run P w=.ok (.value (.slice none 0 0)) w:=by simp [execOp,ho,hv.inv_sc]
 unfold Oper.wp
 rw [hr]
 obtain⟨st,sat⟩:=Rw (w':=w) (t:=E) (k:=k) (ver1:=ver+1) (xs':=[]) (ob':=none) h0 (.inr ⟨ver,xs,hi,by omega,fun e=>by omega⟩) rfl rfl ⟨rfl,M8⟩ (M8) (fun _ _ _=>rfl) (.inl rfl)
 exact hK _ _ _ w _ ⟨rfl,rfl⟩ (sat ⟨by simp,.inl ⟨rfl,rfl⟩⟩) st (.vec ⟨E,ver+1,[],by rw [Gi,if_pos rfl],M8,fun _=>⟨rfl,.inl ⟨rfl,rfl,by simp [upP]⟩⟩⟩ rfl)
theorem Q4a (i E k:Nat) {T ver:Nat} {xs:List AV} (ho:o.op=.buildSlice T 0 #[]) (hi:lk L i=some (.vec E k ver xs)) (hT:sliceB P T E k=true):H2 P o l L (Is (.vec i (ver+1) k 0) ((i,.vec E k (ver+1) [])::L)):=by
 intro a w β K Q h1 hf hK
 unfold Oper.wp
 rw [Q83 (E:=E) (k:=k) ho hT]
 have h0:w.heap.size < (w.alloc (.cells #[] E)).heap.size:=by simp
 obtain⟨st,sat⟩:=Rw (w':=w.alloc (.cells #[] E)) (t:=E) (k:=k) (ver1:=ver+1) (xs':=[]) (ob':=some w.heap.size) h1 (.inr ⟨ver,xs,hi,by omega,fun e=>by omega⟩) rfl rfl ⟨rfl,M8⟩ (Nat.le_of_lt h0) (fun b hb _=>Q6 w _ hb) (.inr (.inr ⟨_,rfl,M8,h0⟩))
 have hn:=heap_alloc_new w (.cells #[] E)
 exact hK _ _ _ _ _ ⟨rfl,rfl⟩ (sat ⟨by simp,.inr ⟨_,rfl,#[],hn,by simp,fun j u v hu=>by simp [flat] at hu⟩⟩) st (.vec ⟨E,ver+1,[],by rw [Gi,if_pos rfl],M8,fun _=>⟨rfl,.inr ⟨w.heap.size,0,rfl,by simp [upP],M8,Nat.zero_le _,by simp only [World.shape?,hn,Option.bind_some]; simp⟩⟩⟩ rfl)
end

section
variable {P:Program} {o:Oper} {l:Fr} {L:Loc}
theorem Ja4 {T E k:Nat} (hT:sliceB P T E k=true) {ty:Nat} (w:World) (a s:Option Addr) (m cap q cap2:Nat) (cs:List Value) (h0:m+q≤cap) (hs:s=none→q=0) (h4:cs.length=q*k) (h5:∀ (ad:Addr) (j:Nat) u,s=some ad→cs[j]? = some u→w.cell? (ad.add j)=some u) :
  (Builtin.append_ #[T,T] ty #[.slice a m cap,.slice s q cap2]).run P w=(match a with | some ad=>((storeCells (ad.add (m*k)) cs).run P w).andThen fun _ w=>.ok (.slice a (m+q) cap) w | none=>.ok (.slice a (m+q) cap) w):=by
 obtain⟨h1,h2⟩:=sliceB.out hT
 have h3:=Qe h2 w
 cases s with
 | none=>
  have hq:=hs rfl
  subst hq
  have:cs=[]:=Ku (by rw [h4]; simp)
  subst this
  have h6:m≤cap:=by omega
  cases a <;> simp [Builtin.append_,run_underlying h1,Builtin.lenOf,Builtin.firstCells,h3,storeCells,Result.andThen,h6]
 | some ad=>
  have hl:=run_loadCells_list (P:=P) w ad cs (fun j v h=>h5 ad j v rfl h)
  rw [h4] at hl
  cases a with
  | none=>simp [Builtin.append_,run_underlying h1,Builtin.lenOf,Builtin.firstCells,h3,hl,h0]
  | some a2=>simp [Builtin.append_,run_underlying h1,Builtin.lenOf,Builtin.firstCells,h3,hl,h0]
theorem Y19 {d x:Operand} {T E k i ver m:Nat} {xs ys:List AV} (ho:o.op=.call { callee:=.builtin .append,args:=#[d,x],argTypes:=#[T,T] }) (hT:sliceB P T E k=true) (hd:ev l d=.vsl i ver k 0 m) (hi:lk L i=some (.vec E k ver xs)) (hs:J2e L k (ev l x) ys) (hc:∀ y∈ys,y.flatOk=true) (h4:m+ys.length≤xs.length) (a4:Nat.blt 0 k=true) :
  H2 P o l L (Is (.vsl i ver k 0 (m+ys.length)) ((i,.vec E k ver (xs.take m++ys++xs.drop (m+ys.length)))::L)):=by
 intro a w β K Q h0 hf hK
 have h6:=hf.ev d
 rw [hd] at h6
 have a5:=h6.inv_vsl0 hi
 obtain⟨h9,asx,cap2,cs,a0,a7,h1,h5,a8⟩:=hs.reads h0 (hf.ev x)
 have b5:(xs.take m++ys++xs.drop (m+ys.length)).length=xs.length:=by
  simp only [Mf,List.length_take,List.length_drop]; omega
 have h7:=h0.obj i _ hi
 rcases a5 with ⟨e1,e2,e3⟩ | ⟨b,cap,e1,e2,e3,e4,e5⟩
 ·-- nil: nothing there, nothing to append
  have a9:xs=[]:=by
   rcases h7.2 with ⟨_,h⟩ | ⟨b,h,_⟩
   ·exact h
   ·rw [show β.at_ i=β i from rfl] at e3; rw [e3] at h; cases h
  subst a9
  subst e2
  have b0:ys=[]:=by simpa using h4
  subst b0
  have hr:=Ja4 (P:=P) hT (ty:=o.type) w none asx 0 0 0 cap2 cs (by omega) (fun _=>rfl) (by simpa using h1) h5
  have h8:(execOp a.eval o).run P w=.ok (.value (.slice none 0 0)) w:=by
   simp [execOp,ho,resolve,invoke,builtin,e1,a0,hr]
  unfold Oper.wp
  rw [h8]
  have hq:Ha4 L ((i,Ji.vec E k ver [])::L):=fun id=>by
   rw [Gi]
   by_cases e:i=id
   ·subst e; rw [if_pos rfl,hi]
   ·rw [if_neg e]
  exact hK _ _ _ w β ⟨rfl,rfl⟩ (h0.locEq hq) ((Step.refl w β L).locEq hq) (.vsl ⟨E,ver,[],by rw [Gi,if_pos rfl]; rfl,M8,fun _=>⟨by simp,⟨none,0,rfl,by simp,Nat.zero_le _,.inl rfl⟩,fun _=>.inl ⟨rfl,rfl,e3⟩⟩⟩ rfl)
 ·have b1:0 < k:=by simpa [Nat.blt_eq] using a4
  have hb:β.at_ i=some b:=e2
  have b3:xs.length≤cap:=by
   rcases h7.2 with ⟨_,hx⟩ | ⟨b',h,vs,h2,h3,_⟩
   ·subst hx; simp
   ·rw [show β i=some b from e2] at h
    cases h
    have hs:vs.size=cap*k:=by
     have:=e5
     simp [World.shape?,h2] at this
     exact this
    rw [hs] at h3
    exact Nat.le_of_mul_le_mul_right h3 b1
  have hr:=Ja4 (P:=P) hT (ty:=o.type) w (some ⟨b,0,none⟩) asx m cap ys.length cap2 cs (by omega) (fun e=>by rw [a7 e]; rfl) h1 h5
  have h8:(execOp a.eval o).run P w=((Builtin.append_ #[T,T] o.type #[.slice (some ⟨b,0,none⟩) m cap,.slice asx ys.length cap2]).run P w).andThen fun v w=>.ok (.value v) w:=by
   simp [execOp,ho,resolve,invoke,builtin,e1,a0]
   try rfl
  have hV:V w β L (.vsl i ver k 0 (m+ys.length)) (.slice (some ⟨b,0,none⟩) (m+ys.length) cap):=
   .vsl ⟨E,ver,xs,hi,M8,fun _=>⟨by omega,⟨_,cap,rfl,by omega,e4,.inr ⟨b,e2,by simp⟩⟩,fun _=>.inr ⟨b,cap,rfl,e2,by omega,e4,e5⟩⟩⟩ rfl
  obtain⟨q1,vs,q2,q3,q4⟩:=H1c h0 hi hb
  have b4:m*k+ys.length*k≤xs.length*k:=by rw [← Nat.add_mul]; exact Nat.mul_le_mul_right _ h4
  have a1:∀ (j:Nat) u x,(flat ys)[j]? = some u→cs[j]? = some x→D w (Ju w β L) u x:=fun j u x hu hx=>a8 j u x hu hx
  have b2:∀ v∈cs,v.oneCell'=true:=fun v hv=>by
   obtain⟨j,hj⟩:=List.mem_iff_getElem?.1 hv
   have a2:=(M3 hj).1
   rw [h1] at a2
   have hu:(flat ys)[j]? = some ((flat ys)[j]'(by rw [J1 h9]; exact a2)):=M4 _
   exact(V.data (a1 j _ v hu hj)).cell (Hbf hc (M6 hu))
  have a3:=run_storeCells_at P b (m*k) E cs 0 vs w q2 (by rw [h1]; omega) b2
  simp only [Nat.add_zero] at a3
  obtain⟨st,sat⟩:=Jce (off:=m) (zs:=ys) (cs:=cs) h0 hi hb q2 h9 (by rw [h1]) h4 a1
  unfold Oper.wp
  rw [h8,hr]
  have a6:(⟨b,0,none⟩:Addr).add (m*k)=⟨b,m*k,none⟩:=by simp [Addr.add_lit]
  simp only [a6,a3,Result.andThen]
  exact hK _ _ _ _ _ ⟨rfl,rfl⟩ sat st (hV.step st)
end
set_option linter.unusedVariables false

section moves
variable {w w':World} {β:H5} {L:Loc} {i t k ver1 hw1:Nat}
end moves

section ops
variable {P:Program} {N:Cfg} {Q:Post} {o:Oper} {ops:Array Oper} {rest:List Oper} {l:Fr} {L:Loc}

end ops

section freeze
variable {P:Program} {N:Cfg} {Q:Post} {l l':Fr} {L L':Loc}

end freeze

/-! ### Typed -/
section typed
variable {α:Type}
end typed
set_option linter.unusedVariables false

section sound
variable {P:Program} {N:Cfg} {ops:List Oper} {ws los his:List Nat} {Ls:List Loc} {l0:Fr} {val:Nat→AV}

end sound
set_option linter.unusedVariables false

section typed
variable {P:Program} {N:Cfg} {Q:Post} {o:Oper} {ops:Array Oper} {rest:List Oper} {l:Fr} {L:Loc} {α:Type}

end typed
set_option linter.unusedVariables false

inductive Cv:AV→AV→Prop
 | same {u:AV}:Cv u u
 | agg {cs ds:List AV} (hl:ds.length=cs.length) (h:∀ (j:Nat) u u',cs[j]? = some u→ds[j]? = some u'→Cv u u'):Cv (.agg cs) (.agg ds)
 | list {k:Nat} {xs ys:List AV} (hl:ys.length=xs.length) (hk:∀ (j:Nat) x y,xs[j]? = some x→ys[j]? = some y→y.cells.length=x.cells.length) (h:∀ (j:Nat) u u',(flat xs)[j]? = some u→(flat ys)[j]? = some u'→Cv u u'):Cv (.list k xs) (.list k ys)
 | lst {k:Nat} {xs ys zs:List AV} (h:Cv (.list k xs) (.list k ys)):Cv (.lst k xs zs) (.list k ys)
 | tail {k:Nat} {xs ys:List AV} (h:Cv (.list k xs) (.list k ys)):Cv (.list k xs) (.lst k ys [])
def CvL:List AV→List AV→Prop
 | [],[]=>True
 | u::r,u'::r'=>Cv u u'∧CvL r r'
 | _,_=>False
theorem CvL.len:∀ {cs ds:List AV},CvL cs ds→ds.length=cs.length
 | [],[],_=>rfl
 | _::_,_::_,h=>by rw [Mb,Mb,CvL.len h.2]
 | [],_::_,h=>h.elim
 | _::_,[],h=>h.elim
section typed
variable {α β:Type} {f:α→AV} {g:β→AV} {k:Nat}
abbrev Ln (α:Type):=List α×List α
abbrev LT {α:Type} (k:Nat) (f:α→AV) (e:Ln α):AV:=.lst k (e.1.map f) (e.2.map f)
end typed

section ops
variable {P:Program} {N:Cfg} {o:Oper} {l:Fr} {L L':Loc} {u u':AV} {α:Type}
theorem D.cut {w:World} {S:Nat→Nat→Prop} {k n:Nat} {xs:List AV} {a:Option Addr} {len cap:Nat} (h:D w S (.list k xs) (.slice a len cap)) (hn:n≤xs.length) :
  D w S (.lst k (xs.take n) (xs.drop n)) (.slice (if cap=0 then a else a.map (·.add (0*k))) n cap):=by
 cases h with
 | nil h=>
  have:n=0:=by simpa using hn
  subst this
  simp only [List.take_nil,List.drop_nil]
  exact .lnil h
 | @list _ b off _ _ vals h0 hm hk hS h=>
  have e:(if cap=0 then some (⟨b,off,none⟩:Addr) else (some (⟨b,off,none⟩:Addr)).map (·.add (0*k)))=some ⟨b,off,none⟩:=by
   split <;> simp [Addr.add_lit]
  rw [e]
  have hl:(xs.take n).length=n:=by rw [List.length_take]; omega
  have:=D.lst (w:=w) (S:=S) (k:=k) (b:=b) (off:=off) (cap:=cap) (xs:=xs.take n) (ys:=xs.drop n) vals (by rw [← Mf,List.take_append_drop]; exact h0) hm (by rw [List.take_append_drop]; exact hk) (by rw [List.take_append_drop]; exact hS) (by rw [List.take_append_drop]; exact h)
  rwa [hl] at this
theorem D.whole {w:World} {S:Nat→Nat→Prop} {k n:Nat} {xs ys:List AV} {a:Option Addr} {len cap:Nat} (h:D w S (.lst k xs ys) (.slice a len cap)) (hn:n≤xs.length+ys.length) :
  D w S (.list k ((xs++ys).take n)) (.slice (if cap=0 then a else a.map (·.add (0*k))) n cap)∧xs.length+ys.length≤cap:=by
 cases h with
 | lnil h=>
  have:n=0:=by simpa using hn
  subst this
  exact⟨.nil h,Nat.zero_le _⟩
 | @lst _ b off _ _ _ vals h1 hm hk hS h=>
  refine⟨?_,h1⟩
  have e:(if cap=0 then some (⟨b,off,none⟩:Addr) else (some (⟨b,off,none⟩:Addr)).map (·.add (0*k)))=some ⟨b,off,none⟩:=by
   split <;> simp [Addr.add_lit]
  rw [e]
  have hl:((xs++ys).take n).length=n:=by rw [List.length_take,Mf]; omega
  have h0:flat ((xs++ys).take n)=(flat (xs++ys)).take (n*k):=G7d hk n
  have:=D.list (w:=w) (S:=S) (k:=k) (b:=b) (off:=off) (cap:=cap) (xs:=(xs++ys).take n) vals (by omega) hm (fun x hx=>hk x (List.mem_of_mem_take hx)) (fun j hj=>hS j (by rw [h0,List.length_take] at hj; omega)) (fun j u hu=>h j u (by
   rw [h0,Md] at hu
   split at hu
   ·exact hu
   ·cases hu))
  rwa [hl] at this
end ops

/-! ### The entries that are there yet -/
theorem H77:∀ {es:List (Value×AV)} {vals:List Value} {i:Nat} {e:MapEntry},e∈Qm i es vals ↔ ∃ j p v,es[j]? = some p∧vals[j]? = some v∧isT p.2=false∧e=⟨p.1,v,i+j⟩
 | [],vals,i,e=>by simp [Qm]
 | p::es,[],i,e=>by simp [Qm]
 | p::es,v::vs,i,e=>by
  have ih:=H77 (es:=es) (vals:=vs) (i:=i+1) (e:=e)
  have shift:(∃ j p' v',es[j]? = some p'∧vs[j]? = some v'∧isT p'.2=false∧e=⟨p'.1,v',i+1+j⟩) ↔ ∃ j p' v',(p::es)[j+1]? = some p'∧(v::vs)[j+1]? = some v'∧isT p'.2=false∧e=⟨p'.1,v',i+(j+1)⟩:=by
   constructor
   ·rintro⟨j,p',v',h1,h2,h3,h4⟩; exact⟨j,p',v',by simpa using h1,by simpa using h2,h3,by rw [h4,Nat.add_assoc,Nat.add_comm 1 j]⟩
   ·rintro⟨j,p',v',h1,h2,h3,h4⟩; exact⟨j,p',v',by simpa using h1,by simpa using h2,h3,by rw [h4,Nat.add_assoc,Nat.add_comm 1 j]⟩
  cases hp:isT p.2 with
  | true=>
   simp only [Qm,hp,if_true]
   rw [ih,shift]
   constructor
   ·rintro⟨j,p',v',h⟩; exact⟨j+1,p',v',h⟩
   ·rintro⟨j,p',v',h1,h2,h3,h4⟩
    cases j with
    | zero=>simp at h1; subst h1; rw [hp] at h3; cases h3
    | succ j=>exact⟨j,p',v',h1,h2,h3,h4⟩
  | false=>
   simp only [Qm,hp,Bool.false_eq_true,if_false,Mo]
   rw [ih,shift]
   constructor
   ·rintro(h | ⟨j,p',v',h⟩)
    ·exact⟨0,p,v,rfl,rfl,hp,by simpa using h⟩
    ·exact⟨j+1,p',v',h⟩
   ·rintro⟨j,p',v',h1,h2,h3,h4⟩
    cases j with
    | zero=>simp at h1 h2; subst h1 h2; exact .inl (by simpa using h4)
    | succ j=>exact .inr ⟨j,p',v',h1,h2,h3,h4⟩
theorem J42 {es:List (Value×AV)} {vals:List Value} {i:Nat} {e:MapEntry} (h:e∈Qm i es vals):i≤e.born∧e.born < i+es.length:=by
 obtain⟨j,p,v,h1,_,_,rfl⟩:=H77.1 h
 have:=(M3 h1).1
 exact⟨by show i≤i+j; omega,by show i+j < _; omega⟩
theorem G91:∀ {es:List (Value×AV)} {vals:List Value} {i:Nat},(Qm i es vals).Pairwise (fun a b=>a.born < b.born)
 | [],vals,i=>by simp [Qm]
 | p::es,[],i=>by simp [Qm]
 | p::es,v::vs,i=>by
  have ih:=G91 (es:=es) (vals:=vs) (i:=i+1)
  cases hp:isT p.2 with
  | true=>simp only [Qm,hp,if_true]; exact ih
  | false=>
   simp only [Qm,hp,Bool.false_eq_true,if_false]
   exact List.pairwise_cons.2 ⟨fun e he=>by have:=(J42 he).1; show i < e.born; omega,ih⟩
theorem Je1:∀ {es:List (Value×AV)} {vals:List Value} {i:Nat} (p:Value×AV) (v:Value),vals.length=es.length→isT p.2=false→Qm i (es++[p]) (vals++[v])=Qm i es vals++[⟨p.1,v,i+es.length⟩]
 | [],[],i,p,v,_,hp=>by simp [Qm,hp]
 | [],_::_,i,p,v,h,_=>by simp at h
 | _::_,[],i,p,v,h,_=>by simp at h
 | q::es,x::vs,i,p,v,h,hp=>by
  have ih:=Je1 (es:=es) (vals:=vs) (i:=i+1) p v (by simpa using h) hp
  have e1:i+1+es.length=i+(q::es).length:=by simp; omega
  cases hq:isT q.2 with
  | true=>simp only [List.cons_append,Qm,hq,if_true]; rw [ih,e1]
  | false=>simp only [List.cons_append,Qm,hq,Bool.false_eq_true,if_false]; rw [ih,e1]
theorem R88:∀ {es:List (Value×AV)} {vals:List Value} {i j:Nat} (k:Value),Qm i (es.set j (k,.tup [])) vals=(Qm i es vals).filter (fun e=>decide (e.born≠i+j))
 | [],vals,i,j,k=>by simp [Qm]
 | p::es,[],i,j,k=>by cases j <;> simp [Qm]
 | p::es,v::vs,i,0,k=>by
  have key:(Qm (i+1) es vs).filter (fun e=>decide (e.born≠i+0))=Qm (i+1) es vs:=List.filter_eq_self.2 fun e he=>by
   have:=(J42 he).1
   exact M1 (by omega)
  have ht:isT (AV.tup [])=true:=rfl
  cases hp:isT p.2 with
  | true=>simp only [List.set_cons_zero,Qm,hp,ht,if_true]; exact key.symm
  | false=>
   simp only [List.set_cons_zero,Qm,hp,ht,Bool.false_eq_true,if_false,if_true]
   rw [List.filter_cons_of_neg (by simp),key]
 | p::es,v::vs,i,j+1,k=>by
  have ih:=R88 (es:=es) (vals:=vs) (i:=i+1) (j:=j) k
  have e1:i+1+j=i+(j+1):=by omega
  rw [e1] at ih
  cases hp:isT p.2 with
  | true=>simp only [List.set_cons_succ,Qm,hp,if_true]; exact ih
  | false=>
   simp only [List.set_cons_succ,Qm,hp,Bool.false_eq_true,if_false]
   rw [List.filter_cons_of_pos (p:=fun e:MapEntry=>decide (e.born≠i+(j+1))) (M1 (show i≠i+(j+1) by omega)),ih]
theorem Y38 {l:List MapEntry} (hs:l.Pairwise (fun a b=>a.born < b.born)) {j q:Nat} {e e':MapEntry} (h:l[j]? = some e) (h':l[q]? = some e') (hb:e.born=e'.born):j=q:=by
 have hj:=(M3 h)
 have hq:=(M3 h')
 obtain⟨h0,rfl⟩:=hj
 obtain⟨h1,rfl⟩:=hq
 have hp:=List.pairwise_iff_getElem.1 hs
 rcases Nat.lt_trichotomy j q with h | h | h
 ·have:=hp j q h0 h1 h; omega
 ·exact h
 ·have:=hp q j h1 h0 h; omega
theorem Q1f {l:List MapEntry} (hs:l.Pairwise (fun a b=>a.born < b.born)) {j:Nat} {e:MapEntry} (h:l[j]? = some e) (f:MapEntry→MapEntry):l.modify j f=l.map (fun x=>if x.born=e.born then f x else x):=by
 apply List.ext_getElem?
 intro q
 rw [List.getElem?_modify,Mc]
 cases hq:l[q]? with
 | none=>rfl
 | some y=>
  by_cases h0:j=q
  ·subst h0
   rw [h] at hq; cases hq
   simp
  ·have:y.born≠e.born:=fun hb=>h0 (Y38 hs h hq hb.symm)
   simp [h0,this]
theorem Qa0:∀ {l:List MapEntry},l.Pairwise (fun a b=>a.born < b.born)→∀ {j:Nat} {e:MapEntry},l[j]? = some e→l.eraseIdx j=l.filter (fun x=>decide (x.born≠e.born))
 | [],_,j,e,h=>by simp at h
 | x::r,hs,0,e,h=>by
  simp at h; subst h
  obtain⟨h1,_⟩:=List.pairwise_cons.1 hs
  rw [List.eraseIdx_zero,List.tail_cons,List.filter_cons_of_neg (by simp)]
  exact(List.filter_eq_self.2 fun y hy=>M1 (show y.born≠x.born by have:=h1 y hy; omega)).symm
 | x::r,hs,j+1,e,h=>by
  have h':r[j]? = some e:=by simpa using h
  obtain⟨h1,h2⟩:=List.pairwise_cons.1 hs
  have:=h1 e (M6 h')
  rw [List.eraseIdx_cons_succ,List.filter_cons_of_pos (p:=fun x:MapEntry=>decide (x.born≠e.born)) (M1 (show x.born≠e.born by omega)),Qa0 h2 h']

/-! ### Typed -/
section plain
variable {κ ν:Type} [DecidableEq κ]
def R22 (l:List (Option (κ×ν))) (a:κ) (v:ν):List (Option (κ×ν)):=if G39 (l.filterMap id) a then l.map (Option.map fun p=>if p.1=a then (a,v) else p) else l++[some (a,v)]
def Re7 (l:List (Option (κ×ν))) (a:κ):List (Option (κ×ν)):=l.map fun o=>o.bind fun p=>if p.1=a then none else some p
def H29 (l:List (Option (κ×ν))) (a:κ):Nat:=l.findIdx fun o=>match o with | some p=>decide (p.1=a) | none=>false
theorem Qea (l:List (Option (κ×ν))) (a:κ) (v:ν):(R22 l a v).filterMap id=H02 (l.filterMap id) a v:=by
 unfold R22 H02
 by_cases h:G39 (l.filterMap id) a=true
 ·rw [if_pos h,if_pos h]
  clear h
  induction l with
  | nil=>rfl
  | cons o r ih=>cases o <;> simp [ih]
 ·rw [if_neg h,if_neg h]; simp
theorem Qef (l:List (Option (κ×ν))) (a:κ):(Re7 l a).filterMap id=(l.filterMap id).filter (fun p=>decide (p.1≠a)):=by
 unfold Re7
 induction l with
 | nil=>rfl
 | cons o r ih=>
  cases o with
  | none=>simp at ih ⊢; exact ih
  | some p=>
   by_cases h:p.1=a
   ·simp [h] at ih ⊢; exact ih
   ·simp [h] at ih ⊢; exact ih
end plain
structure Gu (κ ν:Type) where
 l:List (Option (κ×ν))
 nd:((l.filterMap id).map (·.1)).Nodup
namespace Gu
variable {κ ν:Type} [DecidableEq κ]
def Hf (m:Gu κ ν):List (κ×ν):=m.l.filterMap id
def empty:Gu κ ν:=⟨[],List.nodup_nil⟩
def put (m:Gu κ ν) (a:κ) (v:ν):Gu κ ν:=⟨R22 m.l a v,by rw [Qea]; exact He9 m.nd a v⟩
def del (m:Gu κ ν) (a:κ):Gu κ ν:=⟨Re7 m.l a,by rw [Qef]; exact m.nd.sublist (List.filter_sublist.map _)⟩
def get (m:Gu κ ν) (a:κ) (z:ν):ν:=(G31 m.Hf a).getD z
def has (m:Gu κ ν) (a:κ):Bool:=G39 m.Hf a
def size (m:Gu κ ν):Nat:=m.Hf.length
instance:Inhabited (Gu κ ν):=⟨empty⟩
end Gu
def tOf {κ ν:Type} (kv:κ→Value) (av:ν→AV) (l:List (Option (κ×ν))):List (Value×AV):=l.map fun o=>match o with | some p=>(kv p.1,av p.2) | none=>(.tuple #[],.tup [])
theorem H4f {κ ν:Type} [DecidableEq κ]:∀ {l:List (Option (κ×ν))},((l.filterMap id).map (·.1)).Nodup→∀ {q:Nat} {a:κ} {v:ν},l[q]? = some (some (a,v))→H29 l a=q∧G31 (l.filterMap id) a=some v∧G39 (l.filterMap id) a=true
 | [],_,q,a,v,h=>by simp at h
 | none::r,hn,q,a,v,h=>by
  cases q with
  | zero=>simp at h
  | succ q=>
   obtain⟨h1,h2,h3⟩:=H4f (l:=r) (by simpa using hn) (by simpa using h)
   refine⟨?_,by simpa using h2,by simpa using h3⟩
   unfold H29 at h1 ⊢
   rw [List.findIdx_cons]; simp [h1]
 | some (b,u)::r,hn,q,a,v,h=>by
  simp only [List.filterMap_cons_some (f:=id) rfl,id,List.map_cons,List.nodup_cons] at hn
  cases q with
  | zero=>
   simp at h; obtain⟨rfl,rfl⟩:=h
   exact⟨by simp [H29,List.findIdx_cons],by simp [G31],by simp [G39]⟩
  | succ q=>
   have h':r[q]? = some (some (a,v)):=by simpa using h
   have h0:b≠a:=fun e=>hn.1 (by subst e; exact Mm.2 ⟨(b,v),List.mem_filterMap.2 ⟨_,M6 h',rfl⟩,rfl⟩)
   obtain⟨h1,h2,h3⟩:=H4f (l:=r) hn.2 h'
   refine⟨?_,?_,?_⟩
   ·unfold H29 at h1 ⊢; rw [List.findIdx_cons]; simp [h0,h1]
   ·simp only [G31] at h2 ⊢; simp [h0]; simpa using h2
   ·simp only [G39] at h3 ⊢; simp [h0]; simpa using h3
end Go.Proofs.YtidpfkmbfgihlaaGreat
