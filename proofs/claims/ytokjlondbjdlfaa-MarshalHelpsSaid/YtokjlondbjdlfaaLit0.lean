/-
 A range over a function,the caller's side: More steps: Slices that begin aQ an empty literal and are appended to;
-/
import Derived.Test.YtokjlondbjdlfaaIter
namespace Go.Proofs.Ytokjlondbjdlfaa
open Go.RowKit

def Hd0:List Tmp→List AV→Fr→Fr
 | p::ps,u::us,l=>Hd0 ps us ((p,u)::l)
 | _,_,l=>l
theorem Jo.round {w:World} {β:H2} {L:Loc}:∀ {ps:List Tmp} {us:List AV} {vs:List Value} {tmps:Array Value} {l:Fr},ps.length=us.length→vs.length=us.length→(∀ p∈ps,p < tmps.size)→Jo { tmps:=tmps,defers:=[] } w β L l →
  (∀ (j:Nat) u v,us[j]? = some u→vs[j]? = some v→V w β L u v)→Jo { tmps:=(ps.zip vs).foldl (fun t (x:Tmp×Value)=>t.setIfInBounds x.1 x.2) tmps,defers:=[] } w β L (Hd0 ps us l)
 | [],[],[],_,_,_,_,_,h,_=>h
 | p::ps,u::us,v::vs,tmps,l,h1,h2,h3,h,hv=>by
  have hp:=h.put (d:=p) (u:=u) (v:=v) (h3 p (List.mem_cons_self ..)) (hv 0 u v rfl rfl)
  exact Jo.round (ps:=ps) (us:=us) (vs:=vs) (by simpa using h1) (by simpa using h2) (fun q hq=>by simpa using h3 q (List.mem_cons_of_mem _ hq)) hp (fun j u' v' hu h0=>hv (j+1) u' v' (by simpa using hu) (by simpa using h0))
 | [],_::_,_,_,_,h,_,_,_,_=>by simp at h
 | _::_,[],_,_,_,h,_,_,_,_=>by simp at h
 | _,[],_::_,_,_,_,h,_,_,_=>by simp at h
 | _,_::_,[],_,_,_,h,_,_,_=>by simp at h
theorem R0b {ps:List Tmp}:∀ {vs:List Value} {tmps:Array Value},((ps.zip vs).foldl (fun t (x:Tmp×Value)=>t.setIfInBounds x.1 x.2) tmps).size=tmps.size:=by
 induction ps with
 | nil=>intro vs tmps; simp
 | cons p ps ih=>
  intro vs tmps
  cases vs with
  | nil=>simp
  | cons v vs=>rw [List.zip_cons_cons,List.foldl_cons,ih]; simp

theorem Step.thenW {w0 W W':World} {β0 β β':H2} {L0 L L':Loc} (h:Step w0 β0 L0 W β L) (k:H15 W β L W' β' L') (h1:W'.os=W.os) (h2:W'.tape=W.tape) (h3:W'.output=W.output∧W.drawn≤W'.drawn) (h4:W.heap.size≤W'.heap.size)
  (hid:∀ b i,b < w0.heap.size→(β'.hid b i ↔ β.hid b i)) (far:∀ b,b < w0.heap.size→(∀ id,(lk L id).isSome=true→β id≠some b)→W'.heap[b]? = W.heap[b]? ∧ ∀ id,(lk L' id).isSome=true→β' id≠some b):Step w0 β0 L0 W' β' L' where
 os:=h1.trans h.os
 tape:=h2.trans h.tape
 output:=⟨h3.1.trans h.output.1,Nat.le_trans h.output.2 h3.2⟩
 size:=Nat.le_trans h.size h4
 hid:=fun b i hb=>(hid b i hb).trans (h.hid b i hb)
 stab:=fun b i hs=>by
  obtain⟨a1,a2⟩:=h.stab b i hs
  obtain⟨k1,k2⟩:=k.stab b i a1
  exact⟨k1,k2.trans a2⟩
 far:=fun b hb hf=>by
  obtain⟨a1,a2⟩:=h.far b hb hf
  obtain⟨k1,k2⟩:=far b hb a2
  exact⟨k1.trans a1,k2⟩
 box:=fun id t cs hi=>by
  obtain⟨h1,cs',h2⟩:=h.box id t cs hi
  obtain⟨k1,k2⟩:=k.box id t cs' h2
  exact⟨k1.trans h1,k2⟩
 map:=fun id t es hi=>by
  obtain⟨h1,es',h2⟩:=h.map id t es hi
  obtain⟨k1,k2⟩:=k.map id t es' h2
  exact⟨k1.trans h1,k2⟩
 iter:=fun id m n es hi=>by
  obtain⟨h1,n',es',h2⟩:=h.iter id m n es hi
  obtain⟨k1,k2⟩:=k.iter id m n' es' h2
  exact⟨k1.trans h1,k2⟩
 vec:=fun id t kk ver xs hi=>by
  obtain⟨v1,xs1,h1,h2,h3⟩:=h.vec id t kk ver xs hi
  obtain⟨v2,xs2,k1,k2,k3⟩:=k.vec id t kk v1 xs1 h1
  refine⟨v2,xs2,k1,Nat.le_trans h2 k2,fun e=>?_⟩
  obtain⟨a1,a2,a3⟩:=h3 (by omega)
  obtain⟨b1,b2,b3⟩:=k3 (by omega)
  exact⟨b1.trans a1,b2.trans a2,fun b hb=>(b3 b (a2.trans hb)).trans (a3 b hb)⟩
 spare:=fun id t kk ver hw hi=>by
  obtain⟨v1,hw1,h1,h2,h3⟩:=h.spare id t kk ver hw hi
  obtain⟨v2,h0,k1,k2,k3⟩:=k.spare id t kk v1 hw1 h1
  refine⟨v2,h0,k1,Nat.le_trans h2 k2,fun e=>?_⟩
  obtain⟨a1,a2,a3⟩:=h3 (by omega)
  obtain⟨b1,b2,b3⟩:=k3 (by omega)
  exact⟨b1.trans a1,b2.trans a2,fun b hb=>(b3 b (a2.trans hb)).trans (a3 b hb)⟩

theorem Step.drop {w0 w:World} {β0 β:H2} {L0 L L':Loc} {N:Cfg} {a:Act} {l l':Fr} (h:Step w0 β0 L0 w β L) (h1:Sat w β L) (h0:∀ id,(lk L0 id).isSome=true→id∈N.base) (hf:Fits N.base l L l' L') (ha:N.n≤a.tmps.size) (hd:a.defers=[]) (h2:Jo a w β L l):Step w0 β0 L0 w β L':=
 (Q6.fits (N:=N) (a:=a) ⟨h1,h,h2,ha,h0,by rw [hd]; exact .nil⟩ hf).step

structure Between (P:Program) (N:Cfg) (w0:World) (β0:H2) (L0:Loc) (tmps:Array Value) (ds:List Deferred) (l1:Fr) (S:Nat→Nat→Prop) (n0 lp D:Nat) (rec:Loop) (L:Loc) (X:Nat→Prop) (T:Nat→Nat→Prop) (W:World) (β:H2):Prop where
 sat:Sat W β L
 step:Step w0 β0 L0 W β L
 frame:Jo { tmps:=tmps,defers:=[] } W β L l1
 obj:∀ id b,(lk L id).isSome=true→β id=some b→X b∧b≠lp∧b≠D
 hid:∀ b,n0≤b→b < W.heap.size→¬ X b→∀ i,¬ T b i→β.hid b i
 lt:∀ b,X b→b < W.heap.size
 loop:W.heap[lp]? = some (.loop rec)
 mark:W.heap[D]? = some (.deferred (some []))
 old:n0≤W.heap.size
 data:∀ b i,S b i→J7 W β L b i
 tdata:∀ b i,T b i→n0≤b∧J7 W β L b i
 defs:Gfe none w0.heap.size W β L ds
 deflt:∀ d∈ds,∀ D',d={ target:=.collected D',args:=#[] }→D' < n0
theorem Gfe.turned {ro:Option Nat} {B n0:Nat} {w w':World} {β β':H2} {L:Loc} {ds:List Deferred} (h:Gfe ro B w β L ds) (h0:∀ d∈ds,∀ D',d={ target:=.collected D',args:=#[] }→D' < n0) (hk:∀ D,D < n0→w.heap[D]? = some (.deferred (some []))→w'.heap[D]? = w.heap[D]?) (hb:∀ id,β' id=β id):Gfe ro B w' β' L ds:=
 ⟨h.top,h.nodup,fun d hd=>by
  obtain⟨D,e,h1,h2,h3⟩:=h.each d hd
  exact⟨D,e,h1,(hk D (h0 d hd D e) h2).trans h2,fun id hi he=>h3 id hi ((hb id).symm.trans he)⟩⟩

def Mid (P:Program) (N:Cfg) (body:Code) (Q:Post) (l:Fr) (L:Loc):Prop:=
 ∃ l' L',(∀ w0 β0 L0 a w β,Q6 N w0 β0 L0 a w β l L→∃ β',Q6 N w0 β0 L0 a w β' l' L')∧JC P ⟨N.n,L'.map (·.1),N.ro⟩ body Q l' L'
theorem Re2 {P:Program} {N:Cfg} {body:Code} {Q:Post} {l:Fr} {L:Loc} (h:JC P ⟨N.n,L.map (·.1),N.ro⟩ body Q l L):Mid P N body Q l L:=⟨l,L,fun _ _ _ _ _ β hs=>⟨β,hs⟩,h⟩
theorem Q2d {P:Program} {N:Cfg} {body:Code} {Q:Post} {l l':Fr} {L L':Loc} (hc:∀ w0 β0 L0 a w β,Q6 N w0 β0 L0 a w β l L→∃ β',Q6 N w0 β0 L0 a w β' l' L') (h:Mid P N body Q l' L'):Mid P N body Q l L:=by
 obtain⟨l2,L2,h1,h2⟩:=h
 refine⟨l2,L2,fun w0 β0 L0 a w β hs=>?_,h2⟩
 obtain⟨β',h0⟩:=hc w0 β0 L0 a w β hs
 exact h1 w0 β0 L0 a w β' h0

theorem Q97 {P:Program} {N:Cfg} {body:Code} {Q:Post} {l:Fr} {L:Loc} (l':Fr) (L':Loc) (i:Nat) {t:TypeId} {cs:List AV} (hi:lk L i=some (.box t cs)) (hd:Yd (fun _=>false) cs=true)
  (h0:lk L' i=none) (hl:G8e (fun j=>(lk L' j).isSome) L L') (hb:allIn L' N.base=true) (hf:Q9c i cs (fun j=>(lk L' j).isSome) l l') (hk:Mid P N body Q l' L'):Mid P N body Q l L:=
 Q2d (fun _ _ _ _ _ β hs=>⟨β,hs.freeze i hi hd h0 hl hb hf⟩) hk
theorem Between.more {P:Program} {N:Cfg} {w0:World} {β0:H2} {L0:Loc} {tmps:Array Value} {ds:List Deferred} {l1:Fr} {S:Nat→Nat→Prop} {n0 lp D:Nat} {rec:Loop} {L:Loc} {X:Nat→Prop} {T T':Nat→Nat→Prop} {W:World} {β:H2}
  (h:Between P N w0 β0 L0 tmps ds l1 S n0 lp D rec L X T W β) (h1:∀ b i,T b i→T' b i) (h2:∀ b i,T' b i→¬ T b i→n0≤b∧¬ X b∧b < W.heap.size) (h0:w0.heap.size≤n0) :
  Between P N w0 β0 L0 tmps ds l1 S n0 lp D rec L X T' W ⟨β.at_,fun b i=>β.hid b i∧¬ T' b i⟩:=by
 have told:∀ b i,T' b i→n0≤b:=fun b i h'=>by
  by_cases ht:T b i
  ·exact(h.tdata b i ht).1
  ·exact(h2 b i h' ht).1
 have stab:∀ b i,J7 W β L b i→J7 W ⟨β.at_,fun b i=>β.hid b i∧¬ T' b i⟩ L b i:=fun b i hs=>⟨hs.lt,fun hh=>hs.seen hh.1,hs.kept⟩
 have stw:H15 W β L W ⟨β.at_,fun b i=>β.hid b i∧¬ T' b i⟩ L:=⟨fun b i hs=>⟨stab b i hs,rfl⟩,fun _ _ cs h=>⟨rfl,cs,h⟩,fun _ _ es h=>⟨rfl,es,h⟩,fun _ _ n es h=>⟨rfl,n,es,h⟩,
  fun id _ _ ver xs h=>⟨ver,xs,h,Kc,fun _=>⟨rfl,rfl,fun b hb=>rfl⟩⟩,fun id _ _ ver hw h=>⟨ver,hw,h,Kc,fun _=>⟨rfl,rfl,fun b hb=>rfl⟩⟩⟩
 refine⟨⟨fun b i hh=>h.sat.hid b i hh.1,h.sat.bnd,fun id b j h1 h2 hh=>h.sat.apart id b j h1 h2 hh.1,h.sat.inj,fun id o ho=>(h.sat.obj id o ho).stepW stw (fun b hb=>rfl)⟩,
  h.step.thenW stw rfl rfl ⟨rfl,Kc⟩ (Kc) (fun b i h4=>⟨fun hh=>hh.1,fun hh=>⟨hh,fun ht=>by have:=told b i ht; omega⟩⟩) (fun b h4 hf=>⟨rfl,hf⟩),⟨fun t=>(h.frame.tmp t).stepW stw⟩,h.obj,
  fun b g1 g2 g3 i g4=>⟨h.hid b g1 g2 g3 i (fun ht=>g4 (h1 b i ht)),g4⟩,h.lt,h.loop,h.mark,h.old,fun b i hs=>stab b i (h.data b i hs),fun b i h3=>⟨told b i h3,?_⟩,h.defs.turned h.deflt (fun _ _ _=>rfl) (fun _=>rfl),h.deflt⟩
 by_cases ht:T b i
 ·exact stab b i (h.tdata b i ht).2
 ·obtain⟨g1,g2,g3⟩:=h2 b i h3 ht
  exact⟨g3,fun hh=>hh.2 h3,fun id o ho hb=>(g2 (h.obj id b (by rw [ho]; rfl) hb).1).elim⟩

theorem J99 {κ:Type} {k0:κ} {nx:κ→List AV→κ→Prop} {fi:κ→Prop} {P:Program} {N:Cfg} {gop:Operand} {ps:List Tmp} {assign body:Code} {Q:Post} {l:Fr} {L:Loc} (l1:Fr) {gf:FuncId} {caps:List AV} {σ:Type} (I:κ→σ→Prop) (M:σ→Loc) (s0:σ)
  (b5:N.ro=none) (hg:ev l gop=.fn gf caps) (e5:Yd (fun _=>false) caps=true) (hB:Hr P gf=true) (e6:R52 P gf caps k0 nx fi) (h0:I k0 s0) (hf:Fits N.base l L l1 (M s0)) (i6:(0:Nat)=0)
  (e7:∀ k us k',nx k us k'→ps.length=us.length) (e8:∀ p∈ps,p < N.n) (e9:∀ s,He8 (fun i=>(lk (M s) i).isSome) l1 l1) (f0:∀ s,allIn (M s) N.base=true)
  (hr:∀ k us k' s,nx k us k'→I k s→∀ (lr:Nat) (K:Fr→Loc→Prop),(∀ l L s',I k' s'→Fits [] l L [] (M s')→K l L) →
   JC P ⟨N.n,(M s).map (·.1),some lr⟩ assign ⟨fun l2 L2=>Mid P ⟨N.n,(M s).map (·.1),some lr⟩ body ⟨K,fun _ _=>False,fun _ _ _=>False⟩ l2 L2,fun _ _=>False,fun _ _ _=>False⟩ (Hd0 ps us l1) (M s))
  (c2:∀ k s,fi k→I k s→Q.norm l1 (M s)):JC P N (.rangeFunc gop ps.toArray assign body) Q l L:=by
 intro n w0 β0 L0 a w β hs
 have h5:=hs.fits hf
 have hv:=hs.frame.ev gop
 rw [hg] at hv
 obtain⟨lb,he,f3,b6⟩:=hv.inv_fn
 rw [b5]
 refine wpIn_rangeFunc (F:=FR none) ?_
 intro fn f5
 obtain⟨rec,h9⟩:∃ rec:LoopState→Option Code→Loop,rec=fun st pe=>{ state:=st,pending:=pe,fn,tmps:=a.tmps,params:=ps.toArray,assign,body,defers:=w.heap.size }:=⟨_,rfl⟩
 obtain⟨W1,a0⟩:∃ W1,(w.alloc (.deferred (some []))).alloc (.loop (rec .ready none))=W1:=⟨_,rfl⟩
 have i5:W1.heap.size=w.heap.size+2:=by rw [← a0]; simp
 have f6:W1.heap[w.heap.size+1]? = some (.loop (rec .ready none)):=by
  rw [← a0]; have:=World.alloc_heap_new (w.alloc (.deferred (some []))) (.loop (rec .ready none)); rwa [World.size_alloc] at this
 have f7:W1.heap[w.heap.size]? = some (.deferred (some [])):=by
  rw [← a0]; exact(Below.heap_alloc _ _ _ (by simp)).trans (World.alloc_heap_new w _)
 have h6:∀ b,b < w.heap.size→W1.heap[b]? = w.heap[b]? := fun b hb=>by
  rw [← a0]; exact(Jd _ _ (by simp; omega)).trans (Jd w _ hb)
 have f8:w0.heap.size≤w.heap.size:=hs.step.size
 obtain⟨S,b7⟩:∃ S:Nat→Nat→Prop,S=J7 w β (M s0):=⟨_,rfl⟩
 obtain⟨X0,c6⟩:∃ X0:Nat→Prop,X0=fun b=>∃ id,(lk (M s0) id).isSome=true∧β id=some b:=⟨_,rfl⟩
 obtain⟨E,hE⟩:∃ E:Ge9 κ,E={ W0:=W1,S:=S,lp:=w.heap.size+1,nx:=nx,J:=fun k X T W=>∃ β1 s,I k s∧Between P N w0 β0 L0 a.tmps a.defers l1 S W1.heap.size (w.heap.size+1) w.heap.size (rec .ready none) (M s) X T W β1 }:=⟨_,rfl⟩
 have stw1:H15 w β (M s0) W1 β (M s0):=by
  refine⟨fun b i h=>⟨⟨by have:=h.lt; omega,h.seen,h.kept⟩,J6 (w:=w) (h6 b h.lt)⟩,fun _ _ cs h=>⟨rfl,cs,h⟩,fun _ _ es h=>⟨rfl,es,h⟩,fun _ _ n es h=>⟨rfl,n,es,h⟩,
   fun id _ _ ver xs h=>⟨ver,xs,h,Kc,fun _=>⟨rfl,rfl,fun b hb=>Yc (h6 b (h5.sat.bnd id b (by rw [h]; rfl) hb))⟩⟩,
   fun id _ _ ver hw h=>⟨ver,hw,h,Kc,fun _=>⟨rfl,rfl,fun b hb=>h6 b (h5.sat.bnd id b (by rw [h]; rfl) hb)⟩⟩⟩
 have b0:∀ d∈a.defers,∀ D',d={ target:=.collected D',args:=#[] }→D' < w.heap.size:=fun d hd D' e=>by
  obtain⟨D,e2,_,h2,_⟩:=h5.defers.each d hd
  have:D'=D:=by rw [e] at e2; injection e2 with e3; injection e3
  subst this
  exact(Ek h2).1
 have start:Between P N w0 β0 L0 a.tmps a.defers l1 S W1.heap.size (w.heap.size+1) w.heap.size (rec .ready none) (M s0) X0 (fun _ _=>False) W1 β:=by
  refine⟨⟨fun b i h=>by have:=h5.sat.hid b i h; omega,fun id b h1 h2=>by have:=h5.sat.bnd id b h1 h2; omega,h5.sat.apart,h5.sat.inj,fun id o ho=>(h5.sat.obj id o ho).stepW stw1 (fun b hb=>h6 b (h5.sat.bnd id b (by rw [ho]; rfl) hb))⟩,
   h5.step.thenW stw1 (by rw [← a0]; rfl) (by rw [← a0]; rfl) (by rw [← a0]; exact⟨rfl,Kc⟩) (by omega) (fun _ _ _=>Iff.rfl) (fun b hb hf=>⟨h6 b (by omega),hf⟩),⟨fun t=>(h5.frame.tmp t).stepW stw1⟩,fun id b h1 h2=>?_,fun b h1 h2=>by omega,fun b hb=>?_,f6,f7,Kc,fun b i hb=>?_,fun _ _ h=>h.elim,?_,?_⟩
  ·have:=h5.sat.bnd id b h1 h2
   exact⟨by rw [c6]; exact⟨id,h1,h2⟩,by omega,by omega⟩
  ·rw [c6] at hb; obtain⟨id,h1,h2⟩:=hb
   have:=h5.sat.bnd id b h1 h2; omega
  ·rw [b7] at hb; exact(stw1.stab b i hb).1
  ·have:=h5.defers
   rw [b5] at this
   exact this.turned (n0:=w.heap.size) b0 (fun D hD _=>h6 D hD) (fun _=>rfl)
  ·intro d hd D' e
   have:=b0 d hd D' e; omega
 have d6:E.Ok P:=by
  subst hE
  refine⟨fun b i hb=>?_,fun k X T W W' hJ ht f9=>?_,fun m k k' us X T0 T W vs hy hJ g0 g5 c7 hD=>?_⟩
  ·show b < W1.heap.size
   have hb:S b i:=hb
   rw [b7] at hb; have:=hb.lt; omega
  ·obtain⟨β1,s,hI,hb⟩:=hJ
   obtain⟨g1,g2,g3⟩:=StI.round (X:=fun b=>W1.heap.size≤b∧¬ X b∧b < W.heap.size) (X':=fun b=>W1.heap.size≤b∧¬ X b∧b < W'.heap.size) (T:=T) (w':=W') hb.sat (fun b h=>⟨h.2.2,hb.hid b h.1 h.2.2 h.2.1⟩) (fun id b h1 h2 hx=>hx.2.1 (hb.obj id b h1 h2).1)
    ⟨ht.os,ht.tape,ht.output,ht.size,fun b h1 h2=>ht.keep b h1 (fun h=>h2 ⟨h.1,h.2,h1⟩)⟩ (fun b i h _=>f9 b i h) (fun b h=>⟨fun h'=>⟨h'.1,h'.2.1,h⟩,fun h'=>⟨h'.1,h'.2.1,by have:=ht.size; omega⟩⟩) (fun b h=>h.2.2)
   have b2:∀ b,b < W1.heap.size→b < W.heap.size→W'.heap[b]? = W.heap[b]? := fun b h1 h2=>ht.keep b h2 (fun h=>by have h3:W1.heap.size≤b:=h.1; omega)
   refine⟨_,s,hI,g1,hb.step.thenW g2 ht.os ht.tape ht.output ht.size (fun b i a5=>⟨fun h=>h.elim id (fun h=>by have:=hb.old; omega),.inl⟩) (fun b a5 hf=>⟨b2 b (by omega) (by have:=hb.old; omega),hf⟩),⟨fun t=>(hb.frame.tmp t).stepW g2⟩,hb.obj,fun b h1 h2 h3=>(g3 b ⟨h1,h3,h2⟩).2,fun b h=>Em (hb.lt b h) ht.size,?_,?_,Nat.le_trans hb.old ht.size,fun b i h=>(g2.stab b i (hb.data b i h)).1,fun b i h=>⟨(hb.tdata b i h).1,(g2.stab b i (hb.tdata b i h).2).1⟩,?_,hb.deflt⟩
   ·exact(b2 _ (by omega) (Ek hb.loop).1).trans hb.loop
   ·exact(b2 _ (by omega) (Ek hb.mark).1).trans hb.mark
   ·exact hb.defs.turned hb.deflt (fun D h1 h2=>b2 D h1 (Ek h2).1) (fun _=>rfl)
  ·obtain⟨βq,s,hI,g6⟩:=hJ
   obtain⟨β1,hb⟩:∃ β1,Between P N w0 β0 L0 a.tmps a.defers l1 S W1.heap.size (w.heap.size+1) w.heap.size (rec .ready none) (M s) X T W β1:=⟨_,g6.more g0 g5 (by omega)⟩
   have b8:ps.length=us.length:=e7 k us k' hy
   have c8:=run_yield (P:=P) (args:=vs) hb.loop (by rw [h9]; simp [c7,b8])
   rw [h9] at c8
   have c9:(ps.toArray.zip vs).foldl (fun(tmps:Array Value) (x:Tmp×Value)=>tmps.setIfInBounds x.1 x.2) a.tmps=(ps.zip vs.toList).foldl (fun(tmps:Array Value) (x:Tmp×Value)=>tmps.setIfInBounds x.1 x.2) a.tmps:=by
    rw [← Array.foldl_toList,Array.toList_zip]
   have d7:w.heap.size+1 < W.heap.size:=(Ek hb.loop).1
   have d0:w.heap.size < W.heap.size:=by omega
   have nlp:∀ id,(lk (M s) id).isSome=true→β1 id≠some (w.heap.size+1):=fun id h1 h2=>(hb.obj id _ h1 h2).2.1 rfl
   have nD:∀ id,(lk (M s) id).isSome=true→β1 id≠some w.heap.size:=fun id h1 h2=>(hb.obj id _ h1 h2).2.2 rfl
   have c3:N.n≤((ps.toArray.zip vs).foldl (fun(tmps:Array Value) (x:Tmp×Value)=>tmps.setIfInBounds x.1 x.2) a.tmps).size:=by rw [c9,R0b]; exact hs.size
   have g7:Jo { tmps:=(ps.toArray.zip vs).foldl (fun(tmps:Array Value) (x:Tmp×Value)=>tmps.setIfInBounds x.1 x.2) a.tmps,defers:=[] } W β1 (M s) (Hd0 ps us l1):=by
    rw [c9]
    refine Jo.round b8 (by simpa using c7) (fun p hp=>Em (e8 p hp) hs.size) hb.frame (fun j u v hu hv=>.data ((hD j u v hu (by simpa using hv)).mono fun b i h=>⟨h.elim (hb.data b i) (fun h=>(hb.tdata b i h).2),rfl⟩))
   have J30:∀ (L:Loc) id,(lk L id).isSome=true→id∈L.map (·.1):=fun L id h=>by
    induction L with
    | nil=>simp [lk] at h
    | cons p r ih=>
     obtain⟨j,o⟩:=p
     rw [Ga] at h
     by_cases e:j=id
     ·subst e; simp
     ·rw [if_neg e] at h; simp [ih h]
   refine⟨fn,_,assign,body,c8,roundIn_of_wpIn f5 ?_⟩
   refine wpIn_mono (hr k us k' s hy hI (w.heap.size+1) (fun l3 L3=>∃ s',I k' s'∧Fits [] l3 L3 [] (M s')) (fun l3 L3 s' h1 h2=>⟨s',h1,h2⟩) m W β1 (M s) _ W β1 ⟨hb.sat,Step.refl _ _ _,g7,c3,J30 (M s),.nil⟩) (fun e a1 w1 q=>?_)
   cases e with
   | normal=>
    obtain⟨βm,lm,Lm,g8,l2,L2,b6,c4⟩:=q
    obtain⟨β2,a7⟩:=b6 _ _ _ _ _ _ g8
    have st1:=a7.step
    have f1:=st1.far _ d7 nlp
    have d1:=st1.far _ d0 nD
    have a2:=f1.1.trans hb.loop
    refine⟨_,run_beginRound a2 (by rw [h9]),?_⟩
    obtain⟨W2,h7⟩:∃ W2,w1.putObj (w.heap.size+1) (.loop { rec .ready none with state:=.busy })=W2:=⟨_,rfl⟩
    have sw2:H15 w1 β2 L2 W2 β2 L2:=by rw [← h7]; exact G81 a2 (by simp) (by simp) f1.2
    have sat2:Sat W2 β2 L2:=by rw [← h7]; exact H2e a2 (by simp) (by simp) f1.2 a7.sat
    have d8:W2.heap[w.heap.size+1]? = some (.loop { rec .ready none with state:=.busy }):=by rw [← h7]; exact World.putObj_heap_same (Ek a2).1
    have oth2:∀ b,b≠w.heap.size+1→W2.heap[b]? = w1.heap[b]? := fun b hb=>by rw [← h7]; exact World.putObj_heap_other hb
    have sz2:W2.heap.size=w1.heap.size:=by rw [← h7]; exact World.putObj_size
    have a1d:a1.defers=[]:=a7.defers.top rfl
    rw [h7]
    refine wpIn_mono (c4 m W2 β2 L2 a1 W2 β2 ⟨sat2,Step.refl _ _ _,⟨fun t=>(a7.frame.tmp t).stepW sw2⟩,a7.size,J30 L2,by rw [a1d]; exact .nil⟩) (fun e a3 w3 q=>?_)
    cases e with
    | normal=>
     obtain⟨β3,l3,L3,a8,s',g9,b1⟩:=q
     have st2:=a8.step
     have f2:=st2.far (w.heap.size+1) (by have:=st1.size; omega) f1.2
     have d2:=st2.far w.heap.size (by have:=st1.size; omega) d1.2
     have a9:=f2.1.trans d8
     have a4:=run_endRound (P:=P) none a9
     obtain⟨W4,h8⟩:∃ W4,w3.putObj (w.heap.size+1) (.loop (rec .ready none))=W4:=⟨_,rfl⟩
     have c5:(Instr.endRound (w.heap.size+1) none).run P w3=.ok (.bool true) W4:=by
      rw [← h8]
      rw [h9] at a4 ⊢
      exact a4
     have sz4:W4.heap.size=w3.heap.size:=by rw [← h8]; exact World.putObj_size
     have oth4:∀ b,b≠w.heap.size+1→W4.heap[b]? = w3.heap[b]? := fun b hb=>by rw [← h8]; exact World.putObj_heap_other hb
     have b9:W4.heap[w.heap.size+1]? = some (.loop (rec .ready none)):=by rw [← h8]; exact World.putObj_heap_same (Ek a9).1
     have b3:Fits N.base l3 L3 [] (M s'):=⟨b1.fr,b1.loc,f0 s'⟩
     have a6:=b1.drop
     have f4:∀ id,(lk (M s') id).isSome=true→β3 id≠some (w.heap.size+1):=fun id h=>f2.2 id (a6.some h)
     have sw4:H15 w3 β3 (M s') W4 β3 (M s'):=by rw [← h8]; exact G81 a9 (by simp) (by simp) f4
     have sat3:Sat w3 β3 (M s'):=a8.sat.fits b3
     have sat4:Sat W4 β3 (M s'):=by rw [← h8]; exact H2e a9 (by simp) (by simp) f4 sat3
     have szs1:=st1.size
     have szs2:=st2.size
     have c0:w0.heap.size≤w.heap.size+1:=by omega
     -- the steps since the call began
     have g1:Step w0 β0 L0 w1 β2 L2:=hb.step.trans st1
     have g2:Step w0 β0 L0 W2 β2 L2:=by rw [← h7]; exact Gf3 a2 (by simp) (by simp) f1.2 w0 β0 L0 (Kc) c0 g1
     have g3:Step w0 β0 L0 w3 β3 L3:=g2.trans st2
     have g3':Step w0 β0 L0 w3 β3 (M s'):=g3.drop (N:=N) (a:={ a3 with defers:=[] }) a8.sat hs.base b3 a8.size rfl ⟨a8.frame.tmp⟩
     have g4:Step w0 β0 L0 W4 β3 (M s'):=by rw [← h8]; exact Gf3 a9 (by simp) (by simp) f4 w0 β0 L0 (Kc) c0 g3'
     have fr3:Jo { tmps:=a.tmps,defers:=[] } w3 β3 L3 l1:=((hb.frame.step st1).stepW sw2).step st2
     have fr4:Jo { tmps:=a.tmps,defers:=[] } W4 β3 (M s') l1:=⟨fun t=>((fr3.tmp t).conv a6 ((e9 s').get t)).stepW sw4⟩
     -- what lay in W and is none of the caller's objects
     have keepW:∀ b,b < W.heap.size→b≠w.heap.size+1→(∀ id,(lk (M s) id).isSome=true→β1 id≠some b)→W4.heap[b]? = W.heap[b]? ∧ ∀ id,(lk L3 id).isSome=true→β3 id≠some b:=fun b i0 d3 i1=>by
      obtain⟨e1,e2⟩:=st1.far b i0 i1
      obtain⟨e3,e4⟩:=st2.far b (by omega) e2
      exact⟨(oth4 b d3).trans (e3.trans ((oth2 b d3).trans e1)),e4⟩
     have d4:=keepW w.heap.size d0 (by omega) nD
     have stabW:∀ b i,J7 W β1 (M s) b i→J7 W4 β3 (M s') b i:=fun b i h=>(sw4.stab b i (a6.stab (st2.stab b i (sw2.stab b i (st1.stab b i h).1).1).1)).1
     have cellW:∀ b i,J7 W β1 (M s) b i→Zg W4 b i=Zg W b i:=fun b i h=>(sw4.stab b i (a6.stab (st2.stab b i (sw2.stab b i (st1.stab b i h).1).1).1)).2.trans ((st2.stab b i (sw2.stab b i (st1.stab b i h).1).1).2.trans ((sw2.stab b i (st1.stab b i h).1).2.trans (st1.stab b i h).2))
     refine⟨_,_,c5,rfl,fun b=>X b∨(W.heap.size≤b∧b < W4.heap.size),⟨β3,s',g9,sat4,g4,fr4,fun id b h1 h2=>?_,fun b h1 h2 h3 i h4=>?_,fun b h=>h.elim (fun h=>by have:=hb.lt b h; omega) (fun h=>h.2),b9,d4.1.trans hb.mark,by have:=hb.old; omega,fun b i h=>stabW b i (hb.data b i h),fun b i h=>⟨(hb.tdata b i h).1,stabW b i (hb.tdata b i h).2⟩,?_,hb.deflt⟩,⟨?_,?_,?_,by omega,fun b h1 h2=>?_⟩,fun b h=>⟨fun h'=>h'.elim _root_.id (fun h'=>by omega),.inl⟩,fun b h=>h.elim (fun h=>by have:=hb.lt b h; omega) (fun h=>h.2),fun b i h=>cellW b i (hb.data b i h)⟩
     ·have c1:=a6.some h1
      refine⟨?_,fun e=>f4 id h1 (by rw [h2,e]),fun e=>d4.2 id c1 (by rw [h2,e])⟩
      rcases Er b W.heap.size with a5 | i2
      ·refine .inl (Classical.byContradiction fun hx=>?_)
       exact(keepW b a5 (fun e=>f4 id h1 (by rw [h2,e])) (fun id' h3 h4=>hx (hb.obj id' b h3 h4).1)).2 id c1 h2
      ·exact .inr ⟨i2,by have:=sat4.bnd id b h1 h2; exact this⟩
     ·have a5:b < W.heap.size:=Nat.lt_of_not_le fun h=>h3 (.inr ⟨h,h2⟩)
      have:=hb.hid b h1 a5 (fun h=>h3 (.inl h)) i h4
      exact(st2.hid b i (by omega)).2 ((st1.hid b i a5).2 this)
     ·have q1:=hb.defs.step st1
      have nel:∀ d∈a.defers,∀ D',d={ target:=.collected D',args:=#[] }→W.heap[D']? = some (.deferred (some []))→D'≠w.heap.size+1:=fun d _ D' _ h e=>by rw [e,hb.loop] at h; cases h
      refine⟨q1.top,q1.nodup,fun d hd=>?_⟩
      obtain⟨D',e,h1,h2,h3⟩:=hb.defs.each d hd
      have i3:=nel d hd D' e h2
      have d5:=keepW D' (Ek h2).1 i3 h3
      exact⟨D',e,h1,d5.1.trans h2,fun id hi=>d5.2 id (a6.some hi)⟩
     ·rw [← h8]; exact st2.os.trans (by rw [← h7]; exact st1.os)
     ·rw [← h8]; exact st2.tape.trans (by rw [← h7]; exact st1.tape)
     ·have e2:=st2.output
      have e1:=st1.output
      rw [← h7] at e2
      rw [← h8]
      exact⟨e2.1.trans e1.1,Nat.le_trans e1.2 e2.2⟩
     ·by_cases e:b=w.heap.size+1
      ·rw [e,b9,hb.loop]
      ·exact(keepW b h1 e (fun id h3 h4=>h2 (hb.obj id b h3 h4).1)).1
    | ret=>obtain⟨_,_,_,_,hq⟩:=q; exact hq.elim
    | exit i=>obtain⟨_,_,_,_,hq⟩:=q; exact hq.elim
    | goto t=>exact q.elim
    | panic c=>exact q.elim
    | outgrown=>exact q.elim
   | ret=>obtain⟨_,_,_,_,hq⟩:=q; exact hq.elim
   | exit i=>obtain⟨_,_,_,_,hq⟩:=q; exact hq.elim
   | goto t=>exact q.elim
   | panic c=>exact q.elim
   | outgrown=>exact q.elim
 have d9:∀ (j:Nat) u v,caps[j]? = some u→lb[j]? = some v→D W1 S u v:=fun j u v hu hv=>by
  have:=(b6 j u v hu hv).toD (Yk e5 u (Ka hu))
  refine this.mono fun b i h=>?_
  have h':=hf.drop.stab h
  refine⟨by rw [b7]; exact h',J6 (w:=w) (h6 b h'.lt)⟩
 have e0:∀ b,X0 b→b < W1.heap.size:=start.lt
 have b4:=e6 (n - 1) E lb X0 d6 (by rw [hE]) f3 (by rw [hE]; exact d9) (by rw [hE]; exact e0) (by rw [hE]; exact⟨β,s0,h0,start⟩)
 refine⟨w.heap.size+1,[{ target:=.collected w.heap.size,args:=#[] }],W1,{ target:=.fn (.func gf) lb,args:=#[.func (.yield (w.heap.size+1)) #[] #[]] },W1,gf,
  #[.func (.yield (w.heap.size+1)) #[] #[]]++lb,W1,?_,?_,fun _ _=>trivial,?_,fun e=>(by cases e),?_⟩
 ·rw [← a0,h9]; exact run_enterLoop_outer _ _ _ _ _
 ·simp only [resolve,he]
  simp [go_sem]
 ·simp [invoke,go_sem,Hr.out hB]
 ·rw [hE] at b4
  refine CallsIn.mono (F:=FR none) b4 fun e W2 h=>?_
  obtain⟨⟨v,rfl⟩,k,X,T,i4,β1,s,hI,hb⟩:=h
  have a4:=run_endLoop (P:=P) hb.loop (by rw [h9]; simp)
  refine⟨none,W2.putObj (w.heap.size+1) (.loop { rec .ready none with state:=.exhausted }),by rw [h9] at a4 ⊢; exact a4,β1,l1,M s,?_,c2 k s i4 hI⟩
  have nlp:∀ id,(lk (M s) id).isSome=true→β1 id≠some (w.heap.size+1):=fun id h1 h2=>(hb.obj id _ h1 h2).2.1 rfl
  refine⟨H2e hb.loop (by simp) (by simp) nlp hb.sat,Gf3 hb.loop (by simp) (by simp) nlp w0 β0 L0 (Kc) (by omega) hb.step,⟨fun t=>(hb.frame.tmp t).stepW (G81 hb.loop (by simp) (by simp) nlp)⟩,hs.size,hs.base,?_⟩
  rw [b5]
  refine⟨fun h=>(by cases h),List.nodup_cons.2 ⟨fun h=>?_,hb.defs.nodup⟩,fun d hd=>?_⟩
  ·have:=b0 _ h _ rfl; omega
  ·rcases Ks.1 hd with rfl | hd
   ·exact⟨_,rfl,f8,(World.putObj_heap_other (by omega)).trans hb.mark,fun id h1 h2=>(hb.obj id _ h1 h2).2.2 rfl⟩
   ·obtain⟨D',e,h1,h2,h3⟩:=hb.defs.each d hd
    refine⟨D',e,h1,(World.putObj_heap_other fun e2=>?_).trans h2,h3⟩
    rw [e2,hb.loop] at h2; cases h2
theorem Je5 {P:Program} {N:Cfg} {gop:Operand} {ps:List Tmp} {assign body:Code} {Q:Post} {l:Fr} {L:Loc} (l1:Fr) {gf:FuncId} {caps:List AV} (ys:List (List AV)) {σ:Type} (I:Nat→σ→Prop) (M:σ→Loc) (s0:σ)
  (h3:N.ro=none) (hg:ev l gop=.fn gf caps) (h4:Yd (fun _=>false) caps=true) (hB:Hr P gf=true) (h5:Iter P gf caps ys) (h0:I 0 s0) (hf:Fits N.base l L l1 (M s0)) (h6:(0:Nat)=0)
  (h7:∀ us∈ys,ps.length=us.length) (h8:∀ p∈ps,p < N.n) (h9:∀ s,He8 (fun i=>(lk (M s) i).isSome) l1 l1) (a0:∀ s,allIn (M s) N.base=true)
  (hr:∀ k us s,ys[k]? = some us→I k s→∀ (lr:Nat) (K:Fr→Loc→Prop),(∀ l L s',I (k+1) s'→Fits [] l L [] (M s')→K l L) →
   JC P ⟨N.n,(M s).map (·.1),some lr⟩ assign ⟨fun l2 L2=>Mid P ⟨N.n,(M s).map (·.1),some lr⟩ body ⟨K,fun _ _=>False,fun _ _ _=>False⟩ l2 L2,fun _ _=>False,fun _ _ _=>False⟩ (Hd0 ps us l1) (M s))
  (h2:∀ s,I ys.length s→Q.norm l1 (M s)):JC P N (.rangeFunc gop ps.toArray assign body) Q l L:=
 J99 l1 I M s0 h3 hg h4 hB h5 h0 hf h6 (fun k us k' h=>h7 us (Ka h.1)) h8 h9 a0 (fun k us k' s h hI=>by
  obtain⟨h1,rfl⟩:=h
  exact hr k us s h1 hI) (fun k s e hI=>by subst e; exact h2 s hI)
set_option linter.unusedSimpArgs false

theorem Q6.vecCell {N:Cfg} {w0 w:World} {β0 β:H2} {L0 L:Loc} {a:Act} {l:Fr} (hs:Q6 N w0 β0 L0 a w β l L) (i j id E k:Nat) {t:TypeId} {cs cs':List AV} (hi:lk L i=some (.box t cs)) (hid:lk L id=none) (hj:cs[j]? = some (.sc (.slice none 0 0)))
  (h2:cs.set j (.vec id 0 k 0)=cs'):∃ β',Q6 N w0 β0 L0 a w β' l ((i,.box t cs')::(id,.vec E k 0 [])::L):=by
 obtain⟨st,sat⟩:=Qb (w':=w) (t:=E) (k:=k) (ver1:=0) (xs':=[]) (ob':=none) hs.sat (.inl hid) rfl rfl ⟨rfl,Kc⟩ (Kc) (fun _ _ _=>rfl) (.inl rfl)
 have h1:Q6 N w0 β0 L0 a w (upP β id none) l ((id,.vec E k 0 [])::L):=⟨sat ⟨by simp,.inl ⟨rfl,rfl⟩⟩,hs.step.trans st,hs.frame.step st,hs.size,hs.base,hs.defers.step st⟩
 have h3:id≠i:=fun e=>by subst e; rw [hi] at hid; cases hid
 refine⟨_,h1.redescribe (i:=i) (t:=t) (cs:=cs) (by rw [Ga,if_neg h3]; exact hi) (by rw [← h2]; simp) fun vs q u v h0 h5 hu hv=>?_⟩
 rw [← h2] at hu
 by_cases e:j=q
 ·subst e
  have h4:j < cs.length:=(Ey hj).1
  simp [List.getElem?_set,h4] at hu
  subst hu
  have:=h0 j _ v hj hv
  rw [this.inv_sc]
  exact .vec ⟨E,0,[],(by rw [Ga,if_pos rfl]:lk ((id,J4.vec E k 0 [])::L) id=_),Kc,fun _=>⟨rfl,.inl ⟨rfl,rfl,by rw [show (upP β id none).at_ id=none by simp [upP]]⟩⟩⟩ rfl
 ·rw [List.getElem?_set_ne e] at hu
  exact h0 q u v hu hv
theorem Ge7 {P:Program} {N:Cfg} {ops:Array Oper} {rest:List Oper} {Q:Post} {l:Fr} {L:Loc} (i j id E k:Nat) {t:TypeId} {cs cs':List AV} (hi:lk L i=some (.box t cs)) (hid:lk L id=none) (hj:cs[j]? = some (.sc (.slice none 0 0)))
  (h0:cs.set j (.vec id 0 k 0)=cs') (hk:JL P N ops rest Q l ((i,.box t cs')::(id,.vec E k 0 [])::L)):JL P N ops rest Q l L:=
 fun n w0 β0 L0 a w β hs=>by
  obtain⟨β',h⟩:=hs.vecCell i j id E k hi hid hj h0
  exact hk n w0 β0 L0 a w β' h

theorem Q8.ver {P:Program} {f:FuncId} {args:List AV} {i t k n:Nat} {xs:List AV} (h:Q8 P f args [] (fun u L'=>∃ p:Nat,u=.vec i p k n∧L'=[(i,.vec t k p xs)])) (q:Nat):Q8 P f args [] (fun u L'=>u=.vec i q k n∧L'=[(i,.vec t k q xs)]):=by
 intro w β vs h6 hl hv
 refine(h w β vs h6 hl hv).mono fun e w' hr=>?_
 obtain⟨v,r,β',L',rfl,hs,st,h8,p,rfl,rfl⟩:=hr
 have h4:∀ id,(lk [(i,J4.vec t k p xs)] id).isSome=(lk [(i,J4.vec t k q xs)] id).isSome:=fun id=>by
  rw [Ga,Ga]; split <;> rfl
 have h5:∀ b j,J7 w' β' [(i,J4.vec t k p xs)] b j→J7 w' β' [(i,J4.vec t k q xs)] b j:=fun b j h=>⟨h.lt,h.seen,fun id o ho hb=>by
  rw [Ga] at ho
  by_cases e:i=id
  ·subst e
   rw [if_pos rfl] at ho; cases ho
   exact(show False from h.kept i (.vec t k p xs) (by rw [Ga,if_pos rfl]) hb).elim
  ·rw [if_neg e] at ho; cases ho⟩
 refine⟨v,_,β',_,rfl,⟨hs.hid,fun id b h1=>hs.bnd id b (by rw [h4]; exact h1),fun id b j h1=>hs.apart id b j (by rw [h4]; exact h1),fun id id' b h1 h2=>hs.inj id id' b (by rw [h4]; exact h1) (by rw [h4]; exact h2),fun id o ho=>?_⟩,
  ⟨st.os,st.tape,st.output,st.size,st.hid,fun b j h=>⟨h5 b j (st.stab b j h).1,(st.stab b j h).2⟩,fun b hb hf=>⟨(st.far b hb hf).1,fun id hid=>(st.far b hb hf).2 id (by rw [h4]; exact hid)⟩,fun id t cs h=>by simp [lk] at h,fun id t cs h=>by simp [lk] at h,fun id t n cs h=>by simp [lk] at h,fun id t k ver xs h=>by simp [lk] at h,fun id t k ver xs h=>by simp [lk] at h⟩,?_,rfl,rfl⟩
 ·rw [Ga] at ho
  by_cases e:i=id
  ·subst e
   rw [if_pos rfl] at ho; cases ho
   have h0:=hs.obj i _ (by rw [Ga,if_pos rfl])
   refine⟨h0.1,h0.2.imp_right ?_⟩
   rintro⟨b,hb,vs,a1,a2,a3⟩
   exact⟨b,hb,vs,a1,a2,fun j u v hu hv=>(a3 j u v hu hv).mono fun b i hs=>⟨h5 b i hs,rfl⟩⟩
  ·rw [if_neg e] at ho; cases ho
 ·cases h8 with
  | data h=>cases h
  | vec hp h7=>
   obtain⟨t',ver',xs',h1,_,h3⟩:=hp
   rw [Ga,if_pos rfl] at h1; cases h1
   exact .vec ⟨t,q,xs,by rw [Ga,if_pos rfl],Kc,fun _=>h3 rfl⟩ h7
def G63 (l:Fr):List Operand→List AV→Prop
 | [],[]=>True
 | x::r,u::s=>((ev l x).plain=u∨∃ k,u=.list k []∧ev l x=.sc (.slice none 0 0))∧u.isData=true∧G63 l r s
 | _,_=>False
theorem G63.length {l:Fr}:∀ {xs:List Operand} {us:List AV},G63 l xs us→xs.length=us.length
 | [],[],_=>rfl
 | _::_,_::_,h=>by simp [G63.length h.2.2]
 | [],_::_,h=>h.elim
 | _::_,[],h=>h.elim
theorem G63.get {l:Fr}:∀ {xs:List Operand} {us:List AV},G63 l xs us→∀ {j:Nat} {x:Operand} {u:AV},xs[j]? = some x→us[j]? = some u→((ev l x).plain=u∨∃ k,u=.list k []∧ev l x=.sc (.slice none 0 0))∧u.isData=true
 | x::r,u::s,h,j,x',u',hx,hu=>by
  cases j with
  | zero=>simp at hx hu; subst hx; subst hu; exact⟨h.1,h.2.1⟩
  | succ j=>simp at hx hu; exact h.2.2.get hx hu
 | [],[],_,j,_,_,hx,_=>by simp at hx
 | [],_::_,h,_,_,_,_,_=>h.elim
 | _::_,[],h,_,_,_,_,_=>h.elim
theorem H94 {P:Program} {o:Oper} {l:Fr} {L:Loc} {T E k n:Nat} {parts:List (Nat×Operand)} {xs:List AV} (ho:o.op=.buildSlice T n parts.toArray) (hd:G63 l (parts.map (·.2)) xs) (hT:sliceB P T E k=true) (hz:Qn P E k=true)
  (h5:parts.map (·.1)=List.range n) (hc:G2c k xs=true) (hn:Nat.ble (n*k) 16777216=true) (a4:Nat.blt 0 k=true):Gt P o l L (Is (.list k xs) L):=by
 intro a w β K Q h3 hf hK
 have a3:=hd.length
 have a5:n=xs.length:=by
  have:=congrArg List.length h5
  simp only [Ko,List.length_range] at this a3
  omega
 subst a5
 have a0:=G13 hc
 have a6:∀ x∈xs,x.cells.length=k:=fun x hx=>(a0 x hx).1
 have h7:∀ x∈xs,x.isData=true:=by
  intro x hx
  obtain⟨j,hj,e⟩:=List.mem_iff_getElem.1 hx
  have a7:j < (parts.map (·.2)).length:=by omega
  exact e ▸ (hd.get (j:=j) (x:=(parts.map (·.2))[j]) (u:=xs[j]) (Ez a7) (Ez hj)).2
 have h8:=G84 (k:=k) xs 0 (List.replicate (xs.length*k) .junk) (by simp) a0
 obtain⟨inf,z,hi,a8,b2⟩:=Qn.out hz
 let zs:Array Value:=if xs.length*k=0 then #[] else z.cells
 obtain⟨vs',e1,e2,e3⟩:=G64 (w:=w) (β:=β) (L:=L) (qs:=parts.map fun p=>(p.1,a.eval p.2)) (vs:=(Array.range (xs.length*k)).map (zs[· % zs.size]!)) h8 (by
   have:=congrArg List.length h5
   simp only [Ko,List.length_range] at this
   simp [this]) (fun j p q hp hq=>by
   simp only [Kg,Option.map_eq_some_iff] at hq
   obtain⟨y,hy,rfl⟩:=hq
   rw [List.getElem?_zip_eq_some] at hp
   obtain⟨a9,b0⟩:=hp
   have h4:(parts.map (·.1))[j]? = (List.range xs.length)[j]? := by rw [h5]
   simp only [Kg,hy,Option.map_some] at h4
   rw [List.range_eq_range',a9] at h4
   have:=(hd.get (j:=j) (x:=y.2) (u:=p.2) (by rw [Kg,hy]; rfl) b0)
   refine⟨(K0 h4).symm,?_⟩
   rcases this.1 with h1 | ⟨k0,h1,h2⟩
   ·have hv:=(hf.ev y.2).plain
    rw [h1] at hv
    exact hv
   ·have hv:=hf.ev y.2
    rw [h2] at hv
    rw [h1,hv.inv_sc]
    exact .data (.nil (Nat.zero_le _))) (by simp) (fun j u v hu _=>by
   have:=List.eq_of_mem_replicate (Ka hu)
   subst this; exact .junk)
 have h9:(List.take (0*k) (List.replicate (xs.length*k) AV.junk))++flat xs=flat xs:=by simp
 rw [h9] at e2 e3
 have hr:(execOp a.eval o).run P w=.ok (.value (.slice (some ⟨w.heap.size,0,none⟩) xs.length xs.length)) (w.alloc (.cells vs' E)):=by
  have a1:=Je (sliceB.out hT).2 w
  have b1:xs.length*k≤16777216:=by simpa using hn
  have a2:¬ (xs.length*k > 2 ^ 24):=by
   have:(2:Nat) ^ 24=16777216:=by decide
   omega
  have hp:(parts.toArray.map fun(x:Nat×Operand)=>(x.1,a.eval x.2)).toList=parts.map fun p=>(p.1,a.eval p.2):=by simp
  by_cases h0:xs.length*k=0
  ·have h6:zs=#[]:=by simp only [zs,if_pos h0]
   rw [h6] at e1
   simp only [execOp,ho,Instr.buildSlice,underlying,(sliceB.out hT).1,run_program,Sem.run_bind,Result.andThen_ok,a1,a2,if_false,Sem.run_pure,if_pos h0,hp,e1,newRow,run_newObj]
   rfl
  ·have h6:zs=z.cells:=by simp only [zs,if_neg h0]
   rw [h6] at e1
   simp only [execOp,ho,Instr.buildSlice,underlying,(sliceB.out hT).1,run_program,Sem.run_bind,Result.andThen_ok,a1,a2,if_false,Sem.run_pure,if_neg h0,zeroValue,typeInfo,hi,a8,hp,e1,newRow,run_newObj]
   rfl
 unfold Oper.wp
 rw [hr]
 exact hK _ _ _ _ β ⟨rfl,rfl⟩ (h3.new _) (Step.new h3 _) (.data (D.newRow h3 a6 (by
  have h1:xs.length*k≤16777216:=by simpa using hn
  have h2:0 < k:=by simpa [Nat.blt_eq] using a4
  have:xs.length*1≤xs.length*k:=Nat.mul_le_mul_left _ h2
  simp only [maxLen]; omega) e2 (fun j u v hu hv=>(e3 j u v hu hv).toD (G9e h7 u (Ka hu)))))

/-! ### A variable of a map's type is set anew: the new map takes the old one's name -/

theorem J4e {P:Program} {o:Oper} {a:Act} {w:World} {T E k:Nat} (ho:o.op=.buildSlice T 0 #[]) (hT:sliceB P T E k=true):(execOp a.eval o).run P w=.ok (.value (.slice (some ⟨w.heap.size,0,none⟩) 0 0)) (w.alloc (.cells #[] E)):=by
 have h0:=Je (sliceB.out hT).2 w
 simp [execOp,ho,Instr.buildSlice,underlying,(sliceB.out hT).1,run_program,Sem.run_bind,Result.andThen_ok,h0,newRow,Instr.fill]
 exact congrArg (fun x=>w.alloc (Obj.cells x E)) (Array.toList_inj.1 (by simp))

theorem Qb3 {w:World} {β:H2} {L:Loc} {i:Nat} (E k:Nat) (vs:Array Value) (cap:Nat) (h7:cap≤maxLen) (h8:(w.alloc (.cells vs E)).ownsRow 0 E k (.slice (some ⟨w.heap.size,0,none⟩) 0 cap) 0 []) (h0:Sat w β L) (hi:lk L i=none) :
  Step w β L (w.alloc (.cells vs E)) (upP β i (some w.heap.size)) ((i,.spare E k 0 0)::L)∧Sat (w.alloc (.cells vs E)) (upP β i (some w.heap.size)) ((i,.spare E k 0 0)::L) ∧
  V (w.alloc (.cells vs E)) (upP β i (some w.heap.size)) ((i,.spare E k 0 0)::L) (.own i 0 k []) (.slice (some ⟨w.heap.size,0,none⟩) 0 cap):=by
 have a0:∀ id,(lk L id).isSome=true→i≠id:=fun id h e=>by subst e; rw [hi] at h; cases h
 have h5:∀ b,b < w.heap.size→(w.alloc (.cells vs E)).heap[b]? = w.heap[b]? := fun b hb=>Jd w _ hb
 have h6:w.heap.size < (w.alloc (.cells vs E)).heap.size:=by simp
 have st:Step w β L (w.alloc (.cells vs E)) (upP β i (some w.heap.size)) ((i,.spare E k 0 0)::L):=by
  refine⟨rfl,rfl,⟨rfl,Kc⟩,Nat.le_of_lt h6,fun _ _ _=>Iff.rfl,fun b j hs=>⟨⟨Nat.lt_trans hs.lt h6,hs.seen,fun id ob hid hb=>?_⟩,J6 (w:=w) (h5 b hs.lt)⟩,fun b hb h9=>⟨h5 b hb,fun id hid e=>?_⟩,fun id t cs hid=>?_,fun id t cs hid=>?_,fun id t n cs hid=>?_,fun id t k' ver xs hid=>?_,fun id t k' ver hw hid=>?_⟩
  ·rw [Ga] at hid
   by_cases e:i=id
   ·subst e; simp only [upP,if_true] at hb; cases hb; exact absurd hs.lt (Nat.lt_irrefl _)
   ·rw [if_neg e] at hid; simp only [upP,if_neg (Ne.symm e)] at hb; exact hs.kept id ob hid hb
  ·rw [Ga] at hid
   by_cases e':i=id
   ·subst e'; simp only [upP,if_true] at e; cases e; exact absurd hb (Nat.lt_irrefl _)
   ·rw [if_neg e'] at hid; simp only [upP,if_neg (Ne.symm e')] at e; exact h9 id hid e
  all_goals
   have e:=a0 id (by rw [hid]; rfl)
  ·exact⟨by simp [upP,Ne.symm e],cs,by rw [Ga,if_neg e]; exact hid⟩
  ·exact⟨by simp [upP,Ne.symm e],cs,by rw [Ga,if_neg e]; exact hid⟩
  ·exact⟨by simp [upP,Ne.symm e],n,cs,by rw [Ga,if_neg e]; exact hid⟩
  ·exact⟨ver,xs,by rw [Ga,if_neg e]; exact hid,Kc,fun _=>⟨rfl,by simp [upP,Ne.symm e],fun b hb=>Yc (h5 b (h0.bnd id b (by rw [hid]; rfl) hb))⟩⟩
  ·exact⟨ver,hw,by rw [Ga,if_neg e]; exact hid,Kc,fun _=>⟨rfl,by simp [upP,Ne.symm e],fun b hb=>h5 b (h0.bnd id b (by rw [hid]; rfl) hb)⟩⟩
 refine⟨st,⟨fun b j h=>Nat.lt_trans (h0.hid b j h) h6,fun id b hid hb=>?_,fun id b j hid hb hh=>?_,fun id id' b h1 h2 h3 h4=>?_,fun id ob hid=>?_⟩,?_⟩
 ·rw [Ga] at hid
  by_cases e:i=id
  ·subst e; simp only [upP,if_true] at hb; cases hb; exact h6
  ·rw [if_neg e] at hid; simp only [upP,if_neg (Ne.symm e)] at hb; exact Nat.lt_trans (h0.bnd id b hid hb) h6
 ·rw [Ga] at hid
  by_cases e:i=id
  ·subst e; simp only [upP,if_true] at hb; cases hb; exact absurd (h0.hid _ _ hh) (Nat.lt_irrefl _)
  ·rw [if_neg e] at hid; simp only [upP,if_neg (Ne.symm e)] at hb; exact h0.apart id b j hid hb hh
 ·by_cases e:i=id
  ·by_cases e':i=id'
   ·rw [← e,e']
   ·subst e
    rw [Ga,if_neg e'] at h2
    simp only [upP,if_true] at h3
    simp only [upP,if_neg (Ne.symm e')] at h4
    cases h3
    exact absurd (h0.bnd id' _ h2 h4) (Nat.lt_irrefl _)
  ·by_cases e':i=id'
   ·subst e'
    rw [Ga,if_neg e] at h1
    simp only [upP,if_true] at h4
    simp only [upP,if_neg (Ne.symm e)] at h3
    cases h4
    exact absurd (h0.bnd id _ h1 h3) (Nat.lt_irrefl _)
   ·rw [Ga,if_neg e] at h1
    rw [Ga,if_neg e'] at h2
    simp only [upP,if_neg (Ne.symm e)] at h3
    simp only [upP,if_neg (Ne.symm e')] at h4
    exact h0.inj id id' b h1 h2 h3 h4
 ·rw [Ga] at hid
  by_cases e:i=id
  ·subst e; simp at hid; subst hid
   exact .inr ⟨w.heap.size,by simp [upP],vs,heap_alloc_new w _,by simp⟩
  ·rw [if_neg e] at hid
   simp only [upP,if_neg (Ne.symm e)]
   exact(h0.obj id ob hid).step st (fun b hb=>h5 b (h0.bnd id b (by rw [hid]; rfl) hb))
 ·exact .own (.nil h7) ⟨E,0,0,by rw [Ga,if_pos rfl],Kc,fun _=>⟨rfl,by simp [Value.ownBlock,upP],[],h8,fun j u hu=>by simp [flat] at hu⟩⟩

theorem R73 {w:World} {β:H2} {L:Loc} {i:Nat} (E k:Nat) (h0:Sat w β L) (hi:lk L i=none) :
  Step w β L (w.alloc (.cells #[] E)) (upP β i (some w.heap.size)) ((i,.spare E k 0 0)::L)∧Sat (w.alloc (.cells #[] E)) (upP β i (some w.heap.size)) ((i,.spare E k 0 0)::L) ∧
  V (w.alloc (.cells #[] E)) (upP β i (some w.heap.size)) ((i,.spare E k 0 0)::L) (.own i 0 k []) (.slice (some ⟨w.heap.size,0,none⟩) 0 0):=
 Qb3 E k #[] 0 (Nat.zero_le _) (World.ownsRow_lit w #[] 0 (Nat.zero_le _) (Nat.zero_le _) (by simp)) h0 hi

def Hdd (P:Program) (T f off:Nat):Bool:=
 match P.underlying T with
 | some (.struct fs)=>match fs[f]? with
  | some fld=>fld.offset==off&&Qp P fld.type
  | none=>false
 | _=>false
theorem Hdd.out {P:Program} {T f off:Nat} (h:Hdd P T f off=true):∃ fs fld,P.underlying T=some (.struct fs)∧fs[f]? = some fld∧fld.offset=off∧Qp P fld.type=true:=by
 unfold Hdd at h
 split at h
 ·rename_i fs h1
  split at h
  ·rename_i fld h2
   simp only [Km,beq_iff_eq] at h
   exact⟨fs,fld,h1,h2,h.1,h.2⟩
  ·cases h
 ·cases h

def H91 (P:Program) (T n k:Nat):Bool:=
 match P.underlying T with
 | some (.array m e)=>m==n&&Rx P e k
 | _=>false
theorem H91.out {P:Program} {T n k:Nat} (h:H91 P T n k=true):∃ e,P.underlying T=some (.array n e)∧Rx P e k=true:=by
 unfold H91 at h
 split at h
 ·rename_i m e h1
  simp only [Km,beq_iff_eq] at h
  obtain⟨rfl,h2⟩:=h
  exact⟨_,h1,h2⟩
 ·cases h
theorem Hcd {P:Program} {T n k b o m:Nat} {kd:IntKind} (h:H91 P T n k=true) (hm:m < n) (w:World):(Instr.indexAt T (.pointer (some ⟨b,o,none⟩)) (.int kd (m:Int))).run P w=.ok (.pointer (some ⟨b,o+m*k,none⟩)) w:=by
 obtain⟨e,h1,h2⟩:=H91.out h
 have hs:=Je h2 w
 have h0:(0:Int)≤(m:Int)∧(m:Int) < (n:Int):=by omega
 simp [Instr.indexAt,asIntOf,underlying,h1,Instr.sureAddr,hs,h0,Addr.add_lit]
 intro hc
 omega
section ops
variable {P:Program} {N:Cfg} {o:Oper} {l:Fr} {L L':Loc} {u:AV} {α:Type}

theorem Gea (i E k:Nat) {T:Nat} (ho:o.op=.buildSlice T 0 #[]) (hi:lk L i=none) (hT:sliceB P T E k=true):Gt P o l L (Is (.own i 0 k []) ((i,.spare E k 0 0)::L)):=by
 intro a w β K Q h0 hf hK
 unfold Oper.wp
 rw [J4e (E:=E) (k:=k) ho hT]
 obtain⟨st,sat,hv⟩:=R73 E k h0 hi
 exact hK _ _ _ _ _ ⟨rfl,rfl⟩ sat st hv

theorem J2a (w:World) (base:Nat) (t ty e:TypeId) (i:TypeInfo) (size:Nat) (ht:P.underlying t=some (.slice e)) (hi:P.info? e=some i)
  (v:Value) (n:Nat) (xs:List Value) (h0:w.ownsRow base e size v n xs) (ao:Option Addr) (c:Nat) :
  (Builtin.append_ #[t,t] ty #[v,.slice ao 0 c]).run P w=.ok v w:=by
 rcases h0.2 with ⟨rfl,rfl⟩ | ⟨g,cap,cur,rfl,_,_,h1,_⟩
 ·cases ao <;> simp [Builtin.append_,run_underlying ht,sizeOf,typeInfo,hi,Builtin.lenOf,Builtin.firstCells,loadCells,loadCellsFrom]
 ·cases ao <;> simp [Builtin.append_,run_underlying ht,sizeOf,typeInfo,hi,Builtin.lenOf,Builtin.firstCells,h1,storeCells,loadCells,loadCellsFrom]

theorem R0a {s x:Operand} {T E k by_ i ver n:Nat} {kx:Nat} {xs:List AV} (ho:o.op=.call { callee:=.builtin .append,args:=#[s,x],argTypes:=#[T,T] }) (hs:ev l s=.own i ver k xs) (hi:lk L i=some (.spare E k ver n)) (hx:Jj (ev l x)=some (kx,[]))
  (hT:sliceB P T E k=true) (hE:Qw P E k by_=true):Gt P o l L (Is (.own i ver k xs) L):=
 H7 fun a w β h7 hf=>by
  have hv:=hf.ev s
  rw [hs] at hv
  have h4:=(hf.ev x).Jj hx
  obtain⟨ao,cap,h5,_⟩:=h4.len
  obtain⟨inf,z,e1,e2,e3,e4,e5,e6⟩:=Qw.out hE
  have h6:=hv
  cases hv with
  | data h=>cases h
  | own hd hp=>
   obtain⟨t,ver',hw,h1,h2,h3⟩:=hp
   rw [hi] at h1
   cases h1
   obtain⟨rfl,h8,vals,h0,h9⟩:=h3 rfl
   have hr:=J2a (P:=P) w 0 T o.type E inf k (sliceB.out hT).1 e1 (a.eval s) _ _ h0 ao cap
   exact⟨a.eval s,by simp [execOp,ho,resolve,invoke,builtin,h5,hr],h6⟩

theorem G0c {L:Loc} {s x:Operand} {T E k by_ i kx:Nat} {f:α→AV} {xs ys:List α} (ho:o.op=.call { callee:=.builtin .append,args:=#[s,x],argTypes:=#[T,T] }) (hs:ev l s=OW i k f xs) (hi:lk L i=some (.spare E k xs.length xs.length)) (hx:Jj (ev l x)=some (kx,ys.map f))
  (hT:sliceB P T E k=true) (hE:Qw P E k by_=true) (hb:decide ((xs.length+ys.length)*by_≤140737488355328∧xs.length+ys.length≤maxLen)=true) (h2:∀ y,(f y).flatOk=true) (hk:kx=k∨ys=[]) :
  Gt P o l L (Is (OW i k f (xs++ys)) ((i,.spare E k (xs++ys).length (xs++ys).length)::L)):=by
 have h3:=Eu hb
 by_cases h0:ys=[]
 ·subst h0
  have h:=R0a (P:=P) (o:=o) (by_:=by_) ho hs hi (by simpa using hx) hT hE
  rw [List.append_nil]
  intro a w β K Q h4 hf hK
  refine h a w β K Q h4 hf (fun u L1 v w1 β1 hu h5 st1 h6=>?_)
  obtain⟨rfl,rfl⟩:=hu
  have h1:G8b L1 ((i,.spare E k xs.length xs.length)::L1):=fun j=>by
   rw [Ga]
   by_cases e:i=j
   ·subst e; rw [if_pos rfl,hi]
   ·rw [if_neg e]
  exact hK _ _ v w1 β1 ⟨rfl,rfl⟩ (h5.locEq h1) (st1.locEq h1) (h6.locEq h1)
 ·have h:=J09 (ver1:=(xs++ys).length) (xs:=xs.map f) (ys:=ys.map f) ho hs hi hx hT hE (by simpa using h3.1) (by simpa using h3.2) (fun y hy=>by
   obtain⟨z,_,rfl⟩:=Kq.1 hy
   exact h2 z) (hk.imp id (fun e=>by rw [e]; rfl)) (by
   have:=List.length_pos_iff.2 h0
   rw [Kj]; omega)
  simpa only [OW,List.map_append,Kj,Ko] using h
theorem Rf9 {x ix:Operand} {T n k i o' m:Nat} {kd:IntKind} {z:Int} (hT:H91 P T n k=true) (ho:o.op=.indexAddr T x ix) (hx:ev l x=.ptr i o') (hi:ev l ix=.sc (.int kd z)) (hz:z=(m:Int)) (hm:Nat.blt m n=true):Gt P o l L (Is (.ptr i (o'+m*k)) L):=
 H7 fun a w β _ hf=>by
  subst hz
  have h1:=hf.ev x
  rw [hx] at h1
  have h2:=hf.ev ix
  rw [hi] at h2
  obtain⟨ax,h0⟩:∃ ax,a.eval x=ax:=⟨_,rfl⟩
  rw [h0] at h1
  cases h1 with
  | data h=>cases h
  | ptr hi h=>exact⟨_,by simp only [execOp,ho,h0,h2.inv_sc,Sem.run_bind,Hcd hT (by simpa [Nat.blt_eq] using hm)]; rfl,.ptr hi h⟩
end ops
end Go.Proofs.Ytokjlondbjdlfaa
