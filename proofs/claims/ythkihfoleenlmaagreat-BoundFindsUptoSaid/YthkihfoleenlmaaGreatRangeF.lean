/- A range over a function,the caller's side: -/
import Derived.Test.YthkihfoleenlmaaGreatIter
namespace Go.Proofs.YthkihfoleenlmaaGreat
open Go.RowKit

def rY:List Tmp→List AV→Fr→Fr
 | p::ps,u::us,l=>rY ps us ((p,u)::l)
 | _,_,l=>l
theorem Jw.round {w:World} {β:Gx} {L:Loc}:∀ {ps:List Tmp} {us:List AV} {vs:List Value} {tmps:Array Value} {l:Fr},ps.length=us.length→vs.length=us.length→(∀ p∈ps,p < tmps.size)→Jw { tmps:=tmps,defers:=[] } w β L l →
  (∀ (j:Nat) u v,us[j]? = some u→vs[j]? = some v→V w β L u v)→Jw { tmps:=(ps.zip vs).foldl (fun t (x:Tmp×Value)=>t.setIfInBounds x.1 x.2) tmps,defers:=[] } w β L (rY ps us l)
 | [],[],[],_,_,_,_,_,h,_=>h
 | p::ps,u::us,v::vs,tmps,l,h1,h2,h3,h,hv=>by
  have hp:=h.put (d:=p) (u:=u) (v:=v) (h3 p (List.mem_cons_self ..)) (hv 0 u v rfl rfl)
  exact Jw.round (ps:=ps) (us:=us) (vs:=vs) (by simpa using h1) (by simpa using h2) (fun q hq=>by simpa using h3 q (List.mem_cons_of_mem _ hq)) hp (fun j u' v' hu h0=>hv (j+1) u' v' (by simpa using hu) (by simpa using h0))
 | [],_::_,_,_,_,h,_,_,_,_=>by simp at h
 | _::_,[],_,_,_,h,_,_,_,_=>by simp at h
 | _,[],_::_,_,_,_,h,_,_,_=>by simp at h
 | _,_::_,[],_,_,_,h,_,_,_=>by simp at h
theorem Step.thenW {w0 W W':World} {β0 β β':Gx} {L0 L L':Loc} (h:Step w0 β0 L0 W β L) (k:lY W β L W' β' L') (h1:W'.os=W.os) (h2:W'.tape=W.tape) (h3:W'.output=W.output∧W.drawn≤W'.drawn) (h4:W.heap.size≤W'.heap.size)
  (hid:∀ b i,b < w0.heap.size→(β'.hid b i ↔ β.hid b i)) (far:∀ b,b < w0.heap.size→(∀ id,(lk L id).isSome=true→β id≠some b)→W'.heap[b]? = W.heap[b]? ∧ ∀ id,(lk L' id).isSome=true→β' id≠some b):Step w0 β0 L0 W' β' L' where
 os:=h1.trans h.os
 tape:=h2.trans h.tape
 output:=⟨h3.1.trans h.output.1,Nat.le_trans h.output.2 h3.2⟩
 size:=Nat.le_trans h.size h4
 hid:=fun b i hb=>(hid b i hb).trans (h.hid b i hb)
 stab:=fun b i hs=>by
  obtain⟨a1,a2⟩:=h.stab b i hs
  obtain⟨k1,k2⟩:=k.stab b i a1
  exact⟨k1,k2.trans a2⟩
 far:=fun b hb hf=>by
  obtain⟨a1,a2⟩:=h.far b hb hf
  obtain⟨k1,k2⟩:=far b hb a2
  exact⟨k1.trans a1,k2⟩
 box:=fun id t cs hi=>by
  obtain⟨h1,cs',h2⟩:=h.box id t cs hi
  obtain⟨k1,k2⟩:=k.box id t cs' h2
  exact⟨k1.trans h1,k2⟩
 map:=fun id t es hi=>by
  obtain⟨h1,es',h2⟩:=h.map id t es hi
  obtain⟨k1,k2⟩:=k.map id t es' h2
  exact⟨k1.trans h1,k2⟩
 iter:=fun id m n es hi=>by
  obtain⟨h1,n',es',h2⟩:=h.iter id m n es hi
  obtain⟨k1,k2⟩:=k.iter id m n' es' h2
  exact⟨k1.trans h1,k2⟩
 vec:=fun id t kk ver xs hi=>by
  obtain⟨v1,xs1,h1,h2,h3⟩:=h.vec id t kk ver xs hi
  obtain⟨v2,xs2,k1,k2,k3⟩:=k.vec id t kk v1 xs1 h1
  refine⟨v2,xs2,k1,Nat.le_trans h2 k2,fun e=>?_⟩
  obtain⟨a1,a2,a3⟩:=h3 (by omega)
  obtain⟨b1,b2,b3⟩:=k3 (by omega)
  exact⟨b1.trans a1,b2.trans a2,fun b hb=>(b3 b (a2.trans hb)).trans (a3 b hb)⟩
 spare:=fun id t kk ver hw hi=>by
  obtain⟨v1,hw1,h1,h2,h3⟩:=h.spare id t kk ver hw hi
  obtain⟨v2,h0,k1,k2,k3⟩:=k.spare id t kk v1 hw1 h1
  refine⟨v2,h0,k1,Nat.le_trans h2 k2,fun e=>?_⟩
  obtain⟨a1,a2,a3⟩:=h3 (by omega)
  obtain⟨b1,b2,b3⟩:=k3 (by omega)
  exact⟨b1.trans a1,b2.trans a2,fun b hb=>(b3 b (a2.trans hb)).trans (a3 b hb)⟩

structure Between (P:Program) (N:Cfg) (w0:World) (β0:Gx) (L0:Loc) (tmps:Array Value) (ds:List Deferred) (l1:Fr) (S:Nat→Nat→Prop) (n0 lp D:Nat) (rec:Loop) (L:Loc) (X:Nat→Prop) (T:Nat→Nat→Prop) (W:World) (β:Gx):Prop where
 sat:Sat W β L
 step:Step w0 β0 L0 W β L
 frame:Jw { tmps:=tmps,defers:=[] } W β L l1
 obj:∀ id b,(lk L id).isSome=true→β id=some b→X b∧b≠lp∧b≠D
 hid:∀ b,n0≤b→b < W.heap.size→¬ X b→∀ i,¬ T b i→β.hid b i
 lt:∀ b,X b→b < W.heap.size
 loop:W.heap[lp]? = some (.loop rec)
 mark:W.heap[D]? = some (.deferred (some []))
 old:n0≤W.heap.size
 data:∀ b i,S b i→Jc W β L b i
 tdata:∀ b i,T b i→n0≤b∧Jc W β L b i
 defs:jB none w0.heap.size W β L ds
 deflt:∀ d∈ds,∀ D',d={ target:=.collected D',args:=#[] }→D' < n0
theorem jB.turned {ro:Option Nat} {B n0:Nat} {w w':World} {β β':Gx} {L:Loc} {ds:List Deferred} (h:jB ro B w β L ds) (h0:∀ d∈ds,∀ D',d={ target:=.collected D',args:=#[] }→D' < n0) (hk:∀ D,D < n0→w.heap[D]? = some (.deferred (some []))→w'.heap[D]? = w.heap[D]?) (hb:∀ id,β' id=β id):jB ro B w' β' L ds:=
 ⟨h.top,h.nodup,fun d hd=>by
  obtain⟨D,e,h1,h2,h3⟩:=h.each d hd
  exact⟨D,e,h1,(hk D (h0 d hd D e) h2).trans h2,fun id hi he=>h3 id hi ((hb id).symm.trans he)⟩⟩

theorem Between.more {P:Program} {N:Cfg} {w0:World} {β0:Gx} {L0:Loc} {tmps:Array Value} {ds:List Deferred} {l1:Fr} {S:Nat→Nat→Prop} {n0 lp D:Nat} {rec:Loop} {L:Loc} {X:Nat→Prop} {T T':Nat→Nat→Prop} {W:World} {β:Gx}
  (h:Between P N w0 β0 L0 tmps ds l1 S n0 lp D rec L X T W β) (h1:∀ b i,T b i→T' b i) (h2:∀ b i,T' b i→¬ T b i→n0≤b∧¬ X b∧b < W.heap.size) (h0:w0.heap.size≤n0) :
  Between P N w0 β0 L0 tmps ds l1 S n0 lp D rec L X T' W ⟨β.at_,fun b i=>β.hid b i∧¬ T' b i⟩:=by
 have told:∀ b i,T' b i→n0≤b:=fun b i h'=>by
  by_cases ht:T b i
  ·exact(h.tdata b i ht).1
  ·exact(h2 b i h' ht).1
 have stab:∀ b i,Jc W β L b i→Jc W ⟨β.at_,fun b i=>β.hid b i∧¬ T' b i⟩ L b i:=fun b i hs=>⟨hs.lt,fun hh=>hs.seen hh.1,hs.kept⟩
 have stw:lY W β L W ⟨β.at_,fun b i=>β.hid b i∧¬ T' b i⟩ L:=⟨fun b i hs=>⟨stab b i hs,rfl⟩,fun _ _ cs h=>⟨rfl,cs,h⟩,fun _ _ es h=>⟨rfl,es,h⟩,fun _ _ n es h=>⟨rfl,n,es,h⟩,
  fun id _ _ ver xs h=>⟨ver,xs,h,Ny,fun _=>⟨rfl,rfl,fun b hb=>rfl⟩⟩,fun id _ _ ver hw h=>⟨ver,hw,h,Ny,fun _=>⟨rfl,rfl,fun b hb=>rfl⟩⟩⟩
 refine⟨⟨fun b i hh=>h.sat.hid b i hh.1,h.sat.bnd,fun id b j h1 h2 hh=>h.sat.apart id b j h1 h2 hh.1,h.sat.inj,fun id o ho=>(h.sat.obj id o ho).stepW stw (fun b hb=>rfl)⟩,
  h.step.thenW stw rfl rfl ⟨rfl,Ny⟩ (Ny) (fun b i h4=>⟨fun hh=>hh.1,fun hh=>⟨hh,fun ht=>by have:=told b i ht; omega⟩⟩) (fun b h4 hf=>⟨rfl,hf⟩),⟨fun t=>(h.frame.tmp t).stepW stw⟩,h.obj,
  fun b g1 g2 g3 i g4=>⟨h.hid b g1 g2 g3 i (fun ht=>g4 (h1 b i ht)),g4⟩,h.lt,h.loop,h.mark,h.old,fun b i hs=>stab b i (h.data b i hs),fun b i h3=>⟨told b i h3,?_⟩,h.defs.turned h.deflt (fun _ _ _=>rfl) (fun _=>rfl),h.deflt⟩
 by_cases ht:T b i
 ·exact stab b i (h.tdata b i ht).2
 ·obtain⟨g1,g2,g3⟩:=h2 b i h3 ht
  exact⟨g3,fun hh=>hh.2 h3,fun id o ho hb=>(g2 (h.obj id b (by rw [ho]; rfl) hb).1).elim⟩

def rL (gv:Option (Nat×Nat)) (g:Nat) (L:Loc) (us:List AV):Loc:=match gv,us with
 | some (t,k),[.list _ xs]=>(g,.vec t k 0 xs)::L
 | _,_=>L
def rU (gv:Option (Nat×Nat)) (g:Nat) (us:List AV):List AV:=match gv,us with
 | some (_,k),[.list _ xs]=>[.vec g 0 k xs.length]
 | _,_=>us
theorem Between.given {P:Program} {N:Cfg} {w0:World} {β0:Gx} {L0:Loc} {tmps:Array Value} {ds:List Deferred} {l1:Fr} {S:Nat→Nat→Prop} {n0 lp D0:Nat} {rec:Loop} {L:Loc} {X:Nat→Prop} {T:Nat→Nat→Prop} {W:World} {β:Gx} {gv:Option (Nat×Nat)} {G:Nat→Prop} {us:List AV} {vs:Array Value} (g:Nat)
  (h:Between P N w0 β0 L0 tmps ds l1 S n0 lp D0 rec L X T W β) (hG:∀ b,G b→n0≤b∧¬ X b∧b < W.heap.size∧∀ i,¬ T b i) (hv:Given gv W (fun b i=>S b i∨T b i) G us vs) (hD:∀ (j:Nat) u v,us[j]? = some u→vs[j]? = some v→D W (fun b i=>S b i∨T b i∨G b) u v)
  (hg:gv≠none→lk L g=none) (h0:w0.heap.size≤n0) (a6:lp < n0) (a7:D0 < n0) :
  ∃ β',Between P N w0 β0 L0 tmps ds l1 S n0 lp D0 rec (rL gv g L us) (fun b=>X b∨G b) T W β'∧∀ (j:Nat) u v,(rU gv g us)[j]? = some u→vs[j]? = some v→V W β' (rL gv g L us) u v:=by
 cases gv with
 | none=>
  have eX:(fun b=>X b∨G b)=X:=by funext b; simp [hv b]
  refine⟨β,by rw [eX]; exact h,fun j u v hu a0=>.data ((hD j u v hu a0).mono fun b i h'=>⟨?_,rfl⟩)⟩
  rcases h' with h' | h' | h'
  ·exact h.data b i h'
  ·exact(h.tdata b i h').2
  ·exact(hv b h').elim
 | some q=>
  obtain⟨t,k⟩:=q
  obtain⟨xs,v0,ob,rfl,rfl,h7,h8,a1,a2,h9⟩:=hv
  have a3:=hg (by simp)
  show ∃ β',Between P N w0 β0 L0 tmps ds l1 S n0 lp D0 rec ((g,.vec t k 0 xs)::L) (fun b=>X b∨G b) T W β'∧∀ (j:Nat) u v,[AV.vec g 0 k xs.length][j]? = some u→#[v0][j]? = some v→V W β' ((g,.vec t k 0 xs)::L) u v
  have nG:∀ b i,Jc W β L b i→¬ G b:=fun b i hs hb=>hs.seen (h.hid b (hG b hb).1 (hG b hb).2.2.1 (hG b hb).2.1 i ((hG b hb).2.2.2 i))
  have h5:∀ id,g≠id→(lk ((g,Jn.vec t k 0 xs)::L) id)=lk L id:=fun id e=>by rw [Gf,if_neg e]
  have own:∀ id b,(lk ((g,Jn.vec t k 0 xs)::L) id).isSome=true→(upP β g ob) id=some b→(g=id∧G b)∨(g≠id∧(lk L id).isSome=true∧β id=some b):=fun id b h1 h2=>by
   by_cases e:g=id
   ·subst e; exact .inl ⟨rfl,(a1 b).2 (by simpa [upP] using h2)⟩
   ·rw [h5 id e] at h1
    exact .inr ⟨e,h1,by simpa only [upP,if_neg (Ne.symm e)] using h2⟩
  have oth:∀ id o,lk L id=some o→g≠id:=fun id o ho e=>by subst e; rw [a3] at ho; cases ho
  have stab:∀ b i,Jc W β L b i→Jc W ⟨(upP β g ob).at_,fun b i=>β.hid b i∧¬ G b⟩ ((g,.vec t k 0 xs)::L) b i:=fun b i hs=>⟨hs.lt,fun hh=>hs.seen hh.1,fun id o ho hb=>by
   rcases own id b (by rw [ho]; rfl) hb with ⟨_,q⟩ | ⟨e,_,q⟩
   ·exact(nG b i hs q).elim
   ·rw [h5 id e] at ho; exact hs.kept id o ho q⟩
  have stw:lY W β L W ⟨(upP β g ob).at_,fun b i=>β.hid b i∧¬ G b⟩ ((g,.vec t k 0 xs)::L):=⟨fun b i hs=>⟨stab b i hs,rfl⟩,fun id _ cs h=>⟨by simp [upP,Ne.symm (oth id _ h)],cs,by rw [h5 id (oth id _ h)]; exact h⟩,fun id _ es h=>⟨by simp [upP,Ne.symm (oth id _ h)],es,by rw [h5 id (oth id _ h)]; exact h⟩,fun id _ n es h=>⟨by simp [upP,Ne.symm (oth id _ h)],n,es,by rw [h5 id (oth id _ h)]; exact h⟩,
   fun id _ _ ver xs h=>⟨ver,xs,by rw [h5 id (oth id _ h)]; exact h,Ny,fun _=>⟨rfl,by simp [upP,Ne.symm (oth id _ h)],fun b hb=>rfl⟩⟩,fun id _ _ ver hw h=>⟨ver,hw,by rw [h5 id (oth id _ h)]; exact h,Ny,fun _=>⟨rfl,by simp [upP,Ne.symm (oth id _ h)],fun b hb=>rfl⟩⟩⟩
  have a4:∀ b i,S b i∨T b i→Jc W β L b i:=fun b i h'=>h'.elim (h.data b i) (fun h'=>(h.tdata b i h').2)
  refine⟨⟨(upP β g ob).at_,fun b i=>β.hid b i∧¬ G b⟩,⟨⟨fun b i hh=>h.sat.hid b i hh.1,fun id b h1 h2=>?_,fun id b j h1 h2 hh=>?_,fun id id' b h1 h2 h3 h4=>?_,fun id o ho=>?_⟩,
   h.step.thenW stw rfl rfl ⟨rfl,Ny⟩ (Ny) (fun b i a5=>⟨fun hh=>hh.1,fun hh=>⟨hh,fun ht=>by have:=(hG b ht).1; omega⟩⟩) (fun b a5 hf=>⟨rfl,fun id h1 h2=>?_⟩),⟨fun t=>(h.frame.tmp t).stepW stw⟩,fun id b h1 h2=>?_,
   fun b g1 g2 g3 i g4=>⟨h.hid b g1 g2 (fun hx=>g3 (.inl hx)) i g4,fun hb=>g3 (.inr hb)⟩,fun b hb=>hb.elim (h.lt b) (fun hb=>(hG b hb).2.2.1),h.loop,h.mark,h.old,fun b i hs=>stab b i (h.data b i hs),fun b i h6=>⟨(h.tdata b i h6).1,stab b i (h.tdata b i h6).2⟩,⟨h.defs.top,h.defs.nodup,fun d hd=>?_⟩,h.deflt⟩,fun j u v hu hv=>?_⟩
  ·rcases own id b h1 h2 with ⟨_,q⟩ | ⟨_,q1,q2⟩
   ·exact(hG b q).2.2.1
   ·exact h.sat.bnd id b q1 q2
  ·rcases own id b h1 h2 with ⟨_,q⟩ | ⟨_,q1,q2⟩
   ·exact hh.2 q
   ·exact h.sat.apart id b j q1 q2 hh.1
  ·rcases own id b h1 h3 with ⟨e,q⟩ | ⟨_,q1,q2⟩
   ·rcases own id' b h2 h4 with ⟨e',q'⟩ | ⟨_,q1',q2'⟩
    ·exact e.symm.trans e'
    ·exact((hG b q).2.1 (h.obj id' b q1' q2').1).elim
   ·rcases own id' b h2 h4 with ⟨e',q'⟩ | ⟨_,q1',q2'⟩
    ·exact((hG b q').2.1 (h.obj id b q1 q2).1).elim
    ·exact h.sat.inj id id' b q1 q1' q2 q2'
  ·by_cases e:g=id
   ·subst e
    rw [Gf,if_pos rfl] at ho; cases ho
    have eg:(⟨(upP β g ob).at_,fun b i=>β.hid b i∧¬ G b⟩:Gx) g=ob:=by simp [upP]
    rw [eg]
    refine⟨a2,h9.imp_right ?_⟩
    rintro⟨b,h1,cs,h2,h3,h4⟩
    exact⟨b,h1,cs,h2,h3,fun j u v hu hv=>(h4 j u v hu hv).mono fun b i hs=>⟨stab b i (a4 b i hs),rfl⟩⟩
   ·rw [h5 id e] at ho
    have:=(h.sat.obj id o ho).stepW stw (fun b hb=>rfl)
    have eb:(⟨(upP β g ob).at_,fun b i=>β.hid b i∧¬ G b⟩:Gx) id=β id:=by simp [upP,Ne.symm e]
    rw [eb]; exact this
  ·rcases own id b h1 h2 with ⟨_,q⟩ | ⟨_,q1,q2⟩
   ·have:=(hG b q).1; omega
   ·exact hf id q1 q2
  ·rcases own id b h1 h2 with ⟨_,q⟩ | ⟨_,q1,q2⟩
   ·have:=(hG b q).1
    exact⟨.inr q,by omega,by omega⟩
   ·have:=h.obj id b q1 q2
    exact⟨.inl this.1,this.2⟩
  ·obtain⟨D,e,q1,q2,q3⟩:=h.defs.each d hd
   have a8:=h.deflt d hd D e
   exact⟨D,e,q1,q2,fun id h1 h2=>by
    rcases own id D h1 h2 with ⟨_,q⟩ | ⟨_,g1,g2⟩
    ·have:=(hG D q).1; omega
    ·exact q3 id g1 g2⟩
  ·cases j with
   | succ j=>simp at hu
   | zero=>
    simp at hu hv
    subst hu
    subst hv
    refine .vec ⟨t,0,xs,by rw [Gf,if_pos rfl],Ny,fun _=>⟨rfl,?_⟩⟩ h7
    have eg:(⟨(upP β g ob).at_,fun b i=>β.hid b i∧¬ G b⟩:Gx) g=ob:=by simp [upP]
    rw [eg]; exact h8

end Go.Proofs.YthkihfoleenlmaaGreat
