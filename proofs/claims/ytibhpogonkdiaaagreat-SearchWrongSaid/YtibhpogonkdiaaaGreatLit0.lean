/-
 A range over a function,the caller's side: More steps: Slices that begin aQ an empty literal and are appended to;
-/
import Derived.Test.YtibhpogonkdiaaaGreatIter
set_option linter.unusedVariables false
set_option linter.unusedSimpArgs false
set_option linter.unnecessarySimpa false
namespace Go.Proofs.YtibhpogonkdiaaaGreat
open Go.RowKit

def G5b:List Tmp→List AV→Fr→Fr
 | p::ps,u::us,l=>G5b ps us ((p,u)::l)
 | _,_,l=>l
theorem Jj.round {w:World} {β:Gr} {L:Loc}:∀ {ps:List Tmp} {us:List AV} {vs:List Value} {tmps:Array Value} {l:Fr},ps.length=us.length→vs.length=us.length→(∀ p∈ps,p < tmps.size)→Jj { tmps:=tmps,defers:=[] } w β L l →
  (∀ (j:Nat) u v,us[j]? = some u→vs[j]? = some v→V w β L u v)→Jj { tmps:=(ps.zip vs).foldl (fun t (x:Tmp×Value)=>t.setIfInBounds x.1 x.2) tmps,defers:=[] } w β L (G5b ps us l)
 | [],[],[],_,_,_,_,_,h,_=>h
 | p::ps,u::us,v::vs,tmps,l,h1,h2,h3,h,hv=>by
  have hp:=h.put (d:=p) (u:=u) (v:=v) (h3 p (List.mem_cons_self ..)) (hv 0 u v rfl rfl)
  exact Jj.round (ps:=ps) (us:=us) (vs:=vs) (by simpa using h1) (by simpa using h2) (fun q hq=>by simpa using h3 q (List.mem_cons_of_mem _ hq)) hp (fun j u' v' hu h0=>hv (j+1) u' v' (by simpa using hu) (by simpa using h0))
 | [],_::_,_,_,_,h,_,_,_,_=>by simp at h
 | _::_,[],_,_,_,h,_,_,_,_=>by simp at h
 | _,[],_::_,_,_,_,h,_,_,_=>by simp at h
 | _,_::_,[],_,_,_,h,_,_,_=>by simp at h
theorem Q28 {ps:List Tmp}:∀ {vs:List Value} {tmps:Array Value},((ps.zip vs).foldl (fun t (x:Tmp×Value)=>t.setIfInBounds x.1 x.2) tmps).size=tmps.size:=by
 induction ps with
 | nil=>intro vs tmps; simp
 | cons p ps ih=>
  intro vs tmps
  cases vs with
  | nil=>simp
  | cons v vs=>rw [List.zip_cons_cons,List.foldl_cons,ih]; simp

theorem Step.thenW {w0 W W':World} {β0 β β':Gr} {L0 L L':Loc} (h:Step w0 β0 L0 W β L) (k:G92 W β L W' β' L') (h1:W'.os=W.os) (h2:W'.tape=W.tape) (h3:W'.output=W.output∧W.drawn≤W'.drawn) (h4:W.heap.size≤W'.heap.size)
  (hid:∀ b i,b < w0.heap.size→(β'.hid b i ↔ β.hid b i)) (far:∀ b,b < w0.heap.size→(∀ id,(lk L id).isSome=true→β id≠some b)→W'.heap[b]? = W.heap[b]? ∧ ∀ id,(lk L' id).isSome=true→β' id≠some b):Step w0 β0 L0 W' β' L' where
 os:=h1.trans h.os
 tape:=h2.trans h.tape
 output:=⟨h3.1.trans h.output.1,Nat.le_trans h.output.2 h3.2⟩
 size:=Nat.le_trans h.size h4
 hid:=fun b i hb=>(hid b i hb).trans (h.hid b i hb)
 stab:=fun b i hs=>by
  obtain⟨a1,a2⟩:=h.stab b i hs
  obtain⟨k1,k2⟩:=k.stab b i a1
  exact⟨k1,k2.trans a2⟩
 far:=fun b hb hf=>by
  obtain⟨a1,a2⟩:=h.far b hb hf
  obtain⟨k1,k2⟩:=far b hb a2
  exact⟨k1.trans a1,k2⟩
 box:=fun id t cs hi=>by
  obtain⟨h1,cs',h2⟩:=h.box id t cs hi
  obtain⟨k1,k2⟩:=k.box id t cs' h2
  exact⟨k1.trans h1,k2⟩
 map:=fun id t es hi=>by
  obtain⟨h1,es',h2⟩:=h.map id t es hi
  obtain⟨k1,k2⟩:=k.map id t es' h2
  exact⟨k1.trans h1,k2⟩
 iter:=fun id m n es hi=>by
  obtain⟨h1,n',es',h2⟩:=h.iter id m n es hi
  obtain⟨k1,k2⟩:=k.iter id m n' es' h2
  exact⟨k1.trans h1,k2⟩
 vec:=fun id t kk ver xs hi=>by
  obtain⟨v1,xs1,h1,h2,h3⟩:=h.vec id t kk ver xs hi
  obtain⟨v2,xs2,k1,k2,k3⟩:=k.vec id t kk v1 xs1 h1
  refine⟨v2,xs2,k1,Nat.le_trans h2 k2,fun e=>?_⟩
  obtain⟨a1,a2,a3⟩:=h3 (by omega)
  obtain⟨b1,b2,b3⟩:=k3 (by omega)
  exact⟨b1.trans a1,b2.trans a2,fun b hb=>(b3 b (a2.trans hb)).trans (a3 b hb)⟩
 spare:=fun id t kk ver hw hi=>by
  obtain⟨v1,hw1,h1,h2,h3⟩:=h.spare id t kk ver hw hi
  obtain⟨v2,h0,k1,k2,k3⟩:=k.spare id t kk v1 hw1 h1
  refine⟨v2,h0,k1,Nat.le_trans h2 k2,fun e=>?_⟩
  obtain⟨a1,a2,a3⟩:=h3 (by omega)
  obtain⟨b1,b2,b3⟩:=k3 (by omega)
  exact⟨b1.trans a1,b2.trans a2,fun b hb=>(b3 b (a2.trans hb)).trans (a3 b hb)⟩

theorem Step.drop {w0 w:World} {β0 β:Gr} {L0 L L':Loc} {N:Cfg} {a:Act} {l l':Fr} (h:Step w0 β0 L0 w β L) (h1:Sat w β L) (h0:∀ id,(lk L0 id).isSome=true→id∈N.base) (hf:Fits N.base l L l' L') (ha:N.n≤a.tmps.size) (hd:a.defers=[]) (h2:Jj a w β L l):Step w0 β0 L0 w β L':=
 (Qo.fits (N:=N) (a:=a) ⟨h1,h,h2,ha,h0,by rw [hd]; exact .nil⟩ hf).step

structure Between (P:Program) (N:Cfg) (w0:World) (β0:Gr) (L0:Loc) (tmps:Array Value) (ds:List Deferred) (l1:Fr) (S:Nat→Nat→Prop) (n0 lp D:Nat) (rec:Loop) (L:Loc) (X:Nat→Prop) (T:Nat→Nat→Prop) (W:World) (β:Gr):Prop where
 sat:Sat W β L
 step:Step w0 β0 L0 W β L
 frame:Jj { tmps:=tmps,defers:=[] } W β L l1
 obj:∀ id b,(lk L id).isSome=true→β id=some b→X b∧b≠lp∧b≠D
 hid:∀ b,n0≤b→b < W.heap.size→¬ X b→∀ i,¬ T b i→β.hid b i
 lt:∀ b,X b→b < W.heap.size
 loop:W.heap[lp]? = some (.loop rec)
 mark:W.heap[D]? = some (.deferred (some []))
 old:n0≤W.heap.size
 data:∀ b i,S b i→Hn W β L b i
 tdata:∀ b i,T b i→n0≤b∧Hn W β L b i
 defs:G35 none w0.heap.size W β L ds
 deflt:∀ d∈ds,∀ D',d={ target:=.collected D',args:=#[] }→D' < n0
theorem G35.turned {ro:Option Nat} {B n0:Nat} {w w':World} {β β':Gr} {L:Loc} {ds:List Deferred} (h:G35 ro B w β L ds) (h0:∀ d∈ds,∀ D',d={ target:=.collected D',args:=#[] }→D' < n0) (hk:∀ D,D < n0→w.heap[D]? = some (.deferred (some []))→w'.heap[D]? = w.heap[D]?) (hb:∀ id,β' id=β id):G35 ro B w' β' L ds:=
 ⟨h.top,h.nodup,fun d hd=>by
  obtain⟨D,e,h1,h2,h3⟩:=h.each d hd
  exact⟨D,e,h1,(hk D (h0 d hd D e) h2).trans h2,fun id hi he=>h3 id hi ((hb id).symm.trans he)⟩⟩

def Mid (P:Program) (N:Cfg) (body:Code) (Q:Post) (l:Fr) (L:Loc):Prop:=
 ∃ l' L',(∀ w0 β0 L0 a w β,Qo N w0 β0 L0 a w β l L→∃ β',Qo N w0 β0 L0 a w β' l' L')∧JC P ⟨N.n,L'.map (·.1),N.ro⟩ body Q l' L'
theorem R7d {P:Program} {N:Cfg} {body:Code} {Q:Post} {l:Fr} {L:Loc} (h:JC P ⟨N.n,L.map (·.1),N.ro⟩ body Q l L):Mid P N body Q l L:=⟨l,L,fun _ _ _ _ _ β hs=>⟨β,hs⟩,h⟩
theorem Between.more {P:Program} {N:Cfg} {w0:World} {β0:Gr} {L0:Loc} {tmps:Array Value} {ds:List Deferred} {l1:Fr} {S:Nat→Nat→Prop} {n0 lp D:Nat} {rec:Loop} {L:Loc} {X:Nat→Prop} {T T':Nat→Nat→Prop} {W:World} {β:Gr}
  (h:Between P N w0 β0 L0 tmps ds l1 S n0 lp D rec L X T W β) (h1:∀ b i,T b i→T' b i) (h2:∀ b i,T' b i→¬ T b i→n0≤b∧¬ X b∧b < W.heap.size) (h0:w0.heap.size≤n0) :
  Between P N w0 β0 L0 tmps ds l1 S n0 lp D rec L X T' W ⟨β.at_,fun b i=>β.hid b i∧¬ T' b i⟩:=by
 have told:∀ b i,T' b i→n0≤b:=fun b i h'=>by
  by_cases ht:T b i
  ·exact(h.tdata b i ht).1
  ·exact(h2 b i h' ht).1
 have stab:∀ b i,Hn W β L b i→Hn W ⟨β.at_,fun b i=>β.hid b i∧¬ T' b i⟩ L b i:=fun b i hs=>⟨hs.lt,fun hh=>hs.seen hh.1,hs.kept⟩
 have stw:G92 W β L W ⟨β.at_,fun b i=>β.hid b i∧¬ T' b i⟩ L:=⟨fun b i hs=>⟨stab b i hs,rfl⟩,fun _ _ cs h=>⟨rfl,cs,h⟩,fun _ _ es h=>⟨rfl,es,h⟩,fun _ _ n es h=>⟨rfl,n,es,h⟩,
  fun id _ _ ver xs h=>⟨ver,xs,h,M3,fun _=>⟨rfl,rfl,fun b hb=>rfl⟩⟩,fun id _ _ ver hw h=>⟨ver,hw,h,M3,fun _=>⟨rfl,rfl,fun b hb=>rfl⟩⟩⟩
 refine⟨⟨fun b i hh=>h.sat.hid b i hh.1,h.sat.bnd,fun id b j h1 h2 hh=>h.sat.apart id b j h1 h2 hh.1,h.sat.inj,fun id o ho=>(h.sat.obj id o ho).stepW stw (fun b hb=>rfl)⟩,
  h.step.thenW stw rfl rfl ⟨rfl,M3⟩ (M3) (fun b i h4=>⟨fun hh=>hh.1,fun hh=>⟨hh,fun ht=>by have:=told b i ht; omega⟩⟩) (fun b h4 hf=>⟨rfl,hf⟩),⟨fun t=>(h.frame.tmp t).stepW stw⟩,h.obj,
  fun b g1 g2 g3 i g4=>⟨h.hid b g1 g2 g3 i (fun ht=>g4 (h1 b i ht)),g4⟩,h.lt,h.loop,h.mark,h.old,fun b i hs=>stab b i (h.data b i hs),fun b i h3=>⟨told b i h3,?_⟩,h.defs.turned h.deflt (fun _ _ _=>rfl) (fun _=>rfl),h.deflt⟩
 by_cases ht:T b i
 ·exact stab b i (h.tdata b i ht).2
 ·obtain⟨g1,g2,g3⟩:=h2 b i h3 ht
  exact⟨g3,fun hh=>hh.2 h3,fun id o ho hb=>(g2 (h.obj id b (by rw [ho]; rfl) hb).1).elim⟩

def rL (gv:Option (Nat×Nat)) (g:Nat) (L:Loc) (us:List AV):Loc:=match gv,us with
 | some (t,k),[.list _ xs]=>(g,.vec t k 0 xs)::L
 | _,_=>L
def rU (gv:Option (Nat×Nat)) (g:Nat) (us:List AV):List AV:=match gv,us with
 | some (_,k),[.list _ xs]=>[.vec g 0 k xs.length]
 | _,_=>us
theorem Jdc {gv:Option (Nat×Nat)} {g:Nat} {us:List AV}:(rU gv g us).length=us.length:=by
 unfold rU
 split <;> rfl
theorem Between.given {P:Program} {N:Cfg} {w0:World} {β0:Gr} {L0:Loc} {tmps:Array Value} {ds:List Deferred} {l1:Fr} {S:Nat→Nat→Prop} {n0 lp D0:Nat} {rec:Loop} {L:Loc} {X:Nat→Prop} {T:Nat→Nat→Prop} {W:World} {β:Gr} {gv:Option (Nat×Nat)} {G:Nat→Prop} {us:List AV} {vs:Array Value} (g:Nat)
  (h:Between P N w0 β0 L0 tmps ds l1 S n0 lp D0 rec L X T W β) (hG:∀ b,G b→n0≤b∧¬ X b∧b < W.heap.size∧∀ i,¬ T b i) (hv:Given gv W (fun b i=>S b i∨T b i) G us vs) (hD:∀ (j:Nat) u v,us[j]? = some u→vs[j]? = some v→D W (fun b i=>S b i∨T b i∨G b) u v)
  (hg:gv≠none→lk L g=none) (h0:w0.heap.size≤n0) (a6:lp < n0) (a7:D0 < n0) :
  ∃ β',Between P N w0 β0 L0 tmps ds l1 S n0 lp D0 rec (rL gv g L us) (fun b=>X b∨G b) T W β'∧∀ (j:Nat) u v,(rU gv g us)[j]? = some u→vs[j]? = some v→V W β' (rL gv g L us) u v:=by
 cases gv with
 | none=>
  have eX:(fun b=>X b∨G b)=X:=by funext b; simp [hv b]
  refine⟨β,by rw [eX]; exact h,fun j u v hu a0=>.data ((hD j u v hu a0).mono fun b i h'=>⟨?_,rfl⟩)⟩
  rcases h' with h' | h' | h'
  ·exact h.data b i h'
  ·exact(h.tdata b i h').2
  ·exact(hv b h').elim
 | some q=>
  obtain⟨t,k⟩:=q
  obtain⟨xs,v0,ob,rfl,rfl,h7,h8,a1,a2,h9⟩:=hv
  have a3:=hg (by simp)
  show ∃ β',Between P N w0 β0 L0 tmps ds l1 S n0 lp D0 rec ((g,.vec t k 0 xs)::L) (fun b=>X b∨G b) T W β'∧∀ (j:Nat) u v,[AV.vec g 0 k xs.length][j]? = some u→#[v0][j]? = some v→V W β' ((g,.vec t k 0 xs)::L) u v
  have nG:∀ b i,Hn W β L b i→¬ G b:=fun b i hs hb=>hs.seen (h.hid b (hG b hb).1 (hG b hb).2.2.1 (hG b hb).2.1 i ((hG b hb).2.2.2 i))
  have h5:∀ id,g≠id→(lk ((g,J8.vec t k 0 xs)::L) id)=lk L id:=fun id e=>by rw [Gb,if_neg e]
  have own:∀ id b,(lk ((g,J8.vec t k 0 xs)::L) id).isSome=true→(upP β g ob) id=some b→(g=id∧G b)∨(g≠id∧(lk L id).isSome=true∧β id=some b):=fun id b h1 h2=>by
   by_cases e:g=id
   ·subst e; exact .inl ⟨rfl,(a1 b).2 (by simpa [upP] using h2)⟩
   ·rw [h5 id e] at h1
    exact .inr ⟨e,h1,by simpa only [upP,if_neg (Ne.symm e)] using h2⟩
  have oth:∀ id o,lk L id=some o→g≠id:=fun id o ho e=>by subst e; rw [a3] at ho; cases ho
  have stab:∀ b i,Hn W β L b i→Hn W ⟨(upP β g ob).at_,fun b i=>β.hid b i∧¬ G b⟩ ((g,.vec t k 0 xs)::L) b i:=fun b i hs=>⟨hs.lt,fun hh=>hs.seen hh.1,fun id o ho hb=>by
   rcases own id b (by rw [ho]; rfl) hb with ⟨_,q⟩ | ⟨e,_,q⟩
   ·exact(nG b i hs q).elim
   ·rw [h5 id e] at ho; exact hs.kept id o ho q⟩
  have stw:G92 W β L W ⟨(upP β g ob).at_,fun b i=>β.hid b i∧¬ G b⟩ ((g,.vec t k 0 xs)::L):=⟨fun b i hs=>⟨stab b i hs,rfl⟩,fun id _ cs h=>⟨by simp [upP,Ne.symm (oth id _ h)],cs,by rw [h5 id (oth id _ h)]; exact h⟩,fun id _ es h=>⟨by simp [upP,Ne.symm (oth id _ h)],es,by rw [h5 id (oth id _ h)]; exact h⟩,fun id _ n es h=>⟨by simp [upP,Ne.symm (oth id _ h)],n,es,by rw [h5 id (oth id _ h)]; exact h⟩,
   fun id _ _ ver xs h=>⟨ver,xs,by rw [h5 id (oth id _ h)]; exact h,M3,fun _=>⟨rfl,by simp [upP,Ne.symm (oth id _ h)],fun b hb=>rfl⟩⟩,fun id _ _ ver hw h=>⟨ver,hw,by rw [h5 id (oth id _ h)]; exact h,M3,fun _=>⟨rfl,by simp [upP,Ne.symm (oth id _ h)],fun b hb=>rfl⟩⟩⟩
  have a4:∀ b i,S b i∨T b i→Hn W β L b i:=fun b i h'=>h'.elim (h.data b i) (fun h'=>(h.tdata b i h').2)
  refine⟨⟨(upP β g ob).at_,fun b i=>β.hid b i∧¬ G b⟩,⟨⟨fun b i hh=>h.sat.hid b i hh.1,fun id b h1 h2=>?_,fun id b j h1 h2 hh=>?_,fun id id' b h1 h2 h3 h4=>?_,fun id o ho=>?_⟩,
   h.step.thenW stw rfl rfl ⟨rfl,M3⟩ (M3) (fun b i a5=>⟨fun hh=>hh.1,fun hh=>⟨hh,fun ht=>by have:=(hG b ht).1; omega⟩⟩) (fun b a5 hf=>⟨rfl,fun id h1 h2=>?_⟩),⟨fun t=>(h.frame.tmp t).stepW stw⟩,fun id b h1 h2=>?_,
   fun b g1 g2 g3 i g4=>⟨h.hid b g1 g2 (fun hx=>g3 (.inl hx)) i g4,fun hb=>g3 (.inr hb)⟩,fun b hb=>hb.elim (h.lt b) (fun hb=>(hG b hb).2.2.1),h.loop,h.mark,h.old,fun b i hs=>stab b i (h.data b i hs),fun b i h6=>⟨(h.tdata b i h6).1,stab b i (h.tdata b i h6).2⟩,⟨h.defs.top,h.defs.nodup,fun d hd=>?_⟩,h.deflt⟩,fun j u v hu hv=>?_⟩
  ·rcases own id b h1 h2 with ⟨_,q⟩ | ⟨_,q1,q2⟩
   ·exact(hG b q).2.2.1
   ·exact h.sat.bnd id b q1 q2
  ·rcases own id b h1 h2 with ⟨_,q⟩ | ⟨_,q1,q2⟩
   ·exact hh.2 q
   ·exact h.sat.apart id b j q1 q2 hh.1
  ·rcases own id b h1 h3 with ⟨e,q⟩ | ⟨_,q1,q2⟩
   ·rcases own id' b h2 h4 with ⟨e',q'⟩ | ⟨_,q1',q2'⟩
    ·exact e.symm.trans e'
    ·exact((hG b q).2.1 (h.obj id' b q1' q2').1).elim
   ·rcases own id' b h2 h4 with ⟨e',q'⟩ | ⟨_,q1',q2'⟩
    ·exact((hG b q').2.1 (h.obj id b q1 q2).1).elim
    ·exact h.sat.inj id id' b q1 q1' q2 q2'
  ·by_cases e:g=id
   ·subst e
    rw [Gb,if_pos rfl] at ho; cases ho
    have eg:(⟨(upP β g ob).at_,fun b i=>β.hid b i∧¬ G b⟩:Gr) g=ob:=by simp [upP]
    rw [eg]
    refine⟨a2,h9.imp_right ?_⟩
    rintro⟨b,h1,cs,h2,h3,h4⟩
    exact⟨b,h1,cs,h2,h3,fun j u v hu hv=>(h4 j u v hu hv).mono fun b i hs=>⟨stab b i (a4 b i hs),rfl⟩⟩
   ·rw [h5 id e] at ho
    have:=(h.sat.obj id o ho).stepW stw (fun b hb=>rfl)
    have eb:(⟨(upP β g ob).at_,fun b i=>β.hid b i∧¬ G b⟩:Gr) id=β id:=by simp [upP,Ne.symm e]
    rw [eb]; exact this
  ·rcases own id b h1 h2 with ⟨_,q⟩ | ⟨_,q1,q2⟩
   ·have:=(hG b q).1; omega
   ·exact hf id q1 q2
  ·rcases own id b h1 h2 with ⟨_,q⟩ | ⟨_,q1,q2⟩
   ·have:=(hG b q).1
    exact⟨.inr q,by omega,by omega⟩
   ·have:=h.obj id b q1 q2
    exact⟨.inl this.1,this.2⟩
  ·obtain⟨D,e,q1,q2,q3⟩:=h.defs.each d hd
   have a8:=h.deflt d hd D e
   exact⟨D,e,q1,q2,fun id h1 h2=>by
    rcases own id D h1 h2 with ⟨_,q⟩ | ⟨_,g1,g2⟩
    ·have:=(hG D q).1; omega
    ·exact q3 id g1 g2⟩
  ·cases j with
   | succ j=>simp at hu
   | zero=>
    simp at hu hv
    subst hu
    subst hv
    refine .vec ⟨t,0,xs,by rw [Gb,if_pos rfl],M3,fun _=>⟨rfl,?_⟩⟩ h7
    have eg:(⟨(upP β g ob).at_,fun b i=>β.hid b i∧¬ G b⟩:Gr) g=ob:=by simp [upP]
    rw [eg]; exact h8

theorem H9d {κ:Type} {gv:Option (Nat×Nat)} (g:Nat) {k0:κ} {nx:κ→List AV→κ→Prop} {fi:κ→Prop} {P:Program} {N:Cfg} {gop:Operand} {ps:List Tmp} {assign body:Code} {Q:Post} {l:Fr} {L:Loc} (l1:Fr) {gf:FuncId} {caps:List AV} {σ:Type} (I:κ→σ→Prop) (M:σ→Loc) (s0:σ)
  (b6:N.ro=none) (hg:ev l gop=.fn gf caps) (e8:Qe (fun _=>false) caps=true) (hB:He P gf=true) (e9:Ja6 P gf caps gv k0 nx fi) (f0:gv≠none→∀ s,lk (M s) g=none) (h0:I k0 s0) (hf:Fits N.base l L l1 (M s0))
  (f3:∀ k us k',nx k us k'→ps.length=us.length) (f5:∀ p∈ps,p < N.n) (f6:∀ s,H73 (fun i=>(lk (M s) i).isSome) l1 l1) (f7:∀ s,allIn (M s) N.base=true)
  (hr:∀ k us k' s,nx k us k'→I k s→∀ (lr:Nat) (K:Fr→Loc→Prop),(∀ l L s',I k' s'→Fits [] l L [] (M s')→K l L) →
   JC P ⟨N.n,(rL gv g (M s) us).map (·.1),some lr⟩ assign ⟨fun l2 L2=>Mid P ⟨N.n,(rL gv g (M s) us).map (·.1),some lr⟩ body ⟨K,fun _ _=>False,fun _ _ _=>False⟩ l2 L2,fun _ _=>False,fun _ _ _=>False⟩ (G5b ps (rU gv g us) l1) (rL gv g (M s) us))
  (c2:∀ k s,fi k→I k s→Q.norm l1 (M s)):JC P N (.rangeFunc gop ps.toArray assign body) Q l L:=by
 intro n w0 β0 L0 a w β hs
 have h5:=hs.fits hf
 have hv:=hs.frame.ev gop
 rw [hg] at hv
 obtain⟨lb,he,f8,b7⟩:=hv.inv_fn
 rw [b6]
 refine wpIn_rangeFunc (F:=FR none) ?_
 intro fn f9
 obtain⟨rec,h9⟩:∃ rec:LoopState→Option Code→Loop,rec=fun st pe=>{ state:=st,pending:=pe,fn,tmps:=a.tmps,params:=ps.toArray,assign,body,defers:=w.heap.size }:=⟨_,rfl⟩
 obtain⟨W1,a0⟩:∃ W1,(w.alloc (.deferred (some []))).alloc (.loop (rec .ready none))=W1:=⟨_,rfl⟩
 have j1:W1.heap.size=w.heap.size+2:=by rw [← a0]; simp
 have g0:W1.heap[w.heap.size+1]? = some (.loop (rec .ready none)):=by
  rw [← a0]; have:=World.alloc_heap_new (w.alloc (.deferred (some []))) (.loop (rec .ready none)); rwa [World.size_alloc] at this
 have g5:W1.heap[w.heap.size]? = some (.deferred (some [])):=by
  rw [← a0]; exact(Below.heap_alloc _ _ _ (by simp)).trans (World.alloc_heap_new w _)
 have h6:∀ b,b < w.heap.size→W1.heap[b]? = w.heap[b]? := fun b hb=>by
  rw [← a0]; exact(Je _ _ (by simp; omega)).trans (Je w _ hb)
 have g6:w0.heap.size≤w.heap.size:=hs.step.size
 obtain⟨S,b2⟩:∃ S:Nat→Nat→Prop,S=Hn w β (M s0):=⟨_,rfl⟩
 obtain⟨X0,c7⟩:∃ X0:Nat→Prop,X0=fun b=>∃ id,(lk (M s0) id).isSome=true∧β id=some b:=⟨_,rfl⟩
 obtain⟨E,hE⟩:∃ E:Zr κ,E={ W0:=W1,fr:=fun b=>W1.heap.size≤b,S:=S,lp:=w.heap.size+1,nx:=nx,gv:=gv,J:=fun k X T W=>∃ β1 s,I k s∧Between P N w0 β0 L0 a.tmps a.defers l1 S W1.heap.size (w.heap.size+1) w.heap.size (rec .ready none) (M s) X T W β1 }:=⟨_,rfl⟩
 have stw1:G92 w β (M s0) W1 β (M s0):=by
  refine⟨fun b i h=>⟨⟨by have:=h.lt; omega,h.seen,h.kept⟩,Ja (w:=w) (h6 b h.lt)⟩,fun _ _ cs h=>⟨rfl,cs,h⟩,fun _ _ es h=>⟨rfl,es,h⟩,fun _ _ n es h=>⟨rfl,n,es,h⟩,
   fun id _ _ ver xs h=>⟨ver,xs,h,M3,fun _=>⟨rfl,rfl,fun b hb=>Zh (h6 b (h5.sat.bnd id b (by rw [h]; rfl) hb))⟩⟩,
   fun id _ _ ver hw h=>⟨ver,hw,h,M3,fun _=>⟨rfl,rfl,fun b hb=>h6 b (h5.sat.bnd id b (by rw [h]; rfl) hb)⟩⟩⟩
 have b0:∀ d∈a.defers,∀ D',d={ target:=.collected D',args:=#[] }→D' < w.heap.size:=fun d hd D' e=>by
  obtain⟨D,e2,_,h2,_⟩:=h5.defers.each d hd
  have:D'=D:=by rw [e] at e2; injection e2 with e3; injection e3
  subst this
  exact(Kn h2).1
 have start:Between P N w0 β0 L0 a.tmps a.defers l1 S W1.heap.size (w.heap.size+1) w.heap.size (rec .ready none) (M s0) X0 (fun _ _=>False) W1 β:=by
  refine⟨⟨fun b i h=>by have:=h5.sat.hid b i h; omega,fun id b h1 h2=>by have:=h5.sat.bnd id b h1 h2; omega,h5.sat.apart,h5.sat.inj,fun id o ho=>(h5.sat.obj id o ho).stepW stw1 (fun b hb=>h6 b (h5.sat.bnd id b (by rw [ho]; rfl) hb))⟩,
   h5.step.thenW stw1 (by rw [← a0]; rfl) (by rw [← a0]; rfl) (by rw [← a0]; exact⟨rfl,M3⟩) (by omega) (fun _ _ _=>Iff.rfl) (fun b hb hf=>⟨h6 b (by omega),hf⟩),⟨fun t=>(h5.frame.tmp t).stepW stw1⟩,fun id b h1 h2=>?_,fun b h1 h2=>by omega,fun b hb=>?_,g0,g5,M3,fun b i hb=>?_,fun _ _ h=>h.elim,?_,?_⟩
  ·have:=h5.sat.bnd id b h1 h2
   exact⟨by rw [c7]; exact⟨id,h1,h2⟩,by omega,by omega⟩
  ·rw [c7] at hb; obtain⟨id,h1,h2⟩:=hb
   have:=h5.sat.bnd id b h1 h2; omega
  ·rw [b2] at hb; exact(stw1.stab b i hb).1
  ·have:=h5.defers
   rw [b6] at this
   exact this.turned (n0:=w.heap.size) b0 (fun D hD _=>h6 D hD) (fun _=>rfl)
  ·intro d hd D' e
   have:=b0 d hd D' e; omega
 have d9:E.Ok P:=by
  subst hE
  refine⟨fun b i hb=>?_,fun b hb=>hb,fun b i hb hs=>?_,fun k X T W W' hJ ht g7=>?_,fun m k k' us X T0 T G W vs hy hJ g8 g9 c8 hD hG i0=>?_⟩
  ·show b < W1.heap.size
   have hb:S b i:=hb
   rw [b2] at hb; have:=hb.lt; omega
  ·have hb:W1.heap.size≤b:=hb
   have hs:S b i:=hs
   rw [b2] at hs; have:=hs.lt; omega
  ·obtain⟨β1,s,hI,hb⟩:=hJ
   obtain⟨g1,g2,g3⟩:=StI.round (X:=fun b=>W1.heap.size≤b∧¬ X b∧b < W.heap.size) (X':=fun b=>W1.heap.size≤b∧¬ X b∧b < W'.heap.size) (T:=T) (w':=W') hb.sat (fun b h=>⟨h.2.2,hb.hid b h.1 h.2.2 h.2.1⟩) (fun id b h1 h2 hx=>hx.2.1 (hb.obj id b h1 h2).1)
    ⟨ht.os,ht.tape,ht.output,ht.size,fun b h1 h2=>ht.keep b h1 (fun h=>h2 ⟨h.1,h.2,h1⟩)⟩ (fun b i h _=>g7 b i h) (fun b h=>⟨fun h'=>⟨h'.1,h'.2.1,h⟩,fun h'=>⟨h'.1,h'.2.1,by have:=ht.size; omega⟩⟩) (fun b h=>h.2.2)
   have b3:∀ b,b < W1.heap.size→b < W.heap.size→W'.heap[b]? = W.heap[b]? := fun b h1 h2=>ht.keep b h2 (fun h=>by have h3:W1.heap.size≤b:=h.1; omega)
   refine⟨_,s,hI,g1,hb.step.thenW g2 ht.os ht.tape ht.output ht.size (fun b i a5=>⟨fun h=>h.elim id (fun h=>by have:=hb.old; omega),.inl⟩) (fun b a5 hf=>⟨b3 b (by omega) (by have:=hb.old; omega),hf⟩),⟨fun t=>(hb.frame.tmp t).stepW g2⟩,hb.obj,fun b h1 h2 h3=>(g3 b ⟨h1,h3,h2⟩).2,fun b h=>Ko (hb.lt b h) ht.size,?_,?_,Nat.le_trans hb.old ht.size,fun b i h=>(g2.stab b i (hb.data b i h)).1,fun b i h=>⟨(hb.tdata b i h).1,(g2.stab b i (hb.tdata b i h).2).1⟩,?_,hb.deflt⟩
   ·exact(b3 _ (by omega) (Kn hb.loop).1).trans hb.loop
   ·exact(b3 _ (by omega) (Kn hb.mark).1).trans hb.mark
   ·exact hb.defs.turned hb.deflt (fun D h1 h2=>b3 D h1 (Kn h2).1) (fun _=>rfl)
  ·obtain⟨βq,s,hI,i1⟩:=hJ
   obtain⟨Ls,i2⟩:∃ Ls,rL gv g (M s) us=Ls:=⟨_,rfl⟩
   obtain⟨β1,hb,c9⟩:=(i1.more g8 g9 (by omega)).given g (G:=G) (us:=us) (vs:=vs) hG i0 hD (fun h=>f0 h s) (by omega) (by omega) (by omega)
   have b8:ps.length=us.length:=f3 k us k' hy
   have c3:ps.length=(rU gv g us).length:=by rw [Jdc]; exact b8
   have d0:=hr k us k' s hy hI
   rw [i2] at hb c9 d0
   have d3:=run_yield (P:=P) (args:=vs) hb.loop (by rw [h9]; simp [c8,b8])
   rw [h9] at d3
   have d4:(ps.toArray.zip vs).foldl (fun(tmps:Array Value) (x:Tmp×Value)=>tmps.setIfInBounds x.1 x.2) a.tmps=(ps.zip vs.toList).foldl (fun(tmps:Array Value) (x:Tmp×Value)=>tmps.setIfInBounds x.1 x.2) a.tmps:=by
    rw [← Array.foldl_toList,Array.toList_zip]
   have e0:w.heap.size+1 < W.heap.size:=(Kn hb.loop).1
   have d5:w.heap.size < W.heap.size:=by omega
   have nlp:∀ id,(lk Ls id).isSome=true→β1 id≠some (w.heap.size+1):=fun id h1 h2=>(hb.obj id _ h1 h2).2.1 rfl
   have nD:∀ id,(lk Ls id).isSome=true→β1 id≠some w.heap.size:=fun id h1 h2=>(hb.obj id _ h1 h2).2.2 rfl
   have c4:N.n≤((ps.toArray.zip vs).foldl (fun(tmps:Array Value) (x:Tmp×Value)=>tmps.setIfInBounds x.1 x.2) a.tmps).size:=by rw [d4,Q28]; exact hs.size
   have i3:Jj { tmps:=(ps.toArray.zip vs).foldl (fun(tmps:Array Value) (x:Tmp×Value)=>tmps.setIfInBounds x.1 x.2) a.tmps,defers:=[] } W β1 Ls (G5b ps (rU gv g us) l1):=by
    rw [d4]
    refine Jj.round c3 (by rw [Jdc]; simpa using c8) (fun p hp=>Ko (f5 p hp) hs.size) hb.frame (fun j u v hu hv=>c9 j u v hu (by simpa using hv))
   have J4b:∀ (L:Loc) id,(lk L id).isSome=true→id∈L.map (·.1):=fun L id h=>by
    induction L with
    | nil=>simp [lk] at h
    | cons p r ih=>
     obtain⟨j,o⟩:=p
     rw [Gb] at h
     by_cases e:j=id
     ·subst e; simp
     ·rw [if_neg e] at h; simp [ih h]
   refine⟨fn,_,assign,body,d3,roundIn_of_wpIn f9 ?_⟩
   refine wpIn_mono (d0 (w.heap.size+1) (fun l3 L3=>∃ s',I k' s'∧Fits [] l3 L3 [] (M s')) (fun l3 L3 s' h1 h2=>⟨s',h1,h2⟩) m W β1 Ls _ W β1 ⟨hb.sat,Step.refl _ _ _,i3,c4,J4b Ls,.nil⟩) (fun e a1 w1 q=>?_)
   cases e with
   | normal=>
    obtain⟨βm,lm,Lm,i4,l2,L2,b7,c5⟩:=q
    obtain⟨β2,a7⟩:=b7 _ _ _ _ _ _ i4
    have st1:=a7.step
    have f1:=st1.far _ e0 nlp
    have d1:=st1.far _ d5 nD
    have a2:=f1.1.trans hb.loop
    refine⟨_,run_beginRound a2 (by rw [h9]),?_⟩
    obtain⟨W2,h7⟩:∃ W2,w1.putObj (w.heap.size+1) (.loop { rec .ready none with state:=.busy })=W2:=⟨_,rfl⟩
    have sw2:G92 w1 β2 L2 W2 β2 L2:=by rw [← h7]; exact Zx a2 (by simp) (by simp) f1.2
    have sat2:Sat W2 β2 L2:=by rw [← h7]; exact G99 a2 (by simp) (by simp) f1.2 a7.sat
    have e5:W2.heap[w.heap.size+1]? = some (.loop { rec .ready none with state:=.busy }):=by rw [← h7]; exact World.putObj_heap_same (Kn a2).1
    have oth2:∀ b,b≠w.heap.size+1→W2.heap[b]? = w1.heap[b]? := fun b hb=>by rw [← h7]; exact World.putObj_heap_other hb
    have sz2:W2.heap.size=w1.heap.size:=by rw [← h7]; exact World.putObj_size
    have a1d:a1.defers=[]:=a7.defers.top rfl
    rw [h7]
    refine wpIn_mono (c5 m W2 β2 L2 a1 W2 β2 ⟨sat2,Step.refl _ _ _,⟨fun t=>(a7.frame.tmp t).stepW sw2⟩,a7.size,J4b L2,by rw [a1d]; exact .nil⟩) (fun e a3 w3 q=>?_)
    cases e with
    | normal=>
     obtain⟨β3,l3,L3,a8,s',i5,b1⟩:=q
     have st2:=a8.step
     have f2:=st2.far (w.heap.size+1) (by have:=st1.size; omega) f1.2
     have d2:=st2.far w.heap.size (by have:=st1.size; omega) d1.2
     have a9:=f2.1.trans e5
     have a4:=run_endRound (P:=P) none a9
     obtain⟨W4,h8⟩:∃ W4,w3.putObj (w.heap.size+1) (.loop (rec .ready none))=W4:=⟨_,rfl⟩
     have c6:(Instr.endRound (w.heap.size+1) none).run P w3=.ok (.bool true) W4:=by
      rw [← h8]
      rw [h9] at a4 ⊢
      exact a4
     have sz4:W4.heap.size=w3.heap.size:=by rw [← h8]; exact World.putObj_size
     have oth4:∀ b,b≠w.heap.size+1→W4.heap[b]? = w3.heap[b]? := fun b hb=>by rw [← h8]; exact World.putObj_heap_other hb
     have b9:W4.heap[w.heap.size+1]? = some (.loop (rec .ready none)):=by rw [← h8]; exact World.putObj_heap_same (Kn a9).1
     have b4:Fits N.base l3 L3 [] (M s'):=⟨b1.fr,b1.loc,f7 s'⟩
     have a6:=b1.drop
     have f4:∀ id,(lk (M s') id).isSome=true→β3 id≠some (w.heap.size+1):=fun id h=>f2.2 id (a6.some h)
     have sw4:G92 w3 β3 (M s') W4 β3 (M s'):=by rw [← h8]; exact Zx a9 (by simp) (by simp) f4
     have sat3:Sat w3 β3 (M s'):=a8.sat.fits b4
     have sat4:Sat W4 β3 (M s'):=by rw [← h8]; exact G99 a9 (by simp) (by simp) f4 sat3
     have szs1:=st1.size
     have szs2:=st2.size
     have c0:w0.heap.size≤w.heap.size+1:=by omega
     -- the steps since the call began
     have g1:Step w0 β0 L0 w1 β2 L2:=hb.step.trans st1
     have g2:Step w0 β0 L0 W2 β2 L2:=by rw [← h7]; exact Gfc a2 (by simp) (by simp) f1.2 w0 β0 L0 (M3) c0 g1
     have g3:Step w0 β0 L0 w3 β3 L3:=g2.trans st2
     have g3':Step w0 β0 L0 w3 β3 (M s'):=g3.drop (N:=N) (a:={ a3 with defers:=[] }) a8.sat hs.base b4 a8.size rfl ⟨a8.frame.tmp⟩
     have g4:Step w0 β0 L0 W4 β3 (M s'):=by rw [← h8]; exact Gfc a9 (by simp) (by simp) f4 w0 β0 L0 (M3) c0 g3'
     have fr3:Jj { tmps:=a.tmps,defers:=[] } w3 β3 L3 l1:=((hb.frame.step st1).stepW sw2).step st2
     have fr4:Jj { tmps:=a.tmps,defers:=[] } W4 β3 (M s') l1:=⟨fun t=>((fr3.tmp t).conv a6 ((f6 s').get t)).stepW sw4⟩
     -- what lay in W and is none of the caller's objects
     have keepW:∀ b,b < W.heap.size→b≠w.heap.size+1→(∀ id,(lk Ls id).isSome=true→β1 id≠some b)→W4.heap[b]? = W.heap[b]? ∧ ∀ id,(lk L3 id).isSome=true→β3 id≠some b:=fun b i6 d6 i7=>by
      obtain⟨e1,e2⟩:=st1.far b i6 i7
      obtain⟨e3,e4⟩:=st2.far b (by omega) e2
      exact⟨(oth4 b d6).trans (e3.trans ((oth2 b d6).trans e1)),e4⟩
     have d7:=keepW w.heap.size d5 (by omega) nD
     have stabW:∀ b i,Hn W β1 Ls b i→Hn W4 β3 (M s') b i:=fun b i h=>(sw4.stab b i (a6.stab (st2.stab b i (sw2.stab b i (st1.stab b i h).1).1).1)).1
     have cellW:∀ b i,Hn W β1 Ls b i→Qn W4 b i=Qn W b i:=fun b i h=>(sw4.stab b i (a6.stab (st2.stab b i (sw2.stab b i (st1.stab b i h).1).1).1)).2.trans ((st2.stab b i (sw2.stab b i (st1.stab b i h).1).1).2.trans ((sw2.stab b i (st1.stab b i h).1).2.trans (st1.stab b i h).2))
     refine⟨_,_,c6,rfl,fun b=>(X b∨G b)∨(W.heap.size≤b∧b < W4.heap.size),⟨β3,s',i5,sat4,g4,fr4,fun id b h1 h2=>?_,fun b h1 h2 h3 i h4=>?_,fun b h=>h.elim (fun h=>by have:=hb.lt b h; omega) (fun h=>h.2),b9,d7.1.trans hb.mark,by have:=hb.old; omega,fun b i h=>stabW b i (hb.data b i h),fun b i h=>⟨(hb.tdata b i h).1,stabW b i (hb.tdata b i h).2⟩,?_,hb.deflt⟩,⟨?_,?_,?_,by omega,fun b h1 h2=>?_⟩,fun b h=>⟨fun h'=>h'.elim _root_.id (fun h'=>by omega),.inl⟩,fun b h=>h.elim (fun h=>by have:=hb.lt b h; omega) (fun h=>h.2),fun b i h=>cellW b i (hb.data b i h)⟩
     ·have c1:=a6.some h1
      refine⟨?_,fun e=>f4 id h1 (by rw [h2,e]),fun e=>d7.2 id c1 (by rw [h2,e])⟩
      rcases Ks b W.heap.size with a5 | i8
      ·refine .inl (Classical.byContradiction fun hx=>?_)
       exact(keepW b a5 (fun e=>f4 id h1 (by rw [h2,e])) (fun id' h3 h4=>hx (hb.obj id' b h3 h4).1)).2 id c1 h2
      ·exact .inr ⟨i8,by have:=sat4.bnd id b h1 h2; exact this⟩
     ·have a5:b < W.heap.size:=Nat.lt_of_not_le fun h=>h3 (.inr ⟨h,h2⟩)
      have:=hb.hid b h1 a5 (fun h=>h3 (.inl h)) i h4
      exact(st2.hid b i (by omega)).2 ((st1.hid b i a5).2 this)
     ·have q1:=hb.defs.step st1
      have nel:∀ d∈a.defers,∀ D',d={ target:=.collected D',args:=#[] }→W.heap[D']? = some (.deferred (some []))→D'≠w.heap.size+1:=fun d _ D' _ h e=>by rw [e,hb.loop] at h; cases h
      refine⟨q1.top,q1.nodup,fun d hd=>?_⟩
      obtain⟨D',e,h1,h2,h3⟩:=hb.defs.each d hd
      have i9:=nel d hd D' e h2
      have d8:=keepW D' (Kn h2).1 i9 h3
      exact⟨D',e,h1,d8.1.trans h2,fun id hi=>d8.2 id (a6.some hi)⟩
     ·rw [← h8]; exact st2.os.trans (by rw [← h7]; exact st1.os)
     ·rw [← h8]; exact st2.tape.trans (by rw [← h7]; exact st1.tape)
     ·have e2:=st2.output
      have e1:=st1.output
      rw [← h7] at e2
      rw [← h8]
      exact⟨e2.1.trans e1.1,Nat.le_trans e1.2 e2.2⟩
     ·by_cases e:b=w.heap.size+1
      ·rw [e,b9,hb.loop]
      ·exact(keepW b h1 e (fun id h3 h4=>h2 (hb.obj id b h3 h4).1)).1
    | ret=>obtain⟨_,_,_,_,hq⟩:=q; exact hq.elim
    | exit i=>obtain⟨_,_,_,_,hq⟩:=q; exact hq.elim
    | goto t=>exact q.elim
    | panic c=>exact q.elim
    | outgrown=>exact q.elim
   | ret=>obtain⟨_,_,_,_,hq⟩:=q; exact hq.elim
   | exit i=>obtain⟨_,_,_,_,hq⟩:=q; exact hq.elim
   | goto t=>exact q.elim
   | panic c=>exact q.elim
   | outgrown=>exact q.elim
 have e6:∀ (j:Nat) u v,caps[j]? = some u→lb[j]? = some v→D W1 S u v:=fun j u v hu hv=>by
  have:=(b7 j u v hu hv).toD (Y8 e8 u (M1 hu))
  refine this.mono fun b i h=>?_
  have h':=hf.drop.stab h
  refine⟨by rw [b2]; exact h',Ja (w:=w) (h6 b h'.lt)⟩
 have e7:∀ b,X0 b→b < W1.heap.size:=start.lt
 have b5:=e9 (n - 1) E lb X0 d9 (by rw [hE]; exact⟨rfl,rfl⟩) f8 (by rw [hE]; exact e6) (by rw [hE]; exact e7) (by rw [hE]; exact⟨β,s0,h0,start⟩)
 refine⟨w.heap.size+1,[{ target:=.collected w.heap.size,args:=#[] }],W1,{ target:=.fn (.func gf) lb,args:=#[.func (.yield (w.heap.size+1)) #[] #[]] },W1,gf,
  #[.func (.yield (w.heap.size+1)) #[] #[]]++lb,W1,?_,?_,fun _ _=>trivial,?_,fun e=>(by cases e),?_⟩
 ·rw [← a0,h9]; exact run_enterLoop_outer _ _ _ _ _
 ·simp only [resolve,he]
  simp [go_sem]
 ·simp [invoke,go_sem,He.out hB]
 ·rw [hE] at b5
  refine CallsIn.mono (F:=FR none) b5 fun e W2 h=>?_
  obtain⟨⟨v,rfl⟩,k,X,T,j0,β1,s,hI,hb⟩:=h
  have a4:=run_endLoop (P:=P) hb.loop (by rw [h9]; simp)
  refine⟨none,W2.putObj (w.heap.size+1) (.loop { rec .ready none with state:=.exhausted }),by rw [h9] at a4 ⊢; exact a4,β1,l1,M s,?_,c2 k s j0 hI⟩
  have nlp:∀ id,(lk (M s) id).isSome=true→β1 id≠some (w.heap.size+1):=fun id h1 h2=>(hb.obj id _ h1 h2).2.1 rfl
  refine⟨G99 hb.loop (by simp) (by simp) nlp hb.sat,Gfc hb.loop (by simp) (by simp) nlp w0 β0 L0 (M3) (by omega) hb.step,⟨fun t=>(hb.frame.tmp t).stepW (Zx hb.loop (by simp) (by simp) nlp)⟩,hs.size,hs.base,?_⟩
  rw [b6]
  refine⟨fun h=>(by cases h),List.nodup_cons.2 ⟨fun h=>?_,hb.defs.nodup⟩,fun d hd=>?_⟩
  ·have:=b0 _ h _ rfl; omega
  ·rcases Mi.1 hd with rfl | hd
   ·exact⟨_,rfl,g6,(World.putObj_heap_other (by omega)).trans hb.mark,fun id h1 h2=>(hb.obj id _ h1 h2).2.2 rfl⟩
   ·obtain⟨D',e,h1,h2,h3⟩:=hb.defs.each d hd
    refine⟨D',e,h1,(World.putObj_heap_other fun e2=>?_).trans h2,h3⟩
    rw [e2,hb.loop] at h2; cases h2
theorem Jc6 {P:Program} {N:Cfg} {gop:Operand} {p:Tmp} {assign body:Code} {Q:Post} {l:Fr} {L:Loc} (g:Nat) (l1:Fr) {gf:FuncId} {caps:List AV} {t k:Nat} {α:Type} {f:α→AV} (ys:List (List α)) {σ:Type} (I:Nat→σ→Prop) (M:σ→Loc) (s0:σ)
  (h3:N.ro=none) (hg:ev l gop=.fn gf caps) (h4:Qe (fun _=>false) caps=true) (hB:He P gf=true) (h5:Jf5 P gf caps t k (ys.map fun y=>[.list k (y.map f)])) (h6:∀ s,lk (M s) g=none) (h0:I 0 s0) (hf:Fits N.base l L l1 (M s0))
  (h7:Nat.blt p N.n=true) (h8:∀ s,H73 (fun i=>(lk (M s) i).isSome) l1 l1) (h9:∀ s,allIn (M s) N.base=true)
  (hr:∀ i y s,ys[i]? = some y→I i s→∀ (lr:Nat) (K:Fr→Loc→Prop),(∀ l L s',I (i+1) s'→Fits [] l L [] (M s')→K l L) →
   JC P ⟨N.n,g::(M s).map (·.1),some lr⟩ assign ⟨fun l2 L2=>Mid P ⟨N.n,g::(M s).map (·.1),some lr⟩ body ⟨K,fun _ _=>False,fun _ _ _=>False⟩ l2 L2,fun _ _=>False,fun _ _ _=>False⟩ ((p,.vec g 0 k y.length)::l1) ((g,.vec t k 0 (y.map f))::M s))
  (h2:∀ s,I ys.length s→Q.norm l1 (M s)):JC P N (.rangeFunc gop [p].toArray assign body) Q l L:=
 H9d (gv:=some (t,k)) g l1 I M s0 h3 hg h4 hB h5 (fun _=>h6) h0 hf (fun i us i' h=>by
  have:=h.1
  rw [M7] at this
  cases hy:ys[i]? with
  | none=>rw [hy] at this; cases this
  | some y=>rw [hy] at this; cases this; rfl) (fun q hq=>by simp at hq; subst hq; simpa [Nat.blt_eq] using h7) h8 h9 (fun i us i' s h hI=>by
  obtain⟨h1,rfl⟩:=h
  rw [M7] at h1
  cases hy:ys[i]? with
  | none=>rw [hy] at h1; cases h1
  | some y=>
   rw [hy] at h1; cases h1
   have:=hr i y s hy hI
   simpa only [rL,rU,G5b,Me,List.map_cons] using this) (fun i s e hI=>by rw [Me] at e; subst e; exact h2 s hI)

theorem Qo.vecCell {N:Cfg} {w0 w:World} {β0 β:Gr} {L0 L:Loc} {a:Act} {l:Fr} (hs:Qo N w0 β0 L0 a w β l L) (i j id E k:Nat) {t:TypeId} {cs cs':List AV} (hi:lk L i=some (.box t cs)) (hid:lk L id=none) (hj:cs[j]? = some (.sc (.slice none 0 0)))
  (h2:cs.set j (.vec id 0 k 0)=cs'):∃ β',Qo N w0 β0 L0 a w β' l ((i,.box t cs')::(id,.vec E k 0 [])::L):=by
 obtain⟨st,sat⟩:=Qj (w':=w) (t:=E) (k:=k) (ver1:=0) (xs':=[]) (ob':=none) hs.sat (.inl hid) rfl rfl ⟨rfl,M3⟩ (M3) (fun _ _ _=>rfl) (.inl rfl)
 have h1:Qo N w0 β0 L0 a w (upP β id none) l ((id,.vec E k 0 [])::L):=⟨sat ⟨by simp,.inl ⟨rfl,rfl⟩⟩,hs.step.trans st,hs.frame.step st,hs.size,hs.base,hs.defers.step st⟩
 have h3:id≠i:=fun e=>by subst e; rw [hi] at hid; cases hid
 refine⟨_,h1.redescribe (i:=i) (t:=t) (cs:=cs) (by rw [Gb,if_neg h3]; exact hi) (by rw [← h2]; simp) fun vs q u v h0 h5 hu hv=>?_⟩
 rw [← h2] at hu
 by_cases e:j=q
 ·subst e
  have h4:j < cs.length:=(Ky hj).1
  simp [List.getElem?_set,h4] at hu
  subst hu
  have:=h0 j _ v hj hv
  rw [this.inv_sc]
  exact .vec ⟨E,0,[],(by rw [Gb,if_pos rfl]:lk ((id,J8.vec E k 0 [])::L) id=_),M3,fun _=>⟨rfl,.inl ⟨rfl,rfl,by rw [show (upP β id none).at_ id=none by simp [upP]]⟩⟩⟩ rfl
 ·rw [List.getElem?_set_ne e] at hu
  exact h0 q u v hu hv
theorem Hbd {P:Program} {N:Cfg} {ops:Array Oper} {rest:List Oper} {Q:Post} {l:Fr} {L:Loc} (i j id E k:Nat) {t:TypeId} {cs cs':List AV} (hi:lk L i=some (.box t cs)) (hid:lk L id=none) (hj:cs[j]? = some (.sc (.slice none 0 0)))
  (h0:cs.set j (.vec id 0 k 0)=cs') (hk:JL P N ops rest Q l ((i,.box t cs')::(id,.vec E k 0 [])::L)):JL P N ops rest Q l L:=
 fun n w0 β0 L0 a w β hs=>by
  obtain⟨β',h⟩:=hs.vecCell i j id E k hi hid hj h0
  exact hk n w0 β0 L0 a w β' h

theorem R8b {P:Program} {o:Oper} {l:Fr} {L:Loc} {u:AV} {x y:Operand} {T i:Nat} {t:TypeId} (hT:R2 P T 0=true) (ho:o.op=.store T x y) (hu:ev l y=u) (hx:ev l x=.ptr i 0) (hi:lk L i=some (.box t []))
  (hc:u.flatOk=true) (hk:u.cells=[]):Gw P o l L (Is .junk ((i,.box t [])::L)):=by
 subst hu
 intro a w β K Q h0 hf hK
 have h1:=hf.ev x
 rw [hx] at h1
 obtain⟨b,hb,h4⟩:=h1.inv_ptr
 obtain⟨old,h2,h5,h8⟩:=H6b h0 hi hb
 obtain⟨c1,c2,c3⟩:=(hf.ev y).cells hc
 rw [hk] at c1
 have hr:=Gfd (P:=P) (off:=0) hT c1 c3 h2 (by omega)
 unfold Oper.wp
 have h6:(execOp a.eval o).run P w=.ok .skip (w.setRow b (old.toList.take 0++(a.eval y).cells.toList++old.toList.drop (0+0)).toArray):=by
  simp [execOp,ho,h4,hr]
 rw [h6]
 have h3:old.size=0:=by simpa using h5
 have h7:(a.eval y).cells.size=0:=by simpa using c1
 refine hK _ _ _ _ β ⟨rfl,rfl⟩ (h0.set hi hb h2 _ ?_ ?_) (Step.set h0 hi hb _) .junk
 ·simp [h7,h3]
 ·intro j u v hu hv
  simp at hu

theorem Jw.ver {P:Program} {f:FuncId} {args:List AV} {i t k n:Nat} {xs:List AV} (h:Jw P f args [] (fun u L'=>∃ p:Nat,u=.vec i p k n∧L'=[(i,.vec t k p xs)])) (q:Nat):Jw P f args [] (fun u L'=>u=.vec i q k n∧L'=[(i,.vec t k q xs)]):=by
 intro w β vs h6 hl hv
 refine(h w β vs h6 hl hv).mono fun e w' hr=>?_
 obtain⟨v,r,β',L',rfl,hs,st,h8,p,rfl,rfl⟩:=hr
 have h4:∀ id,(lk [(i,J8.vec t k p xs)] id).isSome=(lk [(i,J8.vec t k q xs)] id).isSome:=fun id=>by
  rw [Gb,Gb]; split <;> rfl
 have h5:∀ b j,Hn w' β' [(i,J8.vec t k p xs)] b j→Hn w' β' [(i,J8.vec t k q xs)] b j:=fun b j h=>⟨h.lt,h.seen,fun id o ho hb=>by
  rw [Gb] at ho
  by_cases e:i=id
  ·subst e
   rw [if_pos rfl] at ho; cases ho
   exact(show False from h.kept i (.vec t k p xs) (by rw [Gb,if_pos rfl]) hb).elim
  ·rw [if_neg e] at ho; cases ho⟩
 refine⟨v,_,β',_,rfl,⟨hs.hid,fun id b h1=>hs.bnd id b (by rw [h4]; exact h1),fun id b j h1=>hs.apart id b j (by rw [h4]; exact h1),fun id id' b h1 h2=>hs.inj id id' b (by rw [h4]; exact h1) (by rw [h4]; exact h2),fun id o ho=>?_⟩,
  ⟨st.os,st.tape,st.output,st.size,st.hid,fun b j h=>⟨h5 b j (st.stab b j h).1,(st.stab b j h).2⟩,fun b hb hf=>⟨(st.far b hb hf).1,fun id hid=>(st.far b hb hf).2 id (by rw [h4]; exact hid)⟩,fun id t cs h=>by simp [lk] at h,fun id t cs h=>by simp [lk] at h,fun id t n cs h=>by simp [lk] at h,fun id t k ver xs h=>by simp [lk] at h,fun id t k ver xs h=>by simp [lk] at h⟩,?_,rfl,rfl⟩
 ·rw [Gb] at ho
  by_cases e:i=id
  ·subst e
   rw [if_pos rfl] at ho; cases ho
   have h0:=hs.obj i _ (by rw [Gb,if_pos rfl])
   refine⟨h0.1,h0.2.imp_right ?_⟩
   rintro⟨b,hb,vs,a1,a2,a3⟩
   exact⟨b,hb,vs,a1,a2,fun j u v hu hv=>(a3 j u v hu hv).mono fun b i hs=>⟨h5 b i hs,rfl⟩⟩
  ·rw [if_neg e] at ho; cases ho
 ·cases h8 with
  | data h=>cases h
  | vec hp h7=>
   obtain⟨t',ver',xs',h1,_,h3⟩:=hp
   rw [Gb,if_pos rfl] at h1; cases h1
   exact .vec ⟨t,q,xs,by rw [Gb,if_pos rfl],M3,fun _=>h3 rfl⟩ h7
theorem Jw.fresh0 {P:Program} {f:FuncId} {args:List AV} {i E k n:Nat} {xs:List AV} (h:Jw P f args [] (fun av L'=>∃ p,av=.vec i p k n∧L'=[(i,.vec E k p xs)])):Jw P f args [] (fun av L'=>av=.vec i 0 k n∧L'=[(i,.vec E k 0 xs)]):=h.ver 0

def G5a (l:Fr):List Operand→List AV→Prop
 | [],[]=>True
 | x::r,u::s=>((ev l x).plain=u∨∃ k,u=.list k []∧ev l x=.sc (.slice none 0 0))∧u.isData=true∧G5a l r s
 | _,_=>False
theorem G5a.length {l:Fr}:∀ {xs:List Operand} {us:List AV},G5a l xs us→xs.length=us.length
 | [],[],_=>rfl
 | _::_,_::_,h=>by simp [G5a.length h.2.2]
 | [],_::_,h=>h.elim
 | _::_,[],h=>h.elim
theorem G5a.get {l:Fr}:∀ {xs:List Operand} {us:List AV},G5a l xs us→∀ {j:Nat} {x:Operand} {u:AV},xs[j]? = some x→us[j]? = some u→((ev l x).plain=u∨∃ k,u=.list k []∧ev l x=.sc (.slice none 0 0))∧u.isData=true
 | x::r,u::s,h,j,x',u',hx,hu=>by
  cases j with
  | zero=>simp at hx hu; subst hx; subst hu; exact⟨h.1,h.2.1⟩
  | succ j=>simp at hx hu; exact h.2.2.get hx hu
 | [],[],_,j,_,_,hx,_=>by simp at hx
 | [],_::_,h,_,_,_,_,_=>h.elim
 | _::_,[],h,_,_,_,_,_=>h.elim
theorem R96 {P:Program} {o:Oper} {l:Fr} {L:Loc} {u:AV} {f:FuncId} {xs:List Operand} {args:List AV} {ts:Array TypeId} (ho:o.op=.call { callee:=.value (.func f),args:=xs.toArray,argTypes:=ts }) (hc:Pure P f args (·=u)) (hB:He P f=true) (ha:G5a l xs args):Gw P o l L (Is u L):=by
 intro a w β K Q h0 hf hK
 have hr:(execOp a.eval o).run P w=.ok (.enter f (xs.toArray.map a.eval)) w:=by
  simp [execOp,ho,resolve,Act.eval,Deferred.ofValue,invoke,He.out hB]
 unfold Oper.wp
 rw [hr]
 show Calls P f _ w _
 refine(H7a hc h0 (vs:=xs.toArray.map a.eval) (by simp [ha.length]) (fun j u v hu hv=>?_)).mono fun e w' h=>?_
 ·simp only [Array.getElem?_map,List.getElem?_toArray,Option.map_eq_some_iff] at hv
  obtain⟨x,hx,rfl⟩:=hv
  obtain⟨h1,h2⟩:=ha.get hx hu
  rcases h1 with h1 | ⟨k0,h1,h3⟩
  ·have:=(hf.ev x).plain
   rw [h1] at this
   exact this.toD h2
  ·have hv:=hf.ev x
   rw [h3] at hv
   rw [h1,hv.inv_sc]
   exact .nil (Nat.zero_le _)
 ·obtain⟨v,r,rfl,h1,h2,h3,h4⟩:=h
  exact hK r L v w' β ⟨h4,rfl⟩ h1 h2 h3
/-! ### A variable of a map's type is set anew: the new map takes the old one's name -/
theorem Rc8 {P:Program} {o:Oper} {l:Fr} {L:Loc} {x y:Operand} {T E k by_ n:Nat} {kd kd':IntKind} {nx ny:Int} (zs:List Value) (ho:o.op=.makeSlice T x y) (hx:ev l x=.sc (.int kd nx)) (hy:ev l y=.sc (.int kd' ny))
  (hT:sliceB P T E k=true) (hE:Rq P E k by_=true) (hz:(P.info? E).bind (fun i=>i.zero.map Value.cells)=some zs.toArray) (hn:nx=(n:Int)) (hm:ny=(n:Int)) (hb:decide (by_*n≤281474976710656∧n≤maxLen∧n*k≤16777216)=true)
  (z:AV) (a2:∀ (w:World) (S:Nat→Nat→Prop) (j:Nat) a b,z.cells[j]? = some a→zs[j]? = some b→D w S a b) (h4:z.cells.length=k) :
  Gw P o l L (Is (.list k (List.replicate n z)) L):=by
 subst hn hm
 intro a w β K Q h0 hf hK
 have h1:=Ku hb
 obtain⟨inf,zv,e1,e2,e3,e4,e5,e6⟩:=Rq.out hE
 have h5:=hf.ev x
 rw [hx] at h5
 have h6:=hf.ev y
 rw [hy] at h6
 have a0:(n:Int)≤9223372036854775807:=by
  have h:=h1.2.1
  simp [maxLen] at h
  omega
 have a3:(inf.bytes:Int)*(n:Int)≤281474976710656:=by
  have h:((inf.bytes*n:Nat):Int)≤281474976710656:=by rw [e3]; have:=h1.1; omega
  rwa [Int.natCast_mul] at h
 have hr:=run_make (P:=P) w T E inf zv (sliceB.out hT).1 e1 e4 kd kd' n n (by omega) (Int.le_refl _) a3 a0
 simp only [Int.toNat_natCast] at hr
 have a1:(execOp a.eval o).run P w=.ok (.value (.slice (some ⟨w.heap.size,0,none⟩) n n)) (w.alloc (.cells (madeCells zv.cells (n*inf.size)) E)):=by
  simp [execOp,ho,h5.inv_sc,h6.inv_sc,hr]
 unfold Oper.wp
 rw [a1]
 have h7:zv.cells=zs.toArray:=by
  rw [e1] at hz
  simp [e4] at hz
  exact hz
 have h2:∀ x∈List.replicate n z,x.cells.length=k:=fun y hy=>by rw [List.eq_of_mem_replicate hy]; exact h4
 have hd:=D.newRow (E:=E) (vs:=madeCells zv.cells (n*inf.size)) h0 h2 (by rw [List.length_replicate]; exact h1.2.1) (by rw [Hu h2,List.length_replicate,size_madeCells,e2]) (fun j u v hu hv=>by
  rw [e2] at hv
  -- the cells
  have h8:∀ x∈List.replicate n z,x.cells.length=k:=fun y hy=>by rw [List.eq_of_mem_replicate hy]; exact h4
  have hj:j < n*k:=by
   have:=(Ky hu).1
   rw [Hu h8] at this
   simpa using this
  have a4:j=j / k*k+j % k:=by rw [Nat.mul_comm]; exact(Nat.div_add_mod j k).symm
  have hq:j / k < n:=Nat.div_lt_of_lt_mul (by rw [Nat.mul_comm]; exact hj)
  have a5:(List.replicate n z)[j / k]? = some z:=by simp [hq]
  rw [a4,G56 h8 a5 (Nat.mod_lt _ e6)] at hu
  have h3:zs.length=k:=by
   have:=e5
   rw [h7] at this
   simpa using this
  refine a2 _ _ (j % k) u v hu ?_
  rw [madeCells] at hv
  simp [hj] at hv
  rw [← hv,h7]
  have h9:j % k < zs.length:=by rw [h3]; exact Nat.mod_lt _ e6
  simp [h3,h9]
  rw [Kz h9]; rfl)
 rw [List.length_replicate] at hd
 exact hK _ _ _ _ β ⟨rfl,rfl⟩ (h0.new _) (Step.new h0 _) (.data hd)
theorem Q84 {P:Program} {o:Oper} {l:Fr} {L:Loc} {x y:Operand} {T E k by_ n:Nat} {kd kd':IntKind} {nx ny:Int} {α:Type} {f:α→AV} (z:α) (zs:List Value) (ho:o.op=.makeSlice T x y) (hx:ev l x=.sc (.int kd nx)) (hy:ev l y=.sc (.int kd' ny))
  (hT:sliceB P T E k=true) (hE:Rq P E k by_=true) (hz:(P.info? E).bind (fun i=>i.zero.map Value.cells)=some zs.toArray) (hn:nx=(n:Int)) (hm:ny=(n:Int)) (hb:decide (by_*n≤281474976710656∧n≤maxLen∧n*k≤16777216)=true)
  (h0:ZOk (f z).cells zs) (h1:(f z).cells.length=k):Gw P o l L (Is (.list k ((List.replicate n z).map f)) L):=by
 have h:=Rc8 (P:=P) (T:=T) (E:=E) (L:=L) zs ho hx hy hT hE hz hn hm hb (f z) (fun w S j a b ha h2=>by
  have:=ZOk.get (w:=w) (β:=⟨fun _=>none,fun b i=>¬ S b i⟩) (L:=[]) h0 j a b ha h2
  refine(this.data_of_nil).mono fun b i hs=>⟨Classical.byContradiction fun hn=>hs.seen hn,rfl⟩) h1
 simpa only [List.map_replicate] using h

theorem J77 {P:Program} {o:Oper} {a:Act} {w:World} {T E k:Nat} (ho:o.op=.buildSlice T 0 #[]) (hT:sliceB P T E k=true):(execOp a.eval o).run P w=.ok (.value (.slice (some ⟨w.heap.size,0,none⟩) 0 0)) (w.alloc (.cells #[] E)):=by
 have h0:=Jp (sliceB.out hT).2 w
 simp [execOp,ho,Instr.buildSlice,underlying,(sliceB.out hT).1,run_program,Sem.run_bind,Result.andThen_ok,h0,newRow,Instr.fill]
 exact congrArg (fun x=>w.alloc (Obj.cells x E)) (Array.toList_inj.1 (by simp))

theorem Qfc {w:World} {β:Gr} {L:Loc} {i:Nat} (E k:Nat) (vs:Array Value) (cap:Nat) (h7:cap≤maxLen) (h8:(w.alloc (.cells vs E)).ownsRow 0 E k (.slice (some ⟨w.heap.size,0,none⟩) 0 cap) 0 []) (h0:Sat w β L) (hi:lk L i=none) :
  Step w β L (w.alloc (.cells vs E)) (upP β i (some w.heap.size)) ((i,.spare E k 0 0)::L)∧Sat (w.alloc (.cells vs E)) (upP β i (some w.heap.size)) ((i,.spare E k 0 0)::L) ∧
  V (w.alloc (.cells vs E)) (upP β i (some w.heap.size)) ((i,.spare E k 0 0)::L) (.own i 0 k []) (.slice (some ⟨w.heap.size,0,none⟩) 0 cap):=by
 have a0:∀ id,(lk L id).isSome=true→i≠id:=fun id h e=>by subst e; rw [hi] at h; cases h
 have h5:∀ b,b < w.heap.size→(w.alloc (.cells vs E)).heap[b]? = w.heap[b]? := fun b hb=>Je w _ hb
 have h6:w.heap.size < (w.alloc (.cells vs E)).heap.size:=by simp
 have st:Step w β L (w.alloc (.cells vs E)) (upP β i (some w.heap.size)) ((i,.spare E k 0 0)::L):=by
  refine⟨rfl,rfl,⟨rfl,M3⟩,Nat.le_of_lt h6,fun _ _ _=>Iff.rfl,fun b j hs=>⟨⟨Nat.lt_trans hs.lt h6,hs.seen,fun id ob hid hb=>?_⟩,Ja (w:=w) (h5 b hs.lt)⟩,fun b hb h9=>⟨h5 b hb,fun id hid e=>?_⟩,fun id t cs hid=>?_,fun id t cs hid=>?_,fun id t n cs hid=>?_,fun id t k' ver xs hid=>?_,fun id t k' ver hw hid=>?_⟩
  ·rw [Gb] at hid
   by_cases e:i=id
   ·subst e; simp only [upP,if_true] at hb; cases hb; exact absurd hs.lt (Nat.lt_irrefl _)
   ·rw [if_neg e] at hid; simp only [upP,if_neg (Ne.symm e)] at hb; exact hs.kept id ob hid hb
  ·rw [Gb] at hid
   by_cases e':i=id
   ·subst e'; simp only [upP,if_true] at e; cases e; exact absurd hb (Nat.lt_irrefl _)
   ·rw [if_neg e'] at hid; simp only [upP,if_neg (Ne.symm e')] at e; exact h9 id hid e
  all_goals
   have e:=a0 id (by rw [hid]; rfl)
  ·exact⟨by simp [upP,Ne.symm e],cs,by rw [Gb,if_neg e]; exact hid⟩
  ·exact⟨by simp [upP,Ne.symm e],cs,by rw [Gb,if_neg e]; exact hid⟩
  ·exact⟨by simp [upP,Ne.symm e],n,cs,by rw [Gb,if_neg e]; exact hid⟩
  ·exact⟨ver,xs,by rw [Gb,if_neg e]; exact hid,M3,fun _=>⟨rfl,by simp [upP,Ne.symm e],fun b hb=>Zh (h5 b (h0.bnd id b (by rw [hid]; rfl) hb))⟩⟩
  ·exact⟨ver,hw,by rw [Gb,if_neg e]; exact hid,M3,fun _=>⟨rfl,by simp [upP,Ne.symm e],fun b hb=>h5 b (h0.bnd id b (by rw [hid]; rfl) hb)⟩⟩
 refine⟨st,⟨fun b j h=>Nat.lt_trans (h0.hid b j h) h6,fun id b hid hb=>?_,fun id b j hid hb hh=>?_,fun id id' b h1 h2 h3 h4=>?_,fun id ob hid=>?_⟩,?_⟩
 ·rw [Gb] at hid
  by_cases e:i=id
  ·subst e; simp only [upP,if_true] at hb; cases hb; exact h6
  ·rw [if_neg e] at hid; simp only [upP,if_neg (Ne.symm e)] at hb; exact Nat.lt_trans (h0.bnd id b hid hb) h6
 ·rw [Gb] at hid
  by_cases e:i=id
  ·subst e; simp only [upP,if_true] at hb; cases hb; exact absurd (h0.hid _ _ hh) (Nat.lt_irrefl _)
  ·rw [if_neg e] at hid; simp only [upP,if_neg (Ne.symm e)] at hb; exact h0.apart id b j hid hb hh
 ·by_cases e:i=id
  ·by_cases e':i=id'
   ·rw [← e,e']
   ·subst e
    rw [Gb,if_neg e'] at h2
    simp only [upP,if_true] at h3
    simp only [upP,if_neg (Ne.symm e')] at h4
    cases h3
    exact absurd (h0.bnd id' _ h2 h4) (Nat.lt_irrefl _)
  ·by_cases e':i=id'
   ·subst e'
    rw [Gb,if_neg e] at h1
    simp only [upP,if_true] at h4
    simp only [upP,if_neg (Ne.symm e)] at h3
    cases h4
    exact absurd (h0.bnd id _ h1 h3) (Nat.lt_irrefl _)
   ·rw [Gb,if_neg e] at h1
    rw [Gb,if_neg e'] at h2
    simp only [upP,if_neg (Ne.symm e)] at h3
    simp only [upP,if_neg (Ne.symm e')] at h4
    exact h0.inj id id' b h1 h2 h3 h4
 ·rw [Gb] at hid
  by_cases e:i=id
  ·subst e; simp at hid; subst hid
   exact .inr ⟨w.heap.size,by simp [upP],vs,heap_alloc_new w _,by simp⟩
  ·rw [if_neg e] at hid
   simp only [upP,if_neg (Ne.symm e)]
   exact(h0.obj id ob hid).step st (fun b hb=>h5 b (h0.bnd id b (by rw [hid]; rfl) hb))
 ·exact .own (.nil h7) ⟨E,0,0,by rw [Gb,if_pos rfl],M3,fun _=>⟨rfl,by simp [Value.ownBlock,upP],[],h8,fun j u hu=>by simp [flat] at hu⟩⟩

theorem Ra5 {w:World} {β:Gr} {L:Loc} {i:Nat} (E k:Nat) (h0:Sat w β L) (hi:lk L i=none) :
  Step w β L (w.alloc (.cells #[] E)) (upP β i (some w.heap.size)) ((i,.spare E k 0 0)::L)∧Sat (w.alloc (.cells #[] E)) (upP β i (some w.heap.size)) ((i,.spare E k 0 0)::L) ∧
  V (w.alloc (.cells #[] E)) (upP β i (some w.heap.size)) ((i,.spare E k 0 0)::L) (.own i 0 k []) (.slice (some ⟨w.heap.size,0,none⟩) 0 0):=
 Qfc E k #[] 0 (Nat.zero_le _) (World.ownsRow_lit w #[] 0 (Nat.zero_le _) (Nat.zero_le _) (by simp)) h0 hi

def H3d (P:Program) (T f off:Nat):Bool:=
 match P.underlying T with
 | some (.struct fs)=>match fs[f]? with
  | some fld=>fld.offset==off&&Qx P fld.type
  | none=>false
 | _=>false
theorem H3d.out {P:Program} {T f off:Nat} (h:H3d P T f off=true):∃ fs fld,P.underlying T=some (.struct fs)∧fs[f]? = some fld∧fld.offset=off∧Qx P fld.type=true:=by
 unfold H3d at h
 split at h
 ·rename_i fs h1
  split at h
  ·rename_i fld h2
   simp only [Mc,beq_iff_eq] at h
   exact⟨fs,fld,h1,h2,h.1,h.2⟩
  ·cases h
 ·cases h

section ops
variable {P:Program} {N:Cfg} {o:Oper} {l:Fr} {L L':Loc} {u:AV} {α:Type}

theorem Q82 (i E k:Nat) {T:Nat} (ho:o.op=.buildSlice T 0 #[]) (hi:lk L i=none) (hT:sliceB P T E k=true):Gw P o l L (Is (.own i 0 k []) ((i,.spare E k 0 0)::L)):=by
 intro a w β K Q h0 hf hK
 unfold Oper.wp
 rw [J77 (E:=E) (k:=k) ho hT]
 obtain⟨st,sat,hv⟩:=Ra5 E k h0 hi
 exact hK _ _ _ _ _ ⟨rfl,rfl⟩ sat st hv

theorem J39 (w:World) (base:Nat) (t ty e:TypeId) (i:TypeInfo) (size:Nat) (ht:P.underlying t=some (.slice e)) (hi:P.info? e=some i)
  (v:Value) (n:Nat) (xs:List Value) (h0:w.ownsRow base e size v n xs) (ao:Option Addr) (c:Nat) :
  (Builtin.append_ #[t,t] ty #[v,.slice ao 0 c]).run P w=.ok v w:=by
 rcases h0.2 with ⟨rfl,rfl⟩ | ⟨g,cap,cur,rfl,_,_,h1,_⟩
 ·cases ao <;> simp [Builtin.append_,run_underlying ht,sizeOf,typeInfo,hi,Builtin.lenOf,Builtin.firstCells,loadCells,loadCellsFrom]
 ·cases ao <;> simp [Builtin.append_,run_underlying ht,sizeOf,typeInfo,hi,Builtin.lenOf,Builtin.firstCells,h1,storeCells,loadCells,loadCellsFrom]

theorem R60 {s x:Operand} {T E k by_ i ver n:Nat} {kx:Nat} {xs:List AV} (ho:o.op=.call { callee:=.builtin .append,args:=#[s,x],argTypes:=#[T,T] }) (hs:ev l s=.own i ver k xs) (hi:lk L i=some (.spare E k ver n)) (hx:Jv (ev l x)=some (kx,[]))
  (hT:sliceB P T E k=true) (hE:Rq P E k by_=true):Gw P o l L (Is (.own i ver k xs) L):=
 Hg fun a w β h7 hf=>by
  have hv:=hf.ev s
  rw [hs] at hv
  have h4:=(hf.ev x).Jv hx
  obtain⟨ao,cap,h5,_⟩:=h4.len
  obtain⟨inf,z,e1,e2,e3,e4,e5,e6⟩:=Rq.out hE
  have h6:=hv
  cases hv with
  | data h=>cases h
  | own hd hp=>
   obtain⟨t,ver',hw,h1,h2,h3⟩:=hp
   rw [hi] at h1
   cases h1
   obtain⟨rfl,h8,vals,h0,h9⟩:=h3 rfl
   have hr:=J39 (P:=P) w 0 T o.type E inf k (sliceB.out hT).1 e1 (a.eval s) _ _ h0 ao cap
   exact⟨a.eval s,by simp [execOp,ho,resolve,invoke,builtin,h5,hr],h6⟩

theorem Jfa {L:Loc} {s x:Operand} {T E k by_ i kx:Nat} {f:α→AV} {xs ys:List α} (ho:o.op=.call { callee:=.builtin .append,args:=#[s,x],argTypes:=#[T,T] }) (hs:ev l s=OW i k f xs) (hi:lk L i=some (.spare E k xs.length xs.length)) (hx:Jv (ev l x)=some (kx,ys.map f))
  (hT:sliceB P T E k=true) (hE:Rq P E k by_=true) (hb:decide ((xs.length+ys.length)*by_≤140737488355328∧xs.length+ys.length≤maxLen)=true) (h2:∀ y,(f y).flatOk=true) (hk:kx=k∨ys=[]) :
  Gw P o l L (Is (OW i k f (xs++ys)) ((i,.spare E k (xs++ys).length (xs++ys).length)::L)):=by
 have h3:=Ku hb
 by_cases h0:ys=[]
 ·subst h0
  have h:=R60 (P:=P) (o:=o) (by_:=by_) ho hs hi (by simpa using hx) hT hE
  rw [List.append_nil]
  intro a w β K Q h4 hf hK
  refine h a w β K Q h4 hf (fun u L1 v w1 β1 hu h5 st1 h6=>?_)
  obtain⟨rfl,rfl⟩:=hu
  have h1:G6f L1 ((i,.spare E k xs.length xs.length)::L1):=fun j=>by
   rw [Gb]
   by_cases e:i=j
   ·subst e; rw [if_pos rfl,hi]
   ·rw [if_neg e]
  exact hK _ _ v w1 β1 ⟨rfl,rfl⟩ (h5.locEq h1) (st1.locEq h1) (h6.locEq h1)
 ·have h:=J0f (ver1:=(xs++ys).length) (xs:=xs.map f) (ys:=ys.map f) ho hs hi hx hT hE (by simpa using h3.1) (by simpa using h3.2) (fun y hy=>by
   obtain⟨z,_,rfl⟩:=Mg.1 hy
   exact h2 z) (hk.imp id (fun e=>by rw [e]; rfl)) (by
   have:=List.length_pos_iff.2 h0
   rw [Ma]; omega)
  simpa only [OW,List.map_append,Ma,Me] using h
theorem H28 {x:Operand} {T f off:Nat} {cs:List AV} (hT:H3d P T f off=true) (ho:o.op=.field T x f) (hx:ev l x=.agg cs) (hn:cs[off]? = some u):Gw P o l L (Is u L):=
 Hg fun a w β _ hf=>by
  have h1:=hf.ev x
  rw [hx] at h1
  obtain⟨vs,he,hl,hv⟩:=h1.inv_agg
  have h0:off < vs.size:=by
   rw [hl]
   rcases Ks off cs.length with h | h
   ·exact h
   ·simp [List.getElem?_eq_none h] at hn
  obtain⟨fs,fld,g1,g2,rfl,g4⟩:=H3d.out hT
  exact⟨vs[fld.offset],by simp [execOp,ho,Instr.field,underlying,g1,g2,he,asAgg,part,Gbf g4,h0],hv fld.offset u _ hn (by simp [h0])⟩
theorem R55 {x y:Operand} {T i ver m t k kk fo:Nat} {f:α→AV} {xs:List α} {e z:α} {u:AV} (hT:R2 P T kk=true) (ho:o.op=.store T x y) (hu:ev l y=u) (hx:ev l x=.vptr i ver m fo) (hi:lk L i=some (.vec t k ver (xs.map f))) (he:xs[m]? = some e)
  (hc:u.flatOk=true) (hd:u.isData=true) (h1:H87 fo u.cells (f e).cells=some (f z).cells) (hk:u.cells.length=kk) (h0:Nat.blt 0 kk=true) :
  Gw P o l L (Is .junk ((i,.vec t k ver ((xs.set m z).map f))::L)):=by
 have h:=Q7f (P:=P) (e:=f e) (z:=f z) (ds:=(f z).cells) hT ho hu hx hi (Ra9 he) hc hd h1 rfl hk h0
 rw [← List.map_set] at h
 exact h
end ops
end Go.Proofs.YtibhpogonkdiaaaGreat
