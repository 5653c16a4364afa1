/- A range over a function,the caller's side: -/
import Derived.Test.YtbgfgnddogfpcaaGreatIter
namespace Go.Proofs.YtbgfgnddogfpcaaGreat
open Go.RowKit

def kE:List Tmp->AD->Fr->Fr
 | p::ps,u::us,l=>kE ps us ((p,u)::l)
 | _,_,l=>l
theorem Jq.round {w:World} {U:Gx} {L:Loc}:∀ {ps:List Tmp} {us:AD} {vs:AK} {tmps:Array Value} {l:Fr},ps.length=us.length->vs.length=us.length->(∀ p∈ps,p < tmps.size)->Jq { tmps:=tmps,defers:=[] } w U L l ->
  (∀ (j:Nat) u v,us[j]? = some u->vs[j]? = some v->V w U L u v)->Jq { tmps:=(ps.zip vs).foldl (fun t (x:Tmp×Value)=>t.setIfInBounds x.1 x.2) tmps,defers:=[] } w U L (kE ps us l)
 | [],[],[],_,_,_,_,_,h,_=>h
 | p::ps,u::us,v::vs,tmps,l,h1,h2,h3,h,hv=>by
  have hp:=h.put (d:=p) (u:=u) (v:=v) (h3 p (List.mem_cons_self ..)) (hv 0 u v rfl rfl);exact Jq.round (ps:=ps) (us:=us) (vs:=vs) (by simpa using h1) (by simpa using h2) (fun q hq=>by simpa using h3 q (List.mem_cons_of_mem _ hq)) hp (fun j u' v' hu h0=>hv (j+1) u' v' (by simpa using hu) (by simpa using h0))
 | [],_::_,_,_,_,h,_,_,_,_=>by simp at h
 | _::_,[],_,_,_,h,_,_,_,_=>by simp at h
 | _,[],_::_,_,_,_,h,_,_,_=>by simp at h
 | _,_::_,[],_,_,_,h,_,_,_=>by simp at h
theorem H1d {ps:List Tmp}:∀ {vs:AK} {tmps:Array Value},((ps.zip vs).foldl (fun t (x:Tmp×Value)=>t.setIfInBounds x.1 x.2) tmps).size=tmps.size:=by
 induction ps with
 | nil=>intro vs tmps; simp
 | cons p ps ih=>
  intro vs tmps;cases vs with
  | nil=>simp
  | cons v vs=>rw [List.zip_cons_cons,List.foldl_cons,ih]; simp

variable {U U0:Gx} {L L0:Loc} {W w0:World}
theorem Step.thenW {W':World} {U':Gx} {L':Loc} (h:Step w0 U0 L0 W U L) (k:mI W U L W' U' L') (h1:W'.os=W.os) (h2:W'.tape=W.tape) (h3:W'.output=W.output/\W.drawn<=W'.drawn) (h4:W.heap.size<=W'.heap.size)
  (hid:∀ b i,b < w0.heap.size->(U'.hid b i ↔ U.hid b i)) (far:∀ b,b < w0.heap.size->(∀ id,(lk L id).isSome=true->U id≠some b)->W'.heap[b]? = W.heap[b]? /\ ∀ id,(lk L' id).isSome=true->U' id≠some b):Step w0 U0 L0 W' U' L' where
 os:=h1.trans h.os
 tape:=h2.trans h.tape
 output:=⟨h3.1.trans h.output.1,Nat.le_trans h.output.2 h3.2⟩
 size:=Nat.le_trans h.size h4
 hid:=fun b i hb=>(hid b i hb).trans (h.hid b i hb)
 AX:=fun b i hs=>by
  obtain⟨a1,a2⟩:=h.AX b i hs;obtain⟨k1,k2⟩:=k.AX b i a1;exact⟨k1,k2.trans a2⟩
 far:=fun b hb hf=>by
  obtain⟨a1,a2⟩:=h.far b hb hf;obtain⟨k1,k2⟩:=far b hb a2;exact⟨k1.trans a1,k2⟩
 box:=fun id t cs hi=>by
  obtain⟨h1,cs',h2⟩:=h.box id t cs hi;obtain⟨k1,k2⟩:=k.box id t cs' h2;exact⟨k1.trans h1,k2⟩
 map:=fun id t es hi=>by
  obtain⟨h1,es',h2⟩:=h.map id t es hi;obtain⟨k1,k2⟩:=k.map id t es' h2;exact⟨k1.trans h1,k2⟩
 iter:=fun id m n es hi=>by
  obtain⟨h1,n',es',h2⟩:=h.iter id m n es hi;obtain⟨k1,k2⟩:=k.iter id m n' es' h2;exact⟨k1.trans h1,k2⟩
 vec:=fun id t kk ver xs hi=>by
  obtain⟨v1,xs1,h1,h2,h3⟩:=h.vec id t kk ver xs hi;obtain⟨v2,xs2,k1,k2,k3⟩:=k.vec id t kk v1 xs1 h1;refine⟨v2,xs2,k1,Nat.le_trans h2 k2,fun e=>?_⟩;obtain⟨a1,a2,a3⟩:=h3 (by omega);obtain⟨b1,b2,b3⟩:=k3 (by omega);exact⟨b1.trans a1,b2.trans a2,fun b hb=>(b3 b (a2.trans hb)).trans (a3 b hb)⟩
 spare:=fun id t kk ver hw hi=>by
  obtain⟨v1,hw1,h1,h2,h3⟩:=h.spare id t kk ver hw hi;obtain⟨v2,h0,k1,k2,k3⟩:=k.spare id t kk v1 hw1 h1;refine⟨v2,h0,k1,Nat.le_trans h2 k2,fun e=>?_⟩;obtain⟨a1,a2,a3⟩:=h3 (by omega);obtain⟨b1,b2,b3⟩:=k3 (by omega);exact⟨b1.trans a1,b2.trans a2,fun b hb=>(b3 b (a2.trans hb)).trans (a3 b hb)⟩

variable {N:Cfg} {l:Fr}
theorem Step.drop {w:World} {L':Loc} {a:Act} {l':Fr} (h:Step w0 U0 L0 w U L) (h1:Sat w U L) (h0:∀ id,(lk L0 id).isSome=true->id∈N.base) (hf:Fits N.base l L l' L') (ha:N.n<=a.tmps.size) (hd:a.defers=[]) (h2:Jq a w U L l):Step w0 U0 L0 w U L':=
 (Qn.fits (N:=N) (a:=a) ⟨h1,h,h2,ha,h0,by rw [hd]; exact .nil⟩ hf).step

structure Between (P:Program) (N:Cfg) (w0:World) (U0:Gx) (L0:Loc) (tmps:Array Value) (ds:List Deferred) (l1:Fr) (S:Nat->Nat->Prop) (n0 lp D:Nat) (rec:Loop) (L:Loc) (X:Nat->Prop) (T:Nat->Nat->Prop) (W:World) (U:Gx):Prop where
 sat:Sat W U L
 step:Step w0 U0 L0 W U L
 frame:Jq { tmps:=tmps,defers:=[] } W U L l1
 obj:∀ id b,(lk L id).isSome=true->U id=some b->X b/\b≠lp/\b≠D
 hid:∀ b,n0<=b->b < W.heap.size->¬ X b->∀ i,¬ T b i->U.hid b i
 lt:∀ b,X b->b < W.heap.size
 loop:W.heap[lp]? = some (.loop rec)
 mark:W.heap[D]? = some (.deferred (some []))
 old:n0<=W.heap.size
 data:∀ b i,S b i->Hs W U L b i
 tdata:∀ b i,T b i->n0<=b/\Hs W U L b i
 defs:gY none w0.heap.size W U L ds
 deflt:∀ d∈ds,∀ D',d={ target:=.collected D',args:=#[] }->D' < n0
variable {ds:List Deferred} {n0:Nat}
theorem gY.turned {ro:Option Nat} {B:Nat} {w w':World} {U':Gx} (h:gY ro B w U L ds) (h0:∀ d∈ds,∀ D',d={ target:=.collected D',args:=#[] }->D' < n0) (hk:∀ D,D < n0->w.heap[D]? = some (.deferred (some []))->w'.heap[D]? = w.heap[D]?) (hb:∀ id,U' id=U id):gY ro B w' U' L ds:=
 ⟨h.top,h.nodup,fun d hd=>by
  obtain⟨D,e,h1,h2,h3⟩:=h.each d hd;exact⟨D,e,h1,(hk D (h0 d hd D e) h2).trans h2,fun id hi he=>h3 id hi ((hb id).symm.trans he)⟩⟩

def Mid (P:Program) (N:Cfg) (body:Code) (Q:Post) (l:Fr) (L:Loc):Prop:=
 ∃ l' L',(∀ w0 U0 L0 a w U,Qn N w0 U0 L0 a w U l L->∃ U',Qn N w0 U0 L0 a w U' l' L')/\JC P ⟨N.n,L'.map (·.1),N.ro⟩ body Q l' L'
variable {body:Code} {Q:Post} {P:Program}
theorem Q9a (h:JC P ⟨N.n,L.map (·.1),N.ro⟩ body Q l L):Mid P N body Q l L:=⟨l,L,fun _ _ _ _ _ U hs=>⟨U,hs⟩,h⟩
theorem Between.more {tmps:Array Value} {l1:Fr} {S:Nat->Nat->Prop} {lp D:Nat} {rec:Loop} {X:Nat->Prop} {T T':Nat->Nat->Prop} 
  (h:Between P N w0 U0 L0 tmps ds l1 S n0 lp D rec L X T W U) (h1:∀ b i,T b i->T' b i) (h2:∀ b i,T' b i->¬ T b i->n0<=b/\¬ X b/\b < W.heap.size) (h0:w0.heap.size<=n0) :
  Between P N w0 U0 L0 tmps ds l1 S n0 lp D rec L X T' W ⟨U.at_,fun b i=>U.hid b i/\¬ T' b i⟩:=by
 have told:∀ b i,T' b i->n0<=b:=fun b i h'=>by
  by_cases ht:T b i
  .exact(h.tdata b i ht).1
  .exact(h2 b i h' ht).1
 have AX:∀ b i,Hs W U L b i->Hs W ⟨U.at_,fun b i=>U.hid b i/\¬ T' b i⟩ L b i:=fun b i hs=>⟨hs.lt,fun hh=>hs.seen hh.1,hs.kept⟩;have stw:mI W U L W ⟨U.at_,fun b i=>U.hid b i/\¬ T' b i⟩ L:=⟨fun b i hs=>⟨AX b i hs,rfl⟩,fun _ _ cs h=>⟨rfl,cs,h⟩,fun _ _ es h=>⟨rfl,es,h⟩,fun _ _ n es h=>⟨rfl,n,es,h⟩,
  fun id _ _ ver xs h=>⟨ver,xs,h,Pf,fun _=>⟨rfl,rfl,fun b hb=>rfl⟩⟩,fun id _ _ ver hw h=>⟨ver,hw,h,Pf,fun _=>⟨rfl,rfl,fun b hb=>rfl⟩⟩⟩
 refine⟨⟨fun b i hh=>h.sat.hid b i hh.1,h.sat.bnd,fun id b j h1 h2 hh=>h.sat.apart id b j h1 h2 hh.1,h.sat.inj,fun id o ho=>(h.sat.obj id o ho).stepW stw (fun b hb=>rfl)⟩,
  h.step.thenW stw rfl rfl ⟨rfl,Pf⟩ (Pf) (fun b i h4=>⟨fun hh=>hh.1,fun hh=>⟨hh,fun ht=>by have:=told b i ht; omega⟩⟩) (fun b h4 hf=>⟨rfl,hf⟩),⟨fun t=>(h.frame.tmp t).stepW stw⟩,h.obj,
  fun b g1 g2 g3 i g4=>⟨h.hid b g1 g2 g3 i (fun ht=>g4 (h1 b i ht)),g4⟩,h.lt,h.loop,h.mark,h.old,fun b i hs=>AX b i (h.data b i hs),fun b i h3=>⟨told b i h3,?_⟩,h.defs.turned h.deflt (fun _ _ _=>rfl) (fun _=>rfl),h.deflt⟩
 by_cases ht:T b i
 .exact AX b i (h.tdata b i ht).2
 .obtain⟨g1,g2,g3⟩:=h2 b i h3 ht;exact⟨g3,fun hh=>hh.2 h3,fun id o ho hb=>(g2 (h.obj id b (by rw [ho]; rfl) hb).1).elim⟩

def rL (gv:Option (Nat×Nat)) (g:Nat) (L:Loc) (us:AD):Loc:=match gv,us with
 | some (t,k),[.list _ xs]=>(g,.vec t k 0 xs)::L
 | _,_=>L
def rU (gv:Option (Nat×Nat)) (g:Nat) (us:AD):AD:=match gv,us with
 | some (_,k),[.list _ xs]=>[.vec g 0 k xs.length]
 | _,_=>us
variable {gv:Option (Nat×Nat)}
theorem Gcd {g:Nat} {us:AD}:(rU gv g us).length=us.length:=by
 unfold rU;split <;> rfl
theorem Between.given {tmps:Array Value} {l1:Fr} {S:Nat->Nat->Prop} {lp D0:Nat} {rec:Loop} {X:Nat->Prop} {T:Nat->Nat->Prop} {G:Nat->Prop} {us:AD} {vs:Array Value} (g:Nat)
  (h:Between P N w0 U0 L0 tmps ds l1 S n0 lp D0 rec L X T W U) (hG:∀ b,G b->n0<=b/\¬ X b/\b < W.heap.size/\∀ i,¬ T b i) (hv:Given gv W (fun b i=>S b i\/T b i) G us vs) (hD:∀ (j:Nat) u v,us[j]? = some u->vs[j]? = some v->D W (fun b i=>S b i\/T b i\/G b) u v)
  (hg:gv≠none->lk L g=none) (h0:w0.heap.size<=n0) (a6:lp < n0) (a7:D0 < n0) :
  ∃ U',Between P N w0 U0 L0 tmps ds l1 S n0 lp D0 rec (rL gv g L us) (fun b=>X b\/G b) T W U'/\∀ (j:Nat) u v,(rU gv g us)[j]? = some u->vs[j]? = some v->V W U' (rL gv g L us) u v:=by
 cases gv with
 | none=>
  have eX:(fun b=>X b\/G b)=X:=by funext b; simp [hv b]
  refine⟨U,by rw [eX]; exact h,fun j u v hu a0=>.data ((hD j u v hu a0).mono fun b i h'=>⟨?_,rfl⟩)⟩;rcases h' with h' | h' | h'
  .exact h.data b i h'
  .exact(h.tdata b i h').2
  .exact(hv b h').elim
 | some q=>
  obtain⟨t,k⟩:=q;obtain⟨xs,v0,ob,rfl,rfl,h7,h8,a1,a2,h9⟩:=hv;have a3:=hg (by simp);show ∃ U',Between P N w0 U0 L0 tmps ds l1 S n0 lp D0 rec ((g,.vec t k 0 xs)::L) (fun b=>X b\/G b) T W U'/\∀ (j:Nat) u v,[AV.vec g 0 k xs.length][j]? = some u->#[v0][j]? = some v->V W U' ((g,.vec t k 0 xs)::L) u v
  have nG:∀ b i,Hs W U L b i->¬ G b:=fun b i hs hb=>hs.seen (h.hid b (hG b hb).1 (hG b hb).2.2.1 (hG b hb).2.1 i ((hG b hb).2.2.2 i));have h5:∀ id,g≠id->(lk ((g,Jb.vec t k 0 xs)::L) id)=lk L id:=fun id e=>by rw [Ge,if_neg e]
  have own:∀ id b,(lk ((g,Jb.vec t k 0 xs)::L) id).isSome=true->(upP U g ob) id=some b->(g=id/\G b)\/(g≠id/\(lk L id).isSome=true/\U id=some b):=fun id b h1 h2=>by
   by_cases e:g=id
   .subst e; exact .inl ⟨rfl,(a1 b).2 (by simpa [upP] using h2)⟩
   .rw [h5 id e] at h1;exact .inr ⟨e,h1,by simpa only [upP,if_neg (Ne.symm e)] using h2⟩
  have oth:∀ id o,lk L id=some o->g≠id:=fun id o ho e=>by subst e; rw [a3] at ho; cases ho
  have AX:∀ b i,Hs W U L b i->Hs W ⟨(upP U g ob).at_,fun b i=>U.hid b i/\¬ G b⟩ ((g,.vec t k 0 xs)::L) b i:=fun b i hs=>⟨hs.lt,fun hh=>hs.seen hh.1,fun id o ho hb=>by
   rcases own id b (by rw [ho]; rfl) hb with ⟨_,q⟩ | ⟨e,_,q⟩
   .exact(nG b i hs q).elim
   .rw [h5 id e] at ho; exact hs.kept id o ho q⟩
  have stw:mI W U L W ⟨(upP U g ob).at_,fun b i=>U.hid b i/\¬ G b⟩ ((g,.vec t k 0 xs)::L):=⟨fun b i hs=>⟨AX b i hs,rfl⟩,fun id _ cs h=>⟨by simp [upP,Ne.symm (oth id _ h)],cs,by rw [h5 id (oth id _ h)]; exact h⟩,fun id _ es h=>⟨by simp [upP,Ne.symm (oth id _ h)],es,by rw [h5 id (oth id _ h)]; exact h⟩,fun id _ n es h=>⟨by simp [upP,Ne.symm (oth id _ h)],n,es,by rw [h5 id (oth id _ h)]; exact h⟩,
   fun id _ _ ver xs h=>⟨ver,xs,by rw [h5 id (oth id _ h)]; exact h,Pf,fun _=>⟨rfl,by simp [upP,Ne.symm (oth id _ h)],fun b hb=>rfl⟩⟩,fun id _ _ ver hw h=>⟨ver,hw,by rw [h5 id (oth id _ h)]; exact h,Pf,fun _=>⟨rfl,by simp [upP,Ne.symm (oth id _ h)],fun b hb=>rfl⟩⟩⟩
  have a4:∀ b i,S b i\/T b i->Hs W U L b i:=fun b i h'=>h'.elim (h.data b i) (fun h'=>(h.tdata b i h').2);refine⟨⟨(upP U g ob).at_,fun b i=>U.hid b i/\¬ G b⟩,⟨⟨fun b i hh=>h.sat.hid b i hh.1,fun id b h1 h2=>?_,fun id b j h1 h2 hh=>?_,fun id id' b h1 h2 h3 h4=>?_,fun id o ho=>?_⟩,
   h.step.thenW stw rfl rfl ⟨rfl,Pf⟩ (Pf) (fun b i a5=>⟨fun hh=>hh.1,fun hh=>⟨hh,fun ht=>by have:=(hG b ht).1; omega⟩⟩) (fun b a5 hf=>⟨rfl,fun id h1 h2=>?_⟩),⟨fun t=>(h.frame.tmp t).stepW stw⟩,fun id b h1 h2=>?_,
   fun b g1 g2 g3 i g4=>⟨h.hid b g1 g2 (fun hx=>g3 (.inl hx)) i g4,fun hb=>g3 (.inr hb)⟩,fun b hb=>hb.elim (h.lt b) (fun hb=>(hG b hb).2.2.1),h.loop,h.mark,h.old,fun b i hs=>AX b i (h.data b i hs),fun b i h6=>⟨(h.tdata b i h6).1,AX b i (h.tdata b i h6).2⟩,⟨h.defs.top,h.defs.nodup,fun d hd=>?_⟩,h.deflt⟩,fun j u v hu hv=>?_⟩
  .rcases own id b h1 h2 with ⟨_,q⟩ | ⟨_,q1,q2⟩
   .exact(hG b q).2.2.1
   .exact h.sat.bnd id b q1 q2
  .rcases own id b h1 h2 with ⟨_,q⟩ | ⟨_,q1,q2⟩
   .exact hh.2 q
   .exact h.sat.apart id b j q1 q2 hh.1
  .rcases own id b h1 h3 with ⟨e,q⟩ | ⟨_,q1,q2⟩
   .rcases own id' b h2 h4 with ⟨e',q'⟩ | ⟨_,q1',q2'⟩
    .exact e.symm.trans e'
    .exact((hG b q).2.1 (h.obj id' b q1' q2').1).elim
   .rcases own id' b h2 h4 with ⟨e',q'⟩ | ⟨_,q1',q2'⟩
    .exact((hG b q').2.1 (h.obj id b q1 q2).1).elim
    .exact h.sat.inj id id' b q1 q1' q2 q2'
  .by_cases e:g=id
   .subst e;rw [Ge,if_pos rfl] at ho; cases ho;have eg:(⟨(upP U g ob).at_,fun b i=>U.hid b i/\¬ G b⟩:Gx) g=ob:=by simp [upP]
    rw [eg];refine⟨a2,h9.imp_right ?_⟩;rintro⟨b,h1,cs,h2,h3,h4⟩;exact⟨b,h1,cs,h2,h3,fun j u v hu hv=>(h4 j u v hu hv).mono fun b i hs=>⟨AX b i (a4 b i hs),rfl⟩⟩
   .rw [h5 id e] at ho;have:=(h.sat.obj id o ho).stepW stw (fun b hb=>rfl);have eb:(⟨(upP U g ob).at_,fun b i=>U.hid b i/\¬ G b⟩:Gx) id=U id:=by simp [upP,Ne.symm e]
    rw [eb]; exact this
  .rcases own id b h1 h2 with ⟨_,q⟩ | ⟨_,q1,q2⟩
   .have:=(hG b q).1; omega
   .exact hf id q1 q2
  .rcases own id b h1 h2 with ⟨_,q⟩ | ⟨_,q1,q2⟩
   .have:=(hG b q).1;exact⟨.inr q,by omega,by omega⟩
   .have:=h.obj id b q1 q2;exact⟨.inl this.1,this.2⟩
  .obtain⟨D,e,q1,q2,q3⟩:=h.defs.each d hd;have a8:=h.deflt d hd D e;exact⟨D,e,q1,q2,fun id h1 h2=>by
    rcases own id D h1 h2 with ⟨_,q⟩ | ⟨_,g1,g2⟩
    .have:=(hG D q).1; omega
    .exact q3 id g1 g2⟩
  .cases j with
   | succ j=>simp at hu
   | zero=>
    simp at hu hv;subst hu;subst hv;refine .vec ⟨t,0,xs,by rw [Ge,if_pos rfl],Pf,fun _=>⟨rfl,?_⟩⟩ h7;have eg:(⟨(upP U g ob).at_,fun b i=>U.hid b i/\¬ G b⟩:Gx) g=ob:=by simp [upP]
    rw [eg]; exact h8

theorem zT {Y:Type} (g:Nat) {k0:Y} {nx:Y->AD->Y->Prop} {fi:Y->Prop} {gop:Operand} {ps:List Tmp} {assign:Code} (l1:Fr) {gf:FuncId} {AZ:AD} {R:Type} (I:Y->R->Prop) (M:R->Loc) (s0:R)
  (b6:N.ro=none) (hg:ev l gop=.fn gf AZ) (e8:Qr (fun _=>false) AZ=true) (hB:H5 P gf=true) (e9:G83 P gf AZ gv k0 nx fi) (f0:gv≠none->∀ s,lk (M s) g=none) (h0:I k0 s0) (hf:Fits N.base l L l1 (M s0))
  (f3:∀ k us k',nx k us k'->ps.length=us.length) (f5:∀ p∈ps,p < N.n) (f6:∀ s,lE (fun i=>(lk (M s) i).isSome) l1 l1) (f7:∀ s,allIn (M s) N.base=true)
  (hr:∀ k us k' s,nx k us k'->I k s->∀ (lr:Nat) (K:Fr->Loc->Prop),(∀ l L s',I k' s'->Fits [] l L [] (M s')->K l L) ->
   JC P ⟨N.n,(rL gv g (M s) us).map (·.1),some lr⟩ assign ⟨fun l2 L2=>Mid P ⟨N.n,(rL gv g (M s) us).map (·.1),some lr⟩ body ⟨K,fun _ _=>False,fun _ _ _=>False⟩ l2 L2,fun _ _=>False,fun _ _ _=>False⟩ (kE ps (rU gv g us) l1) (rL gv g (M s) us))
  (c2:∀ k s,fi k->I k s->Q.norm l1 (M s)):JC P N (.rangeFunc gop ps.toArray assign body) Q l L:=by
 intro n w0 U0 L0 a w U hs;have h5:=hs.fits hf;have hv:=hs.frame.ev gop;rw [hg] at hv;obtain⟨lb,he,f8,b7⟩:=hv.inv_fn;rw [b6];refine wpIn_rangeFunc (F:=FR none) ?_;intro fn f9;obtain⟨rec,h9⟩:∃ rec:LoopState->Option Code->Loop,rec=fun st pe=>{ state:=st,pending:=pe,fn,tmps:=a.tmps,params:=ps.toArray,assign,body,defers:=w.heap.size }:=⟨_,rfl⟩;obtain⟨W1,a0⟩:∃ W1,(w.alloc (.deferred (some []))).alloc (.loop (rec .ready none))=W1:=⟨_,rfl⟩;have j1:W1.heap.size=w.heap.size+2:=by rw [<- a0]; simp
 have g0:W1.heap[w.heap.size+1]? = some (.loop (rec .ready none)):=by
  rw [<- a0]; have:=World.alloc_heap_new (w.alloc (.deferred (some []))) (.loop (rec .ready none)); rwa [World.size_alloc] at this
 have g5:W1.heap[w.heap.size]? = some (.deferred (some [])):=by
  rw [<- a0]; exact(Below.heap_alloc _ _ _ (by simp)).trans (World.alloc_heap_new w _)
 have h6:∀ b,b < w.heap.size->W1.heap[b]? = w.heap[b]? := fun b hb=>by
  rw [<- a0]; exact(Ju _ _ (by simp; omega)).trans (Ju w _ hb)
 have g6:w0.heap.size<=w.heap.size:=hs.step.size;obtain⟨S,b2⟩:∃ S:Nat->Nat->Prop,S=Hs w U (M s0):=⟨_,rfl⟩;obtain⟨X0,c7⟩:∃ X0:Nat->Prop,X0=fun b=>∃ id,(lk (M s0) id).isSome=true/\U id=some b:=⟨_,rfl⟩;obtain⟨E,hE⟩:∃ E:dI Y,E={ W0:=W1,fr:=fun b=>W1.heap.size<=b,S:=S,lp:=w.heap.size+1,nx:=nx,gv:=gv,J:=fun k X T W=>∃ U1 s,I k s/\Between P N w0 U0 L0 a.tmps a.defers l1 S W1.heap.size (w.heap.size+1) w.heap.size (rec .ready none) (M s) X T W U1 }:=⟨_,rfl⟩;have stw1:mI w U (M s0) W1 U (M s0):=by
  refine⟨fun b i h=>⟨⟨by have:=h.lt; omega,h.seen,h.kept⟩,Jc (w:=w) (h6 b h.lt)⟩,fun _ _ cs h=>⟨rfl,cs,h⟩,fun _ _ es h=>⟨rfl,es,h⟩,fun _ _ n es h=>⟨rfl,n,es,h⟩,
   fun id _ _ ver xs h=>⟨ver,xs,h,Pf,fun _=>⟨rfl,rfl,fun b hb=>bK (h6 b (h5.sat.bnd id b (by rw [h]; rfl) hb))⟩⟩,
   fun id _ _ ver hw h=>⟨ver,hw,h,Pf,fun _=>⟨rfl,rfl,fun b hb=>h6 b (h5.sat.bnd id b (by rw [h]; rfl) hb)⟩⟩⟩
 have b0:∀ d∈a.defers,∀ D',d={ target:=.collected D',args:=#[] }->D' < w.heap.size:=fun d hd D' e=>by
  obtain⟨D,e2,_,h2,_⟩:=h5.defers.each d hd;have:D'=D:=by rw [e] at e2; injection e2 with e3; injection e3
  subst this;exact(Nz h2).1
 have start:Between P N w0 U0 L0 a.tmps a.defers l1 S W1.heap.size (w.heap.size+1) w.heap.size (rec .ready none) (M s0) X0 (fun _ _=>False) W1 U:=by
  refine⟨⟨fun b i h=>by have:=h5.sat.hid b i h; omega,fun id b h1 h2=>by have:=h5.sat.bnd id b h1 h2; omega,h5.sat.apart,h5.sat.inj,fun id o ho=>(h5.sat.obj id o ho).stepW stw1 (fun b hb=>h6 b (h5.sat.bnd id b (by rw [ho]; rfl) hb))⟩,
   h5.step.thenW stw1 (by rw [<- a0]; rfl) (by rw [<- a0]; rfl) (by rw [<- a0]; exact⟨rfl,Pf⟩) (by omega) (fun _ _ _=>Iff.rfl) (fun b hb hf=>⟨h6 b (by omega),hf⟩),⟨fun t=>(h5.frame.tmp t).stepW stw1⟩,fun id b h1 h2=>?_,fun b h1 h2=>by omega,fun b hb=>?_,g0,g5,Pf,fun b i hb=>?_,fun _ _ h=>h.elim,?_,?_⟩
  .have:=h5.sat.bnd id b h1 h2;exact⟨by rw [c7]; exact⟨id,h1,h2⟩,by omega,by omega⟩
  .rw [c7] at hb; obtain⟨id,h1,h2⟩:=hb;have:=h5.sat.bnd id b h1 h2; omega
  .rw [b2] at hb; exact(stw1.AX b i hb).1
  .have:=h5.defers;rw [b6] at this;exact this.turned (n0:=w.heap.size) b0 (fun D hD _=>h6 D hD) (fun _=>rfl)
  .intro d hd D' e;have:=b0 d hd D' e; omega
 have d9:E.Ok P:=by
  subst hE;refine⟨fun b i hb=>?_,fun b hb=>hb,fun b i hb hs=>?_,fun k X T W W' hJ ht g7=>?_,fun m k k' us X T0 T G W vs hy hJ g8 g9 c8 hD hG i0=>?_⟩
  .show b < W1.heap.size
   have hb:S b i:=hb;rw [b2] at hb; have:=hb.lt; omega
  .have hb:W1.heap.size<=b:=hb;have hs:S b i:=hs;rw [b2] at hs; have:=hs.lt; omega
  .obtain⟨U1,s,hI,hb⟩:=hJ;obtain⟨g1,g2,g3⟩:=StI.round (X:=fun b=>W1.heap.size<=b/\¬ X b/\b < W.heap.size) (X':=fun b=>W1.heap.size<=b/\¬ X b/\b < W'.heap.size) (T:=T) (w':=W') hb.sat (fun b h=>⟨h.2.2,hb.hid b h.1 h.2.2 h.2.1⟩) (fun id b h1 h2 hx=>hx.2.1 (hb.obj id b h1 h2).1)
    ⟨ht.os,ht.tape,ht.output,ht.size,fun b h1 h2=>ht.keep b h1 (fun h=>h2 ⟨h.1,h.2,h1⟩)⟩ (fun b i h _=>g7 b i h) (fun b h=>⟨fun h'=>⟨h'.1,h'.2.1,h⟩,fun h'=>⟨h'.1,h'.2.1,by have:=ht.size; omega⟩⟩) (fun b h=>h.2.2)
   have b3:∀ b,b < W1.heap.size->b < W.heap.size->W'.heap[b]? = W.heap[b]? := fun b h1 h2=>ht.keep b h2 (fun h=>by have h3:W1.heap.size<=b:=h.1; omega);refine⟨_,s,hI,g1,hb.step.thenW g2 ht.os ht.tape ht.output ht.size (fun b i a5=>⟨fun h=>h.elim id (fun h=>by have:=hb.old; omega),.inl⟩) (fun b a5 hf=>⟨b3 b (by omega) (by have:=hb.old; omega),hf⟩),⟨fun t=>(hb.frame.tmp t).stepW g2⟩,hb.obj,fun b h1 h2 h3=>(g3 b ⟨h1,h3,h2⟩).2,fun b h=>P0 (hb.lt b h) ht.size,?_,?_,Nat.le_trans hb.old ht.size,fun b i h=>(g2.AX b i (hb.data b i h)).1,fun b i h=>⟨(hb.tdata b i h).1,(g2.AX b i (hb.tdata b i h).2).1⟩,?_,hb.deflt⟩
   .exact(b3 _ (by omega) (Nz hb.loop).1).trans hb.loop
   .exact(b3 _ (by omega) (Nz hb.mark).1).trans hb.mark
   .exact hb.defs.turned hb.deflt (fun D h1 h2=>b3 D h1 (Nz h2).1) (fun _=>rfl)
  .obtain⟨Uq,s,hI,i1⟩:=hJ;obtain⟨Ls,i2⟩:∃ Ls,rL gv g (M s) us=Ls:=⟨_,rfl⟩;obtain⟨U1,hb,c9⟩:=(i1.more g8 g9 (by omega)).given g (G:=G) (us:=us) (vs:=vs) hG i0 hD (fun h=>f0 h s) (by omega) (by omega) (by omega);have b8:ps.length=us.length:=f3 k us k' hy;have c3:ps.length=(rU gv g us).length:=by rw [Gcd]; exact b8
   have d0:=hr k us k' s hy hI;rw [i2] at hb c9 d0;have d3:=run_yield (P:=P) (args:=vs) hb.loop (by rw [h9]; simp [c8,b8]);rw [h9] at d3;have d4:(ps.toArray.zip vs).foldl (fun(tmps:Array Value) (x:Tmp×Value)=>tmps.setIfInBounds x.1 x.2) a.tmps=(ps.zip vs.toList).foldl (fun(tmps:Array Value) (x:Tmp×Value)=>tmps.setIfInBounds x.1 x.2) a.tmps:=by
    rw [<- Array.foldl_toList,Array.toList_zip]
   have e0:w.heap.size+1 < W.heap.size:=(Nz hb.loop).1;have d5:w.heap.size < W.heap.size:=by omega
   have nlp:∀ id,(lk Ls id).isSome=true->U1 id≠some (w.heap.size+1):=fun id h1 h2=>(hb.obj id _ h1 h2).2.1 rfl;have nD:∀ id,(lk Ls id).isSome=true->U1 id≠some w.heap.size:=fun id h1 h2=>(hb.obj id _ h1 h2).2.2 rfl;have c4:N.n<=((ps.toArray.zip vs).foldl (fun(tmps:Array Value) (x:Tmp×Value)=>tmps.setIfInBounds x.1 x.2) a.tmps).size:=by rw [d4,H1d]; exact hs.size
   have i3:Jq { tmps:=(ps.toArray.zip vs).foldl (fun(tmps:Array Value) (x:Tmp×Value)=>tmps.setIfInBounds x.1 x.2) a.tmps,defers:=[] } W U1 Ls (kE ps (rU gv g us) l1):=by
    rw [d4];refine Jq.round c3 (by rw [Gcd]; simpa using c8) (fun p hp=>P0 (f5 p hp) hs.size) hb.frame (fun j u v hu hv=>c9 j u v hu (by simpa using hv))
   have G1d:∀ (L:Loc) id,(lk L id).isSome=true->id∈L.map (·.1):=fun L id h=>by
    induction L with
    | nil=>simp [lk] at h
    | cons p r ih=>
     obtain⟨j,o⟩:=p;rw [Ge] at h;by_cases e:j=id
     .subst e; simp
     .rw [if_neg e] at h; simp [ih h]
   refine⟨fn,_,assign,body,d3,roundIn_of_wpIn f9 ?_⟩;refine wpIn_mono (d0 (w.heap.size+1) (fun l3 L3=>∃ s',I k' s'/\Fits [] l3 L3 [] (M s')) (fun l3 L3 s' h1 h2=>⟨s',h1,h2⟩) m W U1 Ls _ W U1 ⟨hb.sat,Step.refl _ _ _,i3,c4,G1d Ls,.nil⟩) (fun e a1 w1 q=>?_);cases e with
   | normal=>
    obtain⟨Um,lm,Lm,i4,l2,L2,b7,c5⟩:=q;obtain⟨U2,a7⟩:=b7 _ _ _ _ _ _ i4;have st1:=a7.step;have f1:=st1.far _ e0 nlp;have d1:=st1.far _ d5 nD;have a2:=f1.1.trans hb.loop;refine⟨_,run_beginRound a2 (by rw [h9]),?_⟩;obtain⟨W2,h7⟩:∃ W2,w1.putObj (w.heap.size+1) (.loop { rec .ready none with state:=.busy })=W2:=⟨_,rfl⟩;have sw2:mI w1 U2 L2 W2 U2 L2:=by rw [<- h7]; exact dP a2 (by simp) (by simp) f1.2
    have sat2:Sat W2 U2 L2:=by rw [<- h7]; exact mQ a2 (by simp) (by simp) f1.2 a7.sat
    have e5:W2.heap[w.heap.size+1]? = some (.loop { rec .ready none with state:=.busy }):=by rw [<- h7]; exact World.putObj_heap_same (Nz a2).1
    have oth2:∀ b,b≠w.heap.size+1->W2.heap[b]? = w1.heap[b]? := fun b hb=>by rw [<- h7]; exact World.putObj_heap_other hb
    have sz2:W2.heap.size=w1.heap.size:=by rw [<- h7]; exact World.putObj_size
    have a1d:a1.defers=[]:=a7.defers.top rfl;rw [h7];refine wpIn_mono (c5 m W2 U2 L2 a1 W2 U2 ⟨sat2,Step.refl _ _ _,⟨fun t=>(a7.frame.tmp t).stepW sw2⟩,a7.size,G1d L2,by rw [a1d]; exact .nil⟩) (fun e a3 w3 q=>?_);cases e with
    | normal=>
     obtain⟨U3,l3,L3,a8,s',i5,b1⟩:=q;have st2:=a8.step;have f2:=st2.far (w.heap.size+1) (by have:=st1.size; omega) f1.2;have d2:=st2.far w.heap.size (by have:=st1.size; omega) d1.2;have a9:=f2.1.trans e5;have a4:=run_endRound (P:=P) none a9;obtain⟨W4,h8⟩:∃ W4,w3.putObj (w.heap.size+1) (.loop (rec .ready none))=W4:=⟨_,rfl⟩;have c6:(Instr.endRound (w.heap.size+1) none).run P w3=.ok (.bool true) W4:=by
      rw [<- h8];rw [h9] at a4 ⊢;exact a4
     have sz4:W4.heap.size=w3.heap.size:=by rw [<- h8]; exact World.putObj_size
     have oth4:∀ b,b≠w.heap.size+1->W4.heap[b]? = w3.heap[b]? := fun b hb=>by rw [<- h8]; exact World.putObj_heap_other hb
     have b9:W4.heap[w.heap.size+1]? = some (.loop (rec .ready none)):=by rw [<- h8]; exact World.putObj_heap_same (Nz a9).1
     have b4:Fits N.base l3 L3 [] (M s'):=⟨b1.fr,b1.loc,f7 s'⟩;have a6:=b1.drop;have f4:∀ id,(lk (M s') id).isSome=true->U3 id≠some (w.heap.size+1):=fun id h=>f2.2 id (a6.some h);have sw4:mI w3 U3 (M s') W4 U3 (M s'):=by rw [<- h8]; exact dP a9 (by simp) (by simp) f4
     have sat3:Sat w3 U3 (M s'):=a8.sat.fits b4;have sat4:Sat W4 U3 (M s'):=by rw [<- h8]; exact mQ a9 (by simp) (by simp) f4 sat3
     have szs1:=st1.size;have szs2:=st2.size;have c0:w0.heap.size<=w.heap.size+1:=by omega
     -- the steps since the call began
     have g1:Step w0 U0 L0 w1 U2 L2:=hb.step.trans st1;have g2:Step w0 U0 L0 W2 U2 L2:=by rw [<- h7]; exact rX a2 (by simp) (by simp) f1.2 w0 U0 L0 (Pf) c0 g1
     have g3:Step w0 U0 L0 w3 U3 L3:=g2.trans st2;have g3':Step w0 U0 L0 w3 U3 (M s'):=g3.drop (N:=N) (a:={ a3 with defers:=[] }) a8.sat hs.base b4 a8.size rfl ⟨a8.frame.tmp⟩;have g4:Step w0 U0 L0 W4 U3 (M s'):=by rw [<- h8]; exact rX a9 (by simp) (by simp) f4 w0 U0 L0 (Pf) c0 g3'
     have fr3:Jq { tmps:=a.tmps,defers:=[] } w3 U3 L3 l1:=((hb.frame.step st1).stepW sw2).step st2;have fr4:Jq { tmps:=a.tmps,defers:=[] } W4 U3 (M s') l1:=⟨fun t=>((fr3.tmp t).conv a6 ((f6 s').get t)).stepW sw4⟩
     -- what lay in W and is none of the caller's objects
     have keepW:∀ b,b < W.heap.size->b≠w.heap.size+1->(∀ id,(lk Ls id).isSome=true->U1 id≠some b)->W4.heap[b]? = W.heap[b]? /\ ∀ id,(lk L3 id).isSome=true->U3 id≠some b:=fun b i6 d6 i7=>by
      obtain⟨e1,e2⟩:=st1.far b i6 i7;obtain⟨e3,e4⟩:=st2.far b (by omega) e2;exact⟨(oth4 b d6).trans (e3.trans ((oth2 b d6).trans e1)),e4⟩
     have d7:=keepW w.heap.size d5 (by omega) nD;have stabW:∀ b i,Hs W U1 Ls b i->Hs W4 U3 (M s') b i:=fun b i h=>(sw4.AX b i (a6.AX (st2.AX b i (sw2.AX b i (st1.AX b i h).1).1).1)).1;have cellW:∀ b i,Hs W U1 Ls b i->Qf W4 b i=Qf W b i:=fun b i h=>(sw4.AX b i (a6.AX (st2.AX b i (sw2.AX b i (st1.AX b i h).1).1).1)).2.trans ((st2.AX b i (sw2.AX b i (st1.AX b i h).1).1).2.trans ((sw2.AX b i (st1.AX b i h).1).2.trans (st1.AX b i h).2));refine⟨_,_,c6,rfl,fun b=>(X b\/G b)\/(W.heap.size<=b/\b < W4.heap.size),⟨U3,s',i5,sat4,g4,fr4,fun id b h1 h2=>?_,fun b h1 h2 h3 i h4=>?_,fun b h=>h.elim (fun h=>by have:=hb.lt b h; omega) (fun h=>h.2),b9,d7.1.trans hb.mark,by have:=hb.old; omega,fun b i h=>stabW b i (hb.data b i h),fun b i h=>⟨(hb.tdata b i h).1,stabW b i (hb.tdata b i h).2⟩,?_,hb.deflt⟩,⟨?_,?_,?_,by omega,fun b h1 h2=>?_⟩,fun b h=>⟨fun h'=>h'.elim _root_.id (fun h'=>by omega),.inl⟩,fun b h=>h.elim (fun h=>by have:=hb.lt b h; omega) (fun h=>h.2),fun b i h=>cellW b i (hb.data b i h)⟩
     .have c1:=a6.some h1;refine⟨?_,fun e=>f4 id h1 (by rw [h2,e]),fun e=>d7.2 id c1 (by rw [h2,e])⟩;rcases P4 b W.heap.size with a5 | i8
      .refine .inl (Classical.byContradiction fun hx=>?_);exact(keepW b a5 (fun e=>f4 id h1 (by rw [h2,e])) (fun id' h3 h4=>hx (hb.obj id' b h3 h4).1)).2 id c1 h2
      .exact .inr ⟨i8,by have:=sat4.bnd id b h1 h2; exact this⟩
     .have a5:b < W.heap.size:=Nat.lt_of_not_le fun h=>h3 (.inr ⟨h,h2⟩);have:=hb.hid b h1 a5 (fun h=>h3 (.inl h)) i h4;exact(st2.hid b i (by omega)).2 ((st1.hid b i a5).2 this)
     .have q1:=hb.defs.step st1;have nel:∀ d∈a.defers,∀ D',d={ target:=.collected D',args:=#[] }->W.heap[D']? = some (.deferred (some []))->D'≠w.heap.size+1:=fun d _ D' _ h e=>by rw [e,hb.loop] at h; cases h
      refine⟨q1.top,q1.nodup,fun d hd=>?_⟩;obtain⟨D',e,h1,h2,h3⟩:=hb.defs.each d hd;have i9:=nel d hd D' e h2;have d8:=keepW D' (Nz h2).1 i9 h3;exact⟨D',e,h1,d8.1.trans h2,fun id hi=>d8.2 id (a6.some hi)⟩
     .rw [<- h8]; exact st2.os.trans (by rw [<- h7]; exact st1.os)
     .rw [<- h8]; exact st2.tape.trans (by rw [<- h7]; exact st1.tape)
     .have e2:=st2.output;have e1:=st1.output;rw [<- h7] at e2;rw [<- h8];exact⟨e2.1.trans e1.1,Nat.le_trans e1.2 e2.2⟩
     .by_cases e:b=w.heap.size+1
      .rw [e,b9,hb.loop]
      .exact(keepW b h1 e (fun id h3 h4=>h2 (hb.obj id b h3 h4).1)).1
    | ret=>obtain⟨_,_,_,_,hq⟩:=q; exact hq.elim
    | exit i=>obtain⟨_,_,_,_,hq⟩:=q; exact hq.elim
    | goto t=>exact q.elim
    | panic c=>exact q.elim
    | outgrown=>exact q.elim
   | ret=>obtain⟨_,_,_,_,hq⟩:=q; exact hq.elim
   | exit i=>obtain⟨_,_,_,_,hq⟩:=q; exact hq.elim
   | goto t=>exact q.elim
   | panic c=>exact q.elim
   | outgrown=>exact q.elim
 have e6:∀ (j:Nat) u v,AZ[j]? = some u->lb[j]? = some v->D W1 S u v:=fun j u v hu hv=>by
  have:=(b7 j u v hu hv).toD (Yz e8 u (Pd hu));refine this.mono fun b i h=>?_;have h':=hf.drop.AX h;refine⟨by rw [b2]; exact h',Jc (w:=w) (h6 b h'.lt)⟩
 have e7:∀ b,X0 b->b < W1.heap.size:=start.lt;have b5:=e9 (n - 1) E lb X0 d9 (by rw [hE]; exact⟨rfl,rfl⟩) f8 (by rw [hE]; exact e6) (by rw [hE]; exact e7) (by rw [hE]; exact⟨U,s0,h0,start⟩);refine⟨w.heap.size+1,[{ target:=.collected w.heap.size,args:=#[] }],W1,{ target:=.fn (.func gf) lb,args:=#[.func (.yield (w.heap.size+1)) #[] #[]] },W1,gf,
  #[.func (.yield (w.heap.size+1)) #[] #[]]++lb,W1,?_,?_,fun _ _=>trivial,?_,fun e=>(by cases e),?_⟩
 .rw [<- a0,h9]; exact run_enterLoop_outer _ _ _ _ _
 .simp only [resolve,he];simp [go_sem]
 .simp [invoke,go_sem,H5.out hB]
 .rw [hE] at b5;refine CallsIn.mono (F:=FR none) b5 fun e W2 h=>?_;obtain⟨⟨v,rfl⟩,k,X,T,j0,U1,s,hI,hb⟩:=h;have a4:=run_endLoop (P:=P) hb.loop (by rw [h9]; simp);refine⟨none,W2.putObj (w.heap.size+1) (.loop { rec .ready none with state:=.exhausted }),by rw [h9] at a4 ⊢; exact a4,U1,l1,M s,?_,c2 k s j0 hI⟩;have nlp:∀ id,(lk (M s) id).isSome=true->U1 id≠some (w.heap.size+1):=fun id h1 h2=>(hb.obj id _ h1 h2).2.1 rfl;refine⟨mQ hb.loop (by simp) (by simp) nlp hb.sat,rX hb.loop (by simp) (by simp) nlp w0 U0 L0 (Pf) (by omega) hb.step,⟨fun t=>(hb.frame.tmp t).stepW (dP hb.loop (by simp) (by simp) nlp)⟩,hs.size,hs.base,?_⟩;rw [b6];refine⟨fun h=>(by cases h),List.nodup_cons.2 ⟨fun h=>?_,hb.defs.nodup⟩,fun d hd=>?_⟩
  .have:=b0 _ h _ rfl; omega
  .rcases Pv.1 hd with rfl | hd
   .exact⟨_,rfl,g6,(World.putObj_heap_other (by omega)).trans hb.mark,fun id h1 h2=>(hb.obj id _ h1 h2).2.2 rfl⟩
   .obtain⟨D',e,h1,h2,h3⟩:=hb.defs.each d hd;refine⟨D',e,h1,(World.putObj_heap_other fun e2=>?_).trans h2,h3⟩;rw [e2,hb.loop] at h2; cases h2
theorem Gba {gop:Operand} {p:Tmp} {assign:Code} (g:Nat) (l1:Fr) {gf:FuncId} {AZ:AD} {t k:Nat} {Z:Type} {f:Z->AV} (ys:List (List Z)) {R:Type} (I:Nat->R->Prop) (M:R->Loc) (s0:R)
  (h3:N.ro=none) (hg:ev l gop=.fn gf AZ) (h4:Qr (fun _=>false) AZ=true) (hB:H5 P gf=true) (h5:Ge8 P gf AZ t k (ys.map fun y=>[.list k (y.map f)])) (h6:∀ s,lk (M s) g=none) (h0:I 0 s0) (hf:Fits N.base l L l1 (M s0))
  (h7:Nat.blt p N.n=true) (h8:∀ s,lE (fun i=>(lk (M s) i).isSome) l1 l1) (h9:∀ s,allIn (M s) N.base=true)
  (hr:∀ i y s,ys[i]? = some y->I i s->∀ (lr:Nat) (K:Fr->Loc->Prop),(∀ l L s',I (i+1) s'->Fits [] l L [] (M s')->K l L) ->
   JC P ⟨N.n,g::(M s).map (·.1),some lr⟩ assign ⟨fun l2 L2=>Mid P ⟨N.n,g::(M s).map (·.1),some lr⟩ body ⟨K,fun _ _=>False,fun _ _ _=>False⟩ l2 L2,fun _ _=>False,fun _ _ _=>False⟩ ((p,.vec g 0 k y.length)::l1) ((g,.vec t k 0 (y.map f))::M s))
  (h2:∀ s,I ys.length s->Q.norm l1 (M s)):JC P N (.rangeFunc gop [p].toArray assign body) Q l L:=
 zT (gv:=some (t,k)) g l1 I M s0 h3 hg h4 hB h5 (fun _=>h6) h0 hf (fun i us i' h=>by
  have:=h.1;rw [Pj] at this;cases hy:ys[i]? with
  | none=>rw [hy] at this; cases this
  | some y=>rw [hy] at this; cases this; rfl) (fun q hq=>by simp at hq; subst hq; simpa [Nat.blt_eq] using h7) h8 h9 (fun i us i' s h hI=>by
  obtain⟨h1,rfl⟩:=h;rw [Pj] at h1;cases hy:ys[i]? with
  | none=>rw [hy] at h1; cases h1
  | some y=>
   rw [hy] at h1; cases h1;have:=hr i y s hy hI;simpa only [rL,rU,kE,Pr,List.map_cons] using this) (fun i s e hI=>by rw [Pr] at e; subst e; exact h2 s hI)
end Go.Proofs.YtbgfgnddogfpcaaGreat
