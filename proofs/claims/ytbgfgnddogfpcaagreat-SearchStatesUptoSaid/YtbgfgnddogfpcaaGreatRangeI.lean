/- A range over a function within a function that is ranged ove -/
import Derived.Test.YtbgfgnddogfpcaaGreatIterJ
namespace Go.Proofs.YtbgfgnddogfpcaaGreat
open Go.RowKit

def GhE {Z:Type} (E:dI Z) (w:World) (U:Gx) (L:Loc) (k:Z) (X:Nat->Prop) (T:Nat->Nat->Prop):Prop:=
 E.J k X T w/\(∀ b,X b->b < w.heap.size/\∀ i,¬ E.S b i->U.hid b i)/\(∀ b i,T b i->Hs w U L b i)/\∀ id b,(lk L id).isSome=true->U id=some b->¬ X b

structure RelX (Xw:Nat->Prop) (w:World) (U:Gx) (L:Loc) (w':World) (U':Gx) (L':Loc):Prop where
 os:w'.os=w.os
 tape:w'.tape=w.tape
 output:w'.output=w.output/\w.drawn<=w'.drawn
 size:w.heap.size<=w'.heap.size
 far:∀ b,b < w.heap.size->(∀ id,(lk L id).isSome=true->U id≠some b)->¬ Xw b->w'.heap[b]? = w.heap[b]?
 fre:∀ b,b < w.heap.size->(∀ id,(lk L id).isSome=true->U id≠some b)->∀ id,(lk L' id).isSome=true->U' id≠some b
 AX:∀ b i,Hs w U L b i->Hs w' U' L' b i/\Qf w' b i=Qf w b i
 hid:∀ b i,b < w.heap.size->(∀ id,(lk L id).isSome=true->U id≠some b)->(U'.hid b i ↔ U.hid b i)

variable {N:Cfg} {l:Fr} {U:Gx} {L:Loc} {P:Program} {Z:Type} {w:World} {E:dI Z} {k:Z}
theorem StI.again {a:Act} (hE:E.Ok P) (hs:StI E N a w U l L k) {Xw:Nat->Prop} {Tw:Nat->Nat->Prop} (hg:GhE E w U L k Xw Tw) (hd:a.defers=[]) :
  ∃ E':dI Z,E'.Ok P/\(E'.nx=E.nx/\E'.gv=E.gv)/\E'.lp=E.lp/\(∀ N':Cfg,N'.n=N.n->StI E' N' a w U l L k) /\
   ∀ (N':Cfg) a' w' U' l' L' k',StI E' N' a' w' U' l' L' k'->(∃ X T,GhE E w' U' L' k' X T/\∀ b,b < w.heap.size->(∀ id,(lk L id).isSome=true->U id≠some b)->(X b ↔ Xw b))/\(∀ id b,(lk L' id).isSome=true->U' id=some b->E.fr b)/\(∀ b i,Hs w' U' L' b i->E.S b i\/E.fr b)/\RelX Xw w U L w' U' L':=by
 obtain⟨hJ,hX,hT,a4⟩:=hg;have old:=hs.old
 -- what is owned here
 obtain⟨Ow,h6⟩:∃ Ow:Nat->Prop,Ow=fun b=>∃ id,(lk L id).isSome=true/\U id=some b:=⟨_,rfl⟩;have owfr:∀ b,Ow b->E.fr b:=fun b h=>by rw [h6] at h; obtain⟨id,h1,h2⟩:=h; exact hs.own id b h1 h2
 have owX:∀ b,Ow b->¬ Xw b:=fun b h=>by rw [h6] at h; obtain⟨id,h1,h2⟩:=h; exact a4 id b h1 h2
 have owlt:∀ b,Ow b->b < w.heap.size:=fun b h=>by rw [h6] at h; obtain⟨id,h1,h2⟩:=h; exact hs.sat.bnd id b h1 h2
 have nown:∀ b,¬ Ow b->∀ id,(lk L id).isSome=true->U id≠some b:=fun b h id h1 h2=>h (by rw [h6]; exact⟨id,h1,h2⟩);have stabX:∀ b i,Hs w U L b i->Xw b->E.S b i:=fun b i h hx=>Classical.byContradiction fun hn=>h.seen ((hX b hx).2 i hn);have hidden:∀ b i,b < w.heap.size->¬ Ow b->¬ Hs w U L b i->U.hid b i:=fun b i h1 h2 h3=>Classical.byContradiction fun hn=>h3 ⟨h1,hn,fun id o h4 h5=>(nown b h2 id (by rw [h4]; rfl) h5).elim⟩;obtain⟨J',h9⟩:∃ J':Z->(Nat->Prop)->(Nat->Nat->Prop)->World->Prop,J'=fun k X' T' W=>∃ X T,E.J k X T W/\(∀ b,X b->X' b)/\(∀ b i,T' b i ↔ T b i\/Hs w U L b i)/\(∀ b,b < w.heap.size->X' b\/Ow b) /\
   (∀ b,b < w.heap.size->¬ Ow b->¬ Xw b->W.heap[b]? = w.heap[b]?)/\(∀ b i,Hs w U L b i->Qf W b i=Qf w b i)/\(W.os=w.os/\W.tape=w.tape/\W.output=w.output/\w.drawn<=W.drawn/\w.heap.size<=W.heap.size)/\(∀ b,b < w.heap.size->¬ Ow b->(X b ↔ Xw b))/\(∀ b,X' b->b < W.heap.size)/\∀ b i,Ow b->X b->¬ Hs w U L b i:=⟨_,rfl⟩
 have xS:∀ (X:Nat->Prop),(∀ b,b < w.heap.size->¬ Ow b->(X b ↔ Xw b))->(∀ b i,Ow b->X b->¬ Hs w U L b i)->∀ b i,Hs w U L b i->X b->E.S b i:=fun X h8 a5 b i h hx=>by
  by_cases ho:Ow b
  .exact(a5 b i ho hx h).elim
  .exact stabX b i h ((h8 b h.lt ho).1 hx)
 obtain⟨E',a0⟩:∃ E':dI Z,E'={ W0:=w,fr:=fun b=>w.heap.size<=b\/Ow b,S:=fun b i=>Hs w U L b i/\¬ Ow b,lp:=E.lp,J:=J',nx:=E.nx,gv:=E.gv }:=⟨_,rfl⟩;have frE:∀ b,(w.heap.size<=b\/Ow b)->E.fr b:=fun b h=>h.elim (fun h=>hE.frW b (Nat.le_trans old h)) (owfr b);refine⟨E',?_,by rw [a0]; exact⟨rfl,rfl⟩,by rw [a0],fun N' hN=>?_,fun N' a' w' U' l' L' k' a1=>?_⟩
 .subst a0;refine⟨fun b i h=>Hs.lt h.1,fun b h=>.inl h,fun b i h hS=>?_,fun k X' T' W W' hj ht a3=>?_,fun m k k' us X' T0 T1 G W vs hy hj h7 a6 a7 hD hG a8=>?_⟩
  .have h:w.heap.size<=b\/Ow b:=h;have hS:Hs w U L b i/\¬ Ow b:=hS;exact h.elim (fun h=>by have:=hS.1.lt; omega) hS.2
  .have hj:J' k X' T' W:=hj;show J' k X' T' W'
   rw [h9] at hj ⊢;obtain⟨X,T,g1,g2,g3,g4,g5,g6,⟨o1,o2,o3,o4,o5⟩,g8,g9,g10⟩:=hj;have keep:∀ b,b < W.heap.size->¬ (E.fr b/\¬ X b)->W'.heap[b]? = W.heap[b]? := fun b hb hn=>ht.keep b hb fun h=>hn ⟨frE b h.1,fun hx=>h.2 (g2 b hx)⟩;refine⟨X,T,hE.abide k X T W W' g1 ⟨ht.os,ht.tape,ht.output,ht.size,keep⟩ (fun b i h=>a3 b i ((g3 b i).2 (.inl h))),g2,g3,g4,fun b hb hn hx=>?_,fun b i h=>(a3 b i ((g3 b i).2 (.inr h))).trans (g6 b i h),⟨ht.os.trans o1,ht.tape.trans o2,ht.output.1.trans o3,Nat.le_trans o4 ht.output.2,Nat.le_trans o5 ht.size⟩,g8,fun b h=>P0 (g9 b h) ht.size,g10⟩;exact(ht.keep b (P0 hb o5) fun h=>h.2 ((g4 b hb).elim id fun h=>(hn h).elim)).trans (g5 b hb hn hx)
  .have hj:J' k X' T0 W:=hj;rw [h9] at hj;obtain⟨X,T,g1,g2,g3,g4,g5,g6,⟨o1,o2,o3,o4,o5⟩,g8,g9,g10⟩:=hj;have c1:∀ b i,(T b i\/(T1 b i/\¬ T0 b i)\/(Hs w U L b i/\¬ E.S b i))->¬ T b i->E.fr b/\¬ X b/\b < W.heap.size:=fun b i h hn=>by
    rcases h with h | ⟨h1,h0⟩ | ⟨h1,h2⟩
    .exact(hn h).elim
    .obtain⟨p1,p2,p3⟩:=a6 b i h1 h0;exact⟨frE b p1,fun hx=>p2 (g2 b hx),p3⟩
    .exact⟨(hs.vis b i h1).elim (fun h=>(h2 h).elim) (fun h=>h),fun hx=>h2 (xS X g8 g10 b i h1 hx),P0 h1.lt o5⟩
   have c3:∀ b i,(Hs w U L b i/\¬ Ow b)\/T1 b i->E.S b i\/(T b i\/(T1 b i/\¬ T0 b i)\/(Hs w U L b i/\¬ E.S b i)):=fun b i h=>by
    by_cases hS:E.S b i
    .exact .inl hS
    .refine .inr ?_;rcases h with h | h
     .exact .inr (.inr ⟨h.1,hS⟩)
     .by_cases h0:T0 b i
      .rcases (g3 b i).1 h0 with h | h
       .exact .inl h
       .exact .inr (.inr ⟨h,hS⟩)
      .exact .inr (.inl ⟨h,h0⟩)
   have c2:∀ (j:Nat) u v,us[j]? = some u->vs[j]? = some v->D W (fun b i=>E.S b i\/(T b i\/(T1 b i/\¬ T0 b i)\/(Hs w U L b i/\¬ E.S b i))\/G b) u v:=fun j u v hu hv=>by
    refine(hD j u v hu hv).mono fun b i h=>⟨?_,rfl⟩;rcases h with h | h | h
    .exact(c3 b i (.inl h)).imp_right .inl
    .exact(c3 b i (.inr h)).imp_right .inl
    .exact .inr (.inr h)
   have c4:∀ b,G b->E.fr b/\¬ X b/\b < W.heap.size/\∀ i,¬ (T b i\/(T1 b i/\¬ T0 b i)\/(Hs w U L b i/\¬ E.S b i)):=fun b hb=>by
    obtain⟨p1,p2,p3,p4⟩:=hG b hb;refine⟨frE b p1,fun hx=>p2 (g2 b hx),p3,fun i h=>?_⟩;rcases h with h | h | h
    .exact p4 i (h7 b i ((g3 b i).2 (.inl h)))
    .exact p4 i h.1
    .exact p4 i (h7 b i ((g3 b i).2 (.inr h.1)))
   have c5:Given E.gv W (fun b i=>E.S b i\/(T b i\/(T1 b i/\¬ T0 b i)\/(Hs w U L b i/\¬ E.S b i))) G us vs:=Given.mono a8 c3;obtain⟨fn,tmps,assign,body,hr,hR⟩:=hE.round m k k' us X T (fun b i=>T b i\/(T1 b i/\¬ T0 b i)\/(Hs w U L b i/\¬ E.S b i)) G W vs hy g1 (fun b i h=>.inl h) c1 a7 c2 c4 c5;refine⟨fn,tmps,assign,body,hr,hR.mono fun e W' h=>?_⟩;obtain⟨rfl,X2,q1,q2,q3,q4,q5⟩:=h;have cS:∀ b i,Hs w U L b i->Qf W' b i=Qf W b i:=fun b i h=>by
    by_cases hx:X b
    .exact q5 b i (xS X g8 g10 b i h hx)
    .exact Jc (w:=W) (q2.keep b (P0 h.lt o5) fun hh=>hh.elim hx fun hg=>(c4 b hg).2.2.2 i (by
      by_cases hS:E.S b i
      .exact((hE.frS b i (c4 b hg).1) hS).elim
      .exact .inr (.inr ⟨h,hS⟩)))
   have gOw:∀ b,b < w.heap.size->¬ Ow b->¬ G b:=fun b hb hn h=>(hG b h).1.elim (fun h=>by omega) hn;refine⟨rfl,fun b=>(b < W.heap.size/\(X' b\/G b))\/(W.heap.size<=b/\X2 b),?_,⟨q2.os,q2.tape,q2.output,q2.size,fun b hb hn=>q2.keep b hb fun hx=>hn (hx.imp_left (g2 b))⟩,fun b hb=>⟨fun h=>h.elim (·.2) (fun h=>by omega),fun h=>.inl ⟨hb,h⟩⟩,fun b h=>h.elim (fun h=>P0 h.1 q2.size) (fun h=>q4 b h.2),fun b i h=>cS b i h.1⟩;show J' k' _ T1 W'
   rw [h9];refine⟨X2,_,q1,fun b hx=>?_,fun b i=>⟨fun h=>?_,fun h=>?_⟩,fun b hb=>(g4 b hb).imp (fun h=>.inl ⟨P0 hb o5,.inl h⟩) (fun h=>h),fun b hb hn hx=>?_,fun b i h=>(cS b i h).trans (g6 b i h),⟨q2.os.trans o1,q2.tape.trans o2,q2.output.1.trans o3,Nat.le_trans o4 q2.output.2,Nat.le_trans o5 q2.size⟩,fun b hb hn=>(q3 b (P0 hb o5)).trans (Iff.trans ⟨fun h=>h.elim id fun h=>(gOw b hb hn h).elim,.inl⟩ (g8 b hb hn)),fun b h=>h.elim (fun h=>P0 h.1 q2.size) (fun h=>q4 b h.2),fun b i ho hx a2=>?_⟩
   .rcases P4 b W.heap.size with hb | hb
    .exact .inl ⟨hb,((q3 b hb).1 hx).imp_left (g2 b)⟩
    .exact .inr ⟨hb,hx⟩
   .by_cases h0:T0 b i
    .exact((g3 b i).1 h0).imp .inl (fun h=>h)
    .exact .inl (.inr (.inl ⟨h,h0⟩))
   .rcases h with (h | h | h) | h
    .exact h7 b i ((g3 b i).2 (.inl h))
    .exact h.1
    .exact h7 b i ((g3 b i).2 (.inr h.1))
    .exact h7 b i ((g3 b i).2 (.inr h))
   .exact(q2.keep b (P0 hb o5) fun h=>h.elim (fun h=>hx ((g8 b hb hn).1 h)) (gOw b hb hn)).trans (g5 b hb hn hx)
   .rcases (q3 b (P0 (owlt b ho) o5)).1 hx with h | h
    .exact g10 b i ho h a2
    .exact(hG b h).2.2.2 i (h7 b i ((g3 b i).2 (.inr a2)))
 .subst a0;refine⟨hs.sat,hs.frame,by rw [hN]; exact hs.size,by rw [hd]; exact .nil,Pf,fun id b h1 h2=>.inr (by rw [h6]; exact⟨id,h1,h2⟩),⟨fun b=>b < w.heap.size/\¬ Ow b,fun b i=>Tw b i\/Hs w U L b i,?_,fun b h=>⟨h.1,fun i hn=>hidden b i h.1 h.2 fun a2=>hn ⟨a2,h.2⟩⟩,fun b i h=>h.elim (hT b i) (fun h=>h),fun id b h1 h2 h=>h.2 (by rw [h6]; exact⟨id,h1,h2⟩),fun d h=>by rw [hd] at h; cases h⟩,fun b i h=>(Classical.em (Ow b)).elim (fun ho=>.inr (.inr ho)) fun ho=>.inl ⟨h,ho⟩⟩;show J' k _ _ w
  rw [h9];exact⟨Xw,Tw,hJ,fun b hx=>⟨(hX b hx).1,fun ho=>owX b ho hx⟩,fun b i=>Iff.rfl,fun b hb=>(Classical.em (Ow b)).elim .inr (fun h=>.inl ⟨hb,h⟩),fun _ _ _ _=>rfl,fun _ _ _=>rfl,⟨rfl,rfl,rfl,Pf,Pf⟩,fun _ _ _=>Iff.rfl,fun b h=>h.1,fun b i ho hx _=>owX b ho hx⟩
 .subst a0;obtain⟨X',T',hj,p2,p3,p4,_⟩:=a1.gh;have hj:J' k' X' T' w':=hj;rw [h9] at hj;obtain⟨X,T,g1,g2,g3,g4,g5,g6,⟨o1,o2,o3,o4,o5⟩,g8,g9,g10⟩:=hj;have fre:∀ b,b < w.heap.size->(∀ id,(lk L id).isSome=true->U id≠some b)->∀ id,(lk L' id).isSome=true->U' id≠some b:=fun b hb hn id h1 h2=>by
   have:w.heap.size<=b\/Ow b:=a1.own id b h1 h2;rcases this with h | h
   .omega
   .rw [h6] at h; obtain⟨id',h3,h4⟩:=h; exact hn id' h3 h4
  refine⟨⟨X,T,⟨g1,fun b hx=>⟨(p2 b (g2 b hx)).1,fun i hn=>(p2 b (g2 b hx)).2 i fun h=>hn (xS X g8 g10 b i h.1 hx)⟩,fun b i h=>p3 b i ((g3 b i).2 (.inl h)),fun id b h1 h2 hx=>p4 id b h1 h2 (g2 b hx)⟩,fun b hb hn=>g8 b hb fun h=>by rw [h6] at h; obtain⟨id,h1,h2⟩:=h; exact hn id h1 h2⟩,fun id b h1 h2=>frE b (a1.own id b h1 h2),fun b i h=>?_,⟨o1,o2,⟨o3,o4⟩,o5,fun b hb hn hx=>g5 b hb (fun h=>by rw [h6] at h; obtain⟨id,h1,h2⟩:=h; exact hn id h1 h2) hx,fre,fun b i h=>⟨p3 b i ((g3 b i).2 (.inr h)),g6 b i h⟩,fun b i hb hn=>?_⟩⟩
  .rcases a1.vis b i h with h | h
   .exact hs.vis b i h.1
   .exact .inr (frE b h)
  .have a9:¬ Ow b:=fun h=>by rw [h6] at h; obtain⟨id,h1,h2⟩:=h; exact hn id h1 h2
   constructor
   .intro h;refine Classical.byContradiction fun h'=>?_;exact(p3 b i ((g3 b i).2 (.inr ⟨hb,h',fun id o h1 h2=>(hn id (by rw [h1]; rfl) h2).elim⟩))).seen h
   .intro h;have hx:X' b:=(g4 b hb).elim (fun h=>h) fun h=>(a9 h).elim;exact(p2 b hx).2 i fun h'=>Hs.seen h'.1 h

structure QL {Z:Type} (E:dI Z) (tmps:Array Value) (ds:List Deferred) (l1:Fr) (S:Nat->Nat->Prop) (n0 lp D:Nat) (rec:Loop) (k:Z) (X:Nat->Prop) (T:Nat->Nat->Prop) (W:World) (U:Gx):Prop where
 sat:Sat W U []
 frame:Jq { tmps:=tmps,defers:=[] } W U [] l1
 hid:∀ b,n0<=b->b < W.heap.size->¬ X b->∀ i,¬ T b i->U.hid b i
 lt:∀ b,X b->b < W.heap.size
 loop:W.heap[lp]? = some (.loop rec)
 mark:W.heap[D]? = some (.deferred (some []))
 old:n0<=W.heap.size
 start:E.W0.heap.size<=D/\D < n0/\lp < n0/\D < lp
 data:∀ b i,S b i->Hs W U [] b i
 tdata:∀ b i,T b i->n0<=b/\Hs W U [] b i
 defs:gY none E.W0.heap.size W U [] ds
 deflt:∀ d∈ds,∀ D',d={ target:=.collected D',args:=#[] }->D' < D
 gh:∃ Xo To,E.J k Xo To W/\(∀ b,Xo b->X b/\b≠lp/\b≠D/\∀ i,¬ E.S b i->U.hid b i)/\(∀ b i,To b i->Hs W U [] b i)/\∀ d∈ds,∀ D',d={ target:=.collected D',args:=#[] }->¬ Xo D'
 vis:∀ b i,Hs W U [] b i->E.S b i\/E.fr b
theorem dQ {b i:Nat}:Hs w U [] b i ↔ b < w.heap.size/\¬ U.hid b i:=⟨fun h=>⟨h.lt,h.seen⟩,fun h=>⟨h.1,h.2,fun id o h=>by simp [lk] at h⟩⟩
theorem yN (h:∀ b i,U.hid b i->b < w.heap.size):Sat w U []:=⟨h,fun id b h=>by simp [lk] at h,fun id b j h=>by simp [lk] at h,fun id id' b h=>by simp [lk] at h,fun id o h=>by simp [lk] at h⟩
theorem tX {w':World} {U':Gx} (h:∀ b i,Hs w U [] b i->Hs w' U' [] b i/\Qf w' b i=Qf w b i):mI w U [] w' U' []:=
 ⟨h,fun _ _ cs h=>by simp [lk] at h,fun _ _ es h=>by simp [lk] at h,fun _ _ n es h=>by simp [lk] at h,fun id _ _ ver xs h=>by simp [lk] at h,fun id _ _ ver hw h=>by simp [lk] at h⟩
theorem JX {B n0:Nat} {w':World} {U':Gx} {ds:List Deferred} (h:gY none B w U [] ds) (h0:∀ d∈ds,∀ D',d={ target:=.collected D',args:=#[] }->D' < n0) (hk:∀ D,D < n0->(∀ d∈ds,True)->w.heap[D]? = some (.deferred (some []))->(∃ d∈ds,d={ target:=.collected D,args:=#[] })->w'.heap[D]? = w.heap[D]?):gY none B w' U' [] ds:=
 ⟨h.top,h.nodup,fun d hd=>by
  obtain⟨D,e,h1,h2,h3⟩:=h.each d hd;exact⟨D,e,h1,(hk D (h0 d hd D e) (fun _ _=>trivial) h2 ⟨d,hd,e⟩).trans h2,fun id hid=>by simp [lk] at hid⟩⟩

section rounds
variable {Z:Type} {E:dI Z} {P:Program} {tmps:Array Value} {ds:List Deferred} {l1:Fr} {S:Nat->Nat->Prop} {n0 lp D:Nat} {rec:Loop} {k:Z} {X:Nat->Prop} {T T':Nat->Nat->Prop} {W W':World} {U:Gx}
theorem QL.abide (hE:E.Ok P) (h:QL E tmps ds l1 S n0 lp D rec k X T W U) (ht:yD (fun b=>n0<=b/\¬ X b) W W') (hT:∀ b i,T b i->Qf W' b i=Qf W b i) :
  QL E tmps ds l1 S n0 lp D rec k X T W' ⟨fun _=>none,fun b i=>U.hid b i\/(W.heap.size<=b/\b < W'.heap.size)⟩:=by
 obtain⟨s1,s2,s3,s4⟩:=h.start;have st:∀ b i,Hs W U [] b i->Hs W' ⟨fun _=>none,fun b i=>U.hid b i\/(W.heap.size<=b/\b < W'.heap.size)⟩ [] b i/\Qf W' b i=Qf W b i:=fun b i hs=>by
  refine⟨dQ.2 ⟨P0 hs.lt ht.size,fun hh=>hh.elim hs.seen fun hh=>by have:=hs.lt; omega⟩,?_⟩;by_cases hc:n0<=b/\¬ X b
  .by_cases h0:T b i
   .exact hT b i h0
   .exact(hs.seen (h.hid b hc.1 hs.lt hc.2 i h0)).elim
  .exact Jc (w:=W) (ht.keep b hs.lt hc)
 have low:∀ b,b < n0->W'.heap[b]? = W.heap[b]? := fun b hb=>ht.keep b (P0 hb h.old) fun hc=>by omega
 obtain⟨Xo,To,g1,g2,g3,g4⟩:=h.gh;refine⟨yN fun b i hh=>hh.elim (fun hh=>P0 (h.sat.hid b i hh) ht.size) (fun hh=>hh.2),⟨fun t=>(h.frame.tmp t).stepW (tX st)⟩,fun b g1 g2 g3 i g4=>?_,fun b hx=>P0 (h.lt b hx) ht.size,(low lp s3).trans h.loop,(low D s2).trans h.mark,Nat.le_trans h.old ht.size,h.start,
  fun b i hs=>(st b i (h.data b i hs)).1,fun b i hs=>⟨(h.tdata b i hs).1,(st b i (h.tdata b i hs).2).1⟩,JX h.defs h.deflt (fun D' h1 _ _ _=>low D' (by omega)),h.deflt,⟨Xo,To,hE.abide k Xo To W W' g1 ⟨ht.os,ht.tape,ht.output,ht.size,fun b hb hn=>ht.keep b hb fun hc=>hn ⟨hE.frW b (by omega),fun hx=>hc.2 (g2 b hx).1⟩⟩ (fun b i hs=>(st b i (g3 b i hs)).2),fun b hx=>⟨(g2 b hx).1,(g2 b hx).2.1,(g2 b hx).2.2.1,fun i hn=>.inl ((g2 b hx).2.2.2 i hn)⟩,fun b i hs=>(st b i (g3 b i hs)).1,g4⟩,fun b i hs=>h.vis b i (dQ.2 ⟨Nat.lt_of_not_le fun hc=>hs.seen (.inr ⟨hc,hs.lt⟩),fun hh=>hs.seen (.inl hh)⟩)⟩
 rcases P4 b W.heap.size with hb | hb
 .exact .inl (h.hid b g1 hb g3 i g4)
 .exact .inr ⟨hb,g2⟩
theorem QL.more (hE:E.Ok P) (h:QL E tmps ds l1 S n0 lp D rec k X T W U) (h1:∀ b i,T b i->T' b i) (h2:∀ b i,T' b i->¬ T b i->n0<=b/\¬ X b/\b < W.heap.size) :
  QL E tmps ds l1 S n0 lp D rec k X T' W ⟨fun _=>none,fun b i=>U.hid b i/\¬ T' b i⟩:=by
 obtain⟨s1,s2,s3,s4⟩:=h.start;have told:∀ b i,T' b i->n0<=b/\b < W.heap.size:=fun b i h'=>by
  by_cases ht:T b i
  .exact⟨(h.tdata b i ht).1,(h.tdata b i ht).2.lt⟩
  .exact⟨(h2 b i h' ht).1,(h2 b i h' ht).2.2⟩
 have st:∀ b i,Hs W U [] b i->Hs W ⟨fun _=>none,fun b i=>U.hid b i/\¬ T' b i⟩ [] b i:=fun b i hs=>dQ.2 ⟨hs.lt,fun hh=>hs.seen hh.1⟩;obtain⟨Xo,To,g1,g2,g3,g4⟩:=h.gh;refine⟨yN fun b i hh=>h.sat.hid b i hh.1,⟨fun t=>(h.frame.tmp t).stepW (tX fun b i hs=>⟨st b i hs,rfl⟩)⟩,fun b g1 g2 g3 i g4=>⟨h.hid b g1 g2 g3 i (fun ht=>g4 (h1 b i ht)),g4⟩,h.lt,h.loop,h.mark,h.old,h.start,fun b i hs=>st b i (h.data b i hs),fun b i h0=>⟨(told b i h0).1,dQ.2 ⟨(told b i h0).2,fun hh=>hh.2 h0⟩⟩,
  JX h.defs h.deflt (fun _ _ _ _ _=>rfl),h.deflt,⟨Xo,To,g1,fun b hx=>⟨(g2 b hx).1,(g2 b hx).2.1,(g2 b hx).2.2.1,fun i hn=>⟨(g2 b hx).2.2.2 i hn,fun h0=>?_⟩⟩,fun b i hs=>st b i (g3 b i hs),g4⟩,fun b i hs=>?_⟩
 .by_cases ht:T b i
  .exact(h.tdata b i ht).2.seen ((g2 b hx).2.2.2 i hn)
  .exact(h2 b i h0 ht).2.1 (g2 b hx).1
 .by_cases ht:T' b i
  .exact .inr (hE.frW b (by have:=(told b i ht).1; omega))
  .exact h.vis b i (dQ.2 ⟨hs.lt,fun hh=>hs.seen ⟨hh,ht⟩⟩)
end rounds

theorem zS {gv:Option (Nat×Nat)} {gop:Operand} {ps:List Tmp} {assign body:Code} {Q:iH Z} (l1:Fr) {gf:FuncId} {AZ:AD} (ys:List AD) {Y:Type} (I:Nat->Y->Prop) (kf:Nat->Y->Z) (s0:Y)
  (hE:E.Ok P) (b3:N.ro=none) (hg:ev l gop=.fn gf AZ) (e6:Qr (fun _=>false) AZ=true) (hB:H5 P gf=true) (e7:G83 P gf AZ gv 0 (ZZ ys) (fun k=>k=ys.length)) (h0:I 0 s0) (hk:k=kf 0 s0) (hf:Fits N.base l L l1 [])
  (e8:∀ us∈ys,ps.length=us.length) (e9:∀ p∈ps,p < N.n)
  (hr:∀ i us s,ys[i]? = some us->I i s->∀ (lr:Nat) (K:Fr->Loc->Z->Prop),(∀ l L s',I (i+1) s'->K l L (kf (i+1) s'))->∀ E1:dI Z,E1.Ok P->(E1.nx=E.nx/\E1.gv=E.gv)->E1.lp=E.lp ->
   JI E1 P ⟨N.n,[],some lr⟩ assign ⟨fun l2 L2 k2=>∀ E2:dI Z,E2.Ok P->(E2.nx=E.nx/\E2.gv=E.gv)->E2.lp=E.lp->JI E2 P ⟨N.n,[],some lr⟩ body ⟨K,fun _ _ _=>False,fun _ _ _ _=>False⟩ l2 L2 k2,fun _ _ _=>False,fun _ _ _ _=>False⟩ (kE ps us l1) [] (kf i s))
  (c3:∀ s,I ys.length s->Q.norm l1 [] (kf ys.length s)):JI E P N (.rangeFunc gop ps.toArray assign body) Q l L k:=by
 intro n a w U hs;have b0:=hs.fits hf;have hv:=hs.frame.ev gop;rw [hg] at hv;obtain⟨lb,he,f0,f2⟩:=hv.inv_fn;rw [b3];refine wpIn_rangeFunc (F:=FR none) ?_;intro fn f4;obtain⟨rec,h8⟩:∃ rec:LoopState->Option Code->Loop,rec=fun st pe=>{ state:=st,pending:=pe,fn,tmps:=a.tmps,params:=ps.toArray,assign,body,defers:=w.heap.size }:=⟨_,rfl⟩;obtain⟨W1,h9⟩:∃ W1,(w.alloc (.deferred (some []))).alloc (.loop (rec .ready none))=W1:=⟨_,rfl⟩;have i0:W1.heap.size=w.heap.size+2:=by rw [<- h9]; simp
 have f5:W1.heap[w.heap.size+1]? = some (.loop (rec .ready none)):=by
  rw [<- h9]; have:=World.alloc_heap_new (w.alloc (.deferred (some []))) (.loop (rec .ready none)); rwa [World.size_alloc] at this
 have f6:W1.heap[w.heap.size]? = some (.deferred (some [])):=by
  rw [<- h9]; exact(Below.heap_alloc _ _ _ (by simp)).trans (World.alloc_heap_new w _)
 have a2:∀ b,b < w.heap.size->W1.heap[b]? = w.heap[b]? := fun b hb=>by
  rw [<- h9]; exact(Ju _ _ (by simp; omega)).trans (Ju w _ hb)
 have old0:=hs.old;obtain⟨Xw,Tw,hJ,hX,hT,i2,f7⟩:=b0.gh;have i1:N.ro=none:=b3;have a9:=b0.defers;rw [b3] at a9;have b2:∀ d∈a.defers,∀ D',d={ target:=.collected D',args:=#[] }->D' < w.heap.size:=fun d hd D' e=>by
  obtain⟨D,e2,_,h2,_⟩:=a9.each d hd;have:D'=D:=by rw [e] at e2; injection e2 with e3; injection e3
  subst this;exact(Nz h2).1
 obtain⟨S,b4⟩:∃ S:Nat->Nat->Prop,S=Hs w U []:=⟨_,rfl⟩;obtain⟨E3,a8⟩:∃ E3:dI Nat,E3={ W0:=W1,fr:=fun b=>W1.heap.size<=b,S:=S,lp:=w.heap.size+1,nx:=ZZ ys,gv:=gv,J:=fun i X T W=>∃ U1 s,I i s/\QL E a.tmps a.defers l1 S W1.heap.size (w.heap.size+1) w.heap.size (rec .ready none) (kf i s) X T W U1 }:=⟨_,rfl⟩;have st1:∀ b i,Hs w U [] b i->Hs W1 U [] b i/\Qf W1 b i=Qf w b i:=fun b i h=>⟨dQ.2 ⟨by have:=h.lt; omega,h.seen⟩,Jc (w:=w) (a2 b h.lt)⟩;have start:QL E a.tmps a.defers l1 S W1.heap.size (w.heap.size+1) w.heap.size (rec .ready none) k Xw (fun _ _=>False) W1 U:=by
  refine⟨yN fun b i hh=>by have:=b0.sat.hid b i hh; omega,⟨fun t=>(b0.frame.tmp t).stepW (tX st1)⟩,fun b h1 h2=>by omega,fun b hx=>by have:=(hX b hx).1; omega,f5,f6,Pf,⟨old0,by omega,by omega,by omega⟩,fun b i h=>by rw [b4] at h; exact(st1 b i h).1,fun _ _ h=>h.elim,
   JX (n0:=w.heap.size) a9 b2 (fun D hD _ _ _=>a2 D hD),b2,⟨Xw,Tw,hE.abide k Xw Tw w W1 hJ ⟨by rw [<- h9]; rfl,by rw [<- h9]; rfl,by rw [<- h9]; exact⟨rfl,Pf⟩,by omega,fun b hb _=>a2 b hb⟩ (fun b i h=>(st1 b i (hT b i h)).2),fun b hx=>⟨hx,by have:=(hX b hx).1; omega,by have:=(hX b hx).1; omega,(hX b hx).2⟩,fun b i h=>(st1 b i (hT b i h)).1,f7⟩,fun b i h=>?_⟩
  rcases P4 b w.heap.size with hb | hb
  .exact b0.vis b i (dQ.2 ⟨hb,h.seen⟩)
  .exact .inr (hE.frW b (by omega))
 have d6:E3.Ok P:=by
  subst a8;refine⟨fun b i hb=>?_,fun b hb=>hb,fun b i hb hs=>?_,fun k X T W W' hJ ht f8=>?_,fun m i i' us X T0 T G W vs hy hJ c7 c8 c9 hD hG _=>?_⟩
  .show b < W1.heap.size
   have hb:S b i:=hb;rw [b4] at hb; have:=hb.lt; omega
  .have hb:W1.heap.size<=b:=hb;have hs:S b i:=hs;rw [b4] at hs; have:=hs.lt; omega
  .obtain⟨U1,s,hI,hb⟩:=hJ;exact⟨_,s,hI,hb.abide hE ht f8⟩
  .obtain⟨Uq,s,hI,d0⟩:=hJ;obtain⟨d1,rfl⟩:ys[i]? = some us/\i'=i+1:=hy;obtain⟨U1,hb⟩:∃ U1,QL E a.tmps a.defers l1 S W1.heap.size (w.heap.size+1) w.heap.size (rec .ready none) (kf i s) X T W U1:=⟨_,d0.more hE c7 c8⟩;clear d0 c7 c8;obtain⟨s1,s2,s3,s4⟩:=hb.start;have b8:ps.length=us.length:=e8 us (Pd d1);have d2:=run_yield (P:=P) (args:=vs) hb.loop (by rw [h8]; simp [c9,b8]);rw [h8] at d2;have d3:(ps.toArray.zip vs).foldl (fun(tmps:Array Value) (x:Tmp×Value)=>tmps.setIfInBounds x.1 x.2) a.tmps=(ps.zip vs.toList).foldl (fun(tmps:Array Value) (x:Tmp×Value)=>tmps.setIfInBounds x.1 x.2) a.tmps:=by
    rw [<- Array.foldl_toList,Array.toList_zip]
   have a4:w.heap.size+1 < W.heap.size:=(Nz hb.loop).1;have c4:N.n<=((ps.toArray.zip vs).foldl (fun(tmps:Array Value) (x:Tmp×Value)=>tmps.setIfInBounds x.1 x.2) a.tmps).size:=by rw [d3,H1d]; exact hs.size
   have su:∀ b i,Hs W U1 [] b i->Hs W ⟨fun _=>none,fun b i=>U1.hid b i/\¬ G b⟩ [] b i:=fun b i h=>dQ.2 ⟨h.lt,fun hh=>h.seen hh.1⟩;obtain⟨Uu,hUu⟩:∃ Uu:Gx,Uu=⟨fun _=>none,fun b i=>U1.hid b i/\¬ G b⟩:=⟨_,rfl⟩;rw [<- hUu] at su;have a5:∀ b i,Uu.hid b i ↔ U1.hid b i/\¬ G b:=fun b i=>by rw [hUu]
   have f9:Jq { tmps:=(ps.toArray.zip vs).foldl (fun(tmps:Array Value) (x:Tmp×Value)=>tmps.setIfInBounds x.1 x.2) a.tmps,defers:=[] } W Uu [] (kE ps us l1):=by
    rw [d3];refine Jq.round b8 (by simpa using c9) (fun p hp=>P0 (e9 p hp) hs.size) ⟨fun t=>(hb.frame.tmp t).stepW (tX fun b i h=>⟨su b i h,rfl⟩)⟩ (fun j u v hu hv=>.data ((hD j u v hu (by simpa using hv)).mono fun b i h=>⟨h.elim (fun h=>su b i (hb.data b i h)) (fun h=>h.elim (fun h=>su b i (hb.tdata b i h).2) fun h=>dQ.2 ⟨(hG b h).2.2.1,fun hh=>((a5 b i).1 hh).2 h⟩),rfl⟩))
   obtain⟨Xo,To,g1,g2,g3,g4⟩:=hb.gh;have gE:GhE E W Uu [] (kf i s) Xo To:=⟨g1,fun b hx=>⟨hb.lt b (g2 b hx).1,fun i hn=>(a5 b i).2 ⟨(g2 b hx).2.2.2 i hn,fun hg=>(hG b hg).2.1 (g2 b hx).1⟩⟩,fun b i h=>su b i (g3 b i h),fun id b h=>by simp [lk] at h⟩;have g0:StI E ⟨N.n,[],some (w.heap.size+1)⟩ { tmps:=(ps.toArray.zip vs).foldl (fun(tmps:Array Value) (x:Tmp×Value)=>tmps.setIfInBounds x.1 x.2) a.tmps,defers:=[] } W Uu (kE ps us l1) [] (kf i s):=
    ⟨yN fun b i hh=>hb.sat.hid b i ((a5 b i).1 hh).1,f9,c4,.nil,by have:=hb.old; omega,fun id b h=>by simp [lk] at h,⟨Xo,To,gE.1,gE.2.1,gE.2.2.1,gE.2.2.2,fun d hd=>(Pe hd).elim⟩,fun b i h=>by
     by_cases hg:G b
     .exact .inr (hE.frW b (by have h5:W1.heap.size<=b:=(hG b hg).1; omega))
     .exact hb.vis b i (dQ.2 ⟨h.lt,fun hh=>h.seen ((a5 b i).2 ⟨hh,hg⟩)⟩)⟩
   obtain⟨E1,e1,e2,e3,e4,e5⟩:=g0.again hE gE rfl;have unown:∀ b id,(lk ([]:Loc) id).isSome=true->Uu id≠some b:=fun b id h=>by simp [lk] at h
   refine⟨fn,_,assign,body,d2,roundIn_of_wpIn f4 ?_⟩;refine Code.wpIn_mono (fun e a1 w1 q=>?_) (hr i us s d1 hI (w.heap.size+1) (fun _ _ k3=>∃ s',I (i+1) s'/\k3=kf (i+1) s') (fun l3 L3 s' h1=>⟨s',h1,rfl⟩) E1 e1 e2 e3 m _ W Uu (e4 ⟨N.n,[],some (w.heap.size+1)⟩ rfl));cases e with
   | normal=>
    obtain⟨U2,l2,L2,k2,b1,c5⟩:=q;obtain⟨⟨X2,T2,q1,q2⟩,q3,q4,q5⟩:=e5 _ _ _ _ _ _ _ b1;have a1d:a1.defers=[]:=b1.defers.top rfl;have nX:∀ b,b < W.heap.size->¬ Xo b->¬ X2 b:=fun b hb hn hx=>hn ((q2 b hb (unown b)).1 hx);have nlp:¬ Xo (w.heap.size+1):=fun h=>(g2 _ h).2.1 rfl;have nD:¬ Xo w.heap.size:=fun h=>(g2 _ h).2.2.1 rfl;have a6:=(q5.far _ a4 (unown _) nlp).trans hb.loop;have f1:=q5.fre _ a4 (unown _);refine⟨_,run_beginRound a6 (by rw [h8]),?_⟩;obtain⟨W2,h6⟩:∃ W2,w1.putObj (w.heap.size+1) (.loop { rec .ready none with state:=.busy })=W2:=⟨_,rfl⟩;have sw2:mI w1 U2 L2 W2 U2 L2:=by rw [<- h6]; exact dP a6 (by simp) (by simp) f1
    have sat2:Sat W2 U2 L2:=by rw [<- h6]; exact mQ a6 (by simp) (by simp) f1 b1.sat
    have d7:W2.heap[w.heap.size+1]? = some (.loop { rec .ready none with state:=.busy }):=by rw [<- h6]; exact World.putObj_heap_same (Nz a6).1
    have oth2:∀ b,b≠w.heap.size+1->W2.heap[b]? = w1.heap[b]? := fun b hb=>by rw [<- h6]; exact World.putObj_heap_other hb
    have sz2:W2.heap.size=w1.heap.size:=by rw [<- h6]; exact World.putObj_size
    have szs1:=q5.size;have oldW:=hb.old;have cq2:∀ b i,Qf W2 b i=Qf w1 b i:=fun b i=>by rw [<- h6]; exact kR a6 (by simp) (by simp) b i
    have gE2:GhE E W2 U2 L2 k2 X2 T2:=⟨hE.abide k2 X2 T2 w1 W2 q1.1 ⟨by rw [<- h6]; rfl,by rw [<- h6]; rfl,by rw [<- h6]; exact⟨rfl,Pf⟩,by omega,fun b a0 hn=>oth2 b fun e=>hn ⟨hE.frW b (by omega),fun hx=>nX _ a4 nlp (by rw [<- e]; exact hx)⟩⟩ (fun b i _=>cq2 b i),fun b hx=>⟨by rw [sz2]; exact(q1.2.1 b hx).1,(q1.2.1 b hx).2⟩,fun b i h=>(sw2.AX b i (q1.2.2.1 b i h)).1,q1.2.2.2⟩;have d8:StI E ⟨N.n,[],some (w.heap.size+1)⟩ a1 W2 U2 l2 L2 k2:=⟨sat2,⟨fun t=>(b1.frame.tmp t).stepW sw2⟩,b1.size,by rw [a1d]; exact .nil,by omega,q3,⟨X2,T2,gE2.1,gE2.2.1,gE2.2.2.1,gE2.2.2.2,fun d hd=>by rw [a1d] at hd; cases hd⟩,fun b i h=>q4 b i ⟨by rw [<- sz2]; exact h.lt,h.seen,h.kept⟩⟩;obtain⟨E2,y1,y2,y3,y4,y5⟩:=d8.again hE gE2 a1d;rw [h6];refine Code.wpIn_mono (fun e a3 w3 q=>?_) (c5 E2 y1 y2 y3 m _ W2 U2 (y4 ⟨N.n,[],some (w.heap.size+1)⟩ rfl));cases e with
    | normal=>
     obtain⟨U3,l3,L3,k3,g5,s',g6,rfl⟩:=q;obtain⟨⟨X4,T4,p1,p2⟩,p3,p4,p5⟩:=y5 _ _ _ _ _ _ _ g5;have szs2:=p5.size;have b5:w.heap.size+1 < W2.heap.size:=by omega
     have nX2lp:=nX _ a4 nlp;have b9:=(p5.far _ b5 f1 nX2lp).trans d7;have f3:=p5.fre _ b5 f1;have a7:=run_endRound (P:=P) none b9;obtain⟨W4,h7⟩:∃ W4,w3.putObj (w.heap.size+1) (.loop (rec .ready none))=W4:=⟨_,rfl⟩;have c6:(Instr.endRound (w.heap.size+1) none).run P w3=.ok (.bool true) W4:=by
      rw [<- h7];rw [h8] at a7 ⊢;exact a7
     have sz4:W4.heap.size=w3.heap.size:=by rw [<- h7]; exact World.putObj_size
     have oth4:∀ b,b≠w.heap.size+1->W4.heap[b]? = w3.heap[b]? := fun b hb=>by rw [<- h7]; exact World.putObj_heap_other hb
     have c0:W4.heap[w.heap.size+1]? = some (.loop (rec .ready none)):=by rw [<- h7]; exact World.putObj_heap_same (Nz b9).1
     have cq4:∀ b i,Qf W4 b i=Qf w3 b i:=fun b i=>by rw [<- h7]; exact kR b9 (by simp) (by simp) b i
     -- what lay in W
     have keepW:∀ b,b < W.heap.size->b≠w.heap.size+1->¬ Xo b->W4.heap[b]? = W.heap[b]? := fun b c1 d4 d5=>
      (oth4 b d4).trans ((p5.far b (by omega) (q5.fre b c1 (unown b)) (nX b c1 d5)).trans ((oth2 b d4).trans (q5.far b c1 (unown b) d5)))
     have X4o:∀ b,b < W.heap.size->(X4 b ↔ Xo b):=fun b a0=>(p2 b (by omega) (q5.fre b a0 (unown b))).trans (q2 b a0 (unown b));have d9:∀ b i,b < W.heap.size->(U3.hid b i ↔ Uu.hid b i):=fun b i a0=>(p5.hid b i (by omega) (q5.fre b a0 (unown b))).trans (q5.hid b i a0 (unown b));have cellW:∀ b i,Hs W U1 [] b i->Qf W4 b i=Qf W b i:=fun b i h=>by
      obtain⟨z1,z2⟩:=q5.AX b i (su b i h);obtain⟨z3,z4⟩:=sw2.AX b i z1;exact(cq4 b i).trans ((p5.AX b i z3).2.trans (z4.trans z2))
     obtain⟨U4,hU4⟩:∃ U4:Gx,U4=⟨fun _=>none,fun b i=>(b < W.heap.size/\U1.hid b i/\¬ T4 b i)\/(W.heap.size<=b/\b < W4.heap.size/\¬ T4 b i)⟩:=⟨_,rfl⟩;have stabW:∀ b i,Hs W U1 [] b i->Hs W4 U4 [] b i:=fun b i h=>dQ.2 ⟨by have:=h.lt; omega,fun hh=>by rw [hU4] at hh; exact hh.elim (fun hh=>h.seen hh.2.1) (fun hh=>by have:=h.lt; omega)⟩;have t4s:∀ b i,T4 b i->Hs W4 U4 [] b i:=fun b i h=>by
      have hs:=p1.2.2.1 b i h;refine dQ.2 ⟨by rw [sz4]; exact hs.lt,fun hh=>?_⟩;rw [hU4] at hh;exact hh.elim (fun hh=>hh.2.2 h) (fun hh=>hh.2.2 h)
     have b6:∀ b,X b\/G b->b < W.heap.size:=fun b h=>h.elim (hb.lt b) (fun h=>(hG b h).2.2.1);have nT4:∀ b i,b < W.heap.size->U1.hid b i->¬ G b->¬ T4 b i:=fun b i h1 h2 h3 h4=>(p1.2.2.1 b i h4).seen ((d9 b i h1).2 ((a5 b i).2 ⟨h2,h3⟩));have nlp4:¬ X4 (w.heap.size+1):=fun h=>nlp ((X4o _ a4).1 h);have J4:E.J (kf (i+1) s') X4 T4 W4:=hE.abide _ X4 T4 w3 W4 p1.1 ⟨by rw [<- h7]; rfl,by rw [<- h7]; rfl,by rw [<- h7]; exact⟨rfl,Pf⟩,by omega,fun b a0 hn=>oth4 b fun e=>hn ⟨hE.frW b (by omega),fun hx=>nlp4 (by rw [<- e]; exact hx)⟩⟩ (fun b i _=>cq4 b i);refine⟨_,_,c6,rfl,fun b=>(X b\/G b)\/(W.heap.size<=b/\b < W4.heap.size),⟨U4,s',g6,?_⟩,⟨?_,?_,?_,by omega,fun b h1 h2=>?_⟩,fun b h=>⟨fun h'=>h'.elim _root_.id (fun h'=>by omega),.inl⟩,fun b h=>h.elim (fun h=>by have:=b6 b h; omega) (fun h=>h.2),fun b i h=>cellW b i (hb.data b i h)⟩
     .refine⟨yN fun b i hh=>by rw [hU4] at hh; exact hh.elim (fun hh=>by omega) (fun hh=>hh.2.1),⟨fun t=>(hb.frame.tmp t).stepW (tX fun b i h=>⟨stabW b i h,cellW b i h⟩)⟩,fun b h1 h2 h3 i h4=>?_,fun b h=>h.elim (fun h=>by have:=b6 b h; omega) (fun h=>h.2),c0,(keepW _ (by omega) (by omega) nD).trans hb.mark,by omega,hb.start,fun b i h=>stabW b i (hb.data b i h),fun b i h=>⟨(hb.tdata b i h).1,stabW b i (hb.tdata b i h).2⟩,
       JX hb.defs hb.deflt (fun D' i3 _ _ hd=>?_),hb.deflt,⟨X4,T4,J4,fun b hx=>⟨?_,fun e=>nlp4 (by rw [<- e]; exact hx),fun e=>nD ((X4o _ (by omega)).1 (by rw [<- e]; exact hx)),fun i hn=>?_⟩,t4s,fun d hd D' e hx=>?_⟩,fun b i h=>?_⟩
      .have c2:b < W.heap.size:=Nat.lt_of_not_le fun h=>h3 (.inr ⟨h,h2⟩);rw [hU4];have hh:=hb.hid b h1 c2 (fun h=>h3 (.inl (.inl h))) i h4;exact .inl ⟨c2,hh,nT4 b i c2 hh fun h=>h3 (.inl (.inr h))⟩
      .obtain⟨d,g7,g8⟩:=hd;exact keepW D' (by omega) (by omega) (g4 d g7 D' g8)
      .rcases P4 b W.heap.size with h | h
       .exact .inl (.inl (g2 b ((X4o b h).1 hx)).1)
       .exact .inr ⟨h,by rw [sz4]; exact(p1.2.1 b hx).1⟩
      .rw [hU4];rcases P4 b W.heap.size with h | h
       .exact .inl ⟨h,(g2 b ((X4o b h).1 hx)).2.2.2 i hn,fun ht=>(p1.2.2.1 b i ht).seen ((p1.2.1 b hx).2 i hn)⟩
       .exact .inr ⟨h,by rw [sz4]; exact(p1.2.1 b hx).1,fun ht=>(p1.2.2.1 b i ht).seen ((p1.2.1 b hx).2 i hn)⟩
      .have:=hb.deflt d hd D' e;exact g4 d hd D' e ((X4o D' (by omega)).1 hx)
      .rcases P4 b W.heap.size with h' | h'
       .by_cases ht:T4 b i
        .exact p4 b i (p1.2.2.1 b i ht)
        .refine hb.vis b i (dQ.2 ⟨h',fun hh=>h.seen ?_⟩);rw [hU4]; exact .inl ⟨h',hh,ht⟩
       .exact .inr (hE.frW b (by omega))
     .rw [<- h7]; exact p5.os.trans (by rw [<- h6]; exact q5.os)
     .rw [<- h7]; exact p5.tape.trans (by rw [<- h6]; exact q5.tape)
     .have z2:=p5.output;have z1:=q5.output;rw [<- h6] at z2;rw [<- h7];exact⟨z2.1.trans z1.1,Nat.le_trans z1.2 z2.2⟩
     .by_cases e:b=w.heap.size+1
      .rw [e,c0,hb.loop]
      .exact keepW b h1 e fun hx=>h2 (.inl (g2 b hx).1)
    | ret=>obtain⟨_,_,_,_,_,hq⟩:=q; exact hq.elim
    | exit i=>obtain⟨_,_,_,_,_,hq⟩:=q; exact hq.elim
    | goto t=>exact q.elim
    | panic c=>exact q.elim
    | outgrown=>exact q.elim
   | ret=>obtain⟨_,_,_,_,_,hq⟩:=q; exact hq.elim
   | exit i=>obtain⟨_,_,_,_,_,hq⟩:=q; exact hq.elim
   | goto t=>exact q.elim
   | panic c=>exact q.elim
   | outgrown=>exact q.elim
 have e0:∀ (j:Nat) u v,AZ[j]? = some u->lb[j]? = some v->D W1 S u v:=fun j u v hu hv=>by
  have:=(f2 j u v hu hv).toD (Yz e6 u (Pd hu));refine this.mono fun b i h=>?_;have h':=hf.drop.AX h;refine⟨by rw [b4]; exact h',Jc (w:=w) (a2 b h'.lt)⟩
 have b7:=e7 (n - 1) E3 lb Xw d6 (by rw [a8]; exact⟨rfl,rfl⟩) f0 (by rw [a8]; exact e0) (by rw [a8]; exact start.lt) (by rw [a8]; exact⟨U,s0,h0,hk ▸ start⟩);refine⟨w.heap.size+1,[{ target:=.collected w.heap.size,args:=#[] }],W1,{ target:=.fn (.func gf) lb,args:=#[.func (.yield (w.heap.size+1)) #[] #[]] },W1,gf,
  #[.func (.yield (w.heap.size+1)) #[] #[]]++lb,W1,?_,?_,fun _ _=>trivial,?_,fun e=>(by cases e),?_⟩
 .rw [<- h9,h8]; exact run_enterLoop_outer _ _ _ _ _
 .simp only [resolve,he];simp [go_sem]
 .simp [invoke,go_sem,H5.out hB]
 .rw [a8] at b7;refine CallsIn.mono (F:=FR none) b7 fun e W2 h=>?_;obtain⟨⟨v,rfl⟩,i,X,T,g9,U1,s,hI,hb⟩:=h;subst g9;obtain⟨s1,s2,s3,s4⟩:=hb.start;have a7:=run_endLoop (P:=P) hb.loop (by rw [h8]; simp);obtain⟨Xo,To,g1,g2,g3,g4⟩:=hb.gh;have nlp:¬ Xo (w.heap.size+1):=fun h=>(g2 _ h).2.1 rfl;refine⟨none,W2.putObj (w.heap.size+1) (.loop { rec .ready none with state:=.exhausted }),by rw [h8] at a7 ⊢; exact a7,U1,l1,[],kf ys.length s,?_,c3 s hI⟩;have sw:=dP (U:=U1) (L:=[]) (o':=.loop { rec .ready none with state:=.exhausted }) hb.loop (by simp) (by simp) (fun id h=>by simp [lk] at h);have oldW:=hb.old;refine⟨yN fun b i hh=>by rw [World.putObj_size]; exact hb.sat.hid b i hh,⟨fun t=>(hb.frame.tmp t).stepW sw⟩,hs.size,?_,by rw [World.putObj_size]; omega,fun id b h=>by simp [lk] at h,
   ⟨Xo,To,hE.abide _ Xo To W2 _ g1 ⟨rfl,rfl,⟨rfl,Pf⟩,by rw [World.putObj_size]; exact Pf,fun b a0 hn=>World.putObj_heap_other fun e=>hn ⟨hE.frW b (by omega),fun hx=>nlp (by rw [<- e]; exact hx)⟩⟩ (fun b i _=>kR hb.loop (by simp) (by simp) b i),fun b hx=>⟨by rw [World.putObj_size]; exact hb.lt b (g2 b hx).1,(g2 b hx).2.2.2⟩,fun b i h=>(sw.AX b i (g3 b i h)).1,fun id b h=>by simp [lk] at h,fun d hd D' e hx=>?_⟩,fun b i h=>hb.vis b i (dQ.2 ⟨by have:=h.lt; rwa [World.putObj_size] at this,h.seen⟩)⟩
  .rw [b3];refine⟨fun h=>(by cases h),List.nodup_cons.2 ⟨fun h=>?_,hb.defs.nodup⟩,fun d hd=>?_⟩
   .have:=b2 _ h _ rfl; omega
   .rcases Pv.1 hd with rfl | hd
    .exact⟨_,rfl,s1,(World.putObj_heap_other (by omega)).trans hb.mark,fun id h=>by simp [lk] at h⟩
    .obtain⟨D',e,h1,h2,h3⟩:=hb.defs.each d hd;refine⟨D',e,h1,(World.putObj_heap_other fun e2=>?_).trans h2,fun id h=>by simp [lk] at h⟩;rw [e2,hb.loop] at h2; cases h2
  .rcases Pv.1 hd with rfl | hd
   .have e3:w.heap.size=D':=by injection e with e3; injection e3
    exact(g2 D' hx).2.2.1 e3.symm
   .exact g4 d hd D' e hx
theorem Gb8 {t kk:Nat} {gop:Operand} {ps:List Tmp} {assign body:Code} {Q:iH Z} (l1:Fr) {gf:FuncId} {AZ:AD} (ys:List AD) {Y:Type} (I:Nat->Y->Prop) (kf:Nat->Y->Z) (s0:Y)
  (hE:E.Ok P) (h2:N.ro=none) (hg:ev l gop=.fn gf AZ) (h3:Qr (fun _=>false) AZ=true) (hB:H5 P gf=true) (h4:Ge8 P gf AZ t kk ys) (h0:I 0 s0) (hk:k=kf 0 s0) (hf:Fits N.base l L l1 [])
  (h5:∀ us∈ys,ps.length=us.length) (h6:∀ p∈ps,p < N.n)
  (hr:∀ i us s,ys[i]? = some us->I i s->∀ (lr:Nat) (K:Fr->Loc->Z->Prop),(∀ l L s',I (i+1) s'->K l L (kf (i+1) s'))->∀ E1:dI Z,E1.Ok P->(E1.nx=E.nx/\E1.gv=E.gv)->E1.lp=E.lp ->
   JI E1 P ⟨N.n,[],some lr⟩ assign ⟨fun l2 L2 k2=>∀ E2:dI Z,E2.Ok P->(E2.nx=E.nx/\E2.gv=E.gv)->E2.lp=E.lp->JI E2 P ⟨N.n,[],some lr⟩ body ⟨K,fun _ _ _=>False,fun _ _ _ _=>False⟩ l2 L2 k2,fun _ _ _=>False,fun _ _ _ _=>False⟩ (kE ps us l1) [] (kf i s))
  (h1:∀ s,I ys.length s->Q.norm l1 [] (kf ys.length s)):JI E P N (.rangeFunc gop ps.toArray assign body) Q l L k:=
 zS l1 ys I kf s0 hE h2 hg h3 hB h4 h0 hk hf h5 h6 hr h1
end Go.Proofs.YtbgfgnddogfpcaaGreat
