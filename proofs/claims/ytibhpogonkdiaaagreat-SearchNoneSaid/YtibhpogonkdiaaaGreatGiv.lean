/-
 A range over a function within a function that is ranged ove Statements whose operations may be carried out in more than A slice of the call's own that a call returns,given away at
-/
import Derived.Test.YtibhpogonkdiaaaGreatIterJ
import Derived.Test.YtibhpogonkdiaaaGreatIter
set_option linter.unusedVariables false
set_option linter.unusedSimpArgs false
set_option linter.unnecessarySimpa false
namespace Go.Proofs.YtibhpogonkdiaaaGreat
open Go.RowKit

def GhE {κ:Type} (E:G0b κ) (w:World) (β:Gu) (L:Loc) (k:κ) (X:Nat→Prop) (T:Nat→Nat→Prop):Prop:=
 E.J k X T w∧(∀ b,X b→b < w.heap.size∧∀ i,¬ E.S b i→β.hid b i)∧(∀ b i,T b i→Hv w β L b i)∧∀ id b,(lk L id).isSome=true→β id=some b→¬ X b

structure RelX (Xw:Nat→Prop) (w:World) (β:Gu) (L:Loc) (w':World) (β':Gu) (L':Loc):Prop where
 os:w'.os=w.os
 tape:w'.tape=w.tape
 output:w'.output=w.output∧w.drawn≤w'.drawn
 size:w.heap.size≤w'.heap.size
 far:∀ b,b < w.heap.size→(∀ id,(lk L id).isSome=true→β id≠some b)→¬ Xw b→w'.heap[b]? = w.heap[b]?
 fre:∀ b,b < w.heap.size→(∀ id,(lk L id).isSome=true→β id≠some b)→∀ id,(lk L' id).isSome=true→β' id≠some b
 stab:∀ b i,Hv w β L b i→Hv w' β' L' b i∧Qy w' b i=Qy w b i
 hid:∀ b i,b < w.heap.size→(∀ id,(lk L id).isSome=true→β id≠some b)→(β'.hid b i ↔ β.hid b i)

theorem StI.again {κ:Type} {E:G0b κ} {P:Program} {N:Cfg} {a:Act} {w:World} {β:Gu} {l:Fr} {L:Loc} {k:κ} (hE:E.Ok P) (hs:StI E N a w β l L k) {Xw:Nat→Prop} {Tw:Nat→Nat→Prop} (hg:GhE E w β L k Xw Tw) (hd:a.defers=[]) :
  ∃ E':G0b κ,E'.Ok P∧(E'.nx=E.nx∧E'.gv=E.gv)∧E'.lp=E.lp∧(∀ N':Cfg,N'.n=N.n→StI E' N' a w β l L k) ∧
   ∀ (N':Cfg) a' w' β' l' L' k',StI E' N' a' w' β' l' L' k'→(∃ X T,GhE E w' β' L' k' X T∧∀ b,b < w.heap.size→(∀ id,(lk L id).isSome=true→β id≠some b)→(X b ↔ Xw b))∧(∀ id b,(lk L' id).isSome=true→β' id=some b→E.fr b)∧(∀ b i,Hv w' β' L' b i→E.S b i∨E.fr b)∧RelX Xw w β L w' β' L':=by
 obtain⟨hJ,hX,hT,a4⟩:=hg
 have old:=hs.old
 -- what is owned here
 obtain⟨Ow,h6⟩:∃ Ow:Nat→Prop,Ow=fun b=>∃ id,(lk L id).isSome=true∧β id=some b:=⟨_,rfl⟩
 have owfr:∀ b,Ow b→E.fr b:=fun b h=>by rw [h6] at h; obtain⟨id,h1,h2⟩:=h; exact hs.own id b h1 h2
 have owX:∀ b,Ow b→¬ Xw b:=fun b h=>by rw [h6] at h; obtain⟨id,h1,h2⟩:=h; exact a4 id b h1 h2
 have owlt:∀ b,Ow b→b < w.heap.size:=fun b h=>by rw [h6] at h; obtain⟨id,h1,h2⟩:=h; exact hs.sat.bnd id b h1 h2
 have nown:∀ b,¬ Ow b→∀ id,(lk L id).isSome=true→β id≠some b:=fun b h id h1 h2=>h (by rw [h6]; exact⟨id,h1,h2⟩)
 have stabX:∀ b i,Hv w β L b i→Xw b→E.S b i:=fun b i h hx=>Classical.byContradiction fun hn=>h.seen ((hX b hx).2 i hn)
 have hidden:∀ b i,b < w.heap.size→¬ Ow b→¬ Hv w β L b i→β.hid b i:=fun b i h1 h2 h3=>Classical.byContradiction fun hn=>h3 ⟨h1,hn,fun id o h4 h5=>(nown b h2 id (by rw [h4]; rfl) h5).elim⟩
 obtain⟨J',h9⟩:∃ J':κ→(Nat→Prop)→(Nat→Nat→Prop)→World→Prop,J'=fun k X' T' W=>∃ X T,E.J k X T W∧(∀ b,X b→X' b)∧(∀ b i,T' b i ↔ T b i∨Hv w β L b i)∧(∀ b,b < w.heap.size→X' b∨Ow b) ∧
   (∀ b,b < w.heap.size→¬ Ow b→¬ Xw b→W.heap[b]? = w.heap[b]?)∧(∀ b i,Hv w β L b i→Qy W b i=Qy w b i)∧(W.os=w.os∧W.tape=w.tape∧W.output=w.output∧w.drawn≤W.drawn∧w.heap.size≤W.heap.size)∧(∀ b,b < w.heap.size→¬ Ow b→(X b ↔ Xw b))∧(∀ b,X' b→b < W.heap.size)∧∀ b i,Ow b→X b→¬ Hv w β L b i:=⟨_,rfl⟩
 have xS:∀ (X:Nat→Prop),(∀ b,b < w.heap.size→¬ Ow b→(X b ↔ Xw b))→(∀ b i,Ow b→X b→¬ Hv w β L b i)→∀ b i,Hv w β L b i→X b→E.S b i:=fun X h8 a5 b i h hx=>by
  by_cases ho:Ow b
  ·exact(a5 b i ho hx h).elim
  ·exact stabX b i h ((h8 b h.lt ho).1 hx)
 obtain⟨E',a0⟩:∃ E':G0b κ,E'={ W0:=w,fr:=fun b=>w.heap.size≤b∨Ow b,S:=fun b i=>Hv w β L b i∧¬ Ow b,lp:=E.lp,J:=J',nx:=E.nx,gv:=E.gv }:=⟨_,rfl⟩
 have frE:∀ b,(w.heap.size≤b∨Ow b)→E.fr b:=fun b h=>h.elim (fun h=>hE.frW b (Nat.le_trans old h)) (owfr b)
 refine⟨E',?_,by rw [a0]; exact⟨rfl,rfl⟩,by rw [a0],fun N' hN=>?_,fun N' a' w' β' l' L' k' a1=>?_⟩
 ·subst a0
  refine⟨fun b i h=>Hv.lt h.1,fun b h=>.inl h,fun b i h hS=>?_,fun k X' T' W W' hj ht a3=>?_,fun m k k' us X' T0 T1 G W vs hy hj h7 a6 a7 hD hG a8=>?_⟩
  ·have h:w.heap.size≤b∨Ow b:=h
   have hS:Hv w β L b i∧¬ Ow b:=hS
   exact h.elim (fun h=>by have:=hS.1.lt; omega) hS.2
  ·have hj:J' k X' T' W:=hj
   show J' k X' T' W'
   rw [h9] at hj ⊢
   obtain⟨X,T,g1,g2,g3,g4,g5,g6,⟨o1,o2,o3,o4,o5⟩,g8,g9,g10⟩:=hj
   have keep:∀ b,b < W.heap.size→¬ (E.fr b∧¬ X b)→W'.heap[b]? = W.heap[b]? := fun b hb hn=>ht.keep b hb fun h=>hn ⟨frE b h.1,fun hx=>h.2 (g2 b hx)⟩
   refine⟨X,T,hE.abide k X T W W' g1 ⟨ht.os,ht.tape,ht.output,ht.size,keep⟩ (fun b i h=>a3 b i ((g3 b i).2 (.inl h))),g2,g3,g4,fun b hb hn hx=>?_,fun b i h=>(a3 b i ((g3 b i).2 (.inr h))).trans (g6 b i h),⟨ht.os.trans o1,ht.tape.trans o2,ht.output.1.trans o3,Nat.le_trans o4 ht.output.2,Nat.le_trans o5 ht.size⟩,g8,fun b h=>Km (g9 b h) ht.size,g10⟩
   exact(ht.keep b (Km hb o5) fun h=>h.2 ((g4 b hb).elim id fun h=>(hn h).elim)).trans (g5 b hb hn hx)
  ·have hj:J' k X' T0 W:=hj
   rw [h9] at hj
   obtain⟨X,T,g1,g2,g3,g4,g5,g6,⟨o1,o2,o3,o4,o5⟩,g8,g9,g10⟩:=hj
   have c1:∀ b i,(T b i∨(T1 b i∧¬ T0 b i)∨(Hv w β L b i∧¬ E.S b i))→¬ T b i→E.fr b∧¬ X b∧b < W.heap.size:=fun b i h hn=>by
    rcases h with h | ⟨h1,h0⟩ | ⟨h1,h2⟩
    ·exact(hn h).elim
    ·obtain⟨p1,p2,p3⟩:=a6 b i h1 h0
     exact⟨frE b p1,fun hx=>p2 (g2 b hx),p3⟩
    ·exact⟨(hs.vis b i h1).elim (fun h=>(h2 h).elim) (fun h=>h),fun hx=>h2 (xS X g8 g10 b i h1 hx),Km h1.lt o5⟩
   have c3:∀ b i,(Hv w β L b i∧¬ Ow b)∨T1 b i→E.S b i∨(T b i∨(T1 b i∧¬ T0 b i)∨(Hv w β L b i∧¬ E.S b i)):=fun b i h=>by
    by_cases hS:E.S b i
    ·exact .inl hS
    ·refine .inr ?_
     rcases h with h | h
     ·exact .inr (.inr ⟨h.1,hS⟩)
     ·by_cases h0:T0 b i
      ·rcases (g3 b i).1 h0 with h | h
       ·exact .inl h
       ·exact .inr (.inr ⟨h,hS⟩)
      ·exact .inr (.inl ⟨h,h0⟩)
   have c2:∀ (j:Nat) u v,us[j]? = some u→vs[j]? = some v→D W (fun b i=>E.S b i∨(T b i∨(T1 b i∧¬ T0 b i)∨(Hv w β L b i∧¬ E.S b i))∨G b) u v:=fun j u v hu hv=>by
    refine(hD j u v hu hv).mono fun b i h=>⟨?_,rfl⟩
    rcases h with h | h | h
    ·exact(c3 b i (.inl h)).imp_right .inl
    ·exact(c3 b i (.inr h)).imp_right .inl
    ·exact .inr (.inr h)
   have c4:∀ b,G b→E.fr b∧¬ X b∧b < W.heap.size∧∀ i,¬ (T b i∨(T1 b i∧¬ T0 b i)∨(Hv w β L b i∧¬ E.S b i)):=fun b hb=>by
    obtain⟨p1,p2,p3,p4⟩:=hG b hb
    refine⟨frE b p1,fun hx=>p2 (g2 b hx),p3,fun i h=>?_⟩
    rcases h with h | h | h
    ·exact p4 i (h7 b i ((g3 b i).2 (.inl h)))
    ·exact p4 i h.1
    ·exact p4 i (h7 b i ((g3 b i).2 (.inr h.1)))
   have c5:Given E.gv W (fun b i=>E.S b i∨(T b i∨(T1 b i∧¬ T0 b i)∨(Hv w β L b i∧¬ E.S b i))) G us vs:=Given.mono a8 c3
   obtain⟨fn,tmps,assign,body,hr,hR⟩:=hE.round m k k' us X T (fun b i=>T b i∨(T1 b i∧¬ T0 b i)∨(Hv w β L b i∧¬ E.S b i)) G W vs hy g1 (fun b i h=>.inl h) c1 a7 c2 c4 c5
   refine⟨fn,tmps,assign,body,hr,hR.mono fun e W' h=>?_⟩
   obtain⟨rfl,X2,q1,q2,q3,q4,q5⟩:=h
   have cS:∀ b i,Hv w β L b i→Qy W' b i=Qy W b i:=fun b i h=>by
    by_cases hx:X b
    ·exact q5 b i (xS X g8 g10 b i h hx)
    ·exact Jh (w:=W) (q2.keep b (Km h.lt o5) fun hh=>hh.elim hx fun hg=>(c4 b hg).2.2.2 i (by
      by_cases hS:E.S b i
      ·exact((hE.frS b i (c4 b hg).1) hS).elim
      ·exact .inr (.inr ⟨h,hS⟩)))
   have gOw:∀ b,b < w.heap.size→¬ Ow b→¬ G b:=fun b hb hn h=>(hG b h).1.elim (fun h=>by omega) hn
   refine⟨rfl,fun b=>(b < W.heap.size∧(X' b∨G b))∨(W.heap.size≤b∧X2 b),?_,⟨q2.os,q2.tape,q2.output,q2.size,fun b hb hn=>q2.keep b hb fun hx=>hn (hx.imp_left (g2 b))⟩,fun b hb=>⟨fun h=>h.elim (·.2) (fun h=>by omega),fun h=>.inl ⟨hb,h⟩⟩,fun b h=>h.elim (fun h=>Km h.1 q2.size) (fun h=>q4 b h.2),fun b i h=>cS b i h.1⟩
   show J' k' _ T1 W'
   rw [h9]
   refine⟨X2,_,q1,fun b hx=>?_,fun b i=>⟨fun h=>?_,fun h=>?_⟩,fun b hb=>(g4 b hb).imp (fun h=>.inl ⟨Km hb o5,.inl h⟩) (fun h=>h),fun b hb hn hx=>?_,fun b i h=>(cS b i h).trans (g6 b i h),⟨q2.os.trans o1,q2.tape.trans o2,q2.output.1.trans o3,Nat.le_trans o4 q2.output.2,Nat.le_trans o5 q2.size⟩,fun b hb hn=>(q3 b (Km hb o5)).trans (Iff.trans ⟨fun h=>h.elim id fun h=>(gOw b hb hn h).elim,.inl⟩ (g8 b hb hn)),fun b h=>h.elim (fun h=>Km h.1 q2.size) (fun h=>q4 b h.2),fun b i ho hx a2=>?_⟩
   ·rcases Kq b W.heap.size with hb | hb
    ·exact .inl ⟨hb,((q3 b hb).1 hx).imp_left (g2 b)⟩
    ·exact .inr ⟨hb,hx⟩
   ·by_cases h0:T0 b i
    ·exact((g3 b i).1 h0).imp .inl (fun h=>h)
    ·exact .inl (.inr (.inl ⟨h,h0⟩))
   ·rcases h with (h | h | h) | h
    ·exact h7 b i ((g3 b i).2 (.inl h))
    ·exact h.1
    ·exact h7 b i ((g3 b i).2 (.inr h.1))
    ·exact h7 b i ((g3 b i).2 (.inr h))
   ·exact(q2.keep b (Km hb o5) fun h=>h.elim (fun h=>hx ((g8 b hb hn).1 h)) (gOw b hb hn)).trans (g5 b hb hn hx)
   ·rcases (q3 b (Km (owlt b ho) o5)).1 hx with h | h
    ·exact g10 b i ho h a2
    ·exact(hG b h).2.2.2 i (h7 b i ((g3 b i).2 (.inr a2)))
 ·subst a0
  refine⟨hs.sat,hs.frame,by rw [hN]; exact hs.size,by rw [hd]; exact .nil,M1,fun id b h1 h2=>.inr (by rw [h6]; exact⟨id,h1,h2⟩),⟨fun b=>b < w.heap.size∧¬ Ow b,fun b i=>Tw b i∨Hv w β L b i,?_,fun b h=>⟨h.1,fun i hn=>hidden b i h.1 h.2 fun a2=>hn ⟨a2,h.2⟩⟩,fun b i h=>h.elim (hT b i) (fun h=>h),fun id b h1 h2 h=>h.2 (by rw [h6]; exact⟨id,h1,h2⟩),fun d h=>by rw [hd] at h; cases h⟩,fun b i h=>(Classical.em (Ow b)).elim (fun ho=>.inr (.inr ho)) fun ho=>.inl ⟨h,ho⟩⟩
  show J' k _ _ w
  rw [h9]
  exact⟨Xw,Tw,hJ,fun b hx=>⟨(hX b hx).1,fun ho=>owX b ho hx⟩,fun b i=>Iff.rfl,fun b hb=>(Classical.em (Ow b)).elim .inr (fun h=>.inl ⟨hb,h⟩),fun _ _ _ _=>rfl,fun _ _ _=>rfl,⟨rfl,rfl,rfl,M1,M1⟩,fun _ _ _=>Iff.rfl,fun b h=>h.1,fun b i ho hx _=>owX b ho hx⟩
 ·subst a0
  obtain⟨X',T',hj,p2,p3,p4,_⟩:=a1.gh
  have hj:J' k' X' T' w':=hj
  rw [h9] at hj
  obtain⟨X,T,g1,g2,g3,g4,g5,g6,⟨o1,o2,o3,o4,o5⟩,g8,g9,g10⟩:=hj
  have fre:∀ b,b < w.heap.size→(∀ id,(lk L id).isSome=true→β id≠some b)→∀ id,(lk L' id).isSome=true→β' id≠some b:=fun b hb hn id h1 h2=>by
   have:w.heap.size≤b∨Ow b:=a1.own id b h1 h2
   rcases this with h | h
   ·omega
   ·rw [h6] at h; obtain⟨id',h3,h4⟩:=h; exact hn id' h3 h4
  refine⟨⟨X,T,⟨g1,fun b hx=>⟨(p2 b (g2 b hx)).1,fun i hn=>(p2 b (g2 b hx)).2 i fun h=>hn (xS X g8 g10 b i h.1 hx)⟩,fun b i h=>p3 b i ((g3 b i).2 (.inl h)),fun id b h1 h2 hx=>p4 id b h1 h2 (g2 b hx)⟩,fun b hb hn=>g8 b hb fun h=>by rw [h6] at h; obtain⟨id,h1,h2⟩:=h; exact hn id h1 h2⟩,fun id b h1 h2=>frE b (a1.own id b h1 h2),fun b i h=>?_,⟨o1,o2,⟨o3,o4⟩,o5,fun b hb hn hx=>g5 b hb (fun h=>by rw [h6] at h; obtain⟨id,h1,h2⟩:=h; exact hn id h1 h2) hx,fre,fun b i h=>⟨p3 b i ((g3 b i).2 (.inr h)),g6 b i h⟩,fun b i hb hn=>?_⟩⟩
  ·rcases a1.vis b i h with h | h
   ·exact hs.vis b i h.1
   ·exact .inr (frE b h)
  ·have a9:¬ Ow b:=fun h=>by rw [h6] at h; obtain⟨id,h1,h2⟩:=h; exact hn id h1 h2
   constructor
   ·intro h
    refine Classical.byContradiction fun h'=>?_
    exact(p3 b i ((g3 b i).2 (.inr ⟨hb,h',fun id o h1 h2=>(hn id (by rw [h1]; rfl) h2).elim⟩))).seen h
   ·intro h
    have hx:X' b:=(g4 b hb).elim (fun h=>h) fun h=>(a9 h).elim
    exact(p2 b hx).2 i fun h'=>Hv.seen h'.1 h

structure J23 {κ:Type} (E:G0b κ) (tmps:Array Value) (ds:List Deferred) (l1:Fr) (S:Nat→Nat→Prop) (n0 lp D:Nat) (rec:Loop) (k:κ) (X:Nat→Prop) (T:Nat→Nat→Prop) (W:World) (β:Gu):Prop where
 sat:Sat W β []
 frame:Jt { tmps:=tmps,defers:=[] } W β [] l1
 hid:∀ b,n0≤b→b < W.heap.size→¬ X b→∀ i,¬ T b i→β.hid b i
 lt:∀ b,X b→b < W.heap.size
 loop:W.heap[lp]? = some (.loop rec)
 mark:W.heap[D]? = some (.deferred (some []))
 old:n0≤W.heap.size
 start:E.W0.heap.size≤D∧D < n0∧lp < n0∧D < lp
 data:∀ b i,S b i→Hv W β [] b i
 tdata:∀ b i,T b i→n0≤b∧Hv W β [] b i
 defs:G54 none E.W0.heap.size W β [] ds
 deflt:∀ d∈ds,∀ D',d={ target:=.collected D',args:=#[] }→D' < D
 gh:∃ Xo To,E.J k Xo To W∧(∀ b,Xo b→X b∧b≠lp∧b≠D∧∀ i,¬ E.S b i→β.hid b i)∧(∀ b i,To b i→Hv W β [] b i)∧∀ d∈ds,∀ D',d={ target:=.collected D',args:=#[] }→¬ Xo D'
 vis:∀ b i,Hv W β [] b i→E.S b i∨E.fr b
theorem G11 {w:World} {β:Gu} {b i:Nat}:Hv w β [] b i ↔ b < w.heap.size∧¬ β.hid b i:=⟨fun h=>⟨h.lt,h.seen⟩,fun h=>⟨h.1,h.2,fun id o h=>by simp [lk] at h⟩⟩
theorem Hab {w:World} {β:Gu} (h:∀ b i,β.hid b i→b < w.heap.size):Sat w β []:=⟨h,fun id b h=>by simp [lk] at h,fun id b j h=>by simp [lk] at h,fun id id' b h=>by simp [lk] at h,fun id o h=>by simp [lk] at h⟩
theorem H45 {w w':World} {β β':Gu} (h:∀ b i,Hv w β [] b i→Hv w' β' [] b i∧Qy w' b i=Qy w b i):Gba w β [] w' β' []:=
 ⟨h,fun _ _ cs h=>by simp [lk] at h,fun _ _ es h=>by simp [lk] at h,fun _ _ n es h=>by simp [lk] at h,fun id _ _ ver xs h=>by simp [lk] at h,fun id _ _ ver hw h=>by simp [lk] at h⟩
theorem J15 {B n0:Nat} {w w':World} {β β':Gu} {ds:List Deferred} (h:G54 none B w β [] ds) (h0:∀ d∈ds,∀ D',d={ target:=.collected D',args:=#[] }→D' < n0) (hk:∀ D,D < n0→(∀ d∈ds,True)→w.heap[D]? = some (.deferred (some []))→(∃ d∈ds,d={ target:=.collected D,args:=#[] })→w'.heap[D]? = w.heap[D]?):G54 none B w' β' [] ds:=
 ⟨h.top,h.nodup,fun d hd=>by
  obtain⟨D,e,h1,h2,h3⟩:=h.each d hd
  exact⟨D,e,h1,(hk D (h0 d hd D e) (fun _ _=>trivial) h2 ⟨d,hd,e⟩).trans h2,fun id hid=>by simp [lk] at hid⟩⟩

section rounds
variable {κ:Type} {E:G0b κ} {P:Program} {tmps:Array Value} {ds:List Deferred} {l1:Fr} {S:Nat→Nat→Prop} {n0 lp D:Nat} {rec:Loop} {k:κ} {X:Nat→Prop} {T T':Nat→Nat→Prop} {W W':World} {β:Gu}
theorem J23.abide (hE:E.Ok P) (h:J23 E tmps ds l1 S n0 lp D rec k X T W β) (ht:R40 (fun b=>n0≤b∧¬ X b) W W') (hT:∀ b i,T b i→Qy W' b i=Qy W b i) :
  J23 E tmps ds l1 S n0 lp D rec k X T W' ⟨fun _=>none,fun b i=>β.hid b i∨(W.heap.size≤b∧b < W'.heap.size)⟩:=by
 obtain⟨s1,s2,s3,s4⟩:=h.start
 have st:∀ b i,Hv W β [] b i→Hv W' ⟨fun _=>none,fun b i=>β.hid b i∨(W.heap.size≤b∧b < W'.heap.size)⟩ [] b i∧Qy W' b i=Qy W b i:=fun b i hs=>by
  refine⟨G11.2 ⟨Km hs.lt ht.size,fun hh=>hh.elim hs.seen fun hh=>by have:=hs.lt; omega⟩,?_⟩
  by_cases hc:n0≤b∧¬ X b
  ·by_cases h0:T b i
   ·exact hT b i h0
   ·exact(hs.seen (h.hid b hc.1 hs.lt hc.2 i h0)).elim
  ·exact Jh (w:=W) (ht.keep b hs.lt hc)
 have low:∀ b,b < n0→W'.heap[b]? = W.heap[b]? := fun b hb=>ht.keep b (Km hb h.old) fun hc=>by omega
 obtain⟨Xo,To,g1,g2,g3,g4⟩:=h.gh
 refine⟨Hab fun b i hh=>hh.elim (fun hh=>Km (h.sat.hid b i hh) ht.size) (fun hh=>hh.2),⟨fun t=>(h.frame.tmp t).stepW (H45 st)⟩,fun b g1 g2 g3 i g4=>?_,fun b hx=>Km (h.lt b hx) ht.size,(low lp s3).trans h.loop,(low D s2).trans h.mark,Nat.le_trans h.old ht.size,h.start,
  fun b i hs=>(st b i (h.data b i hs)).1,fun b i hs=>⟨(h.tdata b i hs).1,(st b i (h.tdata b i hs).2).1⟩,J15 h.defs h.deflt (fun D' h1 _ _ _=>low D' (by omega)),h.deflt,⟨Xo,To,hE.abide k Xo To W W' g1 ⟨ht.os,ht.tape,ht.output,ht.size,fun b hb hn=>ht.keep b hb fun hc=>hn ⟨hE.frW b (by omega),fun hx=>hc.2 (g2 b hx).1⟩⟩ (fun b i hs=>(st b i (g3 b i hs)).2),fun b hx=>⟨(g2 b hx).1,(g2 b hx).2.1,(g2 b hx).2.2.1,fun i hn=>.inl ((g2 b hx).2.2.2 i hn)⟩,fun b i hs=>(st b i (g3 b i hs)).1,g4⟩,fun b i hs=>h.vis b i (G11.2 ⟨Nat.lt_of_not_le fun hc=>hs.seen (.inr ⟨hc,hs.lt⟩),fun hh=>hs.seen (.inl hh)⟩)⟩
 rcases Kq b W.heap.size with hb | hb
 ·exact .inl (h.hid b g1 hb g3 i g4)
 ·exact .inr ⟨hb,g2⟩
theorem J23.more (hE:E.Ok P) (h:J23 E tmps ds l1 S n0 lp D rec k X T W β) (h1:∀ b i,T b i→T' b i) (h2:∀ b i,T' b i→¬ T b i→n0≤b∧¬ X b∧b < W.heap.size) :
  J23 E tmps ds l1 S n0 lp D rec k X T' W ⟨fun _=>none,fun b i=>β.hid b i∧¬ T' b i⟩:=by
 obtain⟨s1,s2,s3,s4⟩:=h.start
 have told:∀ b i,T' b i→n0≤b∧b < W.heap.size:=fun b i h'=>by
  by_cases ht:T b i
  ·exact⟨(h.tdata b i ht).1,(h.tdata b i ht).2.lt⟩
  ·exact⟨(h2 b i h' ht).1,(h2 b i h' ht).2.2⟩
 have st:∀ b i,Hv W β [] b i→Hv W ⟨fun _=>none,fun b i=>β.hid b i∧¬ T' b i⟩ [] b i:=fun b i hs=>G11.2 ⟨hs.lt,fun hh=>hs.seen hh.1⟩
 obtain⟨Xo,To,g1,g2,g3,g4⟩:=h.gh
 refine⟨Hab fun b i hh=>h.sat.hid b i hh.1,⟨fun t=>(h.frame.tmp t).stepW (H45 fun b i hs=>⟨st b i hs,rfl⟩)⟩,fun b g1 g2 g3 i g4=>⟨h.hid b g1 g2 g3 i (fun ht=>g4 (h1 b i ht)),g4⟩,h.lt,h.loop,h.mark,h.old,h.start,fun b i hs=>st b i (h.data b i hs),fun b i h0=>⟨(told b i h0).1,G11.2 ⟨(told b i h0).2,fun hh=>hh.2 h0⟩⟩,
  J15 h.defs h.deflt (fun _ _ _ _ _=>rfl),h.deflt,⟨Xo,To,g1,fun b hx=>⟨(g2 b hx).1,(g2 b hx).2.1,(g2 b hx).2.2.1,fun i hn=>⟨(g2 b hx).2.2.2 i hn,fun h0=>?_⟩⟩,fun b i hs=>st b i (g3 b i hs),g4⟩,fun b i hs=>?_⟩
 ·by_cases ht:T b i
  ·exact(h.tdata b i ht).2.seen ((g2 b hx).2.2.2 i hn)
  ·exact(h2 b i h0 ht).2.1 (g2 b hx).1
 ·by_cases ht:T' b i
  ·exact .inr (hE.frW b (by have:=(told b i ht).1; omega))
  ·exact h.vis b i (G11.2 ⟨hs.lt,fun hh=>hs.seen ⟨hh,ht⟩⟩)
end rounds

theorem Hd0 {gv:Option (Nat×Nat)} {κ:Type} {E:G0b κ} {P:Program} {N:Cfg} {gop:Operand} {ps:List Tmp} {assign body:Code} {Q:G5a κ} {l:Fr} {L:Loc} {k:κ} (l1:Fr) {gf:FuncId} {caps:List AV} (ys:List (List AV)) {σ:Type} (I:Nat→σ→Prop) (kf:Nat→σ→κ) (s0:σ)
  (hE:E.Ok P) (b3:N.ro=none) (hg:ev l gop=.fn gf caps) (e6:Qn (fun _=>false) caps=true) (hB:Hh P gf=true) (e7:Jf1 P gf caps gv 0 (J6f ys) (fun k=>k=ys.length)) (h0:I 0 s0) (hk:k=kf 0 s0) (hf:Fits N.base l L l1 [])
  (e8:∀ us∈ys,ps.length=us.length) (e9:∀ p∈ps,p < N.n)
  (hr:∀ i us s,ys[i]? = some us→I i s→∀ (lr:Nat) (K:Fr→Loc→κ→Prop),(∀ l L s',I (i+1) s'→K l L (kf (i+1) s'))→∀ E1:G0b κ,E1.Ok P→(E1.nx=E.nx∧E1.gv=E.gv)→E1.lp=E.lp →
   JI E1 P ⟨N.n,[],some lr⟩ assign ⟨fun l2 L2 k2=>∀ E2:G0b κ,E2.Ok P→(E2.nx=E.nx∧E2.gv=E.gv)→E2.lp=E.lp→JI E2 P ⟨N.n,[],some lr⟩ body ⟨K,fun _ _ _=>False,fun _ _ _ _=>False⟩ l2 L2 k2,fun _ _ _=>False,fun _ _ _ _=>False⟩ (G80 ps us l1) [] (kf i s))
  (c3:∀ s,I ys.length s→Q.norm l1 [] (kf ys.length s)):JI E P N (.rangeFunc gop ps.toArray assign body) Q l L k:=by
 intro n a w β hs
 have b0:=hs.fits hf
 have hv:=hs.frame.ev gop
 rw [hg] at hv
 obtain⟨lb,he,f0,f2⟩:=hv.inv_fn
 rw [b3]
 refine wpIn_rangeFunc (F:=FR none) ?_
 intro fn f4
 obtain⟨rec,h8⟩:∃ rec:LoopState→Option Code→Loop,rec=fun st pe=>{ state:=st,pending:=pe,fn,tmps:=a.tmps,params:=ps.toArray,assign,body,defers:=w.heap.size }:=⟨_,rfl⟩
 obtain⟨W1,h9⟩:∃ W1,(w.alloc (.deferred (some []))).alloc (.loop (rec .ready none))=W1:=⟨_,rfl⟩
 have i0:W1.heap.size=w.heap.size+2:=by rw [← h9]; simp
 have f5:W1.heap[w.heap.size+1]? = some (.loop (rec .ready none)):=by
  rw [← h9]; have:=World.alloc_heap_new (w.alloc (.deferred (some []))) (.loop (rec .ready none)); rwa [World.size_alloc] at this
 have f6:W1.heap[w.heap.size]? = some (.deferred (some [])):=by
  rw [← h9]; exact(Below.heap_alloc _ _ _ (by simp)).trans (World.alloc_heap_new w _)
 have a2:∀ b,b < w.heap.size→W1.heap[b]? = w.heap[b]? := fun b hb=>by
  rw [← h9]; exact(Ji _ _ (by simp; omega)).trans (Ji w _ hb)
 have old0:=hs.old
 obtain⟨Xw,Tw,hJ,hX,hT,i2,f7⟩:=b0.gh
 have i1:N.ro=none:=b3
 have a9:=b0.defers
 rw [b3] at a9
 have b2:∀ d∈a.defers,∀ D',d={ target:=.collected D',args:=#[] }→D' < w.heap.size:=fun d hd D' e=>by
  obtain⟨D,e2,_,h2,_⟩:=a9.each d hd
  have:D'=D:=by rw [e] at e2; injection e2 with e3; injection e3
  subst this
  exact(Kk h2).1
 obtain⟨S,b4⟩:∃ S:Nat→Nat→Prop,S=Hv w β []:=⟨_,rfl⟩
 obtain⟨E3,a8⟩:∃ E3:G0b Nat,E3={ W0:=W1,fr:=fun b=>W1.heap.size≤b,S:=S,lp:=w.heap.size+1,nx:=J6f ys,gv:=gv,J:=fun i X T W=>∃ β1 s,I i s∧J23 E a.tmps a.defers l1 S W1.heap.size (w.heap.size+1) w.heap.size (rec .ready none) (kf i s) X T W β1 }:=⟨_,rfl⟩
 have st1:∀ b i,Hv w β [] b i→Hv W1 β [] b i∧Qy W1 b i=Qy w b i:=fun b i h=>⟨G11.2 ⟨by have:=h.lt; omega,h.seen⟩,Jh (w:=w) (a2 b h.lt)⟩
 have start:J23 E a.tmps a.defers l1 S W1.heap.size (w.heap.size+1) w.heap.size (rec .ready none) k Xw (fun _ _=>False) W1 β:=by
  refine⟨Hab fun b i hh=>by have:=b0.sat.hid b i hh; omega,⟨fun t=>(b0.frame.tmp t).stepW (H45 st1)⟩,fun b h1 h2=>by omega,fun b hx=>by have:=(hX b hx).1; omega,f5,f6,M1,⟨old0,by omega,by omega,by omega⟩,fun b i h=>by rw [b4] at h; exact(st1 b i h).1,fun _ _ h=>h.elim,
   J15 (n0:=w.heap.size) a9 b2 (fun D hD _ _ _=>a2 D hD),b2,⟨Xw,Tw,hE.abide k Xw Tw w W1 hJ ⟨by rw [← h9]; rfl,by rw [← h9]; rfl,by rw [← h9]; exact⟨rfl,M1⟩,by omega,fun b hb _=>a2 b hb⟩ (fun b i h=>(st1 b i (hT b i h)).2),fun b hx=>⟨hx,by have:=(hX b hx).1; omega,by have:=(hX b hx).1; omega,(hX b hx).2⟩,fun b i h=>(st1 b i (hT b i h)).1,f7⟩,fun b i h=>?_⟩
  rcases Kq b w.heap.size with hb | hb
  ·exact b0.vis b i (G11.2 ⟨hb,h.seen⟩)
  ·exact .inr (hE.frW b (by omega))
 have d6:E3.Ok P:=by
  subst a8
  refine⟨fun b i hb=>?_,fun b hb=>hb,fun b i hb hs=>?_,fun k X T W W' hJ ht f8=>?_,fun m i i' us X T0 T G W vs hy hJ c7 c8 c9 hD hG _=>?_⟩
  ·show b < W1.heap.size
   have hb:S b i:=hb
   rw [b4] at hb; have:=hb.lt; omega
  ·have hb:W1.heap.size≤b:=hb
   have hs:S b i:=hs
   rw [b4] at hs; have:=hs.lt; omega
  ·obtain⟨β1,s,hI,hb⟩:=hJ
   exact⟨_,s,hI,hb.abide hE ht f8⟩
  ·obtain⟨βq,s,hI,d0⟩:=hJ
   obtain⟨d1,rfl⟩:ys[i]? = some us∧i'=i+1:=hy
   obtain⟨β1,hb⟩:∃ β1,J23 E a.tmps a.defers l1 S W1.heap.size (w.heap.size+1) w.heap.size (rec .ready none) (kf i s) X T W β1:=⟨_,d0.more hE c7 c8⟩
   clear d0 c7 c8
   obtain⟨s1,s2,s3,s4⟩:=hb.start
   have b8:ps.length=us.length:=e8 us (Kz d1)
   have d2:=run_yield (P:=P) (args:=vs) hb.loop (by rw [h8]; simp [c9,b8])
   rw [h8] at d2
   have d3:(ps.toArray.zip vs).foldl (fun(tmps:Array Value) (x:Tmp×Value)=>tmps.setIfInBounds x.1 x.2) a.tmps=(ps.zip vs.toList).foldl (fun(tmps:Array Value) (x:Tmp×Value)=>tmps.setIfInBounds x.1 x.2) a.tmps:=by
    rw [← Array.foldl_toList,Array.toList_zip]
   have a4:w.heap.size+1 < W.heap.size:=(Kk hb.loop).1
   have c4:N.n≤((ps.toArray.zip vs).foldl (fun(tmps:Array Value) (x:Tmp×Value)=>tmps.setIfInBounds x.1 x.2) a.tmps).size:=by rw [d3,Q7b]; exact hs.size
   have su:∀ b i,Hv W β1 [] b i→Hv W ⟨fun _=>none,fun b i=>β1.hid b i∧¬ G b⟩ [] b i:=fun b i h=>G11.2 ⟨h.lt,fun hh=>h.seen hh.1⟩
   obtain⟨βu,hβu⟩:∃ βu:Gu,βu=⟨fun _=>none,fun b i=>β1.hid b i∧¬ G b⟩:=⟨_,rfl⟩
   rw [← hβu] at su
   have a5:∀ b i,βu.hid b i ↔ β1.hid b i∧¬ G b:=fun b i=>by rw [hβu]
   have f9:Jt { tmps:=(ps.toArray.zip vs).foldl (fun(tmps:Array Value) (x:Tmp×Value)=>tmps.setIfInBounds x.1 x.2) a.tmps,defers:=[] } W βu [] (G80 ps us l1):=by
    rw [d3]
    refine Jt.round b8 (by simpa using c9) (fun p hp=>Km (e9 p hp) hs.size) ⟨fun t=>(hb.frame.tmp t).stepW (H45 fun b i h=>⟨su b i h,rfl⟩)⟩ (fun j u v hu hv=>.data ((hD j u v hu (by simpa using hv)).mono fun b i h=>⟨h.elim (fun h=>su b i (hb.data b i h)) (fun h=>h.elim (fun h=>su b i (hb.tdata b i h).2) fun h=>G11.2 ⟨(hG b h).2.2.1,fun hh=>((a5 b i).1 hh).2 h⟩),rfl⟩))
   obtain⟨Xo,To,g1,g2,g3,g4⟩:=hb.gh
   have gE:GhE E W βu [] (kf i s) Xo To:=⟨g1,fun b hx=>⟨hb.lt b (g2 b hx).1,fun i hn=>(a5 b i).2 ⟨(g2 b hx).2.2.2 i hn,fun hg=>(hG b hg).2.1 (g2 b hx).1⟩⟩,fun b i h=>su b i (g3 b i h),fun id b h=>by simp [lk] at h⟩
   have g0:StI E ⟨N.n,[],some (w.heap.size+1)⟩ { tmps:=(ps.toArray.zip vs).foldl (fun(tmps:Array Value) (x:Tmp×Value)=>tmps.setIfInBounds x.1 x.2) a.tmps,defers:=[] } W βu (G80 ps us l1) [] (kf i s):=
    ⟨Hab fun b i hh=>hb.sat.hid b i ((a5 b i).1 hh).1,f9,c4,.nil,by have:=hb.old; omega,fun id b h=>by simp [lk] at h,⟨Xo,To,gE.1,gE.2.1,gE.2.2.1,gE.2.2.2,fun d hd=>(M0 hd).elim⟩,fun b i h=>by
     by_cases hg:G b
     ·exact .inr (hE.frW b (by have h5:W1.heap.size≤b:=(hG b hg).1; omega))
     ·exact hb.vis b i (G11.2 ⟨h.lt,fun hh=>h.seen ((a5 b i).2 ⟨hh,hg⟩)⟩)⟩
   obtain⟨E1,e1,e2,e3,e4,e5⟩:=g0.again hE gE rfl
   have unown:∀ b id,(lk ([]:Loc) id).isSome=true→βu id≠some b:=fun b id h=>by simp [lk] at h
   refine⟨fn,_,assign,body,d2,roundIn_of_wpIn f4 ?_⟩
   refine Code.wpIn_mono (fun e a1 w1 q=>?_) (hr i us s d1 hI (w.heap.size+1) (fun _ _ k3=>∃ s',I (i+1) s'∧k3=kf (i+1) s') (fun l3 L3 s' h1=>⟨s',h1,rfl⟩) E1 e1 e2 e3 m _ W βu (e4 ⟨N.n,[],some (w.heap.size+1)⟩ rfl))
   cases e with
   | normal=>
    obtain⟨β2,l2,L2,k2,b1,c5⟩:=q
    obtain⟨⟨X2,T2,q1,q2⟩,q3,q4,q5⟩:=e5 _ _ _ _ _ _ _ b1
    have a1d:a1.defers=[]:=b1.defers.top rfl
    have nX:∀ b,b < W.heap.size→¬ Xo b→¬ X2 b:=fun b hb hn hx=>hn ((q2 b hb (unown b)).1 hx)
    have nlp:¬ Xo (w.heap.size+1):=fun h=>(g2 _ h).2.1 rfl
    have nD:¬ Xo w.heap.size:=fun h=>(g2 _ h).2.2.1 rfl
    have a6:=(q5.far _ a4 (unown _) nlp).trans hb.loop
    have f1:=q5.fre _ a4 (unown _)
    refine⟨_,run_beginRound a6 (by rw [h8]),?_⟩
    obtain⟨W2,h6⟩:∃ W2,w1.putObj (w.heap.size+1) (.loop { rec .ready none with state:=.busy })=W2:=⟨_,rfl⟩
    have sw2:Gba w1 β2 L2 W2 β2 L2:=by rw [← h6]; exact G10 a6 (by simp) (by simp) f1
    have sat2:Sat W2 β2 L2:=by rw [← h6]; exact Gc2 a6 (by simp) (by simp) f1 b1.sat
    have d7:W2.heap[w.heap.size+1]? = some (.loop { rec .ready none with state:=.busy }):=by rw [← h6]; exact World.putObj_heap_same (Kk a6).1
    have oth2:∀ b,b≠w.heap.size+1→W2.heap[b]? = w1.heap[b]? := fun b hb=>by rw [← h6]; exact World.putObj_heap_other hb
    have sz2:W2.heap.size=w1.heap.size:=by rw [← h6]; exact World.putObj_size
    have szs1:=q5.size
    have oldW:=hb.old
    have cq2:∀ b i,Qy W2 b i=Qy w1 b i:=fun b i=>by rw [← h6]; exact G92 a6 (by simp) (by simp) b i
    have gE2:GhE E W2 β2 L2 k2 X2 T2:=⟨hE.abide k2 X2 T2 w1 W2 q1.1 ⟨by rw [← h6]; rfl,by rw [← h6]; rfl,by rw [← h6]; exact⟨rfl,M1⟩,by omega,fun b a0 hn=>oth2 b fun e=>hn ⟨hE.frW b (by omega),fun hx=>nX _ a4 nlp (by rw [← e]; exact hx)⟩⟩ (fun b i _=>cq2 b i),fun b hx=>⟨by rw [sz2]; exact(q1.2.1 b hx).1,(q1.2.1 b hx).2⟩,fun b i h=>(sw2.stab b i (q1.2.2.1 b i h)).1,q1.2.2.2⟩
    have d8:StI E ⟨N.n,[],some (w.heap.size+1)⟩ a1 W2 β2 l2 L2 k2:=⟨sat2,⟨fun t=>(b1.frame.tmp t).stepW sw2⟩,b1.size,by rw [a1d]; exact .nil,by omega,q3,⟨X2,T2,gE2.1,gE2.2.1,gE2.2.2.1,gE2.2.2.2,fun d hd=>by rw [a1d] at hd; cases hd⟩,fun b i h=>q4 b i ⟨by rw [← sz2]; exact h.lt,h.seen,h.kept⟩⟩
    obtain⟨E2,y1,y2,y3,y4,y5⟩:=d8.again hE gE2 a1d
    rw [h6]
    refine Code.wpIn_mono (fun e a3 w3 q=>?_) (c5 E2 y1 y2 y3 m _ W2 β2 (y4 ⟨N.n,[],some (w.heap.size+1)⟩ rfl))
    cases e with
    | normal=>
     obtain⟨β3,l3,L3,k3,g5,s',g6,rfl⟩:=q
     obtain⟨⟨X4,T4,p1,p2⟩,p3,p4,p5⟩:=y5 _ _ _ _ _ _ _ g5
     have szs2:=p5.size
     have b5:w.heap.size+1 < W2.heap.size:=by omega
     have nX2lp:=nX _ a4 nlp
     have b9:=(p5.far _ b5 f1 nX2lp).trans d7
     have f3:=p5.fre _ b5 f1
     have a7:=run_endRound (P:=P) none b9
     obtain⟨W4,h7⟩:∃ W4,w3.putObj (w.heap.size+1) (.loop (rec .ready none))=W4:=⟨_,rfl⟩
     have c6:(Instr.endRound (w.heap.size+1) none).run P w3=.ok (.bool true) W4:=by
      rw [← h7]
      rw [h8] at a7 ⊢
      exact a7
     have sz4:W4.heap.size=w3.heap.size:=by rw [← h7]; exact World.putObj_size
     have oth4:∀ b,b≠w.heap.size+1→W4.heap[b]? = w3.heap[b]? := fun b hb=>by rw [← h7]; exact World.putObj_heap_other hb
     have c0:W4.heap[w.heap.size+1]? = some (.loop (rec .ready none)):=by rw [← h7]; exact World.putObj_heap_same (Kk b9).1
     have cq4:∀ b i,Qy W4 b i=Qy w3 b i:=fun b i=>by rw [← h7]; exact G92 b9 (by simp) (by simp) b i
     -- what lay in W
     have keepW:∀ b,b < W.heap.size→b≠w.heap.size+1→¬ Xo b→W4.heap[b]? = W.heap[b]? := fun b c1 d4 d5=>
      (oth4 b d4).trans ((p5.far b (by omega) (q5.fre b c1 (unown b)) (nX b c1 d5)).trans ((oth2 b d4).trans (q5.far b c1 (unown b) d5)))
     have X4o:∀ b,b < W.heap.size→(X4 b ↔ Xo b):=fun b a0=>(p2 b (by omega) (q5.fre b a0 (unown b))).trans (q2 b a0 (unown b))
     have d9:∀ b i,b < W.heap.size→(β3.hid b i ↔ βu.hid b i):=fun b i a0=>(p5.hid b i (by omega) (q5.fre b a0 (unown b))).trans (q5.hid b i a0 (unown b))
     have cellW:∀ b i,Hv W β1 [] b i→Qy W4 b i=Qy W b i:=fun b i h=>by
      obtain⟨z1,z2⟩:=q5.stab b i (su b i h)
      obtain⟨z3,z4⟩:=sw2.stab b i z1
      exact(cq4 b i).trans ((p5.stab b i z3).2.trans (z4.trans z2))
     obtain⟨β4,hβ4⟩:∃ β4:Gu,β4=⟨fun _=>none,fun b i=>(b < W.heap.size∧β1.hid b i∧¬ T4 b i)∨(W.heap.size≤b∧b < W4.heap.size∧¬ T4 b i)⟩:=⟨_,rfl⟩
     have stabW:∀ b i,Hv W β1 [] b i→Hv W4 β4 [] b i:=fun b i h=>G11.2 ⟨by have:=h.lt; omega,fun hh=>by rw [hβ4] at hh; exact hh.elim (fun hh=>h.seen hh.2.1) (fun hh=>by have:=h.lt; omega)⟩
     have t4s:∀ b i,T4 b i→Hv W4 β4 [] b i:=fun b i h=>by
      have hs:=p1.2.2.1 b i h
      refine G11.2 ⟨by rw [sz4]; exact hs.lt,fun hh=>?_⟩
      rw [hβ4] at hh
      exact hh.elim (fun hh=>hh.2.2 h) (fun hh=>hh.2.2 h)
     have b6:∀ b,X b∨G b→b < W.heap.size:=fun b h=>h.elim (hb.lt b) (fun h=>(hG b h).2.2.1)
     have nT4:∀ b i,b < W.heap.size→β1.hid b i→¬ G b→¬ T4 b i:=fun b i h1 h2 h3 h4=>(p1.2.2.1 b i h4).seen ((d9 b i h1).2 ((a5 b i).2 ⟨h2,h3⟩))
     have nlp4:¬ X4 (w.heap.size+1):=fun h=>nlp ((X4o _ a4).1 h)
     have J4:E.J (kf (i+1) s') X4 T4 W4:=hE.abide _ X4 T4 w3 W4 p1.1 ⟨by rw [← h7]; rfl,by rw [← h7]; rfl,by rw [← h7]; exact⟨rfl,M1⟩,by omega,fun b a0 hn=>oth4 b fun e=>hn ⟨hE.frW b (by omega),fun hx=>nlp4 (by rw [← e]; exact hx)⟩⟩ (fun b i _=>cq4 b i)
     refine⟨_,_,c6,rfl,fun b=>(X b∨G b)∨(W.heap.size≤b∧b < W4.heap.size),⟨β4,s',g6,?_⟩,⟨?_,?_,?_,by omega,fun b h1 h2=>?_⟩,fun b h=>⟨fun h'=>h'.elim _root_.id (fun h'=>by omega),.inl⟩,fun b h=>h.elim (fun h=>by have:=b6 b h; omega) (fun h=>h.2),fun b i h=>cellW b i (hb.data b i h)⟩
     ·refine⟨Hab fun b i hh=>by rw [hβ4] at hh; exact hh.elim (fun hh=>by omega) (fun hh=>hh.2.1),⟨fun t=>(hb.frame.tmp t).stepW (H45 fun b i h=>⟨stabW b i h,cellW b i h⟩)⟩,fun b h1 h2 h3 i h4=>?_,fun b h=>h.elim (fun h=>by have:=b6 b h; omega) (fun h=>h.2),c0,(keepW _ (by omega) (by omega) nD).trans hb.mark,by omega,hb.start,fun b i h=>stabW b i (hb.data b i h),fun b i h=>⟨(hb.tdata b i h).1,stabW b i (hb.tdata b i h).2⟩,
       J15 hb.defs hb.deflt (fun D' i3 _ _ hd=>?_),hb.deflt,⟨X4,T4,J4,fun b hx=>⟨?_,fun e=>nlp4 (by rw [← e]; exact hx),fun e=>nD ((X4o _ (by omega)).1 (by rw [← e]; exact hx)),fun i hn=>?_⟩,t4s,fun d hd D' e hx=>?_⟩,fun b i h=>?_⟩
      ·have c2:b < W.heap.size:=Nat.lt_of_not_le fun h=>h3 (.inr ⟨h,h2⟩)
       rw [hβ4]
       have hh:=hb.hid b h1 c2 (fun h=>h3 (.inl (.inl h))) i h4
       exact .inl ⟨c2,hh,nT4 b i c2 hh fun h=>h3 (.inl (.inr h))⟩
      ·obtain⟨d,g7,g8⟩:=hd
       exact keepW D' (by omega) (by omega) (g4 d g7 D' g8)
      ·rcases Kq b W.heap.size with h | h
       ·exact .inl (.inl (g2 b ((X4o b h).1 hx)).1)
       ·exact .inr ⟨h,by rw [sz4]; exact(p1.2.1 b hx).1⟩
      ·rw [hβ4]
       rcases Kq b W.heap.size with h | h
       ·exact .inl ⟨h,(g2 b ((X4o b h).1 hx)).2.2.2 i hn,fun ht=>(p1.2.2.1 b i ht).seen ((p1.2.1 b hx).2 i hn)⟩
       ·exact .inr ⟨h,by rw [sz4]; exact(p1.2.1 b hx).1,fun ht=>(p1.2.2.1 b i ht).seen ((p1.2.1 b hx).2 i hn)⟩
      ·have:=hb.deflt d hd D' e
       exact g4 d hd D' e ((X4o D' (by omega)).1 hx)
      ·rcases Kq b W.heap.size with h' | h'
       ·by_cases ht:T4 b i
        ·exact p4 b i (p1.2.2.1 b i ht)
        ·refine hb.vis b i (G11.2 ⟨h',fun hh=>h.seen ?_⟩)
         rw [hβ4]; exact .inl ⟨h',hh,ht⟩
       ·exact .inr (hE.frW b (by omega))
     ·rw [← h7]; exact p5.os.trans (by rw [← h6]; exact q5.os)
     ·rw [← h7]; exact p5.tape.trans (by rw [← h6]; exact q5.tape)
     ·have z2:=p5.output
      have z1:=q5.output
      rw [← h6] at z2
      rw [← h7]
      exact⟨z2.1.trans z1.1,Nat.le_trans z1.2 z2.2⟩
     ·by_cases e:b=w.heap.size+1
      ·rw [e,c0,hb.loop]
      ·exact keepW b h1 e fun hx=>h2 (.inl (g2 b hx).1)
    | ret=>obtain⟨_,_,_,_,_,hq⟩:=q; exact hq.elim
    | exit i=>obtain⟨_,_,_,_,_,hq⟩:=q; exact hq.elim
    | goto t=>exact q.elim
    | panic c=>exact q.elim
    | outgrown=>exact q.elim
   | ret=>obtain⟨_,_,_,_,_,hq⟩:=q; exact hq.elim
   | exit i=>obtain⟨_,_,_,_,_,hq⟩:=q; exact hq.elim
   | goto t=>exact q.elim
   | panic c=>exact q.elim
   | outgrown=>exact q.elim
 have e0:∀ (j:Nat) u v,caps[j]? = some u→lb[j]? = some v→D W1 S u v:=fun j u v hu hv=>by
  have:=(f2 j u v hu hv).toD (Yt e6 u (Kz hu))
  refine this.mono fun b i h=>?_
  have h':=hf.drop.stab h
  refine⟨by rw [b4]; exact h',Jh (w:=w) (a2 b h'.lt)⟩
 have b7:=e7 (n - 1) E3 lb Xw d6 (by rw [a8]; exact⟨rfl,rfl⟩) f0 (by rw [a8]; exact e0) (by rw [a8]; exact start.lt) (by rw [a8]; exact⟨β,s0,h0,hk ▸ start⟩)
 refine⟨w.heap.size+1,[{ target:=.collected w.heap.size,args:=#[] }],W1,{ target:=.fn (.func gf) lb,args:=#[.func (.yield (w.heap.size+1)) #[] #[]] },W1,gf,
  #[.func (.yield (w.heap.size+1)) #[] #[]]++lb,W1,?_,?_,fun _ _=>trivial,?_,fun e=>(by cases e),?_⟩
 ·rw [← h9,h8]; exact run_enterLoop_outer _ _ _ _ _
 ·simp only [resolve,he]
  simp [go_sem]
 ·simp [invoke,go_sem,Hh.out hB]
 ·rw [a8] at b7
  refine CallsIn.mono (F:=FR none) b7 fun e W2 h=>?_
  obtain⟨⟨v,rfl⟩,i,X,T,g9,β1,s,hI,hb⟩:=h
  subst g9
  obtain⟨s1,s2,s3,s4⟩:=hb.start
  have a7:=run_endLoop (P:=P) hb.loop (by rw [h8]; simp)
  obtain⟨Xo,To,g1,g2,g3,g4⟩:=hb.gh
  have nlp:¬ Xo (w.heap.size+1):=fun h=>(g2 _ h).2.1 rfl
  refine⟨none,W2.putObj (w.heap.size+1) (.loop { rec .ready none with state:=.exhausted }),by rw [h8] at a7 ⊢; exact a7,β1,l1,[],kf ys.length s,?_,c3 s hI⟩
  have sw:=G10 (β:=β1) (L:=[]) (o':=.loop { rec .ready none with state:=.exhausted }) hb.loop (by simp) (by simp) (fun id h=>by simp [lk] at h)
  have oldW:=hb.old
  refine⟨Hab fun b i hh=>by rw [World.putObj_size]; exact hb.sat.hid b i hh,⟨fun t=>(hb.frame.tmp t).stepW sw⟩,hs.size,?_,by rw [World.putObj_size]; omega,fun id b h=>by simp [lk] at h,
   ⟨Xo,To,hE.abide _ Xo To W2 _ g1 ⟨rfl,rfl,⟨rfl,M1⟩,by rw [World.putObj_size]; exact M1,fun b a0 hn=>World.putObj_heap_other fun e=>hn ⟨hE.frW b (by omega),fun hx=>nlp (by rw [← e]; exact hx)⟩⟩ (fun b i _=>G92 hb.loop (by simp) (by simp) b i),fun b hx=>⟨by rw [World.putObj_size]; exact hb.lt b (g2 b hx).1,(g2 b hx).2.2.2⟩,fun b i h=>(sw.stab b i (g3 b i h)).1,fun id b h=>by simp [lk] at h,fun d hd D' e hx=>?_⟩,fun b i h=>hb.vis b i (G11.2 ⟨by have:=h.lt; rwa [World.putObj_size] at this,h.seen⟩)⟩
  ·rw [b3]
   refine⟨fun h=>(by cases h),List.nodup_cons.2 ⟨fun h=>?_,hb.defs.nodup⟩,fun d hd=>?_⟩
   ·have:=b2 _ h _ rfl; omega
   ·rcases Mg.1 hd with rfl | hd
    ·exact⟨_,rfl,s1,(World.putObj_heap_other (by omega)).trans hb.mark,fun id h=>by simp [lk] at h⟩
    ·obtain⟨D',e,h1,h2,h3⟩:=hb.defs.each d hd
     refine⟨D',e,h1,(World.putObj_heap_other fun e2=>?_).trans h2,fun id h=>by simp [lk] at h⟩
     rw [e2,hb.loop] at h2; cases h2
  ·rcases Mg.1 hd with rfl | hd
   ·have e3:w.heap.size=D':=by injection e with e3; injection e3
    exact(g2 D' hx).2.2.1 e3.symm
   ·exact g4 d hd D' e hx
theorem Q10 {t kk:Nat} {κ:Type} {E:G0b κ} {P:Program} {N:Cfg} {gop:Operand} {ps:List Tmp} {assign body:Code} {Q:G5a κ} {l:Fr} {L:Loc} {k:κ} (l1:Fr) {gf:FuncId} {caps:List AV} (ys:List (List AV)) {σ:Type} (I:Nat→σ→Prop) (kf:Nat→σ→κ) (s0:σ)
  (hE:E.Ok P) (h2:N.ro=none) (hg:ev l gop=.fn gf caps) (h3:Qn (fun _=>false) caps=true) (hB:Hh P gf=true) (h4:Q43 P gf caps t kk ys) (h0:I 0 s0) (hk:k=kf 0 s0) (hf:Fits N.base l L l1 [])
  (h5:∀ us∈ys,ps.length=us.length) (h6:∀ p∈ps,p < N.n)
  (hr:∀ i us s,ys[i]? = some us→I i s→∀ (lr:Nat) (K:Fr→Loc→κ→Prop),(∀ l L s',I (i+1) s'→K l L (kf (i+1) s'))→∀ E1:G0b κ,E1.Ok P→(E1.nx=E.nx∧E1.gv=E.gv)→E1.lp=E.lp →
   JI E1 P ⟨N.n,[],some lr⟩ assign ⟨fun l2 L2 k2=>∀ E2:G0b κ,E2.Ok P→(E2.nx=E.nx∧E2.gv=E.gv)→E2.lp=E.lp→JI E2 P ⟨N.n,[],some lr⟩ body ⟨K,fun _ _ _=>False,fun _ _ _ _=>False⟩ l2 L2 k2,fun _ _ _=>False,fun _ _ _ _=>False⟩ (G80 ps us l1) [] (kf i s))
  (h1:∀ s,I ys.length s→Q.norm l1 [] (kf ys.length s)):JI E P N (.rangeFunc gop ps.toArray assign body) Q l L k:=
 Hd0 l1 ys I kf s0 hE h2 hg h3 hB h4 h0 hk hf h5 h6 hr h1

theorem Z9.cfg {P:Program} {N N':Cfg} (e:N'.n=N.n) {ops:Array Oper} {ws los his:List Nat} {Ls:List Loc} {K:Fr→Prop}:∀ {r:List Oper} {i:Nat} {l:Fr},Z9 P N ops ws los his Ls i r l K→Z9 P N' ops ws los his Ls i r l K:=by
 have hO:∀ o l L u L',G04 P N ops o l L u L'→G04 P N' ops o l L u L':=fun o l L u L' h a w β K Q h1 h2 h3=>h a w β K Q h1 h2 (by rw [← e]; exact h3)
 have hA:∀ o l u (Xs:List Loc),H29 (fun L=>G04 P N ops o l L u L) Xs→H29 (fun L=>G04 P N' ops o l L u L) Xs:=by
  intro o l u Xs
  induction Xs with
  | nil=>exact id
  | cons X Xs ih=>exact fun h=>⟨hO _ _ _ _ _ h.1,ih h.2⟩
 intro r
 induction r with
 | nil=>exact fun h=>h
 | cons o r ih=>
  intro i l h
  obtain⟨u,h1,h2⟩:=h
  refine⟨u,?_,?_⟩
  ·revert h1
   cases ws.idxOf? i with
   | some m=>rintro⟨L,L',h3,h4,h5⟩; exact⟨L,L',h3,h4,hO _ _ _ _ _ h5⟩
   | none=>exact hA _ _ _ _
  ·revert h2
   cases o.dst with
   | some d=>rintro⟨h3,h4⟩; exact⟨by rw [e]; exact h3,ih h4⟩
   | none=>exact fun h4=>ih h4
section
variable {κ:Type} {E:G0b κ} {P:Program} {N:Cfg} {Q:G5a κ} {l:Fr} {L L':Loc} {k:κ}
def H71 (N:Cfg) (L:Loc):Cfg:=⟨N.n,L.map (·.1),some 0⟩

theorem J8a {id:Nat}:∀ {L:Loc},(lk L id).isSome=true→id∈L.map (·.1):=by
 intro L
 induction L with
 | nil=>intro h; simp [lk] at h
 | cons x r ih=>
  intro h
  by_cases e:x.1=id
  ·simp [e]
  ·refine Me.2 ?_
   have:(lk r id).isSome=true:=by
    have hb:Nat.beq x.1 id=false:=by
     cases hb:Nat.beq x.1 id with
     | false=>rfl
     | true=>exact absurd (Ko hb) e
    obtain⟨a,b⟩:=x
    simp only [lk,hb,cond_false] at h
    exact h
   obtain⟨y,hy,e⟩:=Me.1 (ih this)
   exact⟨y,List.mem_cons_of_mem _ hy,e⟩

theorem StI.stok {a:Act} {w:World} {β:Gu} (h:StI E N a w β l L k):R1 (H71 N L) w β L { a with defers:=[] } w β l L:=
 ⟨h.sat,Step.refl _ _ _,⟨fun t=>h.frame.tmp t⟩,h.size,fun _ h=>J8a h,G54.nil⟩
theorem StI.after {a a':Act} {w w':World} {β β':Gu} {l':Fr} {L':Loc} (hE:E.Ok P) (h:StI E N a w β l L k) (h':R1 (H71 N L) w β L a' w' β' l' L'):StI E N { a' with defers:=a'.defers++a.defers } w' β' l' L' k:=by
 have h0:=h'.step
 have hd:a'.defers=[]:=h'.defers.top rfl
 rw [hd,List.nil_append]
 refine⟨h'.sat,⟨fun t=>h'.frame.tmp t⟩,h'.size,h.defers.step h0,Nat.le_trans h.old h0.size,fun id b h1 h2=>?_,?_,fun b i hn=>h.visStep hE h0 hn⟩
 ·have old':=h.old
  rcases Kq b w.heap.size with hb | hb
  ·refine Classical.byContradiction fun hn=>?_
   have:∀ id0,(lk L id0).isSome=true→β id0≠some b:=fun id0 h3 h4=>hn (h.own id0 b h3 h4)
   exact(h0.far b hb this).2 id h1 h2
  ·exact hE.frW b (by omega)
 ·obtain⟨X,T,hJ,hX,hT,h5,h6⟩:=h.gh
  refine⟨X,T,hE.abide k X T w w' hJ ⟨h0.os,h0.tape,h0.output,h0.size,fun b hb hn=>(h0.far b hb fun id h1 h2=>?_).1⟩ (fun b i h=>(h0.stab b i (hT b i h)).2),fun b hb=>⟨Km (hX b hb).1 h0.size,fun i hn=>(h0.hid b i (hX b hb).1).2 ((hX b hb).2 i hn)⟩,fun b i h=>(h0.stab b i (hT b i h)).1,fun id b h1 h2 hx=>?_,h6⟩
  ·exact hn ⟨h.own id b h1 h2,fun hx=>h5 id b h1 h2 hx⟩
  ·exact(h0.far b (hX b hx).1 fun id0 h3 h4=>h5 id0 b h3 h4 hx).2 id h1 h2
end

/-! ### What is deferred does not matter to a region -/
section defers
variable {F:Fence} {n:Nat} {P:Program}
theorem Act.put_app (a:Act) (d:Option Tmp) (v:Value) (ds:List Deferred):({ a with defers:=a.defers++ds }:Act).put d v={ a.put d v with defers:=(a.put d v).defers++ds }:=by cases d <;> rfl
theorem Act.eval_app (a:Act) (ds:List Deferred):({ a with defers:=a.defers++ds }:Act).eval=a.eval:=by funext x; cases x <;> rfl
theorem Oper.uponIn_app {o:Oper} {a:Act} {ds:List Deferred} {K K':Act→World→Prop} {Q Q':Exit→Act→World→Prop} (hK:∀ a w,K a w→K' { a with defers:=a.defers++ds } w) (hQ:∀ e a w,Q e a w→Q' e { a with defers:=a.defers++ds } w)
  {r:Result Next} (h:o.uponIn F n P a K Q r):o.uponIn F n P { a with defers:=a.defers++ds } K' Q' r:=by
 have hL:LetsOut Q→LetsOut Q':=fun⟨a,w,h⟩=>⟨_,w,hQ _ a w h⟩
 cases r with
 | ok x w'=>
  cases x with
  | value v=>rw [Oper.uponIn_value] at h ⊢; rw [Act.put_app]; exact hK _ _ h
  | skip=>rw [Oper.uponIn_skip] at h ⊢; rw [Act.put_app]; exact hK _ _ h
  | defer d=>rw [Oper.uponIn_defer] at h ⊢; have:=hK _ _ h; rw [← Act.put_app] at this; exact this
  | enter f args=>
   rw [Oper.uponIn_enter] at h ⊢
   refine⟨h.1,h.2.mono fun e w h=>?_⟩
   cases e with
   | returned v=>simp only at h ⊢; rw [Act.put_app]; exact hK _ _ h
   | panicked c=>exact hQ _ a w h
   | outgrown=>exact hL h
  | row row args=>
   rw [Oper.uponIn_row] at h ⊢
   exact⟨h.1,h.2.mono fun v w h=>by rw [Act.put_app]; exact hK _ _ h⟩
  | round l f tmps assign body=>
   rw [Oper.uponIn_round] at h ⊢
   refine⟨h.1,h.2.mono fun e w h=>?_⟩
   cases e with
   | returned v=>simp only at h ⊢; rw [Act.put_app]; exact hK _ _ h
   | panicked c=>exact hQ _ a w h
   | outgrown=>exact hL h
  | _=>exact h.elim
 | halt x w'=>
  cases x with
  | panic v=>rw [Oper.uponIn_panic] at h ⊢; exact hQ _ a w' h
  | _=>exact h.elim
theorem Oper.uponIn_to {o:Oper} {a:Act} {K K':Act→World→Prop} {Q Q':Exit→Act→World→Prop} (hK:∀ a w,K a w→K' a w) (hQ:∀ e a w,e≠.normal→Q e a w→Q' e a w)
  {r:Result Next} (h:o.uponIn F n P a K Q r):o.uponIn F n P a K' Q' r:=by
 have hL:LetsOut Q→LetsOut Q':=fun⟨a,w,h⟩=>⟨_,w,hQ _ a w (by intro h; cases h) h⟩
 cases r with
 | ok x w'=>
  cases x with
  | value v=>rw [Oper.uponIn_value] at h ⊢; exact hK _ _ h
  | skip=>rw [Oper.uponIn_skip] at h ⊢; exact hK _ _ h
  | defer d=>rw [Oper.uponIn_defer] at h ⊢; exact hK _ _ h
  | enter f args=>
   rw [Oper.uponIn_enter] at h ⊢
   refine⟨h.1,h.2.mono fun e w h=>?_⟩
   cases e with
   | returned v=>exact hK _ _ h
   | panicked c=>exact hQ _ a w (by intro h; cases h) h
   | outgrown=>exact hL h
  | row row args=>
   rw [Oper.uponIn_row] at h ⊢
   exact⟨h.1,h.2.mono fun v w h=>hK _ _ h⟩
  | round l f tmps assign body=>
   rw [Oper.uponIn_round] at h ⊢
   refine⟨h.1,h.2.mono fun e w h=>?_⟩
   cases e with
   | returned v=>exact hK _ _ h
   | panicked c=>exact hQ _ a w (by intro h; cases h) h
   | outgrown=>exact hL h
  | _=>exact h.elim
 | halt x w'=>
  cases x with
  | panic v=>rw [Oper.uponIn_panic] at h ⊢; exact hQ _ a w' (by intro h; cases h) h
  | _=>exact h.elim
theorem H7b {md:Region.Mode} {ops:Array Oper} {ds:List Deferred} {Q Q':Exit→Act→World→Prop} (hQ:∀ e a w,Q e a w→Q' e { a with defers:=a.defers++ds } w) :
  ∀ (fuel:Nat) (listed:Array Bool) (a:Act) (w:World),wpAnyIn F n P md ops Q fuel listed a w→wpAnyIn F n P md ops Q' fuel listed { a with defers:=a.defers++ds } w
 | 0,listed,a,w,h=>⟨h.1,hQ _ a w h.2⟩
 | fuel+1,listed,a,w,h=>by
  refine⟨fun e=>hQ _ a w (h.1 e),fun i hi=>?_⟩
  have h2:=h.2 i hi
  have ih:=fun a w=>H7b (md:=md) (ops:=ops) hQ fuel (listed.setIfInBounds i true) a w
  unfold wpOpIn at h2 ⊢
  split at h2
  ·exact ih a w h2
  ·rename_i o ho
   by_cases hw:Region.wanted o (yielded ops a.tmps)=true
   ·rw [if_pos hw] at h2 ⊢
    unfold Oper.wpIn at h2 ⊢
    rw [Act.eval_app]
    exact⟨h2.1,Oper.uponIn_app ih hQ h2.2⟩
   ·rw [if_neg hw] at h2 ⊢
    rw [Act.eval_app,Act.put_app]
    exact⟨h2.1,ih _ w h2.2⟩
end defers

/-! ### An open order of which the end is fixed -/
section split
variable {F:Fence} {n:Nat} {P:Program}
def G59 (o:Oper) (j:Nat):Bool:=o.after.any fun e=>Region.binds .any e&&Nat.beq e.on j
def H85 (ops:List Oper) (p:Nat):Bool:=
 Nat.ble p ops.length &&
 (List.range ops.length).all fun i=>((ops[i]?).map fun o=>
  (bif Nat.blt i p then o.after.all (fun e=>Nat.blt e.on i)&&(match o.guard with | none=>true | some (j,_)=>Nat.blt j p)&&(((ops[p]?).map fun q=>G59 q i).getD true||(List.range p).any fun m=>Nat.blt i m&&((ops[m]?).map fun q=>G59 q i).getD false)
  else o.after.all (fun e=>Nat.blt e.on i)&&(Nat.beq i p||G59 o (i - 1)))).getD true

theorem mem_ready {ops:Array Oper} {A:Array Bool} {i:Nat}:i∈Region.ready .any ops A ↔ i < ops.size∧A.getD i true=false∧∃ o,ops[i]? = some o∧∀ e∈o.after,Region.binds .any e=true→A.getD e.on false=true:=by
 unfold Region.ready
 rw [Mh,List.mem_range]
 refine and_congr_right fun hi=>?_
 have ho:ops[i]? = some ops[i]:=by simp [hi]
 rw [ho]
 simp only [Option.map_some,Option.getD_some,Ma,Bool.not_eq_true',Array.all_eq_true',Mi]
 refine and_congr_right fun _=>⟨fun h=>⟨_,rfl,fun e he hb=>(h e he).elim (fun h=>by rw [hb] at h; cases h) fun h=>h⟩,?_⟩
 rintro⟨o,h1,h2⟩ e he
 cases h1
 cases hb:Region.binds .any e with
 | false=>exact .inl rfl
 | true=>exact .inr (h2 e he hb)

structure H69 (ops:List Oper) (p:Nat):Prop where
 le:p≤ops.length
 low:∀ (i:Nat) (o:Oper),ops[i]? = some o→∀ e∈o.after,e.on < i
 guard:∀ (i:Nat) (o:Oper) (j:Nat) (b:Bool),i < p→ops[i]? = some o→o.guard=some (j,b)→j < p
 cover:∀ i:Nat,i < p→p < ops.length→(∃ q:Oper,ops[p]? = some q∧G59 q i=true)∨∃ (m:Nat) (q:Oper),i < m∧m < p∧ops[m]? = some q∧G59 q i=true
 next:∀ (i:Nat) (o:Oper),p < i→ops[i]? = some o→G59 o (i - 1)=true
theorem Y07 {ops:List Oper} {p:Nat} (h:H85 ops p=true):H69 ops p:=by
 unfold H85 at h
 simp only [Ma,List.all_eq_true,List.mem_range] at h
 obtain⟨h0,h⟩:=h
 have key:∀ (i:Nat) (o:Oper),ops[i]? = some o→i < ops.length:=fun i o ho=>(Kw ho).1
 refine⟨Nat.le_of_ble_eq_true h0,fun i o ho e he=>?_,fun i o j b hi ho hg=>?_,fun i hi hp=>?_,fun i o hi ho=>?_⟩
 ·have:=h i (key i o ho)
  rw [ho] at this
  simp only [Option.map_some,Option.getD_some] at this
  cases hb:Nat.blt i p with
  | true=>
   rw [hb] at this
   simp only [cond_true,Ma,Array.all_eq_true'] at this
   simpa using this.1.1 e he
  | false=>
   rw [hb] at this
   simp only [cond_false,Ma,Array.all_eq_true'] at this
   simpa using this.1 e he
 ·have:=h i (key i o ho)
  rw [ho] at this
  simp only [Option.map_some,Option.getD_some] at this
  rw [show Nat.blt i p=true from by simpa using hi] at this
  simp only [cond_true,Ma,hg] at this
  simpa using this.1.2
 ·have h4:i < ops.length:=by omega
  have:=h i h4
  rw [Kx h4] at this
  simp only [Option.map_some,Option.getD_some] at this
  rw [show Nat.blt i p=true from by simpa using hi] at this
  simp only [cond_true,Ma,Mi,List.any_eq_true,List.mem_range] at this
  rcases this.2 with h1 | ⟨m,h1,h2,h3⟩
  ·rw [Kx hp] at h1
   exact .inl ⟨_,Kx hp,by simpa using h1⟩
  ·have hm:m < ops.length:=by omega
   rw [Kx hm] at h3
   exact .inr ⟨m,_,by simpa using h2,h1,Kx hm,by simpa using h3⟩
 ·have:=h i (key i o ho)
  rw [ho] at this
  simp only [Option.map_some,Option.getD_some] at this
  have hb:Nat.blt i p=false:=by
   cases hb:Nat.blt i p with
   | false=>rfl
   | true=>simp at hb; omega
  rw [hb] at this
  simp only [cond_false,Ma,Mi] at this
  rcases this.2 with h1 | h1
  ·have:=Ko h1; omega
  ·exact h1

structure Listed (ops:List Oper) (p:Nat) (A B:Array Bool):Prop where
 szA:A.size=ops.length
 szB:B.size=p
 eq:∀ i:Nat,i < p→A.getD i false=B.getD i false
 up:∀ i:Nat,p≤i→A.getD i false=false
 down:∀ (i:Nat) (o:Oper),i < p→A.getD i false=true→ops[i]? = some o→∀ e∈o.after,Region.binds .any e=true→A.getD e.on false=true

theorem H2c {A:Array Bool} {i:Nat} (h:i < A.size):A.getD i true=A.getD i false:=by simp [Array.getD,h]
theorem J17 {o:Oper} {j:Nat} (h:G59 o j=true):∃ e∈o.after,Region.binds .any e=true∧e.on=j:=by
 unfold G59 at h
 obtain⟨e,he,hh⟩:=Array.any_eq_true'.1 h
 rw [Ma] at hh
 exact⟨e,he,hh.1,Ko hh.2⟩

theorem Listed.set {ops:List Oper} {p:Nat} {A B:Array Bool} (h:Listed ops p A B) (hc:H69 ops p) {i:Nat} (hi:i < p) (hr:i∈Region.ready .any ops.toArray A):Listed ops p (A.setIfInBounds i true) (B.setIfInBounds i true):=by
 have hp:=hc.le
 have hA:∀ j,(A.setIfInBounds i true).getD j false=if j=i then true else A.getD j false:=fun j=>by
  by_cases e:j=i
  ·subst e
   have:j < A.size:=by rw [h.szA]; omega
   simp [Array.getD,this]
  ·simp only [if_neg e,Array.getD_eq_getD_getElem?,Array.getElem?_setIfInBounds_ne (Ne.symm e)]
 have hB:∀ j,(B.setIfInBounds i true).getD j false=if j=i then true else B.getD j false:=fun j=>by
  by_cases e:j=i
  ·subst e
   have:j < B.size:=by rw [h.szB]; omega
   simp [Array.getD,this]
  ·simp only [if_neg e,Array.getD_eq_getD_getElem?,Array.getElem?_setIfInBounds_ne (Ne.symm e)]
 refine⟨by simp [h.szA],by simp [h.szB],fun j hj=>by rw [hA,hB,h.eq j hj],fun j hj=>by rw [hA,if_neg (by omega),h.up j hj],fun j o hj hl ho e he hb=>?_⟩
 rw [hA]
 split
 ·rfl
 ·rw [hA] at hl
  by_cases ej:j=i
  ·subst ej
   obtain⟨_,_,o',h0,hd⟩:=mem_ready.1 hr
   rw [List.getElem?_toArray,ho] at h0
   cases h0
   exact hd e he hb
  ·rw [if_neg ej] at hl
   exact h.down j o hj hl ho e he hb

theorem Listed.ready_low {ops:List Oper} {p:Nat} {A B:Array Bool} (h:Listed ops p A B) (hc:H69 ops p) {i:Nat} (hi:i < p):i∈Region.ready .any ops.toArray A ↔ i∈Region.ready .any (ops.take p).toArray B:=by
 have hp:=hc.le
 have h0:i < ops.length:=by omega
 rw [mem_ready,mem_ready]
 have eo:(ops.take p).toArray[i]? = ops.toArray[i]? := by simp [hi]
 rw [eo,H2c (A:=A) (by rw [h.szA]; omega),H2c (A:=B) (by rw [h.szB]; omega),h.eq i hi]
 have dep:∀ o,ops.toArray[i]? = some o→∀ e∈o.after,e.on < p:=fun o ho e he=>by
  have:=hc.low i o (by simpa using ho) e he; omega
 constructor
 ·rintro⟨_,h2,o,h3,h4⟩
  exact⟨by simp; omega,h2,o,h3,fun e he hb=>by rw [← h.eq e.on (dep o h3 e he)]; exact h4 e he hb⟩
 ·rintro⟨_,h2,o,h3,h4⟩
  exact⟨by simpa using h0,h2,o,h3,fun e he hb=>by rw [h.eq e.on (dep o h3 e he)]; exact h4 e he hb⟩

theorem Listed.some_ready {ops:List Oper} {p:Nat} {A B:Array Bool} (h:Listed ops p A B) (hc:H69 ops p):∀ (m i:Nat),i≤m→i < p→A.getD i false=false→∃ j,j < p∧j∈Region.ready .any ops.toArray A
 | m,i,h2,hi,hl=>by
  have hp:=hc.le
  have h0:i < ops.length:=by omega
  by_cases hr:i∈Region.ready .any ops.toArray A
  ·exact⟨i,hi,hr⟩
  ·have ho:ops.toArray[i]? = some ops[i]:=by simp [h0]
   have:∃ e∈(ops[i]).after,Region.binds .any e=true∧A.getD e.on false=false:=by
    refine Classical.byContradiction fun hn=>hr (mem_ready.2 ⟨by simpa using h0,by rw [H2c (by rw [h.szA]; omega)]; exact hl,_,ho,fun e he hb=>?_⟩)
    cases hx:A.getD e.on false with
    | true=>rfl
    | false=>exact(hn ⟨e,he,hb,hx⟩).elim
   obtain⟨e,he,_,hx⟩:=this
   have h1:=hc.low i ops[i] (by simp [h0]) e he
   cases m with
   | zero=>omega
   | succ m=>exact Listed.some_ready h hc m e.on (by omega) (by omega) hx
theorem Listed.high {ops:List Oper} {p:Nat} {A B:Array Bool} (h:Listed ops p A B) (hc:H69 ops p) {i:Nat} (hi:p≤i) (hr:i∈Region.ready .any ops.toArray A):∀ j,j < p→A.getD j false=true:=by
 have hp:=hc.le
 obtain⟨h1,_,o,h3,h4⟩:=mem_ready.1 hr
 have h8:i < ops.length:=by simpa using h1
 have h2:ops[i]? = some o:=by simpa using h3
 have h9:i=p:=by
  rcases Nat.lt_or_eq_of_le hi with a0 | h
  ·obtain⟨e,he,hb,ho⟩:=J17 (hc.next i o a0 h2)
   have:=h4 e he hb
   rw [ho,h.up (i - 1) (by omega)] at this; cases this
  ·exact h.symm
 subst h9
 have key:∀ (d j:Nat),i - j≤d→j < i→A.getD j false=true:=by
  intro d
  induction d with
  | zero=>intro j h5 h6; omega
  | succ d ih=>
   intro j h5 h6
   rcases hc.cover j h6 h8 with ⟨q,hq,h0⟩ | ⟨m,q,a1,h7,hq,h0⟩
   ·rw [h2] at hq; cases hq
    obtain⟨e,he,hb,ho⟩:=J17 h0
    rw [← ho]; exact h4 e he hb
   ·obtain⟨e,he,hb,ho⟩:=J17 h0
    rw [← ho]
    exact h.down m q h7 (ih m (by omega) h7) hq e he hb
 exact fun j hj=>key i j (by omega) hj

theorem Qe1 {ops:List Oper} {p:Nat} {Q:Exit→Act→World→Prop} (hc:H69 ops p):∀ (fuel k:Nat) (A:Array Bool) (a:Act) (w:World),p≤k→k≤ops.length→ops.length - k≤fuel→A.size=ops.length→(∀ i,i < ops.length→A.getD i false=decide (i < k))→wpListIn F n P ops.toArray Q (ops.drop k) a w→wpAnyIn F n P .any ops.toArray Q fuel A a w:=by
 intro fuel
 induction fuel with
 | zero=>
  intro k A a w h1 h2 h3 h4 h5 h
  have hk:k=ops.length:=by omega
  subst hk
  rw [List.drop_length] at h
  refine⟨?_,h⟩
  refine List.eq_nil_iff_forall_not_mem.2 fun i hi=>?_
  obtain⟨g1,g2,_⟩:=mem_ready.1 hi
  have g1':i < ops.length:=by simpa using g1
  rw [H2c (by omega),h5 i g1',Ku g1'] at g2; cases g2
 | succ fuel ih=>
  intro k A a w h1 h2 h3 h4 h5 h
  rcases Nat.lt_or_eq_of_le h2 with h0 | rfl
  ·have ho:ops[k]? = some ops[k]:=Kx h0
   have h7:k∈Region.ready .any ops.toArray A:=mem_ready.2 ⟨by simpa using h0,by rw [H2c (by omega),h5 k h0]; simp,ops[k],by simp [h0],fun e he hb=>by
    have hl:=hc.low k _ ho e he
    rw [h5 e.on (by omega)]; exact Ku hl⟩
   refine⟨fun e=>(by rw [e] at h7; cases h7),fun i hi=>?_⟩
   have h8:i=k:=by
    obtain⟨g1,g2,o,g3,g4⟩:=mem_ready.1 hi
    have g1':i < ops.length:=by simpa using g1
    have h9:k≤i:=by
     refine Nat.le_of_not_lt fun h6=>?_
     rw [H2c (by omega),h5 i g1',Ku h6] at g2; cases g2
    rcases Nat.lt_or_eq_of_le h9 with h6 | e
    ·obtain⟨e,he,hb,a0⟩:=J17 (hc.next i o (by omega) (by simpa using g3))
     have:=g4 e he hb
     rw [a0,h5 (i - 1) (by omega)] at this
     have:=Ks this; omega
    ·exact e.symm
   subst h8
   rw [List.drop_eq_getElem_cons h0] at h
   have a1:ops.toArray[i]? = some ops[i]:=by simp [h0]
   unfold wpOpIn
   rw [a1]
   simp only [wpListIn] at h
   have nx:∀ a w,wpListIn F n P ops.toArray Q (ops.drop (i+1)) a w→wpAnyIn F n P .any ops.toArray Q fuel (A.setIfInBounds i true) a w:=fun a w h'=>by
    refine ih (i+1) _ a w (by omega) h0 (by omega) (by simpa using h4) (fun j hj=>?_) h'
    by_cases e:j=i
    ·subst e
     have a2:j < A.size:=by omega
     simp [Array.getD,a2]
    ·simp only [Array.getD_eq_getD_getElem?,Array.getElem?_setIfInBounds_ne (Ne.symm e)]
     rw [← Array.getD_eq_getD_getElem?,h5 j hj]
     simp only [decide_eq_decide]; omega
   split at h
   ·rename_i hw
    simp only [hw,if_true]
    exact Oper.wpIn_mono nx h
   ·rename_i hw
    simp only [hw]
    exact⟨h.1,nx _ _ h.2⟩
  ·rw [List.drop_length] at h
   have hn:Region.ready .any ops.toArray A=[]:=List.eq_nil_iff_forall_not_mem.2 fun i hi=>by
    obtain⟨g1,g2,_⟩:=mem_ready.1 hi
    have g1':i < ops.length:=by simpa using g1
    rw [H2c (by omega),h5 i g1',Ku g1'] at g2; cases g2
   refine⟨fun _=>h,fun i hi=>by rw [hn] at hi; cases hi⟩

theorem Q7d {ops:List Oper} {p:Nat} {Q Q':Exit→Act→World→Prop} (hc:H69 ops p) (hN:∀ a w,Q' .normal a w→wpListIn F n P ops.toArray Q (ops.drop p) a w) (hX:∀ e a w,e≠.normal→Q' e a w→Q e a w) :
  ∀ (fB:Nat) (A B:Array Bool) (a:Act) (w:World),Listed ops p A B→wpAnyIn F n P .any (ops.take p).toArray Q' fB B a w→wpAnyIn F n P .any ops.toArray Q (fB+(ops.length - p)) A a w:=by
 have hp:=hc.le
 have fin:∀ (f:Nat) (A B:Array Bool) (a:Act) (w:World),ops.length - p≤f→Listed ops p A B→Region.ready .any (ops.take p).toArray B=[]→Q' .normal a w→wpAnyIn F n P .any ops.toArray Q f A a w:=fun f A B a w hf hl hr hq=>by
  refine Qe1 hc f p A a w (M1) hp hf hl.szA (fun i hi=>?_) (hN a w hq)
  rcases Kq i p with h | h
  ·rw [Ku h]
   cases hx:A.getD i false with
   | true=>rfl
   | false=>
    obtain⟨j,h1,h2⟩:=hl.some_ready hc i i (M1) h hx
    have:=(hl.ready_low hc h1).1 h2
    rw [hr] at this; cases this
  ·rw [hl.up i h,Kv (by omega)]
 intro fB
 induction fB with
 | zero=>intro A B a w hl h; exact fin _ A B a w (by omega) hl h.1 h.2
 | succ fB ih=>
  intro A B a w hl h
  by_cases hr:Region.ready .any (ops.take p).toArray B=[]
  ·exact fin _ A B a w (by omega) hl hr (h.1 hr)
  ·obtain⟨j,hj⟩:=List.exists_mem_of_ne_nil _ hr
   have h3:j < p:=by have:=(mem_ready.1 hj).1; simp at this; omega
   rw [show fB+1+(ops.length - p)=(fB+(ops.length - p))+1 by omega]
   refine⟨fun e=>?_,fun i hi=>?_⟩
   ·have:=(hl.ready_low hc h3).2 hj
    rw [e] at this; cases this
   ·have h0:i < p:=by
     refine Nat.lt_of_not_le fun h6=>?_
     have h5:=hl.high hc h6 hi
     have:=(mem_ready.1 hj).2.1
     rw [H2c (by rw [hl.szB]; omega),← hl.eq j h3,h5 j h3] at this; cases this
    have h2:=h.2 i ((hl.ready_low hc h0).1 hi)
    have h4:i < ops.length:=by omega
    have e1:(ops.take p).toArray[i]? = some ops[i]:=by simp [h0,h4]
    have e2:ops.toArray[i]? = some ops[i]:=by simp [h4]
    have ew:∀ tm,Region.wanted ops[i] (yielded (ops.take p).toArray tm)=Region.wanted ops[i] (yielded ops.toArray tm):=fun tm=>by
     unfold Region.wanted
     cases hg:(ops[i]).guard with
     | none=>rfl
     | some q=>
      obtain⟨j,b⟩:=q
      have hj:=hc.guard i ops[i] j b h0 (by simp [h4]) hg
      have:yielded (ops.take p).toArray tm j=yielded ops.toArray tm j:=by
       unfold yielded
       rw [show (ops.take p).toArray[j]? = ops.toArray[j]? by simp [hj]]
      simp only [this]
    unfold wpOpIn at h2 ⊢
    rw [e1] at h2
    rw [e2]
    simp only [ew] at h2 ⊢
    have nx:=fun a w=>ih (A.setIfInBounds i true) (B.setIfInBounds i true) a w (hl.set hc h0 hi)
    split at h2
    ·rename_i hw
     simp only [hw,if_true]
     unfold Oper.wpIn at h2 ⊢
     refine⟨h2.1,Oper.uponIn_to nx hX h2.2⟩
    ·rename_i hw
     simp only [hw]
     exact⟨h2.1,nx _ _ h2.2⟩
end split
section
variable {κ:Type} {E:G0b κ} {P:Program} {N:Cfg} {Q:G5a κ} {l:Fr} {L L':Loc} {k:κ}
theorem Re8 {ops:List Oper} {id:Nat} (hm:P.follows .mixedOrders=true) (hE:E.Ok P) (h:∀ (n:Nat) a w β,R1 (H71 N L) w β L a w β l L→wpAnyIn (FR N.ro) n P .any ops.toArray ((⟨fun l L=>Q.norm l L k,fun _ _=>False,fun _ _ _=>False⟩:Post).out (H71 N L) w β L) ops.length (Array.replicate ops.length false) a w.drew):JI E P N (.region id ops.toArray true) Q l L k:=by
 intro n a w β hs
 refine wpIn_region_any hm ?_
 rw [List.size_toArray]
 refine H7b (ds:=a.defers) (fun e a' w' q=>?_) _ _ { a with defers:=[] } _ (h n { a with defers:=[] } w β hs.stok)
 cases e with
 | normal=>obtain⟨β',l',L',h1,h2⟩:=q; exact⟨β',l',L',k,hs.after hE h1,h2⟩
 | ret=>obtain⟨β',l',L',h1,h2⟩:=q; exact h2.elim
 | exit i=>obtain⟨β',l',L',h1,h2⟩:=q; exact h2.elim
 | _=>exact q.elim

theorem Qc8 {ops:List Oper} {K:Fr→Loc→Prop} (ws los his:List Nat) (Ls:List Loc) (chk:Gd0 ops ws los his=true) (h0:Ls[0]? = some L) (h1:Ls[ws.length]? = some L')
  (h:Z9 P N ops.toArray ws los his Ls 0 ops l (fun l'=>K l' L')) (h2:ops.all Zn=true) (n:Nat) (a:Act) (w:World) (β:Gu) (hs:R1 (H71 N L) w β L a w β l L):wpAnyIn (FR N.ro) n P .any ops.toArray ((⟨K,fun _ _=>False,fun _ _ _=>False⟩:Post).out (H71 N L) w β L) ops.length (Array.replicate ops.length false) a w.drew:=by
 have hc:=h.cfg (N:=N) (N':=H71 N L) rfl
 obtain⟨val,pc,hK⟩:=Haf ops ws los his Ls l _ ops.length (M1) (fun j o d hj ho _=>by have:=(Kw ho).1; omega) ops 0 (fun _=>.junk) (fun j _=>by simp) (by simp) (fun j o hj=>by omega) hc
 refine J3c (ro:=N.ro) (n:=n) (fun i o hi=>List.all_eq_true.1 h2 o (Kz hi)) chk pc (.inl ⟨rfl,fun L'' hL''=>by rw [h1] at hL''; cases hL''; exact hK⟩) ops.length (Array.replicate ops.length false) a _ ?_ (by simp only [Array.getD_eq_getD_getElem?,Array.getElem?_replicate]; split <;> rfl) ⟨by simp,⟨fun i o e hi=>?_⟩,β,L,?_,?_⟩
 ·exact Nat.le_trans (Kp _ _) (by simp)
 ·simp only [Array.getD_eq_getD_getElem?,Array.getElem?_replicate] at hi
  split at hi <;> simp at hi
 ·have:cnt (fun i=>(Array.replicate ops.length false).getD i false) ws=0:=by
   unfold cnt
   have hf:∀ i,(Array.replicate ops.length false).getD i false=false:=fun i=>by
    simp only [Array.getD_eq_getD_getElem?,Array.getElem?_replicate]; split <;> rfl
   simp [hf]
  rw [this]; exact h0
 ·have this:Yg ops l val (fun i=>(Array.replicate ops.length false).getD i false) ops.length=l:=by
   have hf:(fun i=>(Array.replicate ops.length false).getD i false)=fun _=>false:=by
    funext i
    simp only [Array.getD_eq_getD_getElem?,Array.getElem?_replicate]; split <;> rfl
   rw [hf]
   have:∀ n,Yg ops l val (fun _=>false) n=l:=by
    intro n
    induction n with
    | zero=>rfl
    | succ n ih=>
     cases hd:(ops[n]?).bind (·.dst) with
     | none=>simp only [Yg,hd]; exact ih
     | some d=>simp only [Yg,hd,Bool.false_eq_true,if_false]; exact ih
   exact this _
  rw [this]; exact hs.drew

theorem R6b {ops:List Oper} {id:Nat} (ws los his:List Nat) (Ls:List Loc) (hE:E.Ok P) (hm:P.follows .mixedOrders=true) (chk:Gd0 ops ws los his=true) (h0:Ls[0]? = some L) (h1:Ls[ws.length]? = some L')
  (h:Z9 P N ops.toArray ws los his Ls 0 ops l (fun l'=>Q.norm l' L' k)) (h2:ops.all Zn=true:=by rfl):JI E P N (.region id ops.toArray true) Q l L k:=
 Re8 hm hE fun n a w β hs=>Qc8 (K:=fun l L=>Q.norm l L k) ws los his Ls chk h0 h1 h h2 n a w β hs

theorem Y21 {ops pre rest:List Oper} {id:Nat} (h0:pre++rest=ops) (hm:P.follows .mixedOrders=true) (hE:E.Ok P) (hc:H85 ops pre.length=true)
  (h:∀ (n:Nat) a w β,R1 (H71 N L) w β L a w β l L→wpAnyIn (FR N.ro) n P .any pre.toArray ((⟨fun l L=>JIL E P N ops.toArray rest Q l L k,fun _ _=>False,fun _ _ _=>False⟩:Post).out (H71 N L) w β L) pre.length (Array.replicate pre.length false) a w.drew):JI E P N (.region id ops.toArray true) Q l L k:=by
 intro n a w β hs
 refine wpIn_region_any hm ?_
 rw [List.size_toArray]
 have h3:=Y07 hc
 have h4:ops.take pre.length=pre:=by rw [← h0]; simp
 have h5:ops.drop pre.length=rest:=by rw [← h0]; simp
 have key:=Q7d (F:=FR N.ro) (n:=n) (P:=P) (Q:=Q.out E N) (Q':=fun e a' w'=>e=.normal∧wpListIn (FR N.ro) n P ops.toArray (Q.out E N) rest a' w') h3 (fun a w h=>by rw [h5]; exact h.2) (fun e a w he h=>(he h.1).elim) pre.length (Array.replicate ops.length false) (Array.replicate pre.length false) a w.drew
  ⟨by simp,by simp,fun i hi=>?_,fun i hi=>?_,fun i o hi hl=>?_⟩ ?_
 ·have:=h3.le
  rwa [show pre.length+(ops.length - pre.length)=ops.length by omega] at key
 ·have e1:(Array.replicate ops.length false).getD i false=false:=by simp only [Array.getD_eq_getD_getElem?,Array.getElem?_replicate]; split <;> rfl
  have e2:(Array.replicate pre.length false).getD i false=false:=by simp only [Array.getD_eq_getD_getElem?,Array.getElem?_replicate]; split <;> rfl
  rw [e1,e2]
 ·simp only [Array.getD_eq_getD_getElem?,Array.getElem?_replicate]; split <;> rfl
 ·simp only [Array.getD_eq_getD_getElem?,Array.getElem?_replicate] at hl
  split at hl <;> simp at hl
 ·rw [h4]
  refine H7b (ds:=a.defers) (fun e a' w' q=>?_) _ _ { a with defers:=[] } _ (h n { a with defers:=[] } w β hs.stok)
  cases e with
  | normal=>obtain⟨β',l',L',h1,h2⟩:=q; exact⟨rfl,h2 n _ w' β' (hs.after hE h1)⟩
  | ret=>obtain⟨β',l',L',h1,h2⟩:=q; exact h2.elim
  | exit i=>obtain⟨β',l',L',h1,h2⟩:=q; exact h2.elim
  | _=>exact q.elim
theorem Re7 {ops:List Oper} (pre rest:List Oper) {id:Nat} (ws los his:List Nat) (Ls:List Loc) (hE:E.Ok P) (hm:P.follows .mixedOrders=true) (h2:pre++rest=ops) (hc:H85 ops pre.length=true) (chk:Gd0 pre ws los his=true) (h0:Ls[0]? = some L) (h1:Ls[ws.length]? = some L')
  (h:Z9 P N pre.toArray ws los his Ls 0 pre l (fun l'=>JIL E P N ops.toArray rest Q l' L' k)) (h3:pre.all Zn=true:=by rfl):JI E P N (.region id ops.toArray true) Q l L k:=
 Y21 h2 hm hE hc fun n a w β hs=>Qc8 (K:=fun l L=>JIL E P N ops.toArray rest Q l L k) ws los his Ls chk h0 h1 h h3 n a w β hs
theorem Rb1 {ops:List Oper} (p:Nat) {id:Nat} (ws los his:List Nat) (Ls:List Loc) (hE:E.Ok P) (hm:P.follows .mixedOrders=true) (hc:H85 ops (ops.take p).length=true) (chk:Gd0 (ops.take p) ws los his=true) (h0:Ls[0]? = some L) (h1:Ls[ws.length]? = some L')
  (h:Z9 P N (ops.take p).toArray ws los his Ls 0 (ops.take p) l (fun l'=>JIL E P N ops.toArray (ops.drop p) Q l' L' k)) (h2:(ops.take p).all Zn=true:=by rfl):JI E P N (.region id ops.toArray true) Q l L k:=
 Re7 (ops.take p) (ops.drop p) ws los his Ls hE hm (List.take_append_drop p ops) hc chk h0 h1 h h2
end

theorem Rc0 {P:Program} {o:Oper} {l:Fr} {L L0:Loc} {i ver k n t:Nat} {xs:List AV} (h:Gz P o l L (Is (.vec i ver k n) ((i,.vec t k ver xs)::L0))):Gz P o l L (Is (.list k xs) ((i,.vec t k (ver+1) [])::L0)):=by
 intro a w β K Q h8 a0 hK
 refine h a w β K Q h8 a0 ?_
 rintro u L' v w' β' ⟨rfl,rfl⟩ sat' st' hv
 have hi:lk ((i,Je.vec t k ver xs)::L0) i=some (.vec t k ver xs):=by rw [Gd,if_pos rfl]
 have h0:G98 ((i,Je.vec t k (ver+1) [])::(i,Je.vec t k ver xs)::L0) ((i,.vec t k (ver+1) [])::L0):=fun id=>by
  rw [Gd,Gd,Gd]
  by_cases e:i=id
  ·rw [if_pos e,if_pos e]
  ·rw [if_neg e,if_neg e,if_neg e]
 obtain⟨rfl,hk,h⟩:=G37 sat' hi hv
 obtain⟨st,sat⟩:=Qu (w':=w') (t:=t) (k:=k) (ver1:=ver+1) (xs':=[]) (ob':=none) sat' (.inr ⟨ver,xs,hi,by omega,fun e=>by omega⟩) rfl rfl ⟨rfl,M1⟩ (M1) (fun _ _ _=>rfl) (.inl rfl)
 have sat2:=sat ⟨by simp,.inl ⟨rfl,rfl⟩⟩
 have st2:=(st'.trans st).locEq h0
 refine hK _ _ v w' _ ⟨rfl,rfl⟩ (sat2.locEq h0) st2 ?_
 have stl:=st.locEq h0
 rcases h with ⟨e,rfl,_⟩ | ⟨b,cap,vs,e,hb,h1,h2,h3,h4,h5⟩
 ·rw [e]; exact .data (.nil (Nat.zero_le _))
 ·rw [e]
  have h6:∀ q,q < (flat xs).length→q < vs.size:=fun q hq=>by
   rw [J0 hk] at hq
   have:=Nat.mul_le_mul_right k h1
   omega
  refine .data (.list (fun q=>vs.getD q undef) h1 h2 hk (fun q hq=>⟨⟨(Kk h3).1,sat'.apart i b _ (by rw [hi]; rfl) hb,fun id o ho h7=>?_⟩,?_⟩) (fun q u hu=>?_))
  ·rw [Gd] at ho
   by_cases e:i=id
   ·subst e; simp [upP] at h7
   ·rw [if_neg e] at ho
    have h9:β'.at_ id=some b:=by simpa [upP,Ne.symm e] using h7
    exact absurd (sat'.inj i id b (by rw [hi]; rfl) (by rw [Gd,if_neg e,ho]; rfl) hb h9) e
  ·have:=h6 q hq
   simp [World.cell?,h3,this]
  ·have hq:=(Kw hu).1
   have:=h6 q hq
   refine(h5 q u _ hu ?_).mono stl.stab
   simp [this]
end Go.Proofs.YtibhpogonkdiaaaGreat
