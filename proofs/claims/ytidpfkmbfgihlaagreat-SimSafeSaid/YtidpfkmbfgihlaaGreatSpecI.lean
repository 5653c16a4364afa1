/-
 What the functions return that range over maps: What iterators yield:
-/
import Derived.Test.YtidpfkmbfgihlaaGreatXA
set_option maxRecDepth 100000
namespace Go.Proofs.YtidpfkmbfgihlaaGreat
open Go.RowKit

theorem Jf5 (s:Gk) (r:Bool):Rel r (Gfd s (fun r_=>r_=r)) (H5f s):=by
 unfold Gfd H5f
 refine H9c (fun _=>Ja8) (fun _=>?_)
 refine Ja9 (fun x i s nx nx' h0=>?_) (fun s=>?_)
 ·refine Z1a (fun K K' hK=>H9c (fun _=>hK _) (fun _=>hK _)) (fun j=>?_)
  refine J3b (fun v=>Y23 (fun v=>J3b (fun q=>?_)))
  exact H9c (fun _=>Ja8) (fun _=>h0 _)
 ·refine Ja9 (fun x i s nx nx' h0=>?_) (fun s=>?_)
  ·refine H9c (fun _=>Ja8) (fun _=>?_)
   refine Ja9 (fun x i s nx nx' h0=>?_) (fun s=>h0 _)
   refine J3b (fun v=>J3b (fun v=>?_))
   exact H9c (fun _=>Ja8) (fun _=>J3b (fun v=>Y23 (fun v=>h0 _)))
  ·exact Yd8 (c:=fun x:Hh×Int=>decide (1 < x.2)) (e:=false) (e':=true)
abbrev Gb1:=H5f
def Qb1:=PLift.up (Qc0 Gb1 (fun s r h=>Jf5 s r h))

def J59 {α:Type} (r l:List α) (m:Option Unit) (g:Option (List α)):Prop:=g=some r→l <+: r∧m=some ()

theorem Ye7 {α β:Type} {r l:List α} {o:Option β} {m:β→Option Unit} {g:β→Option (List α)} (h:∀ v,J59 r l (m v) (g v)):J59 r l (bnd o m) (bnd o g):=by
 cases o with
 | none=>intro e; cases e
 | some v=>exact h v
theorem Ya9 {α:Type} {r l:List α} {b:Bool} {m:Option Unit} {g:Option (List α)} (h:J59 r l m g):J59 r l (need b m) (need b g):=by
 cases b with
 | false=>intro e; cases e
 | true=>exact h
theorem R96 {α β:Type} {r:List α} {b:β→Nat→Nat→(Nat→Option Unit)→Option Unit} {b':β→Nat→List α→(List α→Option (List α))→Option (List α)} {k:Nat→Option Unit} {k':List α→Option (List α)}
  (hb:∀ x i l nx nx',(∀ l',J59 r l' (nx l'.length) (nx' l'))→J59 r l (b x i l.length nx) (b' x i l nx')) (hk:∀ l,J59 r l (k l.length) (k' l)) (xs:List β):∀ (i:Nat) (l:List α),J59 r l (each b k xs i l.length) (each b' k' xs i l):=by
 induction xs with
 | nil=>intro i l; exact hk l
 | cons x xs ih=>intro i l; exact hb x i l _ _ (fun l'=>ih (i+1) l')
theorem Ya8 {α:Type} {r:List α} {b:Nat→Nat→(Nat→Option Unit)→Option Unit} {b':Nat→List α→(List α→Option (List α))→Option (List α)} {k:Nat→Option Unit} {k':List α→Option (List α)}
  (hb:∀ i l nx nx',(∀ l',J59 r l' (nx l'.length) (nx' l'))→J59 r l (b i l.length nx) (b' i l nx')) (hk:∀ l,J59 r l (k l.length) (k' l)) (n:Nat):∀ (i:Nat) (l:List α),J59 r l (upto b k n i l.length) (upto b' k' n i l):=by
 induction n with
 | zero=>intro i l; exact hk l
 | succ n ih=>intro i l; exact hb i l _ _ (fun l'=>ih (i+1) l')
theorem Y6f {α:Type} [DecidableEq α] {r l:List α} {x:α} {m:Option Unit} {g:Option (List α)} (h:J59 r (l++[x]) m g):J59 r l (need (decide (r[l.length]? = some x)) m) g:=by
 intro e
 obtain⟨hp,hm⟩:=h e
 refine⟨(List.prefix_append l [x]).trans hp,?_⟩
 obtain⟨t,rfl⟩:=hp
 have:((l++[x])++t)[l.length]? = some x:=by simp
 unfold need; rw [M1 this]; exact hm
theorem Ye6 {α:Type} {r l:List α}:J59 r l (need (decide (l.length=r.length)) (some ())) (some l):=by
 intro e; cases e
 refine⟨List.prefix_refl _,?_⟩
 unfold need; rw [M1 rfl]; rfl
theorem Ye5 {α:Type} {r:List α} {m:Option Unit} {g:Option (List α)} (h:J59 r [] m g) (e:g=some r):m=some ():=(h e).2

def Gf7 (p1:Gk) (p2:Int):Option (List Slot):=
 each (fun y2 i2 (s2:List Slot) nx2=>
  need (decide ((max y2.Tiers 0)≤9223372036854775807)) <|
  upto (fun i8 (s8:List Slot) nx8=>
   bnd (G4d p2) fun r14=>
   each (fun y29 _ (s29:List Slot) nx29=>nx29 (s29++[Slot.mk (i2:Int) (i8:Int) y29]))
   (fun(s29:List Slot)=>nx8 s29) r14 0 s8)
  (fun(s8:List Slot)=>nx2 s8) (max y2.Tiers 0).toNat 0 s2)
 (fun(s2:List Slot)=>some s2) p1.Columns 0 []
def Je8:=PLift.up (Jea Gf7 (fun s size r h=>Ye5 (by
 unfold Gfb
 refine R96 (fun y2 i2 s2 nx nx' h0=>?_) (fun s=>Ye6) _ 0 []
 refine Ya9 (Ya8 (fun i8 s8 nx nx' h0=>?_) (fun s=>h0 _) _ _ _)
 refine Ye7 (fun v=>?_)
 refine R96 (fun y29 i29 s29 nx nx' h0=>?_) (fun s=>h0 _) _ _ _
 refine Y6f ?_
 have:=h0 (s29++[Slot.mk (i2:Int) (i8:Int) y29])
 rw [Mf] at this
 exact this) h))
end Go.Proofs.YtidpfkmbfgihlaaGreat
