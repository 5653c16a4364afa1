/-
 What the functions return that range over maps: the order in which a map is ranged over does not matter. What iterators yield: lists,collected by models of the same shape.
-/
import Derived.Test.YtidpfkmbfgihlaaGreatXA
set_option maxRecDepth 100000
namespace Go.Proofs.YtidpfkmbfgihlaaGreat
open Go.RowKit

theorem Jea (s:Gk) (r:Bool):Rel r (Gf7 s (fun r_=>r_=r)) (H57 s):=by
 unfold Gf7 H57
 refine H94 (fun _=>J9d) (fun _=>?_)
 refine J9e (fun x i s nx nx' hnx=>?_) (fun s=>?_)
 ·refine Z09 (fun K K' hK=>H94 (fun _=>hK _) (fun _=>hK _)) (fun j=>?_)
  refine J37 (fun v=>Y14 (fun v=>J37 (fun q=>?_)))
  exact H94 (fun _=>J9d) (fun _=>hnx _)
 ·refine J9e (fun x i s nx nx' hnx=>?_) (fun s=>?_)
  ·refine H94 (fun _=>J9d) (fun _=>?_)
   refine J9e (fun x i s nx nx' hnx=>?_) (fun s=>hnx _)
   refine J37 (fun v=>J37 (fun v=>?_))
   exact H94 (fun _=>J9d) (fun _=>J37 (fun v=>Y14 (fun v=>hnx _)))
  ·exact Yc2 (c:=fun x:Hg×Int=>decide (1 < x.2)) (e:=false) (e':=true)
abbrev Gac:=H57
def Qa5:=PLift.up (Qb4 Gac (fun s r h=>Jea s r h))
end Go.Proofs.YtidpfkmbfgihlaaGreat
set_option maxRecDepth 100000
namespace Go.Proofs.YtidpfkmbfgihlaaGreat
open Go.RowKit

def J51 {α:Type} (r l:List α) (m:Option Unit) (g:Option (List α)):Prop:=g=some r→l <+: r∧m=some ()

theorem Yd6 {α β:Type} {r l:List α} {o:Option β} {m:β→Option Unit} {g:β→Option (List α)} (h:∀ v,J51 r l (m v) (g v)):J51 r l (bnd o m) (bnd o g):=by
 cases o with
 | none=>intro e; cases e
 | some v=>exact h v
theorem Y93 {α:Type} {r l:List α} {b:Bool} {m:Option Unit} {g:Option (List α)} (h:J51 r l m g):J51 r l (need b m) (need b g):=by
 cases b with
 | false=>intro e; cases e
 | true=>exact h
theorem R87 {α β:Type} {r:List α} {b:β→Nat→Nat→(Nat→Option Unit)→Option Unit} {b':β→Nat→List α→(List α→Option (List α))→Option (List α)} {k:Nat→Option Unit} {k':List α→Option (List α)}
  (hb:∀ x i l nx nx',(∀ l',J51 r l' (nx l'.length) (nx' l'))→J51 r l (b x i l.length nx) (b' x i l nx')) (hk:∀ l,J51 r l (k l.length) (k' l)) (xs:List β):∀ (i:Nat) (l:List α),J51 r l (each b k xs i l.length) (each b' k' xs i l):=by
 induction xs with
 | nil=>intro i l; exact hk l
 | cons x xs ih=>intro i l; exact hb x i l _ _ (fun l'=>ih (i+1) l')
theorem Y92 {α:Type} {r:List α} {b:Nat→Nat→(Nat→Option Unit)→Option Unit} {b':Nat→List α→(List α→Option (List α))→Option (List α)} {k:Nat→Option Unit} {k':List α→Option (List α)}
  (hb:∀ i l nx nx',(∀ l',J51 r l' (nx l'.length) (nx' l'))→J51 r l (b i l.length nx) (b' i l nx')) (hk:∀ l,J51 r l (k l.length) (k' l)) (n:Nat):∀ (i:Nat) (l:List α),J51 r l (upto b k n i l.length) (upto b' k' n i l):=by
 induction n with
 | zero=>intro i l; exact hk l
 | succ n ih=>intro i l; exact hb i l _ _ (fun l'=>ih (i+1) l')
theorem Y5d {α:Type} [DecidableEq α] {r l:List α} {x:α} {m:Option Unit} {g:Option (List α)} (h:J51 r (l++[x]) m g):J51 r l (need (decide (r[l.length]? = some x)) m) g:=by
 intro e
 obtain⟨hp,hm⟩:=h e
 refine⟨(List.prefix_append l [x]).trans hp,?_⟩
 obtain⟨t,rfl⟩:=hp
 have:((l++[x])++t)[l.length]? = some x:=by simp
 unfold need; rw [decide_eq_true this]; exact hm
theorem Yd5 {α:Type} {r l:List α}:J51 r l (need (decide (l.length=r.length)) (some ())) (some l):=by
 intro e; cases e
 refine⟨List.prefix_refl _,?_⟩
 unfold need; rw [decide_eq_true rfl]; rfl
theorem Yd4 {α:Type} {r:List α} {m:Option Unit} {g:Option (List α)} (h:J51 r [] m g) (e:g=some r):m=some ():=(h e).2

def Gf3 (p1:Gk) (p2:Int):Option (List Slot):=
 each (fun y2 i2 (s2:List Slot) nx2=>
  need (decide ((max y2.Tiers 0)≤9223372036854775807)) <|
  upto (fun i8 (s8:List Slot) nx8=>
   bnd (G45 p2) fun r14=>
   each (fun y29 _ (s29:List Slot) nx29=>nx29 (s29++[Slot.mk (i2:Int) (i8:Int) y29]))
   (fun(s29:List Slot)=>nx8 s29) r14 0 s8)
  (fun(s8:List Slot)=>nx2 s8) (max y2.Tiers 0).toNat 0 s2)
 (fun(s2:List Slot)=>some s2) p1.Columns 0 []
def Jdd:=PLift.up (Jdf Gf3 (fun s size r h=>Yd4 (by
 unfold Gf5
 refine R87 (fun y2 i2 s2 nx nx' hnx=>?_) (fun s=>Yd5) _ 0 []
 refine Y93 (Y92 (fun i8 s8 nx nx' hnx=>?_) (fun s=>hnx _) _ _ _)
 refine Yd6 (fun v=>?_)
 refine R87 (fun y29 i29 s29 nx nx' hnx=>?_) (fun s=>hnx _) _ _ _
 refine Y5d ?_
 have:=hnx (s29++[Slot.mk (i2:Int) (i8:Int) y29])
 rw [List.length_append] at this
 exact this) h))
end Go.Proofs.YtidpfkmbfgihlaaGreat
