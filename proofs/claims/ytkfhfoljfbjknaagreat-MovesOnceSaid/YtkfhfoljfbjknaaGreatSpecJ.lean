/-
  What the steps of a plan are: an iterator that yields pairs of lists.
-/
import Derived.Test.YtkfhfoljfbjknaaGreatSpecI
set_option maxRecDepth 100000
namespace Go.Proofs.YtkfhfoljfbjknaaGreat
open Go.RowKit

theorem col_each2 {α β σ : Type} {r : List α} {b : β → Nat → σ × Nat → (σ × Nat → Option Unit) → Option Unit} {b' : β → Nat → σ × List α → (σ × List α → Option (List α)) → Option (List α)} {k : σ × Nat → Option Unit} {k' : σ × List α → Option (List α)}
    (hb : ∀ x i t l nx nx', (∀ t' l', Coll r l' (nx (t', l'.length)) (nx' (t', l'))) → Coll r l (b x i (t, l.length) nx) (b' x i (t, l) nx')) (hk : ∀ t l, Coll r l (k (t, l.length)) (k' (t, l))) (xs : List β) : ∀ (i : Nat) (t : σ) (l : List α), Coll r l (each b k xs i (t, l.length)) (each b' k' xs i (t, l)) := by
  induction xs with
  | nil => intro i t l; exact hk t l
  | cons x xs ih => intro i t l; exact hb x i t l _ _ (fun t' l' => ih (i + 1) t' l')

def S_plan_steps_1 (p1 : Plan) : Option (List (List G2 × List G2)) :=
  each (fun y23 _ (s23 : List G2 × List (List G2 × List G2)) nx23 => nx23 (y23, s23.2 ++ [(s23.1, y23)]))
  (fun (s23 : List G2 × List (List G2 × List G2)) => some s23.2) p1.States 0 ([], [])
def S_plan_steps_1_w := PLift.up (M_plan_steps_1_s S_plan_steps_1 (fun p r h => col_out (by
  unfold M_plan_steps_1
  refine col_each2 (fun y i t l nx nx' hnx => ?_) (fun t l => col_end) _ 0 [] []
  refine col_yield ?_
  have := hnx y (l ++ [(t, y)])
  rw [List.length_append] at this
  exact this) h))

end Go.Proofs.YtkfhfoljfbjknaaGreat
