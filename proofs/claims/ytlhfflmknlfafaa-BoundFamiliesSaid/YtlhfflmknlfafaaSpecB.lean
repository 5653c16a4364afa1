/-
  What bound.Check returns.
-/
import Derived.Test.YtlhfflmknlfafaaXB
set_option maxRecDepth 100000
namespace Go.Proofs.Ytlhfflmknlfafaa
open Go.RowKit

theorem D_bound_Check_rel (F : Nat) (s : Ship) (boxes : List Box) (families : List (List G7)) (r : Int × Int) : Rel r (M_bound_Check F s boxes families (fun r_ => r_ = r)) (D_bound_Check F s boxes families) := by
  unfold M_bound_Check D_bound_Check
  refine rel_bnd (fun v => rel_bif (fun _ => rel_some) (fun _ => rel_bnd (fun v => ?_)))
  refine rel_each (fun x i s nx nx' hnx => ?_) (fun s => ?_)
  · refine rel_bnd (fun v => rel_bif (fun _ => rel_some) (fun _ => rel_bnd (fun v => rel_chk (fun v => ?_))))
    refine rel_each (fun x i s nx nx' hnx => ?_) (fun s => hnx _)
    exact rel_bnd (fun v => rel_chk (fun v => hnx _))
  · exact rel_any (c := fun x : G7 × Int => decide (1 < x.2)) (e := (0, 271)) (e' := (s.1, 0))
abbrev S_bound_Check := D_bound_Check
def S_bound_Check_w := PLift.up (M_bound_Check_s S_bound_Check (fun F s b f r h => D_bound_Check_rel F s b f r h))
end Go.Proofs.Ytlhfflmknlfafaa
