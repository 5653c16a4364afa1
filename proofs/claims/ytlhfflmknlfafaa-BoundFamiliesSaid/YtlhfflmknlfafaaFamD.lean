/-
  BoundFamilies: what has to be evaluated, and the law.
-/
import Derived.Test.YtlhfflmknlfafaaFamC
import Derived.Test.YtlhfflmknlfafaaAwake27
set_option maxRecDepth 100000
namespace Go.Proofs.Ytlhfflmknlfafaa
open Go.RowKit

theorem rep60 : RepOk 60 := by
  intro n hn
  have h : (List.range 14).all (fun n => decide (M_slices_Repeat_int 60 [(-1)] (((2 * n : Nat) : Int) + 1) = some (List.replicate (2 * n + 1) (-1)))) = true := by kernel_rfl
  exact of_decide_eq_true (List.all_eq_true.1 h n (List.mem_range.2 (by omega)))
theorem lawFamilies (l : List law07_Place) (covers : Int) (items : List law23_Item) (tiers : Int) (hp : ∀ p ∈ l, PlaceOk p) (hi : ∀ x ∈ items, ItemOk x) (ht : Byte tiers) :
    M_twistlocklaw27_BoundFamilies 60 l covers items tiers = some true := lawFamiliesF (Nat.le_refl 60) awake27 rep60 l covers items tiers hp hi ht
end Go.Proofs.Ytlhfflmknlfafaa
