/-
  The examples of chapter 30, evaluated; the laws.
-/
import Derived.Test.YtmdnkofmmheoaaaGreatMovC
set_option maxRecDepth 100000
namespace Go.Proofs.YtmdnkofmmheoaaaGreat
open Go.RowKit

theorem awake30 : M_twistlocklaw30_awake 60 = some true := by kernel_rfl
theorem lawWrong (l : List law07_Place) (covers : Int) (items : List law23_Item) (n : Int) (hp : ∀ p ∈ l, PlaceOk p) (hi : ∀ x ∈ items, ItemOk x) : M_twistlocklaw30_MovesWrong 60 l covers items n = some true := lawWrongF (Nat.le_refl 60) awake30 l covers items n hp hi
end Go.Proofs.YtmdnkofmmheoaaaGreat
