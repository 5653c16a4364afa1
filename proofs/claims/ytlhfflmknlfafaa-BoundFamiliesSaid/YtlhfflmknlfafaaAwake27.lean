/-
  The examples of chapter 27.
-/
import Derived.Test.YtlhfflmknlfafaaXD
set_option maxRecDepth 100000
namespace Go.Proofs.Ytlhfflmknlfafaa
open Go.RowKit
theorem awake27 : M_twistlocklaw27_awake 60 = some true := by kernel_rfl
end Go.Proofs.Ytlhfflmknlfafaa
#print axioms Go.Proofs.Ytlhfflmknlfafaa.awake27
