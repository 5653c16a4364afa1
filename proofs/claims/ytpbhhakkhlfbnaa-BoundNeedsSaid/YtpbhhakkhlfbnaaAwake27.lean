/-
  The examples of chapter 27.
-/
import Derived.Test.YtpbhhakkhlfbnaaXC
set_option maxRecDepth 100000
namespace Go.Proofs.Ytpbhhakkhlfbnaa
open Go.RowKit
theorem awake27 : M_twistlocklaw27_awake 60 = some true := by kernel_rfl
end Go.Proofs.Ytpbhhakkhlfbnaa
#print axioms Go.Proofs.Ytpbhhakkhlfbnaa.awake27
