/-
  The examples of chapter 23, evaluated.
-/
import Derived.Test.YtbpgdkibmejibaaKeptD
set_option maxRecDepth 100000
namespace Go.Proofs.Ytbpgdkibmejibaa
open Go.RowKit

theorem awake23 : M_twistlocklaw23_awake 60 = some true := by kernel_rfl
end Go.Proofs.Ytbpgdkibmejibaa
