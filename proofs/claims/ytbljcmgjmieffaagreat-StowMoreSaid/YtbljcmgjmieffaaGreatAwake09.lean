/-
  The examples of the chapter.
-/
import Derived.Test.YtbljcmgjmieffaaGreatXP
set_option linter.unusedVariables false
set_option linter.unusedSimpArgs false
set_option linter.unnecessarySimpa false
set_option maxRecDepth 100000
namespace Go.Proofs.YtbljcmgjmieffaaGreat
open Go.RowKit
theorem awake09 : Q1 60 = some true := by kernel_rfl
end Go.Proofs.YtbljcmgjmieffaaGreat
