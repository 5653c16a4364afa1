/-
 Models of functions of the program,and that they return what the models say.
-/
import Derived.Test.YtbljcmgjmieffaaGreatXR
set_option linter.unnecessarySimpa false
set_option maxRecDepth 100000
set_option linter.unusedVariables false
set_option linter.unusedSimpArgs false
namespace Go.Proofs.YtbljcmgjmieffaaGreat
open Go.RowKit
noncomputable section

namespace XTF
open XAF
open XCF
open XGF
open XBF
open XPF
open XQF
open XRF
theorem H11:Hf Ek 14=true:=by kernel_rfl
end XTF
open XAF
open XCF
open XGF
open XBF
open XPF
open XQF
open XRF
open XTF

end
end Go.Proofs.YtbljcmgjmieffaaGreat
