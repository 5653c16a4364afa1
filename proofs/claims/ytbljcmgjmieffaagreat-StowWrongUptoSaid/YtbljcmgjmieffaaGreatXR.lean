/-
 Models of functions of the program,and that they return what the models say.
-/
import Derived.Test.YtbljcmgjmieffaaGreatXQ
set_option linter.unnecessarySimpa false
set_option maxRecDepth 100000
set_option linter.unusedVariables false
set_option linter.unusedSimpArgs false
namespace Go.Proofs.YtbljcmgjmieffaaGreat
open Go.RowKit
noncomputable section

namespace XRF
open XAF
open XCF
open XGF
open XBF
open XPF
open XQF
theorem H79:Hf Ek 20=true:=by kernel_rfl
end XRF
open XAF
open XCF
open XGF
open XBF
open XPF
open XQF
open XRF

end
end Go.Proofs.YtbljcmgjmieffaaGreat
