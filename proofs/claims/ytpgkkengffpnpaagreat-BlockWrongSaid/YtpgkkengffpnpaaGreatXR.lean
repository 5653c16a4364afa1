/-
 Models of functions of the program,and that they return what the models say.
-/
import Derived.Test.YtpgkkengffpnpaaGreatXQ
set_option linter.unnecessarySimpa false
set_option maxRecDepth 100000
set_option maxHeartbeats 1000000
set_option linter.unusedVariables false
set_option linter.unusedSimpArgs false
namespace Go.Proofs.YtpgkkengffpnpaaGreat
open Go.RowKit
noncomputable section

namespace XRF
open XAF
open XCF
open XGF
open XHF
open XBF
open XPF
open XQF
end XRF
open XAF
open XCF
open XGF
open XHF
open XBF
open XPF
open XQF
open XRF

end
end Go.Proofs.YtpgkkengffpnpaaGreat
