/-
 Models of functions of the program,and that they return what the models say.
-/
import Derived.Test.YtidpfkmbfgihlaaGreatXRa
set_option maxRecDepth 100000
set_option maxHeartbeats 1000000
set_option linter.unusedVariables false
set_option linter.unusedSimpArgs false
namespace Go.Proofs.YtidpfkmbfgihlaaGreat
open Go.RowKit
noncomputable section
open XAF
open XCF
open XSF
open XKF
open XTF
open XUF
open XBF
open XPF
open XJF
open XQF
open XRF

end
end Go.Proofs.YtidpfkmbfgihlaaGreat
