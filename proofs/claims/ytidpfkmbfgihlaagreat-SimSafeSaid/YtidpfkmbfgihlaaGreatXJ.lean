/- Walks of functions. -/
import Derived.Test.YtidpfkmbfgihlaaGreatXP
set_option maxRecDepth 100000
set_option maxHeartbeats 1000000
set_option linter.unusedVariables false
set_option linter.unusedSimpArgs false
namespace Go.Proofs.YtidpfkmbfgihlaaGreat
open Go.RowKit
noncomputable section

namespace XJF
open XAF
open XCF
open XSF
open XKF
open XTF
open XUF
open XBF
open XPF
end XJF
open XAF
open XCF
open XSF
open XKF
open XTF
open XUF
open XBF
open XPF
open XJF

end
end Go.Proofs.YtidpfkmbfgihlaaGreat
