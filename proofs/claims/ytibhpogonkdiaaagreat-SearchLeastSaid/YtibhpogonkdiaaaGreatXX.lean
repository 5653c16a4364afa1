/- Walks of functions. -/
import Derived.Test.YtibhpogonkdiaaaGreatXW
set_option maxRecDepth 100000
set_option maxHeartbeats 1000000
set_option linter.unusedVariables false
set_option linter.unusedSimpArgs false
namespace Go.Proofs.YtibhpogonkdiaaaGreat
open Go.RowKit
noncomputable section

namespace XXF
open XAF
open XCF
open XFF
open XSF
open XLF
open XVF
open XWF
end XXF
open XAF
open XCF
open XFF
open XSF
open XLF
open XVF
open XWF
open XXF

end
end Go.Proofs.YtibhpogonkdiaaaGreat
