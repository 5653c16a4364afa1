/- Walks of functions. -/
import Derived.Test.YtokjlondbjdlfaaXF
set_option maxRecDepth 100000
set_option maxHeartbeats 1000000
set_option linter.unusedVariables false
set_option linter.unusedSimpArgs false
namespace Go.Proofs.Ytokjlondbjdlfaa
open Go.RowKit
noncomputable section

namespace XGF
open XAF
open XBF
open XCF
open XDF
open XEF
open XFF
end XGF
open XAF
open XBF
open XCF
open XDF
open XEF
open XFF
open XGF

end
end Go.Proofs.Ytokjlondbjdlfaa
