/- Walks of functions. -/
import Derived.Test.YtokjlondbjdlfaaXI
set_option maxRecDepth 100000
set_option maxHeartbeats 1000000
set_option linter.unusedVariables false
set_option linter.unusedSimpArgs false
namespace Go.Proofs.Ytokjlondbjdlfaa
open Go.RowKit
noncomputable section

namespace XKF
open XAF
open XBF
open XCF
open XDF
open XEF
open XIF
theorem J49:Hr E8 12=true:=by kernel_rfl
theorem J48:Hr E8 15=true:=by kernel_rfl
theorem J47:Hr E8 16=true:=by kernel_rfl
end XKF
open XAF
open XBF
open XCF
open XDF
open XEF
open XIF
open XKF

end
end Go.Proofs.Ytokjlondbjdlfaa
