/- Walks of functions. -/
import Derived.Test.YtokjlondbjdlfaaXE
set_option maxRecDepth 100000
set_option maxHeartbeats 1000000
set_option linter.unusedVariables false
set_option linter.unusedSimpArgs false
namespace Go.Proofs.Ytokjlondbjdlfaa
open Go.RowKit
noncomputable section

namespace XFF
open XAF
open XBF
open XCF
open XDF
open XEF
theorem Hf3:Hj E8 10=true:=by kernel_rfl
theorem Hf2:Hj E8 12=true:=by kernel_rfl
end XFF
open XAF
open XBF
open XCF
open XDF
open XEF
open XFF

end
end Go.Proofs.Ytokjlondbjdlfaa
