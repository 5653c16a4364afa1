/- Walks of functions. -/
import Derived.Test.YtidpfkmbfgihlaaGreatSpecBk
set_option maxRecDepth 100000
set_option maxHeartbeats 1000000
set_option linter.unusedVariables false
set_option linter.unusedSimpArgs false
namespace Go.Proofs.YtidpfkmbfgihlaaGreat
open Go.RowKit
noncomputable section

namespace XQF
open XAF
open XCF
open XSF
open XKF
open XTF
open XUF
open XBF
open XPF
open XJF
theorem J38:Gf6 Eo 66 6=true:=by kernel_rfl
theorem Q74:H7 Eo 15=true:=by kernel_rfl
theorem Q53:Yx Eo 66 6=true:=by kernel_rfl
theorem G60:sliceB Eo 64 66 6=true:=by kernel_rfl
theorem Jfb:Y4 Eo 66 6=true:=by kernel_rfl
end XQF
open XAF
open XCF
open XSF
open XKF
open XTF
open XUF
open XBF
open XPF
open XJF
open XQF

end
end Go.Proofs.YtidpfkmbfgihlaaGreat
