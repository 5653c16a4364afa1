/- Walks of functions. -/
import Derived.Test.YtgcpimpnpcdmmaaGreatXB
set_option maxRecDepth 100000
set_option maxHeartbeats 1000000
set_option linter.unusedVariables false
set_option linter.unusedSimpArgs false
namespace Go.Proofs.YtgcpimpnpcdmmaaGreat
open Go.RowKit
noncomputable section

namespace XPF
open XAF
open XCF
open XSF
open XKF
open XTF
open XUF
open XVF
open XMF
open XBF
theorem H93:H1 En 11=true:=by kernel_rfl
theorem Jb6:H1 En 17=true:=by kernel_rfl
theorem Qb7:H1 En 23=true:=by kernel_rfl
theorem Q15:H1 En 6=true:=by kernel_rfl
theorem Q14:H1 En 7=true:=by kernel_rfl
theorem Q13:H1 En 8=true:=by kernel_rfl
end XPF
open XAF
open XCF
open XSF
open XKF
open XTF
open XUF
open XVF
open XMF
open XBF
open XPF

end
end Go.Proofs.YtgcpimpnpcdmmaaGreat
