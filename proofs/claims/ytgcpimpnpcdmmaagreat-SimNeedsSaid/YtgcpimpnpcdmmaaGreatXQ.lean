/- Walks of functions. -/
import Derived.Test.YtgcpimpnpcdmmaaGreatXP
set_option maxRecDepth 100000
set_option maxHeartbeats 1000000
set_option linter.unusedVariables false
set_option linter.unusedSimpArgs false
namespace Go.Proofs.YtgcpimpnpcdmmaaGreat
open Go.RowKit
noncomputable section

namespace XQF
open XAF
open XCF
open XSF
open XKF
open XTF
open XUF
open XVF
open XMF
open XBF
open XPF
end XQF
open XAF
open XCF
open XSF
open XKF
open XTF
open XUF
open XVF
open XMF
open XBF
open XPF
open XQF

end
end Go.Proofs.YtgcpimpnpcdmmaaGreat
