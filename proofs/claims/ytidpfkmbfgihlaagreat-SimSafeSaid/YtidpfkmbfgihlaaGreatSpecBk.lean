/- What slices.Backward yields: -/
import Derived.Test.YtidpfkmbfgihlaaGreatXJ
set_option maxRecDepth 100000
namespace Go.Proofs.YtidpfkmbfgihlaaGreat
open Go.RowKit

end Go.Proofs.YtidpfkmbfgihlaaGreat
