/-
  Slices of whole numbers of the call's own, sorted in place by the library.
-/
import Derived.Test.YtlhfflmknlfafaaSortM
set_option maxRecDepth 100000
namespace Go.Proofs.Ytlhfflmknlfafaa
open Go.RowKit Go.Sort Go.Shelf

section ops
variable {P : Program} {o : Oper} {l : Fr} {L L'' : Loc}
end ops
end Go.Proofs.Ytlhfflmknlfafaa
