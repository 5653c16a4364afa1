/-
  slices.SortFunc in a model.
-/
import Derived.Test.YtmdnkofmmheoaaaGreatSort
import Derived.Test.YtmdnkofmmheoaaaGreatDraw2
set_option maxRecDepth 100000
namespace Go.Proofs.YtmdnkofmmheoaaaGreat
open Go.RowKit Go.Shelf Go.Sort

section ops
variable {P : Program} {o : Oper} {l : Fr} {L L'' : Loc}
end ops
end Go.Proofs.YtmdnkofmmheoaaaGreat
