/-
  slices.SortFunc in a model.
-/
import Derived.Test.YtkfhfoljfbjknaaGreatSort
import Derived.Test.YtkfhfoljfbjknaaGreatDraw2
set_option maxRecDepth 100000
namespace Go.Proofs.YtkfhfoljfbjknaaGreat
open Go.RowKit Go.Shelf Go.Sort

section ops
variable {P : Program} {o : Oper} {l : Fr} {L L'' : Loc}
end ops
end Go.Proofs.YtkfhfoljfbjknaaGreat
