/-
  Slices that begin as an empty literal and are appended to; appends of whole lists to an own slice; the least of three numbers.
-/
import Derived.Test.YtbpgdkibmejibaaMore2
import Derived.Test.YtbpgdkibmejibaaVecM
namespace Go.Proofs.Ytbpgdkibmejibaa
open Go.RowKit

section ops
variable {P : Program} {N : Cfg} {o : Oper} {l : Fr} {L L' : Loc} {u : AV} {α : Type}

end ops
end Go.Proofs.Ytbpgdkibmejibaa
