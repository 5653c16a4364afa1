/-
 MovesPhases: the work of the bays adds up.
-/
import Derived.Test.YtmdnkofmmheoaaaGreatMovB
set_option maxRecDepth 100000
namespace Go.Proofs.YtmdnkofmmheoaaaGreat
open Go.RowKit

def tot {α : Type} (f : α → Int) : List α → Int
 | [] => 0
 | x :: l => f x + tot f l
section
variable {α : Type} {f : α → Int}
end
section
variable {κ ν : Type} [DecidableEq κ]
end

end Go.Proofs.YtmdnkofmmheoaaaGreat
