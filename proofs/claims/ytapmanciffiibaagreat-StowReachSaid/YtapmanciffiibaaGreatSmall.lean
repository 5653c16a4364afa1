/-
 Small lemmas that the walks use at every turn.
-/
import Derived.Test.YtapmanciffiibaaGreatMake
import Derived.IntWalk
set_option linter.unusedVariables false
set_option linter.unusedSimpArgs false
set_option linter.unnecessarySimpa false
namespace Go.Proofs.YtapmanciffiibaaGreat
open Go.RowKit

theorem Hc0 {n:Int} (h1 : -9223372036854775808≤n) (h2:n≤9223372036854775807):IntKind.i64.wrap n=n:=IntWalk.i64_in n ⟨h1,h2⟩
theorem nobase:∀ id,(lk [] id).isSome=true→id∈([]:List Nat):=fun id h=>by simp [lk] at h
abbrev G0 (n:Int):AV:=.sc (.int .i64 n)
abbrev U8 (n:Int):AV:=.sc (.int .u8 n)
abbrev BL (b:Bool):AV:=.sc (.bool b)
end Go.Proofs.YtapmanciffiibaaGreat
