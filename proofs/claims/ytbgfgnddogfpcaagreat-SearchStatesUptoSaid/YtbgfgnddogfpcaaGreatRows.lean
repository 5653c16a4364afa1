/-
  No cell of these rows narrows 'for every input' (looked for: loops, veiled, ifaces, maps, wideKeys, modest, calm, conditions, laid).
  DERIVED. THE GIVEN ROWS OF THIS SEAT. 2 by the template 'for every input the law returns true; each argument reads behind the call as it read before'; 0 by the template 'total and deterministic' (their statements: YtbgfgnddogfpcaaGreatTotals.lean).
  GIVEN WITH THE SEED: the statements are not yours to turn. If you find one false, say at which input.
  Laid BY PROGRAM, IN A SANDBOX (cutbox-rows.mjs): the forced cells as the released guide's own fill.sh prints them over the translation 065975c269e28b2c… (all of the seat's roots in one cut). By AI agents, Wed Nov 11 2026. No macro, syntax, notation, axiom, sorry.
-/
import Derived.Test.YtbgfgnddogfpcaaGreatChecked
import GoSem.Claim
import GoSem.ClaimJoined
import GoSem.ClaimMapViews
import Derived.JoinedTies
import Derived.KernelRfl
namespace Go.Proofs.YtbgfgnddogfpcaaGreat
/- THE CELL 'sum', in the pinned program and in every row, IS THE sha256 OF THE DUMP (.gsa) THAT YtbgfgnddogfpcaaGreatProg.lean LOADS. Nothing in Lean hashes anything: it is a label: what it is worth is what the hold of that sum in a sandbox is worth. -/
noncomputable def Tryz.pinned : Pinned := { name := "ytbgfgnddogfpcaagreat", sum := "065975c269e28b2ca9726883a040c795633695da4cf872a640e5faf3f69df285", checked := Tryz.checked }
namespace Rows
def none {H : Type} : Left H := { results := [], args := [] }

/-- 'twistlocklaw28.SearchTells': WHATEVER THE INPUT: true; the input reads as it did. -/
def searchTellsSpec : ChangeSpec := { name := "searchTells", fn := fun _ => fun
  | [d1, d2, d3] => { results := [.lit (.bool true)], args := [d1, d2, d3] }
  | _ => none }
def searchTellsRow : OpenClaim := { program := "ytbgfgnddogfpcaagreat", sum := "065975c269e28b2ca9726883a040c795633695da4cf872a640e5faf3f69df285", func := "twistlock/twistlocklaw28.SearchTells", spec := "searchTells", unfollowed := true, recurses := true, plainKeys := false, apart := false }
def SearchTellsSaid : Prop := searchTellsRow.holds Tryz.pinned (OpenSpec.ofChange searchTellsSpec)

/-- ITS FALSE NEIGHBOUR: 'it returns false'. Refute it at one input. -/
def searchTellsWrong : ChangeSpec := { name := "searchTells", fn := fun _ => fun
  | [d1, d2, d3] => { results := [.lit (.bool false)], args := [d1, d2, d3] }
  | _ => none }
def SearchTellsWrongFalsely : Prop := searchTellsRow.holds Tryz.pinned (OpenSpec.ofChange searchTellsWrong)

/-- 'twistlocklaw28.SearchStates': WHATEVER THE INPUT: true; the input reads as it did. -/
def searchStatesSpec : ChangeSpec := { name := "searchStates", fn := fun _ => fun
  | [d1, d2, d3] => { results := [.lit (.bool true)], args := [d1, d2, d3] }
  | _ => none }
def searchStatesRow : OpenClaim := { program := "ytbgfgnddogfpcaagreat", sum := "065975c269e28b2ca9726883a040c795633695da4cf872a640e5faf3f69df285", func := "twistlock/twistlocklaw28.SearchStates", spec := "searchStates", unfollowed := true, recurses := true, plainKeys := false, apart := false }
def SearchStatesSaid : Prop := searchStatesRow.holds Tryz.pinned (OpenSpec.ofChange searchStatesSpec)

/-- ITS FALSE NEIGHBOUR: 'it returns false'. Refute it at one input. -/
def searchStatesWrong : ChangeSpec := { name := "searchStates", fn := fun _ => fun
  | [d1, d2, d3] => { results := [.lit (.bool false)], args := [d1, d2, d3] }
  | _ => none }
def SearchStatesWrongFalsely : Prop := searchStatesRow.holds Tryz.pinned (OpenSpec.ofChange searchStatesWrong)

/- THE SECOND FORM. 'bulk': how many values and letters a reading holds, each counted each time it is reached (what is shared counts as often as it is met; a slice's spare places count too). A statement '..UptoSaid' is the law's where the arguments, and the package variables that the reading takes, are together of bulk at most 1048576: NARROWER than '..Said'. Prove '..Said' where nothing that the law and all that it calls make is longer than what came in: it says more and counts as full. Else prove '..UptoSaid'. A law counts once. -/
mutual
def uptoBulk {H : Type} : DataW H → Nat
  | .lit (.string bytes) => bytes.length + 1
  | .lit _ => 1
  | .nil => 1
  | .ptr d => uptoBulk d + 1
  | .slice elems spare => uptoBulkAll elems + uptoBulkAll spare + 1
  | .agg parts => uptoBulkAll parts + 1
  | .iface _ d => uptoBulk d + 1
  | .map entries => uptoBulkEntries entries + 1
  | .held _ => 1
def uptoBulkAll {H : Type} : List (DataW H) → Nat
  | [] => 0
  | d :: r => uptoBulk d + uptoBulkAll r
def uptoBulkEntries {H : Type} : List (Lit × DataW H) → Nat
  | [] => 0
  | x :: r => uptoBulkEntry x + uptoBulkEntries r
def uptoBulkEntry {H : Type} : Lit × DataW H → Nat
  | (.string bytes, d) => bytes.length + uptoBulk d + 1
  | (_, d) => uptoBulk d + 1
 end
def uptoSmall : (H : Type) → List (DataW H) → Bool := fun _ ds => decide (uptoBulkAll ds ≤ 1048576)
def OpenSpec.upto (s : _root_.Go.ChangeSpec) : _root_.Go.OpenSpec := { _root_.Go.OpenSpec.ofChange s with cond := some uptoSmall }

/-- 'twistlocklaw28.SearchTells', WHERE WHAT IT READS IS OF BULK AT MOST 1048576: true; the input reads as it did. -/
def searchTellsUptoRow : OpenClaim := { program := "ytbgfgnddogfpcaagreat", sum := "065975c269e28b2ca9726883a040c795633695da4cf872a640e5faf3f69df285", func := "twistlock/twistlocklaw28.SearchTells", spec := "searchTells", unfollowed := true, recurses := true, plainKeys := false, apart := false, narrowed := true }
def SearchTellsUptoSaid : Prop := searchTellsUptoRow.holds Tryz.pinned (OpenSpec.upto searchTellsSpec)

/-- 'twistlocklaw28.SearchStates', WHERE WHAT IT READS IS OF BULK AT MOST 1048576: true; the input reads as it did. -/
def searchStatesUptoRow : OpenClaim := { program := "ytbgfgnddogfpcaagreat", sum := "065975c269e28b2ca9726883a040c795633695da4cf872a640e5faf3f69df285", func := "twistlock/twistlocklaw28.SearchStates", spec := "searchStates", unfollowed := true, recurses := true, plainKeys := false, apart := false, narrowed := true }
def SearchStatesUptoSaid : Prop := searchStatesUptoRow.holds Tryz.pinned (OpenSpec.upto searchStatesSpec)

end Rows
end Go.Proofs.YtbgfgnddogfpcaaGreat
