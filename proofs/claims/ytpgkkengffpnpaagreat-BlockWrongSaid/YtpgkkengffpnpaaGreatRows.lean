/-
  No cell of these rows narrows 'for every input' (looked for: loops, veiled, ifaces, maps, wideKeys, modest, calm, conditions, laid).
  DERIVED. THE GIVEN ROWS OF THIS SEAT. 5 by the template 'for every input the law returns true; each argument reads behind the call as it read before'; 0 by the template 'total and deterministic' (their statements: YtpgkkengffpnpaaGreatTotals.lean).
  GIVEN WITH THE SEED: the statements are not yours to turn. If you find one false, say at which input.
  Laid BY PROGRAM, IN A SANDBOX (cutbox-rows.mjs): the forced cells as the released guide's own fill.sh prints them over the translation 767f89cac33056a9… (all of the seat's roots in one cut). By AI agents, Wed Nov 11 2026. No macro, syntax, notation, axiom, sorry.
-/
import Derived.Test.YtpgkkengffpnpaaGreatChecked
import GoSem.Claim
import GoSem.ClaimJoined
import GoSem.ClaimMapViews
import Derived.JoinedTies
import Derived.KernelRfl
namespace Go.Proofs.YtpgkkengffpnpaaGreat
/- THE CELL 'sum', in the pinned program and in every row, IS THE sha256 OF THE DUMP (.gsa) THAT YtpgkkengffpnpaaGreatProg.lean LOADS. Nothing in Lean hashes anything: it is a label: what it is worth is what the hold of that sum in a sandbox is worth. -/
noncomputable def Tryz.pinned : Pinned := { name := "ytpgkkengffpnpaagreat", sum := "767f89cac33056a9f3c4f6a91dcf4956a5d3dccc3dabf454c38085105a9d1e79", checked := Tryz.checked }
namespace Rows
def none {H : Type} : Left H := { results := [], args := [] }

/-- 'twistlocklaw22.BlockLeaves': WHATEVER THE INPUT: true; the input reads as it did. -/
def blockLeavesSpec : ChangeSpec := { name := "blockLeaves", fn := fun _ => fun
  | [d1, d2, d3] => { results := [.lit (.bool true)], args := [d1, d2, d3] }
  | _ => none }
def blockLeavesRow : OpenClaim := { program := "ytpgkkengffpnpaagreat", sum := "767f89cac33056a9f3c4f6a91dcf4956a5d3dccc3dabf454c38085105a9d1e79", func := "twistlock/twistlocklaw22.BlockLeaves", spec := "blockLeaves", inPlace := ["slices.overlaps[int]", "slices.overlaps[twistlock/api.Stowed]"], unfollowed := true, recurses := true, plainKeys := false, apart := false }
def BlockLeavesSaid : Prop := blockLeavesRow.holds Tryz.pinned (OpenSpec.ofChange blockLeavesSpec)

/-- ITS FALSE NEIGHBOUR: 'it returns false'. Refute it at one input. -/
def blockLeavesWrong : ChangeSpec := { name := "blockLeaves", fn := fun _ => fun
  | [d1, d2, d3] => { results := [.lit (.bool false)], args := [d1, d2, d3] }
  | _ => none }
def BlockLeavesWrongFalsely : Prop := blockLeavesRow.holds Tryz.pinned (OpenSpec.ofChange blockLeavesWrong)

/-- 'twistlocklaw22.BlockPairs': WHATEVER THE INPUT: true; the input reads as it did. -/
def blockPairsSpec : ChangeSpec := { name := "blockPairs", fn := fun _ => fun
  | [d1, d2, d3] => { results := [.lit (.bool true)], args := [d1, d2, d3] }
  | _ => none }
def blockPairsRow : OpenClaim := { program := "ytpgkkengffpnpaagreat", sum := "767f89cac33056a9f3c4f6a91dcf4956a5d3dccc3dabf454c38085105a9d1e79", func := "twistlock/twistlocklaw22.BlockPairs", spec := "blockPairs", inPlace := ["slices.overlaps[int]", "slices.overlaps[twistlock/api.Stowed]"], unfollowed := true, recurses := true, plainKeys := false, apart := false }
def BlockPairsSaid : Prop := blockPairsRow.holds Tryz.pinned (OpenSpec.ofChange blockPairsSpec)

/-- ITS FALSE NEIGHBOUR: 'it returns false'. Refute it at one input. -/
def blockPairsWrong : ChangeSpec := { name := "blockPairs", fn := fun _ => fun
  | [d1, d2, d3] => { results := [.lit (.bool false)], args := [d1, d2, d3] }
  | _ => none }
def BlockPairsWrongFalsely : Prop := blockPairsRow.holds Tryz.pinned (OpenSpec.ofChange blockPairsWrong)

/-- 'twistlocklaw22.BlockFree': WHATEVER THE INPUT: true; the input reads as it did. -/
def blockFreeSpec : ChangeSpec := { name := "blockFree", fn := fun _ => fun
  | [d1, d2, d3, d4] => { results := [.lit (.bool true)], args := [d1, d2, d3, d4] }
  | _ => none }
def blockFreeRow : OpenClaim := { program := "ytpgkkengffpnpaagreat", sum := "767f89cac33056a9f3c4f6a91dcf4956a5d3dccc3dabf454c38085105a9d1e79", func := "twistlock/twistlocklaw22.BlockFree", spec := "blockFree", inPlace := ["slices.overlaps[int]", "slices.overlaps[twistlock/api.Stowed]"], unfollowed := true, recurses := true, plainKeys := false, apart := false }
def BlockFreeSaid : Prop := blockFreeRow.holds Tryz.pinned (OpenSpec.ofChange blockFreeSpec)

/-- ITS FALSE NEIGHBOUR: 'it returns false'. Refute it at one input. -/
def blockFreeWrong : ChangeSpec := { name := "blockFree", fn := fun _ => fun
  | [d1, d2, d3, d4] => { results := [.lit (.bool false)], args := [d1, d2, d3, d4] }
  | _ => none }
def BlockFreeWrongFalsely : Prop := blockFreeRow.holds Tryz.pinned (OpenSpec.ofChange blockFreeWrong)

/-- 'twistlocklaw22.BlockWrong': WHATEVER THE INPUT: true; the input reads as it did. -/
def blockWrongSpec : ChangeSpec := { name := "blockWrong", fn := fun _ => fun
  | [d1, d2, d3, d4] => { results := [.lit (.bool true)], args := [d1, d2, d3, d4] }
  | _ => none }
def blockWrongRow : OpenClaim := { program := "ytpgkkengffpnpaagreat", sum := "767f89cac33056a9f3c4f6a91dcf4956a5d3dccc3dabf454c38085105a9d1e79", func := "twistlock/twistlocklaw22.BlockWrong", spec := "blockWrong", inPlace := ["slices.overlaps[int]", "slices.overlaps[twistlock/api.Stowed]"], unfollowed := true, recurses := true, plainKeys := false, apart := false }
def BlockWrongSaid : Prop := blockWrongRow.holds Tryz.pinned (OpenSpec.ofChange blockWrongSpec)

/-- ITS FALSE NEIGHBOUR: 'it returns false'. Refute it at one input. -/
def blockWrongWrong : ChangeSpec := { name := "blockWrong", fn := fun _ => fun
  | [d1, d2, d3, d4] => { results := [.lit (.bool false)], args := [d1, d2, d3, d4] }
  | _ => none }
def BlockWrongWrongFalsely : Prop := blockWrongRow.holds Tryz.pinned (OpenSpec.ofChange blockWrongWrong)

/-- 'twistlocklaw22.BlockLess': WHATEVER THE INPUT: true; the input reads as it did. -/
def blockLessSpec : ChangeSpec := { name := "blockLess", fn := fun _ => fun
  | [d1, d2, d3] => { results := [.lit (.bool true)], args := [d1, d2, d3] }
  | _ => none }
def blockLessRow : OpenClaim := { program := "ytpgkkengffpnpaagreat", sum := "767f89cac33056a9f3c4f6a91dcf4956a5d3dccc3dabf454c38085105a9d1e79", func := "twistlock/twistlocklaw22.BlockLess", spec := "blockLess", inPlace := ["slices.overlaps[int]", "slices.overlaps[twistlock/api.Stowed]"], unfollowed := true, recurses := true, plainKeys := false, apart := false }
def BlockLessSaid : Prop := blockLessRow.holds Tryz.pinned (OpenSpec.ofChange blockLessSpec)

/-- ITS FALSE NEIGHBOUR: 'it returns false'. Refute it at one input. -/
def blockLessWrong : ChangeSpec := { name := "blockLess", fn := fun _ => fun
  | [d1, d2, d3] => { results := [.lit (.bool false)], args := [d1, d2, d3] }
  | _ => none }
def BlockLessWrongFalsely : Prop := blockLessRow.holds Tryz.pinned (OpenSpec.ofChange blockLessWrong)

/- THE SECOND FORM. 'bulk': how many values and letters a reading holds, each counted each time it is reached (what is shared counts as often as it is met; a slice's spare places count too). A statement '..UptoSaid' is the law's where the arguments, and the package variables that the reading takes, are together of bulk at most 1048576: NARROWER than '..Said'. Prove '..Said' where nothing that the law and all that it calls make is longer than what came in: it says more and counts as full. Else prove '..UptoSaid'. A law counts once. -/
mutual
def uptoBulk {H : Type} : DataW H → Nat
  | .lit (.string bytes) => bytes.length + 1
  | .lit _ => 1
  | .nil => 1
  | .ptr d => uptoBulk d + 1
  | .slice elems spare => uptoBulkAll elems + uptoBulkAll spare + 1
  | .agg parts => uptoBulkAll parts + 1
  | .iface _ d => uptoBulk d + 1
  | .map entries => uptoBulkEntries entries + 1
  | .held _ => 1
def uptoBulkAll {H : Type} : List (DataW H) → Nat
  | [] => 0
  | d :: r => uptoBulk d + uptoBulkAll r
def uptoBulkEntries {H : Type} : List (Lit × DataW H) → Nat
  | [] => 0
  | x :: r => uptoBulkEntry x + uptoBulkEntries r
def uptoBulkEntry {H : Type} : Lit × DataW H → Nat
  | (.string bytes, d) => bytes.length + uptoBulk d + 1
  | (_, d) => uptoBulk d + 1
 end
def uptoSmall : (H : Type) → List (DataW H) → Bool := fun _ ds => decide (uptoBulkAll ds ≤ 1048576)
def OpenSpec.upto (s : _root_.Go.ChangeSpec) : _root_.Go.OpenSpec := { _root_.Go.OpenSpec.ofChange s with cond := some uptoSmall }

/-- 'twistlocklaw22.BlockLeaves', WHERE WHAT IT READS IS OF BULK AT MOST 1048576: true; the input reads as it did. -/
def blockLeavesUptoRow : OpenClaim := { program := "ytpgkkengffpnpaagreat", sum := "767f89cac33056a9f3c4f6a91dcf4956a5d3dccc3dabf454c38085105a9d1e79", func := "twistlock/twistlocklaw22.BlockLeaves", spec := "blockLeaves", inPlace := ["slices.overlaps[int]", "slices.overlaps[twistlock/api.Stowed]"], unfollowed := true, recurses := true, plainKeys := false, apart := false, narrowed := true }
def BlockLeavesUptoSaid : Prop := blockLeavesUptoRow.holds Tryz.pinned (OpenSpec.upto blockLeavesSpec)

/-- 'twistlocklaw22.BlockPairs', WHERE WHAT IT READS IS OF BULK AT MOST 1048576: true; the input reads as it did. -/
def blockPairsUptoRow : OpenClaim := { program := "ytpgkkengffpnpaagreat", sum := "767f89cac33056a9f3c4f6a91dcf4956a5d3dccc3dabf454c38085105a9d1e79", func := "twistlock/twistlocklaw22.BlockPairs", spec := "blockPairs", inPlace := ["slices.overlaps[int]", "slices.overlaps[twistlock/api.Stowed]"], unfollowed := true, recurses := true, plainKeys := false, apart := false, narrowed := true }
def BlockPairsUptoSaid : Prop := blockPairsUptoRow.holds Tryz.pinned (OpenSpec.upto blockPairsSpec)

/-- 'twistlocklaw22.BlockFree', WHERE WHAT IT READS IS OF BULK AT MOST 1048576: true; the input reads as it did. -/
def blockFreeUptoRow : OpenClaim := { program := "ytpgkkengffpnpaagreat", sum := "767f89cac33056a9f3c4f6a91dcf4956a5d3dccc3dabf454c38085105a9d1e79", func := "twistlock/twistlocklaw22.BlockFree", spec := "blockFree", inPlace := ["slices.overlaps[int]", "slices.overlaps[twistlock/api.Stowed]"], unfollowed := true, recurses := true, plainKeys := false, apart := false, narrowed := true }
def BlockFreeUptoSaid : Prop := blockFreeUptoRow.holds Tryz.pinned (OpenSpec.upto blockFreeSpec)

/-- 'twistlocklaw22.BlockWrong', WHERE WHAT IT READS IS OF BULK AT MOST 1048576: true; the input reads as it did. -/
def blockWrongUptoRow : OpenClaim := { program := "ytpgkkengffpnpaagreat", sum := "767f89cac33056a9f3c4f6a91dcf4956a5d3dccc3dabf454c38085105a9d1e79", func := "twistlock/twistlocklaw22.BlockWrong", spec := "blockWrong", inPlace := ["slices.overlaps[int]", "slices.overlaps[twistlock/api.Stowed]"], unfollowed := true, recurses := true, plainKeys := false, apart := false, narrowed := true }
def BlockWrongUptoSaid : Prop := blockWrongUptoRow.holds Tryz.pinned (OpenSpec.upto blockWrongSpec)

/-- 'twistlocklaw22.BlockLess', WHERE WHAT IT READS IS OF BULK AT MOST 1048576: true; the input reads as it did. -/
def blockLessUptoRow : OpenClaim := { program := "ytpgkkengffpnpaagreat", sum := "767f89cac33056a9f3c4f6a91dcf4956a5d3dccc3dabf454c38085105a9d1e79", func := "twistlock/twistlocklaw22.BlockLess", spec := "blockLess", inPlace := ["slices.overlaps[int]", "slices.overlaps[twistlock/api.Stowed]"], unfollowed := true, recurses := true, plainKeys := false, apart := false, narrowed := true }
def BlockLessUptoSaid : Prop := blockLessUptoRow.holds Tryz.pinned (OpenSpec.upto blockLessSpec)

end Rows
end Go.Proofs.YtpgkkengffpnpaaGreat
