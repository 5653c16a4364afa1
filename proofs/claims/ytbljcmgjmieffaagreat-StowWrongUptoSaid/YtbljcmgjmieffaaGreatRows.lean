/-
  No cell of these rows narrows 'for every input' (looked for: loops, veiled, ifaces, maps, wideKeys, modest, calm, conditions, laid).
  DERIVED. THE GIVEN ROWS OF THIS SEAT. 4 by the template 'for every input the law returns true; each argument reads behind the call as it read before'; 0 by the template 'total and deterministic' (their statements: YtbljcmgjmieffaaGreatTotals.lean).
  GIVEN WITH THE SEED: the statements are not yours to turn. If you find one false, say at which input.
  Laid BY PROGRAM, IN A SANDBOX (cutbox-rows.mjs): the forced cells as the released guide's own fill.sh prints them over the translation 118d4dff0766dfb0… (all of the seat's roots in one cut). By AI agents, Wed Nov 11 2026. No macro, syntax, notation, axiom, sorry.
-/
import Derived.Test.YtbljcmgjmieffaaGreatChecked
import GoSem.Claim
import GoSem.ClaimJoined
import GoSem.ClaimMapViews
import Derived.JoinedTies
import Derived.KernelRfl
namespace Go.Proofs.YtbljcmgjmieffaaGreat
/- THE CELL 'sum', in the pinned program and in every row, IS THE sha256 OF THE DUMP (.gsa) THAT YtbljcmgjmieffaaGreatProg.lean LOADS. Nothing in Lean hashes anything: it is a label: what it is worth is what the hold of that sum in a sandbox is worth. -/
noncomputable def Tryz.pinned : Pinned := { name := "ytbljcmgjmieffaagreat", sum := "118d4dff0766dfb05470a77b06222638dd4c3ff669633affb7b4987dc2021e2c", checked := Tryz.checked }
namespace Rows
def none {H : Type} : Left H := { results := [], args := [] }

/-- 'twistlocklaw09.StowMore': WHATEVER THE INPUT: true; the input reads as it did. -/
def stowMoreSpec : ChangeSpec := { name := "stowMore", fn := fun _ => fun
  | [d1, d2, d3, d4, d5] => { results := [.lit (.bool true)], args := [d1, d2, d3, d4, d5] }
  | _ => none }
def stowMoreRow : OpenClaim := { program := "ytbljcmgjmieffaagreat", sum := "118d4dff0766dfb05470a77b06222638dd4c3ff669633affb7b4987dc2021e2c", func := "twistlock/twistlocklaw09.StowMore", spec := "stowMore", inPlace := ["slices.overlaps[int]", "slices.overlaps[twistlock/api.Stowed]"], unfollowed := true, recurses := true, plainKeys := false, apart := false }
def StowMoreSaid : Prop := stowMoreRow.holds Tryz.pinned (OpenSpec.ofChange stowMoreSpec)

/-- ITS FALSE NEIGHBOUR: 'it returns false'. Refute it at one input. -/
def stowMoreWrong : ChangeSpec := { name := "stowMore", fn := fun _ => fun
  | [d1, d2, d3, d4, d5] => { results := [.lit (.bool false)], args := [d1, d2, d3, d4, d5] }
  | _ => none }
def StowMoreWrongFalsely : Prop := stowMoreRow.holds Tryz.pinned (OpenSpec.ofChange stowMoreWrong)

/-- 'twistlocklaw09.StowBack': WHATEVER THE INPUT: true; the input reads as it did. -/
def stowBackSpec : ChangeSpec := { name := "stowBack", fn := fun _ => fun
  | [d1, d2, d3, d4, d5, d6] => { results := [.lit (.bool true)], args := [d1, d2, d3, d4, d5, d6] }
  | _ => none }
def stowBackRow : OpenClaim := { program := "ytbljcmgjmieffaagreat", sum := "118d4dff0766dfb05470a77b06222638dd4c3ff669633affb7b4987dc2021e2c", func := "twistlock/twistlocklaw09.StowBack", spec := "stowBack", inPlace := ["slices.overlaps[int]", "slices.overlaps[twistlock/api.Stowed]"], unfollowed := true, recurses := true, plainKeys := false, apart := false }
def StowBackSaid : Prop := stowBackRow.holds Tryz.pinned (OpenSpec.ofChange stowBackSpec)

/-- ITS FALSE NEIGHBOUR: 'it returns false'. Refute it at one input. -/
def stowBackWrong : ChangeSpec := { name := "stowBack", fn := fun _ => fun
  | [d1, d2, d3, d4, d5, d6] => { results := [.lit (.bool false)], args := [d1, d2, d3, d4, d5, d6] }
  | _ => none }
def StowBackWrongFalsely : Prop := stowBackRow.holds Tryz.pinned (OpenSpec.ofChange stowBackWrong)

/-- 'twistlocklaw09.StowCovers': WHATEVER THE INPUT: true; the input reads as it did. -/
def stowCoversSpec : ChangeSpec := { name := "stowCovers", fn := fun _ => fun
  | [d1, d2, d3, d4] => { results := [.lit (.bool true)], args := [d1, d2, d3, d4] }
  | _ => none }
def stowCoversRow : OpenClaim := { program := "ytbljcmgjmieffaagreat", sum := "118d4dff0766dfb05470a77b06222638dd4c3ff669633affb7b4987dc2021e2c", func := "twistlock/twistlocklaw09.StowCovers", spec := "stowCovers", inPlace := ["slices.overlaps[int]", "slices.overlaps[twistlock/api.Stowed]"], unfollowed := true, recurses := true, plainKeys := false, apart := false }
def StowCoversSaid : Prop := stowCoversRow.holds Tryz.pinned (OpenSpec.ofChange stowCoversSpec)

/-- ITS FALSE NEIGHBOUR: 'it returns false'. Refute it at one input. -/
def stowCoversWrong : ChangeSpec := { name := "stowCovers", fn := fun _ => fun
  | [d1, d2, d3, d4] => { results := [.lit (.bool false)], args := [d1, d2, d3, d4] }
  | _ => none }
def StowCoversWrongFalsely : Prop := stowCoversRow.holds Tryz.pinned (OpenSpec.ofChange stowCoversWrong)

/-- 'twistlocklaw09.StowWrong': WHATEVER THE INPUT: true; the input reads as it did. -/
def stowWrongSpec : ChangeSpec := { name := "stowWrong", fn := fun _ => fun
  | [d1, d2, d3, d4, d5] => { results := [.lit (.bool true)], args := [d1, d2, d3, d4, d5] }
  | _ => none }
def stowWrongRow : OpenClaim := { program := "ytbljcmgjmieffaagreat", sum := "118d4dff0766dfb05470a77b06222638dd4c3ff669633affb7b4987dc2021e2c", func := "twistlock/twistlocklaw09.StowWrong", spec := "stowWrong", inPlace := ["slices.overlaps[twistlock/api.Stowed]", "slices.overlaps[int]"], unfollowed := true, recurses := true, plainKeys := false, apart := false }
def StowWrongSaid : Prop := stowWrongRow.holds Tryz.pinned (OpenSpec.ofChange stowWrongSpec)

/-- ITS FALSE NEIGHBOUR: 'it returns false'. Refute it at one input. -/
def stowWrongWrong : ChangeSpec := { name := "stowWrong", fn := fun _ => fun
  | [d1, d2, d3, d4, d5] => { results := [.lit (.bool false)], args := [d1, d2, d3, d4, d5] }
  | _ => none }
def StowWrongWrongFalsely : Prop := stowWrongRow.holds Tryz.pinned (OpenSpec.ofChange stowWrongWrong)

/- THE SECOND FORM. 'bulk': how many values and letters a reading holds, each counted each time it is reached (what is shared counts as often as it is met; a slice's spare places count too). A statement '..UptoSaid' is the law's where the arguments, and the package variables that the reading takes, are together of bulk at most 1048576: NARROWER than '..Said'. Prove '..Said' where nothing that the law and all that it calls make is longer than what came in: it says more and counts as full. Else prove '..UptoSaid'. A law counts once. -/
mutual
def uptoBulk {H : Type} : DataW H → Nat
  | .lit (.string bytes) => bytes.length + 1
  | .lit _ => 1
  | .nil => 1
  | .ptr d => uptoBulk d + 1
  | .slice elems spare => uptoBulkAll elems + uptoBulkAll spare + 1
  | .agg parts => uptoBulkAll parts + 1
  | .iface _ d => uptoBulk d + 1
  | .map entries => uptoBulkEntries entries + 1
  | .held _ => 1
def uptoBulkAll {H : Type} : List (DataW H) → Nat
  | [] => 0
  | d :: r => uptoBulk d + uptoBulkAll r
def uptoBulkEntries {H : Type} : List (Lit × DataW H) → Nat
  | [] => 0
  | x :: r => uptoBulkEntry x + uptoBulkEntries r
def uptoBulkEntry {H : Type} : Lit × DataW H → Nat
  | (.string bytes, d) => bytes.length + uptoBulk d + 1
  | (_, d) => uptoBulk d + 1
 end
def uptoSmall : (H : Type) → List (DataW H) → Bool := fun _ ds => decide (uptoBulkAll ds ≤ 1048576)
def OpenSpec.upto (s : _root_.Go.ChangeSpec) : _root_.Go.OpenSpec := { _root_.Go.OpenSpec.ofChange s with cond := some uptoSmall }

/-- 'twistlocklaw09.StowMore', WHERE WHAT IT READS IS OF BULK AT MOST 1048576: true; the input reads as it did. -/
def stowMoreUptoRow : OpenClaim := { program := "ytbljcmgjmieffaagreat", sum := "118d4dff0766dfb05470a77b06222638dd4c3ff669633affb7b4987dc2021e2c", func := "twistlock/twistlocklaw09.StowMore", spec := "stowMore", inPlace := ["slices.overlaps[int]", "slices.overlaps[twistlock/api.Stowed]"], unfollowed := true, recurses := true, plainKeys := false, apart := false, narrowed := true }
def StowMoreUptoSaid : Prop := stowMoreUptoRow.holds Tryz.pinned (OpenSpec.upto stowMoreSpec)

/-- 'twistlocklaw09.StowBack', WHERE WHAT IT READS IS OF BULK AT MOST 1048576: true; the input reads as it did. -/
def stowBackUptoRow : OpenClaim := { program := "ytbljcmgjmieffaagreat", sum := "118d4dff0766dfb05470a77b06222638dd4c3ff669633affb7b4987dc2021e2c", func := "twistlock/twistlocklaw09.StowBack", spec := "stowBack", inPlace := ["slices.overlaps[int]", "slices.overlaps[twistlock/api.Stowed]"], unfollowed := true, recurses := true, plainKeys := false, apart := false, narrowed := true }
def StowBackUptoSaid : Prop := stowBackUptoRow.holds Tryz.pinned (OpenSpec.upto stowBackSpec)

/-- 'twistlocklaw09.StowCovers', WHERE WHAT IT READS IS OF BULK AT MOST 1048576: true; the input reads as it did. -/
def stowCoversUptoRow : OpenClaim := { program := "ytbljcmgjmieffaagreat", sum := "118d4dff0766dfb05470a77b06222638dd4c3ff669633affb7b4987dc2021e2c", func := "twistlock/twistlocklaw09.StowCovers", spec := "stowCovers", inPlace := ["slices.overlaps[int]", "slices.overlaps[twistlock/api.Stowed]"], unfollowed := true, recurses := true, plainKeys := false, apart := false, narrowed := true }
def StowCoversUptoSaid : Prop := stowCoversUptoRow.holds Tryz.pinned (OpenSpec.upto stowCoversSpec)

/-- 'twistlocklaw09.StowWrong', WHERE WHAT IT READS IS OF BULK AT MOST 1048576: true; the input reads as it did. -/
def stowWrongUptoRow : OpenClaim := { program := "ytbljcmgjmieffaagreat", sum := "118d4dff0766dfb05470a77b06222638dd4c3ff669633affb7b4987dc2021e2c", func := "twistlock/twistlocklaw09.StowWrong", spec := "stowWrong", inPlace := ["slices.overlaps[twistlock/api.Stowed]", "slices.overlaps[int]"], unfollowed := true, recurses := true, plainKeys := false, apart := false, narrowed := true }
def StowWrongUptoSaid : Prop := stowWrongUptoRow.holds Tryz.pinned (OpenSpec.upto stowWrongSpec)

end Rows
end Go.Proofs.YtbljcmgjmieffaaGreat
