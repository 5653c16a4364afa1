/-
  No cell of these rows narrows 'for every input' (looked for: loops, veiled, ifaces, maps, wideKeys, modest, calm, conditions, laid).
  DERIVED. THE GIVEN ROWS OF THIS SEAT. 4 by the template 'for every input the law returns true; each argument reads behind the call as it read before'; 0 by the template 'total and deterministic' (their statements: YtibhpogonkdiaaaGreatTotals.lean).
  GIVEN WITH THE SEED: the statements are not yours to turn. If you find one false, say at which input.
  Laid BY PROGRAM, IN A SANDBOX (cutbox-rows.mjs): the forced cells as the released guide's own fill.sh prints them over the translation 924c8b7c9f779c8c… (all of the seat's roots in one cut). By AI agents, Wed Nov 11 2026. No macro, syntax, notation, axiom, sorry.
-/
import Derived.Test.YtibhpogonkdiaaaGreatChecked
import GoSem.Claim
import GoSem.ClaimJoined
import GoSem.ClaimMapViews
import Derived.JoinedTies
import Derived.KernelRfl
namespace Go.Proofs.YtibhpogonkdiaaaGreat
/- THE CELL 'sum', in the pinned program and in every row, IS THE sha256 OF THE DUMP (.gsa) THAT YtibhpogonkdiaaaGreatProg.lean LOADS. Nothing in Lean hashes anything: it is a label: what it is worth is what the hold of that sum in a sandbox is worth. -/
noncomputable def Tryz.pinned : Pinned := { name := "ytibhpogonkdiaaagreat", sum := "924c8b7c9f779c8ca0786977a9403dc48b1fd740318c59447fccb7493a35397a", checked := Tryz.checked }
namespace Rows
def none {H : Type} : Left H := { results := [], args := [] }

/-- 'twistlocklaw28.SearchWrong': WHATEVER THE INPUT: true; the input reads as it did. -/
def searchWrongSpec : ChangeSpec := { name := "searchWrong", fn := fun _ => fun
  | [d1, d2, d3] => { results := [.lit (.bool true)], args := [d1, d2, d3] }
  | _ => none }
def searchWrongRow : OpenClaim := { program := "ytibhpogonkdiaaagreat", sum := "924c8b7c9f779c8ca0786977a9403dc48b1fd740318c59447fccb7493a35397a", func := "twistlock/twistlocklaw28.SearchWrong", spec := "searchWrong", unfollowed := true, recurses := true, plainKeys := false, apart := false }
def SearchWrongSaid : Prop := searchWrongRow.holds Tryz.pinned (OpenSpec.ofChange searchWrongSpec)

/-- ITS FALSE NEIGHBOUR: 'it returns false'. Refute it at one input. -/
def searchWrongWrong : ChangeSpec := { name := "searchWrong", fn := fun _ => fun
  | [d1, d2, d3] => { results := [.lit (.bool false)], args := [d1, d2, d3] }
  | _ => none }
def SearchWrongWrongFalsely : Prop := searchWrongRow.holds Tryz.pinned (OpenSpec.ofChange searchWrongWrong)

/-- 'twistlocklaw28.SearchNone': WHATEVER THE INPUT: true; the input reads as it did. -/
def searchNoneSpec : ChangeSpec := { name := "searchNone", fn := fun _ => fun
  | [d1, d2, d3, d4, d5] => { results := [.lit (.bool true)], args := [d1, d2, d3, d4, d5] }
  | _ => none }
def searchNoneRow : OpenClaim := { program := "ytibhpogonkdiaaagreat", sum := "924c8b7c9f779c8ca0786977a9403dc48b1fd740318c59447fccb7493a35397a", func := "twistlock/twistlocklaw28.SearchNone", spec := "searchNone", unfollowed := true, recurses := true, plainKeys := false, apart := false }
def SearchNoneSaid : Prop := searchNoneRow.holds Tryz.pinned (OpenSpec.ofChange searchNoneSpec)

/-- ITS FALSE NEIGHBOUR: 'it returns false'. Refute it at one input. -/
def searchNoneWrong : ChangeSpec := { name := "searchNone", fn := fun _ => fun
  | [d1, d2, d3, d4, d5] => { results := [.lit (.bool false)], args := [d1, d2, d3, d4, d5] }
  | _ => none }
def SearchNoneWrongFalsely : Prop := searchNoneRow.holds Tryz.pinned (OpenSpec.ofChange searchNoneWrong)

/-- 'twistlocklaw28.SearchAll': WHATEVER THE INPUT: true; the input reads as it did. -/
def searchAllSpec : ChangeSpec := { name := "searchAll", fn := fun _ => fun
  | [d1, d2, d3, d4] => { results := [.lit (.bool true)], args := [d1, d2, d3, d4] }
  | _ => none }
def searchAllRow : OpenClaim := { program := "ytibhpogonkdiaaagreat", sum := "924c8b7c9f779c8ca0786977a9403dc48b1fd740318c59447fccb7493a35397a", func := "twistlock/twistlocklaw28.SearchAll", spec := "searchAll", unfollowed := true, recurses := true, plainKeys := false, apart := false }
def SearchAllSaid : Prop := searchAllRow.holds Tryz.pinned (OpenSpec.ofChange searchAllSpec)

/-- ITS FALSE NEIGHBOUR: 'it returns false'. Refute it at one input. -/
def searchAllWrong : ChangeSpec := { name := "searchAll", fn := fun _ => fun
  | [d1, d2, d3, d4] => { results := [.lit (.bool false)], args := [d1, d2, d3, d4] }
  | _ => none }
def SearchAllWrongFalsely : Prop := searchAllRow.holds Tryz.pinned (OpenSpec.ofChange searchAllWrong)

/-- 'twistlocklaw28.SearchLeast': WHATEVER THE INPUT: true; the input reads as it did. -/
def searchLeastSpec : ChangeSpec := { name := "searchLeast", fn := fun _ => fun
  | [d1, d2, d3, d4, d5] => { results := [.lit (.bool true)], args := [d1, d2, d3, d4, d5] }
  | _ => none }
def searchLeastRow : OpenClaim := { program := "ytibhpogonkdiaaagreat", sum := "924c8b7c9f779c8ca0786977a9403dc48b1fd740318c59447fccb7493a35397a", func := "twistlock/twistlocklaw28.SearchLeast", spec := "searchLeast", unfollowed := true, recurses := true, plainKeys := false, apart := false }
def SearchLeastSaid : Prop := searchLeastRow.holds Tryz.pinned (OpenSpec.ofChange searchLeastSpec)

/-- ITS FALSE NEIGHBOUR: 'it returns false'. Refute it at one input. -/
def searchLeastWrong : ChangeSpec := { name := "searchLeast", fn := fun _ => fun
  | [d1, d2, d3, d4, d5] => { results := [.lit (.bool false)], args := [d1, d2, d3, d4, d5] }
  | _ => none }
def SearchLeastWrongFalsely : Prop := searchLeastRow.holds Tryz.pinned (OpenSpec.ofChange searchLeastWrong)

/- THE SECOND FORM. 'bulk': how many values and letters a reading holds, each counted each time it is reached (what is shared counts as often as it is met; a slice's spare places count too). A statement '..UptoSaid' is the law's where the arguments, and the package variables that the reading takes, are together of bulk at most 1048576: NARROWER than '..Said'. Prove '..Said' where nothing that the law and all that it calls make is longer than what came in: it says more and counts as full. Else prove '..UptoSaid'. A law counts once. -/
mutual
def uptoBulk {H : Type} : DataW H → Nat
  | .lit (.string bytes) => bytes.length + 1
  | .lit _ => 1
  | .nil => 1
  | .ptr d => uptoBulk d + 1
  | .slice elems spare => uptoBulkAll elems + uptoBulkAll spare + 1
  | .agg parts => uptoBulkAll parts + 1
  | .iface _ d => uptoBulk d + 1
  | .map entries => uptoBulkEntries entries + 1
  | .held _ => 1
def uptoBulkAll {H : Type} : List (DataW H) → Nat
  | [] => 0
  | d :: r => uptoBulk d + uptoBulkAll r
def uptoBulkEntries {H : Type} : List (Lit × DataW H) → Nat
  | [] => 0
  | x :: r => uptoBulkEntry x + uptoBulkEntries r
def uptoBulkEntry {H : Type} : Lit × DataW H → Nat
  | (.string bytes, d) => bytes.length + uptoBulk d + 1
  | (_, d) => uptoBulk d + 1
 end
def uptoSmall : (H : Type) → List (DataW H) → Bool := fun _ ds => decide (uptoBulkAll ds ≤ 1048576)
def OpenSpec.upto (s : _root_.Go.ChangeSpec) : _root_.Go.OpenSpec := { _root_.Go.OpenSpec.ofChange s with cond := some uptoSmall }

/-- 'twistlocklaw28.SearchWrong', WHERE WHAT IT READS IS OF BULK AT MOST 1048576: true; the input reads as it did. -/
def searchWrongUptoRow : OpenClaim := { program := "ytibhpogonkdiaaagreat", sum := "924c8b7c9f779c8ca0786977a9403dc48b1fd740318c59447fccb7493a35397a", func := "twistlock/twistlocklaw28.SearchWrong", spec := "searchWrong", unfollowed := true, recurses := true, plainKeys := false, apart := false, narrowed := true }
def SearchWrongUptoSaid : Prop := searchWrongUptoRow.holds Tryz.pinned (OpenSpec.upto searchWrongSpec)

/-- 'twistlocklaw28.SearchNone', WHERE WHAT IT READS IS OF BULK AT MOST 1048576: true; the input reads as it did. -/
def searchNoneUptoRow : OpenClaim := { program := "ytibhpogonkdiaaagreat", sum := "924c8b7c9f779c8ca0786977a9403dc48b1fd740318c59447fccb7493a35397a", func := "twistlock/twistlocklaw28.SearchNone", spec := "searchNone", unfollowed := true, recurses := true, plainKeys := false, apart := false, narrowed := true }
def SearchNoneUptoSaid : Prop := searchNoneUptoRow.holds Tryz.pinned (OpenSpec.upto searchNoneSpec)

/-- 'twistlocklaw28.SearchAll', WHERE WHAT IT READS IS OF BULK AT MOST 1048576: true; the input reads as it did. -/
def searchAllUptoRow : OpenClaim := { program := "ytibhpogonkdiaaagreat", sum := "924c8b7c9f779c8ca0786977a9403dc48b1fd740318c59447fccb7493a35397a", func := "twistlock/twistlocklaw28.SearchAll", spec := "searchAll", unfollowed := true, recurses := true, plainKeys := false, apart := false, narrowed := true }
def SearchAllUptoSaid : Prop := searchAllUptoRow.holds Tryz.pinned (OpenSpec.upto searchAllSpec)

/-- 'twistlocklaw28.SearchLeast', WHERE WHAT IT READS IS OF BULK AT MOST 1048576: true; the input reads as it did. -/
def searchLeastUptoRow : OpenClaim := { program := "ytibhpogonkdiaaagreat", sum := "924c8b7c9f779c8ca0786977a9403dc48b1fd740318c59447fccb7493a35397a", func := "twistlock/twistlocklaw28.SearchLeast", spec := "searchLeast", unfollowed := true, recurses := true, plainKeys := false, apart := false, narrowed := true }
def SearchLeastUptoSaid : Prop := searchLeastUptoRow.holds Tryz.pinned (OpenSpec.upto searchLeastSpec)

end Rows
end Go.Proofs.YtibhpogonkdiaaaGreat
