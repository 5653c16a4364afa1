/-
  No cell of these rows narrows 'for every input' (looked for: loops, veiled, ifaces, maps, wideKeys, modest, calm, conditions, laid).
  DERIVED. THE GIVEN ROWS OF THIS SEAT. 7 by the template 'for every input the law returns true; each argument reads behind the call as it read before'; 0 by the template 'total and deterministic' (their statements: YtokjlondbjdlfaaTotals.lean).
  GIVEN WITH THE SEED: the statements are not yours to turn. If you find one false, say at which input.
  Laid BY PROGRAM, IN A SANDBOX (cutbox-rows.mjs): the forced cells as the released guide's own fill.sh prints them over the translation fdea509d998111a4… (all of the seat's roots in one cut). By AI agents, Wed Nov 11 2026. No macro, syntax, notation, axiom, sorry.
-/
import Derived.Test.YtokjlondbjdlfaaChecked
import GoSem.Claim
import GoSem.ClaimJoined
import GoSem.ClaimMapViews
import Derived.JoinedTies
import Derived.KernelRfl
namespace Go.Proofs.Ytokjlondbjdlfaa
/- THE CELL 'sum', in the pinned program and in every row, IS THE sha256 OF THE DUMP (.gsa) THAT YtokjlondbjdlfaaProg.lean LOADS. Nothing in Lean hashes anything: it is a label: what it is worth is what the hold of that sum in a sandbox is worth. -/
noncomputable def Try.pinned : Pinned := { name := "ytokjlondbjdlfaa", sum := "fdea509d998111a4dd394166f13f1aca7f34ce2295e76463a27d39fedc25c17d", checked := Try.checked }
namespace Rows
def none {H : Type} : Left H := { results := [], args := [] }

/-- 'twistlocklaw36.MarshalChecks': WHATEVER THE INPUT: true; the input reads as it did. -/
def marshalChecksSpec : ChangeSpec := { name := "marshalChecks", fn := fun _ => fun
  | [d1, d2, d3] => { results := [.lit (.bool true)], args := [d1, d2, d3] }
  | _ => none }
def marshalChecksRow : OpenClaim := { program := "ytokjlondbjdlfaa", sum := "fdea509d998111a4dd394166f13f1aca7f34ce2295e76463a27d39fedc25c17d", func := "twistlock/twistlocklaw36.MarshalChecks", spec := "marshalChecks", unfollowed := true, recurses := true, plainKeys := false, apart := false }
def MarshalChecksSaid : Prop := marshalChecksRow.holds Try.pinned (OpenSpec.ofChange marshalChecksSpec)

/-- ITS FALSE NEIGHBOUR: 'it returns false'. Refute it at one input. -/
def marshalChecksWrong : ChangeSpec := { name := "marshalChecks", fn := fun _ => fun
  | [d1, d2, d3] => { results := [.lit (.bool false)], args := [d1, d2, d3] }
  | _ => none }
def MarshalChecksWrongFalsely : Prop := marshalChecksRow.holds Try.pinned (OpenSpec.ofChange marshalChecksWrong)

/-- 'twistlocklaw36.MarshalLeast': WHATEVER THE INPUT: true; the input reads as it did. -/
def marshalLeastSpec : ChangeSpec := { name := "marshalLeast", fn := fun _ => fun
  | [d1, d2] => { results := [.lit (.bool true)], args := [d1, d2] }
  | _ => none }
def marshalLeastRow : OpenClaim := { program := "ytokjlondbjdlfaa", sum := "fdea509d998111a4dd394166f13f1aca7f34ce2295e76463a27d39fedc25c17d", func := "twistlock/twistlocklaw36.MarshalLeast", spec := "marshalLeast", unfollowed := true, recurses := true, plainKeys := false, apart := false }
def MarshalLeastSaid : Prop := marshalLeastRow.holds Try.pinned (OpenSpec.ofChange marshalLeastSpec)

/-- ITS FALSE NEIGHBOUR: 'it returns false'. Refute it at one input. -/
def marshalLeastWrong : ChangeSpec := { name := "marshalLeast", fn := fun _ => fun
  | [d1, d2] => { results := [.lit (.bool false)], args := [d1, d2] }
  | _ => none }
def MarshalLeastWrongFalsely : Prop := marshalLeastRow.holds Try.pinned (OpenSpec.ofChange marshalLeastWrong)

/-- 'twistlocklaw36.MarshalFewest': WHATEVER THE INPUT: true; the input reads as it did. -/
def marshalFewestSpec : ChangeSpec := { name := "marshalFewest", fn := fun _ => fun
  | [d1, d2, d3, d4] => { results := [.lit (.bool true)], args := [d1, d2, d3, d4] }
  | _ => none }
def marshalFewestRow : OpenClaim := { program := "ytokjlondbjdlfaa", sum := "fdea509d998111a4dd394166f13f1aca7f34ce2295e76463a27d39fedc25c17d", func := "twistlock/twistlocklaw36.MarshalFewest", spec := "marshalFewest", unfollowed := true, recurses := true, plainKeys := false, apart := false }
def MarshalFewestSaid : Prop := marshalFewestRow.holds Try.pinned (OpenSpec.ofChange marshalFewestSpec)

/-- ITS FALSE NEIGHBOUR: 'it returns false'. Refute it at one input. -/
def marshalFewestWrong : ChangeSpec := { name := "marshalFewest", fn := fun _ => fun
  | [d1, d2, d3, d4] => { results := [.lit (.bool false)], args := [d1, d2, d3, d4] }
  | _ => none }
def MarshalFewestWrongFalsely : Prop := marshalFewestRow.holds Try.pinned (OpenSpec.ofChange marshalFewestWrong)

/-- 'twistlocklaw36.MarshalArranges': WHATEVER THE INPUT: true; the input reads as it did. -/
def marshalArrangesSpec : ChangeSpec := { name := "marshalArranges", fn := fun _ => fun
  | [d1, d2] => { results := [.lit (.bool true)], args := [d1, d2] }
  | _ => none }
def marshalArrangesRow : OpenClaim := { program := "ytokjlondbjdlfaa", sum := "fdea509d998111a4dd394166f13f1aca7f34ce2295e76463a27d39fedc25c17d", func := "twistlock/twistlocklaw36.MarshalArranges", spec := "marshalArranges", unfollowed := true, recurses := true, plainKeys := false, apart := false }
def MarshalArrangesSaid : Prop := marshalArrangesRow.holds Try.pinned (OpenSpec.ofChange marshalArrangesSpec)

/-- ITS FALSE NEIGHBOUR: 'it returns false'. Refute it at one input. -/
def marshalArrangesWrong : ChangeSpec := { name := "marshalArranges", fn := fun _ => fun
  | [d1, d2] => { results := [.lit (.bool false)], args := [d1, d2] }
  | _ => none }
def MarshalArrangesWrongFalsely : Prop := marshalArrangesRow.holds Try.pinned (OpenSpec.ofChange marshalArrangesWrong)

/-- 'twistlocklaw36.MarshalWrong': WHATEVER THE INPUT: true; the input reads as it did. -/
def marshalWrongSpec : ChangeSpec := { name := "marshalWrong", fn := fun _ => fun
  | [d1, d2, d3, d4, d5] => { results := [.lit (.bool true)], args := [d1, d2, d3, d4, d5] }
  | _ => none }
def marshalWrongRow : OpenClaim := { program := "ytokjlondbjdlfaa", sum := "fdea509d998111a4dd394166f13f1aca7f34ce2295e76463a27d39fedc25c17d", func := "twistlock/twistlocklaw36.MarshalWrong", spec := "marshalWrong", unfollowed := true, recurses := true, plainKeys := false, apart := false }
def MarshalWrongSaid : Prop := marshalWrongRow.holds Try.pinned (OpenSpec.ofChange marshalWrongSpec)

/-- ITS FALSE NEIGHBOUR: 'it returns false'. Refute it at one input. -/
def marshalWrongWrong : ChangeSpec := { name := "marshalWrong", fn := fun _ => fun
  | [d1, d2, d3, d4, d5] => { results := [.lit (.bool false)], args := [d1, d2, d3, d4, d5] }
  | _ => none }
def MarshalWrongWrongFalsely : Prop := marshalWrongRow.holds Try.pinned (OpenSpec.ofChange marshalWrongWrong)

/-- 'twistlocklaw36.MarshalBounds': WHATEVER THE INPUT: true; the input reads as it did. -/
def marshalBoundsSpec : ChangeSpec := { name := "marshalBounds", fn := fun _ => fun
  | [d1, d2, d3, d4, d5] => { results := [.lit (.bool true)], args := [d1, d2, d3, d4, d5] }
  | _ => none }
def marshalBoundsRow : OpenClaim := { program := "ytokjlondbjdlfaa", sum := "fdea509d998111a4dd394166f13f1aca7f34ce2295e76463a27d39fedc25c17d", func := "twistlock/twistlocklaw36.MarshalBounds", spec := "marshalBounds", unfollowed := true, recurses := true, plainKeys := false, apart := false }
def MarshalBoundsSaid : Prop := marshalBoundsRow.holds Try.pinned (OpenSpec.ofChange marshalBoundsSpec)

/-- ITS FALSE NEIGHBOUR: 'it returns false'. Refute it at one input. -/
def marshalBoundsWrong : ChangeSpec := { name := "marshalBounds", fn := fun _ => fun
  | [d1, d2, d3, d4, d5] => { results := [.lit (.bool false)], args := [d1, d2, d3, d4, d5] }
  | _ => none }
def MarshalBoundsWrongFalsely : Prop := marshalBoundsRow.holds Try.pinned (OpenSpec.ofChange marshalBoundsWrong)

/-- 'twistlocklaw36.MarshalHelps': WHATEVER THE INPUT: true; the input reads as it did. -/
def marshalHelpsSpec : ChangeSpec := { name := "marshalHelps", fn := fun _ => fun
  | [d1, d2, d3, d4] => { results := [.lit (.bool true)], args := [d1, d2, d3, d4] }
  | _ => none }
def marshalHelpsRow : OpenClaim := { program := "ytokjlondbjdlfaa", sum := "fdea509d998111a4dd394166f13f1aca7f34ce2295e76463a27d39fedc25c17d", func := "twistlock/twistlocklaw36.MarshalHelps", spec := "marshalHelps", unfollowed := true, recurses := true, plainKeys := false, apart := false }
def MarshalHelpsSaid : Prop := marshalHelpsRow.holds Try.pinned (OpenSpec.ofChange marshalHelpsSpec)

/-- ITS FALSE NEIGHBOUR: 'it returns false'. Refute it at one input. -/
def marshalHelpsWrong : ChangeSpec := { name := "marshalHelps", fn := fun _ => fun
  | [d1, d2, d3, d4] => { results := [.lit (.bool false)], args := [d1, d2, d3, d4] }
  | _ => none }
def MarshalHelpsWrongFalsely : Prop := marshalHelpsRow.holds Try.pinned (OpenSpec.ofChange marshalHelpsWrong)

/- THE SECOND FORM. 'bulk': how many values and letters a reading holds, each counted each time it is reached (what is shared counts as often as it is met; a slice's spare places count too). A statement '..UptoSaid' is the law's where the arguments, and the package variables that the reading takes, are together of bulk at most 1048576: NARROWER than '..Said'. Prove '..Said' where nothing that the law and all that it calls make is longer than what came in: it says more and counts as full. Else prove '..UptoSaid'. A law counts once. -/
mutual
def uptoBulk {H : Type} : DataW H → Nat
  | .lit (.string bytes) => bytes.length + 1
  | .lit _ => 1
  | .nil => 1
  | .ptr d => uptoBulk d + 1
  | .slice elems spare => uptoBulkAll elems + uptoBulkAll spare + 1
  | .agg parts => uptoBulkAll parts + 1
  | .iface _ d => uptoBulk d + 1
  | .map entries => uptoBulkEntries entries + 1
  | .held _ => 1
def uptoBulkAll {H : Type} : List (DataW H) → Nat
  | [] => 0
  | d :: r => uptoBulk d + uptoBulkAll r
def uptoBulkEntries {H : Type} : List (Lit × DataW H) → Nat
  | [] => 0
  | x :: r => uptoBulkEntry x + uptoBulkEntries r
def uptoBulkEntry {H : Type} : Lit × DataW H → Nat
  | (.string bytes, d) => bytes.length + uptoBulk d + 1
  | (_, d) => uptoBulk d + 1
 end
def uptoSmall : (H : Type) → List (DataW H) → Bool := fun _ ds => decide (uptoBulkAll ds ≤ 1048576)
def OpenSpec.upto (s : _root_.Go.ChangeSpec) : _root_.Go.OpenSpec := { _root_.Go.OpenSpec.ofChange s with cond := some uptoSmall }

/-- 'twistlocklaw36.MarshalChecks', WHERE WHAT IT READS IS OF BULK AT MOST 1048576: true; the input reads as it did. -/
def marshalChecksUptoRow : OpenClaim := { program := "ytokjlondbjdlfaa", sum := "fdea509d998111a4dd394166f13f1aca7f34ce2295e76463a27d39fedc25c17d", func := "twistlock/twistlocklaw36.MarshalChecks", spec := "marshalChecks", unfollowed := true, recurses := true, plainKeys := false, apart := false, narrowed := true }
def MarshalChecksUptoSaid : Prop := marshalChecksUptoRow.holds Try.pinned (OpenSpec.upto marshalChecksSpec)

/-- 'twistlocklaw36.MarshalLeast', WHERE WHAT IT READS IS OF BULK AT MOST 1048576: true; the input reads as it did. -/
def marshalLeastUptoRow : OpenClaim := { program := "ytokjlondbjdlfaa", sum := "fdea509d998111a4dd394166f13f1aca7f34ce2295e76463a27d39fedc25c17d", func := "twistlock/twistlocklaw36.MarshalLeast", spec := "marshalLeast", unfollowed := true, recurses := true, plainKeys := false, apart := false, narrowed := true }
def MarshalLeastUptoSaid : Prop := marshalLeastUptoRow.holds Try.pinned (OpenSpec.upto marshalLeastSpec)

/-- 'twistlocklaw36.MarshalFewest', WHERE WHAT IT READS IS OF BULK AT MOST 1048576: true; the input reads as it did. -/
def marshalFewestUptoRow : OpenClaim := { program := "ytokjlondbjdlfaa", sum := "fdea509d998111a4dd394166f13f1aca7f34ce2295e76463a27d39fedc25c17d", func := "twistlock/twistlocklaw36.MarshalFewest", spec := "marshalFewest", unfollowed := true, recurses := true, plainKeys := false, apart := false, narrowed := true }
def MarshalFewestUptoSaid : Prop := marshalFewestUptoRow.holds Try.pinned (OpenSpec.upto marshalFewestSpec)

/-- 'twistlocklaw36.MarshalArranges', WHERE WHAT IT READS IS OF BULK AT MOST 1048576: true; the input reads as it did. -/
def marshalArrangesUptoRow : OpenClaim := { program := "ytokjlondbjdlfaa", sum := "fdea509d998111a4dd394166f13f1aca7f34ce2295e76463a27d39fedc25c17d", func := "twistlock/twistlocklaw36.MarshalArranges", spec := "marshalArranges", unfollowed := true, recurses := true, plainKeys := false, apart := false, narrowed := true }
def MarshalArrangesUptoSaid : Prop := marshalArrangesUptoRow.holds Try.pinned (OpenSpec.upto marshalArrangesSpec)

/-- 'twistlocklaw36.MarshalWrong', WHERE WHAT IT READS IS OF BULK AT MOST 1048576: true; the input reads as it did. -/
def marshalWrongUptoRow : OpenClaim := { program := "ytokjlondbjdlfaa", sum := "fdea509d998111a4dd394166f13f1aca7f34ce2295e76463a27d39fedc25c17d", func := "twistlock/twistlocklaw36.MarshalWrong", spec := "marshalWrong", unfollowed := true, recurses := true, plainKeys := false, apart := false, narrowed := true }
def MarshalWrongUptoSaid : Prop := marshalWrongUptoRow.holds Try.pinned (OpenSpec.upto marshalWrongSpec)

/-- 'twistlocklaw36.MarshalBounds', WHERE WHAT IT READS IS OF BULK AT MOST 1048576: true; the input reads as it did. -/
def marshalBoundsUptoRow : OpenClaim := { program := "ytokjlondbjdlfaa", sum := "fdea509d998111a4dd394166f13f1aca7f34ce2295e76463a27d39fedc25c17d", func := "twistlock/twistlocklaw36.MarshalBounds", spec := "marshalBounds", unfollowed := true, recurses := true, plainKeys := false, apart := false, narrowed := true }
def MarshalBoundsUptoSaid : Prop := marshalBoundsUptoRow.holds Try.pinned (OpenSpec.upto marshalBoundsSpec)

/-- 'twistlocklaw36.MarshalHelps', WHERE WHAT IT READS IS OF BULK AT MOST 1048576: true; the input reads as it did. -/
def marshalHelpsUptoRow : OpenClaim := { program := "ytokjlondbjdlfaa", sum := "fdea509d998111a4dd394166f13f1aca7f34ce2295e76463a27d39fedc25c17d", func := "twistlock/twistlocklaw36.MarshalHelps", spec := "marshalHelps", unfollowed := true, recurses := true, plainKeys := false, apart := false, narrowed := true }
def MarshalHelpsUptoSaid : Prop := marshalHelpsUptoRow.holds Try.pinned (OpenSpec.upto marshalHelpsSpec)

end Rows
end Go.Proofs.Ytokjlondbjdlfaa
