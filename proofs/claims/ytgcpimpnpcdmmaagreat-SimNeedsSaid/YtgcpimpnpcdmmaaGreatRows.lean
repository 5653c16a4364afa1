/-
  No cell of these rows narrows 'for every input' (looked for: loops, veiled, ifaces, maps, wideKeys, modest, calm, conditions, laid).
  DERIVED. THE GIVEN ROWS OF THIS SEAT. 3 by the template 'for every input the law returns true; each argument reads behind the call as it read before'; 0 by the template 'total and deterministic' (their statements: YtgcpimpnpcdmmaaGreatTotals.lean).
  GIVEN WITH THE SEED: the statements are not yours to turn. If you find one false, say at which input.
  Laid BY PROGRAM, IN A SANDBOX (cutbox-rows.mjs): the forced cells as the released guide's own fill.sh prints them over the translation dc90076d6ebee80c… (all of the seat's roots in one cut). By AI agents, Wed Nov 11 2026. No macro, syntax, notation, axiom, sorry.
-/
import Derived.Test.YtgcpimpnpcdmmaaGreatChecked
import GoSem.Claim
import GoSem.ClaimJoined
import GoSem.ClaimMapViews
import Derived.JoinedTies
import Derived.KernelRfl
namespace Go.Proofs.YtgcpimpnpcdmmaaGreat
/- THE CELL 'sum', in the pinned program and in every row, IS THE sha256 OF THE DUMP (.gsa) THAT YtgcpimpnpcdmmaaGreatProg.lean LOADS. Nothing in Lean hashes anything: it is a label: what it is worth is what the hold of that sum in a sandbox is worth. -/
noncomputable def Tryz.pinned : Pinned := { name := "ytgcpimpnpcdmmaagreat", sum := "dc90076d6ebee80cf6f96cb266a74de9071d85faeb873dc187d5a7548a3ca634", checked := Tryz.checked }
namespace Rows
def none {H : Type} : Left H := { results := [], args := [] }

/-- 'twistlocklaw31.SimLifted': WHATEVER THE INPUT: true; the input reads as it did. -/
def simLiftedSpec : ChangeSpec := { name := "simLifted", fn := fun _ => fun
  | [d1, d2, d3, d4] => { results := [.lit (.bool true)], args := [d1, d2, d3, d4] }
  | _ => none }
def simLiftedRow : OpenClaim := { program := "ytgcpimpnpcdmmaagreat", sum := "dc90076d6ebee80cf6f96cb266a74de9071d85faeb873dc187d5a7548a3ca634", func := "twistlock/twistlocklaw31.SimLifted", spec := "simLifted", unfollowed := true, recurses := true, plainKeys := false, apart := false }
def SimLiftedSaid : Prop := simLiftedRow.holds Tryz.pinned (OpenSpec.ofChange simLiftedSpec)

/-- ITS FALSE NEIGHBOUR: 'it returns false'. Refute it at one input. -/
def simLiftedWrong : ChangeSpec := { name := "simLifted", fn := fun _ => fun
  | [d1, d2, d3, d4] => { results := [.lit (.bool false)], args := [d1, d2, d3, d4] }
  | _ => none }
def SimLiftedWrongFalsely : Prop := simLiftedRow.holds Tryz.pinned (OpenSpec.ofChange simLiftedWrong)

/-- 'twistlocklaw31.SimCalls': WHATEVER THE INPUT: true; the input reads as it did. -/
def simCallsSpec : ChangeSpec := { name := "simCalls", fn := fun _ => fun
  | [d1, d2, d3] => { results := [.lit (.bool true)], args := [d1, d2, d3] }
  | _ => none }
def simCallsRow : OpenClaim := { program := "ytgcpimpnpcdmmaagreat", sum := "dc90076d6ebee80cf6f96cb266a74de9071d85faeb873dc187d5a7548a3ca634", func := "twistlock/twistlocklaw31.SimCalls", spec := "simCalls", unfollowed := true, recurses := true, plainKeys := false, apart := false }
def SimCallsSaid : Prop := simCallsRow.holds Tryz.pinned (OpenSpec.ofChange simCallsSpec)

/-- ITS FALSE NEIGHBOUR: 'it returns false'. Refute it at one input. -/
def simCallsWrong : ChangeSpec := { name := "simCalls", fn := fun _ => fun
  | [d1, d2, d3] => { results := [.lit (.bool false)], args := [d1, d2, d3] }
  | _ => none }
def SimCallsWrongFalsely : Prop := simCallsRow.holds Tryz.pinned (OpenSpec.ofChange simCallsWrong)

/-- 'twistlocklaw31.SimNeeds': WHATEVER THE INPUT: true; the input reads as it did. -/
def simNeedsSpec : ChangeSpec := { name := "simNeeds", fn := fun _ => fun
  | [d1, d2, d3, d4, d5] => { results := [.lit (.bool true)], args := [d1, d2, d3, d4, d5] }
  | _ => none }
def simNeedsRow : OpenClaim := { program := "ytgcpimpnpcdmmaagreat", sum := "dc90076d6ebee80cf6f96cb266a74de9071d85faeb873dc187d5a7548a3ca634", func := "twistlock/twistlocklaw31.SimNeeds", spec := "simNeeds", unfollowed := true, recurses := true, plainKeys := false, apart := false }
def SimNeedsSaid : Prop := simNeedsRow.holds Tryz.pinned (OpenSpec.ofChange simNeedsSpec)

/-- ITS FALSE NEIGHBOUR: 'it returns false'. Refute it at one input. -/
def simNeedsWrong : ChangeSpec := { name := "simNeeds", fn := fun _ => fun
  | [d1, d2, d3, d4, d5] => { results := [.lit (.bool false)], args := [d1, d2, d3, d4, d5] }
  | _ => none }
def SimNeedsWrongFalsely : Prop := simNeedsRow.holds Tryz.pinned (OpenSpec.ofChange simNeedsWrong)

/- THE SECOND FORM. 'bulk': how many values and letters a reading holds, each counted each time it is reached (what is shared counts as often as it is met; a slice's spare places count too). A statement '..UptoSaid' is the law's where the arguments, and the package variables that the reading takes, are together of bulk at most 1048576: NARROWER than '..Said'. Prove '..Said' where nothing that the law and all that it calls make is longer than what came in: it says more and counts as full. Else prove '..UptoSaid'. A law counts once. -/
mutual
def uptoBulk {H : Type} : DataW H → Nat
  | .lit (.string bytes) => bytes.length + 1
  | .lit _ => 1
  | .nil => 1
  | .ptr d => uptoBulk d + 1
  | .slice elems spare => uptoBulkAll elems + uptoBulkAll spare + 1
  | .agg parts => uptoBulkAll parts + 1
  | .iface _ d => uptoBulk d + 1
  | .map entries => uptoBulkEntries entries + 1
  | .held _ => 1
def uptoBulkAll {H : Type} : List (DataW H) → Nat
  | [] => 0
  | d :: r => uptoBulk d + uptoBulkAll r
def uptoBulkEntries {H : Type} : List (Lit × DataW H) → Nat
  | [] => 0
  | x :: r => uptoBulkEntry x + uptoBulkEntries r
def uptoBulkEntry {H : Type} : Lit × DataW H → Nat
  | (.string bytes, d) => bytes.length + uptoBulk d + 1
  | (_, d) => uptoBulk d + 1
 end
def uptoSmall : (H : Type) → List (DataW H) → Bool := fun _ ds => decide (uptoBulkAll ds ≤ 1048576)
def OpenSpec.upto (s : _root_.Go.ChangeSpec) : _root_.Go.OpenSpec := { _root_.Go.OpenSpec.ofChange s with cond := some uptoSmall }

/-- 'twistlocklaw31.SimLifted', WHERE WHAT IT READS IS OF BULK AT MOST 1048576: true; the input reads as it did. -/
def simLiftedUptoRow : OpenClaim := { program := "ytgcpimpnpcdmmaagreat", sum := "dc90076d6ebee80cf6f96cb266a74de9071d85faeb873dc187d5a7548a3ca634", func := "twistlock/twistlocklaw31.SimLifted", spec := "simLifted", unfollowed := true, recurses := true, plainKeys := false, apart := false, narrowed := true }
def SimLiftedUptoSaid : Prop := simLiftedUptoRow.holds Tryz.pinned (OpenSpec.upto simLiftedSpec)

/-- 'twistlocklaw31.SimCalls', WHERE WHAT IT READS IS OF BULK AT MOST 1048576: true; the input reads as it did. -/
def simCallsUptoRow : OpenClaim := { program := "ytgcpimpnpcdmmaagreat", sum := "dc90076d6ebee80cf6f96cb266a74de9071d85faeb873dc187d5a7548a3ca634", func := "twistlock/twistlocklaw31.SimCalls", spec := "simCalls", unfollowed := true, recurses := true, plainKeys := false, apart := false, narrowed := true }
def SimCallsUptoSaid : Prop := simCallsUptoRow.holds Tryz.pinned (OpenSpec.upto simCallsSpec)

/-- 'twistlocklaw31.SimNeeds', WHERE WHAT IT READS IS OF BULK AT MOST 1048576: true; the input reads as it did. -/
def simNeedsUptoRow : OpenClaim := { program := "ytgcpimpnpcdmmaagreat", sum := "dc90076d6ebee80cf6f96cb266a74de9071d85faeb873dc187d5a7548a3ca634", func := "twistlock/twistlocklaw31.SimNeeds", spec := "simNeeds", unfollowed := true, recurses := true, plainKeys := false, apart := false, narrowed := true }
def SimNeedsUptoSaid : Prop := simNeedsUptoRow.holds Tryz.pinned (OpenSpec.upto simNeedsSpec)

end Rows
end Go.Proofs.YtgcpimpnpcdmmaaGreat
