/-
 Is a slice nil: known alone of one that has elements. Appending to a part from the front of a slice of the call's own,within what it holds: the cells behind are written over. A slice of slices of the call's own,whose last slice still grows. Drawn orders whose last operation,behind all the others,is given apart. The typed steps of slices of slices whose last slice grows.
-/
import Derived.Test.YtfkilljboodoaaaGreatLit0
namespace Go.Proofs.YtfkilljboodoaaaGreat
open Go.RowKit

section
variable {P:Program} {o:Oper} {l:Fr} {L:Loc}
end
end Go.Proofs.YtfkilljboodoaaaGreat
namespace Go.Proofs.YtfkilljboodoaaaGreat
open Go.RowKit

section
variable {P:Program} {o:Oper} {l:Fr} {L:Loc}
end
end Go.Proofs.YtfkilljboodoaaaGreat
namespace Go.Proofs.YtfkilljboodoaaaGreat
open Go.RowKit
set_option linter.unusedVariables false

section moves
variable {w w':World} {β:H8} {L:Loc} {i t k ver1 hw1:Nat}
end moves

section ops
variable {P:Program} {N:G41} {Q:Post} {o:Oper} {ops:Array Oper} {rest:List Oper} {l:Fr} {L:Loc}

end ops

section freeze
variable {P:Program} {N:G41} {Q:Post} {l l':Fr} {L L':Loc}

inductive FrzN (i ver n:Nat) (pre:List AV) (last:AV) (ys:List AV) (ok:Nat→Bool):AV→AV→Prop
 | conv {u u':AV} (h:Conv ok u u'):FrzN i ver n pre last ys ok u u'
 | nst:FrzN i ver n pre last ys ok (.nst i ver n pre last) (.list 1 ys)
def J3b (i ver n:Nat) (pre:List AV) (last:AV) (ys:List AV) (ok:Nat→Bool) (l:Fr):Fr→Prop
 | []=>True
 | (t,u)::r=>FrzN i ver n pre last ys ok (look l t) u∧J3b i ver n pre last ys ok l r
theorem J3b.get {i ver n:Nat} {pre:List AV} {last:AV} {ys:List AV} {ok:Nat→Bool} {l:Fr}:∀ {l':Fr},J3b i ver n pre last ys ok l l'→∀ t,FrzN i ver n pre last ys ok (look l t) (look l' t)
 | [],_,t=>.conv .junk
 | (s,u)::r,h,t=>by
  simp only [look]
  cases hb:Nat.beq s t with
  | true=>have:=Nat.eq_of_beq_eq_true hb; subst this; exact h.1
  | false=>exact J3b.get h.2 t

end freeze

/-! ### Typed -/
section typed
variable {α:Type}
end typed
end Go.Proofs.YtfkilljboodoaaaGreat
namespace Go.Proofs.YtfkilljboodoaaaGreat
open Go.RowKit
set_option linter.unusedVariables false

section sound
variable {P:Program} {N:G41} {ops:List Oper} {ws los his:List Nat} {Ls:List Loc} {l0:Fr} {val:Nat→AV}

end sound
end Go.Proofs.YtfkilljboodoaaaGreat
namespace Go.Proofs.YtfkilljboodoaaaGreat
open Go.RowKit
set_option linter.unusedVariables false

section typed
variable {P:Program} {N:G41} {Q:Post} {o:Oper} {ops:Array Oper} {rest:List Oper} {l:Fr} {L:Loc} {α:Type}

end typed
end Go.Proofs.YtfkilljboodoaaaGreat
