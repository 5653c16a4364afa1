/-
 Slices of the call's own,sorted in place by the library. slices.SortFunc in a model.
-/
import Derived.Test.YtfkilljboodoaaaGreatDraw2
import Derived.Shelf.SlSortCmp.WholeK
namespace Go.Proofs.YtfkilljboodoaaaGreat
open Go.RowKit Go.Sort

def SortNone (P:Program) (F:FuncId):Prop:=
 ∀ (g:Nat) (cb:Array Value) (w:World),Calls P F #[.slice none 0 0,.func (.func g) #[] cb] w fun e w'=>e=.returned (.tuple #[])∧∃ n os,w'=grow (w.drewN n) os

theorem D.inv_sc {w:World} {S:Nat→Nat→Prop} {v x:Value} (h:D w S (.sc v) x):x=v:=by cases h; rfl
end Go.Proofs.YtfkilljboodoaaaGreat
set_option maxRecDepth 100000
namespace Go.Proofs.YtfkilljboodoaaaGreat
open Go.RowKit Go.Shelf Go.Sort

section ops
variable {P:Program} {o:Oper} {l:Fr} {L L'':Loc}
end ops
end Go.Proofs.YtfkilljboodoaaaGreat
