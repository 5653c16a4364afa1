/-
  Slices of the call's own, sorted in place by the library.
-/
import Derived.Test.YtkfhfoljfbjknaaGreatDraw2
import Derived.Shelf.SlSortCmp.WholeK
namespace Go.Proofs.YtkfhfoljfbjknaaGreat
open Go.RowKit Go.Sort

def SortNone (P : Program) (F : FuncId) : Prop :=
  ∀ (g : Nat) (cb : Array Value) (w : World), Calls P F #[.slice none 0 0, .func (.func g) #[] cb] w fun e w' => e = .returned (.tuple #[]) ∧ ∃ n os, w' = grow (w.drewN n) os

theorem D.inv_sc {w : World} {S : Nat → Nat → Prop} {v x : Value} (h : D w S (.sc v) x) : x = v := by cases h; rfl
end Go.Proofs.YtkfhfoljfbjknaaGreat
