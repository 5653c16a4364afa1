/-
  Models of functions that range over maps: from the model that fixes the order of each range to the one that holds for every order.
-/
import Derived.Test.YtkfhfoljfbjknaaGreatLendE
namespace Go.Proofs.YtkfhfoljfbjknaaGreat
open Go.RowKit

section rel
variable {α β σ R : Type} {r : R}
def Rel (r : R) (m : Option Prop) (d : Option R) : Prop := d = some r → ∃ p : Prop, m = some p ∧ p
theorem rel_some {e : R} : Rel r (some (e = r)) (some e) := fun h => ⟨_, rfl, Option.some.inj h⟩
theorem rel_none {m : Option Prop} : Rel r m none := fun h => by cases h
theorem rel_bnd {m : Option α} {k : α → Option Prop} {k' : α → Option R} (h : ∀ x, Rel r (k x) (k' x)) : Rel r (bnd m k) (bnd m k') := by
  cases m with
  | none => exact rel_none
  | some x => exact h x
theorem rel_bif {c : Bool} {x y : Option Prop} {x' y' : Option R} (h1 : c = true → Rel r x x') (h2 : c = false → Rel r y y') : Rel r (bif c then x else y) (bif c then x' else y') := by
  cases c with
  | true => exact h1 rfl
  | false => exact h2 rfl
theorem rel_chk {z : Int} {k : Int → Option Prop} {k' : Int → Option R} (h : ∀ x, Rel r (k x) (k' x)) : Rel r (chk z k) (chk z k') := by
  unfold chk; exact rel_bif (fun _ => h z) (fun _ => rel_none)
theorem rel_gidx {l : List α} {i : Int} {k : α → Option Prop} {k' : α → Option R} (h : ∀ x, Rel r (k x) (k' x)) : Rel r (Jy l i k) (Jy l i k') := by
  unfold Jy; exact rel_bif (fun _ => rel_bnd h) (fun _ => rel_none)
theorem rel_jp {m : (α → Option Prop) → Option Prop} {m' : (α → Option R) → Option R} {k : α → Option Prop} {k' : α → Option R} (h : ∀ K K', (∀ a, Rel r (K a) (K' a)) → Rel r (m K) (m' K')) (hk : ∀ a, Rel r (k a) (k' a)) : Rel r (jp m k) (jp m' k') := h k k' hk
theorem rel_each {b : α → Nat → σ → (σ → Option Prop) → Option Prop} {b' : α → Nat → σ → (σ → Option R) → Option R} {kx : σ → Option Prop} {kx' : σ → Option R}
    (h : ∀ x i s nx nx', (∀ s, Rel r (nx s) (nx' s)) → Rel r (b x i s nx) (b' x i s nx')) (hk : ∀ s, Rel r (kx s) (kx' s)) : ∀ {xs : List α} {i : Nat} {s : σ}, Rel r (each b kx xs i s) (each b' kx' xs i s)
  | [], _, s => hk s
  | x :: _, i, s => h x i s _ _ (fun _ => rel_each h hk)
theorem runM_any {c : α → Bool} {e e' : β} : ∀ (l : List α) (s : Unit), runM (fun x (_ : Unit) nx => bif c x then lft (some e) else nx ()) (fun _ => some e') l s = some (bif l.any c then e else e')
  | [], _ => rfl
  | x :: l, s => by
    rw [runM]
    cases hc : c x with
    | true => simp [lft, hc]
    | false => simp [hc, runM_any l]
theorem rel_any {c : α → Bool} {e e' : R} {l : List α} : Rel r (eachM (fun x (_ : Unit) nx => bif c x then lft (some (e = r)) else nx ()) (fun _ => some (e' = r)) l ()) (runM (fun x (_ : Unit) nx => bif c x then lft (some e) else nx ()) (fun _ => some e') l ()) := fun h => by
  refine ⟨_, rfl, fun q hq => ?_⟩
  rw [runM_any] at h
  refine ⟨_, runM_any q (), ?_⟩
  have hany : q.any c = l.any c := by
    rw [Bool.eq_iff_iff, List.any_eq_true, List.any_eq_true]
    exact ⟨fun ⟨x, h1, h2⟩ => ⟨x, hq.mem_iff.1 h1, h2⟩, fun ⟨x, h1, h2⟩ => ⟨x, hq.mem_iff.2 h1, h2⟩⟩
  rw [hany]
  have := Option.some.inj h
  cases hc : l.any c <;> rw [hc] at this <;> exact this
end rel
end Go.Proofs.YtkfhfoljfbjknaaGreat
