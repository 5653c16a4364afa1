/-
  Small laws that the texts of BoundTells share.
-/
import Derived.Test.YtfkilljboodoaaaGreatLawG
import Derived.Test.YtfkilljboodoaaaGreatLawG
import Derived.Test.YtfkilljboodoaaaGreatLentF
set_option maxRecDepth 100000
set_option linter.unusedVariables false
namespace Go.Proofs.YtfkilljboodoaaaGreat
open Go.RowKit

theorem wp_loop {β σ : Type} {Q : β → Prop} (I : σ → Prop) (μ : σ → Nat) {b : (σ → Option β) → σ → Option β} {F : Nat} {s : σ} (h0 : I s) (hF : μ s < F)
    (hb : ∀ s nx, I s → (∀ s', I s' → μ s' < μ s → Wp (nx s') Q) → Wp (b nx s) Q) : Wp (loop b F s) Q := by
  induction F generalizing s with
  | zero => omega
  | succ F ih =>
    rw [loop]
    exact hb s _ h0 (fun s' h1 h2 => ih h1 (by omega))
theorem bnd_some {α β : Type} {x : α} {k : α → Option β} : bnd (some x) k = k x := rfl
/-- The place of the first element at which p holds, -1 if there is none. -/
def idxI {α : Type} (p : α → Bool) (l : List α) : Int := match l.findIdx? p with
  | some j => (j : Int)
  | none => -1
theorem Jeb {α : Type} {p : α → Bool} {f : α → Option Bool} {xs : List α} (hf : ∀ x ∈ xs, f x = some (p x)) :
    each (fun y i (_ : Unit) nx => bnd (f y) fun r => bif r then some (i : Int) else nx ()) (fun _ => some (-1)) xs 0 () = some (idxI p xs) := by
  have key : ∀ (xs : List α), (∀ x ∈ xs, f x = some (p x)) → ∀ i : Nat, each (fun y i (_ : Unit) nx => bnd (f y) fun r => bif r then some (i : Int) else nx ()) (fun _ => some (-1)) xs i () = some (match xs.findIdx? p with
    | some j => ((i + j : Nat) : Int)
    | none => -1) := by
    intro xs
    induction xs with
    | nil => intro _ i; rfl
    | cons x xs ih =>
      intro hf i
      rw [each, hf x (List.mem_cons_self ..), bnd_some, List.findIdx?_cons]
      cases p x with
      | true => simp
      | false =>
        simp only [cond_false]
        rw [ih (fun y hy => hf y (List.mem_cons_of_mem _ hy)) (i + 1)]
        cases xs.findIdx? p with
        | none => simp
        | some j => show some (((i + 1 + j : Nat)) : Int) = some (((i + (j + 1) : Nat)) : Int); rw [show i + 1 + j = i + (j + 1) by omega]
  rw [key xs hf 0]
  unfold idxI
  cases xs.findIdx? p <;> simp
theorem J8e {α : Type} (p : α → Bool) (l : List α) : (idxI p l = -1 ∧ (∀ x ∈ l, p x = false) ∧ l.find? p = none) ∨ ∃ (m : Nat) (x : α), idxI p l = (m : Int) ∧ l[m]? = some x ∧ p x = true ∧ l.find? p = some x := by
  unfold idxI
  cases h : l.findIdx? p with
  | none =>
    have := List.findIdx?_eq_none_iff.1 h
    exact .inl ⟨rfl, this, List.find?_eq_none.2 (fun x hx => by rw [this x hx]; simp)⟩
  | some j =>
    obtain ⟨hj, h1, h2⟩ := List.findIdx?_eq_some_iff_getElem.1 h
    refine .inr ⟨j, l[j], rfl, by simp [hj], h1, ?_⟩
    refine List.find?_eq_some_iff_getElem.2 ⟨h1, j, hj, rfl, fun k hk => ?_⟩
    simpa using h2 k hk
theorem idxI_nonneg {α : Type} {p : α → Bool} {l : List α} : decide (0 ≤ idxI p l) = l.any p := by
  rcases J8e p l with ⟨h1, h2, _⟩ | ⟨m, x, h1, h2, h3, _⟩
  · rw [h1]
    refine Eq.symm (List.any_eq_false.2 fun x hx => ?_)
    rw [h2 x hx]; exact Bool.false_ne_true
  · rw [h1, decide_eq_true (by omega)]
    exact (List.any_eq_true.2 ⟨x, List.mem_of_getElem? h2, h3⟩).symm
end Go.Proofs.YtfkilljboodoaaaGreat
