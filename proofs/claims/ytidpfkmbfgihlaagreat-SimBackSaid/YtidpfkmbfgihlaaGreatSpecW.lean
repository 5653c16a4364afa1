/-
 What a model returns, step by step: 'Wp m Q': the model m returns something of which Q holds. What stow.without and stow.with return: a list without an element,and with one more; of slices.Clone,slices.Delete and slices.Insert.
-/
import Derived.Test.YtidpfkmbfgihlaaGreatRel
import Derived.Test.YtidpfkmbfgihlaaGreatXC
namespace Go.Proofs.YtidpfkmbfgihlaaGreat

section
variable {α β σ : Type} {Q : β → Prop}

def Wp (m : Option β) (Q : β → Prop) : Prop := ∃ r, m = some r ∧ Q r

theorem Gj {r : β} (h : Q r) : Wp (some r) Q := ⟨r, rfl, h⟩
theorem wp_mono {m : Option β} {Q' : β → Prop} (h : Wp m Q') (hq : ∀ r, Q' r → Q r) : Wp m Q := by
  obtain ⟨r, e, h⟩ := h; exact ⟨r, e, hq r h⟩
theorem H5 {m : Option α} {k : α → Option β} (h : Wp m (fun x => Wp (k x) Q)) : Wp (bnd m k) Q := by
  obtain ⟨x, rfl, h⟩ := h; exact h
theorem H2 {m : Option α} {k : α → Option β} {x : α} (e : m = some x) (h : Wp (k x) Q) : Wp (bnd m k) Q := by subst e; exact h
theorem R1 {z : Int} {k : Int → Option β} (h1 : -9223372036854775808 ≤ z ∧ z ≤ 9223372036854775807) (h : Wp (k z) Q) : Wp (chk z k) Q := by
  unfold chk Qf6
  rw [decide_eq_true h1.1, decide_eq_true h1.2]; exact h
theorem Hr {c : Bool} {x y : Option β} (h1 : c = true → Wp x Q) (h2 : c = false → Wp y Q) : Wp (bif c then x else y) Q := by
  cases c with
  | true => exact h1 rfl
  | false => exact h2 rfl
theorem G06 {b : Bool} {k : Option β} (hb : b = true) (h : Wp k Q) : Wp (need b k) Q := by subst hb; exact h
theorem Yg {l : List α} {i : Int} {k : α → Option β} {m : Nat} {x : α} (hi : i = (m : Int)) (hx : l[m]? = some x) (h : Wp (k x) Q) : Wp (Yy l i k) Q := by
  subst hi
  unfold Yy
  rw [decide_eq_true (by omega : (0 : Int) ≤ m), cond_true, show (m : Int).toNat = m by omega, hx]
  exact h
theorem G7c {m : (α → Option β) → Option β} {k : α → Option β} (P : α → Prop) (hm : ∀ K : α → Option β, (∀ a, P a → Wp (K a) Q) → Wp (m K) Q) (hk : ∀ a, P a → Wp (k a) Q) : Wp (jp m k) Q := hm k hk
theorem H03 {m n : Int} {Q : Int → Prop} (hn : n ≠ 0) (h : Q (m.tmod n)) : Wp (Gd8 m n) Q := by
  unfold Gd8
  rw [decide_eq_false hn, cond_false]
  exact Gj h
theorem Had {i : Int} {n m : Nat} {Q : Nat → Prop} (hi : i = (m : Int)) (hm : m ≤ n) (h : Q m) : Wp (J1c i n) Q := by
  subst hi
  unfold J1c
  rw [decide_eq_true (by omega : (0 : Int) ≤ m), show (m : Int).toNat = m by omega, decide_eq_true hm]
  exact Gj h
theorem Y3 (I : List α → σ → Prop) {b : α → Nat → σ → (σ → Option β) → Option β} {kx : σ → Option β} {xs : List α} {s : σ} (h0 : I [] s)
    (hb : ∀ pre x post s nx, xs = pre ++ x :: post → I pre s → (∀ s', I (pre ++ [x]) s' → Wp (nx s') Q) → Wp (b x pre.length s nx) Q) (hk : ∀ s, I xs s → Wp (kx s) Q) : Wp (each b kx xs 0 s) Q := by
  have key : ∀ (post pre : List α) (s : σ), xs = pre ++ post → I pre s → Wp (each b kx post pre.length s) Q := by
    intro post
    induction post with
    | nil => intro pre s e hi; rw [List.append_nil] at e; subst e; exact hk s hi
    | cons x post ih =>
      intro pre s e hi
      rw [each]
      refine hb pre x post s _ e hi (fun s' hs' => ?_)
      have := ih (pre ++ [x]) s' (by rw [e]; simp) hs'
      rw [List.length_append, List.length_singleton] at this
      exact this
  exact key xs [] s rfl h0
theorem R12 (I : Nat → σ → Prop) {b : Nat → σ → (σ → Option β) → Option β} {kx : σ → Option β} {n : Nat} {s : σ} (h0 : I 0 s)
    (hb : ∀ i s nx, i < n → I i s → (∀ s', I (i + 1) s' → Wp (nx s') Q) → Wp (b i s nx) Q) (hk : ∀ s, I n s → Wp (kx s) Q) : Wp (upto b kx n 0 s) Q := by
  have key : ∀ (m i : Nat) (s : σ), i + m = n → I i s → Wp (upto b kx m i s) Q := by
    intro m
    induction m with
    | zero => intro i s e hi; have e : i = n := by omega
              subst e; exact hk s hi
    | succ m ih =>
      intro i s e hi
      rw [upto]
      exact hb i s _ (by omega) hi (fun s' hs' => ih (i + 1) s' (by omega) hs')
  exact key n 0 s (by omega) h0
theorem G83 {m : Option β} {r : β} (h : Wp m (· = r)) : m = some r := by
  obtain ⟨x, e, rfl⟩ := h; exact e
end

def G8e {α : Type} (p : α → Bool) (l : List α) : List Int := (l.zipIdx.filter (fun x => p x.1)).map (fun x => (x.2 : Int))
theorem J42 {α : Type} (p : α → Bool) (l : List α) (x : α) : G8e p (l ++ [x]) = G8e p l ++ (if p x then [(l.length : Int)] else []) := by
  unfold G8e
  rw [List.zipIdx_append, List.filter_append, List.map_append]
  by_cases h : p x <;> simp [h]
theorem Q16 {α : Type} (p : α → Bool) (l : List α) : (G8e p l).length ≤ l.length := by
  unfold G8e
  rw [List.length_map]
  exact Nat.le_trans (List.length_filter_le _ _) (by simp)
theorem Ja5 {α : Type} {p : α → Bool} {l : List α} : G8e p l = [] ↔ ∀ x ∈ l, p x = false := by
  unfold G8e
  rw [List.map_eq_nil_iff, List.filter_eq_nil_iff]
  constructor
  · intro h x hx
    obtain ⟨i, hi⟩ := List.mem_iff_getElem?.1 hx
    have := h (x, i) (List.mk_mem_zipIdx_iff_getElem?.2 hi)
    simpa using this
  · intro h y hy
    have := h y.1 (List.mem_iff_getElem?.2 ⟨y.2, List.mk_mem_zipIdx_iff_getElem?.1 hy⟩)
    simp [this]
end Go.Proofs.YtidpfkmbfgihlaaGreat
set_option maxRecDepth 100000
set_option linter.unusedVariables false
set_option linter.unusedSimpArgs false
namespace Go.Proofs.YtidpfkmbfgihlaaGreat
open Go.RowKit
theorem J3b {α β:Type} [DecidableEq β] {xs:List α} {k:Bool→Option β} {r:Option β} (h:∀ b,(b=true→xs=[])→k b=r):R76 xs k=r:=by
 unfold R76
 cases xs with
 | nil=>rw [h true (fun _=>rfl),h false (fun e=>by cases e)]; simp
 | cons x l=>exact h false (fun e=>by cases e)
/-! ### int -/
/-! ### twistlock/api.Stowed -/
end Go.Proofs.YtidpfkmbfgihlaaGreat
