/-
 What can be put, taken, opened and closed. What Free, Take, Open, Close and Put return, of states that are right. What Put returns, and that states stay right. StowBack: the law's plain mathematics.
-/
import Derived.Test.YtbljcmgjmieffaaGreatOwnN
import Derived.Test.YtbljcmgjmieffaaGreatXT
set_option linter.unusedSimpArgs false
set_option linter.unnecessarySimpa false
set_option maxRecDepth 100000
set_option linter.unusedVariables false
namespace Go.Proofs.YtbljcmgjmieffaaGreat
open Go.RowKit

/-- Open covers: some that there are, in order. -/
structure G84 (s : Gr) (o : List Int) : Prop where
  mem : ∀ y ∈ o, 0 ≤ y ∧ y < (s.Covers.length : Int)
  sorted : o.Pairwise (· < ·)
theorem H58 {s : Gr} : G84 s [] := ⟨fun y hy => (List.not_mem_nil hy).elim, List.Pairwise.nil⟩
theorem G84.len {s : Gr} {o : List Int} (h : G84 s o) : o.length ≤ s.Covers.length := by
  have hn : o.Nodup := G40 h.sorted
  have := hn.length_le_of_subset (l₂ := (List.range s.Covers.length).map (fun n : Nat => (n : Int))) (fun a ha => by
    obtain ⟨h1, h2⟩ := h.mem a ha
    exact List.mem_map.2 ⟨a.toNat, List.mem_range.2 (by omega), by omega⟩)
  simpa using this
theorem Haa {s : Gr} (hs : Small s) (boxes : List Gb) (l : List Stowed) (o : List Int) (hl : l.length ≤ 1000000) : Wp (Jq s boxes l o) (fun r => r = true ↔ G84 s o ∧ Rh s boxes l) := by
  unfold Jq
  refine Q6 (fun pre _ => G84 s pre) H58 (fun pre y post u nx e hI hnx => ?_) (fun u hI => ?_)
  · have no : ¬ G84 s o → Wp (some false) (fun r => r = true ↔ G84 s o ∧ Rh s boxes l) := fun h => Gk (Gcd fun hh => h hh.1)
    by_cases hy : y < 0 ∨ (s.Covers.length : Int) ≤ y
    · have hc : (decide (y < 0) || decide ((s.Covers.length : Int) ≤ y)) = true := by simpa using hy
      rw [hc]
      refine H4 (Gk (H4 (Gk (H9 (fun _ => no fun h => ?_) (fun h => by cases h)))))
      have := h.mem y (by rw [e]; simp)
      omega
    have hc : (decide (y < 0) || decide ((s.Covers.length : Int) ≤ y)) = false := by
      rw [Bool.or_eq_false_iff]; exact ⟨decide_eq_false (by omega), decide_eq_false (by omega)⟩
    rw [hc]
    simp only [Bool.not_false, Bool.true_and, Bool.false_or]
    have hyok : 0 ≤ y ∧ y < (s.Covers.length : Int) := by omega
    have hprev : Wp (bif decide (0 < (pre.length : Int)) then G1c ((pre.length : Int) - 1) some else some 0) (fun v => Wp (bif decide (0 < (pre.length : Int)) then Y9 o v some else some default) (fun p => (decide (0 < (pre.length : Int)) && decide (y ≤ p)) = false → G84 s (pre ++ [y])) ∧ Wp (bif decide (0 < (pre.length : Int)) then Y9 o v some else some default) (fun p => (decide (0 < (pre.length : Int)) && decide (y ≤ p)) = true → ¬ G84 s o)) := by
      by_cases hp : 0 < pre.length
      · obtain ⟨p, hp1, hp2, hp3⟩ := prev_at e hp
        rw [decide_eq_true (show 0 < (pre.length : Int) by omega)]
        simp only [cond_true, Bool.true_and]
        have : pre.length < 1 + s.Covers.length := by have := hI.len; omega
        have := hs.covs
        refine Jo ⟨by omega, by omega⟩ (Gk ⟨Qy (m := pre.length - 1) (by omega) hp1 (Gk fun h => ?_), Qy (m := pre.length - 1) (by omega) hp1 (Gk fun h hh => ?_)⟩)
        · have hlt : p < y := by have := of_decide_eq_false h; omega
          exact ⟨Z9 hI.mem hyok, pw_snoc hI.sorted (H34 hI.sorted hp2 hlt)⟩
        · have h := of_decide_eq_true h
          have hso := hh.sorted
          rw [e] at hso
          have := Gb3 hso p hp3
          omega
      · have h0 : pre = [] := List.eq_nil_of_length_eq_zero (by omega)
        subst h0
        exact Gk ⟨Gk fun _ => ⟨fun z hz => (List.mem_singleton.1 hz) ▸ hyok, List.pairwise_singleton ..⟩, Gk fun h => Bool.noConfusion h⟩
    refine H4 (wp_mono hprev (fun v hv => ?_))
    obtain ⟨p, hp, h1⟩ := hv.1
    obtain ⟨p', hp', h2⟩ := hv.2
    rw [hp] at hp'; cases hp'
    rw [hp]
    refine H4 (Gk (H9 (fun h => no (h2 h)) (fun h => hnx _ (h1 h))))
  · exact H4 (wp_mono (G19 hs.right hs.tier hl) (fun r hr => Gk (hr.trans ⟨fun h => ⟨hI, h⟩, fun h => h.2⟩)))
end Go.Proofs.YtbljcmgjmieffaaGreat
set_option linter.unusedSimpArgs false
set_option linter.unnecessarySimpa false
set_option maxRecDepth 100000
set_option linter.unusedVariables false
namespace Go.Proofs.YtbljcmgjmieffaaGreat
open Go.RowKit

instance (a b : Slot) : Decidable (H27 a b) := by unfold H27 G94; infer_instance
theorem find_at {l : List Stowed} (hs : l.Pairwise (fun a b => a.Gb < b.Gb)) {x : Stowed} (hx : x ∈ l) : ∃ q : Nat, Ro l x.Gb = some (q : Int) ∧ l[q]? = some x := by
  rw [H31]
  rcases G1a (fun z : Stowed => decide (z.Gb = x.Gb)) l with ⟨_, h2, _⟩ | ⟨q, x1, h1, h2, h3, _⟩
  · have := h2 x hx; rw [decide_eq_true rfl] at this; cases this
  have hx1 : x1 = x := H1f hs (List.mem_of_getElem? h2) hx (of_decide_eq_true h3)
  subst hx1
  exact ⟨q, by rw [h1], h2⟩
theorem find_no {l : List Stowed} {id : Int} (hx : id ∉ l.map (·.Gb)) : Ro l id = some (-1) := by
  rw [H31]
  rcases G1a (fun z : Stowed => decide (z.Gb = id)) l with ⟨h1, _, _⟩ | ⟨q, x1, h1, h2, h3, _⟩
  · rw [h1]
  · exact (hx (List.mem_map.2 ⟨x1, List.mem_of_getElem? h2, of_decide_eq_true h3⟩)).elim
theorem J0a.checked {s : Gr} {boxes : List Gb} {l : List Stowed} (h : J0a s boxes l) {o : List Int} (hO : G84 s o) : Jq s boxes l o = some true := by
  have hl := h.len
  exact Zd (wp_mono (Haa (Yu h.ship) boxes l o (by omega)) (fun r hr => hr.2 ⟨hO, h.right⟩))
end Go.Proofs.YtbljcmgjmieffaaGreat
set_option linter.unusedSimpArgs false
set_option linter.unnecessarySimpa false
set_option maxRecDepth 100000
set_option linter.unusedVariables false
namespace Go.Proofs.YtbljcmgjmieffaaGreat
open Go.RowKit

theorem G34 {l : List Stowed} {y : Slot} {half : Int} (h : below (l.map (·.Slot)) y half) : ∃ z ∈ l, z.Slot = ⟨y.G3, y.Tier - 1, half⟩ := by
  obtain ⟨z, hz, e⟩ := List.mem_map.1 h
  exact ⟨z, hz, e⟩
end Go.Proofs.YtbljcmgjmieffaaGreat
set_option linter.unusedSimpArgs false
set_option linter.unnecessarySimpa false
set_option maxRecDepth 100000
set_option linter.unusedVariables false
namespace Go.Proofs.YtbljcmgjmieffaaGreat
open Go.RowKit

/-- What stands in a column stands upon something, down to the lowest tier. -/
theorem chain {s : Gr} {boxes : List Gb} {l : List Stowed} (h : Rh s boxes l) {t : Int} (h0 : 0 ≤ t) : ∀ (n : Nat) (z : Stowed), z ∈ l → z.Slot.Tier = t + (n : Int) + 1 →
    (∃ w ∈ l, w.Slot = ⟨z.Slot.G3, t, z.Slot.Half⟩) ∨ (z.Slot.Half = 0 ∧ (∃ w ∈ l, w.Slot = ⟨z.Slot.G3, t, 1⟩) ∧ ∃ w ∈ l, w.Slot = ⟨z.Slot.G3, t, 2⟩) := by
  intro n
  induction n with
  | zero =>
    intro z hz ht
    obtain ⟨_, _, _, hh⟩ := h.each z hz
    have e : z.Slot.Tier - 1 = t := by omega
    rcases hh with hh | hh | ⟨hz0, h1, h2⟩
    · omega
    · obtain ⟨w, hw, ew⟩ := G34 hh
      rw [e] at ew
      exact .inl ⟨w, hw, ew⟩
    · obtain ⟨w, hw, ew⟩ := G34 h1
      obtain ⟨v, hv, ev⟩ := G34 h2
      rw [e] at ew ev
      exact .inr ⟨hz0, ⟨w, hw, ew⟩, ⟨v, hv, ev⟩⟩
  | succ n ih =>
    intro z hz ht
    obtain ⟨_, _, _, hh⟩ := h.each z hz
    have one : ∀ w ∈ l, ∀ half, w.Slot = ⟨z.Slot.G3, z.Slot.Tier - 1, half⟩ → half ≠ 0 → ∃ v ∈ l, v.Slot = ⟨z.Slot.G3, t, half⟩ := fun w hw half ew hne => by
      have := ih w hw (by rw [ew]; simp only; omega)
      rw [ew] at this
      rcases this with h | ⟨h, _⟩
      · exact h
      · exact (hne h).elim
    rcases hh with hh | hh | ⟨hz0, h1, h2⟩
    · omega
    · obtain ⟨w, hw, ew⟩ := G34 hh
      have := ih w hw (by rw [ew]; simp only; omega)
      rw [ew] at this
      exact this
    · obtain ⟨w, hw, ew⟩ := G34 h1
      obtain ⟨v, hv, ev⟩ := G34 h2
      exact .inr ⟨hz0, one w hw 1 ew (by decide), one v hv 2 ev (by decide)⟩
end Go.Proofs.YtbljcmgjmieffaaGreat
