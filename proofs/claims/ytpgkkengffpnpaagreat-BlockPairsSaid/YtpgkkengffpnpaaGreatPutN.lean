/-
 What can be put, taken, opened and closed. What Free, Take, Open, Close and Put return, of states that are right. What Put returns, and that states stay right.
-/
import Derived.Test.YtpgkkengffpnpaaGreatMoreR
import Derived.Test.YtpgkkengffpnpaaGreatXT
set_option linter.unusedSimpArgs false
set_option linter.unnecessarySimpa false
set_option maxRecDepth 100000
set_option linter.unusedVariables false
namespace Go.Proofs.YtpgkkengffpnpaaGreat
open Go.RowKit

/-- Open covers: some that there are, in order. -/
structure Geb (s : Gs) (o : List Int) : Prop where
  mem : ∀ y ∈ o, 0 ≤ y ∧ y < (s.Covers.length : Int)
  sorted : o.Pairwise (· < ·)
theorem openR_nil {s : Gs} : Geb s [] := ⟨fun y hy => (List.not_mem_nil hy).elim, List.Pairwise.nil⟩
theorem Geb.len {s : Gs} {o : List Int} (h : Geb s o) : o.length ≤ s.Covers.length := by
  have hn : o.Nodup := G77 h.sorted
  have := hn.length_le_of_subset (l₂ := (List.range s.Covers.length).map (fun n : Nat => (n : Int))) (fun a ha => by
    obtain ⟨h1, h2⟩ := h.mem a ha
    exact List.mem_map.2 ⟨a.toNat, List.mem_range.2 (by omega), by omega⟩)
  simpa using this
theorem checked_spec {s : Gs} (hs : Small s) (boxes : List Ga) (l : List Stowed) (o : List Int) (hl : l.length ≤ 1000000) : Wp (Qg s boxes l o) (fun r => r = true ↔ Geb s o ∧ Yv s boxes l) := by
  unfold Qg
  refine Qc (fun pre _ => Geb s pre) openR_nil (fun pre y post u nx e hI hnx => ?_) (fun u hI => ?_)
  · have no : ¬ Geb s o → Wp (some false) (fun r => r = true ↔ Geb s o ∧ Yv s boxes l) := fun h => Gj (G8c fun hh => h hh.1)
    by_cases hy : y < 0 ∨ (s.Covers.length : Int) ≤ y
    · have hc : (decide (y < 0) || decide ((s.Covers.length : Int) ≤ y)) = true := by simpa using hy
      rw [hc]
      refine H8 (Gj (H8 (Gj (Hs (fun _ => no fun h => ?_) (fun h => by cases h)))))
      have := h.mem y (by rw [e]; simp)
      omega
    have hc : (decide (y < 0) || decide ((s.Covers.length : Int) ≤ y)) = false := by
      rw [Bool.or_eq_false_iff]; exact ⟨decide_eq_false (by omega), decide_eq_false (by omega)⟩
    rw [hc]
    simp only [Bool.not_false, Bool.true_and, Bool.false_or]
    have hyok : 0 ≤ y ∧ y < (s.Covers.length : Int) := by omega
    have hprev : Wp (bif decide (0 < (pre.length : Int)) then G09 ((pre.length : Int) - 1) some else some 0) (fun v => Wp (bif decide (0 < (pre.length : Int)) then Yy o v some else some default) (fun p => (decide (0 < (pre.length : Int)) && decide (y ≤ p)) = false → Geb s (pre ++ [y])) ∧ Wp (bif decide (0 < (pre.length : Int)) then Yy o v some else some default) (fun p => (decide (0 < (pre.length : Int)) && decide (y ≤ p)) = true → ¬ Geb s o)) := by
      by_cases hp : 0 < pre.length
      · obtain ⟨p, hp1, hp2, hp3⟩ := J18 e hp
        rw [decide_eq_true (show 0 < (pre.length : Int) by omega)]
        simp only [cond_true, Bool.true_and]
        have : pre.length < 1 + s.Covers.length := by have := hI.len; omega
        have := hs.covs
        refine Qp ⟨by omega, by omega⟩ (Gj ⟨Y6 (m := pre.length - 1) (by omega) hp1 (Gj fun h => ?_), Y6 (m := pre.length - 1) (by omega) hp1 (Gj fun h hh => ?_)⟩)
        · have hlt : p < y := by have := of_decide_eq_false h; omega
          exact ⟨Yp hI.mem hyok, pw_snoc hI.sorted (H34 hI.sorted hp2 hlt)⟩
        · have h := of_decide_eq_true h
          have hso := hh.sorted
          rw [e] at hso
          have := G79 hso p hp3
          omega
      · have h0 : pre = [] := List.eq_nil_of_length_eq_zero (by omega)
        subst h0
        exact Gj ⟨Gj fun _ => ⟨fun z hz => (List.mem_singleton.1 hz) ▸ hyok, List.pairwise_singleton ..⟩, Gj fun h => Bool.noConfusion h⟩
    refine H8 (wp_mono hprev (fun v hv => ?_))
    obtain ⟨p, hp, h1⟩ := hv.1
    obtain ⟨p', hp', h2⟩ := hv.2
    rw [hp] at hp'; cases hp'
    rw [hp]
    refine H8 (Gj (Hs (fun h => no (h2 h)) (fun h => hnx _ (h1 h))))
  · exact H8 (wp_mono (H12 hs.right hs.tier hl) (fun r hr => Gj (hr.trans ⟨fun h => ⟨hI, h⟩, fun h => h.2⟩)))
end Go.Proofs.YtpgkkengffpnpaaGreat
set_option linter.unusedSimpArgs false
set_option linter.unnecessarySimpa false
set_option maxRecDepth 100000
set_option linter.unusedVariables false
namespace Go.Proofs.YtpgkkengffpnpaaGreat
open Go.RowKit

instance (a b : Slot) : Decidable (H75 a b) := by unfold H75 H56; infer_instance
theorem Gb7 {o : List Int} {v : Int} : o.any (fun y => decide (v = y)) = true ↔ v ∈ o := by
  rw [List.any_eq_true]
  exact ⟨fun ⟨y, hy, e⟩ => of_decide_eq_true e ▸ hy, fun h => ⟨v, h, decide_eq_true rfl⟩⟩
theorem J79.checked {s : Gs} {boxes : List Ga} {l : List Stowed} (h : J79 s boxes l) {o : List Int} (hO : Geb s o) : Qg s boxes l o = some true := by
  have hl := h.len
  exact G23 (wp_mono (checked_spec (G43 h.ship) boxes l o (by omega)) (fun r hr => hr.2 ⟨hO, h.right⟩))
end Go.Proofs.YtpgkkengffpnpaaGreat
set_option linter.unusedSimpArgs false
set_option linter.unnecessarySimpa false
set_option maxRecDepth 100000
set_option linter.unusedVariables false
namespace Go.Proofs.YtpgkkengffpnpaaGreat
open Go.RowKit

end Go.Proofs.YtpgkkengffpnpaaGreat
