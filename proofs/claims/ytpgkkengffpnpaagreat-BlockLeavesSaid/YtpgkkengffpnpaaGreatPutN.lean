/-
 What can be put, taken, opened and closed. What Free, Take, Open, Close and Put return, of states that are right. What Put returns, and that states stay right.
-/
import Derived.Test.YtpgkkengffpnpaaGreatMoreR
import Derived.Test.YtpgkkengffpnpaaGreatXT
set_option linter.unusedSimpArgs false
set_option linter.unnecessarySimpa false
set_option maxRecDepth 100000
set_option linter.unusedVariables false
namespace Go.Proofs.YtpgkkengffpnpaaGreat
open Go.RowKit

theorem wp_loop {β σ : Type} {Q : β → Prop} (I : σ → Prop) (μ : σ → Nat) {b : (σ → Option β) → σ → Option β} {F : Nat} {s : σ} (h0 : I s) (hF : μ s < F)
    (hb : ∀ s nx, I s → (∀ s', I s' → μ s' < μ s → Wp (nx s') Q) → Wp (b nx s) Q) : Wp (loop b F s) Q := by
  induction F generalizing s with
  | zero => omega
  | succ F ih =>
    rw [loop]
    exact hb s _ h0 (fun s' h1 h2 => ih h1 (by omega))
/-- Open covers: some that there are, in order. -/
structure Gec (s : Gr) (o : List Int) : Prop where
  mem : ∀ y ∈ o, 0 ≤ y ∧ y < (s.Covers.length : Int)
  sorted : o.Pairwise (· < ·)
theorem openR_nil {s : Gr} : Gec s [] := ⟨fun y hy => (List.not_mem_nil hy).elim, List.Pairwise.nil⟩
theorem Gec.len {s : Gr} {o : List Int} (h : Gec s o) : o.length ≤ s.Covers.length := by
  have hn : o.Nodup := G7a h.sorted
  have := hn.length_le_of_subset (l₂ := (List.range s.Covers.length).map (fun n : Nat => (n : Int))) (fun a ha => by
    obtain ⟨h1, h2⟩ := h.mem a ha
    exact List.mem_map.2 ⟨a.toNat, List.mem_range.2 (by omega), by omega⟩)
  simpa using this
theorem checked_spec {s : Gr} (hs : Small s) (boxes : List G9) (l : List Stowed) (o : List Int) (hl : l.length ≤ 1000000) : Wp (Qi s boxes l o) (fun r => r = true ↔ Gec s o ∧ Y1 s boxes l) := by
  unfold Qi
  refine Jz (fun pre _ => Gec s pre) openR_nil (fun pre y post u nx e hI hnx => ?_) (fun u hI => ?_)
  · have no : ¬ Gec s o → Wp (some false) (fun r => r = true ↔ Gec s o ∧ Y1 s boxes l) := fun h => Gi (G8d fun hh => h hh.1)
    by_cases hy : y < 0 ∨ (s.Covers.length : Int) ≤ y
    · have hc : (decide (y < 0) || decide ((s.Covers.length : Int) ≤ y)) = true := by simpa using hy
      rw [hc]
      refine H7 (Gi (H7 (Gi (Hi (fun _ => no fun h => ?_) (fun h => by cases h)))))
      have := h.mem y (by rw [e]; simp)
      omega
    have hc : (decide (y < 0) || decide ((s.Covers.length : Int) ≤ y)) = false := by
      rw [Bool.or_eq_false_iff]; exact ⟨decide_eq_false (by omega), decide_eq_false (by omega)⟩
    rw [hc]
    simp only [Bool.not_false, Bool.true_and, Bool.false_or]
    have hyok : 0 ≤ y ∧ y < (s.Covers.length : Int) := by omega
    have hprev : Wp (bif decide (0 < (pre.length : Int)) then G0a ((pre.length : Int) - 1) some else some 0) (fun v => Wp (bif decide (0 < (pre.length : Int)) then Z1 o v some else some default) (fun p => (decide (0 < (pre.length : Int)) && decide (y ≤ p)) = false → Gec s (pre ++ [y])) ∧ Wp (bif decide (0 < (pre.length : Int)) then Z1 o v some else some default) (fun p => (decide (0 < (pre.length : Int)) && decide (y ≤ p)) = true → ¬ Gec s o)) := by
      by_cases hp : 0 < pre.length
      · obtain ⟨p, hp1, hp2, hp3⟩ := J21 e hp
        rw [decide_eq_true (show 0 < (pre.length : Int) by omega)]
        simp only [cond_true, Bool.true_and]
        have : pre.length < 1 + s.Covers.length := by have := hI.len; omega
        have := hs.covs
        refine Qg ⟨by omega, by omega⟩ (Gi ⟨Y2 (m := pre.length - 1) (by omega) hp1 (Gi fun h => ?_), Y2 (m := pre.length - 1) (by omega) hp1 (Gi fun h hh => ?_)⟩)
        · have hlt : p < y := by have := of_decide_eq_false h; omega
          exact ⟨Y7 hI.mem hyok, pw_snoc hI.sorted (H39 hI.sorted hp2 hlt)⟩
        · have h := of_decide_eq_true h
          have hso := hh.sorted
          rw [e] at hso
          have := G7c hso p hp3
          omega
      · have h0 : pre = [] := List.eq_nil_of_length_eq_zero (by omega)
        subst h0
        exact Gi ⟨Gi fun _ => ⟨fun z hz => (List.mem_singleton.1 hz) ▸ hyok, List.pairwise_singleton ..⟩, Gi fun h => Bool.noConfusion h⟩
    refine H7 (wp_mono hprev (fun v hv => ?_))
    obtain ⟨p, hp, h1⟩ := hv.1
    obtain ⟨p', hp', h2⟩ := hv.2
    rw [hp] at hp'; cases hp'
    rw [hp]
    refine H7 (Gi (Hi (fun h => no (h2 h)) (fun h => hnx _ (h1 h))))
  · exact H7 (wp_mono (H14 hs.right hs.tier hl) (fun r hr => Gi (hr.trans ⟨fun h => ⟨hI, h⟩, fun h => h.2⟩)))
end Go.Proofs.YtpgkkengffpnpaaGreat
set_option linter.unusedSimpArgs false
set_option linter.unnecessarySimpa false
set_option maxRecDepth 100000
set_option linter.unusedVariables false
namespace Go.Proofs.YtpgkkengffpnpaaGreat
open Go.RowKit

instance (a b : Slot) : Decidable (H7d a b) := by unfold H7d H5e; infer_instance
theorem Gb8 {o : List Int} {v : Int} : o.any (fun y => decide (v = y)) = true ↔ v ∈ o := by
  rw [List.any_eq_true]
  exact ⟨fun ⟨y, hy, e⟩ => of_decide_eq_true e ▸ hy, fun h => ⟨v, h, decide_eq_true rfl⟩⟩
theorem Hd5.checked {s : Gr} {boxes : List G9} {l : List Stowed} (h : Hd5 s boxes l) {o : List Int} (hO : Gec s o) : Qi s boxes l o = some true := by
  have hl := h.len
  exact G18 (wp_mono (checked_spec (G44 h.ship) boxes l o (by omega)) (fun r hr => hr.2 ⟨hO, h.right⟩))
end Go.Proofs.YtpgkkengffpnpaaGreat
set_option linter.unusedSimpArgs false
set_option linter.unnecessarySimpa false
set_option maxRecDepth 100000
set_option linter.unusedVariables false
namespace Go.Proofs.YtpgkkengffpnpaaGreat
open Go.RowKit

theorem addH_add {boxes : List G9} {m half n : Int} {x : Stowed} : G53 boxes m half n x = n + G53 boxes m half 0 x := by
  unfold G53
  split
  · cases Rh boxes x.G9 with
    | some b => simp only; omega
    | none => simp
  · simp
theorem H19 {boxes : List G9} {m half : Int} : ∀ (l : List Stowed) (n : Int), l.foldl (G53 boxes m half) n = n + l.foldl (G53 boxes m half) 0 := by
  intro l
  induction l with
  | nil => intro n; simp
  | cons x r ih =>
    intro n
    rw [List.foldl_cons, List.foldl_cons, ih (G53 boxes m half n x), ih (G53 boxes m half 0 x), addH_add (n := n)]
    omega
theorem J0f {l : List Stowed} {y : Slot} {half : Int} (h : below (l.map (·.Slot)) y half) : ∃ z ∈ l, z.Slot = ⟨y.G4, y.Tier - 1, half⟩ := by
  obtain ⟨z, hz, e⟩ := List.mem_map.1 h
  exact ⟨z, hz, e⟩
end Go.Proofs.YtpgkkengffpnpaaGreat
