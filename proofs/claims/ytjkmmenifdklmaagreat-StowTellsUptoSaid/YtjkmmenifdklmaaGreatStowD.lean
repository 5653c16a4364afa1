/-
 The examples of the chapter. The law that compares Find, Right, Height, Above and Reach.
-/
import Derived.Test.YtjkmmenifdklmaaGreatXP
import Derived.Test.YtjkmmenifdklmaaGreatStowC
set_option linter.unusedVariables false
set_option linter.unusedSimpArgs false
set_option maxRecDepth 100000
namespace Go.Proofs.YtjkmmenifdklmaaGreat
open Go.RowKit
theorem awake09 : Rv 60 = some true := by kernel_rfl
end Go.Proofs.YtjkmmenifdklmaaGreat
set_option maxRecDepth 100000
set_option linter.unusedVariables false
namespace Go.Proofs.YtjkmmenifdklmaaGreat
open Go.RowKit

structure Few9 (s : H4) (boxes : List Gh) (l : List Stowed) (others : List Int) : Prop where
  cols : s.Columns.length ≤ 20
  covs : s.Covers.length ≤ 20
  boxes : boxes.length ≤ 40
  len : l.length ≤ 30
  others : others.length ≤ 12
  cov : ∀ x ∈ s.Covers, x.Rows.length ≤ 40
theorem few9_spec (s : H4) (boxes : List Gh) (l : List Stowed) (others : List Int) : Wp (G00 s boxes l others) (fun r => r = true → Few9 s boxes l others) := by
  unfold G00
  refine J7 (fun h => Gt (fun h => Bool.noConfusion h)) (fun h => ?_)
  simp only [Bool.or_eq_false_iff, decide_eq_false_iff_not] at h
  obtain ⟨⟨⟨⟨h1, h2⟩, h3⟩, h4⟩, h5⟩ := h
  refine Qk (fun pre _ => True) trivial (fun pre y post u nx e hI hnx => J7 (fun h => Gt (fun h => Bool.noConfusion h)) (fun h => hnx _ trivial)) (fun u hI => ?_)
  refine Qk (fun pre _ => ∀ x ∈ pre, x.Rows.length ≤ 40) (fun c hc => (List.not_mem_nil hc).elim) (fun pre y post u nx e hI hnx => J7 (fun h => Gt (fun h => Bool.noConfusion h)) (fun h => hnx _ (Qj (P := fun x : Gc => x.Rows.length ≤ 40) hI ?_))) (fun u hI2 => Gt (fun _ => ⟨by omega, by omega, by omega, by omega, by omega, hI2⟩))
  simp only [decide_eq_false_iff_not] at h; omega
theorem lawTells9F {F : Nat} (hF : 40 ≤ F) (hA : Rv F = some true) (s : H4) (boxes : List Gh) (l : List Stowed) (ids : List Int) (n half : Int) (hs : Hc1 s) (hb : ∀ b ∈ boxes, 0 ≤ b.Size ∧ b.Size ≤ 255) (l1 : boxes.length ≤ 1048576) (l2 : l.length ≤ 1048576) (l3 : ids.length ≤ 1048576) : Rm F s boxes l ids n half = some true := by
  refine G1e ?_
  unfold Rm
  refine Hj (wp_mono (few9_spec s boxes l ids) (fun r4 h4 => J7 (fun _ => H2 hA (Gt rfl)) (fun h => ?_)))
  have hf := h4 (by simpa using h)
  have hr : ∀ x ∈ s.Covers, x.Rows.length ≤ 1000000 := fun x hx => by have := hf.cov x hx; omega
  have hlen := hf.len
  refine H2 (LentShip_eq hs) (H2 (LentBoxes_eq l1) (H2 (Jc6 l2) (H2 (H35 l3) ?_)))
  rw [plShip]
  obtain ⟨v, hv1, hv2⟩ : ∃ v, G2a boxes n = some v ∧ Qr boxes n = some v := ⟨_, J25 boxes n, Ja2 boxes n⟩
  refine H2 hv1 (H2 hv2 ?_)
  have c1 : ((!decide (v.1 = v.1)) || (!(v.2 == v.2))) = false := by simp
  rw [c1]
  simp only [Bool.not_false, cond_true, Bool.false_or]
  refine Hj (wp_mono (prog_stow (boxes := boxes) (l := l) hs.plugs hs.crows (by omega)) (fun r18 h18 => Hj (wp_mono (ref_stow (F := F) (boxes := boxes) (l := l) hs.plugs hs.crows hb (by omega)) (fun r19 h19 => ?_))))
  have h1819 : r18 = r19 := by
    cases r18 <;> cases r19 <;> simp_all
  subst h1819
  have c2 : (!(r18 == r18)) = false := by simp
  rw [c2]
  simp only [Bool.not_false, cond_true, Bool.false_or]
  refine H2 (H93 boxes l n half (by omega)) (H2 (Hea boxes l n half (by omega)) ?_)
  have c3 : decide (G32 boxes l n half ≠ G32 boxes l n half) = false := decide_eq_false (by simp)
  rw [c3, cond_false]
  refine H2 (J9c l n (by omega)) (H2 (ref_above l n (by omega)) ?_)
  refine Hj (wp_mono (prog_reach (F := F) (s := s) (boxes := boxes) (l := l) (ids := ids) hs.plugs hr (by have := hf.covs; omega) (by omega) (by omega)) (fun r28 h28 => Hj (wp_mono (ref_reach (F := F) (s := s) (boxes := boxes) (l := l) (ids := ids) hs.plugs hr (by have := hf.covs; omega) hb (by omega) (by omega)) (fun r30 h30 => ?_))))
  have e := Hf5.eq h28 h30
  subst e
  have c4 : decide ((Ha7 l n).2 ≠ (Ha7 l n).2) = false := decide_eq_false (by simp)
  have c5 : decide (r28.2 ≠ r28.2) = false := decide_eq_false (by simp)
  rw [c4, c5, Bool.or_self, Bool.not_false, cond_true, G80, H75, Bool.not_true, Bool.or_self, Bool.not_false, cond_true, G80, H75, Bool.not_true, Bool.or_self, cond_false]
  rw [KeptShip_eq hs, H75, cond_true, KeptBoxes_eq l1, H75, Bool.and_self, cond_true, Jc8 l2, H75, Bool.and_self, cond_true, H36 l3, H75, Bool.and_self, cond_true, hA, H75]
  exact Gt rfl
theorem lawTells9 (s : H4) (boxes : List Gh) (l : List Stowed) (ids : List Int) (n half : Int) (hs : Hc1 s) (hb : ∀ b ∈ boxes, 0 ≤ b.Size ∧ b.Size ≤ 255) (l1 : boxes.length ≤ 1048576) (l2 : l.length ≤ 1048576) (l3 : ids.length ≤ 1048576) : Rm 60 s boxes l ids n half = some true :=
  lawTells9F (by omega) awake09 s boxes l ids n half hs hb l1 l2 l3
end Go.Proofs.YtjkmmenifdklmaaGreat
