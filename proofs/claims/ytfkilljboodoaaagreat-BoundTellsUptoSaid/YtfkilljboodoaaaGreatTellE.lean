/-
  BoundTells: the law.
-/
import Derived.Test.YtfkilljboodoaaaGreatTellD
set_option maxRecDepth 100000
set_option linter.unusedVariables false
namespace Go.Proofs.YtfkilljboodoaaaGreat
open Go.RowKit

theorem awake27 : Zk 7000 = some true := by kernel_rfl
theorem rep27 : ∀ n : Nat, n ≤ 20 → Qh 7000 [(-1)] (((2 * n : Nat) : Int) + 1) = some (List.replicate (2 * n + 1) (-1)) := fun n hn => by
  have h : (List.range 21).all (fun n => decide (Qh 7000 [(-1)] (((2 * n : Nat) : Int) + 1) = some (List.replicate (2 * n + 1) (-1)))) = true := by kernel_rfl
  exact of_decide_eq_true (List.all_eq_true.1 h n (List.mem_range.2 (by omega)))
theorem J7b {s : J0} (h1 : s.Columns ≠ []) : Wp (Yt s) (fun T => ∃ c ∈ s.Columns, T = c.Tiers) := by
  unfold Yt
  refine Rn (fun pre T => pre ≠ [] → ∃ c ∈ pre, T = c.Tiers) (fun h => (h rfl).elim) (fun pre y post T nx e hI hnx => ?_) (fun T hI => H3 (hI h1))
  refine J69 (fun j => ∃ c ∈ pre ++ [y], j = c.Tiers) (fun K hK => J5 (fun h => hK _ ⟨y, by simp, rfl⟩) (fun h => ?_)) (fun j hj => hnx _ (fun _ => hj))
  simp only [Bool.or_eq_false_iff, decide_eq_false_iff_not] at h
  have hne : pre ≠ [] := fun e0 => by rw [e0] at h; exact h.1 rfl
  obtain ⟨c0, g2, g3⟩ := hI hne
  exact hK _ ⟨c0, List.mem_append.2 (.inl g2), g3⟩
theorem up_is {T n : Int} (hT : 1 ≤ T ∧ T ≤ 10) (hn : 0 ≤ n ∧ n ≤ 100000) : Wp (Gc3 n T) (fun r => J18 T n r ∧ r ≤ 100000) := by
  unfold Gc3
  refine Jh ⟨by omega, by omega⟩ (Jh ⟨by omega, by omega⟩ (Jo (wp_quo (by omega) ⟨by omega, by omega⟩ (H3 ?_))))
  rw [Int.tdiv_eq_ediv_of_nonneg (by omega)]
  have h0 : 0 ≤ (n + T - 1) / T := Int.ediv_nonneg (by omega) (by omega)
  have h1 : T * ((n + T - 1) / T) ≤ n + T - 1 := Int.mul_ediv_self_le (by omega)
  have h2 : n + T - 1 < T * ((n + T - 1) / T) + T := Int.lt_mul_ediv_self_add (by omega)
  generalize (n + T - 1) / T = q at h0 h1 h2
  have hI : J18 T n q := ⟨h0, by rw [Int.mul_comm]; omega, by
    by_cases hq : q = 0
    · exact .inl hq
    · refine .inr ?_
      rw [Int.sub_mul, Int.one_mul, Int.mul_comm]; omega⟩
  exact ⟨hI, by have := hI.small hT.1 hn.1; omega⟩
theorem prog_need {s : J0} {T w h : Int} (hr : G6d s = some true) (ht : Yt s = some T) (hT : 1 ≤ T ∧ T ≤ 10) : Wp (G19 s w h) (fun r => (¬ (0 ≤ w ∧ 0 ≤ h ∧ w ≤ 2000 ∧ h ≤ 2000) ∧ r = (0, 2)) ∨ ((0 ≤ w ∧ 0 ≤ h ∧ w ≤ 2000 ∧ h ≤ 2000) ∧ G79 T w h r.1 ∧ r.2 = 0)) := by
  unfold G19
  refine H9 hr (J5 (fun hc => H3 (.inl ⟨fun hh => ?_, rfl⟩)) (fun hc => ?_))
  · simp only [Bool.or_eq_true, decide_eq_true_eq, Bool.not_true, Bool.false_eq_true, false_or] at hc
    omega
  simp only [Bool.or_eq_false_iff, decide_eq_false_iff_not] at hc
  have hb : 0 ≤ w ∧ 0 ≤ h ∧ w ≤ 2000 ∧ h ≤ 2000 := by omega
  refine H9 ht (Jo (wp_mono (up_is hT (n := w) ⟨by omega, by omega⟩) (fun a ha => ?_)))
  have ha0 := ha.1.nn
  refine Jh ⟨by omega, by omega⟩ (Jh ⟨by omega, by omega⟩ (Jh ⟨by omega, by omega⟩ (Jo (wp_mono (up_is hT (n := 2 * w + h) ⟨by omega, by omega⟩) (fun b hb2 => H3 (.inr ⟨hb, ⟨a, b, ha.1, hb2.1, rfl⟩, rfl⟩))))))
theorem ref_need2 {F : Nat} {s : J0} {T w h : Int} (hF : 6010 ≤ F) (hr : Ri F s = some true) (ht : Yt s = some T) (hT : 1 ≤ T ∧ T ≤ 10) : Wp (Qz F s w h) (fun r => (¬ (0 ≤ w ∧ 0 ≤ h ∧ w ≤ 2000 ∧ h ≤ 2000) ∧ r = (0, 2)) ∨ ((0 ≤ w ∧ 0 ≤ h ∧ w ≤ 2000 ∧ h ≤ 2000) ∧ G79 T w h r.1 ∧ r.2 = 0)) := by
  unfold Qz
  refine H9 hr (J5 (fun hc => H3 (.inl ⟨fun hh => ?_, rfl⟩)) (fun hc => ?_))
  · simp only [Bool.or_eq_true, decide_eq_true_eq, Bool.not_true, Bool.false_eq_true, false_or] at hc
    omega
  simp only [Bool.or_eq_false_iff, decide_eq_false_iff_not] at hc
  have hb : 0 ≤ w ∧ 0 ≤ h ∧ w ≤ 2000 ∧ h ≤ 2000 := by omega
  exact H9 (show Ro s = some T from ht) (Jo (wp_mono (J82 hT ⟨by omega, by omega⟩ ⟨by omega, by omega⟩ (by omega)) (fun r hr => H3 (.inr ⟨hb, hr, rfl⟩))))
structure FewT (s : J0) (boxes : List H4) (families : List (List G6)) : Prop where
  cols : s.Columns.length ≤ 20
  boxes : boxes.length ≤ 12
  num : families.length ≤ 6
  each : ∀ l ∈ families, l.length ≤ 8
theorem few27 (s : J0) (boxes : List H4) (families : List (List G6)) : Wp (G03 s boxes families) (fun r => r = true → FewT s boxes families) := by
  unfold G03
  refine J5 (fun h => H3 (fun h => Bool.noConfusion h)) (fun h => ?_)
  simp only [Bool.or_eq_false_iff, decide_eq_false_iff_not] at h
  obtain ⟨⟨⟨h1, h2⟩, h3⟩, h4⟩ := h
  refine Rn (fun pre _ => True) trivial (fun pre y post u nx e hI hnx => J5 (fun h => H3 (fun h => Bool.noConfusion h)) (fun h => hnx _ trivial)) (fun u hI => ?_)
  refine Rn (fun pre _ => True) trivial (fun pre y post u nx e hI hnx => J5 (fun h => H3 (fun h => Bool.noConfusion h)) (fun h => hnx _ trivial)) (fun u hI => ?_)
  refine Rn (fun pre _ => ∀ x ∈ pre, x.length ≤ 8) (fun c hc => (List.not_mem_nil hc).elim) (fun pre y post u nx e hI hnx => J5 (fun h => H3 (fun h => Bool.noConfusion h)) (fun h => hnx _ (Qw (P := fun x : List G6 => x.length ≤ 8) hI ?_))) (fun u hI2 => H3 (fun _ => ⟨by omega, by omega, by omega, hI2⟩))
  simp only [decide_eq_false_iff_not] at h; omega
/-- Both sides tell the same of Need, Check and Family. -/
structure Same27 (F : Nat) (s : J0) (boxes : List H4) (families : List (List G6)) (w h : Int) : Prop where
  need : ∃ r, G19 s w h = some r ∧ Qz F s w h = some r
  check : ∃ r, G3a F s boxes families = some r ∧ Rh F s boxes families = some r
  fam : ∀ l ∈ families, ∃ r, Y9 F s boxes l = some r ∧ R2 F s boxes l = some r
theorem need_both {F : Nat} {s : J0} {w h : Int} (hF : 6010 ≤ F) (hs : H51 s) : ∃ r, G19 s w h = some r ∧ Qz F s w h = some r := by
  obtain ⟨r1, e1, h1⟩ := J7d s hs.plugs hs.crows
  obtain ⟨r2, e2, h2⟩ := ref_right (F := F) s hs.plugs hs.crows
  by_cases hR : J49 s
  · rw [h1.2 hR] at e1
    rw [h2.2 hR] at e2
    have hne : s.Columns ≠ [] := fun e => by have := hR.num; rw [e] at this; simp at this
    obtain ⟨T, hT, c, hc, rfl⟩ := J7b hne
    have hTb := (hR.col c hc).place
    obtain ⟨r, er, hr⟩ := prog_need (w := w) (h := h) e1 hT ⟨by omega, by omega⟩
    obtain ⟨q, eq, hq⟩ := ref_need2 (w := w) (h := h) hF e2 hT ⟨by omega, by omega⟩
    have : r = q := by
      rcases hr with ⟨a, rfl⟩ | ⟨a, b, c2⟩
      · rcases hq with ⟨_, rfl⟩ | ⟨a', _⟩
        · rfl
        · exact (a a').elim
      · rcases hq with ⟨a', _⟩ | ⟨_, b', c'⟩
        · exact (a' a).elim
        · exact Prod.ext (b.eq (by omega) b') (c2.trans c'.symm)
    exact ⟨r, er, this ▸ eq⟩
  · have f1 : r1 = false := by
      cases r1 with
      | false => rfl
      | true => exact (hR (h1.1 rfl)).elim
    have f2 : r2 = false := by
      cases r2 with
      | false => rfl
      | true => exact (hR (h2.1 rfl)).elim
    subst f1 f2
    refine ⟨(0, 2), Ga2 ?_, Ga2 ?_⟩
    · unfold G19
      exact H9 e1 (J5 (fun _ => H3 rfl) (fun h => by cases h))
    · unfold Qz
      exact H9 e2 (J5 (fun _ => H3 rfl) (fun h => by cases h))
theorem both27 {s : J0} {boxes : List H4} {families : List (List G6)} {w h : Int} (hs : H51 s) (hf : FewT s boxes families) : Same27 7000 s boxes families w h := by
  have hb := hf.boxes
  have hcl := hf.cols
  obtain ⟨r1, e1, h1⟩ := prog_right2 (boxes := boxes) hs.plugs hs.crows (by omega)
  obtain ⟨r2, e2, h2⟩ := ref_right2 (F := 7000) (boxes := boxes) hs.plugs hs.crows (by omega)
  have hneed := need_both (F := 7000) (w := w) (h := h) (by omega) hs
  by_cases hR : J49 s ∧ BxR boxes
  · rw [h1.2 hR] at e1
    rw [h2.2 hR] at e2
    have hne : s.Columns ≠ [] := fun e => by have := hR.1.num; rw [e] at this; simp at this
    obtain ⟨T, hT, c, hc, rfl⟩ := J7b hne
    have hTb := (hR.1.col c hc).place
    obtain ⟨g0, hg⟩ := J43 (F := 7000) (boxes := boxes) (by omega) (by omega)
    have hex : ∀ l : List G6, ∃ v, l.length ≤ 8 → G71 7000 c.Tiers (l.map (cntB boxes)) (2 * s.Columns.length) v := fun l => by
      by_cases hl : l.length ≤ 8
      · obtain ⟨v, _, hv⟩ := ref_least (F0 := 7000) (T := c.Tiers) (by omega) ⟨by omega, by omega⟩ (l := l.map (J0f boxes)) (fun c hc => by
          obtain ⟨g, _, rfl⟩ := List.mem_map.1 hc
          exact J62 hb g) (by rw [List.length_map]; omega) l.length 0 7000 (2 * s.Columns.length) (by rw [List.length_map]; omega) (by omega) (by omega)
        rw [List.drop_zero, List.map_map] at hv
        exact ⟨v, fun _ => hv⟩
      · exact ⟨0, fun h => (hl h).elim⟩
    obtain ⟨bv, hbv⟩ := Classical.axiomOfChoice hex
    have hset : J9a 7000 7000 s boxes c.Tiers g0 bv := ⟨hT, ⟨by omega, by omega⟩, hcl, hb, hg, hbv, rep27 _ hcl⟩
    refine ⟨hneed, ?_, fun l hl => ?_⟩
    · obtain ⟨r, er, hr⟩ := prog_check hset (by omega) e1 hf.each hf.num
      obtain ⟨q, eq, hq⟩ := ref_check hset (by omega) e2 hf.each hf.num
      exact ⟨r, er, by rw [hr.eq hq]; exact eq⟩
    · obtain ⟨r, er, hr⟩ := prog_fam hset (by omega) e1 (hf.each l hl)
      obtain ⟨q, eq, hq⟩ := ref_fam hset (by omega) e2 (hf.each l hl)
      refine ⟨r, er, ?_⟩
      have : r = q := by
        rcases hr with ⟨a, rfl⟩ | ⟨a, rfl⟩ <;> rcases hq with ⟨a', rfl⟩ | ⟨a', rfl⟩
        · rfl
        · exact (a a').elim
        · exact (a' a).elim
        · rfl
      rw [this]; exact eq
  · have f1 : r1 = false := by
      cases r1 with
      | false => rfl
      | true => exact (hR (h1.1 rfl)).elim
    have f2 : r2 = false := by
      cases r2 with
      | false => rfl
      | true => exact (hR (h2.1 rfl)).elim
    subst f1 f2
    refine ⟨hneed, ⟨(0, 2), Ga2 ?_, Ga2 ?_⟩, fun l hl => ⟨(0, 2), Ga2 ?_, Ga2 ?_⟩⟩
    · unfold G3a
      exact H9 e1 (J5 (fun _ => H3 rfl) (fun h => by cases h))
    · unfold Rh
      exact H9 e2 (J5 (fun _ => H3 rfl) (fun h => by cases h))
    · unfold Y9
      exact H9 e1 (J5 (fun _ => H3 rfl) (fun h => by cases h))
    · unfold R2
      exact H9 e2 (J5 (fun _ => H3 rfl) (fun h => by cases h))
theorem lawTells (s : J0) (boxes : List H4) (families : List (List G6)) (a b : G6) (m n : Int) (hs : H51 s) (l1 : boxes.length ≤ 1048576) (l2 : families.length ≤ 1048576) (l3 : ∀ x ∈ families, x.length ≤ 1048576) : Z7 7000 s boxes families a b m n = some true := by
  refine Ga2 ?_
  unfold Z7
  refine Jo (wp_mono (few27 s boxes families) (fun r4 h4 => J5 (fun _ => H9 awake27 (H3 rfl)) (fun h => ?_)))
  have hf := h4 (by simpa using h)
  have hfb := hf.boxes
  obtain ⟨g0, hg⟩ := J43 (F := 7000) (boxes := boxes) (by omega) (by omega)
  have hsame := both27 (w := m) (h := n) hs hf
  obtain ⟨q, eq2, eq1, _⟩ := J02 a b
  obtain ⟨nr, en1, en2⟩ := hsame.need
  obtain ⟨cr, ec1, ec2⟩ := hsame.check
  refine H9 (LentShip_eq hs) (H9 (LentBoxes_eq l1) (H9 (J57 l2 l3) ?_))
  rw [plShip, plFamilies]
  refine H9 hg.prog (H9 hg.ref ?_)
  rw [decide_eq_false (show ¬ ((g0.length : Int) ≠ ((g0.map toR).length : Int)) from fun h => h (by rw [List.length_map])), Bool.not_false, cond_true, cond_true, eq1, H0b, eq2, H0b, Bool.false_or]
  refine J5 (fun h => by simp at h) (fun _ => ?_)
  refine Rn (fun _ _ => True) trivial (fun pre y post u nx e _ hnx => ?_) (fun u _ => ?_)
  · have hy : (g0.map toR)[pre.length]? = some (toR y) := by rw [e]; simp
    refine G2d rfl hy (J5 (fun h => ?_) (fun _ => hnx _ trivial))
    have hyy : y = G2.mk (toR y).G6 (toR y).Whole (toR y).Half := by cases y; rfl
    rw [decide_eq_true hyy] at h; cases h
  refine H9 en1 (H9 en2 (J5 (fun h => by simp at h) (fun _ => H9 (show Gc6 7000 s boxes families = some cr from ec1) (H9 ec2 (J5 (fun h => by simp at h) (fun _ => ?_))))))
  refine Rn (fun _ _ => True) trivial (fun pre y post u nx e _ hnx => ?_) (fun u _ => ?_)
  · have hy : (H70 families).1[pre.length]? = some (y, marks Gcb) := by
      show (families.map (fun x => (x, marks Gcb)))[pre.length]? = _
      rw [e]; simp
    obtain ⟨r, e1, e2⟩ := hsame.fam y (by rw [e]; simp)
    exact G2d rfl hy (H9 e1 (H9 e2 (J5 (fun h => by simp at h) (fun _ => hnx _ trivial))))
  rw [KeptShip_eq hs, H0b, cond_true, KeptBoxes_eq l1, H0b, Bool.and_self, cond_true, J58 l2 l3, H0b, Bool.and_self, cond_true, awake27, H0b]
  exact H3 rfl
end Go.Proofs.YtfkilljboodoaaaGreat
