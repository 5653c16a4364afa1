/-
  BoundFamilies: the law's plain mathematics.
-/
import Derived.Test.YtlhfflmknlfafaaFamB
import Derived.Test.YtlhfflmknlfafaaXD
set_option maxRecDepth 100000
namespace Go.Proofs.Ytlhfflmknlfafaa
open Go.RowKit

theorem tallest_spec {s : Ship} (h1 : s.Columns ≠ []) : Wp (M_ship_Tallest s) (fun T => (∀ c ∈ s.Columns, c.Tiers ≤ T) ∧ ∃ c ∈ s.Columns, T = c.Tiers) := by
  unfold M_ship_Tallest
  refine wp_each (fun pre T => pre ≠ [] → (∀ c ∈ pre, c.Tiers ≤ T) ∧ ∃ c ∈ pre, T = c.Tiers) (fun h => (h rfl).elim) (fun pre y post T nx e hI hnx => ?_) (fun T hI => wp_some (hI h1))
  refine wp_jp (fun j => (∀ c ∈ pre ++ [y], c.Tiers ≤ j) ∧ ∃ c ∈ pre ++ [y], j = c.Tiers) (fun K hK => wp_bif (fun h => hK _ ⟨fun c hc => ?_, y, by simp, rfl⟩) (fun h => ?_)) (fun j hj => hnx _ (fun _ => hj))
  · rcases List.mem_append.1 hc with hc | hc
    · have hne : pre ≠ [] := fun e0 => by rw [e0] at hc; exact List.not_mem_nil hc
      have hlen : ¬ (pre.length : Int) = 0 := fun e0 => hne (List.eq_nil_of_length_eq_zero (by omega))
      simp only [Bool.or_eq_true, decide_eq_true_eq] at h
      have := (hI hne).1 c hc
      rcases h with h | h
      · exact (hlen h).elim
      · omega
    · rw [List.mem_singleton.1 hc]; exact Int.le_refl _
  · simp only [Bool.or_eq_false_iff, decide_eq_false_iff_not] at h
    have hne : pre ≠ [] := fun e0 => by rw [e0] at h; exact h.1 rfl
    obtain ⟨g1, c0, g2, g3⟩ := hI hne
    refine hK _ ⟨fun c hc => ?_, c0, List.mem_append.2 (.inl g2), g3⟩
    rcases List.mem_append.1 hc with hc | hc
    · exact g1 c hc
    · rw [List.mem_singleton.1 hc]; omega

def newCol (t : Int) : G8 := G8.mk 30 0 false t 0 0 0 0 [] 0 0 0
def wide (s : Ship) (t : Int) : Ship := Ship.mk (s.Columns ++ [newCol t]) s.Covers s.Light s.Rows s.Frames s.Tanks s.G4
theorem newCol_right {t : Int} (ht : 1 ≤ t ∧ t ≤ 10) : M_ship_right (newCol t) = some true := by
  unfold M_ship_right newCol
  simp only
  rw [each, right_1_ok]
  · rfl
  · intro x hx
    simp only [List.mem_cons, List.not_mem_nil, or_false] at hx
    rcases hx with rfl | rfl | rfl | rfl | rfl | rfl | rfl | rfl | rfl | rfl <;> simp only <;> omega
theorem wide_right {s : Ship} (h : BuiltOk s) {t : Int} (ht : 1 ≤ t ∧ t ≤ 10) : S_ship_Right (wide s t) = some true := by
  obtain ⟨⟨a1, a2, a3⟩, a4, a5, a6⟩ := built_shipOk h
  have hc := h.cols.len
  refine right_of_ok ⟨⟨by simp [wide], by simp only [wide, List.length_append, List.length_singleton]; omega, a3⟩, fun c hcm => ?_, a5, ?_⟩
  · rcases List.mem_append.1 hcm with hcm | hcm
    · exact a4 c hcm
    · rw [List.mem_singleton.1 hcm]; exact newCol_right ht
  · show ((s.Columns ++ [newCol t]).map k3 ++ s.Covers.flatMap x3).Nodup
    obtain ⟨b1, b2, b3⟩ := List.nodup_append.1 a6
    rw [List.map_append]
    have hk : k3 (newCol t) = ⟨30, 0, 0⟩ := rfl
    refine List.nodup_append.2 ⟨List.nodup_append.2 ⟨b1, by simp, fun a ha b hb e => ?_⟩, b2, fun a ha b hb e => ?_⟩
    · simp only [List.map_cons, List.map_nil, List.mem_singleton] at hb
      obtain ⟨c, hcm, rfl⟩ := List.mem_map.1 ha
      have := (h.cols.each c hcm).bay
      rw [hb, hk] at e
      simp only [k3, Arr3Int.mk.injEq] at e
      omega
    · rcases List.mem_append.1 ha with ha | ha
      · exact b3 a ha b hb e
      · simp only [List.map_cons, List.map_nil, List.mem_singleton] at ha
        obtain ⟨x, hx, hxb⟩ := List.mem_flatMap.1 hb
        obtain ⟨r, _, rfl⟩ := List.mem_map.1 hxb
        have := (h.covs.each x hx).bay
        rw [ha, hk] at e
        simp only [Arr3Int.mk.injEq] at e
        omega

theorem BoxesOk.more {boxes : List Box} (h : BoxesOk 6 boxes) : BoxesOk 20 boxes :=
  ⟨by omega, h.len, fun b hb => by obtain ⟨h1, h2, h3, h4, h5⟩ := h.each b hb; exact ⟨h1, h2, h3, h4, by omega⟩, h.sorted⟩
theorem right_ok {s : Ship} {boxes : List Box} (hs : S_ship_Right s = some true) (hb : BoxesOk 6 boxes) : M_bound_right s boxes = some true := by
  unfold M_bound_right
  rw [hs, bnd_some]
  simp only [cond_true, plan_boxes hb.more, bnd_some]
  rfl
theorem groups_ok {boxes : List Box} (hb : BoxesOk 6 boxes) : ∃ g0, S_bound_Groups boxes = some g0 ∧ g0.length ≤ 10 ∧ (∀ c ∈ g0, CountOk c) ∧ ∀ a ∈ g0, ∀ b ∈ g0, a.G7 = b.G7 → a = b := by
  have hl := hb.len
  obtain ⟨l, e, h1, h2, h3, _⟩ := groups_facts boxes (by omega)
  refine ⟨l, e, by omega, fun c hc => ?_, fun a ha b hb' hab => ?_⟩
  · obtain ⟨e1, e2, _⟩ := h2 c hc
    have g1 := boxn_le 40 c.G7 boxes
    have g2 := boxn_le 20 c.G7 boxes
    exact ⟨by omega, by omega⟩
  · obtain ⟨i, hi, rfl⟩ := List.mem_iff_getElem.1 ha
    obtain ⟨j, hj, rfl⟩ := List.mem_iff_getElem.1 hb'
    rcases Nat.lt_trichotomy i j with h | h | h
    · have := h3 i j h hj
      rw [gcmp_lt, hab] at this
      simp at this
    · subst h; rfl
    · have := h3 j i h hi
      rw [gcmp_lt, hab] at this
      simp at this

theorem family_val {F : Nat} {s : Ship} {boxes : List Box} {g0 ls : List G0} {v : Int} (hr : M_bound_right s boxes = some true) (hg : S_bound_Groups boxes = some g0) (hu : ∀ a ∈ g0, ∀ b ∈ g0, a.G7 = b.G7 → a = b)
    (hs : ∀ c ∈ ls, c ∈ g0) (hx : (ls.map (·.G7)).Pairwise CrossG) (hl : ls.length ≤ 20) (hv : M_bound_bound F s ls = some v) : M_bound_Family F s boxes (ls.map (·.G7)) = some (v, 0) := by
  unfold M_bound_Family
  rw [hr, bnd_some]
  simp only [Bool.not_true, cond_false]
  rw [hg, bnd_some, family_spec hu hs hx hl, bnd_some]
  simp only [hv, bnd_some]
  rfl

/-- At which numbers of halves the code's rows begin as they should. -/
def RepOk (F : Nat) : Prop := ∀ n : Nat, n ≤ 13 → M_slices_Repeat_int F [(-1)] (((2 * n : Nat) : Int) + 1) = some (List.replicate (2 * n + 1) (-1))

theorem fams_sum {F : Nat} {s : Ship} {g0 : List G0} : ∀ (fs : List (List G0 × Int)), (∀ f ∈ fs, Fam F s g0 f) → 0 ≤ (fs.map (·.2)).sum ∧ (fs.map (·.2)).sum ≤ 400 * (fs.length : Int)
  | [], _ => ⟨Int.le_refl _, by simp⟩
  | f :: fs, h => by
    have h1 := (h f (List.mem_cons_self ..)).pos
    have h2 := fams_sum fs (fun g hg => h g (List.mem_cons_of_mem _ hg))
    simp only [List.map_cons, List.sum_cons, List.length_cons]
    omega

theorem lawFamiliesF {F : Nat} (hF : 60 ≤ F) (hA : M_twistlocklaw27_awake F = some true) (hRep : RepOk F) (l : List law07_Place) (covers : Int) (items : List law23_Item) (tiers : Int) (hp : ∀ p ∈ l, PlaceOk p) (hi : ∀ x ∈ items, ItemOk x) (ht : Byte tiers) :
    M_twistlocklaw27_BoundFamilies F l covers items tiers = some true := by
  refine wp_eq ?_
  unfold M_twistlocklaw27_BoundFamilies
  refine wp_bnd (wp_natIn (m := min l.length 4) (by omega) (by omega) ?_)
  refine wp_bnd (wp_mono (built_spec _ covers (fun p h => hp p (List.mem_of_mem_take h))) (fun s hB => ?_))
  have hs := built_small hB
  have hcl := hB.cols.len
  have hc1 := hB.some
  refine wp_bnd (wp_mono (Voyage_spec hs hi (by omega) hF) (fun r6 h6 => ?_))
  obtain ⟨hb, _⟩ := h6
  obtain ⟨g0, hg, hgl, hgok, hgu⟩ := groups_ok hb
  have hr := right_ok hs.right hb
  obtain ⟨T, eT, hT1, c1, hc1m, hT2⟩ := tallest_spec (s := s) (fun e => by rw [e] at hc1; simp at hc1)
  have hTb : 0 ≤ T ∧ T ≤ 10 := by have := (hB.cols.each c1 hc1m).tiers; omega
  have hbd : ∀ ls : List G0, (∀ c ∈ ls, CountOk c) → ls.length ≤ 20 → Wp (M_bound_bound F s ls) (fun v => Best F T ls (2 * s.Columns.length) v ∧ 0 ≤ v ∧ v ≤ 400) := fun ls h1 h2 =>
    bound_spec eT ⟨hTb.1, by omega⟩ rfl (by omega) (hRep s.Columns.length (by omega)) h1 h2 hF
  have hnil : ∀ {v : Int}, Best F T [] (2 * s.Columns.length) v → v = 0 := fun {v} h => by
    obtain ⟨ps, e1, _, e3⟩ := h.att
    rw [List.map_eq_nil_iff.1 e1] at e3
    exact e3.symm
  refine wp_bnd (wp_mono (findF_spec hr hg hgok hgl (fun ls h1 h2 => wp_mono (hbd ls h1 h2) (fun v hv => ⟨hv.2.1, hv.2.2, fun e => by subst e; exact hnil hv.1⟩)) hF) (fun r8 h8 => ?_))
  obtain ⟨e8, fs, e1, hfound, hfl⟩ := h8
  obtain ⟨fams, sum, er⟩ := r8
  simp only at e8 e1 hfound ⊢
  subst e8 e1
  refine wp_bif (fun h => by simp at h) (fun _ => ?_)
  obtain ⟨t1, t2⟩ := ht
  simp only [List.nil_append]
  refine wp_need (room_ok (by simp only [List.length_nil]; omega) (by omega)) (wp_chk ⟨by omega, by omega⟩ (wp_bnd (wp_rem (by omega) ?_)))
  rw [show tiers.tmod 10 = tiers % 10 from Int.tmod_eq_emod_of_nonneg t1]
  have htm : 0 ≤ tiers % 10 ∧ tiers % 10 < 10 := by omega
  generalize tiers % 10 = tm at htm
  refine wp_chk ⟨by omega, by omega⟩ (wp_need (room_ok (by rw [List.length_singleton]; omega) (by omega)) ?_)
  have hw : Ship.mk (s.Columns ++ [G8.mk 30 0 false (1 + tm) 0 0 0 0 [] 0 0 0]) s.Covers s.Light s.Rows s.Frames s.Tanks s.G4 = wide s (1 + tm) := rfl
  rw [hw]
  have hrw := right_ok (wide_right hB (t := 1 + tm) (by omega)) hb
  have hwl : (wide s (1 + tm)).Columns.length = s.Columns.length + 1 := by simp [wide]
  obtain ⟨T', eT', hT1', c2, hc2m, hT2'⟩ := tallest_spec (s := wide s (1 + tm)) (fun e => by rw [e] at hwl; simp at hwl)
  have hTT : T ≤ T' := by rw [hT2]; exact hT1' c1 (List.mem_append.2 (.inl hc1m))
  have hTb' : T' ≤ 20 := by
    rcases List.mem_append.1 hc2m with h | h
    · have := (hB.cols.each c2 h).tiers; omega
    · rw [List.mem_singleton.1 h] at hT2'
      have : (newCol (1 + tm)).Tiers = 1 + tm := rfl
      omega
  have hbw : ∀ ls : List G0, (∀ c ∈ ls, CountOk c) → ls.length ≤ 20 → Wp (M_bound_bound F (wide s (1 + tm)) ls) (fun v => Best F T' ls (2 * (s.Columns.length + 1)) v ∧ 0 ≤ v ∧ v ≤ 400) := fun ls h1 h2 =>
    bound_spec eT' ⟨by omega, hTb'⟩ (by rw [hwl]) (by omega) (hRep (s.Columns.length + 1) (by omega)) h1 h2 hF
  have hsum : sum = (fs.map (·.2)).sum := hfound.sum_eq
  refine wp_each (fun pre st => ∃ f1 f2, fs = f1 ++ f2 ∧ pre = groupsOf f1 ∧ st.1 = (f2.map (·.2)).sum ∧ ∀ g, AMap.get st.2 g 0 = if g ∈ pre.flatten then 1 else 0) ⟨[], fs, rfl, rfl, hsum, fun g => by rw [amap_get_empty]; simp⟩ (fun pre x post st nx e hI hnx => ?_) (fun st hI => ?_)
  · obtain ⟨f1, f2, q1, q2, q3, q4⟩ := hI
    have hspl : groupsOf f2 = x :: post := by
      have h1 : groupsOf fs = groupsOf f1 ++ groupsOf f2 := by rw [q1]; unfold groupsOf; simp
      rw [e, ← q2, List.append_cancel_left_eq] at h1
      exact h1.symm
    obtain ⟨f, f3, rfl, hfx, hf3⟩ := List.map_eq_cons_iff.1 hspl
    have hfm : f ∈ fs := by rw [q1]; simp
    have hfam := hfound.each f hfm
    obtain ⟨ls, n⟩ := f
    obtain ⟨a1, a2, a3, a4, a5, a6⟩ := hfam
    simp only at a1 a2 a3 a4 a5 a6 hfx
    subst hfx
    have hlsok : ∀ c ∈ ls, CountOk c := fun c h => hgok c (a1 c h)
    obtain ⟨v1, ev1, hv1, _⟩ := hbd ls hlsok (by omega)
    have : v1 = n := by rw [a4] at ev1; exact (Option.some.inj ev1).symm
    subst this
    obtain ⟨m, em, hm, hm0, hm4⟩ := hbw ls hlsok (by omega)
    have hmn : m ≤ v1 := hv1.wide hlsok hTb.1 hTT hTb' (by omega) (by omega) hF hm
    refine wp_bnd_eq (family_val hr hg hgu a1 a2 (by omega) a4) (wp_bnd_eq (family_val hrw hg hgu a1 a2 (by omega) em) (wp_chk ⟨by show (-9223372036854775808 : Int) ≤ 0 + 0; decide, by show (0 : Int) + 0 ≤ _; decide⟩ (wp_bif (fun h => ?_) (fun _ => ?_))))
    · simp only [Bool.or_eq_true, decide_eq_true_eq] at h
      omega
    have hq3 : st.1 = v1 + (f3.map (·.2)).sum := by rw [q3]; simp
    have hf3s := fams_sum f3 (fun g hg' => hfound.each g (by rw [q1]; simp [hg']))
    have hf3l : f3.length ≤ 10 := by rw [q1] at hfl; simp only [List.length_append, List.length_cons] at hfl; omega
    refine wp_chk ⟨by omega, by omega⟩ ?_
    have hnd := hfound.nodup
    rw [e, List.flatten_append, List.flatten_cons] at hnd
    obtain ⟨_, hnd2, hnd3⟩ := List.nodup_append.1 hnd
    have hnd4 := (List.nodup_append.1 hnd2).1
    refine wp_each (fun pre2 m38 => ∀ g, AMap.get m38 g 0 = if g ∈ pre.flatten ++ pre2 then 1 else 0) (fun g => by rw [q4, List.append_nil]) (fun pre2 y post2 m38 nx2 e2 hJ hnx2 => ?_) (fun m38 hJ => hnx _ ⟨f1 ++ [(ls, v1)], f3, by rw [q1]; simp, by rw [q2]; unfold groupsOf; simp, by show st.1 - v1 = _; omega, fun g => by rw [hJ]; simp⟩)
    have hynot : y ∉ pre.flatten ++ pre2 := fun hin => by
      rcases List.mem_append.1 hin with hin | hin
      · exact hnd3 y hin y (List.mem_append.2 (.inl (by rw [e2]; simp))) rfl
      · rw [e2] at hnd4
        exact (List.nodup_append.1 hnd4).2.2 y hin y (List.mem_cons_self ..) rfl
    have hget := hJ y
    rw [if_neg hynot] at hget
    rw [hget]
    refine wp_bnd (wp_some (wp_chk ⟨by decide, by decide⟩ ?_))
    refine wp_bnd_eq (x := 1) (by rw [amap_get_put, if_pos rfl]; rfl) (wp_bif (fun h => by simp at h) (fun _ => ?_))
    have hlen2 : (ls.map (·.G7)).length = pre2.length + 1 + post2.length := by rw [e2]; simp; omega
    have hlsl : (ls.map (·.G7)).length = ls.length := List.length_map ..
    have hdrop : (ls.map (·.G7)).drop (pre2.length + 1) = post2 := by rw [e2]; simp
    have htake : (ls.map (·.G7)).take pre2.length = pre2 := by rw [e2]; simp
    refine wp_bnd (wp_natIn (m := pre2.length + 1) rfl (by omega) ?_)
    rw [hdrop]
    have hx2 := a2
    rw [e2] at hx2
    have hpw := List.pairwise_append.1 hx2
    refine wp_each (fun _ _ => True) trivial (fun pre3 z post3 u nx3 e3 _ hnx3 => ?_) (fun u _ => ?_)
    · obtain ⟨r, er, hr2⟩ := cross_eq y z
      have hz : CrossG y z := (List.pairwise_cons.1 hpw.2.1).1 z (by rw [e3]; simp)
      rw [hr2.2 hz] at er
      exact wp_bnd_eq er (wp_bif (fun h => by cases h) (fun _ => hnx3 _ trivial))
    refine wp_bnd (wp_natIn (m := pre2.length) rfl (by omega) ?_)
    rw [htake]
    simp only [List.nil_append]
    refine wp_need (room_ok (by simp only [List.length_nil]; omega) (by omega)) (wp_bnd (wp_natIn (m := pre2.length + 1) rfl (by omega) ?_))
    rw [hdrop]
    refine wp_need (room_ok (by omega) (by omega)) ?_
    obtain ⟨ls1, ls2', rfl, m1, m2⟩ := List.map_eq_append_iff.1 e2
    obtain ⟨c, ls2, rfl, m3, m4⟩ := List.map_eq_cons_iff.1 m2
    have hsub : ∀ d ∈ ls1 ++ ls2, d ∈ ls1 ++ c :: ls2 := fun d hd => by
      rcases List.mem_append.1 hd with hd | hd
      · exact List.mem_append.2 (.inl hd)
      · exact List.mem_append.2 (.inr (List.mem_cons_of_mem _ hd))
    have hlens : (ls1 ++ ls2).length ≤ 20 := by simp only [List.length_append, List.length_cons] at a3 ⊢; omega
    have hmap : (ls1 ++ ls2).map (·.G7) = pre2 ++ post2 := by rw [List.map_append, m1, m4]
    have hpw2 : ((ls1 ++ ls2).map (·.G7)).Pairwise CrossG := by
      rw [hmap]
      exact List.pairwise_append.2 ⟨hpw.1, (List.pairwise_cons.1 hpw.2.1).2, fun a ha b hb' => hpw.2.2 a ha b (List.mem_cons_of_mem _ hb')⟩
    obtain ⟨v2, ev2, hv2, _⟩ := hbd (ls1 ++ ls2) (fun d hd => hlsok d (hsub d hd)) hlens
    have hless : v2 ≤ v1 := hv1.sub (hlsok c (by simp)) ⟨hTb.1, by omega⟩ (by omega) hF hv2
    rw [← hmap]
    refine wp_bnd_eq (family_val hr hg hgu (fun d hd => a1 d (hsub d hd)) hpw2 hlens ev2) (wp_bif (fun h => ?_) (fun _ => hnx2 _ (fun g => ?_)))
    · simp only [Bool.or_eq_true, decide_eq_true_eq] at h
      omega
    · rw [amap_get_put]
      by_cases hgy : y = g
      · subst hgy
        rw [if_pos rfl, if_pos (by simp)]
        rfl
      · rw [if_neg hgy, hJ]
        have : (g ∈ pre.flatten ++ (pre2 ++ [y])) ↔ g ∈ pre.flatten ++ pre2 := by
          rw [← List.append_assoc, List.mem_append, List.mem_singleton]
          exact ⟨fun h => h.elim _root_.id (fun e0 => (hgy e0.symm).elim), .inl⟩
        simp only [this]
  · obtain ⟨f1, f2, q1, q2, q3, _⟩ := hI
    have hf2 : f2 = [] := by
      have h1 := congrArg List.length q2
      rw [q1] at h1
      unfold groupsOf at h1
      simp only [List.length_map, List.length_append] at h1
      exact List.eq_nil_of_length_eq_zero (by omega)
    subst hf2
    have h0 : st.1 = 0 := q3
    rw [h0]
    simp only [decide_true, cond_true, Bool.true_and]
    exact wp_bnd_eq hA (wp_some rfl)
end Go.Proofs.Ytlhfflmknlfafaa
