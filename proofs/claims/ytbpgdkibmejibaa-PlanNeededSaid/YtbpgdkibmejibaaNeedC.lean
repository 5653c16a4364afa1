/-
  PlanNeeded: the law's plain mathematics.
-/
import Derived.Test.YtbpgdkibmejibaaNeedB
import Derived.Test.YtbpgdkibmejibaaAwake23
set_option maxRecDepth 100000
namespace Go.Proofs.Ytbpgdkibmejibaa
open Go.RowKit

structure DropOk (d : law09_Drop) : Prop where
  column : Byte d.Column
  kilos : Byte d.Kilos
/-- What a box takes from its row. -/
def strip (d : law09_Drop) : Int × Bool × Bool := (d.Kilos, d.Small, d.High)
def szHigh (t : Int × Bool × Bool) : Int × Bool := bif t.2.1 then (20, false) else (40, t.2.2)
def boxOf (p : (Int × Bool × Bool) × Nat) : Box := Box.mk (5 * ((p.2 + 1 : Nat) : Int)) ByteArray.empty (szHigh p.1).1 (szHigh p.1).2 (1000 + 100 * p.1.1) 0 1 0 false
def boxesL (l : List law09_Drop) : List Box := (l.map strip).zipIdx.map boxOf
theorem boxesL_snoc (l : List law09_Drop) (d : law09_Drop) : boxesL (l ++ [d]) = boxesL l ++ [boxOf (strip d, l.length)] := by
  unfold boxesL
  rw [List.map_append, List.zipIdx_append, List.map_append, List.length_map]
  simp
theorem boxesL_len (l : List law09_Drop) : (boxesL l).length = l.length := by unfold boxesL; simp

theorem rightP_more {s : Ship} {boxes : List Box} {b : Box} {l : List Stowed} (hh : ∀ c ∈ s.Columns, c.Height = 0) (h : RightP s boxes l) : RightP s (boxes ++ [b]) l := by
  refine ⟨fun x hx => ?_, h.sorted, h.apart, fun m c hc => .inl (by rw [hh c (List.mem_of_getElem? hc)]; exact Int.le_refl _)⟩
  obtain ⟨b', h1, h2⟩ := h.each x hx
  refine ⟨b', ?_, h2⟩
  unfold findBox at h1 ⊢
  rw [List.find?_append, h1]
  rfl

theorem Loaded_spec {s : Ship} {l : List law09_Drop} (hs : Small s) (hh : ∀ c ∈ s.Columns, c.Height = 0) (hl : ∀ d ∈ l, DropOk d) (hlen : l.length ≤ 9) :
    Wp (M_twistlocklaw09_Loaded s l 9) (fun r => r.1 = boxesL l ∧ RightP s (boxesL l) r.2 ∧ r.2.length ≤ l.length) := by
  unfold M_twistlocklaw09_Loaded
  have hcols := hs.cols
  refine wp_bnd (wp_natIn (m := l.length) (by omega) (Nat.le_refl _) ?_)
  rw [List.take_length]
  refine wp_each (fun pre st => st.1 = boxesL pre ∧ RightP s (boxesL pre) st.2 ∧ st.2.length ≤ pre.length) ⟨rfl, rightP_nil, Nat.le_refl _⟩ (fun pre y post st nx e hI hnx => ?_) (fun st hI => wp_some hI)
  obtain ⟨h1, h2, h3⟩ := hI
  obtain ⟨⟨c1, c2⟩, ⟨k1, k2⟩⟩ := hl y (by rw [e]; simp)
  have hp : pre.length < 9 := by rw [e] at hlen; simp only [List.length_append, List.length_cons] at hlen; omega
  have hbl := boxesL_len pre
  have hb1 : st.1.length ≤ 9 := by rw [h1]; omega
  refine wp_jp (fun j => j.1 = boxesL (pre ++ [y]) ∧ RightP s (boxesL (pre ++ [y])) j.2 ∧ j.2.length ≤ (pre ++ [y]).length) (fun K hK => ?_) (fun j hj => hnx _ hj)
  refine wp_chk ⟨by omega, by omega⟩ (wp_chk ⟨by omega, by omega⟩ (wp_chk ⟨by omega, by omega⟩ (wp_chk ⟨by omega, by omega⟩ ?_)))
  refine wp_jp (fun j17 => j17 = szHigh (strip y)) (fun K' hK' => wp_bif (fun h => hK' _ ?_) (fun h => hK' _ ?_)) (fun j17 h17 => ?_)
  · unfold szHigh strip; simp only [h, cond_true]
  · unfold szHigh strip; simp only [h, cond_false]
  subst h17
  have hbox : st.1 ++ [Box.mk (5 * ((pre.length + 1 : Nat) : Int)) ByteArray.empty (szHigh (strip y)).1 (szHigh (strip y)).2 (1000 + 100 * y.Kilos) 0 1 0 false] = boxesL (pre ++ [y]) := by
    rw [boxesL_snoc, h1]; rfl
  rw [hbox]
  refine wp_need (room_ok (by rw [List.length_singleton]; omega) (by omega)) ?_
  refine wp_bnd (wp_mono (slot_all hs _) (fun r22 h22 => ?_))
  have hmore : RightP s (boxesL (pre ++ [y])) st.2 := by rw [boxesL_snoc]; exact rightP_more hh h2
  refine wp_each (fun _ s49 => s49 = st.2) rfl (fun pre2 x post2 s49 nx2 e2 hJ hnx2 => ?_) (fun s49 hJ => hK _ ⟨rfl, by rw [hJ]; exact hmore, by rw [hJ, List.length_append, List.length_singleton]; show st.2.length ≤ _; omega⟩)
  subst hJ
  simp only [List.nil_append]
  refine wp_need (room_ok (by simp only [List.length_nil]; omega) (by omega)) (wp_need (room_ok (by rw [List.length_singleton]; omega) (by omega)) (wp_chk ⟨by omega, by omega⟩ (wp_bnd (wp_rem (by omega) ?_))))
  by_cases hc : x.Column = y.Column.tmod (s.Columns.length : Int)
  · rw [decide_eq_true hc]
    simp only [cond_true, Bool.true_and]
    refine wp_bnd (wp_mono (stow_right hs.right hs.tier (by simp only [List.length_append, List.length_singleton]; omega)) (fun v hv => wp_bif (fun h => hK _ ⟨rfl, hv.1 h, ?_⟩) (fun h => hnx2 _ rfl)))
    simp only [List.length_append, List.length_singleton]; omega
  · rw [decide_eq_false hc]
    simp only [cond_false, Bool.false_and]
    exact wp_bnd (wp_some (hnx2 _ rfl))

theorem same_ints (l : List Int) : M_twistlockkit_SameInts l l = some true := by
  refine wp_eq ?_
  unfold M_twistlockkit_SameInts
  refine wp_bif (fun h => ((of_decide_eq_true h) rfl).elim) (fun _ => ?_)
  refine wp_each (fun _ _ => True) trivial (fun pre y post u nx e _ hnx => ?_) (fun u _ => wp_some rfl)
  refine wp_gidx rfl (by rw [e]; simp) (wp_bif (fun h => ((of_decide_eq_true h) rfl).elim) (fun _ => hnx _ trivial))

theorem lifted_law {s : Ship} {boxes : List Box} {before after : List Stowed} {F : Nat} (hs : Small s) (h1 : RightP s boxes before) (h2 : RightP s boxes after) (l1 : before.length ≤ 9) (l2 : after.length ≤ 9) (hF : 60 ≤ F) :
    Wp (M_plan_Lifted F s boxes before after) (fun r => r.2 = 0 ∧ r.1.Pairwise (· < ·) ∧ (∀ a ∈ r.1, a ∈ before.map (·.Box) ++ after.map (·.Box)) ∧ Least s before after r.1) := by
  unfold M_plan_Lifted
  refine wp_bnd (wp_mono (stow_right hs.right hs.tier (by omega)) (fun r4 h4 => ?_))
  rw [h4.2 h1]
  simp only [Bool.not_true, Bool.not_false, cond_true, Bool.false_or]
  refine wp_bnd (wp_mono (stow_right hs.right hs.tier (by omega)) (fun r5 h5 => ?_))
  rw [h5.2 h2]
  simp only [Bool.not_true, cond_false]
  exact wp_bnd (wp_mono (lifted_full (states_ok hs h1 h2 (by omega) (by omega)) (by simp only [List.length_append, List.length_map]; omega)) (fun r hr => wp_some ⟨rfl, hr⟩))
theorem lifted_none {s : Ship} {boxes : List Box} {l : List Stowed} {F : Nat} (hs : Small s) (h1 : RightP s boxes l) (l1 : l.length ≤ 9) : M_plan_Lifted F s boxes l l = some ([], 0) := by
  refine wp_eq ?_
  unfold M_plan_Lifted
  refine wp_bnd (wp_mono (stow_right hs.right hs.tier (by omega)) (fun r4 h4 => ?_))
  rw [h4.2 h1]
  simp only [Bool.not_true, Bool.not_false, cond_true, Bool.false_or]
  refine wp_bnd (wp_mono (stow_right hs.right hs.tier (by omega)) (fun r5 h5 => ?_))
  rw [h5.2 h1]
  simp only [Bool.not_true, cond_false]
  exact wp_bnd_eq (lifted_same F s l) (wp_some rfl)

theorem lawNeededF {F : Nat} (hF : 60 ≤ F) (hA : M_twistlocklaw23_awake F = some true) (l : List law07_Place) (covers : Int) (a b : List law09_Drop) (hp : ∀ p ∈ l, PlaceOk p) (ha : ∀ x ∈ a, DropOk x) (hb : ∀ x ∈ b, DropOk x) :
    M_twistlocklaw23_PlanNeeded F l covers a b = some true := by
  refine wp_eq ?_
  unfold M_twistlocklaw23_PlanNeeded
  refine wp_bnd (wp_mono (built_spec l covers hp) (fun s hB => ?_))
  have hs := built_small hB
  have hh : ∀ c ∈ s.Columns, c.Height = 0 := fun c hc => (hB.cols.each c hc).height
  have hcols := hs.cols
  obtain ⟨n, hn, n1, n2, n3⟩ : ∃ n : Nat, min (min (a.length : Int) (b.length : Int)) 9 = (n : Int) ∧ n ≤ a.length ∧ n ≤ b.length ∧ n ≤ 9 := ⟨min (min a.length b.length) 9, by omega, by omega, by omega, by omega⟩
  rw [hn]
  refine wp_bnd (wp_natIn rfl n1 ?_)
  have htl : (a.take n).length = n := by rw [List.length_take]; omega
  simp only [List.nil_append]
  refine wp_need (room_ok (by simp only [List.length_nil]; omega) (by omega)) ?_
  refine wp_each (fun _ s34 => s34.length = n ∧ s34.map strip = (a.take n).map strip ∧ ∀ d ∈ s34, DropOk d) ⟨htl, rfl, fun d hd => ha d (List.mem_of_mem_take hd)⟩ (fun pre y post s34 nx e hI hnx => ?_) (fun s34 hI => ?_)
  · obtain ⟨i1, i2, i3⟩ := hI
    have hpn : pre.length < n := by rw [← htl, e]; simp
    have hbi : b[pre.length]? = some (b[pre.length]'(by omega)) := List.getElem?_eq_getElem (by omega)
    have hsi : s34[pre.length]? = some (s34[pre.length]'(by omega)) := List.getElem?_eq_getElem (by omega)
    have hbo := hb _ (List.mem_of_getElem? hbi)
    have hso := i3 _ (List.mem_of_getElem? hsi)
    refine wp_gidx rfl hbi (wp_gidx rfl hsi (hnx _ ⟨by simp [i1], ?_, fun d hd => ?_⟩))
    · rw [← i2, show ((pre.length : Int)).toNat = pre.length by omega]
      refine List.ext_getElem? (fun j => ?_)
      rw [List.getElem?_map, List.getElem?_map, List.getElem?_set]
      by_cases hj : pre.length = j
      · subst hj
        rw [if_pos rfl, if_pos (by omega), hsi]
        rfl
      · rw [if_neg hj]
    · rcases List.mem_or_eq_of_mem_set hd with hd | rfl
      · exact i3 d hd
      · exact ⟨hbo.column, hso.kilos⟩
  obtain ⟨i1, i2, i3⟩ := hI
  have hbx : boxesL s34 = boxesL (a.take n) := by unfold boxesL; rw [i2]
  refine wp_bnd (wp_natIn rfl n1 ?_)
  refine wp_bnd (wp_mono (Loaded_spec hs hh (fun d hd => ha d (List.mem_of_mem_take hd)) (by omega)) (fun r44 h44 => ?_))
  refine wp_bnd (wp_mono (Loaded_spec hs hh i3 (by omega)) (fun r46 h46 => ?_))
  obtain ⟨g1, g2, g3⟩ := h44
  obtain ⟨_, q2, q3⟩ := h46
  rw [hbx] at q2
  rw [← g1] at g2 q2
  rw [htl] at g3
  rw [i1] at q3
  refine wp_bnd (wp_mono (lifted_law hs g2 q2 (by omega) (by omega) hF) (fun r48 h48 => ?_))
  refine wp_bnd (wp_mono (lifted_law hs q2 g2 (by omega) (by omega) hF) (fun r50 h50 => ?_))
  refine wp_bnd_eq (lifted_none hs g2 (by omega)) ?_
  obtain ⟨t1, t2, t3, t4⟩ := h48
  obtain ⟨u1, u2, _, u4⟩ := h50
  have hsame : r48.1 = r50.1 := t4.eq u4 t2 u2
  rw [t1, u1, ← hsame]
  refine wp_chk ⟨by decide, by decide⟩ (wp_chk ⟨by decide, by decide⟩ ?_)
  refine wp_bnd_eq (x := true) (by
    rw [same_ints]; rfl) (wp_bif (fun h => by simp at h) (fun _ => ?_))
  have hcol : ∀ st ∈ [r44.2, r46.2], ∀ z ∈ st, ColIn s z.Slot := fun st hst z hz => by
    simp only [List.mem_cons, List.not_mem_nil, or_false] at hst
    rcases hst with rfl | rfl
    · obtain ⟨b', _, h, _⟩ := g2.each z hz
      exact slot_colIn h
    · obtain ⟨b', _, h, _⟩ := q2.each z hz
      exact slot_colIn h
  have hfc : ∀ id, ColIn s (findP r44.2 id).1 := fun id => by
    by_cases hf : (findP r44.2 id).2 = true
    · obtain ⟨x, hx, _, hxs⟩ := findP_mem hf
      rw [hxs]
      exact hcol r44.2 (by simp) x hx
    · have : findP r44.2 id = (⟨0, 0, 0⟩, false) := by
        unfold findP at hf ⊢
        cases hq : findSt r44.2 id with
        | none => rfl
        | some x => rw [hq] at hf; exact (hf rfl).elim
      rw [this]
      exact ⟨0, s.Columns[0]'(by omega), rfl, List.getElem?_eq_getElem (by omega)⟩
  have hyes := reasons g2 q2 t4
  refine wp_each (fun _ _ => True) trivial (fun pre y post u nx e _ hnx => ?_) (fun u _ => ?_)
  · have hy : y ∈ r48.1 := by rw [e]; simp
    have hprev : Wp (bif decide (0 < (pre.length : Int)) then chk ((pre.length : Int) - 1) some else some 0) (fun v87 => Wp (bif decide (0 < (pre.length : Int)) then gidx r48.1 v87 some else some default) (fun y88 => (decide (0 < (pre.length : Int)) && decide (y ≤ y88)) = false)) := by
      rcases List.eq_nil_or_concat pre with hp | ⟨pre', z, hp⟩
      · subst hp
        exact wp_some (wp_some (by simp))
      · have hp' : pre = pre' ++ [z] := by simpa using hp
        have hpl : pre.length = pre'.length + 1 := by rw [hp']; simp
        have hd : decide (0 < (pre.length : Int)) = true := decide_eq_true (by omega)
        have hz : r48.1[pre'.length]? = some z := by rw [e, hp']; simp
        have hlt : pre.length ≤ r48.1.length := by rw [e]; simp
        have hU : r48.1.length ≤ 18 := by
          have hn1 : r48.1.Nodup := sorted_nodup t2
          have := hn1.length_le_of_subset (fun x hx => t3 x hx)
          simp only [List.length_append, List.length_map] at this
          omega
        rw [hd]
        simp only [cond_true, Bool.true_and]
        refine wp_chk ⟨by omega, by omega⟩ (wp_some (wp_gidx (m := pre'.length) (by omega) hz (wp_some (decide_eq_false ?_))))
        have hs' := t2
        rw [e] at hs'
        have := pairwise_mid hs' z (by rw [hp']; simp)
        omega
    refine wp_bnd (wp_mono hprev (fun v87 h87 => wp_bnd (wp_mono h87 (fun y88 h88 => ?_))))
    rw [h88]
    simp only [Bool.not_false, cond_true, Bool.false_or]
    refine wp_bnd (wp_mono (reason_spec hcol (hfc y)) (fun r89 h89 => wp_bif (fun h => ?_) (fun _ => hnx _ trivial)))
    rw [h89.2 (hyes y hy)] at h
    cases h
  · refine wp_each (fun _ _ => True) trivial (fun pre y post u nx e _ hnx => ?_) (fun u _ => wp_bnd_eq hA (wp_some rfl))
    rw [law23_has, bnd_some]
    by_cases hin : y.ID ∈ r48.1
    · have : r48.1.any (fun x => decide (x = y.ID)) = true := List.any_eq_true.2 ⟨y.ID, hin, decide_eq_true rfl⟩
      rw [this]
      exact wp_bnd (wp_some (wp_bnd (wp_some (wp_bnd (wp_some (hnx _ trivial))))))
    have hno : r48.1.any (fun x => decide (x = y.ID)) = false := List.any_eq_false.2 (fun x hx h => hin (of_decide_eq_true h ▸ hx))
    rw [hno, law23_holds, law23_holds]
    simp only [Bool.not_false, cond_true, Bool.true_and]
    refine wp_bnd (wp_some ?_)
    have hr123 : Wp (bif !holdsB r44.2 y.ID then some (holdsB r46.2 y.ID) else some default) (fun r123 => (holdsB r44.2 y.ID || r123) = true → y.ID ∈ r44.2.map (·.Box) ∨ y.ID ∈ r46.2.map (·.Box)) := by
      cases h : holdsB r44.2 y.ID with
      | true => exact wp_some (fun _ => .inl (holdsB_iff.1 h))
      | false => exact wp_some (fun h2 => .inr (holdsB_iff.1 (by simpa using h2)))
    refine wp_bnd (wp_mono hr123 (fun r123 h123 => ?_))
    cases hon : holdsB r44.2 y.ID || r123 with
    | false =>
      exact wp_bnd (wp_some (hnx _ trivial))
    | true =>
      simp only [cond_true, Bool.true_and]
      refine wp_bnd (wp_mono (reason_spec hcol (hfc y.ID)) (fun r124 h124 => wp_bif (fun h => ?_) (fun _ => hnx _ trivial)))
      exact (no_reason hB g2 q2 t4 hin (h123 hon) (h124.1 h)).elim
theorem lawNeeded (l : List law07_Place) (covers : Int) (a b : List law09_Drop) (hp : ∀ p ∈ l, PlaceOk p) (ha : ∀ x ∈ a, DropOk x) (hb : ∀ x ∈ b, DropOk x) :
    M_twistlocklaw23_PlanNeeded 60 l covers a b = some true := lawNeededF (Nat.le_refl 60) awake23 l covers a b hp ha hb
end Go.Proofs.Ytbpgdkibmejibaa
