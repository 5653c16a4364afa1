/-
  BoundTells: what is right; Need, Family and Check.
-/
import Derived.Test.YtfkilljboodoaaaGreatTellC
set_option maxRecDepth 100000
set_option linter.unusedVariables false
namespace Go.Proofs.YtfkilljboodoaaaGreat
open Go.RowKit

def BoxR (b : H4) : Prop := 1 ≤ b.ID ∧ b.ID ≤ 999999 ∧ (b.Size = 40 ∨ (b.Size = 20 ∧ b.High = false)) ∧ 0 ≤ b.Load ∧ b.Load < b.Discharge ∧ b.Discharge < 20
structure BxR (boxes : List H4) : Prop where
  each : ∀ b ∈ boxes, BoxR b
  sorted : boxes.Pairwise (fun a b => a.ID < b.ID)
theorem boxR_iff (y : H4) : (((decide (y.ID < 1) || decide (999999 < y.ID)) = false) ∧ (((decide (y.Size ≠ 20) && decide (y.Size ≠ 40)) || (decide (y.Size = 20) && y.High)) = false) ∧ (((decide (y.Load < 0) || decide (y.Discharge ≤ y.Load)) || decide (20 ≤ y.Discharge)) = false)) ↔ BoxR y := by
  unfold BoxR
  cases y.High <;> simp only [Bool.or_eq_false_iff, Bool.and_eq_false_iff, decide_eq_false_iff_not, Bool.and_true, Bool.and_false, Bool.or_false, and_true, and_false, or_false, reduceCtorEq] <;> omega
theorem prog_boxes {boxes : List H4} (hl : boxes.length ≤ 2000) : Wp (Gb4 boxes 20) (fun r => r = true ↔ BxR boxes) := by
  unfold Gb4
  refine J5 (fun h => ?_) (fun _ => ?_)
  · simp only [Bool.or_eq_true, decide_eq_true_eq] at h; omega
  refine Rn (fun pre (p : Int) => (∀ b ∈ pre, BoxR b) ∧ pre.Pairwise (fun a b => a.ID < b.ID) ∧ (∀ b ∈ pre, b.ID ≤ p) ∧ 0 ≤ p ∧ (p = 0 ∨ ∃ b ∈ pre, b.ID = p)) ⟨fun b hb => (List.not_mem_nil hb).elim, List.Pairwise.nil, fun b hb => (List.not_mem_nil hb).elim, Int.le_refl _, .inl rfl⟩ (fun pre y post p nx e hI hnx => ?_) (fun p hI => H3 ⟨fun _ => ⟨hI.1, hI.2.1⟩, fun _ => rfl⟩)
  obtain ⟨i1, i2, i3, i4, i5⟩ := hI
  have hym : y ∈ boxes := by rw [e]; simp
  refine J5 (fun h => H3 (G38 fun hh => ?_)) (fun h => hnx _ ?_)
  · obtain ⟨b1, b2, b3, b4, b5, b6⟩ := hh.each y hym
    have hlt : p < y.ID := by
      rcases i5 with rfl | ⟨b, hb, rfl⟩
      · omega
      · have hs := hh.sorted
        rw [e] at hs
        exact (List.pairwise_append.1 hs).2.2 b hb y (List.mem_cons_self ..)
    simp only [Bool.or_eq_true, Bool.and_eq_true, decide_eq_true_eq] at h
    rcases b3 with b3 | ⟨b3, b7⟩
    · omega
    · rw [b7] at h; simp at h; omega
  · simp only [Bool.or_eq_false_iff, Bool.and_eq_false_iff, decide_eq_false_iff_not] at h
    obtain ⟨⟨⟨⟨⟨h1, h2⟩, h3⟩, h4⟩, h5⟩, h6⟩ := h
    have hy : BoxR y := by
      refine ⟨by omega, by omega, ?_, by omega, by omega, by omega⟩
      rcases h3 with h3 | ⟨h3, h7⟩
      · exact .inl (by omega)
      · exact .inr ⟨by omega, h7⟩
    refine ⟨Qw i1 hy, H69 i2 (fun a ha => ?_), Qw (P := fun b : H4 => b.ID ≤ y.ID) (fun b hb => ?_) (Int.le_refl _), by omega, .inr ⟨y, by simp, rfl⟩⟩
    · have := i3 a ha; omega
    · have := i3 b hb; omega
theorem ref_boxes {boxes : List H4} (hl : boxes.length ≤ 2000) : Wp (Zj boxes 20) (fun r => r = true ↔ BxR boxes) := by
  unfold Zj
  refine J5 (fun h => ?_) (fun _ => ?_)
  · simp only [Bool.or_eq_true, decide_eq_true_eq] at h; omega
  refine Rn (fun pre (_ : Unit) => (∀ b ∈ pre, BoxR b) ∧ pre.Pairwise (fun a b => a.ID < b.ID)) ⟨fun b hb => (List.not_mem_nil hb).elim, List.Pairwise.nil⟩ (fun pre y post u nx e hI hnx => ?_) (fun p hI => H3 ⟨fun _ => ⟨hI.1, hI.2⟩, fun _ => rfl⟩)
  obtain ⟨i1, i2⟩ := hI
  have hym : y ∈ boxes := by rw [e]; simp
  have hpl : pre.length < boxes.length := by rw [e]; simp
  have rest : ∀ q : Bool, (q = false ↔ ∀ a ∈ pre, a.ID < y.ID) → Wp (bif (((decide (y.ID < 1)) || (decide (999999 < y.ID))) || q) then (some false) else (bif (((decide (y.Size ≠ 20)) && (decide (y.Size ≠ 40))) || ((decide (y.Size = 20)) && y.High)) then (some false) else (bif (((decide (y.Load < 0)) || (decide (y.Discharge ≤ y.Load))) || (decide (20 ≤ y.Discharge))) then (some false) else nx ()))) (fun r => r = true ↔ BxR boxes) := fun q hq => by
    have hbx := boxR_iff y
    have hno : ∀ {c : Bool}, (BoxR y → c = false) → c = true → Wp (some false) (fun r => r = true ↔ BxR boxes) := fun {c} h1 h2 => H3 (G38 fun hh => by rw [h1 (hh.each y hym)] at h2; cases h2)
    refine J5 (fun h => ?_) (fun h1 => J5 (hno (fun hy => (hbx.2 hy).2.1)) (fun h2 => J5 (hno (fun hy => (hbx.2 hy).2.2)) (fun h3 => hnx _ ?_)))
    · rw [Bool.or_eq_true] at h
      rcases h with h | h
      · exact hno (fun hy => (hbx.2 hy).1) h
      · refine H3 (G38 fun hh => ?_)
        have hs := hh.sorted
        rw [e] at hs
        rw [hq.2 (fun a ha => (List.pairwise_append.1 hs).2.2 a ha y (List.mem_cons_self ..))] at h; cases h
    · rw [Bool.or_eq_false_iff] at h1
      exact ⟨Qw i1 (hbx.1 ⟨h1.1, h2, h3⟩), H69 i2 (hq.1 h1.2)⟩
  cases hid : (decide (y.ID < 1) || decide (999999 < y.ID)) with
  | true =>
    have := rest true
    simp only [Bool.not_true, Bool.false_and, cond_false, H0b, Bool.true_or, cond_true]
    refine H3 (G38 fun hh => ?_)
    have := ((boxR_iff y).2 (hh.each y hym)).1
    rw [hid] at this; cases this
  | false =>
    rw [hid] at rest
    simp only [Bool.not_false, Bool.true_and, Bool.false_or] at rest ⊢
    by_cases h0 : pre.length = 0
    · have hp : pre = [] := List.eq_nil_of_length_eq_zero h0
      rw [decide_eq_false (by omega : ¬ (0 : Int) < (pre.length : Int))]
      simp only [cond_false, H0b, Bool.false_and]
      have := rest false ⟨fun _ a ha => (by rw [hp] at ha; cases ha), fun _ => rfl⟩
      simpa using this
    · rw [decide_eq_true (by omega : (0 : Int) < (pre.length : Int))]
      simp only [cond_true, Bool.true_and]
      have hx : boxes[pre.length - 1]? = some pre[pre.length - 1] := by
        rw [e, List.getElem?_append_left (by omega), List.getElem?_eq_getElem]
      refine Jo (Jh ⟨by omega, by omega⟩ (H3 (Jo (G2d (m := pre.length - 1) (by omega) hx (H3 (rest _ ?_))))))
      rw [decide_eq_false_iff_not]
      constructor
      · intro h a ha
        obtain ⟨i, hi, rfl⟩ := List.mem_iff_getElem.1 ha
        by_cases hie : i = pre.length - 1
        · subst hie; omega
        · have := List.pairwise_iff_getElem.1 i2 i (pre.length - 1) hi (by omega) (by omega)
          omega
      · intro h
        have := h pre[pre.length - 1] (List.getElem_mem _)
        omega
section
variable {F : Nat} {s : J0} {boxes : List H4}
theorem prog_right2 (hp : ∀ c ∈ s.Columns, c.Plugs.length ≤ 1048576) (hr : ∀ x ∈ s.Covers, x.Rows.length ≤ 1048576) (hl : boxes.length ≤ 2000) : Wp (Zc s boxes) (fun r => r = true ↔ J49 s ∧ BxR boxes) := by
  unfold Zc
  refine Jo (wp_mono (J7d s hp hr) (fun r h1 => ?_))
  cases r with
  | false => exact Jo (J5 (fun h => by cases h) (fun _ => H3 (H3 ⟨fun h => Bool.noConfusion h, fun h => by have := h1.2 h.1; cases this⟩)))
  | true => exact Jo (J5 (fun _ => wp_mono (prog_boxes hl) (fun r h2 => H3 (by rw [Bool.true_and]; exact h2.trans ⟨fun h => ⟨h1.1 rfl, h⟩, fun h => h.2⟩))) (fun h => by cases h))
theorem ref_right2 (hp : ∀ c ∈ s.Columns, c.Plugs.length ≤ 1048576) (hr : ∀ x ∈ s.Covers, x.Rows.length ≤ 1048576) (hl : boxes.length ≤ 2000) : Wp (Qq F s boxes) (fun r => r = true ↔ J49 s ∧ BxR boxes) := by
  unfold Qq
  refine Jo (wp_mono (ref_right (F := F) s hp hr) (fun r h1 => ?_))
  cases r with
  | false => exact Jo (J5 (fun h => by cases h) (fun _ => H3 (H3 ⟨fun h => Bool.noConfusion h, fun h => by have := h1.2 h.1; cases this⟩)))
  | true => exact Jo (J5 (fun _ => wp_mono (ref_boxes hl) (fun r h2 => H3 (by rw [Bool.true_and]; exact h2.trans ⟨fun h => ⟨h1.1 rfl, h⟩, fun h => h.2⟩))) (fun h => by cases h))
end
/-- What is known of a ship and boxes that are right. -/
structure J9a (F0 F : Nat) (s : J0) (boxes : List H4) (T : Int) (g0 : List G2) (bv : List G6 → Int) : Prop where
  tall : Yt s = some T
  hT : 1 ≤ T ∧ T ≤ 10
  cols : s.Columns.length ≤ 20
  num : boxes.length ≤ 12
  groups : GBoth F boxes g0
  best : ∀ l : List G6, l.length ≤ 8 → G71 F0 T (l.map (cntB boxes)) (2 * s.Columns.length) (bv l)
  rep : Qh F [(-1)] (((2 * s.Columns.length : Nat) : Int) + 1) = some (List.replicate (2 * s.Columns.length + 1) (-1))
section
variable {F : Nat} {s : J0} {boxes : List H4} {T : Int} {g0 : List G2} {bv : List G6 → Int}
theorem J9a.bounds (h : J9a F F s boxes T g0 bv) (hF : 100 ≤ F) {l : List G6} (hl : l.length ≤ 8) : 0 ≤ bv l ∧ bv l ≤ 192 := by
  have h1 := h.hT
  have h2 := h.cols
  have := (h.best l hl).bounds (by omega) ⟨by omega, by omega⟩ (fun c hc => by
    obtain ⟨g, _, rfl⟩ := List.mem_map.1 hc
    exact J62 h.num g) (by omega)
  rw [List.length_map] at this
  omega
theorem J9a.bound (h : J9a F F s boxes T g0 bv) (hF : 100 ≤ F) {l : List G6} (hl : l.length ≤ 8) : Zv F s (l.map (cntB boxes)) = some (bv l) := by
  have h1 := h.hT
  have h2 := h.cols
  obtain ⟨v, e, hv, _⟩ := bound_spec (F := F) (H := 2 * s.Columns.length) h.tall ⟨by omega, by omega⟩ rfl (by omega) h.rep (l := l.map (cntB boxes)) (fun c hc => by
    obtain ⟨g, _, rfl⟩ := List.mem_map.1 hc
    exact J62 h.num g) (by rw [List.length_map]; omega) (by omega)
  rw [e, hv.eq (h.best l hl)]
theorem J9a.ref (h : J9a F F s boxes T g0 bv) (hF : 100 ≤ F) {l : List G6} (hl : l.length ≤ 8) : Wp (R1 F s boxes l) (fun r => (¬ Hd5 boxes l ∧ r = (0, 270)) ∨ (Hd5 boxes l ∧ r = (bv l, 0))) :=
  wp_mono (ref_family (F0 := F) (by omega) h.tall h.hT h.cols h.num hl hF) (fun r hr => hr.imp (fun h => h) (fun ⟨a, b, c⟩ => ⟨a, Prod.ext (c.eq (h.best l hl)) b⟩))
/-- What Check tells of a ship and boxes that are right. -/
def Ja8 (boxes : List H4) (bv : List G6 → Int) (families : List (List G6)) (r : Int × Int) : Prop :=
  (¬ (∀ l ∈ families, Hd5 boxes l) ∧ r = (0, 270)) ∨ ((∀ l ∈ families, Hd5 boxes l) ∧ ((¬ families.flatten.Nodup ∧ r = (0, 271)) ∨ (families.flatten.Nodup ∧ r = ((families.map bv).sum, 0))))
theorem Ja8.eq {families : List (List G6)} {r r' : Int × Int} (h : Ja8 boxes bv families r) (h' : Ja8 boxes bv families r') : r = r' := by
  rcases h with ⟨a, rfl⟩ | ⟨a, ⟨b, rfl⟩ | ⟨b, rfl⟩⟩ <;> rcases h' with ⟨a', rfl⟩ | ⟨a', ⟨b', rfl⟩ | ⟨b', rfl⟩⟩
  all_goals first | rfl | exact (a a').elim | exact (a' a).elim | exact (b b').elim | exact (b' b).elim
theorem flat8 : ∀ {l : List (List G6)}, (∀ x ∈ l, x.length ≤ 8) → l.flatten.length ≤ 8 * l.length
  | [], _ => by simp
  | x :: l, h => by
    have h1 := h x (List.mem_cons_self ..)
    have h2 := flat8 (l := l) (fun y hy => h y (List.mem_cons_of_mem _ hy))
    rw [List.flatten_cons, List.length_append, List.length_cons]
    omega
theorem sum8 {bv : List G6 → Int} : ∀ {l : List (List G6)}, (∀ x ∈ l, 0 ≤ bv x ∧ bv x ≤ 192) → 0 ≤ (l.map bv).sum ∧ (l.map bv).sum ≤ 192 * (l.length : Int)
  | [], _ => by simp
  | x :: l, h => by
    have h1 := h x (List.mem_cons_self ..)
    have h2 := sum8 (l := l) (fun y hy => h y (List.mem_cons_of_mem _ hy))
    rw [List.map_cons, List.sum_cons, List.length_cons]
    omega
theorem prog_check (h : J9a F F s boxes T g0 bv) (hF : 100 ≤ F) (hr : Zc s boxes = some true) {families : List (List G6)} (h8 : ∀ l ∈ families, l.length ≤ 8) (h6 : families.length ≤ 6) : Wp (G3a F s boxes families) (Ja8 boxes bv families) := by
  unfold G3a
  refine H9 hr (J5 (fun h => by cases h) (fun _ => H9 h.groups.prog ?_))
  refine Rn (fun pre st => (∀ l ∈ pre, Hd5 boxes l) ∧ st.1 = (pre.map bv).sum ∧ Hh.l st.2 = tally pre.flatten) ⟨fun l hl => (List.not_mem_nil hl).elim, rfl, rfl⟩ (fun pre y post st nx e hI hnx => ?_) (fun st hI => ?_)
  · obtain ⟨i1, i2, i3⟩ := hI
    have hym : y ∈ families := by rw [e]; simp
    have hpm : ∀ x ∈ pre, x ∈ families := fun x hx => by rw [e]; simp [hx]
    have hpl : pre.length < families.length := by rw [e]; simp
    have hy8 := h8 y hym
    refine Jo (wp_mono (J3c h.groups y hy8) (fun r17 hr17 => ?_))
    rcases hr17 with ⟨hn, rfl⟩ | ⟨hy, rfl⟩
    · exact J5 (fun _ => H3 (.inl ⟨fun hh => hn (hh y hym), rfl⟩)) (fun h => by simp at h)
    refine J5 (fun h => by simp at h) (fun _ => H9 (h.bound hF hy8) ?_)
    have hs := sum8 (bv := bv) (l := pre) (fun x hx => h.bounds hF (h8 x (hpm x hx)))
    have hb := h.bounds hF hy8
    refine Jh ⟨by omega, by omega⟩ ?_
    have hfl := flat8 (l := pre) (fun x hx => h8 x (hpm x hx))
    refine Rn (fun pre2 m => Hh.l m = tally (pre.flatten ++ pre2)) (by rw [List.append_nil]; exact i3) (fun pre2 z post2 m nx2 e2 hJ hnx2 => ?_) (fun m hJ => hnx _ ⟨Qw i1 hy, by show st.1 + bv y = _; rw [i2]; simp, by rw [hJ]; simp⟩)
    have hg := get_b hJ z
    have hp2 : pre2.length ≤ 8 := by rw [e2] at hy8; simp only [List.length_append] at hy8; omega
    rw [List.length_append] at hg
    refine Jo (H3 (Jh ⟨by omega, by omega⟩ (hnx2 _ ?_)))
    rw [put_l hJ z, List.append_assoc]
  · obtain ⟨i1, i2, i3⟩ := hI
    rw [H9d (c := fun x : G6 × Int => decide (1 < x.2))]
    refine H3 (.inr ⟨i1, ?_⟩)
    have hiff : (Hh.l st.2).any (fun x => decide (1 < x.2)) = false ↔ families.flatten.Nodup := by
      rw [← Hdb, i3, List.any_eq_false]
      constructor
      · intro h j a n hj
        have := h (a, n) (List.mem_of_getElem? hj)
        simp only [decide_eq_true_eq] at this
        omega
      · intro h x hx
        obtain ⟨j, hj⟩ := List.mem_iff_getElem?.1 hx
        have := h j x.1 x.2 hj
        simp only [decide_eq_true_eq]
        omega
    cases hany : (Hh.l st.2).any (fun x => decide (1 < x.2)) with
    | true => exact .inl ⟨fun hn => (by rw [hiff.2 hn] at hany; cases hany), rfl⟩
    | false => exact .inr ⟨hiff.1 hany, by rw [cond_false, i2]; rfl⟩
theorem ref_twice {all : List G6} {v : Int} (hl : all.length ≤ 1000) :
    Wp (each (fun y57 i57 (s57 : Unit) nx57 =>
        need (decide ((i57 : Int) ≤ 9223372036854775807)) <|
        upto (fun i75 (s75 : Unit) nx75 =>
          Qe all (i75 : Int) fun y80 =>
          bif decide (y57 = y80) then
          (some (0, 271))
          else
          (nx75 ()))
        (fun (s75 : Unit) =>
          nx57 ()) (i57 : Int).toNat 0 ())
      (fun (s57 : Unit) =>
        some (v, 0)) all 0 ()) (fun r : Int × Int => (¬ all.Nodup ∧ r = (0, 271)) ∨ (all.Nodup ∧ r = (v, 0))) := by
  refine Rn (fun pre _ => pre.Nodup) List.nodup_nil (fun pre y post u nx e hI hnx => ?_) (fun u hI => H3 (.inr ⟨hI, rfl⟩))
  have hpl : pre.length < all.length := by rw [e]; simp
  refine G58 (decide_eq_true (by omega)) ?_
  rw [show ((pre.length : Nat) : Int).toNat = pre.length by omega]
  refine J5a (fun k _ => ∀ j : Nat, j < k → ∀ x, pre[j]? = some x → y ≠ x) (fun j hj => by omega) (fun k u nx2 hk hJ hnx2 => ?_) (fun u hJ => hnx _ (J87 hI (fun hy => ?_)))
  · have hx : all[k]? = some pre[k] := by rw [e, List.getElem?_append_left hk, List.getElem?_eq_getElem]
    refine G2d rfl hx (J5 (fun h => H3 (.inl ⟨fun hn => ?_, rfl⟩)) (fun h => hnx2 _ (fun j hj x hjx => ?_)))
    · rw [e] at hn
      exact (List.nodup_append.1 hn).2.2 pre[k] (List.getElem_mem _) y (List.mem_cons_self ..) (of_decide_eq_true h).symm
    · by_cases ej : j = k
      · subst ej
        rw [List.getElem?_eq_getElem hk] at hjx
        cases hjx
        exact of_decide_eq_false h
      · exact hJ j (by omega) x hjx
  · obtain ⟨i, hi⟩ := List.mem_iff_getElem?.1 hy
    exact hJ i (List.getElem?_eq_some_iff.1 hi).1 y hi rfl
theorem ref_check (h : J9a F F s boxes T g0 bv) (hF : 100 ≤ F) (hr : Qq F s boxes = some true) {families : List (List G6)} (h8 : ∀ l ∈ families, l.length ≤ 8) (h6 : families.length ≤ 6) : Wp (Rh F s boxes families) (Ja8 boxes bv families) := by
  unfold Rh
  refine H9 hr (J5 (fun h => by cases h) (fun _ => ?_))
  refine Rn (fun pre st => (∀ l ∈ pre, Hd5 boxes l) ∧ st.1 = (pre.map bv).sum ∧ st.2 = pre.flatten) ⟨fun l hl => (List.not_mem_nil hl).elim, rfl, rfl⟩ (fun pre y post st nx e hI hnx => ?_) (fun st hI => ?_)
  · obtain ⟨i1, i2, i3⟩ := hI
    have hym : y ∈ families := by rw [e]; simp
    have hpm : ∀ x ∈ pre, x ∈ families := fun x hx => by rw [e]; simp [hx]
    have hpl : pre.length < families.length := by rw [e]; simp
    have hy8 := h8 y hym
    refine Jo (wp_mono (h.ref hF hy8) (fun r hr2 => ?_))
    rcases hr2 with ⟨hn, rfl⟩ | ⟨hy, rfl⟩
    · exact J5 (fun _ => H3 (.inl ⟨fun hh => hn (hh y hym), rfl⟩)) (fun h => by simp at h)
    refine J5 (fun h => by simp at h) (fun _ => ?_)
    have hs := sum8 (bv := bv) (l := pre) (fun x hx => h.bounds hF (h8 x (hpm x hx)))
    have hb := h.bounds hF hy8
    have hfl := flat8 (l := pre) (fun x hx => h8 x (hpm x hx))
    refine Jh ⟨by omega, by omega⟩ (G58 (J80 (by rw [i3]; omega) (by omega)) (hnx _ ⟨Qw i1 hy, by show st.1 + bv y = _; rw [i2]; simp, by show st.2 ++ y = _; rw [i3]; simp⟩))
  · obtain ⟨i1, i2, i3⟩ := hI
    have hfl := flat8 h8
    refine wp_mono (ref_twice (by rw [i3]; omega)) (fun r hr => .inr ⟨i1, ?_⟩)
    rw [i3, i2] at hr
    exact hr
theorem prog_fam (h : J9a F F s boxes T g0 bv) (hF : 100 ≤ F) (hr : Zc s boxes = some true) {l : List G6} (hl : l.length ≤ 8) : Wp (Y9 F s boxes l) (fun r => (¬ Hd5 boxes l ∧ r = (0, 270)) ∨ (Hd5 boxes l ∧ r = (bv l, 0))) := by
  unfold Y9
  refine H9 hr (J5 (fun h => by cases h) (fun _ => H9 h.groups.prog (Jo (wp_mono (J3c h.groups l hl) (fun r hr => ?_)))))
  rcases hr with ⟨hn, rfl⟩ | ⟨hy, rfl⟩
  · exact J5 (fun _ => H3 (.inl ⟨hn, rfl⟩)) (fun h => by simp at h)
  · exact J5 (fun h => by simp at h) (fun _ => H9 (h.bound hF hl) (H3 (.inr ⟨hy, rfl⟩)))
theorem ref_fam (h : J9a F F s boxes T g0 bv) (hF : 100 ≤ F) (hr : Qq F s boxes = some true) {l : List G6} (hl : l.length ≤ 8) : Wp (R2 F s boxes l) (fun r => (¬ Hd5 boxes l ∧ r = (0, 270)) ∨ (Hd5 boxes l ∧ r = (bv l, 0))) := by
  unfold R2
  exact H9 hr (J5 (fun h => by cases h) (fun _ => Jo (wp_mono (h.ref hF hl) (fun r hr => H3 hr))))
end
end Go.Proofs.YtfkilljboodoaaaGreat
