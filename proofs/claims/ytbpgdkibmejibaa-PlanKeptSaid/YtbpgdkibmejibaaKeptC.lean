/-
  Plans that are right: what Check, Restows and Count say of them.
-/
import Derived.Test.YtbpgdkibmejibaaKeptB
set_option maxRecDepth 100000
namespace Go.Proofs.Ytbpgdkibmejibaa
open Go.RowKit

structure BoxOk (calls : Int) (b : Box) : Prop where
  id : 5 ≤ b.ID ∧ b.ID ≤ 999999
  size : b.Size = 40 ∨ (b.Size = 20 ∧ b.High = false)
  load : 0 ≤ b.Load
  stay : b.Load < b.Discharge
  out : b.Discharge < calls
structure BoxesOk (calls : Int) (boxes : List Box) : Prop where
  num : 1 ≤ calls ∧ calls ≤ 20
  len : boxes.length ≤ 8
  each : ∀ b ∈ boxes, BoxOk calls b
  sorted : boxes.Pairwise (fun a b => a.ID < b.ID)
theorem sorted_nodup {l : List Int} (h : l.Pairwise (· < ·)) : l.Nodup := h.imp (fun h => by omega)
theorem BoxesOk.ids {calls : Int} {boxes : List Box} (h : BoxesOk calls boxes) : (boxes.map (·.ID)).Pairwise (· < ·) := List.pairwise_map.2 h.sorted
theorem BoxesOk.inj {calls : Int} {boxes : List Box} (h : BoxesOk calls boxes) {a b : Box} (ha : a ∈ boxes) (hb : b ∈ boxes) (e : a.ID = b.ID) : a = b := by
  obtain ⟨i, hi⟩ := List.mem_iff_getElem?.1 ha
  obtain ⟨j, hj⟩ := List.mem_iff_getElem?.1 hb
  obtain ⟨hi1, hi2⟩ := List.getElem?_eq_some_iff.1 hi
  obtain ⟨hj1, hj2⟩ := List.getElem?_eq_some_iff.1 hj
  have hp := List.pairwise_iff_getElem.1 h.sorted
  rcases Nat.lt_trichotomy i j with hl | hl | hl
  · have := hp i j hi1 hj1 hl
    rw [hi2, hj2] at this; omega
  · subst hl; rw [← hi2, ← hj2]
  · have := hp j i hj1 hi1 hl
    rw [hi2, hj2] at this; omega
theorem plan_boxes {calls : Int} {boxes : List Box} (h : BoxesOk calls boxes) : M_plan_Boxes boxes calls = some true := by
  refine wp_eq ?_
  unfold M_plan_Boxes
  have hc := h.num
  have hl := h.len
  refine wp_bif (fun hb => ?_) (fun _ => ?_)
  · simp only [Bool.or_eq_true, decide_eq_true_eq] at hb
    omega
  refine wp_each (fun pre last => 0 ≤ last ∧ (pre = [] ∧ last = 0 ∨ ∃ a ∈ pre, a.ID = last)) ⟨Int.le_refl _, .inl ⟨rfl, rfl⟩⟩ (fun pre y post last nx e hI hnx => ?_) (fun s _ => wp_some rfl)
  have hy := h.each y (by rw [e]; simp)
  obtain ⟨⟨i1, i2⟩, hs, h3, h4, h5⟩ := hy
  have hlast : last < y.ID := by
    rcases hI.2 with ⟨_, h⟩ | ⟨a, ha, h⟩
    · omega
    · have := h.symm
      have hp := BoxesOk.sorted ‹BoxesOk calls boxes›
      rw [e] at hp
      have := pairwise_mid hp a ha
      omega
  refine wp_bif (fun hb => ?_) (fun _ => hnx _ ⟨by omega, .inr ⟨y, by simp, rfl⟩⟩)
  have e1 : decide (y.ID ≤ last) = false := decide_eq_false (by omega)
  have e2 : decide (999999 < y.ID) = false := decide_eq_false (by omega)
  have e3 : decide (y.Load < 0) = false := decide_eq_false (by omega)
  have e4 : decide (y.Discharge ≤ y.Load) = false := decide_eq_false (by omega)
  have e5 : decide (calls ≤ y.Discharge) = false := decide_eq_false (by omega)
  rw [e1, e2, e3, e4, e5] at hb
  rcases hs with hs | ⟨hs, hh⟩
  · simp [hs] at hb
  · simp [hs, hh] at hb

/-- A state of a plan that is right. -/
structure StateOk (s : Ship) (boxes : List Box) (k : Int) (l : List Stowed) : Prop where
  right : RightP s boxes l
  ids : l.map (·.Box) = aboardL boxes k
structure PlanOk (s : Ship) (boxes : List Box) (calls : Int) (p : Plan) : Prop where
  len : (p.States.length : Int) = calls
  each : ∀ (k : Nat) l, p.States[k]? = some l → StateOk s boxes k l
theorem aboard_len (boxes : List Box) (k : Int) : (aboardL boxes k).length ≤ boxes.length := by
  unfold aboardL
  rw [List.length_map]
  exact List.length_filter_le _ _
theorem StateOk.len {s : Ship} {boxes : List Box} {k : Int} {l : List Stowed} (h : StateOk s boxes k l) : l.length ≤ boxes.length := by
  have := congrArg List.length h.ids
  rw [List.length_map] at this
  rw [this]
  exact aboard_len boxes k
theorem Small.tier {s : Ship} (h : Small s) : ∀ c ∈ s.Columns, c.Tiers ≤ 1000000 := fun c hc => by have := h.tiers c hc; omega
theorem plan_check {s : Ship} {boxes : List Box} {calls : Int} {p : Plan} (hs : Small s) (hb : BoxesOk calls boxes) (hp : PlanOk s boxes calls p) : M_plan_Check s boxes calls p = some (0, 0) := by
  refine wp_eq ?_
  unfold M_plan_Check
  have hl := hb.len
  refine wp_bnd_eq hs.right (wp_bif (fun h => by cases h) (fun _ => wp_bnd_eq (plan_boxes hb) (wp_bif (fun h => by cases h) (fun _ => wp_bif (fun h => ?_) (fun _ => ?_)))))
  · exact (of_decide_eq_true h hp.len).elim
  refine wp_each (fun _ _ => True) trivial (fun pre y post u nx e _ hnx => ?_) (fun u _ => wp_some rfl)
  have hy : StateOk s boxes pre.length y := hp.each pre.length y (by rw [e]; simp)
  have hyl := hy.len
  refine wp_bnd (wp_mono (stow_right hs.right hs.tier (by omega)) (fun r hr => ?_))
  refine wp_bif (fun h => ?_) (fun _ => ?_)
  · have := hr.2 hy.right
    rw [this] at h; cases h
  · refine wp_bnd_eq (plan_aboard boxes pre.length (by omega)) (wp_bnd_eq (equal_ids hy.ids) (wp_bif (fun h => by cases h) (fun _ => hnx _ trivial)))

/-- What is restowed between two states. -/
structure RestowOk (before after : List Stowed) (x : List Int) : Prop where
  nodup : x.Nodup
  both : ∀ a ∈ x, a ∈ before.map (·.Box) ∧ a ∈ after.map (·.Box)
  same : before = after → x = []
theorem slot_colIn {s : Ship} {x : Slot} {size : Int} (h : SlotOk s x size) : ColIn s x := by
  obtain ⟨m, c, h1, h2, _⟩ := h.col
  exact ⟨m, c, h1, h2⟩
theorem states_ok {s : Ship} {boxes : List Box} {before after : List Stowed} (hs : Small s) (h1 : RightP s boxes before) (h2 : RightP s boxes after) (l1 : before.length ≤ 100) (l2 : after.length ≤ 100) :
    StatesOk s (before.map (·.Box) ++ after.map (·.Box)) [before, after] := by
  refine ⟨hs, fun st hst x hx => ?_, by simp only [List.length_append, List.length_map]; omega⟩
  simp only [List.mem_cons, List.not_mem_nil, or_false] at hst
  rcases hst with rfl | rfl
  · obtain ⟨b, _, hb, _⟩ := h1.each x hx
    exact ⟨List.mem_append.2 (.inl (List.mem_map.2 ⟨x, hx, rfl⟩)), slot_colIn hb⟩
  · obtain ⟨b, _, hb, _⟩ := h2.each x hx
    exact ⟨List.mem_append.2 (.inr (List.mem_map.2 ⟨x, hx, rfl⟩)), slot_colIn hb⟩
theorem restow_one {s : Ship} {boxes : List Box} {before after : List Stowed} {F : Nat} (hs : Small s) (h1 : RightP s boxes before) (h2 : RightP s boxes after) (l1 : before.length ≤ 8) (l2 : after.length ≤ 8) (hF : 60 ≤ F) :
    Wp (M_plan_lifted F s before after) (fun r23 => Wp (M_slices_DeleteFunc_int F r23 (fun z0 => M_plan_Restows_1 z0 before after)) (RestowOk before after)) := by
  have hU := states_ok hs h1 h2 (by omega) (by omega)
  have hlen : (before.map (·.Box) ++ after.map (·.Box)).length ≤ 16 := by simp only [List.length_append, List.length_map]; omega
  have main := lifted_spec hU (F := F) (by omega)
  have hsame : before = after → M_plan_lifted F s before after = some [] := fun e => by subst e; exact lifted_same F s before
  obtain ⟨r, e, hr1, hr2⟩ := main
  refine ⟨r, e, ?_⟩
  have hrl := hr1.length_le_of_subset (fun a ha => hr2 a ha)
  refine ⟨_, deleteFunc (p := fun id => (!(findP before id).2) || (!(findP after id).2)) (fun x _ => wp_eq (wp_bnd_eq (plan_find before x) (wp_bnd_eq (plan_find after x) (wp_some rfl)))) (by omega) (by omega), ?_, fun a ha => ?_, fun hba => ?_⟩
  · exact hr1.filter _
  · have hp := (List.mem_filter.1 ha).2
    simp only [Bool.not_or, Bool.not_not, Bool.and_eq_true] at hp
    exact ⟨findP_true.1 hp.1, findP_true.1 hp.2⟩
  · have := hsame hba
    rw [e] at this
    cases this
    rfl

/-- The state ahead of a call. -/
def prevSt (l : List (List Stowed)) (k : Nat) : List Stowed := if k = 0 then [] else (l[k - 1]?).getD []
theorem plan_steps (p : Plan) : ∃ ys, S_plan_steps_1 p = some ys ∧ ys.length = p.States.length ∧ ∀ k y, ys[k]? = some y → y.1 = prevSt p.States k ∧ p.States[k]? = some y.2 := by
  have : Wp (S_plan_steps_1 p) (fun ys => ys.length = p.States.length ∧ ∀ k y, ys[k]? = some y → y.1 = prevSt p.States k ∧ p.States[k]? = some y.2) := by
    unfold S_plan_steps_1
    refine wp_each (fun pre st => st.1 = prevSt p.States pre.length ∧ st.2.length = pre.length ∧ ∀ k y, st.2[k]? = some y → y.1 = prevSt p.States k ∧ p.States[k]? = some y.2) ⟨rfl, rfl, fun k y h => by simp at h⟩ (fun pre y post st nx e hI hnx => ?_) (fun st hI => wp_some hI.2)
    obtain ⟨h1, h2, h3⟩ := hI
    have hy : p.States[pre.length]? = some y := by rw [e]; simp
    refine hnx _ ⟨?_, by simp [h2], fun k z hz => ?_⟩
    · show y = prevSt p.States (pre ++ [y]).length
      unfold prevSt
      rw [List.length_append, List.length_singleton, if_neg (by omega), Nat.add_sub_cancel, hy]; rfl
    · rw [List.getElem?_append] at hz
      split at hz
      · exact h3 k z hz
      · rename_i hk
        have hk0 : k - st.2.length = 0 := by
          have := (List.getElem?_eq_some_iff.1 hz).1
          simp only [List.length_singleton] at this; omega
        rw [hk0] at hz
        simp only [List.getElem?_cons_zero, Option.some.injEq] at hz
        subst hz
        have : k = pre.length := by omega
        subst this
        exact ⟨h1, hy⟩
  obtain ⟨ys, e, h⟩ := this
  exact ⟨ys, e, h⟩
theorem rightP_nil {s : Ship} {boxes : List Box} : RightP s boxes [] := ⟨fun x hx => (List.not_mem_nil hx).elim, List.Pairwise.nil, List.Pairwise.nil, fun m c _ => by
  unfold FitsP heightI
  simp only [List.foldl_nil]
  omega⟩
structure RestowsOk (p : Plan) (out : List (List Int)) : Prop where
  len : out.length = p.States.length
  each : ∀ (k : Nat) x, out[k]? = some x → ∃ st, p.States[k]? = some st ∧ RestowOk (prevSt p.States k) st x
  small : ∀ x ∈ out, x.length ≤ 8
theorem plan_restows {s : Ship} {boxes : List Box} {calls : Int} {p : Plan} {F : Nat} (hs : Small s) (hb : BoxesOk calls boxes) (hp : PlanOk s boxes calls p) (hF : 60 ≤ F) :
    Wp (M_plan_Restows F s boxes calls p) (fun r => r.2 = 0 ∧ RestowsOk p r.1) := by
  unfold M_plan_Restows
  refine wp_bnd_eq (plan_check hs hb hp) (wp_bif (fun h => by simp at h) (fun _ => ?_))
  refine wp_bnd_eq (show M_plan_steps p = some () from rfl) ?_
  obtain ⟨ys, e0, hyl, hys⟩ := plan_steps p
  refine wp_bnd_eq e0 ?_
  have hcalls : p.States.length ≤ 20 := by have := hp.len; have := hb.num; omega
  have hbl := hb.len
  refine wp_each (fun pre out => out.length = pre.length ∧ (∀ (k : Nat) x, out[k]? = some x → ∃ st, p.States[k]? = some st ∧ RestowOk (prevSt p.States k) st x) ∧ ∀ x ∈ out, x.length ≤ 8) ⟨rfl, fun k x h => (by simp at h), fun x hx => (List.not_mem_nil hx).elim⟩ (fun pre y post out nx e hI hnx => ?_)
    (fun out hI => wp_some ⟨rfl, ⟨hI.1.trans hyl, hI.2.1, hI.2.2⟩⟩)
  obtain ⟨h1, h2, h3⟩ := hI
  have hyk : ys[pre.length]? = some y := by rw [e]; simp
  have hpl : pre.length < 20 := by have := (List.getElem?_eq_some_iff.1 hyk).1; omega
  obtain ⟨g1, g2⟩ := hys pre.length y hyk
  have hafter : StateOk s boxes pre.length y.2 := hp.each _ _ g2
  have hbefore : RightP s boxes y.1 ∧ y.1.length ≤ 8 := by
    rw [g1]
    unfold prevSt
    by_cases hk : pre.length = 0
    · rw [if_pos hk]; exact ⟨rightP_nil, by simp⟩
    · rw [if_neg hk]
      have hlt : pre.length - 1 < p.States.length := by have := (List.getElem?_eq_some_iff.1 g2).1; omega
      have hgot : p.States[pre.length - 1]? = some p.States[pre.length - 1] := by simp
      have := hp.each _ _ hgot
      rw [hgot]
      exact ⟨this.right, by have := this.len; simp only [Option.getD_some]; omega⟩
  have hal := hafter.len
  refine wp_bnd (wp_mono (restow_one hs hbefore.1 hafter.right hbefore.2 (by omega) hF) (fun r23 hr => wp_bnd (wp_mono hr (fun r25 h25 => ?_))))
  have h25l : r25.length ≤ 8 := by
    have := h25.nodup.length_le_of_subset (fun a ha => (h25.both a ha).2)
    rw [List.length_map] at this
    omega
  refine wp_need (room_ok (by rw [List.length_singleton]; omega) (by omega)) (hnx _ ⟨by simp [h1], fun k x hx => ?_, fun x hx => ?_⟩)
  · rw [List.getElem?_append] at hx
    split at hx
    · exact h2 k x hx
    · rename_i hk
      have hk0 : k - out.length = 0 := by
        have := (List.getElem?_eq_some_iff.1 hx).1
        simp only [List.length_singleton] at this; omega
      rw [hk0] at hx
      simp only [List.getElem?_cons_zero, Option.some.injEq] at hx
      subst hx
      have : k = pre.length := by omega
      subst this
      exact ⟨y.2, g2, g1 ▸ h25⟩
  · rcases List.mem_append.1 hx with hx | hx
    · exact h3 x hx
    · rw [List.mem_singleton] at hx; subst hx; exact h25l
def total (out : List (List Int)) : Int := (out.map (fun x => (x.length : Int))).sum
theorem total_snoc (a : List (List Int)) (x : List Int) : total (a ++ [x]) = total a + x.length := by unfold total; simp
theorem plan_count {s : Ship} {boxes : List Box} {calls : Int} {p : Plan} {F : Nat} {r : List (List Int) × Int} (e : M_plan_Restows F s boxes calls p = some r) (h : RestowsOk p r.1) (hl : p.States.length ≤ 20) : M_plan_Count F s boxes calls p = some (total r.1, r.2) := by
  refine wp_eq ?_
  unfold M_plan_Count
  refine wp_bnd_eq e ?_
  have hlen := h.len
  refine wp_each (fun pre n => n = total pre ∧ 0 ≤ n ∧ n ≤ 8 * pre.length) ⟨rfl, Int.le_refl _, by simp⟩ (fun pre y post n nx e hI hnx => ?_) (fun n hI => wp_some (by rw [hI.1]))
  obtain ⟨h1, h2, h3⟩ := hI
  have hy := h.small y (by rw [e]; simp)
  have hp : pre.length < r.1.length := by rw [e]; simp
  refine wp_chk ⟨by omega, by omega⟩ (hnx _ ⟨by rw [total_snoc, h1], by omega, by simp only [List.length_append, List.length_singleton]; omega⟩)
end Go.Proofs.Ytbpgdkibmejibaa
