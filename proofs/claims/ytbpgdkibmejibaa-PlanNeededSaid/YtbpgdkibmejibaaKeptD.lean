/-
  Voyages: the plans that twistlocklaw23.Voyage makes are right.
-/
import Derived.Test.YtbpgdkibmejibaaKeptC
set_option maxRecDepth 100000
namespace Go.Proofs.Ytbpgdkibmejibaa
open Go.RowKit

theorem eq_of_sorted {a b : List Int} (ha : a.Pairwise (· < ·)) (hb : b.Pairwise (· < ·)) (h : ∀ x, x ∈ a ↔ x ∈ b) : a = b :=
  List.Perm.eq_of_pairwise (le := fun x y : Int => x < y) (fun x y _ _ h1 h2 => by omega) ha hb ((List.perm_ext_iff_of_nodup (sorted_nodup ha) (sorted_nodup hb)).2 h)

theorem slots_spec {s : Ship} (hs : Small s) (size : Int) : Wp (S_slot_slots_1 s size) (fun r => r.length ≤ 200 * s.Columns.length ∧ ∀ x ∈ r, SlotOk s x size) := by
  unfold S_slot_slots_1
  have hhl : (halvesL size).length ≤ 2 := by
    unfold halvesL
    split
    · simp
    · split <;> simp
  refine wp_each (fun pre r => r.length ≤ 200 * pre.length ∧ ∀ x ∈ r, SlotOk s x size) ⟨by simp, fun x hx => (List.not_mem_nil hx).elim⟩ (fun pre c post r nx e hI hnx => ?_) (fun r hI => wp_some hI)
  obtain ⟨h1, h2⟩ := hI
  have hc : s.Columns[pre.length]? = some c := by rw [e]; simp
  have ht := hs.tiers c (List.mem_of_getElem? hc)
  refine wp_need (decide_eq_true (by omega)) ?_
  have htn : (max c.Tiers 0).toNat ≤ 100 := by omega
  refine wp_upto (fun i r' => r'.length ≤ r.length + 2 * i ∧ ∀ x ∈ r', SlotOk s x size) ⟨by simp, h2⟩ (fun i r' nx2 hi hI hnx2 => ?_) (fun r' hI => hnx _ ⟨?_, hI.2⟩)
  · refine wp_bnd_eq (slot_halves size) ?_
    refine wp_each (fun pr r2 => r2.length = r'.length + pr.length ∧ ∀ x ∈ r2, SlotOk s x size) ⟨by simp, hI.2⟩ (fun pr h post2 r2 nx3 e2 hI2 hnx3 => hnx3 _ ⟨?_, fun x hx => ?_⟩) (fun r2 hI2 => hnx2 _ ⟨by have := hI.1; have := hI2.1; omega, hI2.2⟩)
    · simp only [List.length_append, List.length_singleton]; have := hI2.1; omega
    · rcases List.mem_append.1 hx with hx | hx
      · exact hI2.2 x hx
      · rw [List.mem_singleton] at hx; subst hx
        exact ⟨⟨pre.length, c, rfl, hc, by show (i : Int) < c.Tiers; omega⟩, by show (0 : Int) ≤ i; omega, by show h ∈ halvesL size; rw [e2]; simp⟩
  · have := hI.1
    simp only [List.length_append, List.length_singleton]; omega
theorem slot_all {s : Ship} (hs : Small s) (size : Int) : Wp (M_slot_All s size) (fun r => r.length ≤ 200 * s.Columns.length ∧ ∀ x ∈ r, SlotOk s x size) := by
  unfold M_slot_All
  refine wp_bnd_eq (show M_slot_slots s size = some () from rfl) ?_
  refine wp_bnd (wp_mono (slots_spec hs size) (fun ys hys => ?_))
  have hc := hs.cols
  refine wp_each (fun pre r => r = pre) rfl (fun pre y post r nx e hI hnx => ?_) (fun r hI => by subst hI; exact wp_some hys)
  subst hI
  have hl : r.length < ys.length := by rw [e]; simp
  exact wp_need (room_ok (by rw [List.length_singleton]; have := hys.1; omega) (by omega)) (hnx _ rfl)

/-- A state in the making, behind a call. -/
structure VInv (s : Ship) (boxes : List Box) (k : Int) (l : List Stowed) : Prop where
  right : RightP s boxes l
  mem : ∀ x ∈ l, ∃ b ∈ boxes, b.ID = x.Box ∧ abB k b = true
theorem VInv.nil {s : Ship} {boxes : List Box} {k : Int} : VInv s boxes k [] := ⟨rightP_nil, fun x hx => (List.not_mem_nil hx).elim⟩
theorem VInv.len {s : Ship} {boxes : List Box} {k : Int} {l : List Stowed} (h : VInv s boxes k l) : l.length ≤ boxes.length := by
  have h1 : (l.map (·.Box)).Pairwise (· < ·) := List.pairwise_map.2 h.right.sorted
  have := (sorted_nodup h1).length_le_of_subset (l₂ := boxes.map (·.ID)) (fun a ha => by
    obtain ⟨x, hx, rfl⟩ := List.mem_map.1 ha
    obtain ⟨b, hb, e, _⟩ := h.mem x hx
    exact List.mem_map.2 ⟨b, hb, e⟩)
  rw [List.length_map, List.length_map] at this
  exact this
theorem VInv.done {s : Ship} {boxes : List Box} {calls k : Int} {l : List Stowed} (hb : BoxesOk calls boxes) (h : VInv s boxes k l) (hall : ∀ b ∈ boxes, abB k b = true → b.ID ∈ l.map (·.Box)) : StateOk s boxes k l := by
  refine ⟨h.right, eq_of_sorted (List.pairwise_map.2 h.right.sorted) (List.pairwise_map.2 (hb.sorted.filter _)) (fun a => ?_)⟩
  unfold aboardL
  constructor
  · intro ha
    obtain ⟨x, hx, rfl⟩ := List.mem_map.1 ha
    obtain ⟨b, hb1, e, hab⟩ := h.mem x hx
    exact List.mem_map.2 ⟨b, List.mem_filter.2 ⟨hb1, hab⟩, e⟩
  · intro ha
    obtain ⟨b, hb1, rfl⟩ := List.mem_map.1 ha
    obtain ⟨hb2, hab⟩ := List.mem_filter.1 hb1
    exact hall b hb2 hab

end Go.Proofs.Ytbpgdkibmejibaa
