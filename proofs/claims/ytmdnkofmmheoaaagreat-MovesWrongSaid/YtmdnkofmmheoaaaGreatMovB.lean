/-
 MovesWrong and MovesPhases: the laws' plain mathematics.
-/
import Derived.Test.YtmdnkofmmheoaaaGreatMovA
set_option maxRecDepth 100000
namespace Go.Proofs.YtmdnkofmmheoaaaGreat
open Go.RowKit

theorem built_few {s : Ship} (h : BuiltOk s) : ShipFew s := ⟨h.covs.len, fun x hx => by
 rcases (h.covs.each x hx).rows with e | e <;> rw [e] <;> simp⟩

/-- A move that does not belong to the ship. -/
def BadMove (s : Ship) (m : Move) : Prop := m.Kind < 1 ∨ 4 < m.Kind ∨ ((m.Kind = 1 ∨ m.Kind = 4) ∧ (m.Gc < 0 ∨ (s.Covers.length : Int) ≤ m.Gc)) ∨ (¬ (m.Kind = 1 ∨ m.Kind = 4) ∧ (m.Slot.G5 < 0 ∨ (s.Columns.length : Int) ≤ m.Slot.G5))
theorem tasks_bad {F : Nat} {s : Ship} {m : Move} (hF : 60 ≤ F) (hr : S_ship_Right s = some true) (h : BadMove s m) : S_moves_Tasks F s [m] = some ([], 2) := by
 refine wp_eq ?_
 unfold S_moves_Tasks
 rw [decide_eq_false (by omega), cond_false]
 refine wp_bnd_eq hr ?_
 simp only [Bool.not_true, cond_false]
 rw [each]
 refine wp_jp (fun j => j = true) (fun K hK => wp_bif (fun h1 => hK _ h1) (fun h1 => wp_bif (fun h2 => hK _ h2) (fun h2 => hK _ ?_))) (fun j hj => ?_)
 ·unfold BadMove at h
  simp only [Bool.or_eq_false_iff, Bool.and_eq_false_iff, Bool.and_eq_true, Bool.or_eq_true, Bool.not_eq_true', decide_eq_false_iff_not, decide_eq_true_eq] at h1 h2 ⊢
  omega
 ·subst hj
  exact wp_some rfl
theorem tasks_none {F : Nat} {s : Ship} (hF : 60 ≤ F) (hr : S_ship_Right s = some true) : S_moves_Tasks F s [] = some ([], 0) := by
 refine wp_eq ?_
 unfold S_moves_Tasks
 rw [decide_eq_false (by omega), cond_false]
 refine wp_bnd_eq hr ?_
 simp only [Bool.not_true, cond_false]
 rw [each]
 exact wp_need rfl (wp_some rfl)
theorem tasks_noship {F : Nat} (hF : 60 ≤ F) : S_moves_Tasks F (Ship.mk [] [] (Light.mk 0 0 0 0) [] [] [] (G4.mk 0 0 0 0)) [] = some ([], 2) := by
 refine wp_eq ?_
 unfold S_moves_Tasks
 rw [decide_eq_false (by omega), cond_false]
 exact wp_bnd_eq (x := false) (by kernel_rfl) (wp_some rfl)

theorem StateOk.colIn {s : Ship} {boxes : List Box} {l : List G3} (h : RightP s boxes l) : ∀ x ∈ l, ColIn s x.Slot := fun x hx => by
 obtain ⟨b, _, hb, _⟩ := h.each x hx
 exact slot_colIn hb
theorem call_ok {F : Nat} {s : Ship} {boxes : List Box} {before after : List G3} {lifted : List Int} (hF : 60 ≤ F) (hs : ShipFew s) (h1 : RightP s boxes before) (h2 : RightP s boxes after) (l1 : before.length ≤ 9) (l2 : after.length ≤ 9)
  (hL : M_plan_Lifted F s boxes before after = some (lifted, 0)) : M_moves_Call F s boxes before after = some (callL s before after lifted, 0) := by
 refine wp_eq ?_
 unfold M_moves_Call
 refine wp_bnd_eq hL ?_
 simp only [ne_eq, not_true_eq_false, decide_false, cond_false]
 exact wp_bnd_eq (call_eq hF hs (StateOk.colIn h1) (StateOk.colIn h2) (by omega) (by omega)) (wp_some rfl)
theorem call_bad {F : Nat} {s : Ship} {boxes : List Box} {before after : List G3} (hL : M_plan_Lifted F s boxes before after = some ([], 2)) : M_moves_Call F s boxes before after = some ([], 2) := by
 refine wp_eq ?_
 unfold M_moves_Call
 exact wp_bnd_eq hL (wp_some rfl)

theorem plan_boxes0 (boxes : List Box) : M_plan_Boxes boxes 0 = some false := by
 refine wp_eq ?_
 unfold M_plan_Boxes
 exact wp_bif (fun _ => wp_some rfl) (fun h => by simp at h)

theorem lawWrongF {F : Nat} (hF : 60 ≤ F) (hA : M_twistlocklaw30_awake F = some true) (l : List law07_Place) (covers : Int) (items : List law23_Item) (n : Int) (hp : ∀ p ∈ l, PlaceOk p) (hi : ∀ x ∈ items, ItemOk x) : M_twistlocklaw30_MovesWrong F l covers items n = some true := by
 refine wp_eq ?_
 unfold M_twistlocklaw30_MovesWrong
 refine wp_bnd (wp_mono (built_spec l covers hp) (fun s hs => ?_))
 have hsm := built_small hs
 have hfew := built_few hs
 refine wp_bnd (wp_mono (Voyage_spec hsm hi (by omega) hF) (fun r5 h5 => ?_))
 obtain ⟨hb, hpl⟩ := h5
 have hbl := hb.len
 have hlen := hpl.len
 have h3 : findBox r5.1 3 = none := by
  unfold findBox
  refine List.find?_eq_none.2 (fun b hbm => ?_)
  have := (hb.each b hbm).id
  intro e
  have := of_decide_eq_true e
  omega
 have hbadP : ¬ RightP s r5.1 [(G3.mk 3 (Slot.mk 0 0 0))] := fun h => by
  obtain ⟨b, hbb, _⟩ := h.each _ (List.mem_singleton.2 rfl)
  rw [h3] at hbb
  cases hbb
 have hbad : M_stow_Right s r5.1 [(G3.mk 3 (Slot.mk 0 0 0))] = some false := by
  obtain ⟨r, e, h⟩ := stow_right (l := [(G3.mk 3 (Slot.mk 0 0 0))]) hsm.right hsm.tier (boxes := r5.1) (by simp)
  rw [e]
  cases r with
  | false => rfl
  | true => exact absurd (h.1 rfl) hbadP
 refine wp_each (fun _ _ => True) trivial (fun pre x post u nx e _ hnx => ?_) (fun u _ => ?_)
 ·have hx : r5.2.States[pre.length]? = some x := by rw [e]; simp
  have hst := hpl.each _ _ hx
  have hxl := hst.len
  have hxr : M_stow_Right s r5.1 x = some true := by
   obtain ⟨r, e, h⟩ := stow_right (l := x) hsm.right hsm.tier (boxes := r5.1) (by omega)
   rw [e, h.2 hst.right]
  refine wp_bnd_eq (call_ok hF hfew hst.right hst.right (by omega) (by omega) (lifted_none hsm hst.right (by omega))) ?_
  refine wp_bnd_eq (call_bad (wp_eq (by unfold M_plan_Lifted; exact wp_bnd_eq hxr (wp_bnd_eq hbad (wp_some rfl))))) ?_
  refine wp_bnd_eq (call_bad (wp_eq (by unfold M_plan_Lifted; exact wp_bnd_eq hbad (wp_bnd (wp_some (wp_some rfl)))))) ?_
  rw [callL_nil]
  exact hnx _ trivial
 ·have hb5 : BoxesOk 5 r5.1 := ⟨by omega, hb.len, fun b hbm => by
   obtain ⟨q1, q2, q3, q4, q5⟩ := hb.each b hbm
   exact ⟨q1, q2, q3, q4, by omega⟩, hb.sorted⟩
  have e1 : M_moves_Voyage F s r5.1 5 r5.2 = some ([], 231) := by
   refine wp_eq ?_
   unfold M_moves_Voyage
   refine wp_bnd_eq (x := (0, 231)) (wp_eq ?_) (wp_some rfl)
   unfold M_plan_Check
   refine wp_bnd_eq hsm.right (wp_bnd_eq (plan_boxes hb5) ?_)
   rw [decide_eq_true (by omega)]
   exact wp_some rfl
  have e2 : M_moves_Voyage F s r5.1 0 r5.2 = some ([], 230) := by
   refine wp_eq ?_
   unfold M_moves_Voyage
   refine wp_bnd_eq (x := (0, 230)) (wp_eq ?_) (wp_some rfl)
   unfold M_plan_Check
   refine wp_bnd_eq hsm.right ?_
   simp only [Bool.not_true, cond_false]
   exact wp_bnd_eq (plan_boxes0 _) (wp_some rfl)
  refine wp_bnd_eq e1 (wp_bnd_eq e2 ?_)
  refine wp_bnd_eq (tasks_bad hF hsm.right (.inr (.inr (.inl ⟨.inl rfl, .inr (by simp only; omega)⟩)))) ?_
  refine wp_bnd_eq (tasks_bad hF hsm.right (.inr (.inr (.inl ⟨.inr rfl, .inl (by simp only; omega)⟩)))) ?_
  refine wp_bnd_eq (tasks_bad hF hsm.right (by unfold BadMove; simp only; omega)) ?_
  refine wp_bnd_eq (tasks_bad hF hsm.right (by unfold BadMove; simp only; omega)) ?_
  refine wp_bnd_eq (tasks_bad hF hsm.right (by unfold BadMove; simp only; omega)) ?_
  refine wp_bnd_eq (tasks_bad hF hsm.right (by unfold BadMove; simp only; omega)) ?_
  refine wp_bnd_eq (tasks_noship hF) (wp_bnd_eq (tasks_none hF hsm.right) ?_)
  exact wp_bnd_eq hA (wp_some rfl)

/-! MovesPhases. -/
end Go.Proofs.YtmdnkofmmheoaaaGreat
