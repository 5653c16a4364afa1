/-
  Plans that are right: what Check, Restows and Count say of them.
-/
import Derived.Test.YtbpgdkibmejibaaKeptB
set_option maxRecDepth 100000
namespace Go.Proofs.Ytbpgdkibmejibaa
open Go.RowKit

structure BoxOk (calls : Int) (b : Box) : Prop where
  id : 5 ≤ b.ID ∧ b.ID ≤ 999999
  size : b.Size = 40 ∨ (b.Size = 20 ∧ b.High = false)
  load : 0 ≤ b.Load
  stay : b.Load < b.Discharge
  out : b.Discharge < calls
structure BoxesOk (calls : Int) (boxes : List Box) : Prop where
  num : 1 ≤ calls ∧ calls ≤ 20
  len : boxes.length ≤ 8
  each : ∀ b ∈ boxes, BoxOk calls b
  sorted : boxes.Pairwise (fun a b => a.ID < b.ID)
theorem sorted_nodup {l : List Int} (h : l.Pairwise (· < ·)) : l.Nodup := h.imp (fun h => by omega)
theorem BoxesOk.ids {calls : Int} {boxes : List Box} (h : BoxesOk calls boxes) : (boxes.map (·.ID)).Pairwise (· < ·) := List.pairwise_map.2 h.sorted
theorem BoxesOk.inj {calls : Int} {boxes : List Box} (h : BoxesOk calls boxes) {a b : Box} (ha : a ∈ boxes) (hb : b ∈ boxes) (e : a.ID = b.ID) : a = b := by
  obtain ⟨i, hi⟩ := List.mem_iff_getElem?.1 ha
  obtain ⟨j, hj⟩ := List.mem_iff_getElem?.1 hb
  obtain ⟨hi1, hi2⟩ := List.getElem?_eq_some_iff.1 hi
  obtain ⟨hj1, hj2⟩ := List.getElem?_eq_some_iff.1 hj
  have hp := List.pairwise_iff_getElem.1 h.sorted
  rcases Nat.lt_trichotomy i j with hl | hl | hl
  · have := hp i j hi1 hj1 hl
    rw [hi2, hj2] at this; omega
  · subst hl; rw [← hi2, ← hj2]
  · have := hp j i hj1 hi1 hl
    rw [hi2, hj2] at this; omega
/-- A state of a plan that is right. -/
structure StateOk (s : Ship) (boxes : List Box) (k : Int) (l : List Stowed) : Prop where
  right : RightP s boxes l
  ids : l.map (·.Box) = aboardL boxes k
theorem aboard_len (boxes : List Box) (k : Int) : (aboardL boxes k).length ≤ boxes.length := by
  unfold aboardL
  rw [List.length_map]
  exact List.length_filter_le _ _
theorem StateOk.len {s : Ship} {boxes : List Box} {k : Int} {l : List Stowed} (h : StateOk s boxes k l) : l.length ≤ boxes.length := by
  have := congrArg List.length h.ids
  rw [List.length_map] at this
  rw [this]
  exact aboard_len boxes k
theorem Small.tier {s : Ship} (h : Small s) : ∀ c ∈ s.Columns, c.Tiers ≤ 1000000 := fun c hc => by have := h.tiers c hc; omega
theorem slot_colIn {s : Ship} {x : Slot} {size : Int} (h : SlotOk s x size) : ColIn s x := by
  obtain ⟨m, c, h1, h2, _⟩ := h.col
  exact ⟨m, c, h1, h2⟩
theorem states_ok {s : Ship} {boxes : List Box} {before after : List Stowed} (hs : Small s) (h1 : RightP s boxes before) (h2 : RightP s boxes after) (l1 : before.length ≤ 100) (l2 : after.length ≤ 100) :
    StatesOk s (before.map (·.Box) ++ after.map (·.Box)) [before, after] := by
  refine ⟨hs, fun st hst x hx => ?_, by simp only [List.length_append, List.length_map]; omega⟩
  simp only [List.mem_cons, List.not_mem_nil, or_false] at hst
  rcases hst with rfl | rfl
  · obtain ⟨b, _, hb, _⟩ := h1.each x hx
    exact ⟨List.mem_append.2 (.inl (List.mem_map.2 ⟨x, hx, rfl⟩)), slot_colIn hb⟩
  · obtain ⟨b, _, hb, _⟩ := h2.each x hx
    exact ⟨List.mem_append.2 (.inr (List.mem_map.2 ⟨x, hx, rfl⟩)), slot_colIn hb⟩
theorem rightP_nil {s : Ship} {boxes : List Box} : RightP s boxes [] := ⟨fun x hx => (List.not_mem_nil hx).elim, List.Pairwise.nil, List.Pairwise.nil, fun m c _ => by
  unfold FitsP heightI
  simp only [List.foldl_nil]
  omega⟩
end Go.Proofs.Ytbpgdkibmejibaa
