/-
 MovesWrong and MovesPhases: the laws' plain mathematics.
-/
import Derived.Test.YtmdnkofmmheoaaaGreatMovA
set_option maxRecDepth 100000
namespace Go.Proofs.YtmdnkofmmheoaaaGreat
open Go.RowKit

theorem built_few {s : Ship} (h : BuiltOk s) : ShipFew s := ⟨h.covs.len, fun x hx => by
 rcases (h.covs.each x hx).rows with e | e <;> rw [e] <;> simp⟩

theorem StateOk.colIn {s : Ship} {boxes : List Box} {l : List G3} (h : RightP s boxes l) : ∀ x ∈ l, ColIn s x.Slot := fun x hx => by
 obtain ⟨b, _, hb, _⟩ := h.each x hx
 exact slot_colIn hb
theorem call_ok {F : Nat} {s : Ship} {boxes : List Box} {before after : List G3} {lifted : List Int} (hF : 60 ≤ F) (hs : ShipFew s) (h1 : RightP s boxes before) (h2 : RightP s boxes after) (l1 : before.length ≤ 9) (l2 : after.length ≤ 9)
  (hL : M_plan_Lifted F s boxes before after = some (lifted, 0)) : M_moves_Call F s boxes before after = some (callL s before after lifted, 0) := by
 refine wp_eq ?_
 unfold M_moves_Call
 refine wp_bnd_eq hL ?_
 simp only [ne_eq, not_true_eq_false, decide_false, cond_false]
 exact wp_bnd_eq (call_eq hF hs (StateOk.colIn h1) (StateOk.colIn h2) (by omega) (by omega)) (wp_some rfl)
/-! MovesPhases. -/
/-- The state behind some calls. -/
def befSt (l : List (List G3)) : List G3 := l.getLast?.getD []
/-- The moves of a call of a plan. -/
def CallAt (F : Nat) (s : Ship) (boxes : List Box) (states : List (List G3)) (k : Nat) (x : List Move) : Prop :=
 ∃ after lifted, states[k]? = some after ∧ M_plan_Lifted F s boxes (befSt (states.take k)) after = some (lifted, 0) ∧ x = callL s (befSt (states.take k)) after lifted
theorem befSt_ok {s : Ship} {boxes : List Box} {calls : Int} {p : Plan} (h : PlanOk s boxes calls p) (hb : boxes.length ≤ 9) (k : Nat) : RightP s boxes (befSt (p.States.take k)) ∧ (befSt (p.States.take k)).length ≤ 9 := by
 unfold befSt
 cases hg : (p.States.take k).getLast? with
 | none => exact ⟨rightP_nil, by simp⟩
 | some st =>
  have hm := List.mem_of_mem_take (List.mem_of_getLast? hg)
  obtain ⟨j, hj⟩ := List.mem_iff_getElem?.1 hm
  have := h.each j st hj
  exact ⟨this.right, Nat.le_trans this.len hb⟩
theorem moves_voyage {F : Nat} {s : Ship} {boxes : List Box} {calls : Int} {p : Plan} (hF : 60 ≤ F) (hsm : Small s) (hfew : ShipFew s) (hb : BoxesOk calls boxes) (hp : PlanOk s boxes calls p) :
  Wp (M_moves_Voyage F s boxes calls p) (fun r => r.2 = 0 ∧ r.1.length = p.States.length ∧ ∀ k x, r.1[k]? = some x → CallAt F s boxes p.States k x) := by
 unfold M_moves_Voyage
 refine wp_bnd_eq (plan_check hsm hb hp) ?_
 simp only [ne_eq, not_true_eq_false, decide_false, cond_false]
 have hbl := hb.len
 have hbn := hb.num
 have hpl := hp.len
 refine wp_each (fun pre st => st.2 = befSt pre ∧ st.1.length = pre.length ∧ ∀ k x, st.1[k]? = some x → CallAt F s boxes p.States k x) ⟨rfl, rfl, fun k x h => by simp at h⟩ (fun pre x post st nx e hI hnx => ?_) (fun st hI => wp_some ⟨rfl, hI.2.1, hI.2.2⟩)
 obtain ⟨i1, i2, i3⟩ := hI
 have hx : p.States[pre.length]? = some x := by rw [e]; simp
 have htake : p.States.take pre.length = pre := by rw [e]; simp
 have hst := hp.each _ _ hx
 have hxl := hst.len
 have hpre := befSt_ok hp (by omega) pre.length
 rw [htake] at hpre
 obtain ⟨rl, el, hl⟩ := lifted_law hsm hpre.1 hst.right hpre.2 (by omega) hF
 obtain ⟨lifted, e0⟩ := rl
 have he0 : e0 = 0 := hl.1
 subst he0
 have hp20 : pre.length ≤ 30 := by rw [e] at hpl; simp at hpl; omega
 rw [i1]
 refine wp_bnd_eq (call_ok hF hfew hpre.1 hst.right hpre.2 (by omega) el) (wp_need (room_ok (by rw [List.length_singleton]; omega) (by omega)) (hnx _ ⟨?_, ?_, fun k y hy => ?_⟩))
 ·unfold befSt; simp
 ·simp [i2]
 ·by_cases hk : k < st.1.length
  ·rw [List.getElem?_append_left hk] at hy
   exact i3 k y hy
  ·rw [List.getElem?_append_right (by omega)] at hy
   have hk0 : k - st.1.length = 0 := by
    have := (List.getElem?_eq_some_iff.1 hy).1
    simp at this; omega
   rw [hk0] at hy
   have hy : callL s (befSt pre) x lifted = y := by simpa using hy
   have hkk : k = pre.length := by omega
   subst hkk
   exact ⟨x, lifted, hx, by rw [htake]; exact el, by rw [htake]; exact hy.symm⟩

/-- Where a move is: its phase, its bay. -/
def phOf (m : Move) : Int := bif decide (m.Kind = 3) || decide (m.Kind = 4) then 2 else 1
def isBox (m : Move) : Bool := decide (m.Kind = 2) || decide (m.Kind = 3)
def bayOf (s : Ship) (m : Move) : Int := bif isBox m then (colAt s m.Slot).Bay else ((s.Covers[m.Gc.toNat]?).getD default).Bay
structure MvOk (s : Ship) (m : Move) : Prop where
 kind : 1 ≤ m.Kind ∧ m.Kind ≤ 4
 col : isBox m = true → ColIn s m.Slot
 cov : isBox m = false → ∃ (k : Nat) (x : Gc), m.Gc = (k : Int) ∧ s.Covers[k]? = some x
theorem out_ok {s : Ship} {before after : List G3} {lifted : List Int} {bay : Int} (hb : ∀ x ∈ before, ColIn s x.Slot) (ha : ∀ x ∈ after, ColIn s x.Slot) : ∀ k, k ∈ neededL s before after lifted bay → ∃ (j : Nat) (x : Gc), k = (j : Int) ∧ s.Covers[j]? = some x ∧ x.Bay = bay := by
 intro k hk
 obtain ⟨h0, y, hy, hin, e⟩ := neededL_mem.1 hk
 have hbay := (inPart_iff.1 hin).1
 unfold covOf coverOf at e
 rcases idxI_cases (fun x => covB x (colAt s y.Slot)) s.Covers with ⟨h, _⟩ | ⟨m, x, h, h2, h3, _⟩
 ·rw [h] at e; omega
 ·rw [h] at e
  refine ⟨m, x, e.symm, h2, ?_⟩
  unfold covB at h3
  simp only [Bool.and_eq_true, decide_eq_true_eq] at h3
  rw [h3.1, hbay]
theorem mvS_ok {s : Ship} {x : G3} {kind bay : Int} (hk : kind = 2 ∨ kind = 3) (hc : ColIn s x.Slot) (hb : (colAt s x.Slot).Bay = bay) : MvOk s (mvS kind x) ∧ phOf (mvS kind x) = kind - 1 ∧ bayOf s (mvS kind x) = bay := by
 have hbox : isBox (mvS kind x) = true := by rcases hk with rfl | rfl <;> rfl
 refine ⟨⟨by unfold mvS; simp only; omega, fun _ => hc, fun h => by rw [hbox] at h; cases h⟩, by rcases hk with rfl | rfl <;> rfl, ?_⟩
 unfold bayOf
 rw [hbox]; exact hb
theorem mvC_ok {s : Ship} {k kind ph bay : Int} {j : Nat} {x : Gc} (hk : (kind = 1 ∧ ph = 1) ∨ (kind = 4 ∧ ph = 2)) (e : k = (j : Int)) (hx : s.Covers[j]? = some x) (hb : x.Bay = bay) : MvOk s (mvC kind k) ∧ phOf (mvC kind k) = ph ∧ bayOf s (mvC kind k) = bay := by
 have hbox : isBox (mvC kind k) = false := by rcases hk with ⟨rfl, _⟩ | ⟨rfl, _⟩ <;> rfl
 refine ⟨⟨by unfold mvC; simp only; omega, fun h => (by rw [hbox] at h; cases h), fun _ => ⟨j, x, e, hx⟩⟩, by rcases hk with ⟨rfl, rfl⟩ | ⟨rfl, rfl⟩ <;> rfl, ?_⟩
 unfold bayOf
 rw [hbox, cond_false]
 show ((s.Covers[k.toNat]?).getD default).Bay = bay
 rw [e, show (j : Int).toNat = j by omega, hx]; exact hb
theorem outBay_ok {s : Ship} {before after : List G3} {lifted : List Int} {bay : Int} (hb : ∀ x ∈ before, ColIn s x.Slot) (ha : ∀ x ∈ after, ColIn s x.Slot) : ∀ m ∈ outBay s before after lifted bay, MvOk s m ∧ phOf m = 1 ∧ bayOf s m = bay := by
 intro m hm
 unfold outBay at hm
 rw [List.mem_append, List.mem_append] at hm
 have key : ∀ deck, m ∈ (isrt acmp (partL s before lifted bay deck)).map (mvS 2) → MvOk s m ∧ phOf m = 1 ∧ bayOf s m = bay := fun deck h => by
  obtain ⟨x, hx, rfl⟩ := List.mem_map.1 h
  have hx := partL_mem.1 (isrt_mem.1 hx)
  exact mvS_ok (.inl rfl) (hb x hx.1) (inPart_iff.1 hx.2).1
 rcases hm with (h | h) | h
 ·exact key _ h
 ·obtain ⟨k, hk, rfl⟩ := List.mem_map.1 h
  obtain ⟨j, x, e, hx, hbay⟩ := out_ok hb ha k hk
  exact mvC_ok (.inl ⟨rfl, rfl⟩) e hx hbay
 ·exact key _ h
theorem inBay_ok {s : Ship} {before after : List G3} {lifted : List Int} {bay : Int} (hb : ∀ x ∈ before, ColIn s x.Slot) (ha : ∀ x ∈ after, ColIn s x.Slot) : ∀ m ∈ inBay s before after lifted bay, MvOk s m ∧ phOf m = 2 ∧ bayOf s m = bay := by
 intro m hm
 unfold inBay at hm
 rw [List.mem_append, List.mem_append] at hm
 have key : ∀ deck, m ∈ (partL s after lifted bay deck).map (mvS 3) → MvOk s m ∧ phOf m = 2 ∧ bayOf s m = bay := fun deck h => by
  obtain ⟨x, hx, rfl⟩ := List.mem_map.1 h
  have hx := partL_mem.1 hx
  exact mvS_ok (.inr rfl) (ha x hx.1) (inPart_iff.1 hx.2).1
 rcases hm with (h | h) | h
 ·exact key _ h
 ·obtain ⟨k, hk, rfl⟩ := List.mem_map.1 h
  obtain ⟨j, x, e, hx, hbay⟩ := out_ok hb ha k hk
  exact mvC_ok (.inr ⟨rfl, rfl⟩) e hx hbay
 ·exact key _ h
/-- One move may come before another one. -/
def Rb (s : Ship) (a b : Move) : Prop := phOf a < phOf b ∨ (phOf a = phOf b ∧ bayOf s a ≤ bayOf s b)
theorem pairwise_all {α : Type} {R : α → α → Prop} : ∀ {l : List α}, (∀ a ∈ l, ∀ b ∈ l, R a b) → l.Pairwise R
 | [], _ => .nil
 | x :: l, h => List.pairwise_cons.2 ⟨fun b hb => h x (by simp) b (by simp [hb]), pairwise_all (fun a ha b hb => h a (by simp [ha]) b (by simp [hb]))⟩
theorem outs_ok {s : Ship} {before after : List G3} {lifted : List Int} (hb : ∀ x ∈ before, ColIn s x.Slot) (ha : ∀ x ∈ after, ColIn s x.Slot) : ∀ n : Nat, (∀ m ∈ outs s before after lifted n, MvOk s m ∧ phOf m = 1 ∧ bayOf s m < (n : Int)) ∧ (outs s before after lifted n).Pairwise (Rb s)
 | 0 => by unfold outs; simp
 | n + 1 => by
  obtain ⟨h1, h2⟩ := outs_ok hb ha n
  have h3 := outBay_ok (lifted := lifted) (bay := (n : Int)) hb ha
  rw [outs_succ]
  refine ⟨fun m hm => ?_, ?_⟩
  ·rcases List.mem_append.1 hm with hm | hm
   ·obtain ⟨q1, q2, q3⟩ := h1 m hm; exact ⟨q1, q2, by omega⟩
   ·obtain ⟨q1, q2, q3⟩ := h3 m hm; exact ⟨q1, q2, by omega⟩
  ·rw [List.pairwise_append]
   refine ⟨h2, pairwise_all (fun a ha b hb => ?_), fun a ha b hb => ?_⟩
   ·obtain ⟨_, q2, q3⟩ := h3 a ha
    obtain ⟨_, q4, q5⟩ := h3 b hb
    unfold Rb; omega
   ·obtain ⟨_, q2, q3⟩ := h1 a ha
    obtain ⟨_, q4, q5⟩ := h3 b hb
    unfold Rb; omega
theorem ins_ok {s : Ship} {before after : List G3} {lifted : List Int} (hb : ∀ x ∈ before, ColIn s x.Slot) (ha : ∀ x ∈ after, ColIn s x.Slot) : ∀ n : Nat, (∀ m ∈ ins s before after lifted n, MvOk s m ∧ phOf m = 2 ∧ bayOf s m < (n : Int)) ∧ (ins s before after lifted n).Pairwise (Rb s)
 | 0 => by unfold ins; simp
 | n + 1 => by
  obtain ⟨h1, h2⟩ := ins_ok hb ha n
  have h3 := inBay_ok (lifted := lifted) (bay := (n : Int)) hb ha
  rw [ins_succ]
  refine ⟨fun m hm => ?_, ?_⟩
  ·rcases List.mem_append.1 hm with hm | hm
   ·obtain ⟨q1, q2, q3⟩ := h1 m hm; exact ⟨q1, q2, by omega⟩
   ·obtain ⟨q1, q2, q3⟩ := h3 m hm; exact ⟨q1, q2, by omega⟩
  ·rw [List.pairwise_append]
   refine ⟨h2, pairwise_all (fun a ha b hb => ?_), fun a ha b hb => ?_⟩
   ·obtain ⟨_, q2, q3⟩ := h3 a ha
    obtain ⟨_, q4, q5⟩ := h3 b hb
    unfold Rb; omega
   ·obtain ⟨_, q2, q3⟩ := h1 a ha
    obtain ⟨_, q4, q5⟩ := h3 b hb
    unfold Rb; omega
theorem callL_ok {s : Ship} {before after : List G3} {lifted : List Int} (hb : ∀ x ∈ before, ColIn s x.Slot) (ha : ∀ x ∈ after, ColIn s x.Slot) : (∀ m ∈ callL s before after lifted, MvOk s m) ∧ (callL s before after lifted).Pairwise (Rb s) := by
 obtain ⟨h1, h2⟩ := outs_ok (lifted := lifted) hb ha 40
 obtain ⟨h3, h4⟩ := ins_ok (lifted := lifted) hb ha 40
 unfold callL
 refine ⟨fun m hm => ?_, ?_⟩
 ·rcases List.mem_append.1 hm with hm | hm
  ·exact (h1 m hm).1
  ·exact (h3 m hm).1
 ·rw [List.pairwise_append]
  refine ⟨h2, h4, fun a ha b hb => .inl ?_⟩
  rw [(h1 a ha).2.1, (h3 b hb).2.1]; decide
end Go.Proofs.YtmdnkofmmheoaaaGreat
