/-
  The moves of a voyage; sums. How often the moves of a call lift a box, or open a cover. The lifts of a voyage are two for each box and two for each restow. MovesOnce: the law's plain mathematics. The examples of chapter 30, evaluated; the law MovesOnce.
-/
import Derived.Test.YtkfhfoljfbjknaaGreatMovA
set_option maxRecDepth 100000
namespace Go.Proofs.YtkfhfoljfbjknaaGreat
open Go.RowKit

theorem built_few {s : Gz} (h : BuiltOk s) : ShipFew s := ⟨h.covs.len, fun x hx => by
  rcases (h.covs.each x hx).rows with e | e <;> rw [e] <;> simp⟩
theorem StateOk.colIn {s : Gz} {boxes : List Gp} {l : List G2} (h : RightP s boxes l) : ∀ x ∈ l, ColIn s x.Slot := fun x hx => by
  obtain ⟨b, _, hb, _⟩ := h.each x hx
  exact slot_colIn hb
theorem call_ok {F : Nat} {s : Gz} {boxes : List Gp} {before after : List G2} {lifted : List Int} (hF : 60 ≤ F) (hs : ShipFew s) (h1 : RightP s boxes before) (h2 : RightP s boxes after) (l1 : before.length ≤ 9) (l2 : after.length ≤ 9)
    (hL : Qh F s boxes before after = some (lifted, 0)) : M_moves_Call F s boxes before after = some (callL s before after lifted, 0) := by
  refine wp_eq ?_
  unfold M_moves_Call
  refine Gw hL ?_
  simp only [ne_eq, not_true_eq_false, decide_false, cond_false]
  exact Gw (call_eq hF hs (StateOk.colIn h1) (StateOk.colIn h2) (by omega) (by omega)) (Gt rfl)
/-- The state behind some calls. -/
def befSt (l : List (List G2)) : List G2 := l.getLast?.getD []
/-- The moves of a call of a plan. -/
def CallAt (F : Nat) (s : Gz) (boxes : List Gp) (states : List (List G2)) (k : Nat) (x : List Move) : Prop :=
  ∃ after lifted, states[k]? = some after ∧ Qh F s boxes (befSt (states.take k)) after = some (lifted, 0) ∧ x = callL s (befSt (states.take k)) after lifted
theorem befSt_ok {s : Gz} {boxes : List Gp} {calls : Int} {p : Plan} (h : PlanOk s boxes calls p) (hb : boxes.length ≤ 9) (k : Nat) : RightP s boxes (befSt (p.States.take k)) ∧ (befSt (p.States.take k)).length ≤ 9 := by
  unfold befSt
  cases hg : (p.States.take k).getLast? with
  | none => exact ⟨rightP_nil, by simp⟩
  | some st =>
    have hm := List.mem_of_mem_take (List.mem_of_getLast? hg)
    obtain ⟨j, hj⟩ := List.mem_iff_getElem?.1 hm
    have := h.each j st hj
    exact ⟨this.right, Nat.le_trans this.len hb⟩
theorem moves_voyage {F : Nat} {s : Gz} {boxes : List Gp} {calls : Int} {p : Plan} (hF : 60 ≤ F) (hsm : Small s) (hfew : ShipFew s) (hb : BoxesOk calls boxes) (hp : PlanOk s boxes calls p) :
    Wp (M_moves_Voyage F s boxes calls p) (fun r => r.2 = 0 ∧ r.1.length = p.States.length ∧ ∀ k x, r.1[k]? = some x → CallAt F s boxes p.States k x) := by
  unfold M_moves_Voyage
  refine Gw (plan_check hsm hb hp) ?_
  simp only [ne_eq, not_true_eq_false, decide_false, cond_false]
  have hbl := hb.len
  have hbn := hb.num
  have hpl := hp.len
  refine J3 (fun pre st => st.2 = befSt pre ∧ st.1.length = pre.length ∧ ∀ k x, st.1[k]? = some x → CallAt F s boxes p.States k x) ⟨rfl, rfl, fun k x h => by simp at h⟩ (fun pre x post st nx e hI hnx => ?_) (fun st hI => Gt ⟨rfl, hI.2.1, hI.2.2⟩)
  obtain ⟨i1, i2, i3⟩ := hI
  have hx : p.States[pre.length]? = some x := by rw [e]; simp
  have htake : p.States.take pre.length = pre := by rw [e]; simp
  have hst := hp.each _ _ hx
  have hxl := hst.len
  have hpre := befSt_ok hp (by omega) pre.length
  rw [htake] at hpre
  obtain ⟨rl, el, hl⟩ := lifted_law hsm hpre.1 hst.right hpre.2 (by omega) hF
  obtain ⟨lifted, e0⟩ := rl
  have he0 : e0 = 0 := hl.1
  subst he0
  have hp20 : pre.length ≤ 30 := by rw [e] at hpl; simp at hpl; omega
  rw [i1]
  refine Gw (call_ok hF hfew hpre.1 hst.right hpre.2 (by omega) el) (Qe (room_ok (by rw [List.length_singleton]; omega) (by omega)) (hnx _ ⟨?_, ?_, fun k y hy => ?_⟩))
  · unfold befSt; simp
  · simp [i2]
  · by_cases hk : k < st.1.length
    · rw [List.getElem?_append_left hk] at hy
      exact i3 k y hy
    · rw [List.getElem?_append_right (by omega)] at hy
      have hk0 : k - st.1.length = 0 := by
        have := (List.getElem?_eq_some_iff.1 hy).1
        simp at this; omega
      rw [hk0] at hy
      have hy : callL s (befSt pre) x lifted = y := by simpa using hy
      have hkk : k = pre.length := by omega
      subst hkk
      exact ⟨x, lifted, hx, by rw [htake]; exact el, by rw [htake]; exact hy.symm⟩
def isBox (m : Move) : Bool := decide (m.Kind = 2) || decide (m.Kind = 3)
theorem out_ok {s : Gz} {before after : List G2} {lifted : List Int} {bay : Int} (hb : ∀ x ∈ before, ColIn s x.Slot) (ha : ∀ x ∈ after, ColIn s x.Slot) : ∀ k, k ∈ neededL s before after lifted bay → ∃ (j : Nat) (x : Ga), k = (j : Int) ∧ s.Covers[j]? = some x ∧ x.Bay = bay := by
  intro k hk
  obtain ⟨h0, y, hy, hin, e⟩ := neededL_mem.1 hk
  have hbay := (inPart_iff.1 hin).1
  unfold covOf coverOf at e
  rcases idxI_cases (fun x => covB x (colAt s y.Slot)) s.Covers with ⟨h, _⟩ | ⟨m, x, h, h2, h3, _⟩
  · rw [h] at e; omega
  · rw [h] at e
    refine ⟨m, x, e.symm, h2, ?_⟩
    unfold covB at h3
    simp only [Bool.and_eq_true, decide_eq_true_eq] at h3
    rw [h3.1, hbay]
def tot {α : Type} (f : α → Int) : List α → Int
  | [] => 0
  | x :: l => f x + tot f l
section
variable {α : Type} {f : α → Int}
theorem tot_append : ∀ (l m : List α), tot f (l ++ m) = tot f l + tot f m
  | [], m => by simp [tot]
  | x :: l, m => by rw [List.cons_append, tot, tot, tot_append l m]; omega
theorem tot_snoc (l : List α) (x : α) : tot f (l ++ [x]) = tot f l + f x := by rw [tot_append]; simp [tot]
theorem tot_perm {l m : List α} (h : l.Perm m) : tot f l = tot f m := by
  induction h with
  | nil => rfl
  | cons x _ ih => rw [tot, tot, ih]
  | swap x y l => simp only [tot]; omega
  | trans _ _ h1 h2 => rw [h1, h2]
theorem tot_map {β : Type} (g : β → α) : ∀ l : List β, tot f (l.map g) = tot (fun x => f (g x)) l
  | [] => rfl
  | x :: l => by rw [List.map_cons, tot, tot, tot_map g l]
theorem tot_bound {lo hi : Int} : ∀ {l : List α}, (∀ x ∈ l, lo ≤ f x ∧ f x ≤ hi) → lo * (l.length : Int) ≤ tot f l ∧ tot f l ≤ hi * (l.length : Int)
  | [], _ => by simp [tot]
  | x :: l, h => by
    have h1 := h x (by simp)
    have h2 := tot_bound (l := l) (fun y hy => h y (by simp [hy]))
    have e : ((x :: l).length : Int) = (l.length : Int) + 1 := by rw [List.length_cons]; omega
    rw [tot, e, Int.mul_add, Int.mul_add]
    omega
end
section
variable {κ ν : Type} [DecidableEq κ]
end
/-- How many boxes some moves lift. -/
def boxesN (l : List Move) : Int := tot (fun m => bif isBox m then 1 else 0) l
theorem moves_lifts (l : List Move) (hl : l.length ≤ 100000) : M_moves_Lifts l = some (boxesN l) := by
  refine wp_eq ?_
  unfold M_moves_Lifts
  refine J3 (fun pre n => n = boxesN pre ∧ 0 ≤ n ∧ n ≤ (pre.length : Int)) ⟨rfl, by simp, by simp⟩ (fun pre x post n nx e hI hnx => ?_) (fun n hI => Gt hI.1)
  have hp : pre.length + 1 ≤ l.length := by rw [e]; simp
  obtain ⟨i1, i2, i3⟩ := hI
  have hs : boxesN (pre ++ [x]) = n + (bif isBox x then 1 else 0) := by unfold boxesN; rw [tot_snoc, i1]; rfl
  refine wp_jp (fun j => j = boxesN (pre ++ [x]) ∧ 0 ≤ j ∧ j ≤ ((pre ++ [x]).length : Int)) (fun K hK => Hw (fun h => Jk ⟨by omega, by omega⟩ (hK _ ?_)) (fun h => hK _ ?_)) (fun j hj => hnx _ hj)
  · have hb : isBox x = true := h
    rw [hb, cond_true] at hs
    rw [hs, List.length_append, List.length_singleton]
    omega
  · have hb : isBox x = false := h
    rw [hb, cond_false] at hs
    rw [hs, List.length_append, List.length_singleton]
    omega
section
variable {α : Type} {f g : α → Int}
theorem tot_congr : ∀ {l : List α}, (∀ x ∈ l, f x = g x) → tot f l = tot g l
  | [], _ => rfl
  | x :: l, h => by rw [tot, tot, h x (by simp), tot_congr (fun y hy => h y (by simp [hy]))]
theorem tot_add : ∀ {l : List α}, tot (fun x => f x + g x) l = tot f l + tot g l
  | [] => rfl
  | x :: l => by simp only [tot]; rw [tot_add]; omega
theorem tot_zero {l : List α} (h : ∀ x ∈ l, f x = 0) : tot f l = 0 := by
  rw [tot_congr (g := fun _ => 0) h]
  induction l with
  | nil => rfl
  | cons x l ih => rw [tot, ih (fun y hy => h y (by simp [hy]))]; rfl
theorem tot_filter {p : α → Bool} : ∀ {l : List α}, tot f (l.filter p) = tot (fun x => bif p x then f x else 0) l
  | [] => rfl
  | x :: l => by
    rw [List.filter_cons, tot]
    cases h : p x with
    | true => rw [if_pos rfl, tot, tot_filter]; rfl
    | false => simp only [Bool.false_eq_true, if_false, cond_false]; rw [tot_filter]; omega
theorem tot_one {l : List α} : tot (fun _ => 1) l = (l.length : Int) := by
  induction l with
  | nil => rfl
  | cons x l ih => rw [tot, ih, List.length_cons]; omega
/-- How often a number is in a list without doubles. -/
theorem tot_nodup {l : List Int} (h : l.Nodup) (c : Int) : tot (fun k => bif decide (k = c) then 1 else 0) l = bif l.any (fun k => decide (c = k)) then 1 else 0 := by
  induction l with
  | nil => rfl
  | cons x l ih =>
    rw [List.nodup_cons] at h
    rw [tot, ih h.2, List.any_cons]
    by_cases e : x = c
    · subst e
      have hf : l.any (fun k => decide (x = k)) = false := List.any_eq_false.2 (fun y hy => by
        intro e; exact h.1 (by rw [of_decide_eq_true e]; exact hy))
      rw [hf]; simp
    · rw [decide_eq_false e, decide_eq_false (fun h => e h.symm)]; simp
end

section
variable {s : Gz} {before after : List G2} {lifted : List Int} {f : Move → Int}
/-- What a quantity is, added up over the covers that are needed in the bays ahead of some bay. -/
def needTot (s : Gz) (before after : List G2) (lifted : List Int) (g : Int → Int) : Nat → Int
  | 0 => 0
  | n + 1 => needTot s before after lifted g n + tot g (neededL s before after lifted (n : Int))
theorem partL_tot {l : List G2} {bay : Int} {deck : Bool} {g : G2 → Int} : tot g (partL s l lifted bay deck) = tot (fun x => bif inPart s lifted bay deck x then g x else 0) l := by
  unfold partL
  rw [tot_perm (isrt_perm _ _), tot_filter]
/-- A box that is lifted, in a bay ahead of some bay. -/
def inBays (s : Gz) (lifted : List Int) (n : Nat) (x : G2) : Bool := lifted.any (fun y => decide (x.Gp = y)) && (decide (0 ≤ (colAt s x.Slot).Bay) && decide ((colAt s x.Slot).Bay < (n : Int)))
theorem bays_step {l : List G2} {g : G2 → Int} (n : Nat) : tot (fun x => bif inBays s lifted (n + 1) x then g x else 0) l = tot (fun x => bif inBays s lifted n x then g x else 0) l + tot g (partL s l lifted (n : Int) true) + tot g (partL s l lifted (n : Int) false) := by
  rw [partL_tot, partL_tot, ← tot_add, ← tot_add]
  refine tot_congr (fun x _ => ?_)
  unfold inBays inPart
  cases lifted.any (fun y => decide (x.Gp = y)) with
  | false => simp
  | true =>
    simp only [Bool.true_and, Bool.and_true]
    generalize (colAt s x.Slot).Bay = b
    generalize (colAt s x.Slot).Deck = d
    by_cases h0 : 0 ≤ b
    · rw [decide_eq_true h0]
      by_cases h1 : b < (n : Int)
      · rw [decide_eq_true h1, decide_eq_true (by omega : b < ((n + 1 : Nat) : Int)), decide_eq_false (by omega : ¬ b = (n : Int))]
        simp
      · by_cases h2 : b = (n : Int)
        · rw [decide_eq_false h1, decide_eq_true (by omega : b < ((n + 1 : Nat) : Int)), decide_eq_true h2]
          cases d <;> simp
        · rw [decide_eq_false h1, decide_eq_false (by omega : ¬ b < ((n + 1 : Nat) : Int)), decide_eq_false h2]
          simp
    · rw [decide_eq_false h0, decide_eq_false (by omega : ¬ b = (n : Int))]
      simp
theorem bays_none (l : List G2) (g : G2 → Int) : tot (fun x => bif inBays s lifted 0 x then g x else 0) l = 0 := by
  refine tot_zero (fun x _ => ?_)
  have : inBays s lifted 0 x = false := by
    unfold inBays
    by_cases h : 0 ≤ (colAt s x.Slot).Bay
    · rw [decide_eq_false (by omega : ¬ (colAt s x.Slot).Bay < ((0 : Nat) : Int))]; simp
    · rw [decide_eq_false h]; simp
  rw [this]; rfl
theorem outs_tot : ∀ n : Nat, tot f (outs s before after lifted n) = tot (fun x => bif inBays s lifted n x then f (mvS 2 x) else 0) before + needTot s before after lifted (fun k => f (mvC 1 k)) n
  | 0 => by
    rw [bays_none]
    simp [outs, tot, needTot]
  | n + 1 => by
    rw [outs_succ, tot_append, outs_tot n, bays_step, needTot]
    unfold outBay
    rw [tot_append, tot_append, tot_map, tot_map, tot_map, tot_perm (isrt_perm _ _), tot_perm (isrt_perm _ _)]
    omega
theorem ins_tot : ∀ n : Nat, tot f (ins s before after lifted n) = tot (fun x => bif inBays s lifted n x then f (mvS 3 x) else 0) after + needTot s before after lifted (fun k => f (mvC 4 k)) n
  | 0 => by
    rw [bays_none]
    simp [ins, tot, needTot]
  | n + 1 => by
    rw [ins_succ, tot_append, ins_tot n, bays_step, needTot]
    unfold inBay
    rw [tot_append, tot_append, tot_map, tot_map, tot_map]
    omega
/-- Whether a box is lifted. -/
def isIn (lifted : List Int) (x : G2) : Bool := lifted.any (fun y => decide (x.Gp = y))
theorem bays_all {l : List G2} {g : G2 → Int} (hb : BuiltOk s) (hc : ∀ x ∈ l, ColIn s x.Slot) : tot (fun x => bif inBays s lifted 40 x then g x else 0) l = tot (fun x => bif isIn lifted x then g x else 0) l := by
  refine tot_congr (fun x hx => ?_)
  obtain ⟨m, c, h1, h2⟩ := hc x hx
  have hbay := (hb.cols.each c (List.mem_of_getElem? h2)).bay
  unfold inBays isIn
  rw [colAt_of h1 h2, decide_eq_true (by omega), decide_eq_true (by omega)]
  simp
theorem callL_tot (hb : BuiltOk s) (h1 : ∀ x ∈ before, ColIn s x.Slot) (h2 : ∀ x ∈ after, ColIn s x.Slot) : tot f (callL s before after lifted) =
    tot (fun x => bif isIn lifted x then f (mvS 2 x) else 0) before + needTot s before after lifted (fun k => f (mvC 1 k)) 40 + (tot (fun x => bif isIn lifted x then f (mvS 3 x) else 0) after + needTot s before after lifted (fun k => f (mvC 4 k)) 40) := by
  unfold callL
  rw [tot_append, outs_tot, ins_tot, bays_all hb h1, bays_all hb h2]
theorem callL_tot2 {g2 g3 : G2 → Int} {g1 g4 : Int → Int} (hb : BuiltOk s) (h1 : ∀ x ∈ before, ColIn s x.Slot) (h2 : ∀ x ∈ after, ColIn s x.Slot) (e2 : ∀ x, f (mvS 2 x) = g2 x) (e1 : ∀ k, f (mvC 1 k) = g1 k) (e3 : ∀ x, f (mvS 3 x) = g3 x) (e4 : ∀ k, f (mvC 4 k) = g4 k) :
    tot f (callL s before after lifted) = tot (fun x => bif isIn lifted x then g2 x else 0) before + needTot s before after lifted g1 40 + (tot (fun x => bif isIn lifted x then g3 x else 0) after + needTot s before after lifted g4 40) := by
  rw [callL_tot hb h1 h2]
  simp only [e1, e2, e3, e4]
theorem isIn_zero (l : List G2) : tot (fun x => bif isIn lifted x then (0 : Int) else 0) l = 0 := tot_zero (fun x _ => by cases isIn lifted x <;> rfl)
theorem needTot_zero {g : Int → Int} (h : ∀ k, g k = 0) : ∀ n, needTot s before after lifted g n = 0
  | 0 => rfl
  | n + 1 => by rw [needTot, needTot_zero h n, tot_zero (fun k _ => h k)]; rfl
/-- A cover is needed in its own bay alone. -/
theorem needTot_one (h1 : ∀ x ∈ before, ColIn s x.Slot) (h2 : ∀ x ∈ after, ColIn s x.Slot) (c : Int) : ∀ n, (needTot s before after lifted (fun k => bif decide (k = c) then 1 else 0) n = 0) ∨
    (needTot s before after lifted (fun k => bif decide (k = c) then 1 else 0) n = 1 ∧ ∃ b : Nat, b < n ∧ c ∈ neededL s before after lifted (b : Int))
  | 0 => .inl rfl
  | n + 1 => by
    rw [needTot, tot_nodup neededL_nodup]
    rcases needTot_one h1 h2 c n with h | ⟨h, b, hbn, hb⟩
    · cases hn : (neededL s before after lifted (n : Int)).any (fun k => decide (c = k)) with
      | false => rw [h]; exact .inl rfl
      | true =>
        rw [h]
        obtain ⟨k, hk, e⟩ := List.any_eq_true.1 hn
        have e := of_decide_eq_true e
        subst e
        exact .inr ⟨rfl, n, by omega, hk⟩
    · have hn : (neededL s before after lifted (n : Int)).any (fun k => decide (c = k)) = false := by
        refine List.any_eq_false.2 (fun k hk => ?_)
        intro e
        have e := of_decide_eq_true e
        subst e
        obtain ⟨j, x, q1, q2, q3⟩ := out_ok h1 h2 _ hb
        obtain ⟨j', x', r1, r2, r3⟩ := out_ok h1 h2 _ hk
        have : j = j' := by omega
        subst this
        rw [q2] at r2
        cases r2
        omega
      rw [h, hn]
      exact .inr ⟨rfl, b, by omega, hb⟩
/-- How often a box is in a state. -/
def cntB (l : List G2) (id : Int) : Int := tot (fun x => bif decide (x.Gp = id) then 1 else 0) l
def kindN (kind id : Int) (l : List Move) : Int := tot (fun m => bif decide (m.Kind = kind) && decide (m.Gp = id) then 1 else 0) l
def coverN (kind c : Int) (l : List Move) : Int := tot (fun m => bif decide (m.Kind = kind) && decide (m.Ga = c) then 1 else 0) l
def isInI (lifted : List Int) (id : Int) : Int := bif lifted.any (fun y => decide (id = y)) then 1 else 0
theorem cnt_lifted (l : List G2) (id : Int) : tot (fun x => bif isIn lifted x then (bif decide (x.Gp = id) then 1 else 0) else 0) l = isInI lifted id * cntB l id := by
  unfold cntB isInI
  induction l with
  | nil => simp [tot]
  | cons x l ih =>
    rw [tot, tot, ih, Int.mul_add]
    congr 1
    unfold isIn
    by_cases e : x.Gp = id
    · rw [e]
      cases lifted.any (fun y => decide (id = y)) <;> simp
    · rw [decide_eq_false e]
      cases lifted.any (fun y => decide (x.Gp = y)) <;> simp
theorem out_count (hb : BuiltOk s) (h1 : ∀ x ∈ before, ColIn s x.Slot) (h2 : ∀ x ∈ after, ColIn s x.Slot) (id : Int) : kindN 2 id (callL s before after lifted) = isInI lifted id * cntB before id := by
  unfold kindN
  rw [callL_tot2 (g2 := fun x => bif decide (x.Gp = id) then 1 else 0) (g1 := fun _ => 0) (g3 := fun _ => 0) (g4 := fun _ => 0) hb h1 h2 (fun x => rfl) (fun k => rfl) (fun x => rfl) (fun k => rfl), needTot_zero (fun _ => rfl), isIn_zero, cnt_lifted]
  omega
theorem in_count (hb : BuiltOk s) (h1 : ∀ x ∈ before, ColIn s x.Slot) (h2 : ∀ x ∈ after, ColIn s x.Slot) (id : Int) : kindN 3 id (callL s before after lifted) = isInI lifted id * cntB after id := by
  unfold kindN
  rw [callL_tot2 (g3 := fun x => bif decide (x.Gp = id) then 1 else 0) (g1 := fun _ => 0) (g2 := fun _ => 0) (g4 := fun _ => 0) hb h1 h2 (fun x => rfl) (fun k => rfl) (fun x => rfl) (fun k => rfl), needTot_zero (fun _ => rfl), isIn_zero, cnt_lifted]
  omega
theorem cover_count (hb : BuiltOk s) (h1 : ∀ x ∈ before, ColIn s x.Slot) (h2 : ∀ x ∈ after, ColIn s x.Slot) (c : Int) : coverN 1 c (callL s before after lifted) = coverN 4 c (callL s before after lifted) ∧
    (coverN 1 c (callL s before after lifted) = 0 ∨ (coverN 1 c (callL s before after lifted) = 1 ∧ ∃ b : Nat, c ∈ neededL s before after lifted (b : Int))) := by
  have e1 : coverN 1 c (callL s before after lifted) = needTot s before after lifted (fun k => bif decide (k = c) then 1 else 0) 40 := by
    unfold coverN
    rw [callL_tot2 (g1 := fun k => bif decide (k = c) then 1 else 0) (g2 := fun _ => 0) (g3 := fun _ => 0) (g4 := fun _ => 0) hb h1 h2 (fun x => rfl) (fun k => rfl) (fun x => rfl) (fun k => rfl), needTot_zero (g := fun _ => 0) (fun _ => rfl), isIn_zero, isIn_zero]
    omega
  have e4 : coverN 4 c (callL s before after lifted) = needTot s before after lifted (fun k => bif decide (k = c) then 1 else 0) 40 := by
    unfold coverN
    rw [callL_tot2 (g4 := fun k => bif decide (k = c) then 1 else 0) (g2 := fun _ => 0) (g3 := fun _ => 0) (g1 := fun _ => 0) hb h1 h2 (fun x => rfl) (fun k => rfl) (fun x => rfl) (fun k => rfl), needTot_zero (g := fun _ => 0) (fun _ => rfl), isIn_zero, isIn_zero]
    omega
  refine ⟨e1.trans e4.symm, ?_⟩
  rw [e1]
  rcases needTot_one h1 h2 c 40 with h | ⟨h, b, _, hb⟩
  · exact .inl h
  · exact .inr ⟨h, b, hb⟩
theorem lifts_count (hb : BuiltOk s) (h1 : ∀ x ∈ before, ColIn s x.Slot) (h2 : ∀ x ∈ after, ColIn s x.Slot) : boxesN (callL s before after lifted) = tot (fun x => bif isIn lifted x then 1 else 0) before + tot (fun x => bif isIn lifted x then 1 else 0) after := by
  unfold boxesN
  rw [callL_tot2 (g2 := fun _ => 1) (g3 := fun _ => 1) (g1 := fun _ => 0) (g4 := fun _ => 0) hb h1 h2 (fun x => rfl) (fun k => rfl) (fun x => rfl) (fun k => rfl), needTot_zero (fun _ => rfl)]
  omega
end
/-- A box is on board before and behind a call. -/
def bothB (before after : List G2) (id : Int) : Bool := (findP before id).2 && (findP after id).2
theorem lifted_of {F : Nat} {s : Gz} {boxes : List Gp} {before after : List G2} {l L : List Int} (hs : Small s) (h1 : RightP s boxes before) (h2 : RightP s boxes after) (l1 : before.length ≤ 9) (l2 : after.length ≤ 9)
    (h : Qh F s boxes before after = some (l, 0)) (hL : Q3 F s before after = some L) : L = l := by
  have e : Qh F s boxes before after = some (L, 0) := by
    refine wp_eq ?_
    unfold Qh
    refine He (wp_mono (stow_right hs.right hs.tier (by omega)) (fun r4 h4 => ?_))
    rw [h4.2 h1]
    simp only [Bool.not_true, Bool.not_false, cond_true, Bool.false_or]
    refine He (wp_mono (stow_right hs.right hs.tier (by omega)) (fun r5 h5 => ?_))
    rw [h5.2 h2]
    simp only [Bool.not_true, cond_false]
    exact Gw hL (Gt rfl)
  rw [e] at h
  exact congrArg Prod.fst (Option.some.inj h)
/-- The restows of a call. -/
def RestowAt (F : Nat) (s : Gz) (states : List (List G2)) (k : Nat) (x : List Int) : Prop :=
  ∃ after L, states[k]? = some after ∧ Q3 F s (befSt (states.take k)) after = some L ∧ x = L.filter (bothB (befSt (states.take k)) after) ∧ x.length ≤ 16
theorem restow_eq {s : Gz} {boxes : List Gp} {before after : List G2} {F : Nat} (hs : Small s) (h1 : RightP s boxes before) (h2 : RightP s boxes after) (l1 : before.length ≤ 8) (l2 : after.length ≤ 8) (hF : 60 ≤ F) :
    Wp (Q3 F s before after) (fun r23 => Wp (M_slices_DeleteFunc_int F r23 (fun z0 => M_plan_Restows_1 z0 before after)) (fun x => Q3 F s before after = some r23 ∧ x = r23.filter (bothB before after) ∧ x.length ≤ 16)) := by
  have hU := states_ok hs h1 h2 (by omega) (by omega)
  have hlen : (before.map (·.Gp) ++ after.map (·.Gp)).length ≤ 16 := by simp only [List.length_append, List.length_map]; omega
  obtain ⟨r, e, hr1, hr2⟩ := lifted_spec hU (F := F) (by omega)
  refine ⟨r, e, ?_⟩
  have hrl := hr1.length_le_of_subset (fun a ha => hr2 a ha)
  refine ⟨_, deleteFunc (p := fun id => (!(findP before id).2) || (!(findP after id).2)) (fun x _ => wp_eq (Gw (plan_find before x) (Gw (plan_find after x) (Gt rfl)))) (by omega) (by omega), e, ?_, Nat.le_trans (List.length_filter_le _ _) (by omega)⟩
  refine List.filter_congr (fun x _ => ?_)
  unfold bothB
  cases (findP before x).2 <;> cases (findP after x).2 <;> rfl
theorem prevSt_eq (l : List (List G2)) (k : Nat) (hk : k ≤ l.length) : prevSt l k = befSt (l.take k) := by
  unfold prevSt befSt
  by_cases h : k = 0
  · subst h; simp
  · rw [if_neg h, List.getLast?_take]
    rw [if_neg h]
    have : k - 1 < l.length := by omega
    rw [List.getElem?_eq_getElem this]
    rfl
theorem plan_restows2 {s : Gz} {boxes : List Gp} {calls : Int} {p : Plan} {F : Nat} (hs : Small s) (hb : BoxesOk calls boxes) (hp : PlanOk s boxes calls p) (hF : 60 ≤ F) :
    Wp (M_plan_Restows F s boxes calls p) (fun r => r.2 = 0 ∧ r.1.length = p.States.length ∧ ∀ k x, r.1[k]? = some x → RestowAt F s p.States k x) := by
  unfold M_plan_Restows
  refine Gw (plan_check hs hb hp) (Hw (fun h => by simp at h) (fun _ => ?_))
  refine Gw (show M_plan_steps p = some () from rfl) ?_
  obtain ⟨ys, e0, hyl, hys⟩ := plan_steps p
  refine Gw e0 ?_
  have hcalls : p.States.length ≤ 20 := by have := hp.len; have := hb.num; omega
  have hbl := hb.len
  refine J3 (fun pre out => out.length = pre.length ∧ ∀ (k : Nat) x, out[k]? = some x → RestowAt F s p.States k x) ⟨rfl, fun k x h => (by simp at h)⟩ (fun pre y post out nx e hI hnx => ?_)
    (fun out hI => Gt ⟨rfl, hI.1.trans hyl, hI.2⟩)
  obtain ⟨h1, h2⟩ := hI
  have hyk : ys[pre.length]? = some y := by rw [e]; simp
  have hpl : pre.length < 20 := by have := (List.getElem?_eq_some_iff.1 hyk).1; omega
  obtain ⟨g1, g2⟩ := hys pre.length y hyk
  have hafter : StateOk s boxes pre.length y.2 := hp.each _ _ g2
  have hkl : pre.length ≤ p.States.length := by have := (List.getElem?_eq_some_iff.1 g2).1; omega
  rw [prevSt_eq _ _ hkl] at g1
  have hbefore := befSt_ok hp (by omega) pre.length
  have hbl8 : (befSt (p.States.take pre.length)).length ≤ 8 := by
    unfold befSt
    cases hg : (p.States.take pre.length).getLast? with
    | none => simp
    | some st =>
      have hm := List.mem_of_mem_take (List.mem_of_getLast? hg)
      obtain ⟨j, hj⟩ := List.mem_iff_getElem?.1 hm
      have := (hp.each j st hj).len
      simp only [Option.getD_some]; omega
  have hal := hafter.len
  rw [g1]
  refine He (wp_mono (restow_eq hs hbefore.1 hafter.right hbl8 (by omega) hF) (fun r23 hr => He (wp_mono hr (fun r25 h25 => ?_))))
  refine Qe (room_ok (by rw [List.length_singleton]; omega) (by omega)) (hnx _ ⟨by simp [h1], fun k x hx => ?_⟩)
  rw [List.getElem?_append] at hx
  split at hx
  · exact h2 k x hx
  · rename_i hk
    have hk0 : k - out.length = 0 := by
      have := (List.getElem?_eq_some_iff.1 hx).1
      simp only [List.length_singleton] at this; omega
    rw [hk0] at hx
    simp only [List.getElem?_cons_zero, Option.some.injEq] at hx
    subst hx
    have : k = pre.length := by omega
    subst this
    exact ⟨y.2, r23, g2, h25⟩
/-- How many of some lists' elements there are. -/
def totL (out : List (List Int)) : Int := tot (fun x : List Int => (x.length : Int)) out
theorem plan_count2 {s : Gz} {boxes : List Gp} {calls : Int} {p : Plan} {F : Nat} (hs : Small s) (hb : BoxesOk calls boxes) (hp : PlanOk s boxes calls p) (hF : 60 ≤ F) :
    Wp (M_plan_Count F s boxes calls p) (fun r => r.2 = 0 ∧ ∃ out : List (List Int), out.length = p.States.length ∧ r.1 = totL out ∧ ∀ k x, out[k]? = some x → RestowAt F s p.States k x) := by
  have hcalls : p.States.length ≤ 20 := by have := hp.len; have := hb.num; omega
  unfold M_plan_Count
  refine He (wp_mono (plan_restows2 hs hb hp hF) (fun r hr => ?_))
  obtain ⟨h0, h1, h2⟩ := hr
  refine J3 (fun pre n => n = totL pre ∧ 0 ≤ n ∧ n ≤ 16 * (pre.length : Int)) ⟨rfl, by omega, by simp⟩ (fun pre x post n nx e hI hnx => ?_) (fun n hI => Gt ⟨h0, r.1, h1, hI.1, h2⟩)
  obtain ⟨i1, i2, i3⟩ := hI
  have hx : r.1[pre.length]? = some x := by rw [e]; simp
  obtain ⟨_, _, _, _, _, hx8⟩ := h2 _ _ hx
  have hpl : pre.length < 20 := by have := (List.getElem?_eq_some_iff.1 hx).1; omega
  refine Jk ⟨by omega, by omega⟩ (hnx _ ⟨?_, by omega, ?_⟩)
  · unfold totL; rw [tot_snoc, i1]; rfl
  · rw [List.length_append, List.length_singleton]; omega

/-- The calls at which a box comes or goes. -/
def comes (k : Int) (b : Gp) : Int := (bif decide (b.Load = k) then 1 else 0) + (bif decide (b.Discharge = k) then 1 else 0)
def done (k : Int) (b : Gp) : Int := (bif decide (b.Load < k) then 1 else 0) + (bif decide (b.Discharge < k) then 1 else 0)
theorem done_step (k : Int) (b : Gp) : done (k + 1) b = done k b + comes k b := by
  unfold done comes
  have h1 : (bif decide (b.Load < k + 1) then (1 : Int) else 0) = (bif decide (b.Load < k) then 1 else 0) + (bif decide (b.Load = k) then 1 else 0) := by
    rcases Int.lt_trichotomy b.Load k with h | h | h
    · rw [decide_eq_true h, decide_eq_true (by omega), decide_eq_false (by omega)]; rfl
    · rw [decide_eq_true h, decide_eq_true (by omega), decide_eq_false (by omega)]; rfl
    · rw [decide_eq_false (by omega : ¬ b.Load < k + 1), decide_eq_false (by omega : ¬ b.Load < k), decide_eq_false (by omega : ¬ b.Load = k)]; rfl
  have h2 : (bif decide (b.Discharge < k + 1) then (1 : Int) else 0) = (bif decide (b.Discharge < k) then 1 else 0) + (bif decide (b.Discharge = k) then 1 else 0) := by
    rcases Int.lt_trichotomy b.Discharge k with h | h | h
    · rw [decide_eq_true h, decide_eq_true (by omega), decide_eq_false (by omega)]; rfl
    · rw [decide_eq_true h, decide_eq_true (by omega), decide_eq_false (by omega)]; rfl
    · rw [decide_eq_false (by omega : ¬ b.Discharge < k + 1), decide_eq_false (by omega : ¬ b.Discharge < k), decide_eq_false (by omega : ¬ b.Discharge = k)]; rfl
  rw [h1, h2]; omega
theorem aboard_iff {calls : Int} {boxes : List Gp} (hb : BoxesOk calls boxes) {b : Gp} (hm : b ∈ boxes) (k : Int) : b.ID ∈ aboardL boxes k ↔ abB k b = true := by
  unfold aboardL
  rw [List.mem_map]
  constructor
  · rintro ⟨b', hb', e⟩
    obtain ⟨q1, q2⟩ := List.mem_filter.1 hb'
    have := hb.inj q1 hm e
    subst this; exact q2
  · intro h
    exact ⟨b, List.mem_filter.2 ⟨hm, h⟩, rfl⟩
theorem isIn_tot {boxes : List Gp} {l : List G2} {L : List Int} {k : Int} (h : l.map (·.Gp) = aboardL boxes k) : tot (fun x => bif isIn L x then 1 else 0) l = tot (fun b => bif abB k b then isInI L b.ID else 0) boxes := by
  have e1 : tot (fun x : G2 => bif isIn L x then (1 : Int) else 0) l = tot (isInI L) (l.map (·.Gp)) := by rw [tot_map]; rfl
  rw [e1, h]
  unfold aboardL
  rw [tot_map, tot_filter]
theorem call_sum {s : Gz} {calls k : Int} {boxes : List Gp} {before after : List G2} {L : List Int} (hb : BoxesOk calls boxes) (e1 : before.map (·.Gp) = aboardL boxes (k - 1)) (e2 : after.map (·.Gp) = aboardL boxes k)
    (hn : L.Nodup) (hL : Least s before after L) :
    tot (fun x => bif isIn L x then 1 else 0) before + tot (fun x => bif isIn L x then 1 else 0) after = 2 * ((L.filter (bothB before after)).length : Int) + tot (comes k) boxes := by
  rw [isIn_tot e1, isIn_tot e2]
  have hboth : ((L.filter (bothB before after)).length : Int) = tot (fun b => bif (abB (k - 1) b && abB k b) then isInI L b.ID else 0) boxes := by
    have hq : tot (fun b => bif (abB (k - 1) b && abB k b) then isInI L b.ID else 0) boxes = (((boxes.filter (fun b => (abB (k - 1) b && abB k b) && L.any (fun y => decide (b.ID = y)))).map (·.ID)).length : Int) := by
      rw [List.length_map, ← tot_one, tot_filter]
      refine tot_congr (fun b _ => ?_)
      unfold isInI
      cases (abB (k - 1) b && abB k b) <;> simp
    rw [hq]
    have hnd : ((boxes.filter (fun b => (abB (k - 1) b && abB k b) && L.any (fun y => decide (b.ID = y)))).map (·.ID)).Nodup := sorted_nodup (List.pairwise_map.2 (hb.sorted.filter _))
    have hmem : ∀ a, a ∈ L.filter (bothB before after) ↔ a ∈ (boxes.filter (fun b => (abB (k - 1) b && abB k b) && L.any (fun y => decide (b.ID = y)))).map (·.ID) := by
      intro a
      rw [List.mem_filter, List.mem_map]
      unfold bothB
      rw [Bool.and_eq_true, findP_true, findP_true, e1, e2]
      constructor
      · rintro ⟨h1, h2, h3⟩
        obtain ⟨b, hbm, rfl⟩ := List.mem_map.1 h2
        have hbm' := (List.mem_filter.1 hbm).1
        have h2' := (aboard_iff hb hbm' (k - 1)).1 h2
        have h3' := (aboard_iff hb hbm' k).1 h3
        refine ⟨b, List.mem_filter.2 ⟨hbm', ?_⟩, rfl⟩
        rw [h2', h3']
        simp only [Bool.true_and, List.any_eq_true]
        exact ⟨b.ID, h1, by simp⟩
      · rintro ⟨b, hbm, rfl⟩
        obtain ⟨q1, q2⟩ := List.mem_filter.1 hbm
        simp only [Bool.and_eq_true, List.any_eq_true] at q2
        obtain ⟨⟨q2, q3⟩, y, hy, e⟩ := q2
        have e := of_decide_eq_true e
        exact ⟨by rw [e]; exact hy, (aboard_iff hb q1 _).2 q2, (aboard_iff hb q1 _).2 q3⟩
    have hn2 : (L.filter (bothB before after)).Nodup := hn.filter _
    have g1 := hn2.length_le_of_subset (fun a ha => (hmem a).1 ha)
    have g2 := hnd.length_le_of_subset (fun a ha => (hmem a).2 ha)
    omega
  rw [hboth, ← tot_add]
  have e3 : ∀ {f : Gp → Int} {l : List Gp}, 2 * tot f l = tot (fun b => 2 * f b) l := by
    intro f l
    induction l with
    | nil => rfl
    | cons x l ih => rw [tot, tot, ← ih]; omega
  rw [e3, ← tot_add]
  refine tot_congr (fun b hbm => ?_)
  obtain ⟨_, _, h3, h4, h5⟩ := hb.each b hbm
  have hmoved : (b.ID ∈ before.map (·.Gp) ∧ b.ID ∉ after.map (·.Gp)) ∨ (b.ID ∉ before.map (·.Gp) ∧ b.ID ∈ after.map (·.Gp)) → isInI L b.ID = 1 := by
    intro h
    have hin : b.ID ∈ L := by
      rcases h with ⟨q1, q2⟩ | ⟨q1, q2⟩
      · obtain ⟨y, hy, e⟩ := List.mem_map.1 q1
        rw [← e]
        refine hL.seeds before (by simp) y hy (fun he => q2 ?_)
        rw [← findP_true, ← e, ← he, findP_true, e]; exact q1
      · obtain ⟨y, hy, e⟩ := List.mem_map.1 q2
        rw [← e]
        refine hL.seeds after (by simp) y hy (fun he => q1 ?_)
        rw [← findP_true, ← e, he, findP_true, e]; exact q2
    unfold isInI
    rw [List.any_eq_true.2 ⟨_, hin, decide_eq_true rfl⟩]; rfl
  rw [e1, e2, aboard_iff hb hbm, aboard_iff hb hbm] at hmoved
  have a1 : abB (k - 1) b = (decide (b.Load ≤ k - 1) && decide (k - 1 < b.Discharge)) := rfl
  have a2 : abB k b = (decide (b.Load ≤ k) && decide (k < b.Discharge)) := rfl
  unfold comes
  by_cases c1 : b.Load ≤ k - 1
  · by_cases c2 : k < b.Discharge
    · rw [a1, a2, decide_eq_true c1, decide_eq_true c2, decide_eq_true (by omega : b.Load ≤ k), decide_eq_true (by omega : k - 1 < b.Discharge), decide_eq_false (by omega : ¬ b.Load = k), decide_eq_false (by omega : ¬ b.Discharge = k)]
      simp only [Bool.and_self, cond_true, cond_false]; omega
    · by_cases c3 : b.Discharge = k
      · have hm := hmoved (.inl ⟨by rw [a1, decide_eq_true c1, decide_eq_true (by omega)]; rfl, by rw [a2, decide_eq_false c2]; simp⟩)
        rw [a1, a2, decide_eq_true c1, decide_eq_false c2, decide_eq_true (by omega : k - 1 < b.Discharge), decide_eq_false (by omega : ¬ b.Load = k), decide_eq_true c3, hm]
        simp
      · rw [a1, a2, decide_eq_false c2, decide_eq_false (by omega : ¬ k - 1 < b.Discharge), decide_eq_false (by omega : ¬ b.Load = k), decide_eq_false c3]
        simp
  · by_cases c2 : b.Load = k
    · have hm := hmoved (.inr ⟨by rw [a1, decide_eq_false c1]; simp, by rw [a2, decide_eq_true (by omega), decide_eq_true (by omega)]; rfl⟩)
      rw [a1, a2, decide_eq_false c1, decide_eq_true c2, decide_eq_true (by omega : b.Load ≤ k), decide_eq_true (by omega : k < b.Discharge), decide_eq_false (by omega : ¬ b.Discharge = k), hm]
      simp
    · rw [a1, a2, decide_eq_false c1, decide_eq_false c2, decide_eq_false (by omega : ¬ b.Load ≤ k), decide_eq_false (by omega : ¬ b.Discharge = k)]
      simp
theorem law30_count (l : List G2) (id : Int) (hl : l.length ≤ 100000) : M_twistlocklaw30_count l id = some (cntB l id) := by
  refine wp_eq ?_
  unfold M_twistlocklaw30_count
  refine J3 (fun pre n => n = cntB pre id ∧ 0 ≤ n ∧ n ≤ (pre.length : Int)) ⟨rfl, by simp, by simp⟩ (fun pre x post n nx e hI hnx => ?_) (fun n hI => Gt hI.1)
  have hp : pre.length + 1 ≤ l.length := by rw [e]; simp
  obtain ⟨i1, i2, i3⟩ := hI
  have hs : cntB (pre ++ [x]) id = n + (bif decide (x.Gp = id) then 1 else 0) := by unfold cntB; rw [tot_snoc, i1]; rfl
  refine wp_jp (fun j => j = cntB (pre ++ [x]) id ∧ 0 ≤ j ∧ j ≤ ((pre ++ [x]).length : Int)) (fun K hK => Hw (fun h => Jk ⟨by omega, by omega⟩ (hK _ ?_)) (fun h => hK _ ?_)) (fun j hj => hnx _ hj)
  · rw [h, cond_true] at hs
    rw [hs, List.length_append, List.length_singleton]
    omega
  · rw [h, cond_false] at hs
    rw [hs, List.length_append, List.length_singleton]
    omega
theorem each_find {α β : Type} {p : α → Bool} {f : α → (Unit → Option β) → Option β} {r : β} {k : Unit → Option β} : ∀ {l : List α} {i : Nat}, (∀ x ∈ l, ∀ nx, f x nx = bif p x then some r else nx ()) → each (fun y _ (_ : Unit) nx => f y nx) k l i () = bif l.any p then some r else k ()
  | [], i, _ => rfl
  | x :: l, i, h => by
    rw [each, h x (by simp), List.any_cons]
    cases p x with
    | true => rfl
    | false => exact each_find (fun y hy => h y (by simp [hy]))
/-- A lifted box is in the hold under a cover. -/
theorem under_true {s : Gz} {before after : List G2} {lifted : List Int} {c : Nat} (h1 : ∀ x ∈ before, ColIn s x.Slot) (h2 : ∀ x ∈ after, ColIn s x.Slot) (l1 : before.length ≤ 1000) (l2 : after.length ≤ 1000) {b : Int} (hn : (c : Int) ∈ neededL s before after lifted b) (hc : c < s.Covers.length) :
    M_twistlocklaw30_under s before after lifted (c : Int) = some true := by
  obtain ⟨k, hk⟩ : ∃ k, s.Covers[c]? = some k := ⟨s.Covers[c], List.getElem?_eq_getElem hc⟩
  refine wp_eq ?_
  unfold M_twistlocklaw30_under
  refine Qe (room_ok (by simp; omega) (by omega)) (Qe (room_ok (by simp; omega) (by omega)) ?_)
  have hcol : ∀ x ∈ ([] ++ before) ++ after, ColIn s x.Slot := fun x hx => by
    rw [List.nil_append] at hx
    exact (List.mem_append.1 hx).elim (h1 x) (h2 x)
  have hbody := each_find (k := fun _ => some false) (r := true) (i := 0) (l := ([] ++ before) ++ after)
    (p := fun x => k.Rows.any (fun row => lifted.any (fun id => ((decide (id = x.Gp) && (!(colAt s x.Slot).Deck)) && decide ((colAt s x.Slot).Bay = k.Bay)) && decide ((colAt s x.Slot).Row = row))))
    (f := fun y6 nx6 => Jy s.Columns y6.Slot.G5 fun y12 =>
    Jy s.Covers (c : Int) fun y15 =>
    each (fun y17 _ (_ : Unit) nx17 =>
      each (fun y39 _ (_ : Unit) nx39 =>
        bnd (bif ((decide (y39 = y6.Gp)) && (!y12.Deck)) then Jy s.Covers (c : Int) some else some default) fun y45 =>
        bif ((((decide (y39 = y6.Gp)) && (!y12.Deck)) && (decide (y12.Bay = y45.Bay))) && (decide (y12.Row = y17))) then
        (some true)
        else
        (nx39 ()))
      (fun (_ : Unit) =>
        nx17 ()) lifted 0 ())
    (fun (_ : Unit) =>
      nx6 ()) y15.Rows 0 ()) (fun x hx nx => by
      obtain ⟨m, col, e1, e2⟩ := hcol x hx
      rw [gidx_in e1 e2, gidx_in rfl hk, colAt_of e1 e2]
      refine each_find (f := fun y17 nx17 => each (fun y39 _ (_ : Unit) nx39 =>
        bnd (bif ((decide (y39 = x.Gp)) && (!col.Deck)) then Jy s.Covers (c : Int) some else some default) fun y45 =>
        bif ((((decide (y39 = x.Gp)) && (!col.Deck)) && (decide (col.Bay = y45.Bay))) && (decide (col.Row = y17))) then
        (some true)
        else
        (nx39 ()))
      (fun (_ : Unit) =>
        nx17 ()) lifted 0 ()) (fun row _ nx2 => ?_)
      refine each_find (f := fun y39 nx39 => bnd (bif ((decide (y39 = x.Gp)) && (!col.Deck)) then Jy s.Covers (c : Int) some else some default) fun y45 =>
        bif ((((decide (y39 = x.Gp)) && (!col.Deck)) && (decide (col.Bay = y45.Bay))) && (decide (col.Row = row))) then
        (some true)
        else
        (nx39 ())) (fun id _ nx3 => ?_)
      rw [gidx_in rfl hk]
      cases ((decide (id = x.Gp)) && (!col.Deck)) <;> rfl)
  obtain ⟨h0, x, hx, hin, e⟩ := neededL_mem.1 hn
  obtain ⟨i1, i2, i3⟩ := inPart_iff.1 hin
  have hcov : covB k (colAt s x.Slot) = true := by
    unfold covOf coverOf at e
    rcases idxI_cases (fun x' => covB x' (colAt s x.Slot)) s.Covers with ⟨h, _⟩ | ⟨m, x', h, h2, h3, _⟩
    · rw [h] at e; omega
    · rw [h] at e
      have : m = c := by omega
      subst this
      rw [hk] at h2
      cases h2
      exact h3
  unfold covB at hcov
  rw [Bool.and_eq_true, List.any_eq_true] at hcov
  obtain ⟨g1, row, g2, g3⟩ := hcov
  have g1 := of_decide_eq_true g1
  have g3 := of_decide_eq_true g3
  rw [List.any_eq_true.2 ⟨x, by rw [List.nil_append]; exact List.mem_append.2 hx, List.any_eq_true.2 ⟨row, g2, List.any_eq_true.2 ⟨x.Gp, i3, by rw [i2, g1, g3]; simp⟩⟩⟩] at hbody
  exact ⟨true, hbody, rfl⟩

theorem kindN_bound (kind id : Int) (l : List Move) : 0 ≤ kindN kind id l ∧ kindN kind id l ≤ (l.length : Int) := by
  have := tot_bound (f := fun m : Move => (bif decide (m.Kind = kind) && decide (m.Gp = id) then 1 else 0 : Int)) (lo := 0) (hi := 1) (l := l) (fun m _ => by cases decide (m.Kind = kind) && decide (m.Gp = id) <;> decide)
  unfold kindN; omega
theorem coverN_bound (kind c : Int) (l : List Move) : 0 ≤ coverN kind c l ∧ coverN kind c l ≤ (l.length : Int) := by
  have := tot_bound (f := fun m : Move => (bif decide (m.Kind = kind) && decide (m.Ga = c) then 1 else 0 : Int)) (lo := 0) (hi := 1) (l := l) (fun m _ => by cases decide (m.Kind = kind) && decide (m.Ga = c) <;> decide)
  unfold coverN; omega
theorem kindN_snoc (kind id : Int) (l : List Move) (m : Move) : kindN kind id (l ++ [m]) = kindN kind id l + (bif decide (m.Kind = kind) && decide (m.Gp = id) then 1 else 0) := by unfold kindN; rw [tot_snoc]
theorem coverN_snoc (kind c : Int) (l : List Move) (m : Move) : coverN kind c (l ++ [m]) = coverN kind c l + (bif decide (m.Kind = kind) && decide (m.Ga = c) then 1 else 0) := by unfold coverN; rw [tot_snoc]
abbrev Maps := (Gr Int Int) × (Gr Int Int) × (Gr Int Int) × (Gr Int Int)
structure Counted (l : List Move) (m : Maps) : Prop where
  out : ∀ id, Gr.get m.1 id 0 = kindN 2 id l
  inn : ∀ id, Gr.get m.2.1 id 0 = kindN 3 id l
  open_ : ∀ c, Gr.get m.2.2.1 c 0 = coverN 1 c l
  shut : ∀ c, Gr.get m.2.2.2 c 0 = coverN 4 c l
theorem Counted.step {l : List Move} {m m' : Maps} (h : Counted l m) (y : Move)
    (h1 : ∀ id, Gr.get m'.1 id 0 = Gr.get m.1 id 0 + (bif decide (y.Kind = 2) && decide (y.Gp = id) then 1 else 0)) (h2 : ∀ id, Gr.get m'.2.1 id 0 = Gr.get m.2.1 id 0 + (bif decide (y.Kind = 3) && decide (y.Gp = id) then 1 else 0))
    (h3 : ∀ c, Gr.get m'.2.2.1 c 0 = Gr.get m.2.2.1 c 0 + (bif decide (y.Kind = 1) && decide (y.Ga = c) then 1 else 0)) (h4 : ∀ c, Gr.get m'.2.2.2 c 0 = Gr.get m.2.2.2 c 0 + (bif decide (y.Kind = 4) && decide (y.Ga = c) then 1 else 0)) : Counted (l ++ [y]) m' :=
  ⟨fun id => by rw [kindN_snoc, h1, h.out], fun id => by rw [kindN_snoc, h2, h.inn], fun c => by rw [coverN_snoc, h3, h.open_], fun c => by rw [coverN_snoc, h4, h.shut]⟩
theorem get_same (m : Gr Int Int) (b : Bool) (hb : b = false) (id : Int) (x : Int) : Gr.get m id 0 = Gr.get m id 0 + (bif b && decide (x = id) then 1 else 0) := by rw [hb]; simp
theorem get_more (m : Gr Int Int) (b : Bool) (hb : b = true) (id x : Int) : Gr.get (Gr.put m x (Gr.get m x 0 + 1)) id 0 = Gr.get m id 0 + (bif b && decide (x = id) then 1 else 0) := by
  rw [hb, amap_get_put]
  by_cases e : x = id
  · subst e; simp
  · rw [if_neg e, decide_eq_false e]; simp
theorem isInI_snoc (l : List Int) (y id : Int) : isInI (l ++ [y]) id = if y = id then 1 else isInI l id := by
  unfold isInI
  rw [List.any_append]
  by_cases e : y = id
  · subst e; simp
  · rw [if_neg e]
    have : ¬ id = y := fun h => e h.symm
    simp [this]
theorem isInI_cases (l : List Int) (id : Int) : isInI l id = 0 ∨ isInI l id = 1 := by
  unfold isInI
  cases l.any (fun y => decide (id = y)) with
  | false => exact .inl rfl
  | true => exact .inr rfl

theorem lawOnceF {F : Nat} (hF : 60 ≤ F) (hA : M_twistlocklaw30_awake F = some true) (l : List Hr) (covers : Int) (items : List Hh) (n : Int) (hp : ∀ p ∈ l, PlaceOk p) (hi : ∀ x ∈ items, ItemOk x) (hn : Byte n) : M_twistlocklaw30_MovesOnce F l covers items n = some true := by
  refine wp_eq ?_
  unfold M_twistlocklaw30_MovesOnce
  refine He (wp_mono (built_spec l covers hp) (fun s hs => ?_))
  have hsm := built_small hs
  have hfew := built_few hs
  obtain ⟨n1, n2⟩ := hn
  refine Jk ⟨by omega, by omega⟩ (He (wp_rem (by omega) ?_))
  rw [show n.tmod 5 = n % 5 from Int.tmod_eq_emod_of_nonneg n1]
  refine Jk ⟨by omega, by omega⟩ ?_
  have hcalls : 2 ≤ 2 + n % 5 ∧ 2 + n % 5 ≤ 6 := by omega
  generalize 2 + n % 5 = calls at hcalls
  refine He (wp_mono (Voyage_spec hsm hi hcalls hF) (fun r8 h8 => ?_))
  obtain ⟨hb, hpl⟩ := h8
  have hbl := hb.len
  have hlen := hpl.len
  refine He (wp_mono (moves_voyage hF hsm hfew hb hpl) (fun r10 h10 => ?_))
  obtain ⟨g1, g2, g3⟩ := h10
  refine He (wp_mono (plan_count2 hsm hb hpl hF) (fun r12 h12 => ?_))
  obtain ⟨k1, out, k2, k3, k4⟩ := h12
  rw [g1, k1]
  refine Jk ⟨by decide, by decide⟩ (Hw (fun h => ?_) (fun _ => ?_))
  · simp only [Bool.or_eq_true, decide_eq_true_eq] at h
    omega
  have hst : ∀ (k : Nat) (x : List G2), r8.2.States[k]? = some x → x.length ≤ 8 := fun k x hk => Nat.le_trans (hpl.each k x hk).len hbl
  have h16 : ∀ x : List Int, x ∈ out → 0 ≤ (x.length : Int) ∧ (x.length : Int) ≤ 16 := fun x hx => by
    obtain ⟨k, hk⟩ := List.mem_iff_getElem?.1 hx
    obtain ⟨_, _, _, _, _, h⟩ := k4 k x hk
    omega
  refine J3 (fun pre st => st.2 = befSt (r8.2.States.take pre.length) ∧ st.1 = 2 * totL (out.take pre.length) + tot (done (pre.length : Int)) r8.1) ⟨rfl, ?_⟩ (fun pre x post st nx e hI hnx => ?_) (fun st hI => ?_)
  · show (0 : Int) = _
    rw [tot_zero (fun b hbm => ?_)]
    · simp [totL, tot]
    · obtain ⟨_, _, q3, q4, q5⟩ := hb.each b hbm
      unfold done
      rw [List.length_nil, decide_eq_false (by omega), decide_eq_false (by omega)]; rfl
  · obtain ⟨i1, i2⟩ := hI
    have hx : r10.1[pre.length]? = some x := by rw [e]; simp
    obtain ⟨after, lifted, ha, hL, hxe⟩ := g3 _ _ hx
    have hbef := befSt_ok hpl (by omega) pre.length
    have haft := hpl.each _ _ ha
    have hal := hst _ _ ha
    have hkl : pre.length < r8.2.States.length := (List.getElem?_eq_some_iff.1 ha).1
    have c1 := StateOk.colIn hbef.1
    have c2 := StateOk.colIn haft.right
    have hll := callL_len (s := s) (before := befSt (r8.2.States.take pre.length)) (after := after) (lifted := lifted) hfew (by omega) (by omega)
    have qo := out_count (lifted := lifted) hs c1 c2
    have qi := in_count (lifted := lifted) hs c1 c2
    have qc := cover_count (lifted := lifted) hs c1 c2
    have ql := lifts_count (lifted := lifted) hs c1 c2
    rw [← hxe] at hll qo qi qc ql
    rw [i1]
    obtain ⟨rl, el, hlaw⟩ := lifted_law hsm hbef.1 haft.right hbef.2 (by omega) hF
    rw [hL] at el
    cases el
    obtain ⟨_, hsorted, _, hleast⟩ := hlaw
    refine wp_gidx rfl ha (Gw hL ?_)
    refine J3 (fun q m => Counted q m) ⟨fun _ => rfl, fun _ => rfl, fun _ => rfl, fun _ => rfl⟩ (fun q y r m nx2 e2 hm hnx2 => ?_) (fun m hm => ?_)
    · have hql : q.length ≤ 4000 := by
        have := congrArg List.length e2
        rw [List.length_append, List.length_cons] at this
        omega
      have b1 := kindN_bound 2 y.Gp q
      have b2 := kindN_bound 3 y.Gp q
      have b3 := coverN_bound 1 y.Ga q
      have b4 := coverN_bound 4 y.Ga q
      rw [← hm.out] at b1
      rw [← hm.inn] at b2
      rw [← hm.open_] at b3
      rw [← hm.shut] at b4
      refine wp_jp (fun j => Counted (q ++ [y]) j) (fun K hK => Hw (fun h => ?_) (fun h => Hw (fun h' => ?_) (fun h' => Hw (fun h'' => ?_) (fun h'' => Hw (fun h3 => ?_) (fun h3 => ?_))))) (fun j hj => hnx2 _ hj)
      · have hk := of_decide_eq_true h
        refine He (Gt (Jk ⟨by omega, by omega⟩ (hK _ (hm.step y (fun id => get_more _ _ h _ _) (fun id => get_same _ _ (decide_eq_false (by omega)) _ _) (fun id => get_same _ _ (decide_eq_false (by omega)) _ _) (fun id => get_same _ _ (decide_eq_false (by omega)) _ _)))))
      · have hk := of_decide_eq_true h'
        refine He (Gt (Jk ⟨by omega, by omega⟩ (hK _ (hm.step y (fun id => get_same _ _ h _ _) (fun id => get_more _ _ h' _ _) (fun id => get_same _ _ (decide_eq_false (by omega)) _ _) (fun id => get_same _ _ (decide_eq_false (by omega)) _ _)))))
      · have hk := of_decide_eq_true h''
        refine He (Gt (Jk ⟨by omega, by omega⟩ (hK _ (hm.step y (fun id => get_same _ _ h _ _) (fun id => get_same _ _ h' _ _) (fun id => get_more _ _ h'' _ _) (fun id => get_same _ _ (decide_eq_false (by omega)) _ _)))))
      · refine He (Gt (Jk ⟨by omega, by omega⟩ (hK _ (hm.step y (fun id => get_same _ _ h _ _) (fun id => get_same _ _ h' _ _) (fun id => get_same _ _ h'' _ _) (fun id => get_more _ _ h3 _ _)))))
      · exact hK _ (hm.step y (fun id => get_same _ _ h _ _) (fun id => get_same _ _ h' _ _) (fun id => get_same _ _ h'' _ _) (fun id => get_same _ _ h3 _ _))
    · rw [show decide ((0 : Int) ≠ 0) = false from rfl, cond_false]
      refine J3 (fun _ _ => True) trivial (fun q b r u nx2 e2 _ hnx2 => ?_) (fun u _ => ?_)
      · refine J3 (fun q2 v => v = isInI q2 b.ID) rfl (fun q2 id r2 v nx3 e3 hv hnx3 => ?_) (fun v hv => ?_)
        · refine wp_jp (fun j => j = isInI (q2 ++ [id]) b.ID) (fun K hK => Hw (fun h => hK _ ?_) (fun h => hK _ ?_)) (fun j hj => hnx3 _ hj)
          · rw [isInI_snoc, if_pos (of_decide_eq_true h)]
          · rw [isInI_snoc, if_neg (of_decide_eq_false h), hv]
        · subst hv
          have hz := isInI_cases lifted b.ID
          have hc1 := tot_bound (f := fun x : G2 => (bif decide (x.Gp = b.ID) then 1 else 0 : Int)) (lo := 0) (hi := 1) (l := befSt (r8.2.States.take pre.length)) (fun x _ => by cases decide (x.Gp = b.ID) <;> decide)
          have hc2 := tot_bound (f := fun x : G2 => (bif decide (x.Gp = b.ID) then 1 else 0 : Int)) (lo := 0) (hi := 1) (l := after) (fun x _ => by cases decide (x.Gp = b.ID) <;> decide)
          have hc1' : 0 ≤ cntB (befSt (r8.2.States.take pre.length)) b.ID ∧ cntB (befSt (r8.2.States.take pre.length)) b.ID ≤ 9 := by unfold cntB; have := hbef.2; omega
          have hc2' : 0 ≤ cntB after b.ID ∧ cntB after b.ID ≤ 9 := by unfold cntB; omega
          refine He (Gt (Gw (law30_count _ _ (by have := hbef.2; omega)) ?_))
          have hm1 : isInI lifted b.ID * cntB (befSt (r8.2.States.take pre.length)) b.ID ≤ 9 ∧ 0 ≤ isInI lifted b.ID * cntB (befSt (r8.2.States.take pre.length)) b.ID := by
            rcases hz with h | h <;> rw [h] <;> omega
          have hm2 : isInI lifted b.ID * cntB after b.ID ≤ 9 ∧ 0 ≤ isInI lifted b.ID * cntB after b.ID := by
            rcases hz with h | h <;> rw [h] <;> omega
          refine Jk (z := isInI lifted b.ID * cntB (befSt (r8.2.States.take pre.length)) b.ID) ⟨by omega, by omega⟩ ?_
          rw [hm.out, qo, decide_eq_false (fun h => h rfl)]
          simp only [Bool.not_false, cond_true, Bool.false_or]
          refine He (Gt (He (wp_gidx rfl ha (Gt (Gw (law30_count _ _ (by omega)) (He (Jk (z := isInI lifted b.ID * cntB after b.ID) ⟨by omega, by omega⟩ (Gt ?_))))))))
          rw [hm.inn, qi, decide_eq_false (fun h => h rfl), cond_false]
          exact hnx2 _ trivial
      · refine J3 (fun _ _ => True) trivial (fun q k r u nx2 e2 _ hnx2 => ?_) (fun u _ => ?_)
        · have hcl : q.length < s.Covers.length := by rw [e2]; simp
          obtain ⟨w1, w2⟩ := qc (q.length : Int)
          refine He (Gt ?_)
          rw [hm.open_]
          have hle : coverN 1 (q.length : Int) x ≤ 1 := by rcases w2 with h | ⟨h, _⟩ <;> omega
          rw [decide_eq_false (by omega)]
          simp only [Bool.not_false, cond_true, Bool.false_or]
          refine He (Gt (He (Gt ?_)))
          rw [hm.shut, w1, decide_eq_false (fun h => h rfl)]
          simp only [Bool.not_false, cond_true, Bool.false_or, Bool.true_and]
          refine He (Gt ?_)
          rw [← w1]
          rcases w2 with h | ⟨h, bb, hbb⟩
          · rw [h]
            simp only [show decide ((0 : Int) = 1) = false from rfl, cond_false, Bool.false_and]
            exact He (Gt (He (Gt (hnx2 _ trivial))))
          · rw [h]
            simp only [show decide ((1 : Int) = 1) = true from rfl, cond_true, Bool.true_and]
            refine He (wp_gidx rfl ha (Gt (Gw (under_true c1 c2 (by have := hbef.2; omega) (by omega) hbb hcl) ?_)))
            exact hnx2 _ trivial
        · refine Gw (moves_lifts x (by omega)) ?_
          have hkk : pre.length < out.length := by omega
          obtain ⟨ro, hro⟩ : ∃ ro, out[pre.length]? = some ro := ⟨out[pre.length], List.getElem?_eq_getElem hkk⟩
          obtain ⟨after', L, z1, z2, z3, z4⟩ := k4 _ _ hro
          rw [ha] at z1
          cases z1
          have hLl := lifted_of hsm hbef.1 haft.right hbef.2 (by omega) hL z2
          subst hLl
          have e1 : (befSt (r8.2.States.take pre.length)).map (·.Gp) = aboardL r8.1 ((pre.length : Int) - 1) := by
            rw [← prevSt_eq _ _ (by omega)]
            unfold prevSt
            by_cases h0 : pre.length = 0
            · rw [if_pos h0]
              unfold aboardL
              symm
              rw [List.map_nil, List.map_eq_nil_iff, List.filter_eq_nil_iff]
              intro b hbm
              have := (hb.each b hbm).load
              unfold abB
              rw [decide_eq_false (by omega)]
              simp
            · rw [if_neg h0]
              have hg : r8.2.States[pre.length - 1]? = some (r8.2.States[pre.length - 1]'(by omega)) := List.getElem?_eq_getElem (by omega)
              have := (hpl.each _ _ hg).ids
              rw [hg, Option.getD_some, this]
              congr 1
              omega
          have hsum := call_sum (s := s) hb e1 haft.ids (sorted_nodup hsorted) hleast
          rw [← ql, ← z3] at hsum
          have htake : out.take (pre.length + 1) = out.take pre.length ++ [ro] := by
            rw [List.take_add_one, hro]; rfl
          have ht1 := tot_bound (f := fun x : List Int => (x.length : Int)) (lo := 0) (hi := 16) (l := out.take pre.length) (fun x hx => h16 x (List.mem_of_mem_take hx))
          have ht2 := tot_bound (f := done (pre.length : Int)) (lo := 0) (hi := 2) (l := r8.1) (fun b _ => by
            unfold done
            cases decide (b.Load < (pre.length : Int)) <;> cases decide (b.Discharge < (pre.length : Int)) <;> decide)
          have ht3 : (out.take pre.length).length ≤ 6 := by rw [List.length_take]; omega
          have hbN := tot_bound (f := fun m : Move => (bif isBox m then 1 else 0 : Int)) (lo := 0) (hi := 1) (l := x) (fun m _ => by cases isBox m <;> decide)
          have hbN' : 0 ≤ boxesN x ∧ boxesN x ≤ 4000 := by unfold boxesN; omega
          have hi2 : 0 ≤ st.1 ∧ st.1 ≤ 1000 := by rw [i2]; unfold totL; omega
          refine Jk ⟨by omega, by omega⟩ (wp_gidx rfl ha (hnx _ ⟨?_, ?_⟩))
          · have hta : r8.2.States.take (pre.length + 1) = r8.2.States.take pre.length ++ [after] := by
              rw [List.take_add_one, ha]; rfl
            rw [List.length_append, List.length_singleton, hta]
            unfold befSt; simp
          · have hds : tot (done ((pre.length : Int) + 1)) r8.1 = tot (done (pre.length : Int)) r8.1 + tot (comes (pre.length : Int)) r8.1 := by
              rw [← tot_add]; exact tot_congr (fun b _ => done_step _ b)
            rw [List.length_append, List.length_singleton, htake]
            show st.1 + boxesN x = _
            have e5 : ((pre.length + 1 : Nat) : Int) = (pre.length : Int) + 1 := by omega
            rw [e5, hds, i2, hsum]
            unfold totL
            rw [tot_snoc]
            omega
  · obtain ⟨_, i2⟩ := hI
    have hdone : tot (done (r10.1.length : Int)) r8.1 = 2 * (r8.1.length : Int) := by
      rw [tot_congr (g := fun _ => 2) (fun b hbm => by
        obtain ⟨_, _, q3, q4, q5⟩ := hb.each b hbm
        unfold done
        rw [decide_eq_true (by omega), decide_eq_true (by omega)]; rfl)]
      clear hbl
      generalize r8.1 = bs
      induction bs with
      | nil => rfl
      | cons b bs ih => rw [tot, ih, List.length_cons]; omega
    have htk : out.take r10.1.length = out := List.take_of_length_le (by omega)
    rw [hdone, htk] at i2
    have ht1 := tot_bound (f := fun x : List Int => (x.length : Int)) (lo := 0) (hi := 16) (l := out) h16
    have ht2 : 0 ≤ totL out ∧ totL out ≤ 96 := by unfold totL; omega
    refine Jk ⟨by omega, by omega⟩ (Jk ⟨by omega, by omega⟩ (Jk ⟨by omega, by omega⟩ ?_))
    rw [decide_eq_true (by omega)]
    simp only [cond_true, Bool.true_and]
    exact Gw hA (Gt rfl)
theorem awake30 : M_twistlocklaw30_awake 60 = some true := by kernel_rfl
theorem lawOnce (l : List Hr) (covers : Int) (items : List Hh) (n : Int) (hp : ∀ p ∈ l, PlaceOk p) (hi : ∀ x ∈ items, ItemOk x) (hn : Byte n) : M_twistlocklaw30_MovesOnce 60 l covers items n = some true := lawOnceF (Nat.le_refl 60) awake30 l covers items n hp hi hn
end Go.Proofs.YtkfhfoljfbjknaaGreat
