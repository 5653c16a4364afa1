/-
  What the functions return that lend and check arguments.
-/
import Derived.Test.YtfkilljboodoaaaGreatXL
import Derived.Test.YtfkilljboodoaaaGreatWp
set_option maxRecDepth 100000
set_option linter.unusedVariables false
namespace Go.Proofs.YtfkilljboodoaaaGreat
open Go.RowKit

theorem J80 {n k : Nat} (hn : n ≤ 10000001) (hk : k ≤ 1000) : decide (n * k ≤ 140737488355328 ∧ n ≤ maxLen) = true := by
  refine decide_eq_true ⟨?_, by unfold maxLen; omega⟩
  exact Nat.le_trans (Nat.mul_le_mul hn hk) (by omega)
theorem roomM {n k : Nat} (hn : n ≤ 10000001) (hk : k ≤ 1000) : decide (k * n ≤ 281474976710656 ∧ n ≤ maxLen) = true := by
  refine decide_eq_true ⟨?_, by unfold maxLen; omega⟩
  exact Nat.le_trans (Nat.mul_le_mul hk hn) (by omega)
theorem natOfI {n : Nat} {z : Int} (h : z = (n : Int)) : G9b z = some n := by
  subst h
  unfold G9b
  rw [decide_eq_true (by omega : (0 : Int) ≤ (n : Int))]
  simp
section generic
variable {α β : Type}
theorem H0b {x : α} {k : α → Option β} : bnd (some x) k = k x := rfl
/-- The marks behind a lent slice. -/
def marks (mv : Nat → α) : List α := (List.range 12).map mv
theorem J8c {mv : Nat → α} {i : Nat} (h : i < 12) : (marks mv)[i]? = some (mv i) := by
  unfold marks
  rw [List.getElem?_map, List.getElem?_range h]; rfl
theorem J07 {mv : Nat → α} : (marks mv).length = 12 := by simp [marks]
theorem marks_take {mv : Nat → α} {i : Nat} (h : i < 12) : (marks mv).take (i + 1) = (marks mv).take i ++ [mv i] := by
  rw [List.take_add_one, J8c h]; rfl
theorem lentTail {mk : Int → Option β} {mv : Nat → β} (of : β → α) (hmk : ∀ i : Nat, i < 12 → mk (i : Int) = some (mv i)) {by_ : Nat} (hby : by_ ≤ 1000) {n : Nat} {s0 : List α} (hn : s0.length = n) (hl : n ≤ 1048576) :
    (need (decide ((12 : Int) ≤ 9223372036854775807)) <| upto (fun i (s : List α) nx => bnd (mk (i : Int)) fun r => need (decide ((s.length + [of r].length) * by_ ≤ 140737488355328 ∧ s.length + [of r].length ≤ maxLen)) <| nx (s ++ [of r])) (fun s => bnd (G10 (n : Int) s.length) fun m => some (s.take m, s.drop m)) (12 : Int).toNat 0 s0) = some (s0, (marks mv).map of) := by
  refine Ga2 (G58 rfl ?_)
  refine J5a (fun i s => s = s0 ++ ((marks mv).map of).take i) (by simp) (fun i s nx hi hI hnx => ?_) (fun s hI => ?_)
  · have hi : i < 12 := hi
    subst hI
    have hle : (s0 ++ ((marks mv).map of).take i).length ≤ n + 12 := by
      rw [List.length_append, List.length_take]; omega
    refine H9 (hmk i hi) (G58 (J80 (by rw [List.length_singleton]; omega) hby) (hnx _ ?_))
    rw [← List.map_take, ← List.map_take, marks_take hi, List.map_append, List.append_assoc]
    rfl
  · have h12 : (12 : Int).toNat = 12 := rfl
    rw [h12, List.take_of_length_le (by rw [List.length_map, J07]; omega)] at hI
    subst hI
    refine Jo (J68 (m := n) rfl (by rw [List.length_append]; omega) (H3 ?_))
    rw [← hn, List.take_left, List.drop_left]
theorem Ha1 {mk : Int → Option α} {mv : Nat → α} (hmk : ∀ i : Nat, i < 12 → mk (i : Int) = some (mv i)) {by_ : Nat} (hby : by_ ≤ 1000) {l : List α} (hl : l.length ≤ 1048576) :
    (Rm ((l.length : Int) + 12) fun v3 => bnd (G9b v3) fun m4 => need (decide (by_ * m4 ≤ 281474976710656 ∧ m4 ≤ maxLen)) <| need (decide ((([] : List α).length + l.length) * by_ ≤ 140737488355328 ∧ ([] : List α).length + l.length ≤ maxLen)) <|
      need (decide ((12 : Int) ≤ 9223372036854775807)) <| upto (fun i (s : List α) nx => bnd (mk (i : Int)) fun r => need (decide ((s.length + [r].length) * by_ ≤ 140737488355328 ∧ s.length + [r].length ≤ maxLen)) <| nx (s ++ [r])) (fun s => bnd (G10 (l.length : Int) s.length) fun m => some (s.take m, s.drop m)) (12 : Int).toNat 0 (([] : List α) ++ l)) = some (l, marks mv) := by
  refine Ga2 (Jh ⟨by omega, by omega⟩ (H9 (natOfI (n := l.length + 12) (by omega)) (G58 (roomM (by omega) hby) (G58 (J80 (by rw [List.length_nil]; omega) hby) ⟨_, lentTail (fun x => x) hmk hby (s0 := ([] : List α) ++ l) (n := l.length) (by simp) hl, ?_⟩))))
  rw [List.map_id'', List.nil_append]
  exact fun _ => rfl
theorem H71 {lx : β → Option α} {lv : β → α} {mk : Int → Option β} {mv : Nat → β} (of : β → α) (hmk : ∀ i : Nat, i < 12 → mk (i : Int) = some (mv i)) {by_ : Nat} (hby : by_ ≤ 1000) {l : List β} (hlx : ∀ x ∈ l, lx x = some (lv x)) (hl : l.length ≤ 1048576) :
    (Rm ((l.length : Int) + 12) fun v3 => bnd (G9b v3) fun m4 => need (decide (by_ * m4 ≤ 281474976710656 ∧ m4 ≤ maxLen)) <|
      each (fun y (i : Nat) (s : List α) nx => bnd (lx y) fun r => need (decide ((s.length + [r].length) * by_ ≤ 140737488355328 ∧ s.length + [r].length ≤ maxLen)) <| nx (s ++ [r]))
      (fun (s0 : List α) => need (decide ((12 : Int) ≤ 9223372036854775807)) <| upto (fun i (s : List α) nx => bnd (mk (i : Int)) fun r => need (decide ((s.length + [of r].length) * by_ ≤ 140737488355328 ∧ s.length + [of r].length ≤ maxLen)) <| nx (s ++ [of r])) (fun s => bnd (G10 (l.length : Int) s.length) fun m => some (s.take m, s.drop m)) (12 : Int).toNat 0 s0) l 0 []) = some (l.map lv, (marks mv).map of) := by
  refine Ga2 (Jh ⟨by omega, by omega⟩ (H9 (natOfI (n := l.length + 12) (by omega)) (G58 (roomM (by omega) hby) ?_)))
  refine Rn (fun pre s => s = pre.map lv) rfl (fun pre y post s nx e hI hnx => ?_) (fun s hI => ?_)
  · subst hI
    have hp : pre.length < l.length := by rw [e]; simp
    refine H9 (hlx y (by rw [e]; simp)) (G58 (J80 (by rw [List.length_singleton, List.length_map]; omega) hby) (hnx _ ?_))
    rw [List.map_append]; rfl
  · subst hI
    exact ⟨_, lentTail of hmk hby (by simp) hl, rfl⟩
/-- Each element is what it was: the checks pass. -/
theorem keptGen [Inhabited α] [Inhabited β] {mk : Int → Option β} {mv : Nat → β} (hmk : ∀ i : Nat, i < 12 → mk (i : Int) = some (mv i)) {l : List β} (hl : l.length ≤ 1048576) {xs : List α} {ys : List α} (hx : xs.length = l.length) (hy : ys.length = 12)
    {body : α → Nat → Unit → (Unit → Option Bool) → Option Bool}
    (h1 : ∀ (i : Nat) y z nx, i < l.length → xs[i]? = some y → l[i]? = some z → body y i () nx = nx ())
    (h2 : ∀ (i : Nat) y nx, i < 12 → ys[i]? = some y → body y (l.length + i) () nx = nx ()) :
    (bif decide ((((xs, ys) : Ln α).1.length : Int) ≠ (l.length : Int)) then some false else (Rm ((l.length : Int) + 12) fun v6 => bnd (G10 v6 (((xs, ys) : Ln α).1 ++ ((xs, ys) : Ln α).2).length) fun m7 => each body (fun (_ : Unit) => some true) ((((xs, ys) : Ln α).1 ++ ((xs, ys) : Ln α).2).take m7) 0 ())) = some true := by
  have hd : decide ((((xs, ys) : Ln α).1.length : Int) ≠ (l.length : Int)) = false := decide_eq_false (by simp only [ne_eq, Decidable.not_not]; omega)
  rw [hd, cond_false]
  refine Ga2 (Jh ⟨by omega, by omega⟩ (Jo (J68 (m := l.length + 12) (by omega) (by simp only [List.length_append]; omega) ?_)))
  have ht : (((xs, ys) : Ln α).1 ++ ((xs, ys) : Ln α).2).take (l.length + 12) = xs ++ ys := List.take_of_length_le (by simp only [List.length_append]; omega)
  rw [ht]
  refine Rn (fun _ _ => True) trivial (fun pre y post s nx e _ hnx => ?_) (fun s _ => H3 rfl)
  have hg : (xs ++ ys)[pre.length]? = some y := by rw [e]; simp
  rcases Nat.lt_or_ge pre.length l.length with h | h
  · rw [List.getElem?_append_left (by omega)] at hg
    rw [h1 pre.length y _ nx h hg (List.getElem?_eq_getElem h)]
    exact hnx _ trivial
  · rw [List.getElem?_append_right (by omega)] at hg
    have hp : pre.length < l.length + 12 := by
      have := congrArg List.length e
      simp only [List.length_append, List.length_cons] at this
      omega
    have := h2 (pre.length - l.length) y nx (by omega) (by rw [← hx]; exact hg)
    rw [show l.length + (pre.length - l.length) = pre.length by omega] at this
    rw [this]
    exact hnx _ trivial
theorem Ha2 [DecidableEq α] [Inhabited α] {mk : Int → Option α} {mv : Nat → α} (hmk : ∀ i : Nat, i < 12 → mk (i : Int) = some (mv i)) {l : List α} (hl : l.length ≤ 1048576) :
    (bif decide ((((l, marks mv) : Ln α).1.length : Int) ≠ (l.length : Int)) then some false else (Rm ((l.length : Int) + 12) fun v6 => bnd (G10 v6 (((l, marks mv) : Ln α).1 ++ ((l, marks mv) : Ln α).2).length) fun m7 =>
      each (fun y29 i29 (s29 : Unit) nx29 =>
        bnd (bif decide ((i29 : Int) < (l.length : Int)) then Qe l (i29 : Int) some else some default) fun y34 =>
        bnd (bif ((!((decide ((i29 : Int) < (l.length : Int))) && (!(decide (y29 = y34))))) && (decide ((l.length : Int) ≤ (i29 : Int)))) then Rm ((i29 : Int) - (l.length : Int)) some else some 0) fun v35 =>
        bnd (bif ((!((decide ((i29 : Int) < (l.length : Int))) && (!(decide (y29 = y34))))) && (decide ((l.length : Int) ≤ (i29 : Int)))) then mk v35 else some default) fun r36 =>
        bif (((decide ((i29 : Int) < (l.length : Int))) && (!(decide (y29 = y34)))) || ((decide ((l.length : Int) ≤ (i29 : Int))) && (!(decide (y29 = r36))))) then (some false) else (nx29 ()))
      (fun (_ : Unit) => some true) ((((l, marks mv) : Ln α).1 ++ ((l, marks mv) : Ln α).2).take m7) 0 ())) = some true := by
  refine keptGen hmk hl rfl J07 (fun i y z nx hi hy hz => ?_) (fun i y nx hi hy => ?_)
  · rw [hy] at hz
    cases hz
    have hg : Qe l (i : Int) some = some y := by
      unfold Qe
      rw [decide_eq_true (by omega : (0 : Int) ≤ (i : Int)), cond_true, show (i : Int).toNat = i by omega, hy]; rfl
    rw [decide_eq_true (by omega : (i : Int) < (l.length : Int)), cond_true, hg]
    simp only [bnd, decide_true, Bool.not_true, Bool.and_false, Bool.not_false, Bool.true_and, Bool.false_or]
    rw [decide_eq_false (by omega : ¬ (l.length : Int) ≤ (i : Int))]
    rfl
  · rw [J8c hi] at hy
    cases hy
    have hc : ((l.length + i : Nat) : Int) - (l.length : Int) = (i : Int) := by omega
    rw [decide_eq_false (by omega : ¬ ((l.length + i : Nat) : Int) < (l.length : Int)), cond_false, hc, decide_eq_true (by omega : (l.length : Int) ≤ ((l.length + i : Nat) : Int))]
    have hk : Rm (i : Int) some = some (i : Int) := Ga2 (Jh ⟨by omega, by omega⟩ (H3 rfl))
    simp only [bnd, Bool.false_and, Bool.not_false, Bool.and_self, cond_true, hk, hmk i hi, decide_true, Bool.not_true, Bool.and_false, Bool.or_self, cond_false]
theorem H72 [Inhabited α] [Inhabited β] {mk : Int → Option β} {mv : Nat → β} (hmk : ∀ i : Nat, i < 12 → mk (i : Int) = some (mv i)) {lv of : β → α} {pl : α → β} {keep : α → β → Option Bool} {same : β → β → Option Bool} {l : List β} (hl : l.length ≤ 1048576)
    (hkeep : ∀ x ∈ l, keep (lv x) x = some true) (hsame : ∀ i : Nat, i < 12 → same (pl (of (mv i))) (mv i) = some true) :
    (bif decide ((((l.map lv, (marks mv).map of) : Ln α).1.length : Int) ≠ (l.length : Int)) then some false else (Rm ((l.length : Int) + 12) fun v6 => bnd (G10 v6 (((l.map lv, (marks mv).map of) : Ln α).1 ++ ((l.map lv, (marks mv).map of) : Ln α).2).length) fun m7 =>
      each (fun y33 i33 (s33 : Unit) nx33 =>
        bnd (bif decide ((i33 : Int) < (l.length : Int)) then Qe l (i33 : Int) some else some default) fun y38 =>
        bnd (bif decide ((i33 : Int) < (l.length : Int)) then keep y33 y38 else some default) fun r39 =>
        bnd (bif ((!((decide ((i33 : Int) < (l.length : Int))) && (!r39))) && (decide ((l.length : Int) ≤ (i33 : Int)))) then Rm ((i33 : Int) - (l.length : Int)) some else some 0) fun v40 =>
        bnd (bif ((!((decide ((i33 : Int) < (l.length : Int))) && (!r39))) && (decide ((l.length : Int) ≤ (i33 : Int)))) then mk v40 else some default) fun r41 =>
        bnd (bif ((!((decide ((i33 : Int) < (l.length : Int))) && (!r39))) && (decide ((l.length : Int) ≤ (i33 : Int)))) then same (pl y33) r41 else some default) fun r42 =>
        bif (((decide ((i33 : Int) < (l.length : Int))) && (!r39)) || ((decide ((l.length : Int) ≤ (i33 : Int))) && (!r42))) then (some false) else (nx33 ()))
      (fun (_ : Unit) => some true) ((((l.map lv, (marks mv).map of) : Ln α).1 ++ ((l.map lv, (marks mv).map of) : Ln α).2).take m7) 0 ())) = some true := by
  refine keptGen hmk hl (by simp) (by simp [J07]) (fun i y z nx hi hy hz => ?_) (fun i y nx hi hy => ?_)
  · rw [List.getElem?_map, hz] at hy
    cases hy
    have hg : Qe l (i : Int) some = some z := by
      unfold Qe
      rw [decide_eq_true (by omega : (0 : Int) ≤ (i : Int)), cond_true, show (i : Int).toNat = i by omega, hz]; rfl
    rw [decide_eq_true (by omega : (i : Int) < (l.length : Int)), cond_true, hg]
    simp only [bnd, cond_true, hkeep z (List.mem_of_getElem? hz), Bool.not_true, Bool.and_false, Bool.not_false, Bool.true_and, Bool.false_or]
    rw [decide_eq_false (by omega : ¬ (l.length : Int) ≤ (i : Int))]
    rfl
  · rw [List.getElem?_map, J8c hi] at hy
    cases hy
    have hc : ((l.length + i : Nat) : Int) - (l.length : Int) = (i : Int) := by omega
    rw [decide_eq_false (by omega : ¬ ((l.length + i : Nat) : Int) < (l.length : Int)), cond_false, hc, decide_eq_true (by omega : (l.length : Int) ≤ ((l.length + i : Nat) : Int))]
    have hk : Rm (i : Int) some = some (i : Int) := Ga2 (Jh ⟨by omega, by omega⟩ (H3 rfl))
    simp only [bnd, cond_false, Bool.false_and, Bool.not_false, Bool.and_self, cond_true, hk, hmk i hi, hsame i hi, Bool.not_true, Bool.and_false, Bool.or_self]
/-- A list is the same as itself. -/
theorem H66 {l : List α} {body : α → Nat → Unit → (Unit → Option Bool) → Option Bool} (h : ∀ (i : Nat) y nx, l[i]? = some y → body y i () nx = nx ()) :
    (bif decide ((l.length : Int) ≠ (l.length : Int)) then some false else each body (fun (_ : Unit) => some true) l 0 ()) = some true := by
  rw [decide_eq_false (by simp), cond_false]
  refine Ga2 (Rn (fun _ _ => True) trivial (fun pre y post s nx e _ hnx => ?_) (fun s _ => H3 rfl))
  rw [h pre.length y nx (by rw [e]; simp)]
  exact hnx _ trivial
theorem G3d {γ : Type} {l : List α} {i : Nat} {y : α} (h : l[i]? = some y) (k : α → Option γ) : Qe l (i : Int) k = k y := by
  unfold Qe
  rw [decide_eq_true (by omega : (0 : Int) ≤ (i : Int)), cond_true, show (i : Int).toNat = i by omega, h]; rfl
end generic

/-- The marks' numbers. -/
def mkN (i : Nat) : Int := 8000024 + (i : Int)
theorem mark_eq (i : Nat) (h : i < 12) : Jf 1 (i : Int) = some (mkN i) := by
  refine Ga2 ?_
  unfold Jf mkN
  exact Jh ⟨by decide, by decide⟩ (Jh ⟨by decide, by decide⟩ (Jh ⟨by omega, by omega⟩ (H3 (by omega))))
theorem H41 (a : List Int) : R5 a a = some true := by
  unfold R5
  exact H66 (fun i y nx h => by rw [G3d h]; simp)
theorem SameRows_self (a : List Row) : Yz a a = some true := by
  unfold Yz
  exact H66 (fun i y nx h => by rw [G3d h]; simp)
theorem J53 (a : List Frame) : Yc a a = some true := by
  unfold Yc
  exact H66 (fun i y nx h => by rw [G3d h]; simp)
theorem J52 (a : List G6) : Qm a a = some true := by
  unfold Qm
  exact H66 (fun i y nx h => by rw [G3d h]; simp)
abbrev J06 := mkN
theorem mkInts (i : Nat) (h : i < 12) : Jf 1 (i : Int) = some (J06 i) := mark_eq i h
theorem Hac {l : List Int} (hl : l.length ≤ 1048576) : R6 l = some (l, marks J06) := by
  unfold R6
  exact Ha1 mkInts (by omega) hl
theorem Had {l : List Int} (hl : l.length ≤ 1048576) : Ja (l, marks J06) l = some true := by
  unfold Ja
  exact Ha2 mkInts hl
def J05 (i : Nat) : Row := (Rj 1 (i : Int)).getD default
theorem mkRows (i : Nat) (h : i < 12) : Rj 1 (i : Int) = some (J05 i) := by
  unfold J05 Rj
  rw [mark_eq i h]; rfl
theorem LentRows_eq {l : List Row} (hl : l.length ≤ 1048576) : Z2 l = some (l, marks J05) := by
  unfold Z2
  exact Ha1 mkRows (by omega) hl
theorem KeptRows_eq {l : List Row} (hl : l.length ≤ 1048576) : Y4 (l, marks J05) l = some true := by
  unfold Y4
  exact Ha2 mkRows hl
def H4d (i : Nat) : Frame := (Qu 1 (i : Int)).getD default
theorem mkFrames (i : Nat) (h : i < 12) : Qu 1 (i : Int) = some (H4d i) := by
  unfold H4d Qu
  rw [mark_eq i h]; rfl
theorem LentFrames_eq {l : List Frame} (hl : l.length ≤ 1048576) : Yf l = some (l, marks H4d) := by
  unfold Yf
  exact Ha1 mkFrames (by omega) hl
theorem KeptFrames_eq {l : List Frame} (hl : l.length ≤ 1048576) : Re (l, marks H4d) l = some true := by
  unfold Re
  exact Ha2 mkFrames hl
def J60 (i : Nat) : H4 := (Rk 1 (i : Int)).getD default
theorem mkBoxes (i : Nat) (h : i < 12) : Rk 1 (i : Int) = some (J60 i) := by
  unfold J60 Rk
  rw [mark_eq i h]; rfl
theorem LentBoxes_eq {l : List H4} (hl : l.length ≤ 1048576) : Yr l = some (l, marks J60) := by
  unfold Yr
  exact Ha1 mkBoxes (by omega) hl
theorem KeptBoxes_eq {l : List H4} (hl : l.length ≤ 1048576) : Ys (l, marks J60) l = some true := by
  unfold Ys
  exact Ha2 mkBoxes hl
def Gcb (i : Nat) : G6 := (Qc 1 (i : Int)).getD default
theorem J89 (i : Nat) (h : i < 12) : Qc 1 (i : Int) = some (Gcb i) := by
  unfold Gcb Qc
  rw [mark_eq i h]; rfl
theorem LentGroups_eq {l : List G6} (hl : l.length ≤ 1048576) : Ye l = some (l, marks Gcb) := by
  unfold Ye
  exact Ha1 J89 (by omega) hl
theorem KeptGroups_eq {l : List G6} (hl : l.length ≤ 1048576) : Rc (l, marks Gcb) l = some true := by
  unfold Rc
  exact Ha2 J89 hl
def Gbf (i : Nat) : Ga := (Qk 1 (i : Int)).getD default
theorem mkColumns (i : Nat) (h : i < 12) : Qk 1 (i : Int) = some (Gbf i) := by
  unfold Gbf Qk
  rw [mark_eq i h]; rfl
def G50 (x : Ga) : Gu := { Gu.of x with Plugs := (x.Plugs, marks J06) }
theorem LentColumn_eq {x : Ga} (h : x.Plugs.length ≤ 1048576) : Yh x = some (G50 x) := by
  unfold Yh
  rw [Hac h]; rfl
theorem Gd9 (a : Ga) : Jg a a = some true := by
  unfold Jg
  simp [H41, bnd]
theorem KeptColumn_eq {x : Ga} (h : x.Plugs.length ≤ 1048576) : Rg (G50 x) x = some true := by
  have e1 : Jg (Gu.pl (G50 x)) x = some true := Gd9 x
  have e2 : Ja (G50 x).Plugs x.Plugs = some true := Had h
  unfold Rg
  show bnd (Jg (Gu.pl (G50 x)) x) (fun r3 => bnd (bif r3 then Ja (G50 x).Plugs x.Plugs else some default) fun r4 => some (r3 && r4)) = some true
  rw [e1, H0b, cond_true, e2, H0b]; rfl
theorem Ja2 {l : List Ga} (hl : l.length ≤ 1048576) (h : ∀ x ∈ l, x.Plugs.length ≤ 1048576) : Y8 l = some (l.map G50, (marks Gbf).map Gu.of) := by
  unfold Y8
  exact H71 Gu.of mkColumns (by omega) (fun x hx => LentColumn_eq (h x hx)) hl
theorem J12 (a : List Ga) : Y7 a a = some true := by
  unfold Y7
  exact H66 (fun i y nx h => by rw [G3d h, Gd9]; rfl)
theorem Ja3 {l : List Ga} (hl : l.length ≤ 1048576) (h : ∀ x ∈ l, x.Plugs.length ≤ 1048576) : R7 (l.map G50, (marks Gbf).map Gu.of) l = some true := by
  unfold R7
  exact H72 (keep := Rg) (same := Jg) (pl := Gu.pl) mkColumns hl (fun x hx => KeptColumn_eq (h x hx)) (fun i hi => Gd9 (Gbf i))
theorem plColumns (l : List Ga) : (l.map G50).map Gu.pl = l := by
  rw [List.map_map]
  exact (List.map_congr_left (fun x _ => rfl)).trans (List.map_id l)
def H05 (i : Nat) : Gm := (Qv 1 (i : Int)).getD default
theorem mkCovers (i : Nat) (h : i < 12) : Qv 1 (i : Int) = some (H05 i) := by
  unfold H05 Qv
  rw [mark_eq i h]; rfl
def G8e (x : Gm) : H5 := { H5.of x with Rows := (x.Rows, marks J06) }
theorem LentCover_eq {x : Gm} (h : x.Rows.length ≤ 1048576) : Yq x = some (G8e x) := by
  unfold Yq
  rw [Hac h]; rfl
theorem H0e (a : Gm) : Jk a a = some true := by
  unfold Jk
  simp [H41, bnd]
theorem KeptCover_eq {x : Gm} (h : x.Rows.length ≤ 1048576) : Rr (G8e x) x = some true := by
  have e1 : Jk (H5.pl (G8e x)) x = some true := H0e x
  have e2 : Ja (G8e x).Rows x.Rows = some true := Had h
  unfold Rr
  show bnd (Jk (H5.pl (G8e x)) x) (fun r3 => bnd (bif r3 then Ja (G8e x).Rows x.Rows else some default) fun r4 => some (r3 && r4)) = some true
  rw [e1, H0b, cond_true, e2, H0b]; rfl
theorem LentCovers_eq {l : List Gm} (hl : l.length ≤ 1048576) (h : ∀ x ∈ l, x.Rows.length ≤ 1048576) : Yg l = some (l.map G8e, (marks H05).map H5.of) := by
  unfold Yg
  exact H71 H5.of mkCovers (by omega) (fun x hx => LentCover_eq (h x hx)) hl
theorem J54 (a : List Gm) : Yd a a = some true := by
  unfold Yd
  exact H66 (fun i y nx h => by rw [G3d h, H0e]; rfl)
theorem KeptCovers_eq {l : List Gm} (hl : l.length ≤ 1048576) (h : ∀ x ∈ l, x.Rows.length ≤ 1048576) : Rf (l.map G8e, (marks H05).map H5.of) l = some true := by
  unfold Rf
  exact H72 (keep := Rr) (same := Jk) (pl := H5.pl) mkCovers hl (fun x hx => KeptCover_eq (h x hx)) (fun i hi => H0e (H05 i))
theorem plCovers (l : List Gm) : (l.map G8e).map H5.pl = l := by
  rw [List.map_map]
  exact (List.map_congr_left (fun x _ => rfl)).trans (List.map_id l)
def H6b (i : Nat) : Gw := (R4 1 (i : Int)).getD default
theorem mkTanks (i : Nat) (h : i < 12) : R4 1 (i : Int) = some (H6b i) := by
  unfold H6b R4
  rw [mark_eq i h]; rfl
def Gd6 (x : Gw) : Hd := { Hd.of x with Steps := (x.Steps, marks J06) }
theorem LentTank_eq {x : Gw} (h : x.Steps.length ≤ 1048576) : Z0 x = some (Gd6 x) := by
  unfold Z0
  rw [Hac h]; rfl
theorem H40 (a : Gw) : Jr a a = some true := by
  unfold Jr
  simp [H41, bnd]
theorem KeptTank_eq {x : Gw} (h : x.Steps.length ≤ 1048576) : Y3 (Gd6 x) x = some true := by
  have e1 : Jr (Hd.pl (Gd6 x)) x = some true := H40 x
  have e2 : Ja (Gd6 x).Steps x.Steps = some true := Had h
  unfold Y3
  show bnd (Jr (Hd.pl (Gd6 x)) x) (fun r3 => bnd (bif r3 then Ja (Gd6 x).Steps x.Steps else some default) fun r4 => some (r3 && r4)) = some true
  rw [e1, H0b, cond_true, e2, H0b]; rfl
theorem LentTanks_eq {l : List Gw} (hl : l.length ≤ 1048576) (h : ∀ x ∈ l, x.Steps.length ≤ 1048576) : Yp l = some (l.map Gd6, (marks H6b).map Hd.of) := by
  unfold Yp
  exact H71 Hd.of mkTanks (by omega) (fun x hx => LentTank_eq (h x hx)) hl
theorem J9b (a : List Gw) : Yo a a = some true := by
  unfold Yo
  exact H66 (fun i y nx h => by rw [G3d h, H40]; rfl)
theorem KeptTanks_eq {l : List Gw} (hl : l.length ≤ 1048576) (h : ∀ x ∈ l, x.Steps.length ≤ 1048576) : Rq (l.map Gd6, (marks H6b).map Hd.of) l = some true := by
  unfold Rq
  exact H72 (keep := Y3) (same := Jr) (pl := Hd.pl) mkTanks hl (fun x hx => KeptTank_eq (h x hx)) (fun i hi => H40 (H6b i))
theorem plTanks (l : List Gw) : (l.map Gd6).map Hd.pl = l := by
  rw [List.map_map]
  exact (List.map_congr_left (fun x _ => rfl)).trans (List.map_id l)
def H6c (i : Nat) : List G6 := (Qj 1 (i : Int)).getD default
theorem J8a (i : Nat) (h : i < 12) : Qj 1 (i : Int) = some (H6c i) := by
  unfold H6c Qj
  rw [J89 i h]; rfl
def H70 (l : List (List G6)) : Ln (Ln G6) := (l.map (fun x => (x, marks Gcb)), (marks H6c).map (fun e => (e, ([] : List G6))))
theorem J57 {l : List (List G6)} (hl : l.length ≤ 1048576) (h : ∀ x ∈ l, x.length ≤ 1048576) : Rz l = some (H70 l) := by
  unfold Rz
  exact H71 (fun e => (e, ([] : List G6))) J8a (by omega) (fun x hx => LentGroups_eq (h x hx)) hl
theorem J58 {l : List (List G6)} (hl : l.length ≤ 1048576) (h : ∀ x ∈ l, x.length ≤ 1048576) : Y0 (H70 l) l = some true := by
  unfold Y0
  exact H72 (keep := Rc) (same := Qm) (pl := Prod.fst) J8a hl (fun x hx => KeptGroups_eq (h x hx)) (fun i hi => J52 (H6c i))
theorem plFamilies (l : List (List G6)) : (H70 l).1.map Prod.fst = l := by
  show (l.map (fun x => (x, marks Gcb))).map Prod.fst = l
  rw [List.map_map]
  exact (List.map_congr_left (fun x _ => rfl)).trans (List.map_id l)
/-- No list of a ship is longer than it may be. -/
structure H51 (s : J0) : Prop where
  cols : s.Columns.length ≤ 1048576
  plugs : ∀ c ∈ s.Columns, c.Plugs.length ≤ 1048576
  covs : s.Covers.length ≤ 1048576
  crows : ∀ x ∈ s.Covers, x.Rows.length ≤ 1048576
  rows : s.Rows.length ≤ 1048576
  frames : s.Frames.length ≤ 1048576
  tanks : s.Tanks.length ≤ 1048576
  steps : ∀ x ∈ s.Tanks, x.Steps.length ≤ 1048576
def H6f (s : J0) : Ry := ⟨(s.Columns.map G50, (marks Gbf).map Gu.of), (s.Covers.map G8e, (marks H05).map H5.of), s.Light, (s.Rows, marks J05), (s.Frames, marks H4d), (s.Tanks.map Gd6, (marks H6b).map Hd.of), s.G7⟩
theorem LentShip_eq {s : J0} (h : H51 s) : Z1 s = some (H6f s) := by
  unfold Z1
  rw [Ja2 h.cols h.plugs, LentCovers_eq h.covs h.crows, LentRows_eq h.rows, LentFrames_eq h.frames, LentTanks_eq h.tanks h.steps]
  rfl
theorem plShip (s : J0) : J0.mk ((H6f s).Columns.1.map Gu.pl) ((H6f s).Covers.1.map H5.pl) (H6f s).Light (H6f s).Rows.1 (H6f s).Frames.1 ((H6f s).Tanks.1.map Hd.pl) (H6f s).G7 = s := by
  show J0.mk ((s.Columns.map G50).map Gu.pl) ((s.Covers.map G8e).map H5.pl) s.Light s.Rows s.Frames ((s.Tanks.map Gd6).map Hd.pl) s.G7 = s
  rw [plColumns, plCovers, plTanks]
theorem SameShip_self (s : J0) : Yy s s = some true := by
  unfold Yy
  simp [J12, J54, SameRows_self, J53, J9b, bnd]
theorem KeptShip_eq {s : J0} (h : H51 s) : Z3 (H6f s) s = some true := by
  have e1 := Ja3 h.cols h.plugs
  have e2 := KeptCovers_eq h.covs h.crows
  have e3 := KeptRows_eq h.rows
  have e4 := KeptFrames_eq h.frames
  have e5 := KeptTanks_eq h.tanks h.steps
  unfold Z3
  rw [plShip, SameShip_self, H0b, cond_true]
  show bnd (R7 (s.Columns.map G50, (marks Gbf).map Gu.of) s.Columns) _ = _
  rw [e1, H0b, Bool.and_self, cond_true]
  show bnd (Rf (s.Covers.map G8e, (marks H05).map H5.of) s.Covers) _ = _
  rw [e2, H0b, Bool.and_self, cond_true]
  show bnd (Y4 (s.Rows, marks J05) s.Rows) _ = _
  rw [e3, H0b, Bool.and_self, cond_true]
  show bnd (Re (s.Frames, marks H4d) s.Frames) _ = _
  rw [e4, H0b, Bool.and_self, cond_true]
  show bnd (Rq (s.Tanks.map Gd6, (marks H6b).map Hd.of) s.Tanks) _ = _
  rw [e5, H0b]
  rfl
end Go.Proofs.YtfkilljboodoaaaGreat
