/-
  What stow.Reach returns: the boxes of the set, in order.
-/
import Derived.Test.YtbljcmgjmieffaaGreatXG
set_option linter.unusedVariables false
set_option linter.unusedSimpArgs false
set_option linter.unnecessarySimpa false
set_option maxRecDepth 100000
namespace Go.Proofs.YtbljcmgjmieffaaGreat
open Go.RowKit

theorem need_tt {β : Type} {k : Option β} : need true k = k := rfl
theorem He4 {κ ν β : Type} {kx : List κ → Option β} : ∀ (q : List (κ × ν)) (s : List κ), ((s.length + q.length) * 8 ≤ 140737488355328 ∧ s.length + q.length ≤ maxLen) →
    H9e (fun (x : κ × ν) (s : List κ) nx => need (decide ((s.length + [x.1].length) * 8 ≤ 140737488355328 ∧ s.length + [x.1].length ≤ maxLen)) <| nx (s ++ [x.1])) kx q s = kx (s ++ q.map (·.1))
  | [], s, _ => by simp [H9e]
  | x :: q, s, h => by
    rw [List.length_cons] at h
    have hd : decide ((s.length + [x.1].length) * 8 ≤ 140737488355328 ∧ s.length + [x.1].length ≤ maxLen) = true := by
      rw [decide_eq_true_eq, List.length_singleton]; omega
    rw [H9e, hd]
    simp only [need_tt]
    rw [He4 q (s ++ [x.1]) (by rw [List.length_append, List.length_singleton]; omega)]
    simp
theorem sortI_of_perm {a b : List Int} (h : a.Perm b) : G54 a = G54 b := by
  refine List.Perm.eq_of_pairwise (le := fun a b : Int => a ≤ b) (fun a b _ _ hab hba => by omega) (G73 a) (G73 b) ((G89 a).trans (h.trans (G89 b).symm))
/-- The boxes that have to be lifted, in order. -/
def Qn (F : Nat) (s : Gr) (boxes : List Gb) (l : List Stowed) (ids : List Int) : Option ((List Int) × Int) :=
  bnd (Jq s boxes l []) fun r4 =>
  bif (!r4) then
  (some ([], 2))
  else
  (each (fun y27 _ (_ : Unit) nx27 =>
      bnd (Ro l y27) fun r33 =>
      bif decide (r33 < 0) then
      (some ([], 6))
      else
      (nx27 ()))
    (fun (_ : Unit) =>
      bnd (Yp F ids (Hd.empty : Hd Int Unit) l s) fun r36 =>
      need (decide ((Hd.l r36).length * 8 ≤ 140737488355328 ∧ (Hd.l r36).length ≤ maxLen)) <|
      bnd (Gf3 ((Hd.l r36).map (·.1))) fun r55 =>
      some (r55, 0)) ids 0 ())
theorem Hd1 (F : Nat) (s : Gr) (boxes : List Gb) (l : List Stowed) (ids : List Int) (r : (List Int) × Int) : H8a r (G7b F s boxes l ids (fun r_ => r_ = r)) (Qn F s boxes l ids) := by
  unfold G7b Qn
  refine Gb2 (fun r4 => G95 (fun _ => Gfb) (fun _ => ?_))
  refine H39 (fun x i u nx nx' hnx => ?_) (fun u => ?_)
  · exact Gb2 (fun r33 => G95 (fun _ => Gfb) (fun _ => hnx _))
  refine Gb2 (fun m => fun h => ?_)
  obtain ⟨hd, h⟩ := Ja h
  have hd := of_decide_eq_true hd
  refine ⟨_, rfl, fun q hq => ?_⟩
  have hl := hq.length_eq
  rw [He4 q [] (by simp only [List.length_nil, Nat.zero_add, hl]; exact hd), List.nil_append]
  obtain ⟨r55, e, h⟩ := Gf h
  obtain ⟨h1, h2⟩ := J3e e
  have e2 : Gf3 (q.map (·.1)) = some r55 := by
    unfold Gf3
    rw [decide_eq_true (by rw [List.length_map, hl]; rw [List.length_map] at h1; exact h1), cond_true, h2, sortI_of_perm (hq.map _)]
  rw [e2]
  exact ⟨_, rfl, Option.some.inj h⟩
def Rw := PLift.up (J65 Qn (fun F s b l i r h => Hd1 F s b l i r h))
end Go.Proofs.YtbljcmgjmieffaaGreat
