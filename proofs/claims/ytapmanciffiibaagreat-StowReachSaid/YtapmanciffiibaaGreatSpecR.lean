/-
  What stow.Reach returns: the boxes of the set, in order.
-/
import Derived.Test.YtapmanciffiibaaGreatXG
set_option linter.unusedVariables false
set_option linter.unusedSimpArgs false
set_option linter.unnecessarySimpa false
set_option maxRecDepth 100000
namespace Go.Proofs.YtapmanciffiibaaGreat
open Go.RowKit

theorem need_tt {β : Type} {k : Option β} : need true k = k := rfl
theorem Ha3 {κ ν β : Type} {kx : List κ → Option β} : ∀ (q : List (κ × ν)) (s : List κ), ((s.length + q.length) * 8 ≤ 140737488355328 ∧ s.length + q.length ≤ maxLen) →
    H61 (fun (x : κ × ν) (s : List κ) nx => need (decide ((s.length + [x.1].length) * 8 ≤ 140737488355328 ∧ s.length + [x.1].length ≤ maxLen)) <| nx (s ++ [x.1])) kx q s = kx (s ++ q.map (·.1))
  | [], s, _ => by simp [H61]
  | x :: q, s, h => by
    rw [List.length_cons] at h
    have hd : decide ((s.length + [x.1].length) * 8 ≤ 140737488355328 ∧ s.length + [x.1].length ≤ maxLen) = true := by
      rw [decide_eq_true_eq, List.length_singleton]; omega
    rw [H61, hd]
    simp only [need_tt]
    rw [Ha3 q (s ++ [x.1]) (by rw [List.length_append, List.length_singleton]; omega)]
    simp
theorem sortI_of_perm {a b : List Int} (h : a.Perm b) : G19 a = G19 b := by
  refine List.Perm.eq_of_pairwise (le := fun a b : Int => a ≤ b) (fun a b _ _ hab hba => by omega) (G37 a) (G37 b) ((G4c a).trans (h.trans (G4c b).symm))
/-- The boxes that have to be lifted, in order. -/
def R9 (F : Nat) (s : Gu) (boxes : List Ga) (l : List Stowed) (ids : List Int) : Option ((List Int) × Int) :=
  bnd (Jn s boxes l []) fun r4 =>
  bif (!r4) then
  (some ([], 2))
  else
  (each (fun y27 _ (_ : Unit) nx27 =>
      bnd (Qq l y27) fun r33 =>
      bif decide (r33 < 0) then
      (some ([], 6))
      else
      (nx27 ()))
    (fun (_ : Unit) =>
      bnd (Rk F ids (H8.empty : H8 Int Unit) l s) fun r36 =>
      need (decide ((H8.l r36).length * 8 ≤ 140737488355328 ∧ (H8.l r36).length ≤ maxLen)) <|
      bnd (Gb6 ((H8.l r36).map (·.1))) fun r55 =>
      some (r55, 0)) ids 0 ())
theorem H90 (F : Nat) (s : Gu) (boxes : List Ga) (l : List Stowed) (ids : List Int) (r : (List Int) × Int) : H4c r (G3d F s boxes l ids (fun r_ => r_ = r)) (R9 F s boxes l ids) := by
  unfold G3d R9
  refine G7a (fun r4 => G5c (fun _ => Gc0) (fun _ => ?_))
  refine Gf9 (fun x i u nx nx' hnx => ?_) (fun u => ?_)
  · exact G7a (fun r33 => G5c (fun _ => Gc0) (fun _ => hnx _))
  refine G7a (fun m => fun h => ?_)
  obtain ⟨hd, h⟩ := Jm h
  have hd := of_decide_eq_true hd
  refine ⟨_, rfl, fun q hq => ?_⟩
  have hl := hq.length_eq
  rw [Ha3 q [] (by simp only [List.length_nil, Nat.zero_add, hl]; exact hd), List.nil_append]
  obtain ⟨r55, e, h⟩ := Gg h
  obtain ⟨h1, h2⟩ := Hef e
  have e2 : Gb6 (q.map (·.1)) = some r55 := by
    unfold Gb6
    rw [decide_eq_true (by rw [List.length_map, hl]; rw [List.length_map] at h1; exact h1), cond_true, h2, sortI_of_perm (hq.map _)]
  rw [e2]
  exact ⟨_, rfl, Option.some.inj h⟩
def G39 := PLift.up (J13 R9 (fun F s b l i r h => H90 F s b l i r h))
end Go.Proofs.YtapmanciffiibaaGreat
