/-
  What stow.Reach returns: the boxes of the set, in order.
-/
import Derived.Test.YtpgkkengffpnpaaGreatXG
set_option linter.unusedVariables false
set_option linter.unusedSimpArgs false
set_option linter.unnecessarySimpa false
set_option maxRecDepth 100000
namespace Go.Proofs.YtpgkkengffpnpaaGreat
open Go.RowKit

theorem need_tt {β : Type} {k : Option β} : need true k = k := rfl
theorem H4c {κ ν β : Type} {kx : List κ → Option β} : ∀ (q : List (κ × ν)) (s : List κ), ((s.length + q.length) * 8 ≤ 140737488355328 ∧ s.length + q.length ≤ maxLen) →
    Ha0 (fun (x : κ × ν) (s : List κ) nx => need (decide ((s.length + [x.1].length) * 8 ≤ 140737488355328 ∧ s.length + [x.1].length ≤ maxLen)) <| nx (s ++ [x.1])) kx q s = kx (s ++ q.map (·.1))
  | [], s, _ => by simp [Ha0]
  | x :: q, s, h => by
    rw [List.length_cons] at h
    have hd : decide ((s.length + [x.1].length) * 8 ≤ 140737488355328 ∧ s.length + [x.1].length ≤ maxLen) = true := by
      rw [decide_eq_true_eq, List.length_singleton]; omega
    rw [Ha0, hd]
    simp only [need_tt]
    rw [H4c q (s ++ [x.1]) (by rw [List.length_append, List.length_singleton]; omega)]
    simp
theorem H86 {a b : List Int} (h : a.Perm b) : G2f a = G2f b := by
  refine List.Perm.eq_of_pairwise (le := fun a b : Int => a ≤ b) (fun a b _ _ hab hba => by omega) (G4a a) (G4a b) ((G6d a).trans (h.trans (G6d b).symm))
/-- The boxes that have to be lifted, in order. -/
def Ry (F : Nat) (s : Gp) (boxes : List G9) (l : List Stowed) (ids : List Int) : Option ((List Int) × Int) :=
  bnd (Qp s boxes l []) fun r4 =>
  bif (!r4) then
  (some ([], 2))
  else
  (each (fun y27 _ (_ : Unit) nx27 =>
      bnd (Rq l y27) fun r33 =>
      bif decide (r33 < 0) then
      (some ([], 6))
      else
      (nx27 ()))
    (fun (_ : Unit) =>
      bnd (Ys F ids (H8.empty : H8 Int Unit) l s) fun r36 =>
      need (decide ((H8.l r36).length * 8 ≤ 140737488355328 ∧ (H8.l r36).length ≤ maxLen)) <|
      bnd (G3b ((H8.l r36).map (·.1))) fun r55 =>
      some (r55, 0)) ids 0 ())
theorem Hfd (F : Nat) (s : Gp) (boxes : List G9) (l : List Stowed) (ids : List Int) (r : (List Int) × Int) : H8a r (G88 F s boxes l ids (fun r_ => r_ = r)) (Ry F s boxes l ids) := by
  unfold G88 Ry
  refine G30 (fun r4 => G65 (fun _ => Gdb) (fun _ => ?_))
  refine Gdc (fun x i u nx nx' hnx => ?_) (fun u => ?_)
  · exact G30 (fun r33 => G65 (fun _ => Gdb) (fun _ => hnx _))
  refine G30 (fun m => fun h => ?_)
  obtain ⟨hd, h⟩ := J7 h
  have hd := of_decide_eq_true hd
  refine ⟨_, rfl, fun q hq => ?_⟩
  have hl := hq.length_eq
  rw [H4c q [] (by simp only [List.length_nil, Nat.zero_add, hl]; exact hd), List.nil_append]
  obtain ⟨r55, e, h⟩ := Gd h
  obtain ⟨h1, h2⟩ := H9d e
  have e2 : G3b (q.map (·.1)) = some r55 := by
    unfold G3b
    rw [decide_eq_true (by rw [List.length_map, hl]; rw [List.length_map] at h1; exact h1), cond_true, h2, H86 (hq.map _)]
  rw [e2]
  exact ⟨_, rfl, Option.some.inj h⟩
def Ge5 := PLift.up (J9a Ry (fun F s b l i r h => Hfd F s b l i r h))
end Go.Proofs.YtpgkkengffpnpaaGreat
