/-
  What stow.Reach returns: the boxes of the set, in order.
-/
import Derived.Test.YtjkmmenifdklmaaGreatXG
set_option linter.unusedVariables false
set_option linter.unusedSimpArgs false
set_option maxRecDepth 100000
namespace Go.Proofs.YtjkmmenifdklmaaGreat
open Go.RowKit

theorem need_tt {β : Type} {k : Option β} : need true k = k := rfl
theorem J51 {κ ν β : Type} {kx : List κ → Option β} : ∀ (q : List (κ × ν)) (s : List κ), ((s.length + q.length) * 8 ≤ 140737488355328 ∧ s.length + q.length ≤ maxLen) →
    J0a (fun (x : κ × ν) (s : List κ) nx => need (decide ((s.length + [x.1].length) * 8 ≤ 140737488355328 ∧ s.length + [x.1].length ≤ maxLen)) <| nx (s ++ [x.1])) kx q s = kx (s ++ q.map (·.1))
  | [], s, _ => by simp [J0a]
  | x :: q, s, h => by
    rw [List.length_cons] at h
    have hd : decide ((s.length + [x.1].length) * 8 ≤ 140737488355328 ∧ s.length + [x.1].length ≤ maxLen) = true := by
      rw [decide_eq_true_eq, List.length_singleton]; omega
    rw [J0a, hd]
    simp only [need_tt]
    rw [J51 q (s ++ [x.1]) (by rw [List.length_append, List.length_singleton]; omega)]
    simp
theorem sortI_of_perm {a b : List Int} (h : a.Perm b) : G7c a = G7c b := by
  refine List.Perm.eq_of_pairwise (le := fun a b : Int => a ≤ b) (fun a b _ _ hab hba => by omega) (Ga9 a) (Ga9 b) ((Gbc a).trans (h.trans (Gbc b).symm))
/-- The boxes that have to be lifted, in order. -/
def G0f (F : Nat) (s : H4) (boxes : List Gh) (l : List Stowed) (ids : List Int) : Option ((List Int) × Int) :=
  bnd (Ze s boxes l []) fun r4 =>
  bif (!r4) then
  (some ([], 2))
  else
  (each (fun y27 _ (_ : Unit) nx27 =>
      bnd (G16 l y27) fun r33 =>
      bif decide (r33 < 0) then
      (some ([], 6))
      else
      (nx27 ()))
    (fun (_ : Unit) =>
      bnd (G01 F ids (Hw.empty : Hw Int Unit) l s) fun r36 =>
      need (decide ((Hw.l r36).length * 8 ≤ 140737488355328 ∧ (Hw.l r36).length ≤ maxLen)) <|
      bnd (H3b ((Hw.l r36).map (·.1))) fun r55 =>
      some (r55, 0)) ids 0 ())
theorem J35 (F : Nat) (s : H4) (boxes : List Gh) (l : List Stowed) (ids : List Int) (r : (List Int) × Int) : Hf4 r (Gac F s boxes l ids (fun r_ => r_ = r)) (G0f F s boxes l ids) := by
  unfold Gac G0f
  refine Geb (fun r4 => Gc8 (fun _ => H4a) (fun _ => ?_))
  refine H97 (fun x i u nx nx' hnx => ?_) (fun u => ?_)
  · exact Geb (fun r33 => Gc8 (fun _ => H4a) (fun _ => hnx _))
  refine Geb (fun m => fun h => ?_)
  obtain ⟨hd, h⟩ := J2 h
  have hd := of_decide_eq_true hd
  refine ⟨_, rfl, fun q hq => ?_⟩
  have hl := hq.length_eq
  rw [J51 q [] (by simp only [List.length_nil, Nat.zero_add, hl]; exact hd), List.nil_append]
  obtain ⟨r55, e, h⟩ := Ge h
  obtain ⟨h1, h2⟩ := J9d e
  have e2 : H3b (q.map (·.1)) = some r55 := by
    unfold H3b
    rw [decide_eq_true (by rw [List.length_map, hl]; rw [List.length_map] at h1; exact h1), cond_true, h2, sortI_of_perm (hq.map _)]
  rw [e2]
  exact ⟨_, rfl, Option.some.inj h⟩
def Gab := PLift.up (Jc0 G0f (fun F s b l i r h => J35 F s b l i r h))
end Go.Proofs.YtjkmmenifdklmaaGreat
