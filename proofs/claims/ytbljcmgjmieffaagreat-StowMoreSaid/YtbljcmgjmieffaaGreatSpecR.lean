/-
  What stow.Reach returns: the boxes of the set, in order.
-/
import Derived.Test.YtbljcmgjmieffaaGreatXG
set_option linter.unusedVariables false
set_option linter.unusedSimpArgs false
set_option linter.unnecessarySimpa false
set_option maxRecDepth 100000
namespace Go.Proofs.YtbljcmgjmieffaaGreat
open Go.RowKit

theorem need_tt {β : Type} {k : Option β} : need true k = k := rfl
theorem H91 {κ ν β : Type} {kx : List κ → Option β} : ∀ (q : List (κ × ν)) (s : List κ), ((s.length + q.length) * 8 ≤ 140737488355328 ∧ s.length + q.length ≤ maxLen) →
    H53 (fun (x : κ × ν) (s : List κ) nx => need (decide ((s.length + [x.1].length) * 8 ≤ 140737488355328 ∧ s.length + [x.1].length ≤ maxLen)) <| nx (s ++ [x.1])) kx q s = kx (s ++ q.map (·.1))
  | [], s, _ => by simp [H53]
  | x :: q, s, h => by
    rw [List.length_cons] at h
    have hd : decide ((s.length + [x.1].length) * 8 ≤ 140737488355328 ∧ s.length + [x.1].length ≤ maxLen) = true := by
      rw [decide_eq_true_eq, List.length_singleton]; omega
    rw [H53, hd]
    simp only [need_tt]
    rw [H91 q (s ++ [x.1]) (by rw [List.length_append, List.length_singleton]; omega)]
    simp
theorem sortI_of_perm {a b : List Int} (h : a.Perm b) : G0a a = G0a b := by
  refine List.Perm.eq_of_pairwise (le := fun a b : Int => a ≤ b) (fun a b _ _ hab hba => by omega) (G2f a) (G2f b) ((G3b a).trans (h.trans (G3b b).symm))
/-- The boxes that have to be lifted, in order. -/
def Q0 (F : Nat) (s : Gw) (boxes : List Gb) (l : List Stowed) (ids : List Int) : Option ((List Int) × Int) :=
  bnd (Qr s boxes l []) fun r4 =>
  bif (!r4) then
  (some ([], 2))
  else
  (each (fun y27 _ (_ : Unit) nx27 =>
      bnd (Rr l y27) fun r33 =>
      bif decide (r33 < 0) then
      (some ([], 6))
      else
      (nx27 ()))
    (fun (_ : Unit) =>
      bnd (R9 F ids (H5.empty : H5 Int Unit) l s) fun r36 =>
      need (decide ((H5.l r36).length * 8 ≤ 140737488355328 ∧ (H5.l r36).length ≤ maxLen)) <|
      bnd (Gab ((H5.l r36).map (·.1))) fun r55 =>
      some (r55, 0)) ids 0 ())
theorem H7f (F : Nat) (s : Gw) (boxes : List Gb) (l : List Stowed) (ids : List Int) (r : (List Int) × Int) : H3f r (G34 F s boxes l ids (fun r_ => r_ = r)) (Q0 F s boxes l ids) := by
  unfold G34 Q0
  refine G6b (fun r4 => G48 (fun _ => Gb5) (fun _ => ?_))
  refine Gef (fun x i u nx nx' hnx => ?_) (fun u => ?_)
  · exact G6b (fun r33 => G48 (fun _ => Gb5) (fun _ => hnx _))
  refine G6b (fun m => fun h => ?_)
  obtain ⟨hd, h⟩ := Jf h
  have hd := of_decide_eq_true hd
  refine ⟨_, rfl, fun q hq => ?_⟩
  have hl := hq.length_eq
  rw [H91 q [] (by simp only [List.length_nil, Nat.zero_add, hl]; exact hd), List.nil_append]
  obtain ⟨r55, e, h⟩ := Gf h
  obtain ⟨h1, h2⟩ := He2 e
  have e2 : Gab (q.map (·.1)) = some r55 := by
    unfold Gab
    rw [decide_eq_true (by rw [List.length_map, hl]; rw [List.length_map] at h1; exact h1), cond_true, h2, sortI_of_perm (hq.map _)]
  rw [e2]
  exact ⟨_, rfl, Option.some.inj h⟩
def Rw := PLift.up (J05 Q0 (fun F s b l i r h => H7f F s b l i r h))
end Go.Proofs.YtbljcmgjmieffaaGreat
