/-
  What stow.Reach returns: the boxes of the set, in order.
-/
import Derived.Test.YtbljcmgjmieffaaGreatXG
set_option linter.unusedVariables false
set_option linter.unusedSimpArgs false
set_option linter.unnecessarySimpa false
set_option maxRecDepth 100000
namespace Go.Proofs.YtbljcmgjmieffaaGreat
open Go.RowKit

theorem need_tt {β : Type} {k : Option β} : need true k = k := rfl
theorem Hcf {κ ν β : Type} {kx : List κ → Option β} : ∀ (q : List (κ × ν)) (s : List κ), ((s.length + q.length) * 8 ≤ 140737488355328 ∧ s.length + q.length ≤ maxLen) →
    H89 (fun (x : κ × ν) (s : List κ) nx => need (decide ((s.length + [x.1].length) * 8 ≤ 140737488355328 ∧ s.length + [x.1].length ≤ maxLen)) <| nx (s ++ [x.1])) kx q s = kx (s ++ q.map (·.1))
  | [], s, _ => by simp [H89]
  | x :: q, s, h => by
    rw [List.length_cons] at h
    have hd : decide ((s.length + [x.1].length) * 8 ≤ 140737488355328 ∧ s.length + [x.1].length ≤ maxLen) = true := by
      rw [decide_eq_true_eq, List.length_singleton]; omega
    rw [H89, hd]
    simp only [need_tt]
    rw [Hcf q (s ++ [x.1]) (by rw [List.length_append, List.length_singleton]; omega)]
    simp
theorem sortI_of_perm {a b : List Int} (h : a.Perm b) : G3e a = G3e b := by
  refine List.Perm.eq_of_pairwise (le := fun a b : Int => a ≤ b) (fun a b _ _ hab hba => by omega) (G60 a) (G60 b) ((G76 a).trans (h.trans (G76 b).symm))
/-- The boxes that have to be lifted, in order. -/
def Qs (F : Nat) (s : Gt) (boxes : List Ga) (l : List Stowed) (ids : List Int) : Option ((List Int) × Int) :=
  bnd (Qa s boxes l []) fun r4 =>
  bif (!r4) then
  (some ([], 2))
  else
  (each (fun y27 _ (_ : Unit) nx27 =>
      bnd (R8 l y27) fun r33 =>
      bif decide (r33 < 0) then
      (some ([], 6))
      else
      (nx27 ()))
    (fun (_ : Unit) =>
      bnd (Y9 F ids (Hc.empty : Hc Int Unit) l s) fun r36 =>
      need (decide ((Hc.l r36).length * 8 ≤ 140737488355328 ∧ (Hc.l r36).length ≤ maxLen)) <|
      bnd (Gdf ((Hc.l r36).map (·.1))) fun r55 =>
      some (r55, 0)) ids 0 ())
theorem Hb8 (F : Nat) (s : Gt) (boxes : List Ga) (l : List Stowed) (ids : List Int) (r : (List Int) × Int) : H74 r (G67 F s boxes l ids (fun r_ => r_ = r)) (Qs F s boxes l ids) := by
  unfold G67 Qs
  refine Ga1 (fun r4 => G83 (fun _ => Ge6) (fun _ => ?_))
  refine H24 (fun x i u nx nx' hnx => ?_) (fun u => ?_)
  · exact Ga1 (fun r33 => G83 (fun _ => Ge6) (fun _ => hnx _))
  refine Ga1 (fun m => fun h => ?_)
  obtain ⟨hd, h⟩ := Jk h
  have hd := of_decide_eq_true hd
  refine ⟨_, rfl, fun q hq => ?_⟩
  have hl := hq.length_eq
  rw [Hcf q [] (by simp only [List.length_nil, Nat.zero_add, hl]; exact hd), List.nil_append]
  obtain ⟨r55, e, h⟩ := Gf h
  obtain ⟨h1, h2⟩ := J2a e
  have e2 : Gdf (q.map (·.1)) = some r55 := by
    unfold Gdf
    rw [decide_eq_true (by rw [List.length_map, hl]; rw [List.length_map] at h1; exact h1), cond_true, h2, sortI_of_perm (hq.map _)]
  rw [e2]
  exact ⟨_, rfl, Option.some.inj h⟩
def Z0 := PLift.up (J51 Qs (fun F s b l i r h => Hb8 F s b l i r h))
end Go.Proofs.YtbljcmgjmieffaaGreat
