/-
 StowWrong: a state that begins with the first box; what is told of states that are wrong. StowBack: the law.
-/
import Derived.Test.YtbljcmgjmieffaaGreatPutO
set_option linter.unusedSimpArgs false
set_option linter.unnecessarySimpa false
set_option maxRecDepth 100000
set_option linter.unusedVariables false
namespace Go.Proofs.YtbljcmgjmieffaaGreat
open Go.RowKit

theorem Hc9 {s : Gr} (h : H70 s) : ∀ c ∈ s.Columns, 2 ≤ c.Tiers ∧ (c.Height = 0 ∨ c.Height = 8000) := fun c hc => by
  obtain ⟨c0, z, hc0, hz, rfl⟩ := h.each c hc
  exact ⟨hc0.tiers.1, hz⟩
theorem halves40 : G78 40 = [0] := rfl
theorem slots_first {s : Gr} (h : H70 s) : Wp (G0a s 40) (fun r => (⟨0, 0, 0⟩ : Slot) ∈ r) := by
  unfold G0a
  refine Q6 (fun pre r => 1 ≤ pre.length → (⟨0, 0, 0⟩ : Slot) ∈ r) (fun h => by simp at h) (fun pre c post r nx e hI hnx => ?_) (fun r hI => Gk ?_)
  · have hc : c ∈ s.Columns := by rw [e]; simp
    obtain ⟨ht, _⟩ := Hc9 h c hc
    have ht2 := (Yu h).tiers c hc
    refine Q5 (decide_eq_true (by omega)) ?_
    have htn : 2 ≤ (max c.Tiers 0).toNat := by omega
    refine J05 (fun i r' => (∀ x ∈ r, x ∈ r') ∧ (pre = [] → 1 ≤ i → (⟨0, 0, 0⟩ : Slot) ∈ r')) ⟨fun x hx => hx, fun _ h => by omega⟩ (fun i r' nx2 hi hI2 hnx2 => ?_) (fun r' hI2 => hnx _ fun _ => ?_)
    · refine Gz (H36 40) ?_
      rw [halves40]
      refine hnx2 _ ⟨fun x hx => List.mem_append.2 (.inl (hI2.1 x hx)), fun hp _ => ?_⟩
      by_cases h0 : i = 0
      · subst h0; subst hp
        exact List.mem_append.2 (.inr (by simp))
      · exact List.mem_append.2 (.inl (hI2.2 hp (by omega)))
    · by_cases hp : pre = []
      · exact hI2.2 hp (by omega)
      · exact hI2.1 _ (hI (List.length_pos_iff.2 hp))
  · exact hI h.some
theorem all_first {s : Gr} (h : H70 s) : Wp (G37 s 40) (fun r => (⟨0, 0, 0⟩ : Slot) ∈ r ∧ r.length ≤ 200 * s.Columns.length) := by
  obtain ⟨r, hr, h1⟩ := J41 (Yu h) 40
  obtain ⟨ys, hy, h2⟩ := slots_first h
  have he : r = ys := by
    have hsp := J3f (Yu h) 40
    obtain ⟨ys', hy', h3⟩ := hsp
    rw [hy] at hy'; cases hy'
    have : Wp (G37 s 40) (fun r => r = ys) := by
      unfold G37
      refine Gz (show G7e s 40 = some () from rfl) (Gz hy ?_)
      have hc := (Yu h).cols
      refine Q6 (fun pre r => r = pre) rfl (fun pre y post r nx e hI hnx => ?_) (fun r hI => Gk hI)
      subst hI
      have hl : r.length < ys.length := by rw [e]; simp
      exact Q5 (Ye (by rw [List.length_singleton]; have := h3.1; omega) (by omega)) (hnx _ rfl)
    obtain ⟨r', hr', e'⟩ := this
    rw [hr] at hr'; cases hr'
    exact e'
  exact ⟨r, hr, he ▸ h2, h1.1⟩
theorem first_right {s : Gr} (h : H70 s) {b : Gb} (h5 : b.ID = 5) (hz : b.Size = 40) : Rh s [b] [Stowed.mk 5 ⟨0, 0, 0⟩] := by
  have hsome := h.some
  have hg : s.Columns[0]? = some s.Columns[0] := List.getElem?_eq_getElem (by omega)
  have ht := (Hc9 h _ (List.getElem_mem (by omega : 0 < s.Columns.length))).1
  refine ⟨fun x hx => ?_, List.pairwise_singleton .., List.pairwise_singleton .., fun m c hc => ?_⟩
  · rw [List.mem_singleton] at hx; subst hx
    refine ⟨b, by unfold Qe; rw [List.find?_singleton, h5]; rfl, ⟨⟨0, s.Columns[0], rfl, hg, by show (0 : Int) < _; omega⟩, Int.le_refl _, by rw [hz]; decide⟩, .inl (Int.le_refl _)⟩
  · have hh := (Hc9 h c (List.mem_of_getElem? hc)).2
    unfold H50 G77
    simp only [List.foldl_cons, List.foldl_nil]
    have a1 := (Hac (boxes := [b]) (column := (m : Int)) (half := 1) (n := 0) (x := Stowed.mk 5 ⟨0, 0, 0⟩)).2
    have a2 := (Hac (boxes := [b]) (column := (m : Int)) (half := 2) (n := 0) (x := Stowed.mk 5 ⟨0, 0, 0⟩)).2
    rcases hh with e | e
    · exact .inl (by omega)
    · exact .inr ⟨by omega, by omega⟩
theorem loaded_first {s : Gr} {l : List Ga} (hL : H70 s) (hl : ∀ d ∈ l, G8d d) :
    Wp (Hz s ([Ga.mk 0 0 false false] ++ l) 9) (fun r => ∃ x t, r.2 = Stowed.mk 5 x :: t) := by
  have hs := Yu hL
  have hcols := hs.cols
  unfold Hz
  have hlen0 : ([Ga.mk 0 0 false false] ++ l).length = l.length + 1 := by simp
  refine H4 (G71 (m := min (l.length + 1) 9) (by rw [hlen0]; omega) (by rw [hlen0]; omega) ?_)
  have hne : 1 ≤ (([Ga.mk 0 0 false false] ++ l).take (min (l.length + 1) 9)).length := by rw [List.length_take, hlen0]; omega
  have hlen : (([Ga.mk 0 0 false false] ++ l).take (min (l.length + 1) 9)).length ≤ 9 := by rw [List.length_take]; omega
  have hd : ∀ d ∈ ([Ga.mk 0 0 false false] ++ l).take (min (l.length + 1) 9), G8d d := fun d hd => by
    rcases List.mem_append.1 (List.mem_of_mem_take hd) with h | h
    · rw [List.mem_singleton] at h; subst h
      exact ⟨⟨Int.le_refl _, by decide⟩, ⟨Int.le_refl _, by decide⟩⟩
    · exact hl d h
  have hhead : (([Ga.mk 0 0 false false] ++ l).take (min (l.length + 1) 9))[0]? = some (Ga.mk 0 0 false false) := by
    rw [List.getElem?_take, if_pos (by omega)]; rfl
  generalize ([Ga.mk 0 0 false false] ++ l).take (min (l.length + 1) 9) = ds at hne hlen hd hhead
  refine Q6 (fun pre st => st.1.length = pre.length ∧ st.2.length ≤ pre.length ∧ (pre = [] → st = ([], [])) ∧ (pre ≠ [] → ∃ x t, st.2 = Stowed.mk 5 x :: t)) ⟨rfl, Nat.le_refl _, fun _ => rfl, fun h => (h rfl).elim⟩ (fun pre y post st nx e hI hnx => ?_) (fun st hI => Gk (hI.2.2.2 (fun h => by rw [h] at hne; simp at hne)))
  obtain ⟨h1, h2, h3, h4⟩ := hI
  obtain ⟨⟨c1, c2⟩, ⟨k1, k2⟩⟩ := hd y (by rw [e]; simp)
  have hp : pre.length < 9 := by rw [e] at hlen; simp only [List.length_append, List.length_cons] at hlen; omega
  refine G2f (fun j => j.1.length = (pre ++ [y]).length ∧ j.2.length ≤ (pre ++ [y]).length ∧ ∃ x t, j.2 = Stowed.mk 5 x :: t) (fun K hK => ?_) (fun j hj => hnx _ ⟨hj.1, hj.2.1, fun h => by simp at h, fun _ => hj.2.2⟩)
  refine Jo ⟨by omega, by omega⟩ (Jo ⟨by omega, by omega⟩ (Jo ⟨by omega, by omega⟩ (Jo ⟨by omega, by omega⟩ ?_)))
  refine G2f (fun j17 => j17 = G4f (strip y)) (fun K' hK' => H9 (fun h => hK' _ ?_) (fun h => hK' _ ?_)) (fun j17 h17 => ?_)
  · unfold G4f strip; simp only [h, cond_true]
  · unfold G4f strip; simp only [h, cond_false]
  subst h17
  refine Q5 (Ye (by rw [List.length_singleton]; omega) (by omega)) ?_
  by_cases hpre : pre = []
  · subst hpre
    have hy : y = Ga.mk 0 0 false false := by
      rw [e] at hhead
      simpa using hhead
    subst hy
    have hst := h3 rfl
    subst hst
    have hsz : (G4f (strip (Ga.mk 0 0 false false))).1 = 40 := rfl
    rw [hsz]
    refine H4 (wp_mono (all_first hL) (fun r22 h22 => ?_))
    refine Q6 (fun pre2 s49 => s49 = [] ∧ (⟨0, 0, 0⟩ : Slot) ∉ pre2) ⟨rfl, by simp⟩ (fun pre2 x post2 s49 nx2 e2 hJ hnx2 => ?_) (fun s49 hJ => (hJ.2 h22.1).elim)
    obtain ⟨rfl, hJ⟩ := hJ
    refine Q5 (Ye (by simp only [List.length_nil]; omega) (by omega)) (Q5 (Ye (by simp only [List.length_append, List.length_nil, List.length_singleton]; omega) (by omega)) (Jo ⟨by decide, by decide⟩ (H4 (Ga6 (by omega) ?_))))
    have h0 : (0 : Int).tmod (s.Columns.length : Int) = 0 := Int.zero_tmod _
    by_cases hx : x = ⟨0, 0, 0⟩
    · subst hx
      have hR := first_right hL (b := Gb.mk (5 * ((([] : List Ga).length + 1 : Nat) : Int)) ByteArray.empty 40 (G4f (strip (Ga.mk 0 0 false false))).2 (1000 + 100 * (Ga.mk 0 0 false false).Kilos) 0 1 0 false) rfl rfl
      have hRt := Zd (wp_mono (G19 hs.right hs.tier (l := [Stowed.mk 5 ⟨0, 0, 0⟩]) (boxes := [Gb.mk (5 * ((([] : List Ga).length + 1 : Nat) : Int)) ByteArray.empty 40 (G4f (strip (Ga.mk 0 0 false false))).2 (1000 + 100 * (Ga.mk 0 0 false false).Kilos) 0 1 0 false]) (by simp)) (fun r hr => hr.2 hR))
      refine H4 (H9 (fun _ => ⟨true, hRt, ?_⟩) (fun h => absurd h0.symm (of_decide_eq_false h)))
      refine H9 (fun _ => hK _ ⟨rfl, Nat.le_refl _, ⟨0, 0, 0⟩, [], rfl⟩) (fun h => ?_)
      rw [h0] at h
      exact absurd h (by decide)
    · have hany : Wp (bif decide (x.G3 = (Ga.mk 0 0 false false).G3.tmod (s.Columns.length : Int)) then Q7 s (([] : List Gb) ++ [Gb.mk (5 * ((([] : List Ga).length + 1 : Nat) : Int)) ByteArray.empty 40 (G4f (strip (Ga.mk 0 0 false false))).2 (1000 + 100 * (Ga.mk 0 0 false false).Kilos) 0 1 0 false]) (([] ++ []) ++ [Stowed.mk (5 * ((([] : List Ga).length + 1 : Nat) : Int)) x]) else some default) (fun _ => True) := by
        refine H9 (fun _ => wp_mono (G19 hs.right hs.tier (by simp)) (fun _ _ => trivial)) (fun _ => Gk trivial)
      refine H4 (wp_mono hany (fun r60 _ => H9 (fun _ => hK _ ⟨rfl, Nat.le_refl _, x, [], rfl⟩) (fun _ => hnx2 _ ⟨rfl, fun hm => ?_⟩)))
      rcases List.mem_append.1 hm with hm | hm
      · exact hJ hm
      · rw [List.mem_singleton] at hm; exact hx hm.symm
  · obtain ⟨x0, t0, ht0⟩ := h4 hpre
    refine H4 (wp_mono (J41 hs _) (fun r22 h22 => ?_))
    refine Q6 (fun _ s49 => s49 = st.2) rfl (fun pre2 x post2 s49 nx2 e2 hJ hnx2 => ?_) (fun s49 hJ => hK _ ⟨?_, ?_, ?_⟩)
    · subst hJ
      refine Q5 (Ye (by simp only [List.length_nil]; omega) (by omega)) (Q5 (Ye (by simp only [List.length_append, List.length_nil, List.length_singleton]; omega) (by omega)) (Jo ⟨by omega, by omega⟩ (H4 (Ga6 (by omega) ?_))))
      have hany : Wp (bif decide (x.G3 = y.G3.tmod (s.Columns.length : Int)) then Q7 s (st.1 ++ [Gb.mk (5 * ((pre.length + 1 : Nat) : Int)) ByteArray.empty (G4f (strip y)).1 (G4f (strip y)).2 (1000 + 100 * y.Kilos) 0 1 0 false]) (([] ++ st.2) ++ [Stowed.mk (5 * ((pre.length + 1 : Nat) : Int)) x]) else some default) (fun _ => True) := by
        refine H9 (fun _ => wp_mono (G19 hs.right hs.tier (by simp only [List.length_append, List.length_nil, List.length_singleton]; omega)) (fun _ _ => trivial)) (fun _ => Gk trivial)
      refine H4 (wp_mono hany (fun r60 _ => H9 (fun _ => hK _ ⟨?_, ?_, x0, t0 ++ [Stowed.mk (5 * ((pre.length + 1 : Nat) : Int)) x], ?_⟩) (fun _ => hnx2 _ rfl)))
      · simp only [List.length_append, List.length_singleton]; omega
      · simp only [List.length_append, List.length_singleton, List.length_nil]; omega
      · show ([] ++ st.2) ++ _ = _
        rw [ht0]; rfl
    · simp only [List.length_append, List.length_singleton]; omega
    · rw [hJ]; simp only [List.length_append, List.length_singleton]; omega
    · rw [hJ]; exact ⟨x0, t0, ht0⟩
end Go.Proofs.YtbljcmgjmieffaaGreat
set_option linter.unusedSimpArgs false
set_option linter.unnecessarySimpa false
set_option maxRecDepth 100000
set_option linter.unusedVariables false
namespace Go.Proofs.YtbljcmgjmieffaaGreat
open Go.RowKit

theorem H73 {α β : Type} {Q : β → Prop} {c : Bool} {m : Option α} {x d : α} {k : α → Option β} (hc : c = true) (hm : m = some x) (h : Wp (k x) Q) : Wp (bnd (bif c then m else some d) k) Q := by
  subst hc hm
  exact h

end Go.Proofs.YtbljcmgjmieffaaGreat
