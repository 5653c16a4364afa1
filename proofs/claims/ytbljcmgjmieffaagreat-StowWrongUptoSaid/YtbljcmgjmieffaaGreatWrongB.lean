/-
  StowWrong: the law.
-/
import Derived.Test.YtbljcmgjmieffaaGreatPutP
import Derived.Test.YtbljcmgjmieffaaGreatPutP
set_option linter.unusedSimpArgs false
set_option linter.unnecessarySimpa false
set_option maxRecDepth 100000
set_option linter.unusedVariables false
namespace Go.Proofs.YtbljcmgjmieffaaGreat
open Go.RowKit

theorem J5a {s : Gr} (hs : Small s) {boxes : List Gb} {l : List Stowed} {o : List Int} (hl : l.length ≤ 1000000) (hn : ¬ (G84 s o ∧ Rh s boxes l)) : Jq s boxes l o = some false := by
  refine Zd (wp_mono (Haa hs boxes l o hl) (fun r hr => ?_))
  cases r with
  | false => rfl
  | true => exact (hn (hr.1 rfl)).elim
theorem no_box {l : List Ga} (hl : l.length ≤ 9) {id : Int} (h : id < 5 ∨ 45 < id) : Qe (G09 l) id = none := by
  unfold Qe
  refine List.find?_eq_none.2 fun b hb => ?_
  unfold G09 at hb
  obtain ⟨p, hp, rfl⟩ := List.mem_map.1 hb
  have h1 := (List.mem_zipIdx_iff_getElem?.1 hp)
  have h2 := (List.getElem?_eq_some_iff.1 h1).1
  rw [List.length_map] at h2
  have : (boxOf p).ID ≠ id := by
    show 5 * ((p.2 + 1 : Nat) : Int) ≠ id
    omega
  simp [this]
theorem first_box {l : List Ga} (h : l[0]? = some (Ga.mk 0 0 false false)) : ∃ b, Qe (G09 l) 5 = some b ∧ b.Size = 40 := by
  cases l with
  | nil => simp at h
  | cons d r =>
    have hd : d = Ga.mk 0 0 false false := by simpa using h
    subst hd
    refine ⟨boxOf (strip (Ga.mk 0 0 false false), 0), ?_, rfl⟩
    unfold G09 Qe
    rw [List.map_cons, List.zipIdx_cons, List.map_cons, List.find?_cons_of_pos]
    rfl
theorem Gc1 {s : Gr} {boxes : List Gb} {l : List Stowed} {z : Stowed} (hz : z ∈ l) (h : ∀ b, Qe boxes z.Gb = some b → ¬ G00 s z.Slot b.Size) : ¬ Rh s boxes l := fun hR => by
  obtain ⟨b, h1, h2, _⟩ := hR.each z hz
  exact h b h1 h2
theorem G75 {l : List Stowed} {i : Nat} (h : i < l.length) (z : Stowed) : z ∈ l.set i z := List.mem_of_getElem? (by rw [List.getElem?_set_self h])
theorem half_size {s : Gr} {x : Slot} {size : Int} (h : G00 s x size) : x.Half = 0 ∨ x.Half = 1 ∨ x.Half = 2 := by
  have := h.half
  unfold G78 at this
  split at this
  · have : x.Half = 0 := by simpa using this
    exact .inl this
  · split at this
    · have : x.Half = 1 ∨ x.Half = 2 := by simpa using this
      exact .inr this
    · cases this

theorem lawWrongF {F : Nat} (hF : 40 ≤ F) (hA : Hr F = some true) (l : List Gy) (covers : Int) (drops : List Ga) (way n : Int) (hp : ∀ p ∈ l, Gb7 p) (hd : ∀ x ∈ drops, G8d x) (hdl : drops.length ≤ 1048576) (hw : Byte way) (hn : -9223372036854775808 ≤ n ∧ n ≤ 9223372036854775807) :
    R0 F l covers drops way n = some true := by
  refine Zd ?_
  unfold R0
  refine H4 (wp_mono (H18 l covers hp) (fun s hL => ?_))
  have hs := Yu hL
  have hcv := hL.covs.len
  have hcl := hL.len
  have hc1 := hL.some
  refine Q5 (decide_eq_true ⟨by simp only [List.length_singleton]; omega, by simp only [List.length_singleton, maxLen]; omega⟩) ?_
  have hdd : ∀ x ∈ [Ga.mk 0 0 false false] ++ drops, G8d x := fun d hm => by
    rcases List.mem_append.1 hm with h | h
    · rw [List.mem_singleton] at h; subst h
      exact ⟨⟨Int.le_refl _, by decide⟩, ⟨Int.le_refl _, by decide⟩⟩
    · exact hd d h
  obtain ⟨r6, hr6, g1, g2, g3⟩ := H4f hs hdd
  obtain ⟨r6', hr6', x0, t0, ht0⟩ := loaded_first hL hd
  rw [hr6] at hr6'; cases hr6'
  have hlen9 : (([Ga.mk 0 0 false false] ++ drops).take (min ([Ga.mk 0 0 false false] ++ drops).length 9)).length ≤ 9 := by rw [List.length_take]; omega
  have hhead : (([Ga.mk 0 0 false false] ++ drops).take (min ([Ga.mk 0 0 false false] ++ drops).length 9))[0]? = some (Ga.mk 0 0 false false) := by
    rw [List.getElem?_take, if_pos (by simp only [List.length_append, List.length_singleton]; omega)]; rfl
  generalize ([Ga.mk 0 0 false false] ++ drops).take (min ([Ga.mk 0 0 false false] ++ drops).length 9) = ds at hlen9 hhead g1
  refine Gz hr6 ?_
  obtain ⟨b5, hb5, hz5⟩ := first_box hhead
  have hno : ∀ id, id < 5 ∨ 45 < id → Qe r6.1 id = none := fun id h => by rw [g1]; exact no_box hlen9 h
  rw [← g1] at hb5
  have hbl : r6.1.length ≤ 9 := by rw [g1, H86]; exact hlen9
  have hS : J0a s r6.1 r6.2 := ⟨hL, g2, by omega⟩
  have hx0 : Stowed.mk 5 x0 ∈ r6.2 := by rw [ht0]; simp
  have hl1 : 1 ≤ r6.2.length := by rw [ht0]; simp
  have hslot0 : G00 s x0 40 := by
    obtain ⟨b, h1, h2, _⟩ := g2.each _ hx0
    rw [hb5] at h1; cases h1
    rw [hz5] at h2; exact h2
  have hh0 : x0.Half = 0 := by have := hslot0.half; simpa [G78] using this
  have hg0 : r6.2[0]? = some (Stowed.mk 5 x0) := by rw [ht0]; rfl
  obtain ⟨w1, w2⟩ := hw
  refine H9 (fun h => by have := of_decide_eq_true h; omega) (fun _ => ?_)
  simp only [List.nil_append]
  refine Q5 (Ye (by simp only [List.length_nil]; omega) (by omega)) (Jo ⟨by omega, by omega⟩ ?_)
  have hlast : r6.2[r6.2.length - 1]? = some (r6.2[r6.2.length - 1]'(by omega)) := List.getElem?_eq_getElem (by omega)
  refine Qy (m := r6.2.length - 1) (by omega) hlast ?_
  have hlok : ∀ b, Qe r6.1 (r6.2[r6.2.length - 1]'(by omega)).Gb = some b → G00 s (r6.2[r6.2.length - 1]'(by omega)).Slot b.Size := fun b hb => by
    obtain ⟨b', h1, h2, _⟩ := g2.each _ (List.getElem_mem (by omega : r6.2.length - 1 < r6.2.length))
    rw [h1] at hb; cases hb; exact h2
  generalize r6.2[r6.2.length - 1]'(by omega) = y at hlok
  have hlt : ((r6.2.length : Int) - 1).toNat < r6.2.length := by omega
  refine G2f (fun bad => ¬ Rh s r6.1 bad ∧ bad.length ≤ 20) (fun K hK => ?_) (fun bad hbad => ?_)
  · refine H4 (Ga6 (by decide) ?_)
    rw [Int.tmod_eq_emod_of_nonneg w1]
    refine H9 (fun _ => hK _ ⟨Gc1 (G75 hlt _) (fun b hb => ?_), by rw [List.length_set]; omega⟩) (fun h0 => ?_)
    · rw [hno _ (.inl (by show min n 4 < 5; omega))] at hb; cases hb
    refine H9 (fun _ => hK _ ⟨Gc1 (G75 hlt _) (fun b hb hsl => ?_), by rw [List.length_set]; omega⟩) (fun h1 => ?_)
    · obtain ⟨m, c, e1, e2, _⟩ := hsl.col
      have e1 : max n (s.Columns.length : Int) = (m : Int) := e1
      have := (List.getElem?_eq_some_iff.1 e2).1
      omega
    refine H9 (fun _ => hK _ ⟨Gc1 (G75 hlt _) (fun b hb hsl => ?_), by rw [List.length_set]; omega⟩) (fun h2 => ?_)
    · have : 0 ≤ min n (-1) := hsl.tier
      omega
    refine H9 (fun _ => hK _ ⟨Gc1 (G75 hlt _) (fun b hb hsl => ?_), by rw [List.length_set]; omega⟩) (fun h3 => ?_)
    · have e : (3 : Int) = 0 ∨ (3 : Int) = 1 ∨ (3 : Int) = 2 := half_size hsl
      omega
    refine H9 (fun _ => Q5 (Ye (by rw [List.length_singleton]; omega) (by omega)) (hK _ ⟨Gc1 (z := Stowed.mk (max n 100) (Slot.mk 0 0 0)) (by simp) (fun b hb => ?_), by simp only [List.length_append, List.length_singleton]; omega⟩)) (fun h4 => ?_)
    · rw [hno _ (.inr (by show 45 < max n 100; omega))] at hb; cases hb
    refine H9 (fun _ => Qy (m := 0) rfl hg0 (Q5 (Ye (by rw [List.length_singleton]; omega) (by omega)) (hK _ ⟨fun hR => ?_, by simp only [List.length_append, List.length_singleton]; omega⟩))) (fun h5 => ?_)
    · have := (List.pairwise_append.1 hR.sorted).2.2 _ hx0 _ (List.mem_singleton.2 rfl)
      omega
    refine H9 (fun _ => Qy (m := 0) rfl hg0 (Qy (m := 0) rfl hg0 (hK _ ⟨Gc1 (G75 (by show 0 < _; omega) _) (fun b hb hsl => ?_), by rw [List.length_set]; omega⟩))) (fun h6 => ?_)
    · have hb : Qe r6.1 5 = some b := hb
      rw [hb5] at hb; cases hb
      rw [hz5] at hsl
      have hh := hsl.half
      rw [halves40, List.mem_singleton] at hh
      have hh : IntKind.u8.wrap (2 - IntKind.u8.wrap (x0.Half.tdiv 2)) = 0 := hh
      rw [hh0] at hh
      exact absurd hh (by decide)
    have a0 := of_decide_eq_false h0
    have a1 := of_decide_eq_false h1
    have a2 := of_decide_eq_false h2
    have a3 := of_decide_eq_false h3
    have a4 := of_decide_eq_false h4
    have a5 := of_decide_eq_false h5
    have a6 := of_decide_eq_false h6
    omega
  obtain ⟨hbR, hbl2⟩ := hbad
  have hno2 : ∀ o, Jq s r6.1 bad o = some false := fun o => J5a hs (by omega) (fun h => hbR h.2)
  refine H4 (wp_mono (H80 (Hca hL) (fun x hx => by have := hs.rows x hx; omega) (by omega) (by omega) (by omega)) (fun r32 hr32 => ?_))
  have e32 : r32 = ([], 2) := by
    rcases hr32 with ⟨_, e⟩ | ⟨_, h, _⟩
    · exact e
    · exact (hbR h).elim
  subst e32
  have hfree : Qi s r6.1 bad [] 5 = some 2 := by unfold Qi; rw [hno2]; rfl
  have htake : Zq s r6.1 bad [] 5 = some ([], 2) := by unfold Zq; rw [hfree]; rfl
  have hput : Q2 F s r6.1 bad [] (Stowed.mk 0 (Slot.mk 0 0 0)) = some ([], 2) := by unfold Q2; rw [hno2]; rfl
  have hopen : R8 F s r6.1 bad [] 0 = some ([], 2) := by unfold R8; rw [hno2]; rfl
  have hclose : G47 F s r6.1 bad [] 0 = some ([], 2) := by unfold G47; rw [hno2]; rfl
  refine Gz htake (Gz hput (Gz hopen (Gz hclose ?_)))
  have hright : Q7 s r6.1 bad = some false := by
    refine Zd (wp_mono (G19 hs.right hs.tier (by omega)) (fun r hr => ?_))
    cases r with
    | false => rfl
    | true => exact (hbR (hr.1 rfl)).elim
  refine Gz hright (H9 (fun h => absurd h (by decide)) (fun _ => ?_))
  -- the other errors
  refine H4 (wp_mono (H80 (Hca hL) (fun x hx => by have := hs.rows x hx; omega) (by omega) (by omega) (by omega)) (fun r47 hr47 => ?_))
  have honb : ∀ id, id < 5 ∨ 45 < id → id ∉ r6.2.map (·.Gb) := fun id h hm => by
    obtain ⟨z, hz, e⟩ := List.mem_map.1 hm
    obtain ⟨b, h1, _⟩ := g2.each z hz
    have e : z.Gb = id := e
    rw [e, hno id h] at h1; cases h1
  have e47 : r47 = ([], 6) := by
    rcases hr47 with ⟨h, _⟩ | ⟨_, _, ⟨_, e⟩ | ⟨h, _⟩⟩
    · exact (h ⟨Ha4 hL, g2⟩).elim
    · exact e
    · exact (honb (max n 100) (.inr (by omega)) (h _ (by simp))).elim
  subst e47
  refine Qy (m := 0) rfl hg0 ?_
  have hck := hS.checked H58
  obtain ⟨q5, hq1, hq2⟩ := find_at g2.sorted hx0
  have hput1 : Wp (Q2 F s r6.1 r6.2 [] (Stowed.mk 5 x0)) (fun r => r = ([], 96)) := by
    unfold Q2
    refine Gz hck (H9 (fun h => by cases h) (fun _ => Gz (Gbf r6.1 5) ?_))
    rw [hb5]
    refine H9 (fun hh => ?_) (fun _ => Gz hq1 (H9 (fun _ => Gk rfl) (fun h => by have := of_decide_eq_false h; omega)))
    simp only [Bool.not_true, Bool.false_or, Bool.and_eq_true, decide_eq_true_eq] at hh
    omega
  refine Gz (Zd hput1) (Qy (m := 0) rfl rfl ?_)
  have hopen1 : Wp (R8 F s r6.1 r6.2 [] (max n (s.Covers.length : Int))) (fun r => r = ([], 6)) := by
    unfold R8
    refine Gz hck (H9 (fun h => by cases h) (fun _ => H9 (fun _ => Gk rfl) (fun h => ?_)))
    simp only [Bool.or_eq_false_iff, decide_eq_false_iff_not] at h
    omega
  refine Gz (Zd hopen1) ?_
  have habove : Yh r6.2 (min n 4) = some ([], 6) := by
    rw [H7b r6.2 (min n 4) (by omega)]
    have : H1b r6.2 (min n 4) = none := by
      unfold H1b
      refine List.find?_eq_none.2 fun z hz h => ?_
      have e : z.Gb = min n 4 := by simpa using h
      exact honb (min n 4) (.inl (by omega)) (List.mem_map.2 ⟨z, hz, e⟩)
    unfold Hcf
    rw [this]
  refine Gz habove (Q5 (Ye (by simp only [List.length_cons, List.length_nil]; omega) (by omega)) ?_)
  have hR2 : Rh s (r6.1 ++ [Gb.mk 3 ByteArray.empty 45 false 0 0 0 0 false, Gb.mk 4 ByteArray.empty 20 false 0 0 0 0 false]) r6.2 := by
    have := G9b (b := Gb.mk 4 ByteArray.empty 20 false 0 0 0 0 false) (G9b (b := Gb.mk 3 ByteArray.empty 45 false 0 0 0 0 false) g2)
    rw [List.append_assoc] at this
    exact this
  have hf3 : Qe (r6.1 ++ [Gb.mk 3 ByteArray.empty 45 false 0 0 0 0 false, Gb.mk 4 ByteArray.empty 20 false 0 0 0 0 false]) 3 = some (Gb.mk 3 ByteArray.empty 45 false 0 0 0 0 false) := by
    have h3 := hno 3 (.inl (by decide))
    unfold Qe at h3 ⊢
    rw [List.find?_append, h3]
    rfl
  have hf4 : Qe (r6.1 ++ [Gb.mk 3 ByteArray.empty 45 false 0 0 0 0 false, Gb.mk 4 ByteArray.empty 20 false 0 0 0 0 false]) 4 = some (Gb.mk 4 ByteArray.empty 20 false 0 0 0 0 false) := by
    have h4 := hno 4 (.inl (by decide))
    unfold Qe at h4 ⊢
    rw [List.find?_append, h4]
    rfl
  generalize r6.1 ++ [Gb.mk 3 ByteArray.empty 45 false 0 0 0 0 false, Gb.mk 4 ByteArray.empty 20 false 0 0 0 0 false] = bx at hR2 hf3 hf4 ⊢
  have hS2 : J0a s bx r6.2 := ⟨hL, hR2, by omega⟩
  have hck2 := hS2.checked H58
  have hput3 : Wp (Q2 F s bx r6.2 [] (Stowed.mk 3 (Slot.mk 0 0 1))) (fun r => r = ([], 6)) := by
    unfold Q2
    refine Gz hck2 (H9 (fun h => by cases h) (fun _ => Gz (Gbf bx 3) ?_))
    rw [hf3]
    exact H9 (fun _ => Gk rfl) (fun h => absurd h (by decide))
  have hput4 : Wp (Q2 F s bx r6.2 [] (Stowed.mk 4 (Slot.mk 0 0 0))) (fun r => r = ([], 97)) := by
    unfold Q2
    refine Gz hck2 (H9 (fun h => by cases h) (fun _ => Gz (Gbf bx 4) ?_))
    rw [hf4]
    refine H9 (fun h => absurd h (by decide)) (fun _ => Gz (find_no (honb 4 (.inl (by decide)))) (H9 (fun hh => by simp at hh) (fun _ => ?_)))
    refine H4 (wp_mono (H7d s (Slot.mk 0 0 0) 20) (fun r15 h15 => H9 (fun _ => Gk rfl) (fun hh => ?_)))
    have := (h15.1 (by simpa using hh)).half
    exact absurd this (by decide)
  have hfree2 : Qi s bx r6.2 [max n (s.Covers.length : Int)] 5 = some 2 := by
    have : Jq s bx r6.2 [max n (s.Covers.length : Int)] = some false := J5a hs (by omega) (fun h => by have := h.1.mem _ (List.mem_singleton.2 rfl); omega)
    unfold Qi; rw [this]; rfl
  refine Gz (Zd hput3) (Gz (Zd hput4) (Gz hfree2 ?_))
  exact H73 rfl hA (Gk rfl)
theorem lawWrong (l : List Gy) (covers : Int) (drops : List Ga) (way n : Int) (hp : ∀ p ∈ l, Gb7 p) (hd : ∀ x ∈ drops, G8d x) (hdl : drops.length ≤ 1048576) (hw : Byte way) (hn : -9223372036854775808 ≤ n ∧ n ≤ 9223372036854775807) :
    R0 60 l covers drops way n = some true := lawWrongF (by omega) awake09 l covers drops way n hp hd hdl hw hn
end Go.Proofs.YtbljcmgjmieffaaGreat
