/-
  What Put returns, and that states stay right.
-/
import Derived.Test.YtkcdjcgifgdanaaGreatPutM
set_option linter.unusedSimpArgs false
set_option linter.unnecessarySimpa false
set_option maxRecDepth 100000
set_option linter.unusedVariables false
namespace Go.Proofs.YtkcdjcgifgdanaaGreat
open Go.RowKit

theorem addH_add {boxes : List Gd} {m half n : Int} {x : Stowed} : G8b boxes m half n x = n + G8b boxes m half 0 x := by
  unfold G8b
  split
  · cases G0c boxes x.Gd with
    | some b => simp only; omega
    | none => simp
  · simp
theorem H36 {boxes : List Gd} {m half : Int} : ∀ (l : List Stowed) (n : Int), l.foldl (G8b boxes m half) n = n + l.foldl (G8b boxes m half) 0 := by
  intro l
  induction l with
  | nil => intro n; simp
  | cons x r ih =>
    intro n
    rw [List.foldl_cons, List.foldl_cons, ih (G8b boxes m half n x), ih (G8b boxes m half 0 x), addH_add (n := n)]
    omega
theorem H35 {boxes : List Gd} {m half : Int} (pre post : List Stowed) (x : Stowed) : G1e boxes (pre ++ x :: post) m half = G1e boxes (pre ++ post) m half + G8b boxes m half 0 x := by
  unfold G1e
  rw [List.foldl_append, List.foldl_cons, List.foldl_append, H36 post (G8b boxes m half _ x), H36 post (List.foldl _ 0 pre), addH_add]
  omega
theorem J8f {boxes : List Gd} {m half n : Int} {x : Stowed} (h : x.Slot.G4 ≠ m) : G8b boxes m half n x = n := by
  unfold G8b
  rw [if_neg (fun hh => h hh.1)]
theorem G19 {l : List Stowed} {y : Slot} {half : Int} (h : below (l.map (·.Slot)) y half) : ∃ z ∈ l, z.Slot = ⟨y.G4, y.Tier - 1, half⟩ := by
  obtain ⟨z, hz, e⟩ := List.mem_map.1 h
  exact ⟨z, hz, e⟩
/-- What is held stays held, when a box is taken over which it does not stand. -/
theorem held_less {pre post : List Stowed} {x : Stowed} {y : Slot} (hn : ¬ G8d y x.Slot) (h : H03 y ((pre ++ x :: post).map (·.Slot))) : H03 y ((pre ++ post).map (·.Slot)) := by
  have key : ∀ half, (half = y.Half ∨ y.Half = 0) → below ((pre ++ x :: post).map (·.Slot)) y half → below ((pre ++ post).map (·.Slot)) y half := fun half hh hb => by
    obtain ⟨z, hz, e⟩ := G19 hb
    refine List.mem_map.2 ⟨z, ?_, e⟩
    have hzx : z ≠ x := fun e2 => hn (by
      subst e2
      rw [e]
      refine ⟨rfl, by simp only; omega, ?_⟩
      rcases hh with hh | hh
      · exact .inl hh.symm
      · exact .inr (.inl hh))
    simp only [List.mem_append, List.mem_cons] at hz ⊢
    rcases hz with hz | hz | hz
    · exact .inl hz
    · exact (hzx hz).elim
    · exact .inr hz
  rcases h with h | h | ⟨h0, h1, h2⟩
  · exact .inl h
  · exact .inr (.inl (key _ (.inl rfl) h))
  · exact .inr (.inr ⟨h0, key _ (.inr h0) h1, key _ (.inr h0) h2⟩)
theorem J3e {pre post : List Stowed} {x y : Stowed} (h : y ∈ pre ++ post) : y ∈ pre ++ x :: post := by
  simp only [List.mem_append, List.mem_cons] at h ⊢
  rcases h with h | h
  · exact .inl h
  · exact .inr (.inr h)
theorem J78 {s : Gw} {boxes : List Gd} {pre post : List Stowed} {x : Stowed} (h : R1 s boxes (pre ++ x :: post)) (ho : G8c (pre ++ x :: post) x.Slot = []) : R1 s boxes (pre ++ post) := by
  have hsub : (pre ++ post).Sublist (pre ++ x :: post) := List.Sublist.append_left (List.sublist_cons_self ..) _
  refine ⟨fun y hy => ?_, h.sorted.sublist hsub, h.apart.sublist hsub, fun m c hc => ?_⟩
  · obtain ⟨b, h1, h2, h3⟩ := h.each y (J3e hy)
    refine ⟨b, h1, h2, held_less (fun hv => ?_) h3⟩
    have : y.Gd ∈ G8c (pre ++ x :: post) x.Slot := H81.2 ⟨y, J3e hy, rfl, hv⟩
    rw [ho] at this; cases this
  · have := h.fits m c hc
    unfold H76 at this ⊢
    rw [H35, H35] at this
    have a1 := (J3f (boxes := boxes) (column := (m : Int)) (half := 1) (n := 0) (x := x)).1
    have a2 := (J3f (boxes := boxes) (column := (m : Int)) (half := 2) (n := 0) (x := x)).1
    rcases this with h | ⟨h, h'⟩
    · exact .inl h
    · exact .inr ⟨by omega, by omega⟩
/-- A box in a list that is in order. -/
def H9f (l : List Stowed) (x : Stowed) (r : List Stowed) : Prop := ∃ pre post, l = pre ++ post ∧ r = pre ++ x :: post ∧ (∀ y ∈ pre, y.Gd < x.Gd) ∧ (∀ y, post.head? = some y → x.Gd ≤ y.Gd)
theorem result_spec {F : Nat} {p : Hj} (hl : p.l.length ≤ 1000) (hF : p.l.length < F) : Wp (Rb F p) (H9f p.l p.x) := by
  unfold Rb
  refine wp_loop (fun n => ∃ k : Nat, n = (k : Int) ∧ k ≤ p.l.length ∧ ∀ y ∈ p.l.take k, y.Gd < p.x.Gd) (fun n => ((p.l.length : Int) - n).toNat) ⟨0, rfl, Nat.zero_le _, fun y hy => by rw [List.take_zero] at hy; cases hy⟩ (by show ((p.l.length : Int) - 0).toNat < F; omega) (fun n nx hI hnx => ?_)
  obtain ⟨k, rfl, h1, h2⟩ := hI
  have done : (∀ y, (p.l.drop k).head? = some y → p.x.Gd ≤ y.Gd) → Wp (bnd (R9 p.l (k : Int) p.x) fun r16 => some r16) (H9f p.l p.x) := fun h3 => by
    have e : R9 p.l (k : Int) p.x = some (p.l.take k ++ p.x :: p.l.drop k) := by
      unfold R9
      rw [decide_eq_true (show (0 : Int) ≤ (k : Int) by omega), decide_eq_true (show (k : Int) ≤ (p.l.length : Int) by omega), decide_eq_true (show p.l.length ≤ 100000 by omega), show ((k : Int)).toNat = k by omega]
      rfl
    exact Gu e (Gh ⟨p.l.take k, p.l.drop k, (List.take_append_drop k p.l).symm, rfl, h2, h3⟩)
  by_cases hk : k < p.l.length
  · have hg : p.l[k]? = some p.l[k] := List.getElem?_eq_getElem hk
    rw [decide_eq_true (show (k : Int) < (p.l.length : Int) by omega)]
    simp only [cond_true, Bool.true_and]
    refine H0 (Qt rfl hg (Gh (H3 (fun h => Jy ⟨by omega, by omega⟩ (hnx _ ⟨k + 1, by simp, by omega, fun y hy => ?_⟩ (by omega))) (fun h => done fun y hy => ?_))))
    · rw [List.take_succ_eq_append_getElem hk] at hy
      rcases List.mem_append.1 hy with hy | hy
      · exact h2 y hy
      · rw [List.mem_singleton] at hy; subst hy
        exact of_decide_eq_true h
    · rw [List.head?_drop, hg] at hy
      cases hy
      have := of_decide_eq_false h
      omega
  · rw [decide_eq_false (show ¬ ((k : Int) < (p.l.length : Int)) by omega)]
    refine H0 (Gh (H3 (fun h => by cases h) (fun _ => done fun y hy => ?_)))
    rw [List.head?_drop, List.getElem?_eq_none (by omega)] at hy
    cases hy
/-- Where a cover bars a slot: it is shut upon a hold, or open beneath a deck. -/
def H48 (s : Gw) (o : List Int) (x : Slot) : Prop := ∃ (m : Nat) (c : G4), x.G4 = (m : Int) ∧ s.Columns[m]? = some c ∧ 0 ≤ Qd s c ∧ (c.Deck = true ↔ Qd s c ∈ o)
def MetP (l : List Stowed) (x : Slot) : Prop := ∃ y ∈ l, Gff x y.Slot
def FitC (s : Gw) (boxes : List Gd) (q : List Stowed) (x : Slot) : Prop := ∀ (m : Nat) (c : G4), x.G4 = (m : Int) → s.Columns[m]? = some c → H76 boxes q m c
def PutR (s : Gw) (boxes : List Gd) (l : List Stowed) (o : List Int) (x : Stowed) (size : Int) (r : List Stowed × Int) : Prop :=
  (¬ G38 s x.Slot size ∧ r = ([], 97)) ∨ (G38 s x.Slot size ∧ ((H48 s o x.Slot ∧ r = ([], 91)) ∨ (¬ H48 s o x.Slot ∧ ((MetP l x.Slot ∧ r = ([], 92)) ∨ (¬ MetP l x.Slot ∧ ((¬ H03 x.Slot (l.map (·.Slot)) ∧ r = ([], 93)) ∨ (H03 x.Slot (l.map (·.Slot)) ∧ ∃ q, H9f l x q ∧ ((¬ FitC s boxes q x.Slot ∧ r = ([], 94)) ∨ (FitC s boxes q x.Slot ∧ r = (q, 0))))))))))
theorem shut_spec {s : Gw} {boxes : List Gd} {l : List Stowed} {o : List Int} (h : Sta s boxes l) {x : Stowed} {size : Int} (hx : G38 s x.Slot size) : Wp (Z0 (Hj.mk s boxes l o x)) (fun r => r = true ↔ H48 s o x.Slot) := by
  have hs := G6e h.ship
  obtain ⟨m, c, hm, hc, _⟩ := hx.col
  have hcl : H48 s o x.Slot ↔ (0 ≤ Qd s c ∧ (c.Deck = true ↔ Qd s c ∈ o)) := by
    constructor
    · rintro ⟨m', c', e1, e2, e3⟩
      have : m' = m := by omega
      subst this
      rw [hc] at e2; cases e2
      exact e3
    · exact fun e => ⟨m, c, hm, hc, e⟩
  unfold Z0
  show Wp (bnd (Ri s x.Slot.G4) _) _
  rw [hm]
  refine Gu (G7f hc (fun x hx => by have := hs.rows x hx; omega) (by have := hs.covs; omega)) ?_
  by_cases hk : 0 ≤ Qd s c
  · rw [decide_eq_true hk]
    simp only [cond_true, Bool.true_and]
    refine H0 (Qt rfl hc (Gh (Gu (H38 _ _) (Gh ?_))))
    rw [hcl, beq_iff_eq, Bool.eq_iff_iff, H39]
    exact ⟨fun h => ⟨hk, h⟩, fun h => h.2⟩
  · rw [decide_eq_false hk]
    refine H0 (Gh (H0 (Gh (Gh (Gb8 fun hh => hk (hcl.1 hh).1)))))
theorem met_spec {s : Gw} {boxes : List Gd} {l : List Stowed} {o : List Int} {x : Stowed} : Wp (Zg (Hj.mk s boxes l o x)) (fun r => r = true ↔ MetP l x.Slot) := by
  have h := Gde (p := fun y : Stowed => decide (Gff x.Slot y.Slot)) (f := fun z0 => Qx z0 (Hj.mk s boxes l o x)) (xs := l) (fun y _ => by
    unfold Qx
    exact Yn (Gu (wp_dec (slot_meet x.Slot y.Slot)) (Gh rfl)))
  have e : Ju l (fun z0 => Qx z0 (Hj.mk s boxes l o x)) = some (H91 (fun y : Stowed => decide (Gff x.Slot y.Slot)) l) := h
  unfold Zg Qu
  refine H0 (Gu e (Gh (Gh ?_)))
  rw [H5e, List.any_eq_true]
  exact ⟨fun ⟨y, hy, h⟩ => ⟨y, hy, of_decide_eq_true h⟩, fun ⟨y, hy, h⟩ => ⟨y, hy, decide_eq_true h⟩⟩
theorem put_spec {F : Nat} {s : Gw} {boxes : List Gd} {l : List Stowed} {o : List Int} (h : Sta s boxes l) (hO : Zm s o) (hF : 20 ≤ F) {x : Stowed} {b : Gd} (hb : G0c boxes x.Gd = some b) (hz : b.Size = 20 ∨ b.Size = 40) (hx : x.Gd ∉ l.map (·.Gd)) :
    Wp (G6a F s boxes l o x) (PutR s boxes l o x b.Size) := by
  have hs := G6e h.ship
  have hl := h.len
  unfold G6a
  refine Gu (h.checked hO) (H3 (fun h => by cases h) (fun _ => Gu (Hf7 boxes x.Gd) ?_))
  rw [hb]
  refine H3 (fun hh => ?_) (fun _ => Gu (find_no hx) (H3 (fun hh => by simp at hh) (fun _ => ?_)))
  · simp only [Bool.not_true, Bool.false_or, Bool.and_eq_true, decide_eq_true_eq] at hh
    omega
  refine H0 (wp_mono (J73 s x.Slot b.Size) (fun r15 h15 => H3 (fun hh => Gh (.inl ⟨fun hk => ?_, rfl⟩)) (fun hh => ?_)))
  · rw [h15.2 hk] at hh; cases hh
  have hslot : G38 s x.Slot b.Size := h15.1 (by simpa using hh)
  have htier : -1000000 ≤ x.Slot.Tier ∧ x.Slot.Tier ≤ 1000000 := by
    obtain ⟨m, c, _, hc, ht⟩ := hslot.col
    have := hs.tiers c (List.mem_of_getElem? hc)
    have := hslot.tier
    omega
  obtain ⟨q, hq, hins⟩ := result_spec (F := F) (p := Hj.mk s boxes l o x) (by show l.length ≤ 1000; omega) (by show l.length < F; omega)
  have hql : q.length ≤ 1000000 := by
    obtain ⟨pre, post, e1, e2, _⟩ := hins
    have : l = pre ++ post := e1
    rw [e2]
    have h2 := congrArg List.length this
    simp only [List.length_append, List.length_cons] at h2 ⊢
    omega
  refine Qk (by decide) ?_
  rw [show (4 : Int).toNat = 4 from rfl]
  refine Gf2 (fun i _ => (1 ≤ i → ¬ H48 s o x.Slot) ∧ (2 ≤ i → ¬ MetP l x.Slot) ∧ (3 ≤ i → H03 x.Slot (l.map (·.Slot))) ∧ (4 ≤ i → FitC s boxes q x.Slot)) ⟨fun h => by omega, fun h => by omega, fun h => by omega, fun h => by omega⟩ (fun i u nx hi hI hnx => ?_) (fun u hI => ?_)
  · obtain ⟨i1, i2, i3, i4⟩ := hI
    refine Z5 (fun _ => (1 ≤ i + 1 → ¬ H48 s o x.Slot) ∧ (2 ≤ i + 1 → ¬ MetP l x.Slot) ∧ (3 ≤ i + 1 → H03 x.Slot (l.map (·.Slot))) ∧ (4 ≤ i + 1 → FitC s boxes q x.Slot)) (fun K hK => ?_) (fun j hj => hnx _ hj)
    refine H3 (fun h0 => ?_) (fun h0 => H3 (fun h1 => ?_) (fun h1 => H3 (fun h2 => ?_) (fun h2 => H3 (fun h3 => ?_) (fun h3 => ?_))))
    · have h0 := of_decide_eq_true h0
      refine H0 (wp_mono (shut_spec h hslot) (fun r hr => H3 (fun hh => Jy ⟨by omega, by omega⟩ (Gh (.inr ⟨hslot, .inl ⟨hr.1 hh, ?_⟩⟩))) (fun hh => hK _ ⟨fun _ hk => ?_, fun h => by omega, fun h => by omega, fun h => by omega⟩)))
      · rw [h0]; rfl
      · rw [hr.2 hk] at hh; cases hh
    · have h0 := of_decide_eq_false h0
      have h1 := of_decide_eq_true h1
      refine H0 (wp_mono met_spec (fun r hr => H3 (fun hh => Jy ⟨by omega, by omega⟩ (Gh (.inr ⟨hslot, .inr ⟨i1 (by omega), .inl ⟨hr.1 hh, ?_⟩⟩⟩))) (fun hh => hK _ ⟨fun _ => i1 (by omega), fun _ hk => ?_, fun h => by omega, fun h => by omega⟩)))
      · rw [h1]; rfl
      · rw [hr.2 hk] at hh; cases hh
    · have h2 := of_decide_eq_true h2
      unfold Zt
      refine H0 (Gu (J70 l (by omega)) (H0 (wp_mono (slot_held x.Slot (l.map (·.Slot)) htier) (fun r hr => Gh (H3 (fun hh => Jy ⟨by omega, by omega⟩ (Gh (.inr ⟨hslot, .inr ⟨i1 (by omega), .inr ⟨i2 (by omega), .inl ⟨fun hk => ?_, ?_⟩⟩⟩⟩))) (fun hh => hK _ ⟨fun _ => i1 (by omega), fun _ => i2 (by omega), fun _ => hr.1 (by simpa using hh), fun h => by omega⟩))))))
      · rw [hr.2 hk] at hh; cases hh
      · rw [h2]; rfl
    · have h3 := of_decide_eq_true h3
      obtain ⟨m, c, hm, hc, _⟩ := hslot.col
      have hfc : FitC s boxes q x.Slot ↔ H76 boxes q m c := by
        refine ⟨fun hf => hf m c hm hc, fun hf m' c' e1 e2 => ?_⟩
        have : m' = m := by omega
        subst this
        rw [hc] at e2; cases e2
        exact hf
      unfold G0e
      refine H0 (Gu hq ?_)
      show Wp (bnd (G3a s boxes q x.Slot.G4) _) _
      rw [hm]
      refine H0 (wp_mono (stow_fits hc hql) (fun r hr => Gh (H3 (fun hh => Jy ⟨by omega, by omega⟩ (Gh (.inr ⟨hslot, .inr ⟨i1 (by omega), .inr ⟨i2 (by omega), .inr ⟨i3 (by omega), q, hins, .inl ⟨fun hk => ?_, ?_⟩⟩⟩⟩⟩))) (fun hh => hK _ ⟨fun _ => i1 (by omega), fun _ => i2 (by omega), fun _ => i3 (by omega), fun _ => hfc.2 (hr.1 (by simpa using hh))⟩))))
      · rw [hr.2 (hfc.1 hk)] at hh; cases hh
      · rw [h3]; rfl
    · have a0 := of_decide_eq_false h0
      have a1 := of_decide_eq_false h1
      have a2 := of_decide_eq_false h2
      have a3 := of_decide_eq_false h3
      omega
  · obtain ⟨i1, i2, i3, i4⟩ := hI
    exact Gu hq (Gh (.inr ⟨hslot, .inr ⟨i1 (by omega), .inr ⟨i2 (by omega), .inr ⟨i3 (by omega), q, hins, .inr ⟨i4 (by omega), rfl⟩⟩⟩⟩⟩))
end Go.Proofs.YtkcdjcgifgdanaaGreat
