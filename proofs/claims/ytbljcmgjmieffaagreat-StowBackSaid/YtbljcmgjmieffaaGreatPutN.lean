/-
  What Put returns, and that states stay right.
-/
import Derived.Test.YtbljcmgjmieffaaGreatPutM
set_option linter.unusedSimpArgs false
set_option linter.unnecessarySimpa false
set_option maxRecDepth 100000
set_option linter.unusedVariables false
namespace Go.Proofs.YtbljcmgjmieffaaGreat
open Go.RowKit

theorem addH_add {boxes : List Ga} {m half n : Int} {x : Stowed} : G6a boxes m half n x = n + G6a boxes m half 0 x := by
  unfold G6a
  split
  · cases Yd boxes x.Ga with
    | some b => simp only; omega
    | none => simp
  · simp
theorem J3b {boxes : List Ga} {m half : Int} : ∀ (l : List Stowed) (n : Int), l.foldl (G6a boxes m half) n = n + l.foldl (G6a boxes m half) 0 := by
  intro l
  induction l with
  | nil => intro n; simp
  | cons x r ih =>
    intro n
    rw [List.foldl_cons, List.foldl_cons, ih (G6a boxes m half n x), ih (G6a boxes m half 0 x), addH_add (n := n)]
    omega
theorem H0a {boxes : List Ga} {m half : Int} (pre post : List Stowed) (x : Stowed) : G7f boxes (pre ++ x :: post) m half = G7f boxes (pre ++ post) m half + G6a boxes m half 0 x := by
  unfold G7f
  rw [List.foldl_append, List.foldl_cons, List.foldl_append, J3b post (G6a boxes m half _ x), J3b post (List.foldl _ 0 pre), addH_add]
  omega
theorem J46 {boxes : List Ga} {m half n : Int} {x : Stowed} (h : x.Slot.G3 ≠ m) : G6a boxes m half n x = n := by
  unfold G6a
  rw [if_neg (fun hh => h hh.1)]
theorem G1c {l : List Stowed} {y : Slot} {half : Int} (h : below (l.map (·.Slot)) y half) : ∃ z ∈ l, z.Slot = ⟨y.G3, y.Tier - 1, half⟩ := by
  obtain ⟨z, hz, e⟩ := List.mem_map.1 h
  exact ⟨z, hz, e⟩
/-- What is held stays held, when a box is taken over which it does not stand. -/
theorem held_less {pre post : List Stowed} {x : Stowed} {y : Slot} (hn : ¬ Gf1 y x.Slot) (h : Gd6 y ((pre ++ x :: post).map (·.Slot))) : Gd6 y ((pre ++ post).map (·.Slot)) := by
  have key : ∀ half, (half = y.Half ∨ y.Half = 0) → below ((pre ++ x :: post).map (·.Slot)) y half → below ((pre ++ post).map (·.Slot)) y half := fun half hh hb => by
    obtain ⟨z, hz, e⟩ := G1c hb
    refine List.mem_map.2 ⟨z, ?_, e⟩
    have hzx : z ≠ x := fun e2 => hn (by
      subst e2
      rw [e]
      refine ⟨rfl, by simp only; omega, ?_⟩
      rcases hh with hh | hh
      · exact .inl hh.symm
      · exact .inr (.inl hh))
    simp only [List.mem_append, List.mem_cons] at hz ⊢
    rcases hz with hz | hz | hz
    · exact .inl hz
    · exact (hzx hz).elim
    · exact .inr hz
  rcases h with h | h | ⟨h0, h1, h2⟩
  · exact .inl h
  · exact .inr (.inl (key _ (.inl rfl) h))
  · exact .inr (.inr ⟨h0, key _ (.inr h0) h1, key _ (.inr h0) h2⟩)
theorem mem_mid {pre post : List Stowed} {x y : Stowed} (h : y ∈ pre ++ post) : y ∈ pre ++ x :: post := by
  simp only [List.mem_append, List.mem_cons] at h ⊢
  rcases h with h | h
  · exact .inl h
  · exact .inr (.inr h)
theorem right_less {s : Gt} {boxes : List Ga} {pre post : List Stowed} {x : Stowed} (h : Rw s boxes (pre ++ x :: post)) (ho : G00 (pre ++ x :: post) x.Slot = []) : Rw s boxes (pre ++ post) := by
  have hsub : (pre ++ post).Sublist (pre ++ x :: post) := List.Sublist.append_left (List.sublist_cons_self ..) _
  refine ⟨fun y hy => ?_, h.sorted.sublist hsub, h.apart.sublist hsub, fun m c hc => ?_⟩
  · obtain ⟨b, h1, h2, h3⟩ := h.each y (mem_mid hy)
    refine ⟨b, h1, h2, held_less (fun hv => ?_) h3⟩
    have : y.Ga ∈ G00 (pre ++ x :: post) x.Slot := G74.2 ⟨y, mem_mid hy, rfl, hv⟩
    rw [ho] at this; cases this
  · have := h.fits m c hc
    unfold H5d at this ⊢
    rw [H0a, H0a] at this
    have a1 := (addH_le (boxes := boxes) (column := (m : Int)) (half := 1) (n := 0) (x := x)).1
    have a2 := (addH_le (boxes := boxes) (column := (m : Int)) (half := 2) (n := 0) (x := x)).1
    rcases this with h | ⟨h, h'⟩
    · exact .inl h
    · exact .inr ⟨by omega, by omega⟩
/-- A box in a list that is in order. -/
def H9a (l : List Stowed) (x : Stowed) (r : List Stowed) : Prop := ∃ pre post, l = pre ++ post ∧ r = pre ++ x :: post ∧ (∀ y ∈ pre, y.Ga < x.Ga) ∧ (∀ y, post.head? = some y → x.Ga ≤ y.Ga)
theorem result_spec {F : Nat} {p : Hd} (hl : p.l.length ≤ 1000) (hF : p.l.length < F) : Wp (Qy F p) (H9a p.l p.x) := by
  unfold Qy
  refine wp_loop (fun n => ∃ k : Nat, n = (k : Int) ∧ k ≤ p.l.length ∧ ∀ y ∈ p.l.take k, y.Ga < p.x.Ga) (fun n => ((p.l.length : Int) - n).toNat) ⟨0, rfl, Nat.zero_le _, fun y hy => by rw [List.take_zero] at hy; cases hy⟩ (by show ((p.l.length : Int) - 0).toNat < F; omega) (fun n nx hI hnx => ?_)
  obtain ⟨k, rfl, h1, h2⟩ := hI
  have done : (∀ y, (p.l.drop k).head? = some y → p.x.Ga ≤ y.Ga) → Wp (bnd (Qx p.l (k : Int) p.x) fun r16 => some r16) (H9a p.l p.x) := fun h3 => by
    have e : Qx p.l (k : Int) p.x = some (p.l.take k ++ p.x :: p.l.drop k) := by
      unfold Qx
      rw [decide_eq_true (show (0 : Int) ≤ (k : Int) by omega), decide_eq_true (show (k : Int) ≤ (p.l.length : Int) by omega), decide_eq_true (show p.l.length ≤ 100000 by omega), show ((k : Int)).toNat = k by omega]
      rfl
    exact H8 e (Gk ⟨p.l.take k, p.l.drop k, (List.take_append_drop k p.l).symm, rfl, h2, h3⟩)
  by_cases hk : k < p.l.length
  · have hg : p.l[k]? = some p.l[k] := List.getElem?_eq_getElem hk
    rw [decide_eq_true (show (k : Int) < (p.l.length : Int) by omega)]
    simp only [cond_true, Bool.true_and]
    refine H1 (Rs rfl hg (Gk (He (fun h => Q0 ⟨by omega, by omega⟩ (hnx _ ⟨k + 1, by simp, by omega, fun y hy => ?_⟩ (by omega))) (fun h => done fun y hy => ?_))))
    · rw [List.take_succ_eq_append_getElem hk] at hy
      rcases List.mem_append.1 hy with hy | hy
      · exact h2 y hy
      · rw [List.mem_singleton] at hy; subst hy
        exact of_decide_eq_true h
    · rw [List.head?_drop, hg] at hy
      cases hy
      have := of_decide_eq_false h
      omega
  · rw [decide_eq_false (show ¬ ((k : Int) < (p.l.length : Int)) by omega)]
    refine H1 (Gk (He (fun h => by cases h) (fun _ => done fun y hy => ?_)))
    rw [List.head?_drop, List.getElem?_eq_none (by omega)] at hy
    cases hy
/-- Where a cover bars a slot: it is shut upon a hold, or open beneath a deck. -/
def H94 (s : Gt) (o : List Int) (x : Slot) : Prop := ∃ (m : Nat) (c : G3), x.G3 = (m : Int) ∧ s.Columns[m]? = some c ∧ 0 ≤ Rb s c ∧ (c.Deck = true ↔ Rb s c ∈ o)
def MetP (l : List Stowed) (x : Slot) : Prop := ∃ y ∈ l, H19 x y.Slot
def FitC (s : Gt) (boxes : List Ga) (q : List Stowed) (x : Slot) : Prop := ∀ (m : Nat) (c : G3), x.G3 = (m : Int) → s.Columns[m]? = some c → H5d boxes q m c
def PutR (s : Gt) (boxes : List Ga) (l : List Stowed) (o : List Int) (x : Stowed) (size : Int) (r : List Stowed × Int) : Prop :=
  (¬ G1d s x.Slot size ∧ r = ([], 97)) ∨ (G1d s x.Slot size ∧ ((H94 s o x.Slot ∧ r = ([], 91)) ∨ (¬ H94 s o x.Slot ∧ ((MetP l x.Slot ∧ r = ([], 92)) ∨ (¬ MetP l x.Slot ∧ ((¬ Gd6 x.Slot (l.map (·.Slot)) ∧ r = ([], 93)) ∨ (Gd6 x.Slot (l.map (·.Slot)) ∧ ∃ q, H9a l x q ∧ ((¬ FitC s boxes q x.Slot ∧ r = ([], 94)) ∨ (FitC s boxes q x.Slot ∧ r = (q, 0))))))))))
theorem shut_spec {s : Gt} {boxes : List Ga} {l : List Stowed} {o : List Int} (h : Sta s boxes l) {x : Stowed} {size : Int} (hx : G1d s x.Slot size) : Wp (Yj (Hd.mk s boxes l o x)) (fun r => r = true ↔ H94 s o x.Slot) := by
  have hs := G51 h.ship
  obtain ⟨m, c, hm, hc, _⟩ := hx.col
  have hcl : H94 s o x.Slot ↔ (0 ≤ Rb s c ∧ (c.Deck = true ↔ Rb s c ∈ o)) := by
    constructor
    · rintro ⟨m', c', e1, e2, e3⟩
      have : m' = m := by omega
      subst this
      rw [hc] at e2; cases e2
      exact e3
    · exact fun e => ⟨m, c, hm, hc, e⟩
  unfold Yj
  show Wp (bnd (Z3 s x.Slot.G3) _) _
  rw [hm]
  refine H8 (H80 hc (fun x hx => by have := hs.rows x hx; omega) (by have := hs.covs; omega)) ?_
  by_cases hk : 0 ≤ Rb s c
  · rw [decide_eq_true hk]
    simp only [cond_true, Bool.true_and]
    refine H1 (Rs rfl hc (Gk (H8 (H0c _ _) (Gk ?_))))
    rw [hcl, beq_iff_eq, Bool.eq_iff_iff, H0d]
    exact ⟨fun h => ⟨hk, h⟩, fun h => h.2⟩
  · rw [decide_eq_false hk]
    refine H1 (Gk (H1 (Gk (Gk (Gb7 fun hh => hk (hcl.1 hh).1)))))
theorem met_spec {s : Gt} {boxes : List Ga} {l : List Stowed} {o : List Int} {x : Stowed} : Wp (Z0 (Hd.mk s boxes l o x)) (fun r => r = true ↔ MetP l x.Slot) := by
  have h := H2d (p := fun y : Stowed => decide (H19 x.Slot y.Slot)) (f := fun z0 => Qo z0 (Hd.mk s boxes l o x)) (xs := l) (fun y _ => by
    unfold Qo
    exact G17 (H8 (wp_dec (slot_meet x.Slot y.Slot)) (Gk rfl)))
  have e : Qf l (fun z0 => Qo z0 (Hd.mk s boxes l o x)) = some (Hb4 (fun y : Stowed => decide (H19 x.Slot y.Slot)) l) := h
  unfold Z0 Qn
  refine H1 (H8 e (Gk (Gk ?_)))
  rw [H2b, List.any_eq_true]
  exact ⟨fun ⟨y, hy, h⟩ => ⟨y, hy, of_decide_eq_true h⟩, fun ⟨y, hy, h⟩ => ⟨y, hy, decide_eq_true h⟩⟩
theorem put_spec {F : Nat} {s : Gt} {boxes : List Ga} {l : List Stowed} {o : List Int} (h : Sta s boxes l) (hO : G8a s o) (hF : 20 ≤ F) {x : Stowed} {b : Ga} (hb : Yd boxes x.Ga = some b) (hz : b.Size = 20 ∨ b.Size = 40) (hx : x.Ga ∉ l.map (·.Ga)) :
    Wp (Z1 F s boxes l o x) (PutR s boxes l o x b.Size) := by
  have hs := G51 h.ship
  have hl := h.len
  unfold Z1
  refine H8 (h.checked hO) (He (fun h => by cases h) (fun _ => H8 (Hab boxes x.Ga) ?_))
  rw [hb]
  refine He (fun hh => ?_) (fun _ => H8 (find_no hx) (He (fun hh => by simp at hh) (fun _ => ?_)))
  · simp only [Bool.not_true, Bool.false_or, Bool.and_eq_true, decide_eq_true_eq] at hh
    omega
  refine H1 (wp_mono (J27 s x.Slot b.Size) (fun r15 h15 => He (fun hh => Gk (.inl ⟨fun hk => ?_, rfl⟩)) (fun hh => ?_)))
  · rw [h15.2 hk] at hh; cases hh
  have hslot : G1d s x.Slot b.Size := h15.1 (by simpa using hh)
  have htier : -1000000 ≤ x.Slot.Tier ∧ x.Slot.Tier ≤ 1000000 := by
    obtain ⟨m, c, _, hc, ht⟩ := hslot.col
    have := hs.tiers c (List.mem_of_getElem? hc)
    have := hslot.tier
    omega
  obtain ⟨q, hq, hins⟩ := result_spec (F := F) (p := Hd.mk s boxes l o x) (by show l.length ≤ 1000; omega) (by show l.length < F; omega)
  have hql : q.length ≤ 1000000 := by
    obtain ⟨pre, post, e1, e2, _⟩ := hins
    have : l = pre ++ post := e1
    rw [e2]
    have h2 := congrArg List.length this
    simp only [List.length_append, List.length_cons] at h2 ⊢
    omega
  refine R9 (by decide) ?_
  rw [show (4 : Int).toNat = 4 from rfl]
  refine wp_upto (fun i _ => (1 ≤ i → ¬ H94 s o x.Slot) ∧ (2 ≤ i → ¬ MetP l x.Slot) ∧ (3 ≤ i → Gd6 x.Slot (l.map (·.Slot))) ∧ (4 ≤ i → FitC s boxes q x.Slot)) ⟨fun h => by omega, fun h => by omega, fun h => by omega, fun h => by omega⟩ (fun i u nx hi hI hnx => ?_) (fun u hI => ?_)
  · obtain ⟨i1, i2, i3, i4⟩ := hI
    refine G4e (fun _ => (1 ≤ i + 1 → ¬ H94 s o x.Slot) ∧ (2 ≤ i + 1 → ¬ MetP l x.Slot) ∧ (3 ≤ i + 1 → Gd6 x.Slot (l.map (·.Slot))) ∧ (4 ≤ i + 1 → FitC s boxes q x.Slot)) (fun K hK => ?_) (fun j hj => hnx _ hj)
    refine He (fun h0 => ?_) (fun h0 => He (fun h1 => ?_) (fun h1 => He (fun h2 => ?_) (fun h2 => He (fun h3 => ?_) (fun h3 => ?_))))
    · have h0 := of_decide_eq_true h0
      refine H1 (wp_mono (shut_spec h hslot) (fun r hr => He (fun hh => Q0 ⟨by omega, by omega⟩ (Gk (.inr ⟨hslot, .inl ⟨hr.1 hh, ?_⟩⟩))) (fun hh => hK _ ⟨fun _ hk => ?_, fun h => by omega, fun h => by omega, fun h => by omega⟩)))
      · rw [h0]; rfl
      · rw [hr.2 hk] at hh; cases hh
    · have h0 := of_decide_eq_false h0
      have h1 := of_decide_eq_true h1
      refine H1 (wp_mono met_spec (fun r hr => He (fun hh => Q0 ⟨by omega, by omega⟩ (Gk (.inr ⟨hslot, .inr ⟨i1 (by omega), .inl ⟨hr.1 hh, ?_⟩⟩⟩))) (fun hh => hK _ ⟨fun _ => i1 (by omega), fun _ hk => ?_, fun h => by omega, fun h => by omega⟩)))
      · rw [h1]; rfl
      · rw [hr.2 hk] at hh; cases hh
    · have h2 := of_decide_eq_true h2
      unfold Za
      refine H1 (H8 (J23 l (by omega)) (H1 (wp_mono (slot_held x.Slot (l.map (·.Slot)) htier) (fun r hr => Gk (He (fun hh => Q0 ⟨by omega, by omega⟩ (Gk (.inr ⟨hslot, .inr ⟨i1 (by omega), .inr ⟨i2 (by omega), .inl ⟨fun hk => ?_, ?_⟩⟩⟩⟩))) (fun hh => hK _ ⟨fun _ => i1 (by omega), fun _ => i2 (by omega), fun _ => hr.1 (by simpa using hh), fun h => by omega⟩))))))
      · rw [hr.2 hk] at hh; cases hh
      · rw [h2]; rfl
    · have h3 := of_decide_eq_true h3
      obtain ⟨m, c, hm, hc, _⟩ := hslot.col
      have hfc : FitC s boxes q x.Slot ↔ H5d boxes q m c := by
        refine ⟨fun hf => hf m c hm hc, fun hf m' c' e1 e2 => ?_⟩
        have : m' = m := by omega
        subst this
        rw [hc] at e2; cases e2
        exact hf
      unfold Zr
      refine H1 (H8 hq ?_)
      show Wp (bnd (G1e s boxes q x.Slot.G3) _) _
      rw [hm]
      refine H1 (wp_mono (stow_fits hc hql) (fun r hr => Gk (He (fun hh => Q0 ⟨by omega, by omega⟩ (Gk (.inr ⟨hslot, .inr ⟨i1 (by omega), .inr ⟨i2 (by omega), .inr ⟨i3 (by omega), q, hins, .inl ⟨fun hk => ?_, ?_⟩⟩⟩⟩⟩))) (fun hh => hK _ ⟨fun _ => i1 (by omega), fun _ => i2 (by omega), fun _ => i3 (by omega), fun _ => hfc.2 (hr.1 (by simpa using hh))⟩))))
      · rw [hr.2 (hfc.1 hk)] at hh; cases hh
      · rw [h3]; rfl
    · have a0 := of_decide_eq_false h0
      have a1 := of_decide_eq_false h1
      have a2 := of_decide_eq_false h2
      have a3 := of_decide_eq_false h3
      omega
  · obtain ⟨i1, i2, i3, i4⟩ := hI
    exact H8 hq (Gk (.inr ⟨hslot, .inr ⟨i1 (by omega), .inr ⟨i2 (by omega), .inr ⟨i3 (by omega), q, hins, .inr ⟨i4 (by omega), rfl⟩⟩⟩⟩⟩))
end Go.Proofs.YtbljcmgjmieffaaGreat
