/-
  What Put returns, and that states stay right.
-/
import Derived.Test.YtbljcmgjmieffaaGreatPutM
set_option linter.unusedSimpArgs false
set_option linter.unnecessarySimpa false
set_option maxRecDepth 100000
set_option linter.unusedVariables false
namespace Go.Proofs.YtbljcmgjmieffaaGreat
open Go.RowKit

theorem addH_add {boxes : List Ga} {m half n : Int} {x : Stowed} : G6e boxes m half n x = n + G6e boxes m half 0 x := by
  unfold G6e
  split
  · cases Y2 boxes x.Ga with
    | some b => simp only; omega
    | none => simp
  · simp
theorem J3f {boxes : List Ga} {m half : Int} : ∀ (l : List Stowed) (n : Int), l.foldl (G6e boxes m half) n = n + l.foldl (G6e boxes m half) 0 := by
  intro l
  induction l with
  | nil => intro n; simp
  | cons x r ih =>
    intro n
    rw [List.foldl_cons, List.foldl_cons, ih (G6e boxes m half n x), ih (G6e boxes m half 0 x), addH_add (n := n)]
    omega
theorem G79 {boxes : List Ga} {m half : Int} (pre post : List Stowed) (x : Stowed) : G47 boxes (pre ++ x :: post) m half = G47 boxes (pre ++ post) m half + G6e boxes m half 0 x := by
  unfold G47
  rw [List.foldl_append, List.foldl_cons, List.foldl_append, J3f post (G6e boxes m half _ x), J3f post (List.foldl _ 0 pre), addH_add]
  omega
theorem H71 {boxes : List Ga} {m half n : Int} {x : Stowed} (h : x.Slot.G3 ≠ m) : G6e boxes m half n x = n := by
  unfold G6e
  rw [if_neg (fun hh => h hh.1)]
theorem G1b {l : List Stowed} {y : Slot} {half : Int} (h : below (l.map (·.Slot)) y half) : ∃ z ∈ l, z.Slot = ⟨y.G3, y.Tier - 1, half⟩ := by
  obtain ⟨z, hz, e⟩ := List.mem_map.1 h
  exact ⟨z, hz, e⟩
/-- A box in a list that is in order. -/
def He2 (l : List Stowed) (x : Stowed) (r : List Stowed) : Prop := ∃ pre post, l = pre ++ post ∧ r = pre ++ x :: post ∧ (∀ y ∈ pre, y.Ga < x.Ga) ∧ (∀ y, post.head? = some y → x.Ga ≤ y.Ga)
theorem result_spec {F : Nat} {p : Hd} (hl : p.l.length ≤ 1000) (hF : p.l.length < F) : Wp (Qz F p) (He2 p.l p.x) := by
  unfold Qz
  refine wp_loop (fun n => ∃ k : Nat, n = (k : Int) ∧ k ≤ p.l.length ∧ ∀ y ∈ p.l.take k, y.Ga < p.x.Ga) (fun n => ((p.l.length : Int) - n).toNat) ⟨0, rfl, Nat.zero_le _, fun y hy => by rw [List.take_zero] at hy; cases hy⟩ (by show ((p.l.length : Int) - 0).toNat < F; omega) (fun n nx hI hnx => ?_)
  obtain ⟨k, rfl, h1, h2⟩ := hI
  have done : (∀ y, (p.l.drop k).head? = some y → p.x.Ga ≤ y.Ga) → Wp (bnd (Qy p.l (k : Int) p.x) fun r16 => some r16) (He2 p.l p.x) := fun h3 => by
    have e : Qy p.l (k : Int) p.x = some (p.l.take k ++ p.x :: p.l.drop k) := by
      unfold Qy
      rw [decide_eq_true (show (0 : Int) ≤ (k : Int) by omega), decide_eq_true (show (k : Int) ≤ (p.l.length : Int) by omega), decide_eq_true (show p.l.length ≤ 100000 by omega), show ((k : Int)).toNat = k by omega]
      rfl
    exact H3 e (Gj ⟨p.l.take k, p.l.drop k, (List.take_append_drop k p.l).symm, rfl, h2, h3⟩)
  by_cases hk : k < p.l.length
  · have hg : p.l[k]? = some p.l[k] := List.getElem?_eq_getElem hk
    rw [decide_eq_true (show (k : Int) < (p.l.length : Int) by omega)]
    simp only [cond_true, Bool.true_and]
    refine H1 (Qw rfl hg (Gj (He (fun h => Qd ⟨by omega, by omega⟩ (hnx _ ⟨k + 1, by simp, by omega, fun y hy => ?_⟩ (by omega))) (fun h => done fun y hy => ?_))))
    · rw [List.take_succ_eq_append_getElem hk] at hy
      rcases List.mem_append.1 hy with hy | hy
      · exact h2 y hy
      · rw [List.mem_singleton] at hy; subst hy
        exact of_decide_eq_true h
    · rw [List.head?_drop, hg] at hy
      cases hy
      have := of_decide_eq_false h
      omega
  · rw [decide_eq_false (show ¬ ((k : Int) < (p.l.length : Int)) by omega)]
    refine H1 (Gj (He (fun h => by cases h) (fun _ => done fun y hy => ?_)))
    rw [List.head?_drop, List.getElem?_eq_none (by omega)] at hy
    cases hy
/-- Where a cover bars a slot: it is shut upon a hold, or open beneath a deck. -/
def H98 (s : Gt) (o : List Int) (x : Slot) : Prop := ∃ (m : Nat) (c : G3), x.G3 = (m : Int) ∧ s.Columns[m]? = some c ∧ 0 ≤ Qr s c ∧ (c.Deck = true ↔ Qr s c ∈ o)
def MetP (l : List Stowed) (x : Slot) : Prop := ∃ y ∈ l, H16 x y.Slot
def FitC (s : Gt) (boxes : List Ga) (q : List Stowed) (x : Slot) : Prop := ∀ (m : Nat) (c : G3), x.G3 = (m : Int) → s.Columns[m]? = some c → H3a boxes q m c
def PutR (s : Gt) (boxes : List Ga) (l : List Stowed) (o : List Int) (x : Stowed) (size : Int) (r : List Stowed × Int) : Prop :=
  (¬ G1c s x.Slot size ∧ r = ([], 97)) ∨ (G1c s x.Slot size ∧ ((H98 s o x.Slot ∧ r = ([], 91)) ∨ (¬ H98 s o x.Slot ∧ ((MetP l x.Slot ∧ r = ([], 92)) ∨ (¬ MetP l x.Slot ∧ ((¬ Gf2 x.Slot (l.map (·.Slot)) ∧ r = ([], 93)) ∨ (Gf2 x.Slot (l.map (·.Slot)) ∧ ∃ q, He2 l x q ∧ ((¬ FitC s boxes q x.Slot ∧ r = ([], 94)) ∨ (FitC s boxes q x.Slot ∧ r = (q, 0))))))))))
theorem shut_spec {s : Gt} {boxes : List Ga} {l : List Stowed} {o : List Int} (h : J4c s boxes l) {x : Stowed} {size : Int} (hx : G1c s x.Slot size) : Wp (Yk (Hd.mk s boxes l o x)) (fun r => r = true ↔ H98 s o x.Slot) := by
  have hs := G2b h.ship
  obtain ⟨m, c, hm, hc, _⟩ := hx.col
  have hcl : H98 s o x.Slot ↔ (0 ≤ Qr s c ∧ (c.Deck = true ↔ Qr s c ∈ o)) := by
    constructor
    · rintro ⟨m', c', e1, e2, e3⟩
      have : m' = m := by omega
      subst this
      rw [hc] at e2; cases e2
      exact e3
    · exact fun e => ⟨m, c, hm, hc, e⟩
  unfold Yk
  show Wp (bnd (Z4 s x.Slot.G3) _) _
  rw [hm]
  refine H3 (H83 hc (fun x hx => by have := hs.rows x hx; omega) (by have := hs.covs; omega)) ?_
  by_cases hk : 0 ≤ Qr s c
  · rw [decide_eq_true hk]
    simp only [cond_true, Bool.true_and]
    refine H1 (Qw rfl hc (Gj (H3 (H09 _ _) (Gj ?_))))
    rw [hcl, beq_iff_eq, Bool.eq_iff_iff, H0a]
    exact ⟨fun h => ⟨hk, h⟩, fun h => h.2⟩
  · rw [decide_eq_false hk]
    refine H1 (Gj (H1 (Gj (Gj (Gb9 fun hh => hk (hcl.1 hh).1)))))
theorem met_spec {s : Gt} {boxes : List Ga} {l : List Stowed} {o : List Int} {x : Stowed} : Wp (Z2 (Hd.mk s boxes l o x)) (fun r => r = true ↔ MetP l x.Slot) := by
  have h := H29 (p := fun y : Stowed => decide (H16 x.Slot y.Slot)) (f := fun z0 => Qp z0 (Hd.mk s boxes l o x)) (xs := l) (fun y _ => by
    unfold Qp
    exact G33 (H3 (wp_dec (slot_meet x.Slot y.Slot)) (Gj rfl)))
  have e : Qg l (fun z0 => Qp z0 (Hd.mk s boxes l o x)) = some (Hb4 (fun y : Stowed => decide (H16 x.Slot y.Slot)) l) := h
  unfold Z2 Qo
  refine H1 (H3 e (Gj (Gj ?_)))
  rw [H27, List.any_eq_true]
  exact ⟨fun ⟨y, hy, h⟩ => ⟨y, hy, of_decide_eq_true h⟩, fun ⟨y, hy, h⟩ => ⟨y, hy, decide_eq_true h⟩⟩
theorem put_spec {F : Nat} {s : Gt} {boxes : List Ga} {l : List Stowed} {o : List Int} (h : J4c s boxes l) (hO : G66 s o) (hF : 20 ≤ F) {x : Stowed} {b : Ga} (hb : Y2 boxes x.Ga = some b) (hz : b.Size = 20 ∨ b.Size = 40) (hx : x.Ga ∉ l.map (·.Ga)) :
    Wp (Rx F s boxes l o x) (PutR s boxes l o x b.Size) := by
  have hs := G2b h.ship
  have hl := h.len
  unfold Rx
  refine H3 (h.checked hO) (He (fun h => by cases h) (fun _ => H3 (Hac boxes x.Ga) ?_))
  rw [hb]
  refine He (fun hh => ?_) (fun _ => H3 (find_no hx) (He (fun hh => by simp at hh) (fun _ => ?_)))
  · simp only [Bool.not_true, Bool.false_or, Bool.and_eq_true, decide_eq_true_eq] at hh
    omega
  refine H1 (wp_mono (J2b s x.Slot b.Size) (fun r15 h15 => He (fun hh => Gj (.inl ⟨fun hk => ?_, rfl⟩)) (fun hh => ?_)))
  · rw [h15.2 hk] at hh; cases hh
  have hslot : G1c s x.Slot b.Size := h15.1 (by simpa using hh)
  have htier : -1000000 ≤ x.Slot.Tier ∧ x.Slot.Tier ≤ 1000000 := by
    obtain ⟨m, c, _, hc, ht⟩ := hslot.col
    have := hs.tiers c (List.mem_of_getElem? hc)
    have := hslot.tier
    omega
  obtain ⟨q, hq, hins⟩ := result_spec (F := F) (p := Hd.mk s boxes l o x) (by show l.length ≤ 1000; omega) (by show l.length < F; omega)
  have hql : q.length ≤ 1000000 := by
    obtain ⟨pre, post, e1, e2, _⟩ := hins
    have : l = pre ++ post := e1
    rw [e2]
    have h2 := congrArg List.length this
    simp only [List.length_append, List.length_cons] at h2 ⊢
    omega
  refine Ra (by decide) ?_
  rw [show (4 : Int).toNat = 4 from rfl]
  refine wp_upto (fun i _ => (1 ≤ i → ¬ H98 s o x.Slot) ∧ (2 ≤ i → ¬ MetP l x.Slot) ∧ (3 ≤ i → Gf2 x.Slot (l.map (·.Slot))) ∧ (4 ≤ i → FitC s boxes q x.Slot)) ⟨fun h => by omega, fun h => by omega, fun h => by omega, fun h => by omega⟩ (fun i u nx hi hI hnx => ?_) (fun u hI => ?_)
  · obtain ⟨i1, i2, i3, i4⟩ := hI
    refine G5e (fun _ => (1 ≤ i + 1 → ¬ H98 s o x.Slot) ∧ (2 ≤ i + 1 → ¬ MetP l x.Slot) ∧ (3 ≤ i + 1 → Gf2 x.Slot (l.map (·.Slot))) ∧ (4 ≤ i + 1 → FitC s boxes q x.Slot)) (fun K hK => ?_) (fun j hj => hnx _ hj)
    refine He (fun h0 => ?_) (fun h0 => He (fun h1 => ?_) (fun h1 => He (fun h2 => ?_) (fun h2 => He (fun h3 => ?_) (fun h3 => ?_))))
    · have h0 := of_decide_eq_true h0
      refine H1 (wp_mono (shut_spec h hslot) (fun r hr => He (fun hh => Qd ⟨by omega, by omega⟩ (Gj (.inr ⟨hslot, .inl ⟨hr.1 hh, ?_⟩⟩))) (fun hh => hK _ ⟨fun _ hk => ?_, fun h => by omega, fun h => by omega, fun h => by omega⟩)))
      · rw [h0]; rfl
      · rw [hr.2 hk] at hh; cases hh
    · have h0 := of_decide_eq_false h0
      have h1 := of_decide_eq_true h1
      refine H1 (wp_mono met_spec (fun r hr => He (fun hh => Qd ⟨by omega, by omega⟩ (Gj (.inr ⟨hslot, .inr ⟨i1 (by omega), .inl ⟨hr.1 hh, ?_⟩⟩⟩))) (fun hh => hK _ ⟨fun _ => i1 (by omega), fun _ hk => ?_, fun h => by omega, fun h => by omega⟩)))
      · rw [h1]; rfl
      · rw [hr.2 hk] at hh; cases hh
    · have h2 := of_decide_eq_true h2
      unfold Zb
      refine H1 (H3 (J27 l (by omega)) (H1 (wp_mono (slot_held x.Slot (l.map (·.Slot)) htier) (fun r hr => Gj (He (fun hh => Qd ⟨by omega, by omega⟩ (Gj (.inr ⟨hslot, .inr ⟨i1 (by omega), .inr ⟨i2 (by omega), .inl ⟨fun hk => ?_, ?_⟩⟩⟩⟩))) (fun hh => hK _ ⟨fun _ => i1 (by omega), fun _ => i2 (by omega), fun _ => hr.1 (by simpa using hh), fun h => by omega⟩))))))
      · rw [hr.2 hk] at hh; cases hh
      · rw [h2]; rfl
    · have h3 := of_decide_eq_true h3
      obtain ⟨m, c, hm, hc, _⟩ := hslot.col
      have hfc : FitC s boxes q x.Slot ↔ H3a boxes q m c := by
        refine ⟨fun hf => hf m c hm hc, fun hf m' c' e1 e2 => ?_⟩
        have : m' = m := by omega
        subst this
        rw [hc] at e2; cases e2
        exact hf
      unfold Zs
      refine H1 (H3 hq ?_)
      show Wp (bnd (G1d s boxes q x.Slot.G3) _) _
      rw [hm]
      refine H1 (wp_mono (stow_fits hc hql) (fun r hr => Gj (He (fun hh => Qd ⟨by omega, by omega⟩ (Gj (.inr ⟨hslot, .inr ⟨i1 (by omega), .inr ⟨i2 (by omega), .inr ⟨i3 (by omega), q, hins, .inl ⟨fun hk => ?_, ?_⟩⟩⟩⟩⟩))) (fun hh => hK _ ⟨fun _ => i1 (by omega), fun _ => i2 (by omega), fun _ => i3 (by omega), fun _ => hfc.2 (hr.1 (by simpa using hh))⟩))))
      · rw [hr.2 (hfc.1 hk)] at hh; cases hh
      · rw [h3]; rfl
    · have a0 := of_decide_eq_false h0
      have a1 := of_decide_eq_false h1
      have a2 := of_decide_eq_false h2
      have a3 := of_decide_eq_false h3
      omega
  · obtain ⟨i1, i2, i3, i4⟩ := hI
    exact H3 hq (Gj (.inr ⟨hslot, .inr ⟨i1 (by omega), .inr ⟨i2 (by omega), .inr ⟨i3 (by omega), q, hins, .inr ⟨i4 (by omega), rfl⟩⟩⟩⟩⟩))
end Go.Proofs.YtbljcmgjmieffaaGreat
