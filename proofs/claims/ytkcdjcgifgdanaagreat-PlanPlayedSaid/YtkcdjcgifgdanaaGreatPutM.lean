/-
  What Free, Take, Open, Close and Put return, of states that are right.
-/
import Derived.Test.YtkcdjcgifgdanaaGreatPutL
set_option linter.unusedSimpArgs false
set_option linter.unnecessarySimpa false
set_option maxRecDepth 100000
set_option linter.unusedVariables false
namespace Go.Proofs.YtkcdjcgifgdanaaGreat
open Go.RowKit

theorem wp_dec {m : Option Bool} {p : Prop} [Decidable p] (h : Wp m (fun r => r = true ↔ p)) : m = some (decide p) := by
  obtain ⟨r, hr, h⟩ := h
  rw [hr]
  congr 1
  cases r with
  | false => exact (decide_eq_false (fun hp => by have := h.2 hp; cases this)).symm
  | true => exact (decide_eq_true (h.1 rfl)).symm
instance (a b : Slot) : Decidable (Gff a b) := by unfold Gff G9e; infer_instance
/-- What stands in a hold under a cover that is not open. -/
def H3e (s : Gw) (o : List Int) (x : Slot) : Prop := ∃ (m : Nat) (c : G4), x.G4 = (m : Int) ∧ s.Columns[m]? = some c ∧ c.Deck = false ∧ 0 ≤ Qd s c ∧ Qd s c ∉ o
theorem find_at {l : List Stowed} (hs : l.Pairwise (fun a b => a.Gd < b.Gd)) {x : Stowed} (hx : x ∈ l) : ∃ q : Nat, Zu l x.Gd = some (q : Int) ∧ l[q]? = some x := by
  rw [J71]
  rcases G03 (fun z : Stowed => decide (z.Gd = x.Gd)) l with ⟨_, h2, _⟩ | ⟨q, x1, h1, h2, h3, _⟩
  · have := h2 x hx; rw [decide_eq_true rfl] at this; cases this
  have hx1 : x1 = x := H89 hs (List.mem_of_getElem? h2) hx (of_decide_eq_true h3)
  subst hx1
  exact ⟨q, by rw [h1], h2⟩
theorem find_no {l : List Stowed} {id : Int} (hx : id ∉ l.map (·.Gd)) : Zu l id = some (-1) := by
  rw [J71]
  rcases G03 (fun z : Stowed => decide (z.Gd = id)) l with ⟨h1, _, _⟩ | ⟨q, x1, h1, h2, h3, _⟩
  · rw [h1]
  · exact (hx (List.mem_map.2 ⟨x1, List.mem_of_getElem? h2, of_decide_eq_true h3⟩)).elim
theorem H39 {o : List Int} {v : Int} : o.any (fun y => decide (v = y)) = true ↔ v ∈ o := by
  rw [List.any_eq_true]
  exact ⟨fun ⟨y, hy, e⟩ => of_decide_eq_true e ▸ hy, fun h => ⟨v, h, decide_eq_true rfl⟩⟩
theorem contains_no {o : List Int} {v : Int} : o.any (fun y => decide (v = y)) = false ↔ v ∉ o := by
  rw [← Bool.not_eq_true, H39]
theorem Sta.checked {s : Gw} {boxes : List Gd} {l : List Stowed} (h : Sta s boxes l) {o : List Int} (hO : Zm s o) : Y6 s boxes l o = some true := by
  have hl := h.len
  exact Yn (wp_mono (checked_spec (G6e h.ship) boxes l o (by omega)) (fun r hr => hr.2 ⟨hO, h.right⟩))
theorem free_spec {s : Gw} {boxes : List Gd} {l : List Stowed} {o : List Int} (h : Sta s boxes l) (hO : Zm s o) {x : Stowed} (hx : x ∈ l) :
    Wp (G1a s boxes l o x.Gd) (fun r => (r = 90 ∧ G8c l x.Slot ≠ []) ∨ (r = 91 ∧ G8c l x.Slot = [] ∧ H3e s o x.Slot) ∨ (r = 0 ∧ G8c l x.Slot = [] ∧ ¬ H3e s o x.Slot)) := by
  have hs := G6e h.ship
  unfold G1a
  refine Gu (h.checked hO) (H3 (fun h => by cases h) (fun _ => Gu (above_at h hx) (H3 (fun h => (of_decide_eq_true h rfl).elim) (fun _ => H3 (fun h => Gh (.inl ⟨rfl, fun e => ?_⟩)) (fun h0 => ?_)))))
  · rw [e] at h; exact absurd (of_decide_eq_true h) (by simp)
  have h0 : G8c l x.Slot = [] := List.eq_nil_of_length_eq_zero (by have := of_decide_eq_false h0; simp only at this; omega)
  obtain ⟨q, hq1, hq2⟩ := find_at h.right.sorted hx
  obtain ⟨m, c, hm, hc⟩ := h.colIn hx
  refine Gu hq1 (Qt rfl hq2 ?_)
  rw [hm]
  refine Gu (stow_hatch hc (fun x hx => by have := hs.rows x hx; omega) (by have := hs.covs; omega)) ?_
  have hcl : H3e s o x.Slot ↔ (c.Deck = false ∧ 0 ≤ Qd s c ∧ Qd s c ∉ o) := by
    constructor
    · rintro ⟨m', c', e1, e2, e3, e4, e5⟩
      have : m' = m := by omega
      subst this
      rw [hc] at e2; cases e2
      exact ⟨e3, e4, e5⟩
    · rintro ⟨e3, e4, e5⟩
      exact ⟨m, c, hm, hc, e3, e4, e5⟩
  by_cases hd : c.Deck = true
  · rw [if_pos hd]
    exact H0 (Gh (H3 (fun h => by cases h) (fun _ => Gh (.inr (.inr ⟨rfl, h0, fun hh => by rw [(hcl.1 hh).1] at hd; cases hd⟩)))))
  rw [if_neg hd]
  have hd : c.Deck = false := by simpa using hd
  by_cases hk : 0 ≤ Qd s c
  · rw [decide_eq_true hk]
    simp only [cond_true, Bool.true_and]
    refine Gu (H38 _ _) (H3 (fun h => Gh (.inr (.inl ⟨rfl, h0, hcl.2 ⟨hd, hk, contains_no.1 (by simpa using h)⟩⟩))) (fun h => Gh (.inr (.inr ⟨rfl, h0, fun hh => (hcl.1 hh).2.2 (H39.1 (by simpa using h))⟩))))
  · rw [decide_eq_false hk]
    exact H0 (Gh (H3 (fun h => by cases h) (fun _ => Gh (.inr (.inr ⟨rfl, h0, fun hh => hk (hcl.1 hh).2.1⟩)))))
theorem take_spec {s : Gw} {boxes : List Gd} {l : List Stowed} {o : List Int} (h : Sta s boxes l) {x : Stowed} (hx : x ∈ l) {v : Int} (hv : G1a s boxes l o x.Gd = some v) :
    Wp (G3b s boxes l o x.Gd) (fun r => r.2 = v ∧ (v = 0 → ∃ pre post, l = pre ++ x :: post ∧ r.1 = pre ++ post)) := by
  unfold G3b
  refine Gu hv (H3 (fun h => Gh ⟨rfl, fun e => (of_decide_eq_true h e).elim⟩) (fun h0 => ?_))
  have h0 : v = 0 := by have := of_decide_eq_false h0; omega
  obtain ⟨q, hq1, hq2⟩ := find_at h.right.sorted hx
  refine Gu hq1 ?_
  have hlt := (List.getElem?_eq_some_iff.1 hq2).1
  have hl := h.len
  have e : Rh l (q : Int) = some (l.eraseIdx q) := by
    unfold Rh
    rw [decide_eq_true (show (0 : Int) ≤ (q : Int) by omega), decide_eq_true (show (q : Int) < (l.length : Int) by omega), decide_eq_true (show l.length ≤ 100000 by omega), show ((q : Int)).toNat = q by omega]
    rfl
  refine Gu e (Gh ⟨h0.symm, fun _ => ⟨l.take q, l.drop (q + 1), ?_, ?_⟩⟩)
  · have hg : l[q] = x := Option.some.inj ((List.getElem?_eq_getElem hlt).symm.trans hq2)
    have := List.take_append_drop q l
    rw [List.drop_eq_getElem_cons hlt, hg] at this
    exact this.symm
  · exact List.eraseIdx_eq_take_drop_succ l q
/-- No box of a state stands upon a cover. -/
def G59 (s : Gw) (l : List Stowed) (k : Int) : Prop := ∀ y ∈ l, ∀ (m : Nat) (c : G4), y.Slot.G4 = (m : Int) → s.Columns[m]? = some c → c.Deck = true → Qd s c ≠ k
theorem open_spec {F : Nat} {s : Gw} {boxes : List Gd} {l : List Stowed} {o : List Int} (h : Sta s boxes l) (hO : Zm s o) (hF : 20 ≤ F) {k : Nat} (hk : k < s.Covers.length) :
    Wp (Gad F s boxes l o (k : Int)) (fun r => (¬ G59 s l (k : Int) ∧ r = ([], 95)) ∨ (G59 s l (k : Int) ∧ r.2 = 0 ∧ Zm s r.1 ∧ ∀ a, a ∈ r.1 ↔ a ∈ o ∨ a = (k : Int))) := by
  have hs := G6e h.ship
  have hl := h.len
  have hcl := h.ship.covs.len
  have hol := hO.len
  unfold Gad
  refine Gu (h.checked hO) (H3 (fun h => by cases h) (fun _ => H3 (fun h => ?_) (fun _ => ?_)))
  · simp only [Bool.or_eq_true, decide_eq_true_eq] at h; omega
  refine H0 (wp_mono (stow_upon (J82 h.ship) hk (fun x hx => by have := hs.rows x hx; omega) (by omega)) (fun up hup => H3 (fun hh => Gh (.inl ⟨fun h0 => ?_, rfl⟩)) (fun hh => ?_)))
  · have hh := of_decide_eq_true hh
    obtain ⟨a, ha⟩ : ∃ a, a ∈ up := by
      cases up with
      | nil => simp at hh
      | cons a r => exact ⟨a, by simp⟩
    obtain ⟨y, hy, _, m, c, e1, e2, e3, e4⟩ := (hup a).1 ha
    exact h0 y hy m c e1 e2 e3 e4
  have hno : G59 s l (k : Int) := fun y hy m c e1 e2 e3 e4 => by
    have := (hup y.Gd).2 ⟨y, hy, rfl, m, c, e1, e2, e3, e4⟩
    have hh := of_decide_eq_false hh
    have : up ≠ [] := fun e => by rw [e] at this; cases this
    have := List.length_pos_iff.2 this
    omega
  refine H0 (wp_mono (J1d hO.sorted (by omega) (by omega)) (fun r hr => ?_))
  obtain ⟨n, h1, h2, h3, h4, h5⟩ := hr
  refine H3 (fun hf => ?_) (fun hf => ?_)
  · have hin : (k : Int) ∈ o := List.mem_of_getElem? (h5.1 hf)
    have e : Jv o = some o := by
      unfold Jv
      refine H7d (fun b hb => ?_)
      cases b with
      | true => rw [hb rfl]; rfl
      | false =>
        show need _ _ = _
        unfold need
        rw [room8L (by simp only [List.length_nil]; omega)]
        rfl
    exact Gu e (Gh (.inr ⟨hno, rfl, hO, fun a => ⟨.inl, fun hh => hh.elim id (fun e => e ▸ hin)⟩⟩))
  · have hf : ¬ o[n]? = some (k : Int) := fun e => by rw [h5.2 e] at hf; cases hf
    have e : G24 o r.1 (k : Int) = some (o.take n ++ (k : Int) :: o.drop n) := by
      unfold G24
      rw [h1, decide_eq_true (show (0 : Int) ≤ (n : Int) by omega), decide_eq_true (show (n : Int) ≤ (o.length : Int) by omega), decide_eq_true (show o.length ≤ 100000 by omega), show ((n : Int)).toNat = n by omega]
      rfl
    have hmem : ∀ a, a ∈ o.take n ++ (k : Int) :: o.drop n ↔ a ∈ o ∨ a = (k : Int) := fun a => by
      have : a ∈ o ↔ a ∈ o.take n ∨ a ∈ o.drop n := by rw [← List.mem_append, List.take_append_drop]
      rw [this, List.mem_append, List.mem_cons]
      constructor
      · rintro (h | h | h)
        · exact .inl (.inl h)
        · exact .inr h
        · exact .inl (.inr h)
      · rintro ((h | h) | h)
        · exact .inl h
        · exact .inr (.inr h)
        · exact .inr (.inl h)
    refine Gu e (Gh (.inr ⟨hno, rfl, ⟨fun a ha => ?_, ?_⟩, hmem⟩))
    · rcases (hmem a).1 ha with h | h
      · exact hO.mem a h
      · omega
    · have hso := hO.sorted
      rw [← List.take_append_drop n o, List.pairwise_append] at hso
      refine List.pairwise_append.2 ⟨hso.1, List.pairwise_cons.2 ⟨fun a ha => ?_, hso.2.1⟩, fun a ha b hb => ?_⟩
      · have h6 := h4 a ha
        have : a ≠ (k : Int) := fun e => by
          subst e
          obtain ⟨j, hj, e2⟩ := List.mem_iff_getElem.1 ha
          rw [List.length_drop] at hj
          rw [List.getElem_drop] at e2
          have hp := List.pairwise_iff_getElem.1 hO.sorted
          rcases Nat.eq_zero_or_pos j with g | g
          · subst g
            exact hf (by rw [← e2]; simp [List.getElem?_eq_getElem (show n < o.length by omega)])
          · have g1 := hp n (n + j) (by omega) (by omega) (by omega)
            have g2 := h4 o[n] (List.mem_iff_getElem.2 ⟨0, by rw [List.length_drop]; omega, by rw [List.getElem_drop]; simp⟩)
            omega
        omega
      · rcases List.mem_cons.1 hb with rfl | hb
        · exact h3 a ha
        · exact hso.2.2 a ha b hb
end Go.Proofs.YtkcdjcgifgdanaaGreat
