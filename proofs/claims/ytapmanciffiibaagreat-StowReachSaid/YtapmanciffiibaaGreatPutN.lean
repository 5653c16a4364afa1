/-
 What Free, Take, Open, Close and Put return, of states that are right. What Put returns, and that states stay right.
-/
import Derived.Test.YtapmanciffiibaaGreatPutL
set_option linter.unusedSimpArgs false
set_option linter.unnecessarySimpa false
set_option maxRecDepth 100000
set_option linter.unusedVariables false
namespace Go.Proofs.YtapmanciffiibaaGreat
open Go.RowKit

instance (a b : Slot) : Decidable (H2e a b) := by unfold H2e H16; infer_instance
/-- What stands in a hold under a cover that is not open. -/
def H4b (s : Gu) (o : List Int) (x : Slot) : Prop := ∃ (m : Nat) (c : G3), x.G3 = (m : Int) ∧ s.Columns[m]? = some c ∧ c.Deck = false ∧ 0 ≤ Qe s c ∧ Qe s c ∉ o
theorem find_at {l : List Stowed} (hs : l.Pairwise (fun a b => a.Ga < b.Ga)) {x : Stowed} (hx : x ∈ l) : ∃ q : Nat, Qq l x.Ga = some (q : Int) ∧ l[q]? = some x := by
  rw [Gf4]
  rcases Yp (fun z : Stowed => decide (z.Ga = x.Ga)) l with ⟨_, h2, _⟩ | ⟨q, x1, h1, h2, h3, _⟩
  · have := h2 x hx; rw [decide_eq_true rfl] at this; cases this
  have hx1 : x1 = x := G5f hs (List.mem_of_getElem? h2) hx (of_decide_eq_true h3)
  subst hx1
  exact ⟨q, by rw [h1], h2⟩
theorem Ge2 {o : List Int} {v : Int} : o.any (fun y => decide (v = y)) = true ↔ v ∈ o := by
  rw [List.any_eq_true]
  exact ⟨fun ⟨y, hy, e⟩ => of_decide_eq_true e ▸ hy, fun h => ⟨v, h, decide_eq_true rfl⟩⟩
theorem contains_no {o : List Int} {v : Int} : o.any (fun y => decide (v = y)) = false ↔ v ∉ o := by
  rw [← Bool.not_eq_true, Ge2]
theorem Hbb.checked {s : Gu} {boxes : List Ga} {l : List Stowed} (h : Hbb s boxes l) {o : List Int} (hO : G3b s o) : Jn s boxes l o = some true := by
  have hl := h.len
  exact G35 (wp_mono (checked_spec (G4f h.ship) boxes l o (by omega)) (fun r hr => hr.2 ⟨hO, h.right⟩))
theorem free_spec {s : Gu} {boxes : List Ga} {l : List Stowed} {o : List Int} (h : Hbb s boxes l) (hO : G3b s o) {x : Stowed} (hx : x ∈ l) :
    Wp (Rm s boxes l o x.Ga) (fun r => (r = 90 ∧ Zb l x.Slot ≠ []) ∨ (r = 91 ∧ Zb l x.Slot = [] ∧ H4b s o x.Slot) ∨ (r = 0 ∧ Zb l x.Slot = [] ∧ ¬ H4b s o x.Slot)) := by
  have hs := G4f h.ship
  unfold Rm
  refine H3 (h.checked hO) (Ha (fun h => by cases h) (fun _ => H3 (above_at h hx) (Ha (fun h => (of_decide_eq_true h rfl).elim) (fun _ => Ha (fun h => Gf (.inl ⟨rfl, fun e => ?_⟩)) (fun h0 => ?_)))))
  · rw [e] at h; exact absurd (of_decide_eq_true h) (by simp)
  have h0 : Zb l x.Slot = [] := List.eq_nil_of_length_eq_zero (by have := of_decide_eq_false h0; simp only at this; omega)
  obtain ⟨q, hq1, hq2⟩ := find_at h.right.sorted hx
  obtain ⟨m, c, hm, hc⟩ := h.colIn hx
  refine H3 hq1 (Rx rfl hq2 ?_)
  rw [hm]
  refine H3 (Hee hc (fun x hx => by have := hs.rows x hx; omega) (by have := hs.covs; omega)) ?_
  have hcl : H4b s o x.Slot ↔ (c.Deck = false ∧ 0 ≤ Qe s c ∧ Qe s c ∉ o) := by
    constructor
    · rintro ⟨m', c', e1, e2, e3, e4, e5⟩
      have : m' = m := by omega
      subst this
      rw [hc] at e2; cases e2
      exact ⟨e3, e4, e5⟩
    · rintro ⟨e3, e4, e5⟩
      exact ⟨m, c, hm, hc, e3, e4, e5⟩
  by_cases hd : c.Deck = true
  · rw [if_pos hd]
    exact Gz (Gf (Ha (fun h => by cases h) (fun _ => Gf (.inr (.inr ⟨rfl, h0, fun hh => by rw [(hcl.1 hh).1] at hd; cases hd⟩)))))
  rw [if_neg hd]
  have hd : c.Deck = false := by simpa using hd
  by_cases hk : 0 ≤ Qe s c
  · rw [decide_eq_true hk]
    simp only [cond_true, Bool.true_and]
    refine H3 (Ge1 _ _) (Ha (fun h => Gf (.inr (.inl ⟨rfl, h0, hcl.2 ⟨hd, hk, contains_no.1 (by simpa using h)⟩⟩))) (fun h => Gf (.inr (.inr ⟨rfl, h0, fun hh => (hcl.1 hh).2.2 (Ge2.1 (by simpa using h))⟩))))
  · rw [decide_eq_false hk]
    exact Gz (Gf (Ha (fun h => by cases h) (fun _ => Gf (.inr (.inr ⟨rfl, h0, fun hh => hk (hcl.1 hh).2.1⟩)))))
theorem take_spec {s : Gu} {boxes : List Ga} {l : List Stowed} {o : List Int} (h : Hbb s boxes l) {x : Stowed} (hx : x ∈ l) {v : Int} (hv : Rm s boxes l o x.Ga = some v) :
    Wp (G00 s boxes l o x.Ga) (fun r => r.2 = v ∧ (v = 0 → ∃ pre post, l = pre ++ x :: post ∧ r.1 = pre ++ post)) := by
  unfold G00
  refine H3 hv (Ha (fun h => Gf ⟨rfl, fun e => (of_decide_eq_true h e).elim⟩) (fun h0 => ?_))
  have h0 : v = 0 := by have := of_decide_eq_false h0; omega
  obtain ⟨q, hq1, hq2⟩ := find_at h.right.sorted hx
  refine H3 hq1 ?_
  have hlt := (List.getElem?_eq_some_iff.1 hq2).1
  have hl := h.len
  have e : Qk l (q : Int) = some (l.eraseIdx q) := by
    unfold Qk
    rw [decide_eq_true (show (0 : Int) ≤ (q : Int) by omega), decide_eq_true (show (q : Int) < (l.length : Int) by omega), decide_eq_true (show l.length ≤ 100000 by omega), show ((q : Int)).toNat = q by omega]
    rfl
  refine H3 e (Gf ⟨h0.symm, fun _ => ⟨l.take q, l.drop (q + 1), ?_, ?_⟩⟩)
  · have hg : l[q] = x := Option.some.inj ((List.getElem?_eq_getElem hlt).symm.trans hq2)
    have := List.take_append_drop q l
    rw [List.drop_eq_getElem_cons hlt, hg] at this
    exact this.symm
  · exact List.eraseIdx_eq_take_drop_succ l q
/-- No box of a state stands upon a cover. -/
def H05 (s : Gu) (l : List Stowed) (k : Int) : Prop := ∀ y ∈ l, ∀ (m : Nat) (c : G3), y.Slot.G3 = (m : Int) → s.Columns[m]? = some c → c.Deck = true → Qe s c ≠ k
theorem open_spec {F : Nat} {s : Gu} {boxes : List Ga} {l : List Stowed} {o : List Int} (h : Hbb s boxes l) (hO : G3b s o) (hF : 20 ≤ F) {k : Nat} (hk : k < s.Covers.length) :
    Wp (G2e F s boxes l o (k : Int)) (fun r => (¬ H05 s l (k : Int) ∧ r = ([], 95)) ∨ (H05 s l (k : Int) ∧ r.2 = 0 ∧ G3b s r.1 ∧ ∀ a, a ∈ r.1 ↔ a ∈ o ∨ a = (k : Int))) := by
  have hs := G4f h.ship
  have hl := h.len
  have hcl := h.ship.covs.len
  have hol := hO.len
  unfold G2e
  refine H3 (h.checked hO) (Ha (fun h => by cases h) (fun _ => Ha (fun h => ?_) (fun _ => ?_)))
  · simp only [Bool.or_eq_true, decide_eq_true_eq] at h; omega
  refine Gz (wp_mono (stow_upon (J00 h.ship) hk (fun x hx => by have := hs.rows x hx; omega) (by omega)) (fun up hup => Ha (fun hh => Gf (.inl ⟨fun h0 => ?_, rfl⟩)) (fun hh => ?_)))
  · have hh := of_decide_eq_true hh
    obtain ⟨a, ha⟩ : ∃ a, a ∈ up := by
      cases up with
      | nil => simp at hh
      | cons a r => exact ⟨a, by simp⟩
    obtain ⟨y, hy, _, m, c, e1, e2, e3, e4⟩ := (hup a).1 ha
    exact h0 y hy m c e1 e2 e3 e4
  have hno : H05 s l (k : Int) := fun y hy m c e1 e2 e3 e4 => by
    have := (hup y.Ga).2 ⟨y, hy, rfl, m, c, e1, e2, e3, e4⟩
    have hh := of_decide_eq_false hh
    have : up ≠ [] := fun e => by rw [e] at this; cases this
    have := List.length_pos_iff.2 this
    omega
  refine Gz (wp_mono (search_spec hO.sorted (by omega) (by omega)) (fun r hr => ?_))
  obtain ⟨n, h1, h2, h3, h4, h5⟩ := hr
  refine Ha (fun hf => ?_) (fun hf => ?_)
  · have hin : (k : Int) ∈ o := List.mem_of_getElem? (h5.1 hf)
    have e : Jk o = some o := by
      unfold Jk
      refine H88 (fun b hb => ?_)
      cases b with
      | true => rw [hb rfl]; rfl
      | false =>
        show need _ _ = _
        unfold need
        rw [room8L (by simp only [List.length_nil]; omega)]
        rfl
    exact H3 e (Gf (.inr ⟨hno, rfl, hO, fun a => ⟨.inl, fun hh => hh.elim id (fun e => e ▸ hin)⟩⟩))
  · have hf : ¬ o[n]? = some (k : Int) := fun e => by rw [h5.2 e] at hf; cases hf
    have e : Zd o r.1 (k : Int) = some (o.take n ++ (k : Int) :: o.drop n) := by
      unfold Zd
      rw [h1, decide_eq_true (show (0 : Int) ≤ (n : Int) by omega), decide_eq_true (show (n : Int) ≤ (o.length : Int) by omega), decide_eq_true (show o.length ≤ 100000 by omega), show ((n : Int)).toNat = n by omega]
      rfl
    have hmem : ∀ a, a ∈ o.take n ++ (k : Int) :: o.drop n ↔ a ∈ o ∨ a = (k : Int) := fun a => by
      have : a ∈ o ↔ a ∈ o.take n ∨ a ∈ o.drop n := by rw [← List.mem_append, List.take_append_drop]
      rw [this, List.mem_append, List.mem_cons]
      constructor
      · rintro (h | h | h)
        · exact .inl (.inl h)
        · exact .inr h
        · exact .inl (.inr h)
      · rintro ((h | h) | h)
        · exact .inl h
        · exact .inr (.inr h)
        · exact .inr (.inl h)
    refine H3 e (Gf (.inr ⟨hno, rfl, ⟨fun a ha => ?_, ?_⟩, hmem⟩))
    · rcases (hmem a).1 ha with h | h
      · exact hO.mem a h
      · omega
    · have hso := hO.sorted
      rw [← List.take_append_drop n o, List.pairwise_append] at hso
      refine List.pairwise_append.2 ⟨hso.1, List.pairwise_cons.2 ⟨fun a ha => ?_, hso.2.1⟩, fun a ha b hb => ?_⟩
      · have h6 := h4 a ha
        have : a ≠ (k : Int) := fun e => by
          subst e
          obtain ⟨j, hj, e2⟩ := List.mem_iff_getElem.1 ha
          rw [List.length_drop] at hj
          rw [List.getElem_drop] at e2
          have hp := List.pairwise_iff_getElem.1 hO.sorted
          rcases Nat.eq_zero_or_pos j with g | g
          · subst g
            exact hf (by rw [← e2]; simp [List.getElem?_eq_getElem (show n < o.length by omega)])
          · have g1 := hp n (n + j) (by omega) (by omega) (by omega)
            have g2 := h4 o[n] (List.mem_iff_getElem.2 ⟨0, by rw [List.length_drop]; omega, by rw [List.getElem_drop]; simp⟩)
            omega
        omega
      · rcases List.mem_cons.1 hb with rfl | hb
        · exact h3 a ha
        · exact hso.2.2 a ha b hb
end Go.Proofs.YtapmanciffiibaaGreat
set_option linter.unusedSimpArgs false
set_option linter.unnecessarySimpa false
set_option maxRecDepth 100000
set_option linter.unusedVariables false
namespace Go.Proofs.YtapmanciffiibaaGreat
open Go.RowKit

theorem addH_add {boxes : List Ga} {m half n : Int} {x : Stowed} : G43 boxes m half n x = n + G43 boxes m half 0 x := by
  unfold G43
  split
  · cases Yw boxes x.Ga with
    | some b => simp only; omega
    | none => simp
  · simp
theorem J04 {boxes : List Ga} {m half : Int} : ∀ (l : List Stowed) (n : Int), l.foldl (G43 boxes m half) n = n + l.foldl (G43 boxes m half) 0 := by
  intro l
  induction l with
  | nil => intro n; simp
  | cons x r ih =>
    intro n
    rw [List.foldl_cons, List.foldl_cons, ih (G43 boxes m half n x), ih (G43 boxes m half 0 x), addH_add (n := n)]
    omega
theorem J02 {boxes : List Ga} {m half : Int} (pre post : List Stowed) (x : Stowed) : G5d boxes (pre ++ x :: post) m half = G5d boxes (pre ++ post) m half + G43 boxes m half 0 x := by
  unfold G5d
  rw [List.foldl_append, List.foldl_cons, List.foldl_append, J04 post (G43 boxes m half _ x), J04 post (List.foldl _ 0 pre), addH_add]
  omega
theorem below_cases {l : List Stowed} {y : Slot} {half : Int} (h : below (l.map (·.Slot)) y half) : ∃ z ∈ l, z.Slot = ⟨y.G3, y.Tier - 1, half⟩ := by
  obtain ⟨z, hz, e⟩ := List.mem_map.1 h
  exact ⟨z, hz, e⟩
/-- What is held stays held, when a box is taken over which it does not stand. -/
theorem held_less {pre post : List Stowed} {x : Stowed} {y : Slot} (hn : ¬ Ge9 y x.Slot) (h : H34 y ((pre ++ x :: post).map (·.Slot))) : H34 y ((pre ++ post).map (·.Slot)) := by
  have key : ∀ half, (half = y.Half ∨ y.Half = 0) → below ((pre ++ x :: post).map (·.Slot)) y half → below ((pre ++ post).map (·.Slot)) y half := fun half hh hb => by
    obtain ⟨z, hz, e⟩ := below_cases hb
    refine List.mem_map.2 ⟨z, ?_, e⟩
    have hzx : z ≠ x := fun e2 => hn (by
      subst e2
      rw [e]
      refine ⟨rfl, by simp only; omega, ?_⟩
      rcases hh with hh | hh
      · exact .inl hh.symm
      · exact .inr (.inl hh))
    simp only [List.mem_append, List.mem_cons] at hz ⊢
    rcases hz with hz | hz | hz
    · exact .inl hz
    · exact (hzx hz).elim
    · exact .inr hz
  rcases h with h | h | ⟨h0, h1, h2⟩
  · exact .inl h
  · exact .inr (.inl (key _ (.inl rfl) h))
  · exact .inr (.inr ⟨h0, key _ (.inr h0) h1, key _ (.inr h0) h2⟩)
theorem H66 {pre post : List Stowed} {x y : Stowed} (h : y ∈ pre ++ post) : y ∈ pre ++ x :: post := by
  simp only [List.mem_append, List.mem_cons] at h ⊢
  rcases h with h | h
  · exact .inl h
  · exact .inr (.inr h)
theorem right_less {s : Gu} {boxes : List Ga} {pre post : List Stowed} {x : Stowed} (h : Y5 s boxes (pre ++ x :: post)) (ho : Zb (pre ++ x :: post) x.Slot = []) : Y5 s boxes (pre ++ post) := by
  have hsub : (pre ++ post).Sublist (pre ++ x :: post) := List.Sublist.append_left (List.sublist_cons_self ..) _
  refine ⟨fun y hy => ?_, h.sorted.sublist hsub, h.apart.sublist hsub, fun m c hc => ?_⟩
  · obtain ⟨b, h1, h2, h3⟩ := h.each y (H66 hy)
    refine ⟨b, h1, h2, held_less (fun hv => ?_) h3⟩
    have : y.Ga ∈ Zb (pre ++ x :: post) x.Slot := G2a.2 ⟨y, H66 hy, rfl, hv⟩
    rw [ho] at this; cases this
  · have := h.fits m c hc
    unfold H78 at this ⊢
    rw [J02, J02] at this
    have a1 := (addH_le (boxes := boxes) (column := (m : Int)) (half := 1) (n := 0) (x := x)).1
    have a2 := (addH_le (boxes := boxes) (column := (m : Int)) (half := 2) (n := 0) (x := x)).1
    rcases this with h | ⟨h, h'⟩
    · exact .inl h
    · exact .inr ⟨by omega, by omega⟩
end Go.Proofs.YtapmanciffiibaaGreat
