/-
 What can be put, taken, opened and closed. What Free, Take, Open, Close and Put return, of states that are right. What Put returns, and that states stay right.
-/
import Derived.Test.YtpgkkengffpnpaaGreatMoreR
import Derived.Test.YtpgkkengffpnpaaGreatXT
set_option linter.unusedSimpArgs false
set_option linter.unnecessarySimpa false
set_option maxRecDepth 100000
set_option linter.unusedVariables false
namespace Go.Proofs.YtpgkkengffpnpaaGreat
open Go.RowKit

theorem wp_loop {β σ : Type} {Q : β → Prop} (I : σ → Prop) (μ : σ → Nat) {b : (σ → Option β) → σ → Option β} {F : Nat} {s : σ} (h0 : I s) (hF : μ s < F)
    (hb : ∀ s nx, I s → (∀ s', I s' → μ s' < μ s → Wp (nx s') Q) → Wp (b nx s) Q) : Wp (loop b F s) Q := by
  induction F generalizing s with
  | zero => omega
  | succ F ih =>
    rw [loop]
    exact hb s _ h0 (fun s' h1 h2 => ih h1 (by omega))
/-- Open covers: some that there are, in order. -/
structure Gb3 (s : Gr) (o : List Int) : Prop where
  mem : ∀ y ∈ o, 0 ≤ y ∧ y < (s.Covers.length : Int)
  sorted : o.Pairwise (· < ·)
theorem openR_nil {s : Gr} : Gb3 s [] := ⟨fun y hy => (List.not_mem_nil hy).elim, List.Pairwise.nil⟩
theorem Gb3.len {s : Gr} {o : List Int} (h : Gb3 s o) : o.length ≤ s.Covers.length := by
  have hn : o.Nodup := G7c h.sorted
  have := hn.length_le_of_subset (l₂ := (List.range s.Covers.length).map (fun n : Nat => (n : Int))) (fun a ha => by
    obtain ⟨h1, h2⟩ := h.mem a ha
    exact List.mem_map.2 ⟨a.toNat, List.mem_range.2 (by omega), by omega⟩)
  simpa using this
theorem checked_spec {s : Gr} (hs : Small s) (boxes : List G9) (l : List Stowed) (o : List Int) (hl : l.length ≤ 1000000) : Wp (Qi s boxes l o) (fun r => r = true ↔ Gb3 s o ∧ Y2 s boxes l) := by
  unfold Qi
  refine Jm (fun pre _ => Gb3 s pre) openR_nil (fun pre y post u nx e hI hnx => ?_) (fun u hI => ?_)
  · have no : ¬ Gb3 s o → Wp (some false) (fun r => r = true ↔ Gb3 s o ∧ Y2 s boxes l) := fun h => Gh (G8f fun hh => h hh.1)
    by_cases hy : y < 0 ∨ (s.Covers.length : Int) ≤ y
    · have hc : (decide (y < 0) || decide ((s.Covers.length : Int) ≤ y)) = true := by simpa using hy
      rw [hc]
      refine H7 (Gh (H7 (Gh (Hf (fun _ => no fun h => ?_) (fun h => by cases h)))))
      have := h.mem y (by rw [e]; simp)
      omega
    have hc : (decide (y < 0) || decide ((s.Covers.length : Int) ≤ y)) = false := by
      rw [Bool.or_eq_false_iff]; exact ⟨decide_eq_false (by omega), decide_eq_false (by omega)⟩
    rw [hc]
    simp only [Bool.not_false, Bool.true_and, Bool.false_or]
    have hyok : 0 ≤ y ∧ y < (s.Covers.length : Int) := by omega
    have hprev : Wp (bif decide (0 < (pre.length : Int)) then G0b ((pre.length : Int) - 1) some else some 0) (fun v => Wp (bif decide (0 < (pre.length : Int)) then Z2 o v some else some default) (fun p => (decide (0 < (pre.length : Int)) && decide (y ≤ p)) = false → Gb3 s (pre ++ [y])) ∧ Wp (bif decide (0 < (pre.length : Int)) then Z2 o v some else some default) (fun p => (decide (0 < (pre.length : Int)) && decide (y ≤ p)) = true → ¬ Gb3 s o)) := by
      by_cases hp : 0 < pre.length
      · obtain ⟨p, hp1, hp2, hp3⟩ := J23 e hp
        rw [decide_eq_true (show 0 < (pre.length : Int) by omega)]
        simp only [cond_true, Bool.true_and]
        have : pre.length < 1 + s.Covers.length := by have := hI.len; omega
        have := hs.covs
        refine Qg ⟨by omega, by omega⟩ (Gh ⟨Y3 (m := pre.length - 1) (by omega) hp1 (Gh fun h => ?_), Y3 (m := pre.length - 1) (by omega) hp1 (Gh fun h hh => ?_)⟩)
        · have hlt : p < y := by have := of_decide_eq_false h; omega
          exact ⟨Y8 hI.mem hyok, pw_snoc hI.sorted (H3c hI.sorted hp2 hlt)⟩
        · have h := of_decide_eq_true h
          have hso := hh.sorted
          rw [e] at hso
          have := G7e hso p hp3
          omega
      · have h0 : pre = [] := List.eq_nil_of_length_eq_zero (by omega)
        subst h0
        exact Gh ⟨Gh fun _ => ⟨fun z hz => (List.mem_singleton.1 hz) ▸ hyok, List.pairwise_singleton ..⟩, Gh fun h => Bool.noConfusion h⟩
    refine H7 (wp_mono hprev (fun v hv => ?_))
    obtain ⟨p, hp, h1⟩ := hv.1
    obtain ⟨p', hp', h2⟩ := hv.2
    rw [hp] at hp'; cases hp'
    rw [hp]
    refine H7 (Gh (Hf (fun h => no (h2 h)) (fun h => hnx _ (h1 h))))
  · exact H7 (wp_mono (H18 hs.right hs.tier hl) (fun r hr => Gh (hr.trans ⟨fun h => ⟨hI, h⟩, fun h => h.2⟩)))
theorem cmp_less (x y : Int) : G3a x y = some (decide (x < y)) := by
  unfold G3a G1d
  rw [decide_eq_false (show ¬ (x ≠ x) from fun h => h rfl)]
  rfl
theorem shr1 (z : Int) (h0 : 0 ≤ z) (h1 : z ≤ 2000) : Hdd .u64 (IntKind.u64.wrap z) 1 = z / 2 := by
  have e : IntKind.u64.wrap z = z := by
    simp only [IntKind.wrap, IntKind.signed, IntKind.bits]
    simp
    omega
  rw [e]
  unfold Hdd
  rw [show min 1 IntKind.u64.bits = 1 from rfl, Int.fdiv_eq_ediv_of_nonneg _ (by decide)]
  rfl
theorem search_spec {F : Nat} {o : List Int} {t : Int} (ho : o.Pairwise (· < ·)) (hl : o.length ≤ 1000) (hF : o.length < F) :
    Wp (R1 F o t) (fun r => ∃ n : Nat, r.1 = (n : Int) ∧ n ≤ o.length ∧ (∀ a ∈ o.take n, a < t) ∧ (∀ a ∈ o.drop n, t ≤ a) ∧ (r.2 = true ↔ o[n]? = some t)) := by
  unfold R1
  have hpw := List.pairwise_iff_getElem.1 ho
  refine wp_loop (fun st => ∃ i j : Nat, st = ((i : Int), (j : Int)) ∧ i ≤ j ∧ j ≤ o.length ∧ (∀ a ∈ o.take i, a < t) ∧ (∀ a ∈ o.drop j, t ≤ a)) (fun st => (st.2 - st.1).toNat) ⟨0, o.length, rfl, Nat.zero_le _, Nat.le_refl _, by simp, by simp⟩ (by show ((o.length : Int) - 0).toNat < F; omega) (fun st nx hI hnx => ?_)
  obtain ⟨i, j, rfl, h1, h2, h3, h4⟩ := hI
  refine Hf (fun h => ?_) (fun h => ?_)
  · have h := of_decide_eq_true h
    refine Qg ⟨by omega, by omega⟩ ?_
    rw [shr1 _ (by omega) (by omega)]
    have hm : ((i : Int) + (j : Int)) / 2 = (((i + j) / 2 : Nat) : Int) := by omega
    rw [hm]
    have hk1 : i ≤ (i + j) / 2 := by omega
    have hk2 : (i + j) / 2 < j := by omega
    generalize (i + j) / 2 = k at hk1 hk2
    have hg : o[k]? = some (o[k]'(by omega)) := List.getElem?_eq_getElem (by omega)
    refine Qg ⟨by omega, by omega⟩ (Y3 rfl hg (Gz (cmp_less _ _) (Hf (fun hh => Qg ⟨by omega, by omega⟩ (hnx _ ⟨k + 1, j, by simp, by omega, h2, fun a ha => ?_, h4⟩ (by simp only; omega))) (fun hh => hnx _ ⟨i, k, rfl, hk1, by omega, h3, fun a ha => ?_⟩ (by simp only; omega)))))
    · have hh := of_decide_eq_true hh
      obtain ⟨q, hq, rfl⟩ := List.mem_iff_getElem.1 ha
      rw [List.length_take] at hq
      rw [List.getElem_take]
      rcases Nat.lt_or_ge q k with g | g
      · have := hpw q k (by omega) (by omega) g; omega
      · have : q = k := by omega
        subst this; exact hh
    · have hh := of_decide_eq_false hh
      obtain ⟨q, hq, rfl⟩ := List.mem_iff_getElem.1 ha
      rw [List.length_drop] at hq
      rw [List.getElem_drop]
      rcases Nat.eq_zero_or_pos q with g | g
      · subst g; simp only [Nat.add_zero]; omega
      · have := hpw k (k + q) (by omega) (by omega) (by omega); omega
  · have h := of_decide_eq_false h
    have hij : i = j := by omega
    subst hij
    by_cases hlt : i < o.length
    · have hg : o[i]? = some o[i] := List.getElem?_eq_getElem hlt
      rw [decide_eq_true (show (i : Int) < (o.length : Int) by omega)]
      simp only [cond_true, Bool.true_and]
      refine H7 (Y3 rfl hg (Gh ?_))
      by_cases he : o[i] = t
      · rw [decide_eq_true he]
        exact H7 (Gh (H7 (Gh (H7 (Gh (Gh ⟨i, rfl, h2, h3, h4, by simp [hg, he]⟩))))))
      · rw [decide_eq_false he]
        simp only [Bool.not_false, cond_true, Bool.true_and]
        refine H7 (Y3 rfl hg (Gh ?_))
        unfold Ze
        rw [decide_eq_false (show ¬ (o[i] ≠ o[i]) from fun h => h rfl)]
        exact H7 (Gh (H7 (Gh (Gh ⟨i, rfl, h2, h3, h4, by simp [hg, he]⟩))))
    · rw [decide_eq_false (show ¬ ((i : Int) < (o.length : Int)) by omega)]
      exact H7 (Gh (H7 (Gh (H7 (Gh (H7 (Gh (Gh ⟨i, rfl, h2, h3, h4, by simp [List.getElem?_eq_none (show o.length ≤ i by omega)]⟩))))))))
end Go.Proofs.YtpgkkengffpnpaaGreat
set_option linter.unusedSimpArgs false
set_option linter.unnecessarySimpa false
set_option maxRecDepth 100000
set_option linter.unusedVariables false
namespace Go.Proofs.YtpgkkengffpnpaaGreat
open Go.RowKit

instance (a b : Slot) : Decidable (H7e a b) := by unfold H7e H60; infer_instance
/-- What stands in a hold under a cover that is not open. -/
def J84 (s : Gr) (o : List Int) (x : Slot) : Prop := ∃ (m : Nat) (c : G4), x.G4 = (m : Int) ∧ s.Columns[m]? = some c ∧ c.Deck = false ∧ 0 ≤ Rj s c ∧ Rj s c ∉ o
theorem find_at {l : List Stowed} (hs : l.Pairwise (fun a b => a.G9 < b.G9)) {x : Stowed} (hx : x ∈ l) : ∃ q : Nat, Rf l x.G9 = some (q : Int) ∧ l[q]? = some x := by
  rw [H3a]
  rcases G15 (fun z : Stowed => decide (z.G9 = x.G9)) l with ⟨_, h2, _⟩ | ⟨q, x1, h1, h2, h3, _⟩
  · have := h2 x hx; rw [decide_eq_true rfl] at this; cases this
  have hx1 : x1 = x := H20 hs (List.mem_of_getElem? h2) hx (of_decide_eq_true h3)
  subst hx1
  exact ⟨q, by rw [h1], h2⟩
theorem Gbb {o : List Int} {v : Int} : o.any (fun y => decide (v = y)) = true ↔ v ∈ o := by
  rw [List.any_eq_true]
  exact ⟨fun ⟨y, hy, e⟩ => of_decide_eq_true e ▸ hy, fun h => ⟨v, h, decide_eq_true rfl⟩⟩
theorem contains_no {o : List Int} {v : Int} : o.any (fun y => decide (v = y)) = false ↔ v ∉ o := by
  rw [← Bool.not_eq_true, Gbb]
theorem H9c.checked {s : Gr} {boxes : List G9} {l : List Stowed} (h : H9c s boxes l) {o : List Int} (hO : Gb3 s o) : Qi s boxes l o = some true := by
  have hl := h.len
  exact G0c (wp_mono (checked_spec (G45 h.ship) boxes l o (by omega)) (fun r hr => hr.2 ⟨hO, h.right⟩))
theorem free_spec {s : Gr} {boxes : List G9} {l : List Stowed} {o : List Int} (h : H9c s boxes l) (hO : Gb3 s o) {x : Stowed} (hx : x ∈ l) :
    Wp (G6e s boxes l o x.G9) (fun r => (r = 90 ∧ G57 l x.Slot ≠ []) ∨ (r = 91 ∧ G57 l x.Slot = [] ∧ J84 s o x.Slot) ∨ (r = 0 ∧ G57 l x.Slot = [] ∧ ¬ J84 s o x.Slot)) := by
  have hs := G45 h.ship
  unfold G6e
  refine Gz (h.checked hO) (Hf (fun h => by cases h) (fun _ => Gz (above_at h hx) (Hf (fun h => (of_decide_eq_true h rfl).elim) (fun _ => Hf (fun h => Gh (.inl ⟨rfl, fun e => ?_⟩)) (fun h0 => ?_)))))
  · rw [e] at h; exact absurd (of_decide_eq_true h) (by simp)
  have h0 : G57 l x.Slot = [] := List.eq_nil_of_length_eq_zero (by have := of_decide_eq_false h0; simp only at this; omega)
  obtain ⟨q, hq1, hq2⟩ := find_at h.right.sorted hx
  obtain ⟨m, c, hm, hc⟩ := h.colIn hx
  refine Gz hq1 (Y3 rfl hq2 ?_)
  rw [hm]
  refine Gz (J57 hc (fun x hx => by have := hs.rows x hx; omega) (by have := hs.covs; omega)) ?_
  have hcl : J84 s o x.Slot ↔ (c.Deck = false ∧ 0 ≤ Rj s c ∧ Rj s c ∉ o) := by
    constructor
    · rintro ⟨m', c', e1, e2, e3, e4, e5⟩
      have : m' = m := by omega
      subst this
      rw [hc] at e2; cases e2
      exact ⟨e3, e4, e5⟩
    · rintro ⟨e3, e4, e5⟩
      exact ⟨m, c, hm, hc, e3, e4, e5⟩
  by_cases hd : c.Deck = true
  · rw [if_pos hd]
    exact H7 (Gh (Hf (fun h => by cases h) (fun _ => Gh (.inr (.inr ⟨rfl, h0, fun hh => by rw [(hcl.1 hh).1] at hd; cases hd⟩)))))
  rw [if_neg hd]
  have hd : c.Deck = false := by simpa using hd
  by_cases hk : 0 ≤ Rj s c
  · rw [decide_eq_true hk]
    simp only [cond_true, Bool.true_and]
    refine Gz (Gba _ _) (Hf (fun h => Gh (.inr (.inl ⟨rfl, h0, hcl.2 ⟨hd, hk, contains_no.1 (by simpa using h)⟩⟩))) (fun h => Gh (.inr (.inr ⟨rfl, h0, fun hh => (hcl.1 hh).2.2 (Gbb.1 (by simpa using h))⟩))))
  · rw [decide_eq_false hk]
    exact H7 (Gh (Hf (fun h => by cases h) (fun _ => Gh (.inr (.inr ⟨rfl, h0, fun hh => hk (hcl.1 hh).2.1⟩)))))
theorem take_spec {s : Gr} {boxes : List G9} {l : List Stowed} {o : List Int} (h : H9c s boxes l) {x : Stowed} (hx : x ∈ l) {v : Int} (hv : G6e s boxes l o x.G9 = some v) :
    Wp (Ga4 s boxes l o x.G9) (fun r => r.2 = v ∧ (v = 0 → ∃ pre post, l = pre ++ x :: post ∧ r.1 = pre ++ post)) := by
  unfold Ga4
  refine Gz hv (Hf (fun h => Gh ⟨rfl, fun e => (of_decide_eq_true h e).elim⟩) (fun h0 => ?_))
  have h0 : v = 0 := by have := of_decide_eq_false h0; omega
  obtain ⟨q, hq1, hq2⟩ := find_at h.right.sorted hx
  refine Gz hq1 ?_
  have hlt := (List.getElem?_eq_some_iff.1 hq2).1
  have hl := h.len
  have e : Ra l (q : Int) = some (l.eraseIdx q) := by
    unfold Ra
    rw [decide_eq_true (show (0 : Int) ≤ (q : Int) by omega), decide_eq_true (show (q : Int) < (l.length : Int) by omega), decide_eq_true (show l.length ≤ 100000 by omega), show ((q : Int)).toNat = q by omega]
    rfl
  refine Gz e (Gh ⟨h0.symm, fun _ => ⟨l.take q, l.drop (q + 1), ?_, ?_⟩⟩)
  · have hg : l[q] = x := Option.some.inj ((List.getElem?_eq_getElem hlt).symm.trans hq2)
    have := List.take_append_drop q l
    rw [List.drop_eq_getElem_cons hlt, hg] at this
    exact this.symm
  · exact List.eraseIdx_eq_take_drop_succ l q
/-- No box of a state stands upon a cover. -/
def Upon0 (s : Gr) (l : List Stowed) (k : Int) : Prop := ∀ y ∈ l, ∀ (m : Nat) (c : G4), y.Slot.G4 = (m : Int) → s.Columns[m]? = some c → c.Deck = true → Rj s c ≠ k
theorem open_spec {F : Nat} {s : Gr} {boxes : List G9} {l : List Stowed} {o : List Int} (h : H9c s boxes l) (hO : Gb3 s o) (hF : 20 ≤ F) {k : Nat} (hk : k < s.Covers.length) :
    Wp (G37 F s boxes l o (k : Int)) (fun r => (¬ Upon0 s l (k : Int) ∧ r = ([], 95)) ∨ (Upon0 s l (k : Int) ∧ r.2 = 0 ∧ Gb3 s r.1 ∧ ∀ a, a ∈ r.1 ↔ a ∈ o ∨ a = (k : Int))) := by
  have hs := G45 h.ship
  have hl := h.len
  have hcl := h.ship.covs.len
  have hol := hO.len
  unfold G37
  refine Gz (h.checked hO) (Hf (fun h => by cases h) (fun _ => Hf (fun h => ?_) (fun _ => ?_)))
  · simp only [Bool.or_eq_true, decide_eq_true_eq] at h; omega
  refine H7 (wp_mono (stow_upon (J6d h.ship) hk (fun x hx => by have := hs.rows x hx; omega) (by omega)) (fun up hup => Hf (fun hh => Gh (.inl ⟨fun h0 => ?_, rfl⟩)) (fun hh => ?_)))
  · have hh := of_decide_eq_true hh
    obtain ⟨a, ha⟩ : ∃ a, a ∈ up := by
      cases up with
      | nil => simp at hh
      | cons a r => exact ⟨a, by simp⟩
    obtain ⟨y, hy, _, m, c, e1, e2, e3, e4⟩ := (hup a).1 ha
    exact h0 y hy m c e1 e2 e3 e4
  have hno : Upon0 s l (k : Int) := fun y hy m c e1 e2 e3 e4 => by
    have := (hup y.G9).2 ⟨y, hy, rfl, m, c, e1, e2, e3, e4⟩
    have hh := of_decide_eq_false hh
    have : up ≠ [] := fun e => by rw [e] at this; cases this
    have := List.length_pos_iff.2 this
    omega
  refine H7 (wp_mono (search_spec hO.sorted (by omega) (by omega)) (fun r hr => ?_))
  obtain ⟨n, h1, h2, h3, h4, h5⟩ := hr
  refine Hf (fun hf => ?_) (fun hf => ?_)
  · have hin : (k : Int) ∈ o := List.mem_of_getElem? (h5.1 hf)
    have e : Qf o = some o := by
      unfold Qf
      refine He2 (fun b hb => ?_)
      cases b with
      | true => rw [hb rfl]; rfl
      | false =>
        show need _ _ = _
        unfold need
        rw [room8L (by simp only [List.length_nil]; omega)]
        rfl
    exact Gz e (Gh (.inr ⟨hno, rfl, hO, fun a => ⟨.inl, fun hh => hh.elim id (fun e => e ▸ hin)⟩⟩))
  · have hf : ¬ o[n]? = some (k : Int) := fun e => by rw [h5.2 e] at hf; cases hf
    have e : G1b o r.1 (k : Int) = some (o.take n ++ (k : Int) :: o.drop n) := by
      unfold G1b
      rw [h1, decide_eq_true (show (0 : Int) ≤ (n : Int) by omega), decide_eq_true (show (n : Int) ≤ (o.length : Int) by omega), decide_eq_true (show o.length ≤ 100000 by omega), show ((n : Int)).toNat = n by omega]
      rfl
    have hmem : ∀ a, a ∈ o.take n ++ (k : Int) :: o.drop n ↔ a ∈ o ∨ a = (k : Int) := fun a => by
      have : a ∈ o ↔ a ∈ o.take n ∨ a ∈ o.drop n := by rw [← List.mem_append, List.take_append_drop]
      rw [this, List.mem_append, List.mem_cons]
      constructor
      · rintro (h | h | h)
        · exact .inl (.inl h)
        · exact .inr h
        · exact .inl (.inr h)
      · rintro ((h | h) | h)
        · exact .inl h
        · exact .inr (.inr h)
        · exact .inr (.inl h)
    refine Gz e (Gh (.inr ⟨hno, rfl, ⟨fun a ha => ?_, ?_⟩, hmem⟩))
    · rcases (hmem a).1 ha with h | h
      · exact hO.mem a h
      · omega
    · have hso := hO.sorted
      rw [← List.take_append_drop n o, List.pairwise_append] at hso
      refine List.pairwise_append.2 ⟨hso.1, List.pairwise_cons.2 ⟨fun a ha => ?_, hso.2.1⟩, fun a ha b hb => ?_⟩
      · have h6 := h4 a ha
        have : a ≠ (k : Int) := fun e => by
          subst e
          obtain ⟨j, hj, e2⟩ := List.mem_iff_getElem.1 ha
          rw [List.length_drop] at hj
          rw [List.getElem_drop] at e2
          have hp := List.pairwise_iff_getElem.1 hO.sorted
          rcases Nat.eq_zero_or_pos j with g | g
          · subst g
            exact hf (by rw [← e2]; simp [List.getElem?_eq_getElem (show n < o.length by omega)])
          · have g1 := hp n (n + j) (by omega) (by omega) (by omega)
            have g2 := h4 o[n] (List.mem_iff_getElem.2 ⟨0, by rw [List.length_drop]; omega, by rw [List.getElem_drop]; simp⟩)
            omega
        omega
      · rcases List.mem_cons.1 hb with rfl | hb
        · exact h3 a ha
        · exact hso.2.2 a ha b hb
end Go.Proofs.YtpgkkengffpnpaaGreat
set_option linter.unusedSimpArgs false
set_option linter.unnecessarySimpa false
set_option maxRecDepth 100000
set_option linter.unusedVariables false
namespace Go.Proofs.YtpgkkengffpnpaaGreat
open Go.RowKit

theorem addH_add {boxes : List G9} {m half n : Int} {x : Stowed} : G53 boxes m half n x = n + G53 boxes m half 0 x := by
  unfold G53
  split
  · cases Ri boxes x.G9 with
    | some b => simp only; omega
    | none => simp
  · simp
theorem H1d {boxes : List G9} {m half : Int} : ∀ (l : List Stowed) (n : Int), l.foldl (G53 boxes m half) n = n + l.foldl (G53 boxes m half) 0 := by
  intro l
  induction l with
  | nil => intro n; simp
  | cons x r ih =>
    intro n
    rw [List.foldl_cons, List.foldl_cons, ih (G53 boxes m half n x), ih (G53 boxes m half 0 x), addH_add (n := n)]
    omega
theorem J6f {boxes : List G9} {m half : Int} (pre post : List Stowed) (x : Stowed) : G28 boxes (pre ++ x :: post) m half = G28 boxes (pre ++ post) m half + G53 boxes m half 0 x := by
  unfold G28
  rw [List.foldl_append, List.foldl_cons, List.foldl_append, H1d post (G53 boxes m half _ x), H1d post (List.foldl _ 0 pre), addH_add]
  omega
theorem J12 {l : List Stowed} {y : Slot} {half : Int} (h : below (l.map (·.Slot)) y half) : ∃ z ∈ l, z.Slot = ⟨y.G4, y.Tier - 1, half⟩ := by
  obtain ⟨z, hz, e⟩ := List.mem_map.1 h
  exact ⟨z, hz, e⟩
/-- What is held stays held, when a box is taken over which it does not stand. -/
theorem held_less {pre post : List Stowed} {x : Stowed} {y : Slot} (hn : ¬ H0b y x.Slot) (h : H84 y ((pre ++ x :: post).map (·.Slot))) : H84 y ((pre ++ post).map (·.Slot)) := by
  have key : ∀ half, (half = y.Half ∨ y.Half = 0) → below ((pre ++ x :: post).map (·.Slot)) y half → below ((pre ++ post).map (·.Slot)) y half := fun half hh hb => by
    obtain ⟨z, hz, e⟩ := J12 hb
    refine List.mem_map.2 ⟨z, ?_, e⟩
    have hzx : z ≠ x := fun e2 => hn (by
      subst e2
      rw [e]
      refine ⟨rfl, by simp only; omega, ?_⟩
      rcases hh with hh | hh
      · exact .inl hh.symm
      · exact .inr (.inl hh))
    simp only [List.mem_append, List.mem_cons] at hz ⊢
    rcases hz with hz | hz | hz
    · exact .inl hz
    · exact (hzx hz).elim
    · exact .inr hz
  rcases h with h | h | ⟨h0, h1, h2⟩
  · exact .inl h
  · exact .inr (.inl (key _ (.inl rfl) h))
  · exact .inr (.inr ⟨h0, key _ (.inr h0) h1, key _ (.inr h0) h2⟩)
theorem Hb9 {pre post : List Stowed} {x y : Stowed} (h : y ∈ pre ++ post) : y ∈ pre ++ x :: post := by
  simp only [List.mem_append, List.mem_cons] at h ⊢
  rcases h with h | h
  · exact .inl h
  · exact .inr (.inr h)
theorem right_less {s : Gr} {boxes : List G9} {pre post : List Stowed} {x : Stowed} (h : Y2 s boxes (pre ++ x :: post)) (ho : G57 (pre ++ x :: post) x.Slot = []) : Y2 s boxes (pre ++ post) := by
  have hsub : (pre ++ post).Sublist (pre ++ x :: post) := List.Sublist.append_left (List.sublist_cons_self ..) _
  refine ⟨fun y hy => ?_, h.sorted.sublist hsub, h.apart.sublist hsub, fun m c hc => ?_⟩
  · obtain ⟨b, h1, h2, h3⟩ := h.each y (Hb9 hy)
    refine ⟨b, h1, h2, held_less (fun hv => ?_) h3⟩
    have : y.G9 ∈ G57 (pre ++ x :: post) x.Slot := Gc9.2 ⟨y, Hb9 hy, rfl, hv⟩
    rw [ho] at this; cases this
  · have := h.fits m c hc
    unfold H55 at this ⊢
    rw [J6f, J6f] at this
    have a1 := (J25 (boxes := boxes) (column := (m : Int)) (half := 1) (n := 0) (x := x)).1
    have a2 := (J25 (boxes := boxes) (column := (m : Int)) (half := 2) (n := 0) (x := x)).1
    rcases this with h | ⟨h, h'⟩
    · exact .inl h
    · exact .inr ⟨by omega, by omega⟩
end Go.Proofs.YtpgkkengffpnpaaGreat
