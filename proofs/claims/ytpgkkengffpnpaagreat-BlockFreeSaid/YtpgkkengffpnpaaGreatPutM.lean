/-
 What can be put, taken, opened and closed. What Free, Take, Open, Close and Put return, of states that are right.
-/
import Derived.Test.YtpgkkengffpnpaaGreatMoreR
import Derived.Test.YtpgkkengffpnpaaGreatXT
set_option linter.unusedSimpArgs false
set_option linter.unnecessarySimpa false
set_option maxRecDepth 100000
set_option linter.unusedVariables false
namespace Go.Proofs.YtpgkkengffpnpaaGreat
open Go.RowKit

theorem wp_loop {β σ : Type} {Q : β → Prop} (I : σ → Prop) (μ : σ → Nat) {b : (σ → Option β) → σ → Option β} {F : Nat} {s : σ} (h0 : I s) (hF : μ s < F)
    (hb : ∀ s nx, I s → (∀ s', I s' → μ s' < μ s → Wp (nx s') Q) → Wp (b nx s) Q) : Wp (loop b F s) Q := by
  induction F generalizing s with
  | zero => omega
  | succ F ih =>
    rw [loop]
    exact hb s _ h0 (fun s' h1 h2 => ih h1 (by omega))
/-- Open covers: some that there are, in order. -/
structure Gbb (s : Gp) (o : List Int) : Prop where
  mem : ∀ y ∈ o, 0 ≤ y ∧ y < (s.Covers.length : Int)
  sorted : o.Pairwise (· < ·)
theorem H0c {s : Gp} : Gbb s [] := ⟨fun y hy => (List.not_mem_nil hy).elim, List.Pairwise.nil⟩
theorem Gbb.len {s : Gp} {o : List Int} (h : Gbb s o) : o.length ≤ s.Covers.length := by
  have hn : o.Nodup := G81 h.sorted
  have := hn.length_le_of_subset (l₂ := (List.range s.Covers.length).map (fun n : Nat => (n : Int))) (fun a ha => by
    obtain ⟨h1, h2⟩ := h.mem a ha
    exact List.mem_map.2 ⟨a.toNat, List.mem_range.2 (by omega), by omega⟩)
  simpa using this
theorem checked_spec {s : Gp} (hs : Small s) (boxes : List G9) (l : List Stowed) (o : List Int) (hl : l.length ≤ 1000000) : Wp (Qk s boxes l o) (fun r => r = true ↔ Gbb s o ∧ Rf s boxes l) := by
  unfold Qk
  refine Je (fun pre _ => Gbb s pre) H0c (fun pre y post u nx e hI hnx => ?_) (fun u hI => ?_)
  · have no : ¬ Gbb s o → Wp (some false) (fun r => r = true ↔ Gbb s o ∧ Rf s boxes l) := fun h => Gh (G95 fun hh => h hh.1)
    by_cases hy : y < 0 ∨ (s.Covers.length : Int) ≤ y
    · have hc : (decide (y < 0) || decide ((s.Covers.length : Int) ≤ y)) = true := by simpa using hy
      rw [hc]
      refine H4 (Gh (H4 (Gh (Hb (fun _ => no fun h => ?_) (fun h => by cases h)))))
      have := h.mem y (by rw [e]; simp)
      omega
    have hc : (decide (y < 0) || decide ((s.Covers.length : Int) ≤ y)) = false := by
      rw [Bool.or_eq_false_iff]; exact ⟨decide_eq_false (by omega), decide_eq_false (by omega)⟩
    rw [hc]
    simp only [Bool.not_false, Bool.true_and, Bool.false_or]
    have hyok : 0 ≤ y ∧ y < (s.Covers.length : Int) := by omega
    have hprev : Wp (bif decide (0 < (pre.length : Int)) then G0c ((pre.length : Int) - 1) some else some 0) (fun v => Wp (bif decide (0 < (pre.length : Int)) then Z0 o v some else some default) (fun p => (decide (0 < (pre.length : Int)) && decide (y ≤ p)) = false → Gbb s (pre ++ [y])) ∧ Wp (bif decide (0 < (pre.length : Int)) then Z0 o v some else some default) (fun p => (decide (0 < (pre.length : Int)) && decide (y ≤ p)) = true → ¬ Gbb s o)) := by
      by_cases hp : 0 < pre.length
      · obtain ⟨p, hp1, hp2, hp3⟩ := J33 e hp
        rw [decide_eq_true (show 0 < (pre.length : Int) by omega)]
        simp only [cond_true, Bool.true_and]
        have : pre.length < 1 + s.Covers.length := by have := hI.len; omega
        have := hs.covs
        refine Qc ⟨by omega, by omega⟩ (Gh ⟨Ro (m := pre.length - 1) (by omega) hp1 (Gh fun h => ?_), Ro (m := pre.length - 1) (by omega) hp1 (Gh fun h hh => ?_)⟩)
        · have hlt : p < y := by have := of_decide_eq_false h; omega
          exact ⟨Rj hI.mem hyok, pw_snoc hI.sorted (H49 hI.sorted hp2 hlt)⟩
        · have h := of_decide_eq_true h
          have hso := hh.sorted
          rw [e] at hso
          have := G83 hso p hp3
          omega
      · have h0 : pre = [] := List.eq_nil_of_length_eq_zero (by omega)
        subst h0
        exact Gh ⟨Gh fun _ => ⟨fun z hz => (List.mem_singleton.1 hz) ▸ hyok, List.pairwise_singleton ..⟩, Gh fun h => Bool.noConfusion h⟩
    refine H4 (wp_mono hprev (fun v hv => ?_))
    obtain ⟨p, hp, h1⟩ := hv.1
    obtain ⟨p', hp', h2⟩ := hv.2
    rw [hp] at hp'; cases hp'
    rw [hp]
    refine H4 (Gh (Hb (fun h => no (h2 h)) (fun h => hnx _ (h1 h))))
  · exact H4 (wp_mono (H22 hs.right hs.tier hl) (fun r hr => Gh (hr.trans ⟨fun h => ⟨hI, h⟩, fun h => h.2⟩)))
theorem cmp_less (x y : Int) : G42 x y = some (decide (x < y)) := by
  unfold G42 G24
  rw [decide_eq_false (show ¬ (x ≠ x) from fun h => h rfl)]
  rfl
theorem shr1 (z : Int) (h0 : 0 ≤ z) (h1 : z ≤ 2000) : Hec .u64 (IntKind.u64.wrap z) 1 = z / 2 := by
  have e : IntKind.u64.wrap z = z := by
    simp only [IntKind.wrap, IntKind.signed, IntKind.bits]
    simp
    omega
  rw [e]
  unfold Hec
  rw [show min 1 IntKind.u64.bits = 1 from rfl, Int.fdiv_eq_ediv_of_nonneg _ (by decide)]
  rfl
theorem search_spec {F : Nat} {o : List Int} {t : Int} (ho : o.Pairwise (· < ·)) (hl : o.length ≤ 1000) (hF : o.length < F) :
    Wp (R4 F o t) (fun r => ∃ n : Nat, r.1 = (n : Int) ∧ n ≤ o.length ∧ (∀ a ∈ o.take n, a < t) ∧ (∀ a ∈ o.drop n, t ≤ a) ∧ (r.2 = true ↔ o[n]? = some t)) := by
  unfold R4
  have hpw := List.pairwise_iff_getElem.1 ho
  refine wp_loop (fun st => ∃ i j : Nat, st = ((i : Int), (j : Int)) ∧ i ≤ j ∧ j ≤ o.length ∧ (∀ a ∈ o.take i, a < t) ∧ (∀ a ∈ o.drop j, t ≤ a)) (fun st => (st.2 - st.1).toNat) ⟨0, o.length, rfl, Nat.zero_le _, Nat.le_refl _, by simp, by simp⟩ (by show ((o.length : Int) - 0).toNat < F; omega) (fun st nx hI hnx => ?_)
  obtain ⟨i, j, rfl, h1, h2, h3, h4⟩ := hI
  refine Hb (fun h => ?_) (fun h => ?_)
  · have h := of_decide_eq_true h
    refine Qc ⟨by omega, by omega⟩ ?_
    rw [shr1 _ (by omega) (by omega)]
    have hm : ((i : Int) + (j : Int)) / 2 = (((i + j) / 2 : Nat) : Int) := by omega
    rw [hm]
    have hk1 : i ≤ (i + j) / 2 := by omega
    have hk2 : (i + j) / 2 < j := by omega
    generalize (i + j) / 2 = k at hk1 hk2
    have hg : o[k]? = some (o[k]'(by omega)) := List.getElem?_eq_getElem (by omega)
    refine Qc ⟨by omega, by omega⟩ (Ro rfl hg (Gy (cmp_less _ _) (Hb (fun hh => Qc ⟨by omega, by omega⟩ (hnx _ ⟨k + 1, j, by simp, by omega, h2, fun a ha => ?_, h4⟩ (by simp only; omega))) (fun hh => hnx _ ⟨i, k, rfl, hk1, by omega, h3, fun a ha => ?_⟩ (by simp only; omega)))))
    · have hh := of_decide_eq_true hh
      obtain ⟨q, hq, rfl⟩ := List.mem_iff_getElem.1 ha
      rw [List.length_take] at hq
      rw [List.getElem_take]
      rcases Nat.lt_or_ge q k with g | g
      · have := hpw q k (by omega) (by omega) g; omega
      · have : q = k := by omega
        subst this; exact hh
    · have hh := of_decide_eq_false hh
      obtain ⟨q, hq, rfl⟩ := List.mem_iff_getElem.1 ha
      rw [List.length_drop] at hq
      rw [List.getElem_drop]
      rcases Nat.eq_zero_or_pos q with g | g
      · subst g; simp only [Nat.add_zero]; omega
      · have := hpw k (k + q) (by omega) (by omega) (by omega); omega
  · have h := of_decide_eq_false h
    have hij : i = j := by omega
    subst hij
    by_cases hlt : i < o.length
    · have hg : o[i]? = some o[i] := List.getElem?_eq_getElem hlt
      rw [decide_eq_true (show (i : Int) < (o.length : Int) by omega)]
      simp only [cond_true, Bool.true_and]
      refine H4 (Ro rfl hg (Gh ?_))
      by_cases he : o[i] = t
      · rw [decide_eq_true he]
        exact H4 (Gh (H4 (Gh (H4 (Gh (Gh ⟨i, rfl, h2, h3, h4, by simp [hg, he]⟩))))))
      · rw [decide_eq_false he]
        simp only [Bool.not_false, cond_true, Bool.true_and]
        refine H4 (Ro rfl hg (Gh ?_))
        unfold Zf
        rw [decide_eq_false (show ¬ (o[i] ≠ o[i]) from fun h => h rfl)]
        exact H4 (Gh (H4 (Gh (Gh ⟨i, rfl, h2, h3, h4, by simp [hg, he]⟩))))
    · rw [decide_eq_false (show ¬ ((i : Int) < (o.length : Int)) by omega)]
      exact H4 (Gh (H4 (Gh (H4 (Gh (H4 (Gh (Gh ⟨i, rfl, h2, h3, h4, by simp [List.getElem?_eq_none (show o.length ≤ i by omega)]⟩))))))))
end Go.Proofs.YtpgkkengffpnpaaGreat
set_option linter.unusedSimpArgs false
set_option linter.unnecessarySimpa false
set_option maxRecDepth 100000
set_option linter.unusedVariables false
namespace Go.Proofs.YtpgkkengffpnpaaGreat
open Go.RowKit

theorem wp_dec {m : Option Bool} {p : Prop} [Decidable p] (h : Wp m (fun r => r = true ↔ p)) : m = some (decide p) := by
  obtain ⟨r, hr, h⟩ := h
  rw [hr]
  congr 1
  cases r with
  | false => exact (decide_eq_false (fun hp => by have := h.2 hp; cases this)).symm
  | true => exact (decide_eq_true (h.1 rfl)).symm
instance (a b : Slot) : Decidable (H36 a b) := by unfold H36 Ga0; infer_instance
theorem find_no {l : List Stowed} {id : Int} (hx : id ∉ l.map (·.G9)) : Rm l id = some (-1) := by
  rw [H47]
  rcases G01 (fun z : Stowed => decide (z.G9 = id)) l with ⟨h1, _, _⟩ | ⟨q, x1, h1, h2, h3, _⟩
  · rw [h1]
  · exact (hx (List.mem_map.2 ⟨x1, List.mem_of_getElem? h2, of_decide_eq_true h3⟩)).elim
theorem Gc2 {o : List Int} {v : Int} : o.any (fun y => decide (v = y)) = true ↔ v ∈ o := by
  rw [List.any_eq_true]
  exact ⟨fun ⟨y, hy, e⟩ => of_decide_eq_true e ▸ hy, fun h => ⟨v, h, decide_eq_true rfl⟩⟩
theorem H12.checked {s : Gp} {boxes : List G9} {l : List Stowed} (h : H12 s boxes l) {o : List Int} (hO : Gbb s o) : Qk s boxes l o = some true := by
  have hl := h.len
  exact G09 (wp_mono (checked_spec (Zn h.ship) boxes l o (by omega)) (fun r hr => hr.2 ⟨hO, h.right⟩))
/-- No box of a state stands upon a cover. -/
def J90 (s : Gp) (l : List Stowed) (k : Int) : Prop := ∀ y ∈ l, ∀ (m : Nat) (c : G4), y.Slot.G4 = (m : Int) → s.Columns[m]? = some c → c.Deck = true → Q7 s c ≠ k
theorem open_spec {F : Nat} {s : Gp} {boxes : List G9} {l : List Stowed} {o : List Int} (h : H12 s boxes l) (hO : Gbb s o) (hF : 20 ≤ F) {k : Nat} (hk : k < s.Covers.length) :
    Wp (G3f F s boxes l o (k : Int)) (fun r => (¬ J90 s l (k : Int) ∧ r = ([], 95)) ∨ (J90 s l (k : Int) ∧ r.2 = 0 ∧ Gbb s r.1 ∧ ∀ a, a ∈ r.1 ↔ a ∈ o ∨ a = (k : Int))) := by
  have hs := Zn h.ship
  have hl := h.len
  have hcl := h.ship.covs.len
  have hol := hO.len
  unfold G3f
  refine Gy (h.checked hO) (Hb (fun h => by cases h) (fun _ => Hb (fun h => ?_) (fun _ => ?_)))
  · simp only [Bool.or_eq_true, decide_eq_true_eq] at h; omega
  refine H4 (wp_mono (stow_upon (J7b h.ship) hk (fun x hx => by have := hs.rows x hx; omega) (by omega)) (fun up hup => Hb (fun hh => Gh (.inl ⟨fun h0 => ?_, rfl⟩)) (fun hh => ?_)))
  · have hh := of_decide_eq_true hh
    obtain ⟨a, ha⟩ : ∃ a, a ∈ up := by
      cases up with
      | nil => simp at hh
      | cons a r => exact ⟨a, by simp⟩
    obtain ⟨y, hy, _, m, c, e1, e2, e3, e4⟩ := (hup a).1 ha
    exact h0 y hy m c e1 e2 e3 e4
  have hno : J90 s l (k : Int) := fun y hy m c e1 e2 e3 e4 => by
    have := (hup y.G9).2 ⟨y, hy, rfl, m, c, e1, e2, e3, e4⟩
    have hh := of_decide_eq_false hh
    have : up ≠ [] := fun e => by rw [e] at this; cases this
    have := List.length_pos_iff.2 this
    omega
  refine H4 (wp_mono (search_spec hO.sorted (by omega) (by omega)) (fun r hr => ?_))
  obtain ⟨n, h1, h2, h3, h4, h5⟩ := hr
  refine Hb (fun hf => ?_) (fun hf => ?_)
  · have hin : (k : Int) ∈ o := List.mem_of_getElem? (h5.1 hf)
    have e : Qi o = some o := by
      unfold Qi
      refine Hf1 (fun b hb => ?_)
      cases b with
      | true => rw [hb rfl]; rfl
      | false =>
        show need _ _ = _
        unfold need
        rw [room8L (by simp only [List.length_nil]; omega)]
        rfl
    exact Gy e (Gh (.inr ⟨hno, rfl, hO, fun a => ⟨.inl, fun hh => hh.elim id (fun e => e ▸ hin)⟩⟩))
  · have hf : ¬ o[n]? = some (k : Int) := fun e => by rw [h5.2 e] at hf; cases hf
    have e : G22 o r.1 (k : Int) = some (o.take n ++ (k : Int) :: o.drop n) := by
      unfold G22
      rw [h1, decide_eq_true (show (0 : Int) ≤ (n : Int) by omega), decide_eq_true (show (n : Int) ≤ (o.length : Int) by omega), decide_eq_true (show o.length ≤ 100000 by omega), show ((n : Int)).toNat = n by omega]
      rfl
    have hmem : ∀ a, a ∈ o.take n ++ (k : Int) :: o.drop n ↔ a ∈ o ∨ a = (k : Int) := fun a => by
      have : a ∈ o ↔ a ∈ o.take n ∨ a ∈ o.drop n := by rw [← List.mem_append, List.take_append_drop]
      rw [this, List.mem_append, List.mem_cons]
      constructor
      · rintro (h | h | h)
        · exact .inl (.inl h)
        · exact .inr h
        · exact .inl (.inr h)
      · rintro ((h | h) | h)
        · exact .inl h
        · exact .inr (.inr h)
        · exact .inr (.inl h)
    refine Gy e (Gh (.inr ⟨hno, rfl, ⟨fun a ha => ?_, ?_⟩, hmem⟩))
    · rcases (hmem a).1 ha with h | h
      · exact hO.mem a h
      · omega
    · have hso := hO.sorted
      rw [← List.take_append_drop n o, List.pairwise_append] at hso
      refine List.pairwise_append.2 ⟨hso.1, List.pairwise_cons.2 ⟨fun a ha => ?_, hso.2.1⟩, fun a ha b hb => ?_⟩
      · have h6 := h4 a ha
        have : a ≠ (k : Int) := fun e => by
          subst e
          obtain ⟨j, hj, e2⟩ := List.mem_iff_getElem.1 ha
          rw [List.length_drop] at hj
          rw [List.getElem_drop] at e2
          have hp := List.pairwise_iff_getElem.1 hO.sorted
          rcases Nat.eq_zero_or_pos j with g | g
          · subst g
            exact hf (by rw [← e2]; simp [List.getElem?_eq_getElem (show n < o.length by omega)])
          · have g1 := hp n (n + j) (by omega) (by omega) (by omega)
            have g2 := h4 o[n] (List.mem_iff_getElem.2 ⟨0, by rw [List.length_drop]; omega, by rw [List.getElem_drop]; simp⟩)
            omega
        omega
      · rcases List.mem_cons.1 hb with rfl | hb
        · exact h3 a ha
        · exact hso.2.2 a ha b hb
end Go.Proofs.YtpgkkengffpnpaaGreat
