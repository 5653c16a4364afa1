/-
 What is reached for,of the states that the chapter's statements make. What can be put, taken, opened and closed.
-/
import Derived.Test.YtkcdjcgifgdanaaGreatBuiltB
set_option linter.unusedSimpArgs false
set_option linter.unnecessarySimpa false
set_option maxRecDepth 100000
set_option linter.unusedVariables false
namespace Go.Proofs.YtkcdjcgifgdanaaGreat
open Go.RowKit
/-- A ship and a state as the chapter's statements make them. -/
structure Sta (s:Gw) (boxes:List Gd) (l:List Stowed):Prop where
 ship:LimOk s
 right:R1 s boxes l
 len:l.length≤10
theorem Sta.colIn {s:Gw} {boxes:List Gd} {l:List Stowed} (h:Sta s boxes l) {x:Stowed} (hx:x∈l):He9 s x.Slot:=by
 obtain⟨b,_,h1,_⟩:=h.right.each x hx
 exact G93 h1
theorem above_at {s:Gw} {boxes:List Gd} {l:List Stowed} (h:Sta s boxes l) {x:Stowed} (hx:x∈l):G20 l x.Gd=some (G8c l x.Slot,0):=by
 have hl:=h.len
 rw [J72 l x.Gd (by omega)]
 obtain⟨x0,hf⟩:∃ x0,H09 l x.Gd=some x0:=by
  cases hq:H09 l x.Gd with
  | some x0=>exact⟨x0,rfl⟩
  | none=>exact absurd (decide_eq_true (rfl:x.Gd=x.Gd)) (by have:=List.find?_eq_none.1 hq x hx; simp at this)
 have h1:=List.mem_of_find?_eq_some hf
 have h2:x0.Gd=x.Gd:=of_decide_eq_true (List.find?_some (p:=fun z:Stowed=>decide (z.Gd=x.Gd)) hf)
 have h3:x0=x:=H89 h.right.sorted h1 hx h2
 subst h3
 unfold aboveR
 rw [hf]
theorem room8L {n m:Nat} (h:n+m≤1000):decide ((n+m)*8≤140737488355328∧n+m≤maxLen)=true:=decide_eq_true ⟨by omega,by simp only [maxLen]; omega⟩
end Go.Proofs.YtkcdjcgifgdanaaGreat
set_option linter.unusedSimpArgs false
set_option linter.unnecessarySimpa false
set_option maxRecDepth 100000
set_option linter.unusedVariables false
namespace Go.Proofs.YtkcdjcgifgdanaaGreat
open Go.RowKit

theorem wp_loop {β σ : Type} {Q : β → Prop} (I : σ → Prop) (μ : σ → Nat) {b : (σ → Option β) → σ → Option β} {F : Nat} {s : σ} (h0 : I s) (hF : μ s < F)
    (hb : ∀ s nx, I s → (∀ s', I s' → μ s' < μ s → Wp (nx s') Q) → Wp (b nx s) Q) : Wp (loop b F s) Q := by
  induction F generalizing s with
  | zero => omega
  | succ F ih =>
    rw [loop]
    exact hb s _ h0 (fun s' h1 h2 => ih h1 (by omega))
/-- Open covers: some that there are, in order. -/
structure Zm (s : Gw) (o : List Int) : Prop where
  mem : ∀ y ∈ o, 0 ≤ y ∧ y < (s.Covers.length : Int)
  sorted : o.Pairwise (· < ·)
theorem openR_nil {s : Gw} : Zm s [] := ⟨fun y hy => (List.not_mem_nil hy).elim, List.Pairwise.nil⟩
theorem Zm.len {s : Gw} {o : List Int} (h : Zm s o) : o.length ≤ s.Covers.length := by
  have hn : o.Nodup := G7d h.sorted
  have := hn.length_le_of_subset (l₂ := (List.range s.Covers.length).map (fun n : Nat => (n : Int))) (fun a ha => by
    obtain ⟨h1, h2⟩ := h.mem a ha
    exact List.mem_map.2 ⟨a.toNat, List.mem_range.2 (by omega), by omega⟩)
  simpa using this
theorem checked_spec {s : Gw} (hs : Small s) (boxes : List Gd) (l : List Stowed) (o : List Int) (hl : l.length ≤ 1000000) : Wp (Y6 s boxes l o) (fun r => r = true ↔ Zm s o ∧ R1 s boxes l) := by
  unfold Y6
  refine J0 (fun pre _ => Zm s pre) openR_nil (fun pre y post u nx e hI hnx => ?_) (fun u hI => ?_)
  · have no : ¬ Zm s o → Wp (some false) (fun r => r = true ↔ Zm s o ∧ R1 s boxes l) := fun h => Gh (Gb8 fun hh => h hh.1)
    by_cases hy : y < 0 ∨ (s.Covers.length : Int) ≤ y
    · have hc : (decide (y < 0) || decide ((s.Covers.length : Int) ≤ y)) = true := by simpa using hy
      rw [hc]
      refine H0 (Gh (H0 (Gh (H3 (fun _ => no fun h => ?_) (fun h => by cases h)))))
      have := h.mem y (by rw [e]; simp)
      omega
    have hc : (decide (y < 0) || decide ((s.Covers.length : Int) ≤ y)) = false := by
      rw [Bool.or_eq_false_iff]; exact ⟨decide_eq_false (by omega), decide_eq_false (by omega)⟩
    rw [hc]
    simp only [Bool.not_false, Bool.true_and, Bool.false_or]
    have hyok : 0 ≤ y ∧ y < (s.Covers.length : Int) := by omega
    have hprev : Wp (bif decide (0 < (pre.length : Int)) then G0d ((pre.length : Int) - 1) some else some 0) (fun v => Wp (bif decide (0 < (pre.length : Int)) then Rx o v some else some default) (fun p => (decide (0 < (pre.length : Int)) && decide (y ≤ p)) = false → Zm s (pre ++ [y])) ∧ Wp (bif decide (0 < (pre.length : Int)) then Rx o v some else some default) (fun p => (decide (0 < (pre.length : Int)) && decide (y ≤ p)) = true → ¬ Zm s o)) := by
      by_cases hp : 0 < pre.length
      · obtain ⟨p, hp1, hp2, hp3⟩ := prev_at e hp
        rw [decide_eq_true (show 0 < (pre.length : Int) by omega)]
        simp only [cond_true, Bool.true_and]
        have : pre.length < 1 + s.Covers.length := by have := hI.len; omega
        have := hs.covs
        refine Jy ⟨by omega, by omega⟩ (Gh ⟨Qt (m := pre.length - 1) (by omega) hp1 (Gh fun h => ?_), Qt (m := pre.length - 1) (by omega) hp1 (Gh fun h hh => ?_)⟩)
        · have hlt : p < y := by have := of_decide_eq_false h; omega
          exact ⟨G6d hI.mem hyok, pw_snoc hI.sorted (H56 hI.sorted hp2 hlt)⟩
        · have h := of_decide_eq_true h
          have hso := hh.sorted
          rw [e] at hso
          have := G81 hso p hp3
          omega
      · have h0 : pre = [] := List.eq_nil_of_length_eq_zero (by omega)
        subst h0
        exact Gh ⟨Gh fun _ => ⟨fun z hz => (List.mem_singleton.1 hz) ▸ hyok, List.pairwise_singleton ..⟩, Gh fun h => Bool.noConfusion h⟩
    refine H0 (wp_mono hprev (fun v hv => ?_))
    obtain ⟨p, hp, h1⟩ := hv.1
    obtain ⟨p', hp', h2⟩ := hv.2
    rw [hp] at hp'; cases hp'
    rw [hp]
    refine H0 (Gh (H3 (fun h => no (h2 h)) (fun h => hnx _ (h1 h))))
  · exact H0 (wp_mono (G01 hs.right hs.tier hl) (fun r hr => Gh (hr.trans ⟨fun h => ⟨hI, h⟩, fun h => h.2⟩)))
theorem cmp_less (x y : Int) : G3f x y = some (decide (x < y)) := by
  unfold G3f G26
  rw [decide_eq_false (show ¬ (x ≠ x) from fun h => h rfl)]
  rfl
theorem shr1 (z : Int) (h0 : 0 ≤ z) (h1 : z ≤ 2000) : Hf9 .u64 (IntKind.u64.wrap z) 1 = z / 2 := by
  have e : IntKind.u64.wrap z = z := by
    simp only [IntKind.wrap, IntKind.signed, IntKind.bits]
    simp
    omega
  rw [e]
  unfold Hf9
  rw [show min 1 IntKind.u64.bits = 1 from rfl, Int.fdiv_eq_ediv_of_nonneg _ (by decide)]
  rfl
theorem J1d {F : Nat} {o : List Int} {t : Int} (ho : o.Pairwise (· < ·)) (hl : o.length ≤ 1000) (hF : o.length < F) :
    Wp (Qi F o t) (fun r => ∃ n : Nat, r.1 = (n : Int) ∧ n ≤ o.length ∧ (∀ a ∈ o.take n, a < t) ∧ (∀ a ∈ o.drop n, t ≤ a) ∧ (r.2 = true ↔ o[n]? = some t)) := by
  unfold Qi
  have hpw := List.pairwise_iff_getElem.1 ho
  refine wp_loop (fun st => ∃ i j : Nat, st = ((i : Int), (j : Int)) ∧ i ≤ j ∧ j ≤ o.length ∧ (∀ a ∈ o.take i, a < t) ∧ (∀ a ∈ o.drop j, t ≤ a)) (fun st => (st.2 - st.1).toNat) ⟨0, o.length, rfl, Nat.zero_le _, Nat.le_refl _, by simp, by simp⟩ (by show ((o.length : Int) - 0).toNat < F; omega) (fun st nx hI hnx => ?_)
  obtain ⟨i, j, rfl, h1, h2, h3, h4⟩ := hI
  refine H3 (fun h => ?_) (fun h => ?_)
  · have h := of_decide_eq_true h
    refine Jy ⟨by omega, by omega⟩ ?_
    rw [shr1 _ (by omega) (by omega)]
    have hm : ((i : Int) + (j : Int)) / 2 = (((i + j) / 2 : Nat) : Int) := by omega
    rw [hm]
    have hk1 : i ≤ (i + j) / 2 := by omega
    have hk2 : (i + j) / 2 < j := by omega
    generalize (i + j) / 2 = k at hk1 hk2
    have hg : o[k]? = some (o[k]'(by omega)) := List.getElem?_eq_getElem (by omega)
    refine Jy ⟨by omega, by omega⟩ (Qt rfl hg (Gu (cmp_less _ _) (H3 (fun hh => Jy ⟨by omega, by omega⟩ (hnx _ ⟨k + 1, j, by simp, by omega, h2, fun a ha => ?_, h4⟩ (by simp only; omega))) (fun hh => hnx _ ⟨i, k, rfl, hk1, by omega, h3, fun a ha => ?_⟩ (by simp only; omega)))))
    · have hh := of_decide_eq_true hh
      obtain ⟨q, hq, rfl⟩ := List.mem_iff_getElem.1 ha
      rw [List.length_take] at hq
      rw [List.getElem_take]
      rcases Nat.lt_or_ge q k with g | g
      · have := hpw q k (by omega) (by omega) g; omega
      · have : q = k := by omega
        subst this; exact hh
    · have hh := of_decide_eq_false hh
      obtain ⟨q, hq, rfl⟩ := List.mem_iff_getElem.1 ha
      rw [List.length_drop] at hq
      rw [List.getElem_drop]
      rcases Nat.eq_zero_or_pos q with g | g
      · subst g; simp only [Nat.add_zero]; omega
      · have := hpw k (k + q) (by omega) (by omega) (by omega); omega
  · have h := of_decide_eq_false h
    have hij : i = j := by omega
    subst hij
    by_cases hlt : i < o.length
    · have hg : o[i]? = some o[i] := List.getElem?_eq_getElem hlt
      rw [decide_eq_true (show (i : Int) < (o.length : Int) by omega)]
      simp only [cond_true, Bool.true_and]
      refine H0 (Qt rfl hg (Gh ?_))
      by_cases he : o[i] = t
      · rw [decide_eq_true he]
        exact H0 (Gh (H0 (Gh (H0 (Gh (Gh ⟨i, rfl, h2, h3, h4, by simp [hg, he]⟩))))))
      · rw [decide_eq_false he]
        simp only [Bool.not_false, cond_true, Bool.true_and]
        refine H0 (Qt rfl hg (Gh ?_))
        unfold Zh
        rw [decide_eq_false (show ¬ (o[i] ≠ o[i]) from fun h => h rfl)]
        exact H0 (Gh (H0 (Gh (Gh ⟨i, rfl, h2, h3, h4, by simp [hg, he]⟩))))
    · rw [decide_eq_false (show ¬ ((i : Int) < (o.length : Int)) by omega)]
      exact H0 (Gh (H0 (Gh (H0 (Gh (H0 (Gh (Gh ⟨i, rfl, h2, h3, h4, by simp [List.getElem?_eq_none (show o.length ≤ i by omega)]⟩))))))))
end Go.Proofs.YtkcdjcgifgdanaaGreat
