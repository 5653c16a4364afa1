/-
  How many boxes of some groups have to be left out, in plain words: the least over all ways to deal out the halves.
-/
import Derived.Test.YtlhfflmknlfafaaXB
import Derived.Test.YtlhfflmknlfafaaVoyL
set_option maxRecDepth 100000
namespace Go.Proofs.Ytlhfflmknlfafaa
open Go.RowKit

structure CountOk (c : G0) : Prop where
  whole : 0 ≤ c.Whole ∧ c.Whole ≤ 10
  half : 0 ≤ c.Half ∧ c.Half ≤ 10

/-- What bound.out returns: the least number of boxes of a group that are left out in some halves of columns. -/
structure IsOut (T : Int) (c : G0) (h v : Int) : Prop where
  att : v = c.Whole + c.Half ∨ ∃ w, 0 ≤ w ∧ w ≤ c.Whole ∧ w ≤ T * (h / 2) ∧ v = c.Whole - w + c.Half - min c.Half (T * h - 2 * w)
  top : v ≤ c.Whole + c.Half
  least : ∀ w, 0 ≤ w → w ≤ c.Whole → w ≤ T * (h / 2) → v ≤ c.Whole - w + c.Half - min c.Half (T * h - 2 * w)

theorem prod_le {T h a b : Int} (h1 : 0 ≤ T ∧ T ≤ a) (h2 : 0 ≤ h ∧ h ≤ b) : 0 ≤ T * h ∧ T * h ≤ a * b :=
  ⟨Int.mul_nonneg h1.1 h2.1, Int.mul_le_mul h1.2 h2.2 h2.1 (by omega)⟩

theorem out_spec {F : Nat} {c : G0} {T h : Int} (hc : CountOk c) (hT : 0 ≤ T ∧ T ≤ 20) (hh : 0 ≤ h ∧ h ≤ 40) (hF : 60 ≤ F) : Wp (M_bound_out F c T h) (IsOut T c h) := by
  unfold M_bound_out
  obtain ⟨⟨w1, w2⟩, ⟨v1, v2⟩⟩ := hc
  have hA := prod_le (b := 20) hT (⟨by omega, by omega⟩ : 0 ≤ h / 2 ∧ h / 2 ≤ 20)
  have hB := prod_le hT hh
  have hq : h.tdiv 2 = h / 2 := Int.tdiv_eq_ediv_of_nonneg hh.1
  refine wp_chk ⟨by omega, by omega⟩ ?_
  refine wp_loop (fun s : Int × Int => 0 ≤ s.2 ∧ s.2 ≤ c.Whole + 1 ∧ (s.1 = c.Whole + c.Half ∨ ∃ w, 0 ≤ w ∧ w ≤ c.Whole ∧ w ≤ T * (h / 2) ∧ s.1 = c.Whole - w + c.Half - min c.Half (T * h - 2 * w)) ∧ s.1 ≤ c.Whole + c.Half ∧
      ∀ w, 0 ≤ w → w < s.2 → w ≤ c.Whole → w ≤ T * (h / 2) → s.1 ≤ c.Whole - w + c.Half - min c.Half (T * h - 2 * w))
    (fun s => (c.Whole + 1 - s.2).toNat) ⟨by omega, by show (0 : Int) ≤ c.Whole + 1; omega, .inl rfl, Int.le_refl _, fun w h1 h2 => by simp only at h2; omega⟩ (by simp only; omega) (fun s nx hI hnx => ?_)
  obtain ⟨i1, i2, i3, i4, i5⟩ := hI
  refine wp_bnd (wp_quo (by omega) (by omega) ?_)
  rw [hq]
  refine wp_chk ⟨by omega, by omega⟩ (wp_bif (fun hle => ?_) (fun hle => wp_some ⟨i3, i4, fun w h1 h2 h3 => i5 w h1 ?_ h2 h3⟩))
  · have hle := of_decide_eq_true hle
    refine wp_chk ⟨by omega, by omega⟩ (wp_chk ⟨by omega, by omega⟩ (wp_chk ⟨by omega, by omega⟩ (wp_chk ⟨by omega, by omega⟩ (wp_chk ⟨by omega, by omega⟩ (wp_chk ⟨by omega, by omega⟩ (wp_chk ⟨by omega, by omega⟩ ?_))))))
    refine hnx _ ⟨by simp only; omega, by simp only; omega, ?_, by simp only; omega, fun w h1 h2 h3 h4 => ?_⟩ (by simp only; omega)
    · simp only
      rcases Int.le_total s.1 (c.Whole - s.2 + c.Half - min c.Half (T * h - 2 * s.2)) with hm | hm
      · rw [Int.min_eq_left hm]; exact i3
      · rw [Int.min_eq_right hm]; exact .inr ⟨s.2, i1, by omega, by omega, rfl⟩
    · simp only at h2 ⊢
      by_cases e : w = s.2
      · subst e; omega
      · have := i5 w h1 (by omega) h3 h4
        omega
  · have := of_decide_eq_false hle
    omega

def outF (F : Nat) (T : Int) (c : G0) (h : Nat) : Int := (M_bound_out F c T (h : Int)).getD 0
theorem outF_ok {F : Nat} {c : G0} {T : Int} {h : Nat} (hc : CountOk c) (hT : 0 ≤ T ∧ T ≤ 20) (hh : h ≤ 40) (hF : 60 ≤ F) : M_bound_out F c T (h : Int) = some (outF F T c h) ∧ IsOut T c (h : Int) (outF F T c h) := by
  obtain ⟨v, e, hv⟩ := out_spec (h := (h : Int)) hc hT ⟨by omega, by omega⟩ hF
  unfold outF
  rw [e]
  exact ⟨rfl, hv⟩
theorem IsOut.nonneg {T : Int} {c : G0} {h v : Int} (hc : CountOk c) (i : IsOut T c h v) : 0 ≤ v := by
  obtain ⟨⟨w1, w2⟩, ⟨v1, v2⟩⟩ := hc
  rcases i.att with e | ⟨w, h1, h2, h3, e⟩ <;> omega
theorem IsOut.mono {T T' : Int} {c : G0} {h v v' : Int} (hT : T ≤ T') (hh : 0 ≤ h) (i : IsOut T c h v) (i' : IsOut T' c h v') : v' ≤ v := by
  rcases i.att with e | ⟨w, h1, h2, h3, e⟩
  · rw [e]; exact i'.top
  · have hA : T * (h / 2) ≤ T' * (h / 2) := Int.mul_le_mul_of_nonneg_right hT (by omega)
    have hB : T * h ≤ T' * h := Int.mul_le_mul_of_nonneg_right hT hh
    have := i'.least w h1 h2 (by omega)
    omega

def wsum (ps : List (G0 × Nat)) : Nat := (ps.map (·.2)).sum
def costF (F : Nat) (T : Int) (ps : List (G0 × Nat)) : Int := (ps.map (fun p => outF F T p.1 p.2)).sum
/-- The least that the groups leave out, over all ways to deal out some halves. -/
structure Best (F : Nat) (T : Int) (l : List G0) (a : Nat) (v : Int) : Prop where
  att : ∃ ps : List (G0 × Nat), ps.map (·.1) = l ∧ wsum ps ≤ a ∧ costF F T ps = v
  least : ∀ ps : List (G0 × Nat), ps.map (·.1) = l → wsum ps ≤ a → v ≤ costF F T ps
section
variable {F : Nat} {T T' : Int} {l l1 l2 : List G0} {a a' : Nat} {v v' : Int} {c : G0}
theorem wsum_append (p q : List (G0 × Nat)) : wsum (p ++ q) = wsum p + wsum q := by unfold wsum; simp
theorem cost_append (p q : List (G0 × Nat)) : costF F T (p ++ q) = costF F T p + costF F T q := by unfold costF; simp
theorem wsum_mem : ∀ {ps : List (G0 × Nat)} {p : G0 × Nat}, p ∈ ps → p.2 ≤ wsum ps
  | q :: ps, p, h => by
    have e : wsum (q :: ps) = q.2 + wsum ps := by simp [wsum]
    rcases List.mem_cons.1 h with rfl | h
    · omega
    · have := wsum_mem h; omega
theorem cost_mono : ∀ (ps : List (G0 × Nat)), (∀ p ∈ ps, outF F T' p.1 p.2 ≤ outF F T p.1 p.2) → costF F T' ps ≤ costF F T ps
  | [], _ => Int.le_refl _
  | p :: ps, h => by
    have e1 : costF F T' (p :: ps) = outF F T' p.1 p.2 + costF F T' ps := by simp [costF]
    have e2 : costF F T (p :: ps) = outF F T p.1 p.2 + costF F T ps := by simp [costF]
    have h1 := h p (List.mem_cons_self ..)
    have h2 := cost_mono ps (fun q hq => h q (List.mem_cons_of_mem _ hq))
    omega
theorem Best.anti (h : Best F T l a v) (h' : Best F T l a' v') (ha : a ≤ a') : v' ≤ v := by
  obtain ⟨ps, e1, e2, e3⟩ := h.att
  rw [← e3]
  exact h'.least ps e1 (by omega)
theorem Best.wide (hl : ∀ c ∈ l, CountOk c) (hT : 0 ≤ T) (hTT : T ≤ T') (hT' : T' ≤ 20) (ha : a ≤ a') (hb : a ≤ 40) (hF : 60 ≤ F) (h : Best F T l a v) (h' : Best F T' l a' v') : v' ≤ v := by
  obtain ⟨ps, e1, e2, e3⟩ := h.att
  refine Int.le_trans (h'.least ps e1 (by omega)) ?_
  rw [← e3]
  refine cost_mono ps (fun p hp => ?_)
  have hc := hl p.1 (e1 ▸ List.mem_map.2 ⟨p, hp, rfl⟩)
  have hw := wsum_mem hp
  exact IsOut.mono hTT (by omega) (outF_ok hc ⟨hT, by omega⟩ (by omega) hF).2 (outF_ok hc ⟨by omega, hT'⟩ (by omega) hF).2
theorem Best.sub (hc : CountOk c) (hT : 0 ≤ T ∧ T ≤ 20) (hb : a ≤ 40) (hF : 60 ≤ F) (h : Best F T (l1 ++ c :: l2) a v) (h' : Best F T (l1 ++ l2) a v') : v' ≤ v := by
  obtain ⟨ps, e1, e2, e3⟩ := h.att
  obtain ⟨p1, p2, rfl, q1, q2⟩ := List.map_eq_append_iff.1 e1
  cases p2 with
  | nil => cases q2
  | cons p p3 =>
    simp only [List.map_cons, List.cons.injEq] at q2
    obtain ⟨rfl, q2⟩ := q2
    have hw : wsum (p1 ++ p :: p3) = wsum p1 + p.2 + wsum p3 := by rw [wsum_append]; simp [wsum]; omega
    have hk : costF F T (p1 ++ p :: p3) = costF F T p1 + outF F T p.1 p.2 + costF F T p3 := by rw [cost_append]; simp [costF]; omega
    have := h'.least (p1 ++ p3) (by rw [List.map_append, q1, q2]) (by rw [wsum_append]; omega)
    rw [cost_append] at this
    have h0 := (outF_ok (h := p.2) hc hT (by omega) hF).2.nonneg hc
    omega
theorem Best.step {lv : Nat → Int} {H : Nat} {x : Int} (hl : ∀ a ≤ H, Best F T l a (lv a)) (ha : a ≤ H) (h1 : ∃ h ≤ a, x = lv (a - h) + outF F T c h) (h2 : ∀ h ≤ a, x ≤ lv (a - h) + outF F T c h) : Best F T (l ++ [c]) a x := by
  refine ⟨?_, fun ps e1 e2 => ?_⟩
  · obtain ⟨h, hh, e⟩ := h1
    obtain ⟨ps, e1, e2, e3⟩ := (hl (a - h) (by omega)).att
    refine ⟨ps ++ [(c, h)], by rw [List.map_append, e1]; rfl, ?_, ?_⟩
    · rw [wsum_append]; simp [wsum] at e2 ⊢; omega
    · rw [cost_append, e3, e]; simp [costF]
  · obtain ⟨p1, p2, rfl, q1, q2⟩ := List.map_eq_append_iff.1 e1
    cases p2 with
    | nil => cases q2
    | cons p p3 =>
      simp only [List.map_cons, List.cons.injEq, List.map_eq_nil_iff] at q2
      obtain ⟨rfl, rfl⟩ := q2
      rw [wsum_append, show wsum [p] = p.2 by simp [wsum]] at e2
      rw [cost_append, show costF F T [p] = outF F T p.1 p.2 by simp [costF]]
      have g1 := (hl (a - p.2) (by omega)).least p1 q1 (by omega)
      have g2 := h2 p.2 (by omega)
      omega
end

/-- What is known of a cell when the first halves have been tried. -/
def Good (lv ov : Nat → Int) (k a : Nat) (x : Int) : Prop := (x = -1 ∧ k = 0) ∨ (0 < k ∧ 0 ≤ x ∧ (∃ h ≤ a, x = lv (a - h) + ov h) ∧ ∀ h < k, h ≤ a → x ≤ lv (a - h) + ov h)

theorem fill_spec {F : Nat} {c : G0} {T : Int} {H : Nat} {L : List Int} (lv : Nat → Int) (hc : CountOk c) (hT : 0 ≤ T ∧ T ≤ 20) (hH : H ≤ 30) (hF : 60 ≤ F)
    (hRep : M_slices_Repeat_int F [(-1)] ((H : Int) + 1) = some (List.replicate (H + 1) (-1))) (hL : ∀ a ≤ H, L[a]? = some (lv a)) (hb : ∀ a ≤ H, 0 ≤ lv a ∧ lv a ≤ 100000) (hanti : ∀ a b, a ≤ b → b ≤ H → lv b ≤ lv a) :
    Wp (M_bound_bound_1 F c (H : Int) T L) (fun N => N.length = H + 1 ∧ ∀ a ≤ H, ∃ x, N[a]? = some x ∧ (∃ h ≤ a, x = lv (a - h) + outF F T c h) ∧ ∀ h ≤ a, x ≤ lv (a - h) + outF F T c h) := by
  unfold M_bound_bound_1
  have hov : ∀ h ≤ H, 0 ≤ outF F T c h ∧ outF F T c h ≤ 20 := fun h hh => by
    have i := (outF_ok (h := h) hc hT (by omega) hF).2
    have := i.top
    have h1 := hc.whole
    have h2 := hc.half
    exact ⟨i.nonneg hc, by omega⟩
  refine wp_chk ⟨by omega, by omega⟩ (wp_bnd_eq hRep ?_)
  refine wp_jp (fun N => N.length = H + 1 ∧ ∀ a ≤ H, ∃ x, N[a]? = some x ∧ (∃ h ≤ a, x = lv (a - h) + outF F T c h) ∧ ∀ h ≤ a, x ≤ lv (a - h) + outF F T c h) (fun K hK => ?_) (fun N hN => wp_some hN)
  refine wp_loop (fun s : Int × List Int => ∃ k : Nat, s.1 = (k : Int) ∧ k ≤ H + 1 ∧ s.2.length = H + 1 ∧ ∀ a ≤ H, ∃ x, s.2[a]? = some x ∧ Good lv (outF F T c) k a x) (fun s => H + 1 - s.1.toNat)
    ⟨0, rfl, by omega, by simp, fun a ha => ⟨-1, by show (List.replicate (H + 1) (-1 : Int))[a]? = _; rw [List.getElem?_replicate, if_pos (by omega)], .inl ⟨rfl, rfl⟩⟩⟩ (by simp only; omega) (fun s nx hI hnx => ?_)
  obtain ⟨k, hk, hkH, hlen, hN⟩ := hI
  rw [hk]
  refine wp_bif (fun h => ?_) (fun h => hK _ ⟨hlen, fun a ha => ?_⟩)
  · have hk2 : k ≤ H := by have := of_decide_eq_true h; omega
    refine wp_bnd_eq (outF_ok hc hT (by omega) hF).1 ?_
    have hok := hov k hk2
    refine wp_loop (fun s : Int × List Int => ∃ m : Nat, s.1 = (m : Int) ∧ k ≤ m ∧ m ≤ H + 1 ∧ s.2.length = H + 1 ∧ ∀ a ≤ H, ∃ x, s.2[a]? = some x ∧ Good lv (outF F T c) (if k ≤ a ∧ a < m then k + 1 else k) a x) (fun s => H + 1 - s.1.toNat)
      ⟨k, rfl, Nat.le_refl _, by omega, hlen, fun a ha => by
        obtain ⟨x, h1, h2⟩ := hN a ha
        exact ⟨x, h1, by rw [if_neg (by omega)]; exact h2⟩⟩ (by simp only; omega) (fun s2 nx2 hJ hnx2 => ?_)
    obtain ⟨m, hm, hkm, hmH, hlen2, hN2⟩ := hJ
    rw [hm]
    refine wp_bif (fun h => ?_) (fun h => ?_)
    · have hm2 : m ≤ H := by have := of_decide_eq_true h; omega
      obtain ⟨x, hx, hg⟩ := hN2 m hm2
      rw [if_neg (by omega)] at hg
      have hlb := hb (m - k) (by omega)
      have hput : ∀ {N : List Int} {y : Int}, N[m]? = some y → (∀ a, a ≠ m → N[a]? = s2.2[a]?) → Good lv (outF F T c) (k + 1) m y → ∀ a ≤ H, ∃ x, N[a]? = some x ∧ Good lv (outF F T c) (if k ≤ a ∧ a < m + 1 then k + 1 else k) a x := fun {N y} e1 e2 g a ha => by
        by_cases e : a = m
        · subst e; exact ⟨y, e1, by rw [if_pos ⟨hkm, by omega⟩]; exact g⟩
        · obtain ⟨x, h1, h2⟩ := hN2 a ha
          refine ⟨x, by rw [e2 a e]; exact h1, ?_⟩
          by_cases hc2 : k ≤ a ∧ a < m
          · rw [if_pos ⟨hc2.1, by omega⟩]; rw [if_pos hc2] at h2; exact h2
          · rw [if_neg (by omega)]; rw [if_neg hc2] at h2; exact h2
      have hset1 : (s2.2.set (m : Int).toNat (lv (m - k) + outF F T c k))[m]? = some (lv (m - k) + outF F T c k) := by
        rw [show ((m : Int)).toNat = m by omega, List.getElem?_set, if_pos rfl, if_pos (by omega)]
      have hset2 : ∀ a, a ≠ m → (s2.2.set (m : Int).toNat (lv (m - k) + outF F T c k))[a]? = s2.2[a]? := fun a e => by
        rw [show ((m : Int)).toNat = m by omega, List.getElem?_set, if_neg (Ne.symm e)]
      refine wp_jp (fun N => N.length = H + 1 ∧ ∀ a ≤ H, ∃ x, N[a]? = some x ∧ Good lv (outF F T c) (if k ≤ a ∧ a < m + 1 then k + 1 else k) a x) (fun K' hK' => ?_)
        (fun N hN => wp_chk ⟨by omega, by omega⟩ (hnx2 _ ⟨m + 1, by simp, by omega, by omega, hN.1, hN.2⟩ (by simp only [hm]; omega)))
      refine wp_chk ⟨by omega, by omega⟩ (wp_gidx (m := m - k) (by omega) (hL _ (by omega)) (wp_chk ⟨by omega, by omega⟩ (wp_gidx rfl hx ?_)))
      by_cases hx0 : x < 0
      · rw [decide_eq_true hx0]
        simp only [Bool.not_true, cond_false, Bool.true_or, cond_true]
        refine wp_bnd (wp_some (wp_gidx rfl hx (hK' _ ⟨by rw [List.length_set]; exact hlen2, hput hset1 hset2 (.inr ⟨by omega, by omega, ⟨k, hkm, rfl⟩, fun q h1 h2 => ?_⟩)⟩)))
        rcases hg with ⟨_, e0⟩ | ⟨_, h3, _⟩
        · have : q = k := by omega
          subst this; exact Int.le_refl _
        · omega
      · rw [decide_eq_false hx0]
        simp only [Bool.not_false, cond_true, Bool.false_or]
        rcases hg with ⟨h3, _⟩ | ⟨g1, g2, g3, g4⟩
        · omega
        refine wp_bnd (wp_gidx rfl hx (wp_some (wp_bif (fun hlt => wp_gidx rfl hx (hK' _ ⟨by rw [List.length_set]; exact hlen2, hput hset1 hset2 (.inr ⟨by omega, by omega, ⟨k, hkm, rfl⟩, fun h h1 h2 => ?_⟩)⟩)) (fun hlt => hK' _ ⟨hlen2, hput hx (fun _ _ => rfl) (.inr ⟨by omega, g2, g3, fun h h1 h2 => ?_⟩)⟩))))
        · have := of_decide_eq_true hlt
          by_cases e : h = k
          · subst e; exact Int.le_refl _
          · have := g4 h (by omega) h2; omega
        · have := of_decide_eq_false hlt
          by_cases e : h = k
          · subst e; omega
          · exact g4 h (by omega) h2
    · have hmE : m = H + 1 := by have := of_decide_eq_false h; omega
      have hN3 : ∀ a ≤ H, ∃ x, s2.2[a]? = some x ∧ Good lv (outF F T c) (k + 1) a x := fun a ha => by
        obtain ⟨x, hx, hg⟩ := hN2 a ha
        refine ⟨x, hx, ?_⟩
        by_cases hka : k ≤ a
        · rw [if_pos ⟨hka, by omega⟩] at hg; exact hg
        · rw [if_neg (fun h => hka h.1)] at hg
          rcases hg with ⟨_, rfl⟩ | ⟨g1, g2, g3, g4⟩
          · omega
          · exact .inr ⟨by omega, g2, g3, fun h h1 h2 => g4 h (by omega) h2⟩
      refine wp_bif (fun hz => hK _ ⟨hlen2, fun a ha => ?_⟩) (fun _ => wp_chk ⟨by omega, by omega⟩ (hnx _ ⟨k + 1, by simp, by omega, hlen2, hN3⟩ (by simp only [hk]; omega)))
      have h0 := of_decide_eq_true hz
      obtain ⟨x, hx, hg⟩ := hN3 a ha
      rcases hg with ⟨_, h3⟩ | ⟨g1, g2, g3, g4⟩
      · omega
      · refine ⟨x, hx, g3, fun h hh => ?_⟩
        by_cases hhk : h < k + 1
        · exact g4 h hhk hh
        · have e1 := g4 k (by omega) (by omega)
          have e2 := hanti (a - h) (a - k) (by omega) (by omega)
          have e3 := (hov h (by omega)).1
          omega
  · obtain ⟨x, hx, hg⟩ := hN a ha
    have := of_decide_eq_false h
    rcases hg with ⟨_, h3⟩ | ⟨g1, g2, g3, g4⟩
    · omega
    · exact ⟨x, hx, g3, fun h hh => g4 h (by omega) hh⟩

theorem bound_spec {F : Nat} {s : Ship} {l : List G0} {T : Int} {H : Nat} (hTall : M_ship_Tallest s = some T) (hT : 0 ≤ T ∧ T ≤ 20) (hcol : H = 2 * s.Columns.length) (hH : H ≤ 30)
    (hRep : M_slices_Repeat_int F [(-1)] ((H : Int) + 1) = some (List.replicate (H + 1) (-1))) (hl : ∀ c ∈ l, CountOk c) (hlen : l.length ≤ 20) (hF : 60 ≤ F) : Wp (M_bound_bound F s l) (fun v => Best F T l H v ∧ 0 ≤ v ∧ v ≤ 400) := by
  unfold M_bound_bound
  refine wp_bnd_eq hTall (wp_chk ⟨by omega, by omega⟩ (wp_chk ⟨by omega, by omega⟩ ?_))
  have e4 : 2 * (s.Columns.length : Int) = (H : Int) := by omega
  rw [e4]
  refine wp_bnd_eq (x := H + 1) (by
    unfold natOf
    rw [decide_eq_true (by omega), cond_true]
    congr 1) (wp_need (decide_eq_true (by simp only [maxLen]; omega)) ?_)
  refine wp_each (fun pre st => st.length = H + 1 ∧ ∃ lv : Nat → Int, ∀ a ≤ H, st[a]? = some (lv a) ∧ Best F T pre a (lv a) ∧ 0 ≤ lv a ∧ lv a ≤ 20 * pre.length)
    ⟨by simp, fun _ => 0, fun a ha => ⟨by rw [List.getElem?_replicate, if_pos (by omega)], ⟨⟨[], rfl, by simp [wsum], rfl⟩, fun ps e1 _ => by
      rw [List.map_eq_nil_iff.1 e1]; exact Int.le_refl _⟩, Int.le_refl _, by simp⟩⟩ (fun pre y post st nx e hI hnx => ?_) (fun st hI => ?_)
  · obtain ⟨hn, lv, hlv⟩ := hI
    have hy : CountOk y := hl y (by rw [e]; simp)
    have hp : pre.length < 20 := by rw [e] at hlen; simp only [List.length_append, List.length_cons] at hlen; omega
    refine wp_bnd (wp_mono (fill_spec lv hy hT hH hF hRep (fun a ha => (hlv a ha).1) (fun a ha => ⟨(hlv a ha).2.2.1, by have := (hlv a ha).2.2.2; omega⟩) (fun a b hab hb => (hlv a (by omega)).2.1.anti (hlv b hb).2.1 hab)) (fun N hN => hnx _ ⟨hN.1, fun a => (N[a]?).getD 0, fun a ha => ?_⟩))
    obtain ⟨x, hx, g1, g2⟩ := hN.2 a ha
    show N[a]? = some ((N[a]?).getD 0) ∧ Best F T (pre ++ [y]) a ((N[a]?).getD 0) ∧ 0 ≤ (N[a]?).getD 0 ∧ (N[a]?).getD 0 ≤ 20 * ((pre ++ [y]).length : Int)
    rw [hx]
    show some x = some x ∧ Best F T (pre ++ [y]) a x ∧ 0 ≤ x ∧ x ≤ 20 * ((pre ++ [y]).length : Int)
    refine ⟨rfl, Best.step (fun a ha => (hlv a ha).2.1) ha g1 g2, ?_, ?_⟩
    · obtain ⟨h, hh, e⟩ := g1
      have := (hlv (a - h) (by omega)).2.2.1
      have := (outF_ok (h := h) hy hT (by omega) hF).2.nonneg hy
      show 0 ≤ x
      omega
    · have e1 := g2 0 (by omega)
      have e2 := (hlv (a - 0) (by omega)).2.2.2
      have e3 := (outF_ok (h := 0) hy hT (by omega) hF).2.top
      obtain ⟨⟨_, w2⟩, ⟨_, v2⟩⟩ := hy
      show x ≤ _
      rw [List.length_append, List.length_singleton]
      omega
  · obtain ⟨hn, lv, hlv⟩ := hI
    obtain ⟨h1, h2, h3, h4⟩ := hlv H (Nat.le_refl _)
    exact wp_gidx rfl h1 (wp_some ⟨h2, h3, by omega⟩)
end Go.Proofs.Ytlhfflmknlfafaa
