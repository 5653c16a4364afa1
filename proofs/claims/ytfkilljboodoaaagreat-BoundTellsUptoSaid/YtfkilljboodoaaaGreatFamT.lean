/-
  How many boxes of some groups have to be left out, in plain words: the least over all ways to deal out the halves.
-/
import Derived.Test.YtfkilljboodoaaaGreatBaseT
set_option maxRecDepth 100000
namespace Go.Proofs.YtfkilljboodoaaaGreat
open Go.RowKit

structure G4e (c : G2) : Prop where
  whole : 0 ≤ c.Whole ∧ c.Whole ≤ 12
  half : 0 ≤ c.Half ∧ c.Half ≤ 12

/-- What bound.out returns: the least number of boxes of a group that are left out in some halves of columns. -/
structure J4a (T : Int) (c : G2) (h v : Int) : Prop where
  att : v = c.Whole + c.Half ∨ ∃ w, 0 ≤ w ∧ w ≤ c.Whole ∧ w ≤ T * (h / 2) ∧ v = c.Whole - w + c.Half - min c.Half (T * h - 2 * w)
  top : v ≤ c.Whole + c.Half
  least : ∀ w, 0 ≤ w → w ≤ c.Whole → w ≤ T * (h / 2) → v ≤ c.Whole - w + c.Half - min c.Half (T * h - 2 * w)

theorem prod_le {T h a b : Int} (h1 : 0 ≤ T ∧ T ≤ a) (h2 : 0 ≤ h ∧ h ≤ b) : 0 ≤ T * h ∧ T * h ≤ a * b :=
  ⟨Int.mul_nonneg h1.1 h2.1, Int.mul_le_mul h1.2 h2.2 h2.1 (by omega)⟩

theorem out_spec {F : Nat} {c : G2} {T h : Int} (hc : G4e c) (hT : 0 ≤ T ∧ T ≤ 20) (hh : 0 ≤ h ∧ h ≤ 40) (hF : 60 ≤ F) : Wp (G66 F c T h) (J4a T c h) := by
  unfold G66
  obtain ⟨⟨w1, w2⟩, ⟨v1, v2⟩⟩ := hc
  have hA := prod_le (b := 20) hT (⟨by omega, by omega⟩ : 0 ≤ h / 2 ∧ h / 2 ≤ 20)
  have hB := prod_le hT hh
  have hq : h.tdiv 2 = h / 2 := Int.tdiv_eq_ediv_of_nonneg hh.1
  refine Jh ⟨by omega, by omega⟩ ?_
  refine wp_loop (fun s : Int × Int => 0 ≤ s.2 ∧ s.2 ≤ c.Whole + 1 ∧ (s.1 = c.Whole + c.Half ∨ ∃ w, 0 ≤ w ∧ w ≤ c.Whole ∧ w ≤ T * (h / 2) ∧ s.1 = c.Whole - w + c.Half - min c.Half (T * h - 2 * w)) ∧ s.1 ≤ c.Whole + c.Half ∧
      ∀ w, 0 ≤ w → w < s.2 → w ≤ c.Whole → w ≤ T * (h / 2) → s.1 ≤ c.Whole - w + c.Half - min c.Half (T * h - 2 * w))
    (fun s => (c.Whole + 1 - s.2).toNat) ⟨by omega, by show (0 : Int) ≤ c.Whole + 1; omega, .inl rfl, Int.le_refl _, fun w h1 h2 => by simp only at h2; omega⟩ (by simp only; omega) (fun s nx hI hnx => ?_)
  obtain ⟨i1, i2, i3, i4, i5⟩ := hI
  refine Jo (wp_quo (by omega) (by omega) ?_)
  rw [hq]
  refine Jh ⟨by omega, by omega⟩ (J5 (fun hle => ?_) (fun hle => H3 ⟨i3, i4, fun w h1 h2 h3 => i5 w h1 ?_ h2 h3⟩))
  · have hle := of_decide_eq_true hle
    refine Jh ⟨by omega, by omega⟩ (Jh ⟨by omega, by omega⟩ (Jh ⟨by omega, by omega⟩ (Jh ⟨by omega, by omega⟩ (Jh ⟨by omega, by omega⟩ (Jh ⟨by omega, by omega⟩ (Jh ⟨by omega, by omega⟩ ?_))))))
    refine hnx _ ⟨by simp only; omega, by simp only; omega, ?_, by simp only; omega, fun w h1 h2 h3 h4 => ?_⟩ (by simp only; omega)
    · simp only
      rcases Int.le_total s.1 (c.Whole - s.2 + c.Half - min c.Half (T * h - 2 * s.2)) with hm | hm
      · rw [Int.min_eq_left hm]; exact i3
      · rw [Int.min_eq_right hm]; exact .inr ⟨s.2, i1, by omega, by omega, rfl⟩
    · simp only at h2 ⊢
      by_cases e : w = s.2
      · subst e; omega
      · have := i5 w h1 (by omega) h3 h4
        omega
  · have := of_decide_eq_false hle
    omega

def G96 (F : Nat) (T : Int) (c : G2) (h : Nat) : Int := (G66 F c T (h : Int)).getD 0
theorem Gc5 {F : Nat} {c : G2} {T : Int} {h : Nat} (hc : G4e c) (hT : 0 ≤ T ∧ T ≤ 20) (hh : h ≤ 40) (hF : 60 ≤ F) : G66 F c T (h : Int) = some (G96 F T c h) ∧ J4a T c (h : Int) (G96 F T c h) := by
  obtain ⟨v, e, hv⟩ := out_spec (h := (h : Int)) hc hT ⟨by omega, by omega⟩ hF
  unfold G96
  rw [e]
  exact ⟨rfl, hv⟩
theorem J4a.nonneg {T : Int} {c : G2} {h v : Int} (hc : G4e c) (i : J4a T c h v) : 0 ≤ v := by
  obtain ⟨⟨w1, w2⟩, ⟨v1, v2⟩⟩ := hc
  rcases i.att with e | ⟨w, h1, h2, h3, e⟩ <;> omega
theorem J4a.mono {T T' : Int} {c : G2} {h v v' : Int} (hT : T ≤ T') (hh : 0 ≤ h) (i : J4a T c h v) (i' : J4a T' c h v') : v' ≤ v := by
  rcases i.att with e | ⟨w, h1, h2, h3, e⟩
  · rw [e]; exact i'.top
  · have hA : T * (h / 2) ≤ T' * (h / 2) := Int.mul_le_mul_of_nonneg_right hT (by omega)
    have hB : T * h ≤ T' * h := Int.mul_le_mul_of_nonneg_right hT hh
    have := i'.least w h1 h2 (by omega)
    omega

def Ga1 (ps : List (G2 × Nat)) : Nat := (ps.map (·.2)).sum
def G01 (F : Nat) (T : Int) (ps : List (G2 × Nat)) : Int := (ps.map (fun p => G96 F T p.1 p.2)).sum
/-- The least that the groups leave out, over all ways to deal out some halves. -/
structure G71 (F : Nat) (T : Int) (l : List G2) (a : Nat) (v : Int) : Prop where
  att : ∃ ps : List (G2 × Nat), ps.map (·.1) = l ∧ Ga1 ps ≤ a ∧ G01 F T ps = v
  least : ∀ ps : List (G2 × Nat), ps.map (·.1) = l → Ga1 ps ≤ a → v ≤ G01 F T ps
section
variable {F : Nat} {T T' : Int} {l l1 l2 : List G2} {a a' : Nat} {v v' : Int} {c : G2}
theorem H2c (p q : List (G2 × Nat)) : Ga1 (p ++ q) = Ga1 p + Ga1 q := by unfold Ga1; simp
theorem H35 (p q : List (G2 × Nat)) : G01 F T (p ++ q) = G01 F T p + G01 F T q := by unfold G01; simp
theorem wsum_mem : ∀ {ps : List (G2 × Nat)} {p : G2 × Nat}, p ∈ ps → p.2 ≤ Ga1 ps
  | q :: ps, p, h => by
    have e : Ga1 (q :: ps) = q.2 + Ga1 ps := by simp [Ga1]
    rcases List.mem_cons.1 h with rfl | h
    · omega
    · have := wsum_mem h; omega
theorem cost_mono : ∀ (ps : List (G2 × Nat)), (∀ p ∈ ps, G96 F T' p.1 p.2 ≤ G96 F T p.1 p.2) → G01 F T' ps ≤ G01 F T ps
  | [], _ => Int.le_refl _
  | p :: ps, h => by
    have e1 : G01 F T' (p :: ps) = G96 F T' p.1 p.2 + G01 F T' ps := by simp [G01]
    have e2 : G01 F T (p :: ps) = G96 F T p.1 p.2 + G01 F T ps := by simp [G01]
    have h1 := h p (List.mem_cons_self ..)
    have h2 := cost_mono ps (fun q hq => h q (List.mem_cons_of_mem _ hq))
    omega
theorem G71.anti (h : G71 F T l a v) (h' : G71 F T l a' v') (ha : a ≤ a') : v' ≤ v := by
  obtain ⟨ps, e1, e2, e3⟩ := h.att
  rw [← e3]
  exact h'.least ps e1 (by omega)
theorem G71.wide (hl : ∀ c ∈ l, G4e c) (hT : 0 ≤ T) (hTT : T ≤ T') (hT' : T' ≤ 20) (ha : a ≤ a') (hb : a ≤ 40) (hF : 60 ≤ F) (h : G71 F T l a v) (h' : G71 F T' l a' v') : v' ≤ v := by
  obtain ⟨ps, e1, e2, e3⟩ := h.att
  refine Int.le_trans (h'.least ps e1 (by omega)) ?_
  rw [← e3]
  refine cost_mono ps (fun p hp => ?_)
  have hc := hl p.1 (e1 ▸ List.mem_map.2 ⟨p, hp, rfl⟩)
  have hw := wsum_mem hp
  exact J4a.mono hTT (by omega) (Gc5 hc ⟨hT, by omega⟩ (by omega) hF).2 (Gc5 hc ⟨by omega, hT'⟩ (by omega) hF).2
theorem G71.sub (hc : G4e c) (hT : 0 ≤ T ∧ T ≤ 20) (hb : a ≤ 40) (hF : 60 ≤ F) (h : G71 F T (l1 ++ c :: l2) a v) (h' : G71 F T (l1 ++ l2) a v') : v' ≤ v := by
  obtain ⟨ps, e1, e2, e3⟩ := h.att
  obtain ⟨p1, p2, rfl, q1, q2⟩ := List.map_eq_append_iff.1 e1
  cases p2 with
  | nil => cases q2
  | cons p p3 =>
    simp only [List.map_cons, List.cons.injEq] at q2
    obtain ⟨rfl, q2⟩ := q2
    have hw : Ga1 (p1 ++ p :: p3) = Ga1 p1 + p.2 + Ga1 p3 := by rw [H2c]; simp [Ga1]; omega
    have hk : G01 F T (p1 ++ p :: p3) = G01 F T p1 + G96 F T p.1 p.2 + G01 F T p3 := by rw [H35]; simp [G01]; omega
    have := h'.least (p1 ++ p3) (by rw [List.map_append, q1, q2]) (by rw [H2c]; omega)
    rw [H35] at this
    have h0 := (Gc5 (h := p.2) hc hT (by omega) hF).2.nonneg hc
    omega
theorem G71.step {lv : Nat → Int} {H : Nat} {x : Int} (hl : ∀ a ≤ H, G71 F T l a (lv a)) (ha : a ≤ H) (h1 : ∃ h ≤ a, x = lv (a - h) + G96 F T c h) (h2 : ∀ h ≤ a, x ≤ lv (a - h) + G96 F T c h) : G71 F T (l ++ [c]) a x := by
  refine ⟨?_, fun ps e1 e2 => ?_⟩
  · obtain ⟨h, hh, e⟩ := h1
    obtain ⟨ps, e1, e2, e3⟩ := (hl (a - h) (by omega)).att
    refine ⟨ps ++ [(c, h)], by rw [List.map_append, e1]; rfl, ?_, ?_⟩
    · rw [H2c]; simp [Ga1] at e2 ⊢; omega
    · rw [H35, e3, e]; simp [G01]
  · obtain ⟨p1, p2, rfl, q1, q2⟩ := List.map_eq_append_iff.1 e1
    cases p2 with
    | nil => cases q2
    | cons p p3 =>
      simp only [List.map_cons, List.cons.injEq, List.map_eq_nil_iff] at q2
      obtain ⟨rfl, rfl⟩ := q2
      rw [H2c, show Ga1 [p] = p.2 by simp [Ga1]] at e2
      rw [H35, show G01 F T [p] = G96 F T p.1 p.2 by simp [G01]]
      have g1 := (hl (a - p.2) (by omega)).least p1 q1 (by omega)
      have g2 := h2 p.2 (by omega)
      omega
end

/-- What is known of a cell when the first halves have been tried. -/
def Good (lv ov : Nat → Int) (k a : Nat) (x : Int) : Prop := (x = -1 ∧ k = 0) ∨ (0 < k ∧ 0 ≤ x ∧ (∃ h ≤ a, x = lv (a - h) + ov h) ∧ ∀ h < k, h ≤ a → x ≤ lv (a - h) + ov h)

theorem fill_spec {F : Nat} {c : G2} {T : Int} {H : Nat} {L : List Int} (lv : Nat → Int) (hc : G4e c) (hT : 0 ≤ T ∧ T ≤ 20) (hH : H ≤ 40) (hF : 60 ≤ F)
    (hRep : Qh F [(-1)] ((H : Int) + 1) = some (List.replicate (H + 1) (-1))) (hL : ∀ a ≤ H, L[a]? = some (lv a)) (hb : ∀ a ≤ H, 0 ≤ lv a ∧ lv a ≤ 100000) (hanti : ∀ a b, a ≤ b → b ≤ H → lv b ≤ lv a) :
    Wp (G53 F c (H : Int) T L) (fun N => N.length = H + 1 ∧ ∀ a ≤ H, ∃ x, N[a]? = some x ∧ (∃ h ≤ a, x = lv (a - h) + G96 F T c h) ∧ ∀ h ≤ a, x ≤ lv (a - h) + G96 F T c h) := by
  unfold G53
  have hov : ∀ h ≤ H, 0 ≤ G96 F T c h ∧ G96 F T c h ≤ 24 := fun h hh => by
    have i := (Gc5 (h := h) hc hT (by omega) hF).2
    have := i.top
    have h1 := hc.whole
    have h2 := hc.half
    exact ⟨i.nonneg hc, by omega⟩
  refine Jh ⟨by omega, by omega⟩ (H9 hRep ?_)
  refine J69 (fun N => N.length = H + 1 ∧ ∀ a ≤ H, ∃ x, N[a]? = some x ∧ (∃ h ≤ a, x = lv (a - h) + G96 F T c h) ∧ ∀ h ≤ a, x ≤ lv (a - h) + G96 F T c h) (fun K hK => ?_) (fun N hN => H3 hN)
  refine wp_loop (fun s : Int × List Int => ∃ k : Nat, s.1 = (k : Int) ∧ k ≤ H + 1 ∧ s.2.length = H + 1 ∧ ∀ a ≤ H, ∃ x, s.2[a]? = some x ∧ Good lv (G96 F T c) k a x) (fun s => H + 1 - s.1.toNat)
    ⟨0, rfl, by omega, by simp, fun a ha => ⟨-1, by show (List.replicate (H + 1) (-1 : Int))[a]? = _; rw [List.getElem?_replicate, if_pos (by omega)], .inl ⟨rfl, rfl⟩⟩⟩ (by simp only; omega) (fun s nx hI hnx => ?_)
  obtain ⟨k, hk, hkH, hlen, hN⟩ := hI
  rw [hk]
  refine J5 (fun h => ?_) (fun h => hK _ ⟨hlen, fun a ha => ?_⟩)
  · have hk2 : k ≤ H := by have := of_decide_eq_true h; omega
    refine H9 (Gc5 hc hT (by omega) hF).1 ?_
    have hok := hov k hk2
    refine wp_loop (fun s : Int × List Int => ∃ m : Nat, s.1 = (m : Int) ∧ k ≤ m ∧ m ≤ H + 1 ∧ s.2.length = H + 1 ∧ ∀ a ≤ H, ∃ x, s.2[a]? = some x ∧ Good lv (G96 F T c) (if k ≤ a ∧ a < m then k + 1 else k) a x) (fun s => H + 1 - s.1.toNat)
      ⟨k, rfl, Nat.le_refl _, by omega, hlen, fun a ha => by
        obtain ⟨x, h1, h2⟩ := hN a ha
        exact ⟨x, h1, by rw [if_neg (by omega)]; exact h2⟩⟩ (by simp only; omega) (fun s2 nx2 hJ hnx2 => ?_)
    obtain ⟨m, hm, hkm, hmH, hlen2, hN2⟩ := hJ
    rw [hm]
    refine J5 (fun h => ?_) (fun h => ?_)
    · have hm2 : m ≤ H := by have := of_decide_eq_true h; omega
      obtain ⟨x, hx, hg⟩ := hN2 m hm2
      rw [if_neg (by omega)] at hg
      have hlb := hb (m - k) (by omega)
      have hput : ∀ {N : List Int} {y : Int}, N[m]? = some y → (∀ a, a ≠ m → N[a]? = s2.2[a]?) → Good lv (G96 F T c) (k + 1) m y → ∀ a ≤ H, ∃ x, N[a]? = some x ∧ Good lv (G96 F T c) (if k ≤ a ∧ a < m + 1 then k + 1 else k) a x := fun {N y} e1 e2 g a ha => by
        by_cases e : a = m
        · subst e; exact ⟨y, e1, by rw [if_pos ⟨hkm, by omega⟩]; exact g⟩
        · obtain ⟨x, h1, h2⟩ := hN2 a ha
          refine ⟨x, by rw [e2 a e]; exact h1, ?_⟩
          by_cases hc2 : k ≤ a ∧ a < m
          · rw [if_pos ⟨hc2.1, by omega⟩]; rw [if_pos hc2] at h2; exact h2
          · rw [if_neg (by omega)]; rw [if_neg hc2] at h2; exact h2
      have hset1 : (s2.2.set (m : Int).toNat (lv (m - k) + G96 F T c k))[m]? = some (lv (m - k) + G96 F T c k) := by
        rw [show ((m : Int)).toNat = m by omega, List.getElem?_set, if_pos rfl, if_pos (by omega)]
      have hset2 : ∀ a, a ≠ m → (s2.2.set (m : Int).toNat (lv (m - k) + G96 F T c k))[a]? = s2.2[a]? := fun a e => by
        rw [show ((m : Int)).toNat = m by omega, List.getElem?_set, if_neg (Ne.symm e)]
      refine J69 (fun N => N.length = H + 1 ∧ ∀ a ≤ H, ∃ x, N[a]? = some x ∧ Good lv (G96 F T c) (if k ≤ a ∧ a < m + 1 then k + 1 else k) a x) (fun K' hK' => ?_)
        (fun N hN => Jh ⟨by omega, by omega⟩ (hnx2 _ ⟨m + 1, by simp, by omega, by omega, hN.1, hN.2⟩ (by simp only [hm]; omega)))
      refine Jh ⟨by omega, by omega⟩ (G2d (m := m - k) (by omega) (hL _ (by omega)) (Jh ⟨by omega, by omega⟩ (G2d rfl hx ?_)))
      by_cases hx0 : x < 0
      · rw [decide_eq_true hx0]
        simp only [Bool.not_true, cond_false, Bool.true_or, cond_true]
        refine Jo (H3 (G2d rfl hx (hK' _ ⟨by rw [List.length_set]; exact hlen2, hput hset1 hset2 (.inr ⟨by omega, by omega, ⟨k, hkm, rfl⟩, fun q h1 h2 => ?_⟩)⟩)))
        rcases hg with ⟨_, e0⟩ | ⟨_, h3, _⟩
        · have : q = k := by omega
          subst this; exact Int.le_refl _
        · omega
      · rw [decide_eq_false hx0]
        simp only [Bool.not_false, cond_true, Bool.false_or]
        rcases hg with ⟨h3, _⟩ | ⟨g1, g2, g3, g4⟩
        · omega
        refine Jo (G2d rfl hx (H3 (J5 (fun hlt => G2d rfl hx (hK' _ ⟨by rw [List.length_set]; exact hlen2, hput hset1 hset2 (.inr ⟨by omega, by omega, ⟨k, hkm, rfl⟩, fun h h1 h2 => ?_⟩)⟩)) (fun hlt => hK' _ ⟨hlen2, hput hx (fun _ _ => rfl) (.inr ⟨by omega, g2, g3, fun h h1 h2 => ?_⟩)⟩))))
        · have := of_decide_eq_true hlt
          by_cases e : h = k
          · subst e; exact Int.le_refl _
          · have := g4 h (by omega) h2; omega
        · have := of_decide_eq_false hlt
          by_cases e : h = k
          · subst e; omega
          · exact g4 h (by omega) h2
    · have hmE : m = H + 1 := by have := of_decide_eq_false h; omega
      have hN3 : ∀ a ≤ H, ∃ x, s2.2[a]? = some x ∧ Good lv (G96 F T c) (k + 1) a x := fun a ha => by
        obtain ⟨x, hx, hg⟩ := hN2 a ha
        refine ⟨x, hx, ?_⟩
        by_cases hka : k ≤ a
        · rw [if_pos ⟨hka, by omega⟩] at hg; exact hg
        · rw [if_neg (fun h => hka h.1)] at hg
          rcases hg with ⟨_, rfl⟩ | ⟨g1, g2, g3, g4⟩
          · omega
          · exact .inr ⟨by omega, g2, g3, fun h h1 h2 => g4 h (by omega) h2⟩
      refine J5 (fun hz => hK _ ⟨hlen2, fun a ha => ?_⟩) (fun _ => Jh ⟨by omega, by omega⟩ (hnx _ ⟨k + 1, by simp, by omega, hlen2, hN3⟩ (by simp only [hk]; omega)))
      have h0 := of_decide_eq_true hz
      obtain ⟨x, hx, hg⟩ := hN3 a ha
      rcases hg with ⟨_, h3⟩ | ⟨g1, g2, g3, g4⟩
      · omega
      · refine ⟨x, hx, g3, fun h hh => ?_⟩
        by_cases hhk : h < k + 1
        · exact g4 h hhk hh
        · have e1 := g4 k (by omega) (by omega)
          have e2 := hanti (a - h) (a - k) (by omega) (by omega)
          have e3 := (hov h (by omega)).1
          omega
  · obtain ⟨x, hx, hg⟩ := hN a ha
    have := of_decide_eq_false h
    rcases hg with ⟨_, h3⟩ | ⟨g1, g2, g3, g4⟩
    · omega
    · exact ⟨x, hx, g3, fun h hh => g4 h (by omega) hh⟩

theorem bound_spec {F : Nat} {s : J0} {l : List G2} {T : Int} {H : Nat} (hTall : Yt s = some T) (hT : 0 ≤ T ∧ T ≤ 20) (hcol : H = 2 * s.Columns.length) (hH : H ≤ 40)
    (hRep : Qh F [(-1)] ((H : Int) + 1) = some (List.replicate (H + 1) (-1))) (hl : ∀ c ∈ l, G4e c) (hlen : l.length ≤ 20) (hF : 60 ≤ F) : Wp (Zv F s l) (fun v => G71 F T l H v ∧ 0 ≤ v ∧ v ≤ 480) := by
  unfold Zv
  refine H9 hTall (Jh ⟨by omega, by omega⟩ (Jh ⟨by omega, by omega⟩ ?_))
  have e4 : 2 * (s.Columns.length : Int) = (H : Int) := by omega
  rw [e4]
  refine H9 (x := H + 1) (by
    unfold G9b
    rw [decide_eq_true (by omega), cond_true]
    congr 1) (G58 (decide_eq_true (by simp only [maxLen]; omega)) ?_)
  refine Rn (fun pre st => st.length = H + 1 ∧ ∃ lv : Nat → Int, ∀ a ≤ H, st[a]? = some (lv a) ∧ G71 F T pre a (lv a) ∧ 0 ≤ lv a ∧ lv a ≤ 24 * pre.length)
    ⟨by simp, fun _ => 0, fun a ha => ⟨by rw [List.getElem?_replicate, if_pos (by omega)], ⟨⟨[], rfl, by simp [Ga1], rfl⟩, fun ps e1 _ => by
      rw [List.map_eq_nil_iff.1 e1]; exact Int.le_refl _⟩, Int.le_refl _, by simp⟩⟩ (fun pre y post st nx e hI hnx => ?_) (fun st hI => ?_)
  · obtain ⟨hn, lv, hlv⟩ := hI
    have hy : G4e y := hl y (by rw [e]; simp)
    have hp : pre.length < 20 := by rw [e] at hlen; simp only [List.length_append, List.length_cons] at hlen; omega
    refine Jo (wp_mono (fill_spec lv hy hT hH hF hRep (fun a ha => (hlv a ha).1) (fun a ha => ⟨(hlv a ha).2.2.1, by have := (hlv a ha).2.2.2; omega⟩) (fun a b hab hb => (hlv a (by omega)).2.1.anti (hlv b hb).2.1 hab)) (fun N hN => hnx _ ⟨hN.1, fun a => (N[a]?).getD 0, fun a ha => ?_⟩))
    obtain ⟨x, hx, g1, g2⟩ := hN.2 a ha
    show N[a]? = some ((N[a]?).getD 0) ∧ G71 F T (pre ++ [y]) a ((N[a]?).getD 0) ∧ 0 ≤ (N[a]?).getD 0 ∧ (N[a]?).getD 0 ≤ 24 * ((pre ++ [y]).length : Int)
    rw [hx]
    show some x = some x ∧ G71 F T (pre ++ [y]) a x ∧ 0 ≤ x ∧ x ≤ 24 * ((pre ++ [y]).length : Int)
    refine ⟨rfl, G71.step (fun a ha => (hlv a ha).2.1) ha g1 g2, ?_, ?_⟩
    · obtain ⟨h, hh, e⟩ := g1
      have := (hlv (a - h) (by omega)).2.2.1
      have := (Gc5 (h := h) hy hT (by omega) hF).2.nonneg hy
      show 0 ≤ x
      omega
    · have e1 := g2 0 (by omega)
      have e2 := (hlv (a - 0) (by omega)).2.2.2
      have e3 := (Gc5 (h := 0) hy hT (by omega) hF).2.top
      obtain ⟨⟨_, w2⟩, ⟨_, v2⟩⟩ := hy
      show x ≤ _
      rw [List.length_append, List.length_singleton]
      omega
  · obtain ⟨hn, lv, hlv⟩ := hI
    obtain ⟨h1, h2, h3, h4⟩ := hlv H (Nat.le_refl _)
    exact G2d rfl h1 (H3 ⟨h2, h3, by omega⟩)
end Go.Proofs.YtfkilljboodoaaaGreat
