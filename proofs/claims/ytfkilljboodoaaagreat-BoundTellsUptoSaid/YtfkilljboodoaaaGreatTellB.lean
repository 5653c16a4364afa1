/-
  BoundTells: what a group needs; the least that is left out, all numbers tried.
-/
import Derived.Test.YtfkilljboodoaaaGreatTellA
set_option maxRecDepth 100000
set_option linter.unusedVariables false
namespace Go.Proofs.YtfkilljboodoaaaGreat
open Go.RowKit

/-- n divided by T, rounded up. -/
structure J18 (T n k : Int) : Prop where
  nn : 0 ≤ k
  up : n ≤ k * T
  low : k = 0 ∨ (k - 1) * T < n
theorem J18.le {T n k k' : Int} (h : J18 T n k) (hT : 0 ≤ T) (h' : n ≤ k' * T) (h0 : 0 ≤ k') : k ≤ k' := by
  rcases h.low with e | e
  · omega
  · refine Classical.byContradiction fun hc => ?_
    have : k' * T ≤ (k - 1) * T := Int.mul_le_mul_of_nonneg_right (by omega) hT
    omega
theorem J18.eq {T n k k' : Int} (h : J18 T n k) (h' : J18 T n k') (hT : 0 ≤ T) : k = k' := by
  have h1 := h.le hT h'.up h'.nn
  have h2 := h'.le hT h.up h.nn
  omega
/-- How many halves of columns w whole boxes and h half ones need. -/
def G79 (T w h r : Int) : Prop := ∃ a b, J18 T w a ∧ J18 T (2 * w + h) b ∧ r = max (2 * a) b
theorem G79.eq {T w h r r' : Int} (hT : 0 ≤ T) : G79 T w h r → G79 T w h r' → r = r' := fun ⟨a, b, h1, h2, e⟩ ⟨a', b', h1', h2', e'⟩ => by
  have := h1.eq h1' hT
  have := h2.eq h2' hT
  omega
theorem J18.small {T n k : Int} (h : J18 T n k) (hT : 1 ≤ T) (hn : 0 ≤ n) : k ≤ n := by
  rcases h.low with e | e
  · omega
  · by_cases hk : k - 1 < 0
    · omega
    · have : (k - 1) * 1 ≤ (k - 1) * T := Int.mul_le_mul_of_nonneg_left hT (by omega)
      omega
theorem J82 {F : Nat} {T w h : Int} (hT : 1 ≤ T ∧ T ≤ 10) (hw : 0 ≤ w ∧ w ≤ 2000) (hh : 0 ≤ h ∧ h ≤ 2000) (hF : (2 * w + h).toNat < F) : Wp (Yk F T w h) (G79 T w h) := by
  unfold Yk
  have hmul : ∀ k : Int, 0 ≤ k → k ≤ 6000 → 0 ≤ k * T ∧ k * T ≤ 60000 := fun k h1 h2 => by
    have := prod_le (T := k) (h := T) (a := 6000) (b := 10) ⟨h1, h2⟩ ⟨by omega, hT.2⟩
    omega
  have hlow : ∀ k n : Int, 0 ≤ k → k * T < n → k < n := fun k n h1 h2 => by
    have : k * 1 ≤ k * T := Int.mul_le_mul_of_nonneg_left hT.1 h1
    omega
  refine wp_loop (fun s : Int => ∃ k : Int, s = 2 * k ∧ 0 ≤ k ∧ k ≤ w ∧ (k = 0 ∨ (k - 1) * T < w)) (fun s => (2 * w - s).toNat) ⟨0, rfl, by omega, by omega, .inl rfl⟩ (by show (2 * w - 0).toNat < F; omega) (fun s nx hI hnx => ?_)
  obtain ⟨k, rfl, k1, k2, k3⟩ := hI
  have hkT := hmul k k1 (by omega)
  refine Jo (wp_quo (by omega) ⟨by omega, by omega⟩ ?_)
  rw [Int.mul_tdiv_cancel_left k (by omega : (2 : Int) ≠ 0)]
  refine Jh ⟨by omega, by omega⟩ (J5 (fun hlt => ?_) (fun hge => ?_))
  · have hlt := of_decide_eq_true hlt
    have := hlow k w k1 hlt
    exact Jh ⟨by omega, by omega⟩ (hnx _ ⟨k + 1, by omega, by omega, by omega, .inr (by rw [show k + 1 - 1 = k by omega]; exact hlt)⟩ (by show (2 * w - (2 * k + 2)).toNat < (2 * w - 2 * k).toNat; omega))
  · have hge := of_decide_eq_false hge
    have hA : J18 T w k := ⟨k1, by omega, k3⟩
    refine wp_loop (fun b : Int => 0 ≤ b ∧ b ≤ 2 * w + h ∧ (b = 0 ∨ (b - 1) * T < 2 * w + h)) (fun b => (2 * w + h - b).toNat) ⟨by omega, by omega, .inl rfl⟩ (by show (2 * w + h - 0).toNat < F; omega) (fun b nx2 hJ hnx2 => ?_)
    obtain ⟨b1, b2, b3⟩ := hJ
    have hbT := hmul b b1 (by omega)
    refine Jh ⟨by omega, by omega⟩ (Jh ⟨by omega, by omega⟩ (Jh ⟨by omega, by omega⟩ (J5 (fun hlt => ?_) (fun hge2 => ?_))))
    · have hlt := of_decide_eq_true hlt
      have := hlow b _ b1 hlt
      exact Jh ⟨by omega, by omega⟩ (hnx2 _ ⟨by omega, by omega, .inr (by rw [show b + 1 - 1 = b by omega]; exact hlt)⟩ (by show (2 * w + h - (b + 1)).toNat < (2 * w + h - b).toNat; omega))
    · have hge2 := of_decide_eq_false hge2
      have hB : J18 T (2 * w + h) b := ⟨b1, by omega, b3⟩
      refine J5 (fun hc => H3 ⟨k, b, hA, hB, ?_⟩) (fun hc => H3 ⟨k, b, hA, hB, ?_⟩)
      · have := of_decide_eq_true hc; omega
      · have := of_decide_eq_false hc; omega
/-- Enough halves for w whole boxes and h half ones. -/
theorem G79.le {T w h r k : Int} (hT : 0 ≤ T) (hr : G79 T w h r) (hk : 0 ≤ k) (h1 : w ≤ k / 2 * T) (h2 : 2 * w + h ≤ k * T) : r ≤ k := by
  obtain ⟨a, b, ha, hb, rfl⟩ := hr
  have := ha.le hT h1 (by omega)
  have := hb.le hT h2 hk
  omega
theorem G79.ge {T w h r : Int} (hT : 0 ≤ T) (hr : G79 T w h r) : 0 ≤ r ∧ w ≤ r / 2 * T ∧ 2 * w + h ≤ r * T := by
  obtain ⟨a, b, ha, hb, rfl⟩ := hr
  have h1 := ha.nn
  have h2 := hb.nn
  refine ⟨by omega, Int.le_trans ha.up (Int.mul_le_mul_of_nonneg_right (by omega) hT), Int.le_trans hb.up (Int.mul_le_mul_of_nonneg_right (by omega) hT)⟩
section
variable {F0 : Nat} {T : Int}
theorem J45 (h60 : 60 ≤ F0) (hT : 0 ≤ T ∧ T ≤ 20) : ∀ (ps : List (G2 × Nat)), (∀ p ∈ ps, G4e p.1) → Ga1 ps ≤ 40 → 0 ≤ G01 F0 T ps ∧ G01 F0 T ps ≤ 24 * (ps.length : Int)
  | [], _, _ => ⟨Int.le_refl _, by simp [G01]⟩
  | p :: ps, hc, hw => by
    have e1 : G01 F0 T (p :: ps) = G96 F0 T p.1 p.2 + G01 F0 T ps := by simp [G01]
    have e2 : Ga1 (p :: ps) = p.2 + Ga1 ps := by simp [Ga1]
    have hp := hc p (List.mem_cons_self ..)
    have i := (Gc5 (h := p.2) hp hT (by omega) h60).2
    have h1 := i.nonneg hp
    have h2 := i.top
    have h3 := hp.whole
    have h4 := hp.half
    have h5 := J45 h60 hT ps (fun q hq => hc q (List.mem_cons_of_mem _ hq)) (by omega)
    rw [e1, List.length_cons]
    omega
theorem G71.bounds {l : List G2} {a : Nat} {v : Int} (h : G71 F0 T l a v) (h60 : 60 ≤ F0) (hT : 0 ≤ T ∧ T ≤ 20) (hl : ∀ c ∈ l, G4e c) (ha : a ≤ 40) : 0 ≤ v ∧ v ≤ 24 * (l.length : Int) := by
  obtain ⟨ps, e1, e2, e3⟩ := h.att
  have := J45 h60 hT ps (fun p hp => hl _ (e1 ▸ List.mem_map.2 ⟨p, hp, rfl⟩)) (by omega)
  rw [e3, show ps.length = l.length by rw [← e1, List.length_map]] at this
  exact this
theorem G71.eq {l : List G2} {a : Nat} {v v' : Int} (h : G71 F0 T l a v) (h' : G71 F0 T l a v') : v = v' := by
  have := h.anti h' (Nat.le_refl _)
  have := h'.anti h (Nat.le_refl _)
  omega
/-- One way to leave out boxes of the first group, and the least for the others. -/
def Opt (F0 : Nat) (T : Int) (c : G2) (rest : List G2) (H : Nat) (w h x : Int) : Prop :=
  0 ≤ w ∧ w ≤ c.Whole ∧ 0 ≤ h ∧ h ≤ c.Half ∧ ∃ n : Nat, G79 T (c.Whole - w) (c.Half - h) (n : Int) ∧ n ≤ H ∧ ∃ m, G71 F0 T rest (H - n) m ∧ x = w + h + m
theorem best_of_opts {c : G2} {rest : List G2} {H : Nat} {v : Int} (h60 : 60 ≤ F0) (hT : 0 ≤ T ∧ T ≤ 20) (hc : G4e c) (hr : ∀ c ∈ rest, G4e c) (hH : H ≤ 40)
    (hex : ∀ a ≤ H, ∃ m, G71 F0 T rest a m) (hneed : ∀ w h, 0 ≤ w → w ≤ 12 → 0 ≤ h → h ≤ 12 → ∃ r, G79 T w h r)
    (hatt : ∃ w h, Opt F0 T c rest H w h v) (hle : ∀ w h x, Opt F0 T c rest H w h x → v ≤ x) : G71 F0 T (c :: rest) H v := by
  obtain ⟨c1, c2⟩ := hc.whole
  obtain ⟨c3, c4⟩ := hc.half
  have hlow : ∀ ps : List (G2 × Nat), ps.map (·.1) = c :: rest → Ga1 ps ≤ H → v ≤ G01 F0 T ps := fun ps e1 e2 => by
    cases ps with
    | nil => cases e1
    | cons p ps =>
      simp only [List.map_cons, List.cons.injEq] at e1
      obtain ⟨rfl, e1⟩ := e1
      have ew : Ga1 (p :: ps) = p.2 + Ga1 ps := by simp [Ga1]
      have ec : G01 F0 T (p :: ps) = G96 F0 T p.1 p.2 + G01 F0 T ps := by simp [G01]
      have i := (Gc5 (h := p.2) hc hT (by omega) h60).2
      -- boxes that are left out
      have go : ∀ w h, 0 ≤ w → w ≤ p.1.Whole → 0 ≤ h → h ≤ p.1.Half → p.1.Whole - w ≤ (p.2 : Int) / 2 * T → 2 * (p.1.Whole - w) + (p.1.Half - h) ≤ (p.2 : Int) * T → G96 F0 T p.1 p.2 = w + h → v ≤ G01 F0 T (p :: ps) := fun w h w1 w2 h1 h2 n1 n2 e => by
        obtain ⟨r, hr2⟩ := hneed (p.1.Whole - w) (p.1.Half - h) (by omega) (by omega) (by omega) (by omega)
        have hrk := hr2.le hT.1 (by omega) n1 n2
        have hr0 := (hr2.ge hT.1).1
        obtain ⟨m, hm⟩ := hex (H - r.toNat) (by omega)
        have := hle w h (w + h + m) ⟨w1, w2, h1, h2, r.toNat, by rw [show ((r.toNat : Nat) : Int) = r by omega]; exact hr2, by omega, m, hm, rfl⟩
        have := hm.least ps e1 (by omega)
        omega
      rcases i.att with e | ⟨w, w1, w2, w3, e⟩
      · refine go p.1.Whole p.1.Half (by omega) (by omega) (by omega) (by omega) ?_ ?_ e
        · rw [Int.sub_self]; exact Int.mul_nonneg (by omega) hT.1
        · rw [Int.sub_self, Int.sub_self]; have := Int.mul_nonneg (a := (p.2 : Int)) (b := T) (by omega) hT.1; omega
      · have h2w : 2 * w ≤ T * (p.2 : Int) := by
          have : T * (2 * ((p.2 : Int) / 2)) ≤ T * (p.2 : Int) := Int.mul_le_mul_of_nonneg_left (by omega) hT.1
          have e2 : T * (2 * ((p.2 : Int) / 2)) = 2 * (T * ((p.2 : Int) / 2)) := by rw [← Int.mul_assoc, Int.mul_comm T 2, Int.mul_assoc]
          omega
        refine go (p.1.Whole - w) (p.1.Half - min p.1.Half (T * (p.2 : Int) - 2 * w)) (by omega) (by omega) (by omega) (by omega) ?_ ?_ (by omega)
        · rw [Int.mul_comm]; omega
        · rw [Int.mul_comm (p.2 : Int)]; omega
  refine ⟨?_, hlow⟩
  obtain ⟨w, h, w1, w2, h1, h2, n, hn, hnH, m, hm, e⟩ := hatt
  obtain ⟨ps, e1, e2, e3⟩ := hm.att
  have ew : Ga1 ((c, n) :: ps) = n + Ga1 ps := by simp [Ga1]
  have ec : G01 F0 T ((c, n) :: ps) = G96 F0 T c n + G01 F0 T ps := by simp [G01]
  refine ⟨(c, n) :: ps, by rw [List.map_cons, e1], by omega, ?_⟩
  have hge := hlow ((c, n) :: ps) (by rw [List.map_cons, e1]) (by omega)
  have i := (Gc5 (h := n) hc hT (by omega) h60).2
  obtain ⟨_, n1, n2⟩ := hn.ge hT.1
  have := i.least (c.Whole - w) (by omega) (by omega) (by rw [Int.mul_comm]; exact n1)
  rw [Int.mul_comm (n : Int) T] at n2
  omega
end
end Go.Proofs.YtfkilljboodoaaaGreat
