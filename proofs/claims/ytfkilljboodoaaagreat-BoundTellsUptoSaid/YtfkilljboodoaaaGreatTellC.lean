/-
  BoundTells: the least of all numbers, families.
-/
import Derived.Test.YtfkilljboodoaaaGreatTellB
set_option maxRecDepth 100000
set_option linter.unusedVariables false
namespace Go.Proofs.YtfkilljboodoaaaGreat
open Go.RowKit

/-- The best of the ways that were tried, -1 if there was none. -/
def Pst (O : Int → Int → Int → Prop) (b : Int) (D : Int → Int → Prop) : Prop :=
  (b = -1 ∧ ∀ w h x, D w h → ¬ O w h x) ∨ (0 ≤ b ∧ (∃ w h, O w h b) ∧ ∀ w h x, D w h → O w h x → b ≤ x)
section
variable {O : Int → Int → Int → Prop} {b v w h : Int} {D D' : Int → Int → Prop}
theorem Pst.mono (hp : Pst O b D) (hd : ∀ w h x, O w h x → D' w h → D w h) : Pst O b D' := by
  rcases hp with ⟨h1, h2⟩ | ⟨h1, h2, h3⟩
  · exact .inl ⟨h1, fun w h x hD hO => h2 w h x (hd w h x hO hD) hO⟩
  · exact .inr ⟨h1, h2, fun w h x hD hO => h3 w h x (hd w h x hO hD) hO⟩
theorem Pst.skip (hp : Pst O b D) (hd : ∀ w' h' x, O w' h' x → D' w' h' → D w' h' ∨ (w' = w ∧ h' = h)) (hx : ∀ x, O w h x → 0 ≤ b ∧ b ≤ x) : Pst O b D' := by
  rcases hp with ⟨h1, h2⟩ | ⟨h1, h2, h3⟩
  · refine .inl ⟨h1, fun w' h' x hD hO => ?_⟩
    rcases hd w' h' x hO hD with g | ⟨rfl, rfl⟩
    · exact h2 _ _ _ g hO
    · have := hx x hO; omega
  · refine .inr ⟨h1, h2, fun w' h' x hD hO => ?_⟩
    rcases hd w' h' x hO hD with g | ⟨rfl, rfl⟩
    · exact h3 _ _ _ g hO
    · exact (hx x hO).2
theorem Pst.take (hp : Pst O b D) (hd : ∀ w' h' x, O w' h' x → D' w' h' → D w' h' ∨ (w' = w ∧ h' = h)) (ho : O w h v) (h0 : 0 ≤ v) (hx : ∀ x, O w h x → v ≤ x) (hb : b < 0 ∨ v ≤ b) : Pst O v D' := by
  refine .inr ⟨h0, ⟨w, h, ho⟩, fun w' h' x hD hO => ?_⟩
  rcases hd w' h' x hO hD with g | ⟨rfl, rfl⟩
  · rcases hp with ⟨h1, h2⟩ | ⟨h1, h2, h3⟩
    · exact (h2 _ _ _ g hO).elim
    · have := h3 _ _ _ g hO; omega
  · exact hx x hO
end
theorem needIs_ex {T w h : Int} (hT : 1 ≤ T ∧ T ≤ 10) (hw : 0 ≤ w ∧ w ≤ 2000) (hh : 0 ≤ h ∧ h ≤ 2000) : ∃ r, G79 T w h r := by
  obtain ⟨r, _, h⟩ := J82 (F := (2 * w + h).toNat + 1) hT hw hh (by omega)
  exact ⟨r, h⟩
theorem needIs_zero {T : Int} (hT : 0 ≤ T) : G79 T 0 0 0 := ⟨0, 0, ⟨by omega, by omega, .inl rfl⟩, ⟨by omega, by omega, .inl rfl⟩, rfl⟩
theorem ref_least {F0 : Nat} {T : Int} (h60 : 60 ≤ F0) (hT : 1 ≤ T ∧ T ≤ 10) {l : List Gj} (hl : ∀ c ∈ l, G4e (J5b c)) (hll : l.length ≤ 20) : ∀ (n at_ F H : Nat), at_ + n = l.length → n + 60 ≤ F → H ≤ 40 → Wp (Q8 F l (at_ : Int) T (H : Int)) (G71 F0 T ((l.drop at_).map J5b) H) := by
  intro n
  induction n with
  | zero =>
    intro at_ F H e hF hH
    obtain ⟨F, rfl⟩ : ∃ k, F = k + 1 := ⟨F - 1, by omega⟩
    rw [Q8]
    unfold Zm
    rw [decide_eq_true (by omega : (at_ : Int) = (l.length : Int)), cond_true, List.drop_eq_nil_of_le (by omega)]
    exact H3 ⟨⟨[], rfl, by simp [Ga1], rfl⟩, fun ps e1 _ => by rw [List.map_eq_nil_iff.1 e1]; exact Int.le_refl _⟩
  | succ n ih =>
    intro at_ F H e hF hH
    obtain ⟨F, rfl⟩ : ∃ k, F = k + 1 := ⟨F - 1, by omega⟩
    rw [Q8]
    unfold Zm
    rw [decide_eq_false (by omega : ¬ (at_ : Int) = (l.length : Int)), cond_false]
    have hat : at_ < l.length := by omega
    obtain ⟨c, hc⟩ : ∃ c, l[at_]? = some c := ⟨_, List.getElem?_eq_getElem hat⟩
    have hdrop : l.drop at_ = c :: l.drop (at_ + 1) := by
      rw [List.drop_eq_getElem_cons hat]
      rw [List.getElem?_eq_getElem hat] at hc
      rw [Option.some.inj hc]
    rw [hdrop, List.map_cons]
    have hcm : c ∈ l := List.mem_of_getElem? hc
    have hcok := hl c hcm
    obtain ⟨w1, w2⟩ := hcok.whole
    obtain ⟨v1, v2⟩ := hcok.half
    have w1 : 0 ≤ c.Whole := w1
    have w2 : c.Whole ≤ 12 := w2
    have v1 : 0 ≤ c.Half := v1
    have v2 : c.Half ≤ 12 := v2
    have hrest : ∀ x ∈ (l.drop (at_ + 1)).map J5b, G4e x := fun x hx => by
      obtain ⟨y, hy, rfl⟩ := List.mem_map.1 hx
      exact hl y (List.mem_of_mem_drop hy)
    have hrl : ((l.drop (at_ + 1)).map J5b).length ≤ 20 := by rw [List.length_map, List.length_drop]; omega
    generalize hR : (l.drop (at_ + 1)).map J5b = rest at hrest hrl
    have ih' : ∀ a : Nat, a ≤ 40 → Wp (Q8 F l ((at_ : Int) + 1) T (a : Int)) (G71 F0 T rest a) := fun a ha => by
      have := ih (at_ + 1) F a (by omega) (by omega) ha
      rw [hR] at this
      exact this
    have hTT : 0 ≤ T ∧ T ≤ 20 := ⟨by omega, by omega⟩
    have hex : ∀ a ≤ H, ∃ m, G71 F0 T rest a m := fun a ha => by
      obtain ⟨m, _, h⟩ := ih' a (by omega)
      exact ⟨m, h⟩
    have hmb : ∀ {a : Nat} {m : Int}, a ≤ 40 → G71 F0 T rest a m → 0 ≤ m ∧ m ≤ 480 := fun {a m} ha h => by
      have := h.bounds h60 hTT hrest ha
      omega
    have hO0 : ∀ {w h x : Int}, Opt F0 T (J5b c) rest H w h x → 0 ≤ w ∧ w ≤ c.Whole ∧ 0 ≤ h ∧ h ≤ c.Half ∧ w + h ≤ x := fun {w h x} ⟨a1, a2, a3, a4, n, _, hn, m, hm, e⟩ => by
      have := hmb (by omega) hm
      exact ⟨a1, a2, a3, a4, by omega⟩
    refine wp_loop (fun st : Int × Int => Pst (Opt F0 T (J5b c) rest H) st.1 (fun w' _ => w' < st.2) ∧ 0 ≤ st.2 ∧ st.2 ≤ c.Whole + 1 ∧ st.1 ≤ 600) (fun st => (c.Whole + 1 - st.2).toNat)
      ⟨.inl ⟨rfl, fun w h x hD hO => by have := (hO0 hO).1; simp only at hD; omega⟩, by simp, by simp only; omega, by simp⟩ (by show (c.Whole + 1 - 0).toNat < F; omega) (fun st nx hI hnx => ?_)
    obtain ⟨b, w⟩ := st
    simp only at hI hnx ⊢
    obtain ⟨hP, i1, i2, i3⟩ := hI
    refine G2d rfl hc (J5 (fun hw => ?_) (fun hw => H3 ?_))
    · have hw := of_decide_eq_true hw
      refine wp_loop (fun st : Int × Int => Pst (Opt F0 T (J5b c) rest H) st.1 (fun w' h' => w' < w ∨ (w' = w ∧ h' < st.2)) ∧ 0 ≤ st.2 ∧ st.2 ≤ c.Half + 1 ∧ st.1 ≤ 600) (fun st => (c.Half + 1 - st.2).toNat)
        ⟨hP.mono (fun w' h' x hO hD => by
          have := (hO0 hO).2.2.1
          simp only at hD ⊢
          omega), by simp, by simp only; omega, i3⟩ (by show (c.Half + 1 - 0).toNat < F; omega) (fun st nx2 hJ hnx2 => ?_)
      obtain ⟨b, h⟩ := st
      simp only at hJ hnx2 ⊢
      obtain ⟨hP2, j1, j2, j3⟩ := hJ
      refine G2d rfl hc (J5 (fun hh => ?_) (fun hh => Jh ⟨by omega, by omega⟩ (hnx _ ⟨hP2.mono (fun w' h' x hO hD => ?_), by simp only; omega, by simp only; omega, j3⟩ (by simp only; omega))))
      · have hh := of_decide_eq_true hh
        have hd : ∀ w' h' x, Opt F0 T (J5b c) rest H w' h' x → (w' < w ∨ (w' = w ∧ h' < h + 1)) → (w' < w ∨ (w' = w ∧ h' < h)) ∨ (w' = w ∧ h' = h) := fun w' h' x _ hD => by omega
        refine J69 (fun j : Int => Pst (Opt F0 T (J5b c) rest H) j (fun w' h' => w' < w ∨ (w' = w ∧ h' < h + 1)) ∧ j ≤ 600) (fun K hK => ?_) (fun j hj => Jh ⟨by omega, by omega⟩ (hnx2 _ ⟨hj.1, by simp only; omega, by simp only; omega, hj.2⟩ (by simp only; omega)))
        refine G2d rfl hc (Jh ⟨by omega, by omega⟩ (G2d rfl hc (Jh ⟨by omega, by omega⟩ (Jo (wp_mono (J82 (F := F) hT (w := c.Whole - w) (h := c.Half - h) ⟨by omega, by omega⟩ ⟨by omega, by omega⟩ (by omega)) (fun r hr => ?_))))))
        have hr0 := (hr.ge hTT.1).1
        have hopt : ∀ {x}, Opt F0 T (J5b c) rest H w h x → r ≤ (H : Int) ∧ ∀ m, G71 F0 T rest (H - r.toNat) m → x = w + h + m := fun {x} ⟨_, _, _, _, n, hn, hnH, m, hm, e⟩ => by
          have en : (n : Int) = r := G79.eq hTT.1 hn hr
          refine ⟨by omega, fun m' hm' => ?_⟩
          have : n = r.toNat := by omega
          rw [this] at hm
          rw [e, hm.eq hm']
        by_cases hH2 : (H : Int) < r
        · rw [decide_eq_true hH2]
          simp only [Bool.not_true, Bool.false_and, cond_false, Bool.true_or, cond_true, H0b]
          exact hK _ ⟨hP2.skip hd (fun x hx => by have := (hopt hx).1; omega), j3⟩
        · rw [decide_eq_false hH2]
          simp only [Bool.not_false, Bool.true_and, Bool.false_or]
          have hnew : Wp (Rm (w + h) fun v82 => Rm ((at_ : Int) + 1) fun v83 => Rm ((H : Int) - r) fun v84 => bnd (Q8 F l v83 T v84) fun r85 => Rm (v82 + r85) fun v86 => bif ((decide (b < 0)) || (decide (v86 < b))) then (K v86) else (K b)) (G71 F0 T (J5b c :: rest) H) := by
            refine Jh ⟨by omega, by omega⟩ (Jh ⟨by omega, by omega⟩ (Jh ⟨by omega, by omega⟩ ?_))
            rw [show (H : Int) - r = ((H - r.toNat : Nat) : Int) by omega]
            refine Jo (wp_mono (ih' (H - r.toNat) (by omega)) (fun m hm => ?_))
            have hm0 := hmb (by omega) hm
            refine Jh ⟨by omega, by omega⟩ (J5 (fun hb => hK _ ⟨hP2.take hd ⟨i1, hw, j1, hh, r.toNat, by rw [show ((r.toNat : Nat) : Int) = r by omega]; exact hr, by omega, m, hm, rfl⟩ (by omega) (fun x hx => ?_) ?_, by omega⟩) (fun hb => hK _ ⟨hP2.skip hd (fun x hx => ?_), j3⟩))
            · have := (hopt hx).2 m hm; omega
            · simp only [Bool.or_eq_true, decide_eq_true_eq] at hb; omega
            · simp only [Bool.or_eq_false_iff, decide_eq_false_iff_not] at hb
              have := (hopt hx).2 m hm; omega
          by_cases hb0 : 0 ≤ b
          · rw [decide_eq_true hb0]
            simp only [cond_true, Bool.true_and]
            refine Jo (Jh ⟨by omega, by omega⟩ (H3 (J5 (fun hb => hK _ ⟨hP2.skip hd (fun x hx => ?_), j3⟩) (fun _ => hnew))))
            have hb := of_decide_eq_true hb
            have := (hO0 hx).2.2.2.2
            omega
          · rw [decide_eq_false hb0]
            simp only [cond_false, Bool.false_and, H0b]
            exact hnew
      · have hh := of_decide_eq_false hh
        have := hO0 hO
        simp only at hD ⊢
        omega
    · have hw := of_decide_eq_false hw
      have hall : Pst (Opt F0 T (J5b c) rest H) b (fun _ _ => True) := hP.mono (fun w' h' x hO _ => by have := hO0 hO; show w' < w; omega)
      obtain ⟨m0, hm0⟩ := hex H (Nat.le_refl _)
      have hone : Opt F0 T (J5b c) rest H c.Whole c.Half (c.Whole + c.Half + m0) := ⟨w1, Int.le_refl _, v1, Int.le_refl _, 0, by
        show G79 T (c.Whole - c.Whole) (c.Half - c.Half) 0
        rw [Int.sub_self, Int.sub_self]; exact needIs_zero hTT.1, by omega, m0, hm0, rfl⟩
      rcases hall with ⟨_, g⟩ | ⟨_, g1, g2⟩
      · exact (g _ _ _ trivial hone).elim
      · exact best_of_opts h60 hTT hcok hrest hH hex (fun w h a1 a2 a3 a4 => needIs_ex hT ⟨a1, by omega⟩ ⟨a3, by omega⟩) g1 (fun w h x hO => g2 w h x trivial hO)
def H75 (a b : G6) : Prop := a.Load < b.Load ∧ b.Load < a.Discharge ∧ a.Discharge < b.Discharge
theorem J02 (a b : G6) : ∃ r, Zi a b = some r ∧ G39 a b = some r ∧ (r = true ↔ H75 a b) := by
  refine ⟨_, rfl, rfl, ?_⟩
  unfold H75
  simp only [Bool.and_eq_true, decide_eq_true_eq, and_assoc]
/-- A family is right. -/
def Hd5 (boxes : List H4) (l : List G6) : Prop := (∀ g ∈ l, nz boxes g) ∧ l.Pairwise H75
def cntB (boxes : List H4) (g : G6) : G2 := J5b (J0f boxes g)
theorem ref_count {boxes : List H4} (g : G6) (hl : boxes.length ≤ 1000000) : ∃ r, Zh boxes g = some (J0f boxes g, r) ∧ (r = true ↔ nz boxes g) := by
  have g1 := G6c 40 g boxes
  have g2 := G6c 20 g boxes
  refine ⟨decide (0 < Zo 40 g boxes + Zo 20 g boxes), Ga2 ?_, ?_⟩
  · unfold Zh
    exact H9 (H68 boxes g 40 hl) (H9 (H68 boxes g 20 hl) (Jh ⟨by omega, by omega⟩ (H3 rfl)))
  · rw [decide_eq_true_eq]; unfold nz; omega
theorem J62 {boxes : List H4} (hl : boxes.length ≤ 12) (g : G6) : G4e (cntB boxes g) := by
  have g1 := G6c 40 g boxes
  have g2 := G6c 20 g boxes
  exact ⟨⟨g1.1, by show Zo 40 g boxes ≤ 12; omega⟩, ⟨g2.1, by show Zo 20 g boxes ≤ 12; omega⟩⟩
theorem ref_family {F F0 : Nat} {s : J0} {boxes : List H4} {l : List G6} {T : Int} (h60 : 60 ≤ F0) (hTall : Ro s = some T) (hT : 1 ≤ T ∧ T ≤ 10) (hcol : s.Columns.length ≤ 20) (hb : boxes.length ≤ 12) (hl : l.length ≤ 8) (hF : 100 ≤ F) :
    Wp (R1 F s boxes l) (fun r => (¬ Hd5 boxes l ∧ r = (0, 270)) ∨ (Hd5 boxes l ∧ r.2 = 0 ∧ G71 F0 T (l.map (cntB boxes)) (2 * s.Columns.length) r.1)) := by
  unfold R1
  refine Rn (fun pre st => st = pre.map (J0f boxes) ∧ (∀ g ∈ pre, nz boxes g) ∧ ∀ (i j : Nat) (a b : G6), i < pre.length → i < j → l[i]? = some a → l[j]? = some b → H75 a b)
    ⟨rfl, fun g hg => (List.not_mem_nil hg).elim, fun i j a b h => by simp at h⟩ (fun pre y post st nx e hI hnx => ?_) (fun st hI => ?_)
  · obtain ⟨rfl, i2, i3⟩ := hI
    have hpl : pre.length < l.length := by rw [e]; simp
    have hy : l[pre.length]? = some y := by rw [e]; simp
    obtain ⟨r, er, hr⟩ := ref_count (boxes := boxes) y (by omega)
    refine H9 er (J5 (fun h => H3 (.inl ⟨fun hh => ?_, rfl⟩)) (fun h => ?_))
    · have := hr.2 (hh.1 y (List.mem_of_getElem? hy))
      simp [this] at h
    have hny : nz boxes y := hr.1 (by simpa using h)
    refine G58 (J80 (by rw [List.length_singleton, List.length_map]; omega) (by omega)) ?_
    refine wp_loop (fun k : Int => ∃ m : Nat, k = (m : Int) ∧ pre.length + 1 ≤ m ∧ m ≤ l.length ∧ ∀ (j : Nat) (b : G6), pre.length < j → j < m → l[j]? = some b → H75 y b) (fun k => ((l.length : Int) - k).toNat)
      ⟨pre.length + 1, rfl, Nat.le_refl _, hpl, fun j b h1 h2 => by omega⟩ (by omega) (fun k nx2 hJ hnx2 => ?_)
    obtain ⟨m, rfl, m1, m2, m3⟩ := hJ
    refine J5 (fun hlt => ?_) (fun hge => hnx _ ⟨?_, Qw i2 hny, fun i j a b h1 h2 ha hb' => ?_⟩)
    · have hlt : m < l.length := by have := of_decide_eq_true hlt; omega
      obtain ⟨z, hz⟩ : ∃ z, l[m]? = some z := ⟨_, List.getElem?_eq_getElem hlt⟩
      obtain ⟨q, eq, _, hq⟩ := J02 y z
      refine G2d rfl hz (H9 eq (J5 (fun h => H3 (.inl ⟨fun hh => ?_, rfl⟩)) (fun h => Jh ⟨by omega, by omega⟩ (hnx2 _ ⟨m + 1, by omega, by omega, by omega, fun j b h1 h2 hb' => ?_⟩ (by omega)))))
      · have h1 := List.pairwise_iff_getElem.1 hh.2 pre.length m hpl hlt (by omega)
        rw [(List.getElem?_eq_some_iff.1 hy).2, (List.getElem?_eq_some_iff.1 hz).2] at h1
        simp [hq.2 h1] at h
      · by_cases ej : j = m
        · subst ej
          rw [hz] at hb'; cases hb'
          exact hq.1 (by simpa using h)
        · exact m3 j b h1 (by omega) hb'
    · rw [List.map_append]; rfl
    · have hge := of_decide_eq_false hge
      rw [List.length_append, List.length_singleton] at h1
      by_cases ei : i = pre.length
      · subst ei
        rw [hy] at ha; cases ha
        have := (List.getElem?_eq_some_iff.1 hb').1
        exact m3 j b h2 (by omega) hb'
      · exact i3 i j a b (by omega) h2 ha hb'
  · obtain ⟨rfl, i2, i3⟩ := hI
    have hR : Hd5 boxes l := ⟨i2, List.pairwise_iff_getElem.2 (fun i j hi hj hij => i3 i j _ _ hi hij (List.getElem?_eq_getElem hi) (List.getElem?_eq_getElem hj))⟩
    refine H9 hTall (Jh ⟨by omega, by omega⟩ ?_)
    have hleast := ref_least (F0 := F0) h60 hT (l := l.map (J0f boxes)) (fun c hc => by
      obtain ⟨g, _, rfl⟩ := List.mem_map.1 hc
      exact J62 hb g) (by rw [List.length_map]; omega) l.length 0 F (2 * s.Columns.length) (by rw [List.length_map]; omega) (by omega) (by omega)
    rw [List.drop_zero, List.map_map, show ((2 * s.Columns.length : Nat) : Int) = 2 * (s.Columns.length : Int) by omega] at hleast
    exact Jo (wp_mono hleast (fun r hr => H3 (.inr ⟨hR, rfl, hr⟩)))
theorem J3c {F : Nat} {boxes : List H4} {g0 : List G2} (hg : GBoth F boxes g0) (l : List G6) (hl : l.length ≤ 8) :
    Wp (G26 g0 l) (fun r => (¬ Hd5 boxes l ∧ r = ([], 270)) ∨ (Hd5 boxes l ∧ r = (l.map (cntB boxes), 0))) := by
  unfold G26
  refine Rn (fun pre st => st = pre.map (cntB boxes) ∧ (∀ g ∈ pre, nz boxes g) ∧ ∀ (i j : Nat) (a b : G6), i < pre.length → i < j → l[i]? = some a → l[j]? = some b → H75 a b)
    ⟨rfl, fun g hg => (List.not_mem_nil hg).elim, fun i j a b h => by simp at h⟩ (fun pre y post st nx e hI hnx => ?_) (fun st hI => ?_)
  · obtain ⟨rfl, i2, i3⟩ := hI
    have hpl : pre.length < l.length := by rw [e]; simp
    have hy : l[pre.length]? = some y := by rw [e]; simp
    have hidx : Ra g0 (fun z0 => G44 z0 y) = some (idxI (fun z : G2 => decide (z.G6 = y)) g0) := Jeb (fun x _ => rfl)
    refine H9 hidx ?_
    rcases J8e (fun z : G2 => decide (z.G6 = y)) g0 with ⟨e1, h, _⟩ | ⟨m, c, e1, e2, e3, _⟩
    · rw [e1, decide_eq_true (by omega : (-1 : Int) < 0)]
      refine Jo (J5 (fun h => by cases h) (fun _ => H3 (Jo (J5 (fun h => by cases h) (fun _ => H3 (Jo (J5 (fun h => by cases h) (fun _ => H3 (J5 (fun _ => H3 (.inl ⟨fun hh => ?_, rfl⟩)) (fun h => by cases h))))))))))
      have := h _ (hg.all y (hh.1 y (List.mem_of_getElem? hy)))
      rw [decide_eq_true (show (J5b (J0f boxes y)).G6 = y from rfl)] at this; cases this
    have hcg : c.G6 = y := of_decide_eq_true e3
    obtain ⟨hce, hcn⟩ := hg.each c (List.mem_of_getElem? e2)
    rw [hcg] at hce hcn
    have hnn : decide ((m : Int) < 0) = false := decide_eq_false (by omega)
    rw [e1, hnn]
    refine Jo (J5 (fun _ => Jh ⟨by omega, by omega⟩ (H3 (Jo (J5 (fun _ => J68 (m := pre.length + 1) (by omega) (by omega) ?_) (fun h => by cases h))))) (fun h => by cases h))
    have hdrop : l.drop (pre.length + 1) = post := by rw [e]; simp
    rw [hdrop]
    obtain ⟨p, hp⟩ : ∃ p : G6 → Bool, ∀ z, Zs z y = some (p z) ∧ (p z = false ↔ H75 y z) := by
      have := fun z => J02 y z
      refine ⟨fun z => !(((decide (y.Load < z.Load)) && (decide (z.Load < y.Discharge))) && (decide (y.Discharge < z.Discharge))), fun z => ⟨rfl, ?_⟩⟩
      unfold H75
      simp only [Bool.not_eq_false', Bool.and_eq_true, decide_eq_true_eq, and_assoc]
    have hcon : R8 post (fun z0 => Zs z0 y) = some (post.any p) := by
      unfold R8
      have hi2 : Z8 post (fun z0 => Zs z0 y) = some (idxI p post) := Jeb (fun z hz => (hp z).1)
      rw [hi2, bnd_some, idxI_nonneg]
    refine Jo (J5 (fun _ => ⟨_, hcon, ?_⟩) (fun h => by cases h))
    refine (J5 (fun h => H3 (.inl ⟨fun hh => ?_, rfl⟩)) (fun h => ?_))
    · rw [Bool.false_or] at h
      obtain ⟨z, hz, hpz⟩ := List.any_eq_true.1 h
      have hx := hh.2
      rw [e] at hx
      have := (hp z).2.2 ((List.pairwise_cons.1 (List.pairwise_append.1 hx).2.1).1 z hz)
      rw [this] at hpz; cases hpz
    · rw [Bool.false_or] at h
      have hcr : ∀ z ∈ post, H75 y z := fun z hz => (hp z).2.1 (by simpa using List.any_eq_false.1 h z hz)
      refine G2d rfl e2 (G58 (J80 (by rw [List.length_singleton, List.length_map]; omega) (by omega)) (hnx _ ⟨by rw [List.map_append, hce]; rfl, Qw i2 hcn, fun i j a b h1 h2 ha hb' => ?_⟩))
      rw [List.length_append, List.length_singleton] at h1
      by_cases ei : i = pre.length
      · subst ei
        rw [hy] at ha; cases ha
        refine hcr b ?_
        rw [← hdrop]
        exact List.mem_of_getElem? (i := j - (pre.length + 1)) (by rw [List.getElem?_drop, show pre.length + 1 + (j - (pre.length + 1)) = j by omega]; exact hb')
      · exact i3 i j a b (by omega) h2 ha hb'
  · obtain ⟨rfl, i2, i3⟩ := hI
    exact H3 (.inr ⟨⟨i2, List.pairwise_iff_getElem.2 (fun i j hi hj hij => i3 i j _ _ hi hij (List.getElem?_eq_getElem hi) (List.getElem?_eq_getElem hj))⟩, rfl⟩)
end Go.Proofs.YtfkilljboodoaaaGreat
