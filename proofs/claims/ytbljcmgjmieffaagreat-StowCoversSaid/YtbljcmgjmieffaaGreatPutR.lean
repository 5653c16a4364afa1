/-
 StowBack: the law's plain mathematics. StowCovers: the law's plain mathematics. StowCovers: the law.
-/
import Derived.Test.YtbljcmgjmieffaaGreatPutN
set_option linter.unusedSimpArgs false
set_option linter.unnecessarySimpa false
set_option maxRecDepth 100000
set_option linter.unusedVariables false
namespace Go.Proofs.YtbljcmgjmieffaaGreat
open Go.RowKit

/-- What stands in a column stands upon something, down to the lowest tier. -/
theorem chain {s : Gt} {boxes : List Ga} {l : List Stowed} (h : Rw s boxes l) {t : Int} (h0 : 0 ≤ t) : ∀ (n : Nat) (z : Stowed), z ∈ l → z.Slot.Tier = t + (n : Int) + 1 →
    (∃ w ∈ l, w.Slot = ⟨z.Slot.G3, t, z.Slot.Half⟩) ∨ (z.Slot.Half = 0 ∧ (∃ w ∈ l, w.Slot = ⟨z.Slot.G3, t, 1⟩) ∧ ∃ w ∈ l, w.Slot = ⟨z.Slot.G3, t, 2⟩) := by
  intro n
  induction n with
  | zero =>
    intro z hz ht
    obtain ⟨_, _, _, hh⟩ := h.each z hz
    have e : z.Slot.Tier - 1 = t := by omega
    rcases hh with hh | hh | ⟨hz0, h1, h2⟩
    · omega
    · obtain ⟨w, hw, ew⟩ := G1b hh
      rw [e] at ew
      exact .inl ⟨w, hw, ew⟩
    · obtain ⟨w, hw, ew⟩ := G1b h1
      obtain ⟨v, hv, ev⟩ := G1b h2
      rw [e] at ew ev
      exact .inr ⟨hz0, ⟨w, hw, ew⟩, ⟨v, hv, ev⟩⟩
  | succ n ih =>
    intro z hz ht
    obtain ⟨_, _, _, hh⟩ := h.each z hz
    have one : ∀ w ∈ l, ∀ half, w.Slot = ⟨z.Slot.G3, z.Slot.Tier - 1, half⟩ → half ≠ 0 → ∃ v ∈ l, v.Slot = ⟨z.Slot.G3, t, half⟩ := fun w hw half ew hne => by
      have := ih w hw (by rw [ew]; simp only; omega)
      rw [ew] at this
      rcases this with h | ⟨h, _⟩
      · exact h
      · exact (hne h).elim
    rcases hh with hh | hh | ⟨hz0, h1, h2⟩
    · omega
    · obtain ⟨w, hw, ew⟩ := G1b hh
      have := ih w hw (by rw [ew]; simp only; omega)
      rw [ew] at this
      exact this
    · obtain ⟨w, hw, ew⟩ := G1b h1
      obtain ⟨v, hv, ev⟩ := G1b h2
      exact .inr ⟨hz0, one w hw 1 ew (by decide), one v hv 2 ev (by decide)⟩
theorem no3 (l : List Gg) : Y2 (G39 l) 3 = none := by
  unfold Y2
  refine List.find?_eq_none.2 fun b hb => ?_
  unfold G39 at hb
  obtain ⟨p, _, rfl⟩ := List.mem_map.1 hb
  have : (boxOf p).ID ≠ 3 := by
    show 5 * ((p.2 + 1 : Nat) : Int) ≠ 3
    omega
  simp [this]
end Go.Proofs.YtbljcmgjmieffaaGreat
set_option linter.unusedSimpArgs false
set_option linter.unnecessarySimpa false
set_option maxRecDepth 100000
set_option linter.unusedVariables false
namespace Go.Proofs.YtbljcmgjmieffaaGreat
open Go.RowKit

theorem wp_yes2 {α β : Type} {Q : β → Prop} {c : Bool} {m : Option α} {x d : α} {k : α → Option β} (hc : c = true) (hm : m = some x) (h : Wp (k x) Q) : Wp (bnd (bif c then m else some d) k) Q := by
  subst hc hm
  exact h
theorem close_spec {F : Nat} {s : Gt} {boxes : List Ga} {l : List Stowed} {o : List Int} (h : J4c s boxes l) (hO : G66 s o) (hF : 20 ≤ F) {k : Nat} (hk : k < s.Covers.length) :
    Wp (G68 F s boxes l o (k : Int)) (fun r => r.2 = 0 ∧ ∀ a ∈ r.1, a ∈ o ∧ a ≠ (k : Int)) := by
  have hs := G2b h.ship
  have hcl := h.ship.covs.len
  have hol := hO.len
  unfold G68
  refine H3 (h.checked hO) (He (fun h => by cases h) (fun _ => He (fun h => ?_) (fun _ => ?_)))
  · simp only [Bool.or_eq_true, decide_eq_true_eq] at h; omega
  refine H1 (wp_mono (Hcd hO.sorted (by omega) (by omega)) (fun r hr => ?_))
  obtain ⟨n, h1, h2, h3, h4, h5⟩ := hr
  refine He (fun hf => ?_) (fun hf => ?_)
  · have hn : ¬ o[n]? = some (k : Int) := fun e => by rw [h5.2 e] at hf; cases hf
    have e : Jn o = some o := by
      unfold Jn
      refine H42 (fun b hb => ?_)
      cases b with
      | true => rw [hb rfl]; rfl
      | false =>
        show need _ _ = _
        unfold need
        rw [H6a (by simp only [List.length_nil]; omega)]
        rfl
    refine H3 e (Gj ⟨rfl, fun a ha => ⟨ha, fun e2 => ?_⟩⟩)
    have ha : a ∈ o := ha
    subst e2
    obtain ⟨j, hj, e3⟩ := List.mem_iff_getElem.1 ha
    have hp := List.pairwise_iff_getElem.1 hO.sorted
    rcases Nat.lt_trichotomy j n with g | g | g
    · have := h3 o[j] (List.mem_iff_getElem.2 ⟨j, by rw [List.length_take]; omega, by rw [List.getElem_take]⟩)
      rw [e3] at this
      omega
    · subst g
      exact hn (by rw [List.getElem?_eq_getElem hj, e3])
    · have hnl : n < o.length := by omega
      have g1 := hp n j hnl hj g
      have g2 := h4 o[n] (List.mem_iff_getElem.2 ⟨0, by rw [List.length_drop]; omega, by rw [List.getElem_drop]; simp⟩)
      omega
  · have hf : o[n]? = some (k : Int) := h5.1 (by simpa using hf)
    have hlt := (List.getElem?_eq_some_iff.1 hf).1
    have hg := (List.getElem?_eq_some_iff.1 hf).2
    have e : Yz o r.1 = some (o.eraseIdx n) := by
      unfold Yz
      rw [h1, decide_eq_true (show (0 : Int) ≤ (n : Int) by omega), decide_eq_true (show (n : Int) < (o.length : Int) by omega), decide_eq_true (show o.length ≤ 100000 by omega), show ((n : Int)).toNat = n by omega]
      rfl
    refine H3 e (Gj ⟨rfl, fun a ha => ?_⟩)
    have ha : a ∈ o.eraseIdx n := ha
    rw [List.eraseIdx_eq_take_drop_succ] at ha
    have hs2 := hO.sorted
    rw [← List.take_append_drop n o, List.drop_eq_getElem_cons hlt, hg] at hs2
    obtain ⟨s1, s2, s3⟩ := List.pairwise_append.1 hs2
    rcases List.mem_append.1 ha with ha | ha
    · exact ⟨List.mem_of_mem_take ha, by have := s3 a ha (k : Int) (List.mem_cons_self ..); omega⟩
    · exact ⟨List.mem_of_mem_drop ha, by have := (List.pairwise_cons.1 s2).1 a ha; omega⟩
theorem J3d (c : G3) (x : G9) : Hx c x.Rows x.Bay = some (G50 x c) := by
  refine G33 ?_
  unfold Hx
  refine Qc (fun pre _ => ∀ r ∈ pre, ¬ (c.Row = r ∧ c.Bay = x.Bay)) (fun r hr => (List.not_mem_nil hr).elim) (fun pre y post u nx e hI hnx => He (fun h => Gj ?_) (fun h => hnx _ (Yf hI fun hh => ?_))) (fun u hI => Gj ?_)
  · simp only [Bool.and_eq_true, decide_eq_true_eq] at h
    unfold G50
    refine Eq.symm ?_
    simp only [Bool.and_eq_true, decide_eq_true_eq, List.any_eq_true]
    exact ⟨h.2.symm, y, by rw [e]; simp, h.1.symm⟩
  · simp only [Bool.and_eq_false_iff, decide_eq_false_iff_not] at h
    rcases h with h | h
    · exact h hh.1
    · exact h hh.2
  · refine Eq.symm ?_
    cases hc : G50 x c with
    | false => rfl
    | true =>
      unfold G50 at hc
      simp only [Bool.and_eq_true, decide_eq_true_eq, List.any_eq_true] at hc
      obtain ⟨h1, r, h2, h3⟩ := hc
      exact (hI r h2 ⟨h3.symm, h1.symm⟩).elim
theorem Hd7 {boxes : List Ga} {m half : Int} : ∀ (l : List Stowed), (∀ y ∈ l, y.Slot.G3 ≠ m) → G47 boxes l m half = 0 := by
  unfold G47
  intro l
  induction l with
  | nil => intro _; rfl
  | cons x r ih =>
    intro h
    rw [List.foldl_cons, H71 (h x (by simp))]
    exact ih (fun y hy => h y (by simp [hy]))
/-- A box can be put on deck upon a cover upon which none stands, where the cover is closed; where it is open, it is told so. -/
theorem deck_put {F : Nat} {s : Gt} {boxes : List Ga} {l : List Stowed} {o : List Int} (h : J4c s boxes l) (hO : G66 s o) (hF : 20 ≤ F) {b : Ga} {x : Stowed} (hb : Y2 boxes x.Ga = some b) (hz : b.Size = 20) (hx : x.Ga ∉ l.map (·.Ga)) {i k : Nat} {c : G3} (hc : s.Columns[i]? = some c)
    (hxs : x.Slot = ⟨(i : Int), 0, 1⟩) (hd : c.Deck = true) (hk : Qr s c = (k : Int)) (hU : Hdf s l (k : Int)) : Wp (Rx F s boxes l o x) (fun r => ((k : Int) ∈ o → r.2 = 91) ∧ ((k : Int) ∉ o → r.2 = 0)) := by
  have hlim := h.ship.each c (List.mem_of_getElem? hc)
  obtain ⟨c0, z, hc0, hz0, hce⟩ := hlim
  have hct : 2 ≤ c.Tiers := by rw [hce]; exact hc0.tiers.1
  have hch : c.Height = 0 ∨ c.Height = 8000 := by rw [hce]; exact hz0
  have hslot : G1c s x.Slot b.Size := by
    rw [hxs, hz]
    exact ⟨⟨i, c, rfl, hc, by show (0 : Int) < c.Tiers; omega⟩, Int.le_refl _, by show (1 : Int) ∈ Ga4 20; decide⟩
  have hcol : x.Slot.G3 = (i : Int) := by rw [hxs]
  have hnone : ∀ y ∈ l, y.Slot.G3 ≠ (i : Int) := fun y hy e => hU y hy i c e hc hd hk
  have hsh : H98 s o x.Slot ↔ (k : Int) ∈ o := by
    constructor
    · rintro ⟨m, c', e1, e2, e3, e4⟩
      have : m = i := by omega
      subst this
      rw [hc] at e2; cases e2
      rw [← hk]; exact e4.1 hd
    · exact fun hm => ⟨i, c, hcol, hc, by omega, ⟨fun _ => by rw [hk]; exact hm, fun _ => hd⟩⟩
  refine wp_mono (put_spec h hO hF hb (.inl hz) hx) (fun r hr => ?_)
  rcases hr with ⟨g, _⟩ | ⟨_, ⟨g, e⟩ | ⟨gn, ⟨g, _⟩ | ⟨_, ⟨g, _⟩ | ⟨_, q, hins, ⟨g, _⟩ | ⟨_, e⟩⟩⟩⟩⟩
  · exact (g hslot).elim
  · exact ⟨fun _ => by rw [e], fun hn => (hn (hsh.1 g)).elim⟩
  · obtain ⟨y, hy, hm⟩ := g
    exact (hnone y hy (by rw [← hcol]; exact hm.1.symm)).elim
  · exact (g (.inl (by rw [hxs]; exact Int.le_refl _))).elim
  · refine (g (fun m c' e1 e2 => ?_)).elim
    have : m = i := by omega
    subst this
    rw [hc] at e2; cases e2
    obtain ⟨pre, post, rfl, rfl, _⟩ := hins
    unfold H3a
    rw [G79, G79, Hd7 _ hnone, Hd7 _ hnone]
    have a1 := (H97 (boxes := boxes) (column := (m : Int)) (half := 1) (n := 0) (x := x)).2
    have a2 := (H97 (boxes := boxes) (column := (m : Int)) (half := 2) (n := 0) (x := x)).2
    rcases hch with e | e
    · exact .inl (by omega)
    · exact .inr ⟨by omega, by omega⟩
  · exact ⟨fun hm => (gn (hsh.2 hm)).elim, fun _ => by rw [e]⟩
end Go.Proofs.YtbljcmgjmieffaaGreat
set_option linter.unusedSimpArgs false
set_option linter.unnecessarySimpa false
set_option maxRecDepth 100000
set_option linter.unusedVariables false
namespace Go.Proofs.YtbljcmgjmieffaaGreat
open Go.RowKit

theorem lawCoversF {F : Nat} (hF : 40 ≤ F) (hA : J5 F = some true) (l : List Gz) (covers : Int) (drops : List Gg) (which : Int) (hp : ∀ p ∈ l, H0e p) (hd : ∀ x ∈ drops, Hbf x) (hw : Byte which) :
    Qk F l covers drops which = some true := by
  refine G33 ?_
  unfold Qk
  refine H1 (wp_mono (H8f l covers hp) (fun s hL => ?_))
  have hs := G2b hL
  refine H1 (wp_mono (He0 hs hd) (fun r5 h5 => ?_))
  obtain ⟨g1, g2, g3⟩ := h5
  have hS : J4c s r5.1 r5.2 := ⟨hL, g2, by omega⟩
  have hcv := hL.covs.len
  obtain ⟨w1, w2⟩ := hw
  refine He (fun _ => H3 hA (Gj rfl)) (fun hne => ?_)
  have hne := of_decide_eq_false hne
  refine Qd ⟨by omega, by omega⟩ (H1 (H5d (by omega) ?_))
  rw [Int.tmod_eq_emod_of_nonneg w1]
  have hmod1 := Int.emod_nonneg which (by omega : (s.Covers.length : Int) ≠ 0)
  have hmod2 := Int.emod_lt_of_pos which (by omega : (0 : Int) < (s.Covers.length : Int))
  obtain ⟨k, hk⟩ : ∃ k : Nat, which % (s.Covers.length : Int) = (k : Int) := ⟨(which % (s.Covers.length : Int)).toNat, by omega⟩
  rw [hk]
  have hkl : k < s.Covers.length := by omega
  obtain ⟨X, hX⟩ : ∃ X, s.Covers[k]? = some X := ⟨_, List.getElem?_eq_getElem hkl⟩
  refine Qw rfl hX (Qw rfl hX ?_)
  have hcov : ∀ c, G50 X c = true ↔ Qr s c = (k : Int) := fun c => H2b (H90 hL) hX
  refine Qc (fun pre b => b = true ↔ ∃ y ∈ pre, ∃ (m : Nat) (c : G3), y.Slot.G3 = (m : Int) ∧ s.Columns[m]? = some c ∧ c.Deck = true ∧ Qr s c = (k : Int)) ⟨fun h => (by cases h), fun ⟨y, hy, _⟩ => (List.not_mem_nil hy).elim⟩ (fun pre y post b nx e hI hnx => ?_) (fun b hI => ?_)
  · have hy : y ∈ r5.2 := by rw [e]; simp
    obtain ⟨m, c, hm, hc⟩ := hS.colIn hy
    rw [hm]
    refine Qw rfl hc ?_
    have hr48 : Wp (bif ((!b) && c.Deck) then Hx c X.Rows X.Bay else some default) (fun r => (b || (c.Deck && r)) = (b || (c.Deck && G50 X c))) := by
      refine He (fun h => by rw [J3d]; exact Gj rfl) (fun h => Gj ?_)
      cases b with
      | true => rfl
      | false =>
        have hd : c.Deck = false := by simpa using h
        rw [hd]; rfl
    refine H1 (wp_mono hr48 (fun r hr => hnx _ ?_))
    rw [hr, Bool.or_eq_true, Bool.and_eq_true, hI, hcov]
    constructor
    · rintro (⟨z, hz, h⟩ | h)
      · exact ⟨z, List.mem_append.2 (.inl hz), h⟩
      · exact ⟨y, by simp, m, c, hm, hc, h⟩
    · rintro ⟨z, hz, m', c', e1, e2, h⟩
      rcases List.mem_append.1 hz with hz | hz
      · exact .inl ⟨z, hz, m', c', e1, e2, h⟩
      · rw [List.mem_singleton] at hz; subst hz
        have : m' = m := by omega
        subst this
        rw [hc] at e2; cases e2
        exact .inr h
  refine H1 (wp_mono (open_spec hS Ge8 (by omega) hkl) (fun r50 h50 => ?_))
  have hopen : (b = true ∧ r50 = ([], 95)) ∨ (b = false ∧ Hdf s r5.2 (k : Int) ∧ r50.2 = 0 ∧ r50.1 = [(k : Int)]) := by
    rcases h50 with ⟨hn, e⟩ | ⟨hu, e1, e2, e3⟩
    · refine .inl ⟨?_, e⟩
      cases hb : b with
      | true => rfl
      | false =>
        refine (hn fun y hy m c q1 q2 q3 q4 => ?_).elim
        have := hI.2 ⟨y, hy, m, c, q1, q2, q3, q4⟩
        rw [hb] at this; cases this
    · refine .inr ⟨?_, hu, e1, H08 e2.sorted (List.pairwise_singleton ..) (fun a => by rw [e3]; simp)⟩
      cases hb : b with
      | false => rfl
      | true =>
        obtain ⟨y, hy, m, c, q1, q2, q3, q4⟩ := hI.1 hb
        exact (hu y hy m c q1 q2 q3 q4).elim
  refine He (fun h => ?_) (fun _ => ?_)
  · rcases hopen with ⟨e1, e2⟩ | ⟨e1, _, e2, _⟩
    · rw [e1, e2] at h; exact absurd h (by decide)
    · rw [e1, e2] at h; exact absurd h (by decide)
  have hO1 : G66 s r50.1 := by
    rcases hopen with ⟨_, e2⟩ | ⟨_, _, _, e2⟩
    · rw [e2]; exact Ge8
    · rw [e2]
      exact ⟨fun y hy => by rw [List.mem_singleton] at hy; omega, List.pairwise_singleton ..⟩
  refine H1 (wp_mono (close_spec hS hO1 (by omega) hkl) (fun r55 h55 => ?_))
  obtain ⟨c1, c2⟩ := h55
  have hr55 : r55.1 = [] := List.eq_nil_iff_forall_not_mem.2 fun a ha => by
    obtain ⟨q1, q2⟩ := c2 a ha
    rcases hopen with ⟨_, e2⟩ | ⟨_, _, _, e2⟩
    · rw [e2] at q1; cases q1
    · rw [e2, List.mem_singleton] at q1; exact q2 q1
  rw [c1, hr55]
  refine He (fun h => absurd h (by decide)) (fun _ => ?_)
  refine Qc (fun _ _ => True) trivial (fun pre x post u nx e _ hnx => ?_) (fun u _ => ?_)
  · refine G5e (fun _ => True) (fun K hK => ?_) (fun j _ => hnx _ trivial)
    have hx : x ∈ r5.2 := by rw [e]; simp
    obtain ⟨m, c, hm, hc⟩ := hS.colIn hx
    rw [hm]
    refine Qw rfl hc (H3 (J3d c X) (He (fun hh => ?_) (fun _ => hK _ trivial)))
    have hh := Bool.and_eq_true _ _ ▸ hh
    obtain ⟨h1, h2⟩ := hh
    have h2 : c.Deck = false := by simpa using h2
    have hck := (hcov c).1 h1
    refine H1 (wp_mono (free_spec hS Ge8 hx) (fun r102 f1 => H1 (wp_mono (free_spec hS hO1 hx) (fun r103 f2 => ?_))))
    have hin : H31 s [] x.Slot := ⟨m, c, hm, hc, h2, by omega, fun h => by cases h⟩
    have hB : b = false → ¬ H31 s r50.1 x.Slot := fun hb => by
      rintro ⟨m', c', q1, q2, q3, q4, q5⟩
      have : m' = m := by omega
      subst this
      rw [hc] at q2; cases q2
      rcases hopen with ⟨e1, _⟩ | ⟨_, _, _, e2⟩
      · rw [hb] at e1; cases e1
      · exact q5 (by rw [e2, hck]; simp)
    refine He (fun h => ?_) (fun _ => hK _ trivial)
    exfalso
    rcases f1 with ⟨a1, a2⟩ | ⟨a1, a2, _⟩ | ⟨_, _, a2⟩
    · rcases f2 with ⟨b1, _⟩ | ⟨_, b2, _⟩ | ⟨_, b2, _⟩
      · rw [a1, b1] at h
        revert h
        cases b <;> decide
      · exact a2 b2
      · exact a2 b2
    · rcases f2 with ⟨_, b2⟩ | ⟨b1, _, b3⟩ | ⟨b1, _, _⟩
      · exact b2 a2
      · cases hb : b with
        | false => exact hB hb b3
        | true =>
          rw [a1, b1, hb] at h
          exact absurd h (by decide)
      · rw [a1, b1] at h
        revert h
        cases b <;> decide
    · exact a2 hin
  refine He (fun _ => H3 hA (Gj rfl)) (fun hb => ?_)
  obtain ⟨hU, e0, e1⟩ : Hdf s r5.2 (k : Int) ∧ r50.2 = 0 ∧ r50.1 = [(k : Int)] := by
    rcases hopen with ⟨h, _⟩ | ⟨_, h⟩
    · rw [hb] at h; cases h
    · exact h
  refine H1 (wp_mono (open_spec hS hO1 (by omega) hkl) (fun r111 h111 => ?_))
  have hr111 : r111.2 = 0 ∧ r111.1 = [(k : Int)] := by
    rcases h111 with ⟨hn, _⟩ | ⟨_, z0, z1, z2⟩
    · exact (hn hU).elim
    · exact ⟨z0, H08 z1.sorted (List.pairwise_singleton ..) (fun a => by rw [z2, e1]; simp)⟩
  have hbl : r5.1.length ≤ 9 := by rw [g1, J47, List.length_take]; omega
  refine Ra (G62 (by rw [List.length_singleton]; omega) (by omega)) ?_
  have hid : (Ga.mk 3 ByteArray.empty 20 false 0 0 0 0 false).ID = 3 := rfl
  have hsz : (Ga.mk 3 ByteArray.empty 20 false 0 0 0 0 false).Size = 20 := rfl
  generalize Ga.mk 3 ByteArray.empty 20 false 0 0 0 0 false = b3 at hid hsz ⊢
  have hfb : Y2 (r5.1 ++ [b3]) 3 = some b3 := by
    have hno : Y2 r5.1 3 = none := by rw [g1]; exact no3 _
    unfold Y2 at hno ⊢
    rw [List.find?_append, hno, Option.none_or, List.find?_singleton, hid]
    rfl
  have hn3 : (3 : Int) ∉ r5.2.map (·.Ga) := fun hm => by
    obtain ⟨y, hy, e⟩ := List.mem_map.1 hm
    obtain ⟨b, hb, _⟩ := g2.each y hy
    have e : y.Ga = 3 := e
    rw [e, g1, no3] at hb
    cases hb
  have hS3 : J4c s (r5.1 ++ [b3]) r5.2 := ⟨hL, Hd1 g2, by omega⟩
  refine Qc (fun _ _ => True) trivial (fun pre y post u nx e _ hnx => ?_) (fun u _ => ?_)
  · refine G5e (fun _ => True) (fun K hK => ?_) (fun j _ => hnx _ trivial)
    have hr168 : Wp (bif y.Deck then Hx y X.Rows X.Bay else some default) (fun r => (y.Deck && r) = (y.Deck && G50 X y)) := by
      refine He (fun h => by rw [J3d]; exact Gj rfl) (fun h => Gj ?_)
      rw [h]; rfl
    refine H1 (wp_mono hr168 (fun r hr => ?_))
    rw [hr]
    refine He (fun h => ?_) (fun _ => hK _ trivial)
    have h := Bool.and_eq_true _ _ ▸ h
    obtain ⟨h1, h2⟩ := h
    have hc : s.Columns[pre.length]? = some y := by rw [e]; simp
    have hat : Je 3 (pre.length : Int) 0 1 = some (Stowed.mk 3 (Slot.mk (pre.length : Int) 0 1)) := rfl
    have hput : ∀ o, G66 s o → Wp (Rx F s (r5.1 ++ [b3]) r5.2 o (Stowed.mk 3 (Slot.mk (pre.length : Int) 0 1))) (fun r => ((k : Int) ∈ o → r.2 = 91) ∧ ((k : Int) ∉ o → r.2 = 0)) := fun o ho => deck_put hS3 ho (by omega) hfb hsz hn3 hc rfl h1 ((hcov y).1 h2) hU
    refine H3 hat (H1 (wp_mono (hput _ hO1) (fun r172 q1 => ?_)))
    rw [q1.1 (by rw [e1]; simp)]
    refine He (fun h => (of_decide_eq_true h rfl).elim) (fun _ => H3 hat (H1 (wp_mono (hput _ Ge8) (fun r177 q2 => ?_))))
    rw [q2.2 (fun h => by cases h)]
    exact He (fun h => (of_decide_eq_true h rfl).elim) (fun _ => hK _ trivial)
  rw [hr111.1, hr111.2, e1]
  exact wp_yes2 rfl (Hae _) (wp_yes2 rfl (Hae _) (wp_yes2 rfl hA (Gj rfl)))
theorem lawCovers (l : List Gz) (covers : Int) (drops : List Gg) (which : Int) (hp : ∀ p ∈ l, H0e p) (hd : ∀ x ∈ drops, Hbf x) (hw : Byte which) :
    Qk 60 l covers drops which = some true := lawCoversF (by omega) awake09 l covers drops which hp hd hw
end Go.Proofs.YtbljcmgjmieffaaGreat
