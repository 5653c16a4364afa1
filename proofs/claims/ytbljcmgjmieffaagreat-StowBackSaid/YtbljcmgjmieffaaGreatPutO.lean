/-
  StowBack: the law's plain mathematics.
-/
import Derived.Test.YtbljcmgjmieffaaGreatPutN
set_option linter.unusedSimpArgs false
set_option linter.unnecessarySimpa false
set_option maxRecDepth 100000
set_option linter.unusedVariables false
namespace Go.Proofs.YtbljcmgjmieffaaGreat
open Go.RowKit

theorem Hcb {a b : Int} (h : G7d a b) : G7d b a := by
  unfold G7d at h ⊢
  omega
theorem meet_symm {a b : Slot} (h : H19 a b) : H19 b a := ⟨h.1.symm, h.2.1.symm, Hcb h.2.2⟩
theorem over_self {a : Slot} : ¬ Gf1 a a := fun h => by have := h.2.1; omega
theorem H8f {l q : List Stowed} {x : Stowed} (h : H9a l x q) : q.Perm (x :: l) := by
  obtain ⟨pre, post, rfl, rfl, _⟩ := h
  exact List.perm_middle
theorem J39 {l q : List Stowed} {x : Stowed} (h : H9a l x q) (hs : l.Pairwise (fun a b => a.Ga < b.Ga)) (hx : x.Ga ∉ l.map (·.Ga)) : q.Pairwise (fun a b => a.Ga < b.Ga) := by
  obtain ⟨pre, post, rfl, rfl, h1, h2⟩ := h
  obtain ⟨s1, s2, s3⟩ := List.pairwise_append.1 hs
  refine List.pairwise_append.2 ⟨s1, List.pairwise_cons.2 ⟨fun y hy => ?_, s2⟩, fun a ha b hb => ?_⟩
  · have hne : x.Ga ≠ y.Ga := fun e => hx (List.mem_map.2 ⟨y, List.mem_append.2 (.inr hy), e.symm⟩)
    cases post with
    | nil => cases hy
    | cons z r =>
      have h3 := h2 z rfl
      rcases List.mem_cons.1 hy with rfl | hy
      · omega
      · have := (List.pairwise_cons.1 s2).1 y hy
        omega
  · rcases List.mem_cons.1 hb with rfl | hb
    · exact h1 a ha
    · exact s3 a ha b hb
theorem Hd6 {a b : List Stowed} (hp : a.Perm b) (ha : a.Pairwise (fun x y => x.Ga < y.Ga)) (hb : b.Pairwise (fun x y => x.Ga < y.Ga)) : a = b :=
  List.Perm.eq_of_pairwise (le := fun x y : Stowed => x.Ga < y.Ga) (fun x y _ _ h1 h2 => by omega) ha hb hp
theorem ins_eq {l q : List Stowed} {x : Stowed} {pre post : List Stowed} (h : H9a (pre ++ post) x q) (hs : (pre ++ x :: post).Pairwise (fun a b => a.Ga < b.Ga)) : q = pre ++ x :: post := by
  have hsub : (pre ++ post).Sublist (pre ++ x :: post) := List.Sublist.append_left (List.sublist_cons_self ..) _
  obtain ⟨s1, s2, s3⟩ := List.pairwise_append.1 hs
  refine Hd6 ((H8f h).trans List.perm_middle.symm) (J39 h (hs.sublist hsub) (fun hm => ?_)) hs
  obtain ⟨y, hy, e⟩ := List.mem_map.1 hm
  rcases List.mem_append.1 hy with hy | hy
  · have := s3 y hy x (List.mem_cons_self ..)
    omega
  · have := (List.pairwise_cons.1 s2).1 y hy
    omega
theorem held_mono {l q : List Slot} {x : Slot} (h : Gd6 x l) (hs : ∀ y ∈ l, y ∈ q) : Gd6 x q := by
  rcases h with h | h | ⟨h0, h1, h2⟩
  · exact .inl h
  · exact .inr (.inl (hs _ h))
  · exact .inr (.inr ⟨h0, hs _ h1, hs _ h2⟩)
theorem right_ins {s : Gt} {boxes : List Ga} {l q : List Stowed} {x : Stowed} {b : Ga} (h : Rw s boxes l) (hb : Yd boxes x.Ga = some b) (hslot : G1d s x.Slot b.Size) (hmet : ¬ MetP l x.Slot) (hheld : Gd6 x.Slot (l.map (·.Slot))) (hins : H9a l x q) (hx : x.Ga ∉ l.map (·.Ga)) (hfit : FitC s boxes q x.Slot) : Rw s boxes q := by
  have hp := H8f hins
  have hmem : ∀ y, y ∈ q ↔ y = x ∨ y ∈ l := fun y => by rw [hp.mem_iff, List.mem_cons]
  have hsl : ∀ y ∈ l.map (·.Slot), y ∈ q.map (·.Slot) := fun y hy => by
    obtain ⟨z, hz, e⟩ := List.mem_map.1 hy
    exact List.mem_map.2 ⟨z, (hmem z).2 (.inr hz), e⟩
  refine ⟨fun y hy => ?_, J39 hins h.sorted hx, ?_, fun m c hc => ?_⟩
  · rcases (hmem y).1 hy with rfl | hy
    · exact ⟨b, hb, hslot, held_mono hheld hsl⟩
    · obtain ⟨b', h1, h2, h3⟩ := h.each y hy
      exact ⟨b', h1, h2, held_mono h3 hsl⟩
  · have ha := h.apart
    obtain ⟨pre, post, rfl, rfl, _⟩ := hins
    obtain ⟨s1, s2, s3⟩ := List.pairwise_append.1 ha
    refine List.pairwise_append.2 ⟨s1, List.pairwise_cons.2 ⟨fun y hy hm => hmet ⟨y, List.mem_append.2 (.inr hy), meet_symm hm⟩, s2⟩, fun a ha b hb => ?_⟩
    rcases List.mem_cons.1 hb with rfl | hb
    · exact fun hm => hmet ⟨a, List.mem_append.2 (.inl ha), hm⟩
    · exact s3 a ha b hb
  · by_cases he : x.Slot.G3 = (m : Int)
    · exact hfit m c he hc
    · have := h.fits m c hc
      obtain ⟨pre, post, rfl, rfl, _⟩ := hins
      unfold H5d at this ⊢
      rw [H0a, H0a, J46 he, J46 he, Int.add_zero, Int.add_zero]
      exact this
/-- What stands in a column stands upon something, down to the lowest tier. -/
theorem chain {s : Gt} {boxes : List Ga} {l : List Stowed} (h : Rw s boxes l) {t : Int} (h0 : 0 ≤ t) : ∀ (n : Nat) (z : Stowed), z ∈ l → z.Slot.Tier = t + (n : Int) + 1 →
    (∃ w ∈ l, w.Slot = ⟨z.Slot.G3, t, z.Slot.Half⟩) ∨ (z.Slot.Half = 0 ∧ (∃ w ∈ l, w.Slot = ⟨z.Slot.G3, t, 1⟩) ∧ ∃ w ∈ l, w.Slot = ⟨z.Slot.G3, t, 2⟩) := by
  intro n
  induction n with
  | zero =>
    intro z hz ht
    obtain ⟨_, _, _, hh⟩ := h.each z hz
    have e : z.Slot.Tier - 1 = t := by omega
    rcases hh with hh | hh | ⟨hz0, h1, h2⟩
    · omega
    · obtain ⟨w, hw, ew⟩ := G1c hh
      rw [e] at ew
      exact .inl ⟨w, hw, ew⟩
    · obtain ⟨w, hw, ew⟩ := G1c h1
      obtain ⟨v, hv, ev⟩ := G1c h2
      rw [e] at ew ev
      exact .inr ⟨hz0, ⟨w, hw, ew⟩, ⟨v, hv, ev⟩⟩
  | succ n ih =>
    intro z hz ht
    obtain ⟨_, _, _, hh⟩ := h.each z hz
    have one : ∀ w ∈ l, ∀ half, w.Slot = ⟨z.Slot.G3, z.Slot.Tier - 1, half⟩ → half ≠ 0 → ∃ v ∈ l, v.Slot = ⟨z.Slot.G3, t, half⟩ := fun w hw half ew hne => by
      have := ih w hw (by rw [ew]; simp only; omega)
      rw [ew] at this
      rcases this with h | ⟨h, _⟩
      · exact h
      · exact (hne h).elim
    rcases hh with hh | hh | ⟨hz0, h1, h2⟩
    · omega
    · obtain ⟨w, hw, ew⟩ := G1c hh
      have := ih w hw (by rw [ew]; simp only; omega)
      rw [ew] at this
      exact this
    · obtain ⟨w, hw, ew⟩ := G1c h1
      obtain ⟨v, hv, ev⟩ := G1c h2
      exact .inr ⟨hz0, one w hw 1 ew (by decide), one v hv 2 ev (by decide)⟩
theorem no_over {s : Gt} {boxes : List Ga} {l q : List Stowed} {x : Stowed} {size : Int} (h : Rw s boxes l) (hslot : G1d s x.Slot size) (hmet : ¬ MetP l x.Slot) (hins : H9a l x q) : G00 q x.Slot = [] := by
  refine List.eq_nil_iff_forall_not_mem.2 fun a ha => ?_
  obtain ⟨z, hz, _, ho⟩ := G74.1 ha
  have hzl : z ∈ l := by
    rcases List.mem_cons.1 ((H8f hins).mem_iff.1 hz) with rfl | hz
    · exact (over_self ho).elim
    · exact hz
  obtain ⟨o1, o2, o3⟩ := ho
  have ht := hslot.tier
  have hhalf : x.Slot.Half = 0 ∨ x.Slot.Half = 1 ∨ x.Slot.Half = 2 := by
    have := hslot.half
    unfold Gd1 at this
    split at this
    · have : x.Slot.Half = 0 := by simpa using this
      exact .inl this
    · split at this
      · have : x.Slot.Half = 1 ∨ x.Slot.Half = 2 := by simpa using this
        exact .inr this
      · cases this
  have meet : ∀ w ∈ l, ∀ half, w.Slot = ⟨z.Slot.G3, x.Slot.Tier, half⟩ → G7d x.Slot.Half half → False := fun w hw half ew hsh => hmet ⟨w, hw, by rw [ew]; exact ⟨o1.symm, rfl, hsh⟩⟩
  rcases chain h ht ((z.Slot.Tier - x.Slot.Tier - 1).toNat) z hzl (by omega) with ⟨w, hw, ew⟩ | ⟨_, ⟨w, hw, ew⟩, ⟨v, hv, ev⟩⟩
  · exact meet w hw _ ew (Hcb o3)
  · rcases hhalf with e | e | e
    · exact meet w hw _ ew (.inr (.inl e))
    · exact meet w hw _ ew (.inl e)
    · exact meet v hv _ ev (.inl e)
theorem shut_of {s : Gt} {o : List Int} {x : Slot} (h : H72 s o x) : H94 s o x := by
  obtain ⟨m, c, h1, h2, h3, h4, h5⟩ := h
  exact ⟨m, c, h1, h2, h4, ⟨fun e => absurd (h3.symm.trans e) Bool.false_ne_true, fun e => (h5 e).elim⟩⟩
theorem not_shut {s : Gt} {boxes : List Ga} {l : List Stowed} {o : List Int} (hU : ∀ k ∈ o, J4a s l k) {x : Stowed} (hx : x ∈ l) (h : ¬ H72 s o x.Slot) : ¬ H94 s o x.Slot := by
  rintro ⟨m, c, h1, h2, h3, h4⟩
  cases hd : c.Deck with
  | false => exact h ⟨m, c, h1, h2, hd, h3, fun hm => by have := h4.2 hm; rw [hd] at this; cases this⟩
  | true => exact hU _ (h4.1 hd) x hx m c h1 h2 hd rfl
theorem size_of {s : Gt} {x : Slot} {size : Int} (h : G1d s x size) : size = 20 ∨ size = 40 := by
  have := h.half
  unfold Gd1 at this
  split at this
  · exact .inr (by assumption)
  · split at this
    · exact .inl (by assumption)
    · cases this
/-- What was taken can be put back. -/
theorem back_spec {F : Nat} {s : Gt} {boxes : List Ga} {pre post : List Stowed} {o : List Int} {x : Stowed} (h : Sta s boxes (pre ++ x :: post)) (hO : G8a s o) (hF : 20 ≤ F) (hU : ∀ k ∈ o, J4a s (pre ++ x :: post) k) (ho : G00 (pre ++ x :: post) x.Slot = []) (hn : ¬ H72 s o x.Slot) :
    Sta s boxes (pre ++ post) ∧ Z1 F s boxes (pre ++ post) o x = some (pre ++ x :: post, 0) := by
  have hx : x ∈ pre ++ x :: post := by simp
  have hr := right_less h.right ho
  have hl := h.len
  have hS : Sta s boxes (pre ++ post) := ⟨h.ship, hr, by simp only [List.length_append, List.length_cons] at hl ⊢; omega⟩
  refine ⟨hS, G17 ?_⟩
  obtain ⟨b, hb, hslot, hheld⟩ := h.right.each x hx
  obtain ⟨s1, s2, s3⟩ := List.pairwise_append.1 h.right.sorted
  obtain ⟨a1, a2, a3⟩ := List.pairwise_append.1 h.right.apart
  have hnx : x.Ga ∉ (pre ++ post).map (·.Ga) := fun hm => by
    obtain ⟨y, hy, e⟩ := List.mem_map.1 hm
    rcases List.mem_append.1 hy with hy | hy
    · have := s3 y hy x (List.mem_cons_self ..); omega
    · have := (List.pairwise_cons.1 s2).1 y hy; omega
  refine wp_mono (put_spec hS hO hF hb (size_of hslot) hnx) (fun r hr => ?_)
  rcases hr with ⟨g, _⟩ | ⟨_, ⟨g, _⟩ | ⟨_, ⟨g, _⟩ | ⟨_, ⟨g, _⟩ | ⟨_, q, hins, ⟨g, _⟩ | ⟨_, e⟩⟩⟩⟩⟩
  · exact (g hslot).elim
  · exact (not_shut (boxes := boxes) hU hx hn g).elim
  · obtain ⟨y, hy, hm⟩ := g
    rcases List.mem_append.1 hy with hy | hy
    · exact (a3 y hy x (List.mem_cons_self ..) hm).elim
    · exact ((List.pairwise_cons.1 a2).1 y hy (meet_symm hm)).elim
  · exact (g (held_less over_self hheld)).elim
  · have hq := ins_eq (l := pre ++ post) hins h.right.sorted
    subst hq
    exact (g (fun m c _ hc => h.right.fits m c hc)).elim
  · have hq := ins_eq (l := pre ++ post) hins h.right.sorted
    subst hq
    exact e
theorem H81 (l : List Stowed) : Q9 l l = some true := by
  refine G17 ?_
  unfold Q9
  refine He (fun h => ((of_decide_eq_true h) rfl).elim) (fun _ => ?_)
  refine Qh (fun _ _ => True) trivial (fun pre y post u nx e _ hnx => ?_) (fun u _ => Gk rfl)
  refine Rs (x := y) rfl (by rw [e]; simp) (He (fun h => ?_) (fun _ => hnx _ trivial))
  rw [decide_eq_true (rfl : y = y)] at h
  cases h
theorem no3 (l : List Gg) : Yd (G37 l) 3 = none := by
  unfold Yd
  refine List.find?_eq_none.2 fun b hb => ?_
  unfold G37 at hb
  obtain ⟨p, _, rfl⟩ := List.mem_map.1 hb
  have : (boxOf p).ID ≠ 3 := by
    show 5 * ((p.2 + 1 : Nat) : Int) ≠ 3
    omega
  simp [this]
end Go.Proofs.YtbljcmgjmieffaaGreat
