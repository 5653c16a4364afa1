/-
  The reasons of chapter 23's law: what it asks, in plain words; that the least closed set has them, and no other box.
-/
import Derived.Test.YtbpgdkibmejibaaNeedA
import Derived.Test.YtbpgdkibmejibaaXE
set_option maxRecDepth 100000
namespace Go.Proofs.Ytbpgdkibmejibaa
open Go.RowKit

theorem pairwise_inj {α : Type} {f : α → Int} {l : List α} (h : l.Pairwise (fun a b => f a < f b)) {a b : α} (ha : a ∈ l) (hb : b ∈ l) (e : f a = f b) : a = b := by
  obtain ⟨i, hi, rfl⟩ := List.mem_iff_getElem.1 ha
  obtain ⟨j, hj, rfl⟩ := List.mem_iff_getElem.1 hb
  have hp := List.pairwise_iff_getElem.1 h
  rcases Nat.lt_trichotomy i j with h1 | h1 | h1
  · have := hp i j hi hj h1; omega
  · subst h1; rfl
  · have := hp j i hj hi h1; omega
theorem findP_of {l : List Stowed} (hs : l.Pairwise (fun a b => a.Box < b.Box)) {y : Stowed} (hy : y ∈ l) : findP l y.Box = (y.Slot, true) := by
  have h1 : (findP l y.Box).2 = true := findP_true.2 (List.mem_map.2 ⟨y, hy, rfl⟩)
  obtain ⟨x, hx, e, h2⟩ := findP_mem h1
  have : x = y := pairwise_inj (f := fun z : Stowed => z.Box) hs hx hy e
  subst this
  exact Prod.ext h2 h1

theorem reason_find (l : List Stowed) (id : Int) : M_twistlocklaw23_reason_1 l id = some (findP l id) := by
  refine wp_eq ?_
  unfold M_twistlocklaw23_reason_1
  refine wp_each (fun pre _ => ∀ y ∈ pre, ¬ y.Box = id) (fun y h => (List.not_mem_nil h).elim) (fun pre y post u nx e hI hnx => wp_bif (fun h => wp_some ?_) (fun h => hnx _ (mem_snoc (P := fun y : Stowed => ¬ y.Box = id) hI (of_decide_eq_false h)))) (fun u hI => wp_some ?_)
  · unfold findP findSt
    have hn : pre.find? (fun x => decide (x.Box = id)) = none := List.find?_eq_none.2 (fun x hx => by rw [decide_eq_false (hI x hx)]; exact Bool.false_ne_true)
    rw [e, List.find?_append, hn, List.find?_cons_of_pos (by exact h)]
    rfl
  · unfold findP findSt
    rw [List.find?_eq_none.2 (fun x hx => by rw [decide_eq_false (hI x hx)]; exact Bool.false_ne_true)]
theorem law23_has (l : List Int) (n : Int) : M_twistlocklaw23_has l n = some (l.any (fun x => decide (x = n))) := by
  refine wp_eq ?_
  unfold M_twistlocklaw23_has
  refine wp_each (fun pre _ => ∀ y ∈ pre, ¬ y = n) (fun y h => (List.not_mem_nil h).elim) (fun pre y post u nx e hI hnx => wp_bif (fun h => wp_some ?_) (fun h => hnx _ (mem_snoc (P := fun y : Int => ¬ y = n) hI (of_decide_eq_false h)))) (fun u hI => wp_some ?_)
  · exact (List.any_eq_true.2 ⟨y, by rw [e]; simp, h⟩).symm
  · exact (List.any_eq_false.2 (fun x hx => by rw [decide_eq_false (hI x hx)]; exact Bool.false_ne_true)).symm

/-- z stands under a cover that x stands upon. -/
def shade (s : Ship) (z x : Slot) : Prop := ∃ (m : Nat) (c : Column) (m1 : Nat) (d : Column), z.Column = (m : Int) ∧ s.Columns[m]? = some c ∧ x.Column = (m1 : Int) ∧ s.Columns[m1]? = some d ∧ c.Deck = false ∧ d.Deck = true ∧ ∃ k ∈ s.Covers, covB k c = true ∧ covB k d = true
def Hit (s : Ship) (set : List Int) (id : Int) (x : Slot) (z : Stowed) : Prop := z.Box ≠ id ∧ z.Box ∈ set ∧ (OverP x z.Slot ∨ shade s z.Slot x)
def Reason (s : Ship) (before after : List Stowed) (set : List Int) (id : Int) : Prop :=
  findP before id ≠ findP after id ∨ ∃ st ∈ [before, after], ∃ z ∈ st, Hit s set id (findP before id).1 z

theorem cov_calc {β : Type} (nx : Bool → Option β) : ∀ s b1 b2 a1 a2 : Bool, (bnd (bif ((!s) && (b1 && b2)) then some a1 else some default) fun r53 => bnd (bif ((!s) && ((b1 && b2) && r53)) then some a2 else some default) fun r54 => nx (s || (((b1 && b2) && r53) && r54))) = nx (s || ((b1 && a1) && (b2 && a2))) := by
  intro s b1 b2 a1 a2
  cases s <;> cases b1 <;> cases b2 <;> cases a1 <;> cases a2 <;> rfl

theorem reason_spec {s : Ship} {before after : List Stowed} {set : List Int} {id : Int} (hcol : ∀ st ∈ [before, after], ∀ z ∈ st, ColIn s z.Slot) (hx : ColIn s (findP before id).1) :
    Wp (M_twistlocklaw23_reason s before after set id) (fun r => r = true ↔ Reason s before after set id) := by
  unfold M_twistlocklaw23_reason
  refine wp_bnd_eq (reason_find before id) (wp_bnd_eq (reason_find after id) (wp_bif (fun h => wp_some ⟨fun _ => .inl (differ.1 h), fun _ => rfl⟩) (fun h => ?_)))
  have heq : ¬ findP before id ≠ findP after id := fun hne => by rw [differ.2 hne] at h; cases h
  obtain ⟨m1, d, hm1, hd⟩ := hx
  refine wp_each (fun pre _ => ∀ st ∈ pre, ∀ z ∈ st, ¬ Hit s set id (findP before id).1 z) (fun st h => (List.not_mem_nil h).elim) (fun pre st post u nx e hI hnx => ?_) (fun u hI => wp_some ⟨fun e => (by cases e), fun hr => ?_⟩)
  · have hst : st ∈ [before, after] := by rw [e]; simp
    refine wp_each (fun pre _ => ∀ z ∈ pre, ¬ Hit s set id (findP before id).1 z) (fun z h => (List.not_mem_nil h).elim) (fun pre z post u nx2 e hJ hnx2 => ?_) (fun u hJ => hnx _ (mem_snoc hI hJ))
    have hz : z ∈ st := by rw [e]; simp
    refine wp_jp (fun _ => ¬ Hit s set id (findP before id).1 z) (fun K hK => ?_) (fun j hj => hnx2 _ (mem_snoc hJ hj))
    by_cases hid : z.Box = id
    · rw [decide_eq_true hid]
      exact wp_bnd (wp_some (hK _ (fun h => h.1 hid)))
    rw [decide_eq_false hid, law23_has]
    simp only [Bool.not_false, cond_true, Bool.false_or]
    refine wp_bnd (wp_some (wp_bif (fun hh => hK _ (fun h => ?_)) (fun hh => ?_)))
    · have : set.any (fun x => decide (x = z.Box)) = true := List.any_eq_true.2 ⟨z.Box, h.2.1, decide_eq_true rfl⟩
      rw [this] at hh; cases hh
    have hin : z.Box ∈ set := by
      have : set.any (fun x => decide (x = z.Box)) = true := by simpa using hh
      obtain ⟨y, hy, he⟩ := List.any_eq_true.1 this
      exact of_decide_eq_true he ▸ hy
    obtain ⟨m, c, hm, hc⟩ := hcol st hst z hz
    refine wp_gidx hm hc (wp_gidx hm1 hd ?_)
    refine wp_each (fun pre s48 => s48 = pre.any (fun k => covB k c && covB k d)) rfl (fun pre k post s48 nx3 e hJ hnx3 => ?_) (fun s48 hJ => ?_)
    · rw [law23_has, law23_has]
      rw [cov_calc]
      refine hnx3 _ ?_
      rw [hJ, List.any_append]
      simp only [List.any_cons, List.any_nil, Bool.or_false]
      rfl
    · refine wp_bnd (wp_mono (slot_over _ _) (fun r56 h56 => wp_bif (fun hh => wp_some ⟨fun _ => .inr ⟨st, hst, z, hz, hid, hin, ?_⟩, fun _ => rfl⟩) (fun hh => hK _ (fun hit => ?_))))
      · simp only [Bool.or_eq_true, Bool.and_eq_true, Bool.not_eq_true'] at hh
        rcases hh with hh | ⟨⟨h1, h2⟩, h3⟩
        · exact .inl (h56.1 hh)
        · rw [hJ] at h1
          obtain ⟨k, hk, hb⟩ := List.any_eq_true.1 h1
          exact .inr ⟨m, c, m1, d, hm, hc, hm1, hd, h2, h3, k, hk, (Bool.and_eq_true _ _ ▸ hb).1, (Bool.and_eq_true _ _ ▸ hb).2⟩
      · simp only [Bool.or_eq_false_iff] at hh
        rcases hit.2.2 with ho | ⟨n, c', n1, d', e1, e2, e3, e4, q1, q2, k, hk, q3, q4⟩
        · rw [h56.2 ho] at hh; cases hh.1
        · have e5 : n = m := by omega
          have e6 : n1 = m1 := by omega
          subst e5 e6
          rw [hc] at e2; cases e2
          rw [hd] at e4; cases e4
          have : s48 = true := hJ ▸ List.any_eq_true.2 ⟨k, hk, by rw [q3, q4]; rfl⟩
          rw [this, q1, q2] at hh
          cases hh.2
  · rcases hr with hr | ⟨st, hst, z, hz, hit⟩
    · exact (heq hr).elim
    · exact (hI st hst z hz hit).elim

theorem cov_key {k1 k2 : Cover} {c : Column} (h1 : CovOk k1) (h2 : CovOk k2) (e1 : covB k1 c = true) (e2 : covB k2 c = true) : xkey k1 = xkey k2 := by
  unfold covB at e1 e2
  simp only [Bool.and_eq_true, decide_eq_true_eq, List.any_eq_true] at e1 e2
  obtain ⟨b1, r1, m1, q1⟩ := e1
  obtain ⟨b2, r2, m2, q2⟩ := e2
  subst q1
  unfold xkey
  rcases h1.rows with w1 | w1 <;> rcases h2.rows with w2 | w2 <;> rw [w1] at m1 ⊢ <;> rw [w2] at m2 ⊢ <;> simp at m1 m2 <;> first | (simp; omega) | (exfalso; omega)
theorem cover_same {s : Ship} (hb : BuiltOk s) {c d : Column} {k : Cover} (hk : k ∈ s.Covers) (h1 : covB k c = true) (h2 : covB k d = true) : 0 ≤ coverOf s c ∧ coverOf s d = coverOf s c := by
  unfold coverOf
  rcases idxI_cases (fun x => covB x c) s.Covers with ⟨_, h, _⟩ | ⟨i, k1, e1, l1, q1, _⟩
  · rw [h k hk] at h1; cases h1
  rcases idxI_cases (fun x => covB x d) s.Covers with ⟨_, h, _⟩ | ⟨j, k2, e2, l2, q2, _⟩
  · rw [h k hk] at h2; cases h2
  have a1 := cov_key (hb.covs.each k1 (List.mem_of_getElem? l1)) (hb.covs.each k hk) q1 h1
  have a2 := cov_key (hb.covs.each k2 (List.mem_of_getElem? l2)) (hb.covs.each k hk) q2 h2
  have hi := (List.getElem?_eq_some_iff.1 l1).1
  have : i = j := (List.getElem?_inj (by rw [List.length_map]; exact hi) hb.covs.nodup).1 (by rw [List.getElem?_map, List.getElem?_map, l1, l2, Option.map_some, Option.map_some, a1, a2])
  subst this
  rw [e1, e2]
  exact ⟨by omega, rfl⟩
theorem cover_of {s : Ship} {c d : Column} (h0 : 0 ≤ coverOf s c) (h : coverOf s d = coverOf s c) : ∃ k ∈ s.Covers, covB k c = true ∧ covB k d = true := by
  unfold coverOf at h0 h
  rcases idxI_cases (fun x => covB x c) s.Covers with ⟨e, _, _⟩ | ⟨i, k1, e1, l1, q1, _⟩
  · omega
  rcases idxI_cases (fun x => covB x d) s.Covers with ⟨e, _, _⟩ | ⟨j, k2, e2, l2, q2, _⟩
  · omega
  have : i = j := by omega
  subst this
  rw [l1] at l2; cases l2
  exact ⟨k1, List.mem_of_getElem? l1, q1, q2⟩

section
variable {s : Ship} {boxes : List Box} {before after : List Stowed} {r : List Int}
theorem sorted_of (h1 : RightP s boxes before) (h2 : RightP s boxes after) : ∀ st ∈ [before, after], st.Pairwise (fun a b => a.Box < b.Box) := fun st hst => by
  simp only [List.mem_cons, List.not_mem_nil, or_false] at hst
  rcases hst with rfl | rfl
  · exact h1.sorted
  · exact h2.sorted
theorem find_in {id : Int} (e : findP before id = findP after id) : ∀ st ∈ [before, after], findP st id = findP before id := fun st hst => by
  simp only [List.mem_cons, List.not_mem_nil, or_false] at hst
  rcases hst with rfl | rfl
  · rfl
  · exact e.symm
theorem reasons (h1 : RightP s boxes before) (h2 : RightP s boxes after) (hL : Least s before after r) : ∀ a ∈ r, Reason s before after r a := by
  have hso := sorted_of h1 h2
  have key : ∀ a ∈ r, a ∈ r ∧ Reason s before after r a := by
    refine hL.least (fun a => a ∈ r ∧ Reason s before after r a) (fun a b ha hp => ⟨hL.closed a ha.1 b hp, ?_⟩) (fun st hst y hy hne => ⟨hL.seeds st hst y hy hne, .inl hne⟩)
    by_cases hd : findP before b = findP after b
    · obtain ⟨st, hst, hft, H⟩ := hp
      obtain ⟨z, hz, rfl, hzs⟩ := findP_mem hft
      have hfz := findP_of (hso st hst) hz
      rw [hzs] at H
      rcases H with ⟨y, hy, rfl, ho⟩ | ⟨st2, hst2, y, hy, rfl, hu⟩
      · have hfy := findP_of (hso st hst) hy
        have hxe := find_in hd st hst
        rw [hfy] at hxe
        refine .inr ⟨st, hst, z, hz, fun e => ?_, ha.1, .inl ?_⟩
        · have : z = y := pairwise_inj (f := fun z : Stowed => z.Box) (hso st hst) hz hy e
          subst this
          exact absurd ho.2.1 (by omega)
        · rw [← hxe]; exact ho
      · have hfy := findP_of (hso st2 hst2) hy
        have hxe := find_in hd st2 hst2
        rw [hfy] at hxe
        obtain ⟨m, c, m1, c1, e1, e2, e3, e4, q1, q2, q3, q4⟩ := hu
        refine .inr ⟨st, hst, z, hz, fun e => ?_, ha.1, .inr ?_⟩
        · have hze := find_in hd st hst
          rw [← e, hfz, e, ← hxe] at hze
          have : z.Slot = y.Slot := congrArg Prod.fst hze
          rw [this] at e1
          have : m = m1 := by omega
          subst this
          rw [e2] at e4; cases e4
          rw [q1] at q2; cases q2
        · rw [← hxe]
          exact ⟨m, c, m1, c1, e1, e2, e3, e4, q1, q2, cover_of q3 q4⟩
    · exact .inl hd
  exact fun a ha => (key a ha).2
theorem no_reason (hb : BuiltOk s) (h1 : RightP s boxes before) (h2 : RightP s boxes after) (hL : Least s before after r) {a : Int} (ha : a ∉ r) (hon : a ∈ before.map (·.Box) ∨ a ∈ after.map (·.Box)) : ¬ Reason s before after r a := by
  have hso := sorted_of h1 h2
  have hd : findP before a = findP after a := Classical.byContradiction fun hne => by
    rcases hon with h | h
    · obtain ⟨y, hy, rfl⟩ := List.mem_map.1 h
      exact ha (hL.seeds before (by simp) y hy hne)
    · obtain ⟨y, hy, rfl⟩ := List.mem_map.1 h
      exact ha (hL.seeds after (by simp) y hy hne)
  have hft : (findP before a).2 = true := by
    rcases hon with h | h
    · exact findP_true.2 h
    · rw [hd]; exact findP_true.2 h
  rintro (h | ⟨st, hst, z, hz, _, hin, H⟩)
  · exact h hd
  have hxe := find_in hd st hst
  obtain ⟨y, hy, hya, hys⟩ := findP_mem (l := st) (id := a) (by rw [hxe]; exact hft)
  rw [hxe] at hys
  rw [hys] at H
  have hfz := findP_of (hso st hst) hz
  refine ha (hL.closed z.Box hin a ⟨st, hst, by rw [hfz], ?_⟩)
  rw [hfz]
  rcases H with ho | ⟨m, c, m1, d, e1, e2, e3, e4, q1, q2, k, hk, q3, q4⟩
  · exact .inl ⟨y, hy, hya, ho⟩
  · obtain ⟨g1, g2⟩ := cover_same hb hk q3 q4
    exact .inr ⟨st, hst, y, hy, hya, m, c, m1, d, e1, e2, e3, e4, q1, q2, g1, g2⟩
end
end Go.Proofs.Ytbpgdkibmejibaa
