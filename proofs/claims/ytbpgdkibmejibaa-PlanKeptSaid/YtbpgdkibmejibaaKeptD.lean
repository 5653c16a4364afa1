/-
  Voyages: the plans that twistlocklaw23.Voyage makes are right.
-/
import Derived.Test.YtbpgdkibmejibaaKeptC
set_option maxRecDepth 100000
namespace Go.Proofs.Ytbpgdkibmejibaa
open Go.RowKit

theorem eq_of_sorted {a b : List Int} (ha : a.Pairwise (· < ·)) (hb : b.Pairwise (· < ·)) (h : ∀ x, x ∈ a ↔ x ∈ b) : a = b :=
  List.Perm.eq_of_pairwise (le := fun x y : Int => x < y) (fun x y _ _ h1 h2 => by omega) ha hb ((List.perm_ext_iff_of_nodup (sorted_nodup ha) (sorted_nodup hb)).2 h)

theorem slots_spec {s : Ship} (hs : Small s) (size : Int) : Wp (S_slot_slots_1 s size) (fun r => r.length ≤ 200 * s.Columns.length ∧ ∀ x ∈ r, SlotOk s x size) := by
  unfold S_slot_slots_1
  have hhl : (halvesL size).length ≤ 2 := by
    unfold halvesL
    split
    · simp
    · split <;> simp
  refine wp_each (fun pre r => r.length ≤ 200 * pre.length ∧ ∀ x ∈ r, SlotOk s x size) ⟨by simp, fun x hx => (List.not_mem_nil hx).elim⟩ (fun pre c post r nx e hI hnx => ?_) (fun r hI => wp_some hI)
  obtain ⟨h1, h2⟩ := hI
  have hc : s.Columns[pre.length]? = some c := by rw [e]; simp
  have ht := hs.tiers c (List.mem_of_getElem? hc)
  refine wp_need (decide_eq_true (by omega)) ?_
  have htn : (max c.Tiers 0).toNat ≤ 100 := by omega
  refine wp_upto (fun i r' => r'.length ≤ r.length + 2 * i ∧ ∀ x ∈ r', SlotOk s x size) ⟨by simp, h2⟩ (fun i r' nx2 hi hI hnx2 => ?_) (fun r' hI => hnx _ ⟨?_, hI.2⟩)
  · refine wp_bnd_eq (slot_halves size) ?_
    refine wp_each (fun pr r2 => r2.length = r'.length + pr.length ∧ ∀ x ∈ r2, SlotOk s x size) ⟨by simp, hI.2⟩ (fun pr h post2 r2 nx3 e2 hI2 hnx3 => hnx3 _ ⟨?_, fun x hx => ?_⟩) (fun r2 hI2 => hnx2 _ ⟨by have := hI.1; have := hI2.1; omega, hI2.2⟩)
    · simp only [List.length_append, List.length_singleton]; have := hI2.1; omega
    · rcases List.mem_append.1 hx with hx | hx
      · exact hI2.2 x hx
      · rw [List.mem_singleton] at hx; subst hx
        exact ⟨⟨pre.length, c, rfl, hc, by show (i : Int) < c.Tiers; omega⟩, by show (0 : Int) ≤ i; omega, by show h ∈ halvesL size; rw [e2]; simp⟩
  · have := hI.1
    simp only [List.length_append, List.length_singleton]; omega
theorem slot_all {s : Ship} (hs : Small s) (size : Int) : Wp (M_slot_All s size) (fun r => r.length ≤ 200 * s.Columns.length ∧ ∀ x ∈ r, SlotOk s x size) := by
  unfold M_slot_All
  refine wp_bnd_eq (show M_slot_slots s size = some () from rfl) ?_
  refine wp_bnd (wp_mono (slots_spec hs size) (fun ys hys => ?_))
  have hc := hs.cols
  refine wp_each (fun pre r => r = pre) rfl (fun pre y post r nx e hI hnx => ?_) (fun r hI => by subst hI; exact wp_some hys)
  subst hI
  have hl : r.length < ys.length := by rw [e]; simp
  exact wp_need (room_ok (by rw [List.length_singleton]; have := hys.1; omega) (by omega)) (hnx _ rfl)

/-- A state in the making, behind a call. -/
structure VInv (s : Ship) (boxes : List Box) (k : Int) (l : List Stowed) : Prop where
  right : RightP s boxes l
  mem : ∀ x ∈ l, ∃ b ∈ boxes, b.ID = x.Box ∧ abB k b = true
theorem VInv.nil {s : Ship} {boxes : List Box} {k : Int} : VInv s boxes k [] := ⟨rightP_nil, fun x hx => (List.not_mem_nil hx).elim⟩
theorem VInv.len {s : Ship} {boxes : List Box} {k : Int} {l : List Stowed} (h : VInv s boxes k l) : l.length ≤ boxes.length := by
  have h1 : (l.map (·.Box)).Pairwise (· < ·) := List.pairwise_map.2 h.right.sorted
  have := (sorted_nodup h1).length_le_of_subset (l₂ := boxes.map (·.ID)) (fun a ha => by
    obtain ⟨x, hx, rfl⟩ := List.mem_map.1 ha
    obtain ⟨b, hb, e, _⟩ := h.mem x hx
    exact List.mem_map.2 ⟨b, hb, e⟩)
  rw [List.length_map, List.length_map] at this
  exact this
theorem try_spec {s : Ship} {boxes : List Box} {calls k : Int} {l : List Stowed} {b : Box} (x : Slot) (hs : Small s) (hb : BoxesOk calls boxes) (h : VInv s boxes k l) (hbm : b ∈ boxes) (hab : abB k b = true) :
    Wp (M_stow_Right s boxes (insSt l ⟨b.ID, x⟩)) (fun v => v = true → VInv s boxes k (insSt l ⟨b.ID, x⟩) ∧ b.ID ∈ (insSt l ⟨b.ID, x⟩).map (·.Box) ∧ ∀ a ∈ l.map (·.Box), a ∈ (insSt l ⟨b.ID, x⟩).map (·.Box)) := by
  have hl := h.len
  have hbl := hb.len
  have hil := insSt_length l ⟨b.ID, x⟩
  refine wp_mono (stow_right hs.right hs.tier (by omega)) (fun v hv e => ⟨⟨hv.1 e, fun y hy => ?_⟩, List.mem_map.2 ⟨_, insSt_mem.2 (.inl rfl), rfl⟩, fun a ha => ?_⟩)
  · rcases insSt_mem.1 hy with rfl | ⟨hy, _⟩
    · exact ⟨b, hbm, rfl, hab⟩
    · exact h.mem y hy
  · obtain ⟨y, hy, rfl⟩ := List.mem_map.1 ha
    by_cases hyb : y.Box = b.ID
    · exact List.mem_map.2 ⟨_, insSt_mem.2 (.inl rfl), hyb.symm⟩
    · exact List.mem_map.2 ⟨y, insSt_mem.2 (.inr ⟨hy, hyb⟩), rfl⟩
theorem VInv.done {s : Ship} {boxes : List Box} {calls k : Int} {l : List Stowed} (hb : BoxesOk calls boxes) (h : VInv s boxes k l) (hall : ∀ b ∈ boxes, abB k b = true → b.ID ∈ l.map (·.Box)) : StateOk s boxes k l := by
  refine ⟨h.right, eq_of_sorted (List.pairwise_map.2 h.right.sorted) (List.pairwise_map.2 (hb.sorted.filter _)) (fun a => ?_)⟩
  unfold aboardL
  constructor
  · intro ha
    obtain ⟨x, hx, rfl⟩ := List.mem_map.1 ha
    obtain ⟨b, hb1, e, hab⟩ := h.mem x hx
    exact List.mem_map.2 ⟨b, List.mem_filter.2 ⟨hb1, hab⟩, e⟩
  · intro ha
    obtain ⟨b, hb1, rfl⟩ := List.mem_map.1 ha
    obtain ⟨hb2, hab⟩ := List.mem_filter.1 hb1
    exact hall b hb2 hab

theorem voyage_spec {s : Ship} {boxes : List Box} {home : AMap Int Int} {calls : Int} {F : Nat} (hs : Small s) (hb : BoxesOk calls boxes) (hh : ∀ a, 0 ≤ AMap.get home a 0 ∧ AMap.get home a 0 ≤ 1000) (hF : 60 ≤ F) :
    Wp (M_twistlocklaw23_voyage F s boxes home calls) (fun r => r.2.2 = home ∧ (r.2.1 = 0 → PlanOk s boxes calls r.1)) := by
  unfold M_twistlocklaw23_voyage
  have hnum := hb.num
  have hbl := hb.len
  have hcols := hs.cols
  refine wp_need (decide_eq_true (by omega)) ?_
  refine wp_upto (fun i s6 => s6.1.length = i ∧ ∀ (k : Nat) l, s6.1[k]? = some l → StateOk s boxes k l) ⟨rfl, fun k l h => by simp at h⟩ (fun i s6 nx hi hI hnx => ?_) (fun s6 hI => wp_some ⟨rfl, fun _ => ⟨by show (s6.1.length : Int) = calls; have := hI.1; omega, hI.2⟩⟩)
  refine wp_need (by decide) ?_
  refine wp_upto (fun _ l => VInv s boxes i l) VInv.nil (fun t l nx2 ht hl hnx2 => ?_) (fun l hl => ?_)
  · refine wp_each (fun _ l => VInv s boxes i l) hl (fun pre y post l nx3 e hl hnx3 => ?_) (fun l hl => hnx2 _ hl)
    have hy : y ∈ boxes := by rw [e]; simp
    refine wp_jp (fun j => VInv s boxes i j) (fun K hK => ?_) (fun j hj => hnx3 _ hj)
    refine wp_bnd_eq rfl (wp_bif (fun hc => ?_) (fun _ => hK _ hl))
    have hab : abB i y = true := by
      simp only [Bool.and_eq_true, decide_eq_true_eq] at hc
      unfold abB
      rw [decide_eq_true (by omega), decide_eq_true hc.2]; rfl
    have hll := hl.len
    exact wp_bnd_eq (law23_with l _ (by omega)) (wp_bnd (wp_mono (try_spec _ hs hb hl hy hab) (fun r53 h53 => wp_bif (fun h => hK _ (h53 h).1) (fun _ => hK _ hl))))
  · refine wp_each (fun pre l => VInv s boxes i l ∧ ∀ b ∈ pre, abB i b = true → b.ID ∈ l.map (·.Box)) ⟨hl, fun b hb => (List.not_mem_nil hb).elim⟩ (fun pre y post l nx3 e hI3 hnx3 => ?_) (fun l hI3 => ?_)
    · obtain ⟨hl, hpre⟩ := hI3
      have hy : y ∈ boxes := by rw [e]; simp
      have hll := hl.len
      refine wp_jp (fun j => VInv s boxes i j ∧ ∀ b ∈ pre ++ [y], abB i b = true → b.ID ∈ j.map (·.Box)) (fun K hK => ?_) (fun j hj => hnx3 _ hj)
      by_cases hab : abB i y = true
      · have hab' := hab
        unfold abB at hab'
        simp only [Bool.and_eq_true, decide_eq_true_eq] at hab'
        rw [decide_eq_false (show ¬ (i : Int) < y.Load by omega), decide_eq_false (show ¬ y.Discharge ≤ (i : Int) by omega)]
        simp only [Bool.or_self, Bool.not_false, cond_true, Bool.false_or]
        refine wp_bnd_eq (law23_holds l y.ID) (wp_bif (fun h => hK _ ⟨hl, fun b hb1 hb2 => ?_⟩) (fun h => ?_))
        · rcases List.mem_append.1 hb1 with hb1 | hb1
          · exact hpre b hb1 hb2
          · rw [List.mem_singleton] at hb1; subst hb1
            exact holdsB_iff.1 h
        · refine wp_loop (fun st : List Stowed × Bool × Int => VInv s boxes i st.1 ∧ (∀ a ∈ l.map (·.Box), a ∈ st.1.map (·.Box)) ∧ (st.2.1 = true → y.ID ∈ st.1.map (·.Box)) ∧ 0 ≤ st.2.2 ∧ st.2.2 ≤ (s.Columns.length : Int)) (fun st => s.Columns.length + 1 - st.2.2.toNat)
            ⟨hl, fun a ha => ha, fun h => (by cases h), Int.le_refl _, by simp⟩ (by show s.Columns.length + 1 - 0 < F; omega) (fun st nx4 hst hnx4 => ?_)
          obtain ⟨l1, done, turn⟩ := st
          obtain ⟨i1, i2, i3, i4, i5⟩ := hst
          simp only at i1 i2 i3 i4 i5 ⊢
          refine wp_bif (fun hc => ?_) (fun hc => ?_)
          · simp only [Bool.and_eq_true, decide_eq_true_eq, Bool.not_eq_true'] at hc
            obtain ⟨c1, rfl⟩ := hc
            refine wp_jp (fun j => VInv s boxes i j.1 ∧ (∀ a ∈ l.map (·.Box), a ∈ j.1.map (·.Box)) ∧ (j.2 = true → y.ID ∈ j.1.map (·.Box))) (fun K' hK' => ?_) (fun j hj => ?_)
            · refine wp_bnd (wp_mono (slot_all hs y.Size) (fun r72 _ => ?_))
              refine wp_each (fun _ s99 => s99 = (l1, false)) rfl (fun pre2 x post2 s99 nx5 e2 hI5 hnx5 => ?_) (fun s99 hI5 => by subst hI5; exact hK' _ ⟨i1, i2, fun h => by cases h⟩)
              subst hI5
              have hl1 := i1.len
              refine wp_bnd_eq (law23_with l1 _ (by omega)) (wp_bnd_eq rfl ?_)
              have hg := hh y.ID
              refine wp_chk ⟨by omega, by omega⟩ (wp_bnd (wp_rem (by omega) ?_))
              by_cases hcol : x.Column = (AMap.get home y.ID 0 + turn).tmod (s.Columns.length : Int)
              · rw [decide_eq_true hcol]
                simp only [cond_true, Bool.true_and]
                refine wp_bnd (wp_mono (try_spec x hs hb i1 hy hab) (fun r110 h110 => wp_bif (fun h => ?_) (fun _ => hnx5 _ rfl)))
                obtain ⟨g1, g2, g3⟩ := h110 h
                exact hK' _ ⟨g1, fun a ha => g3 a (i2 a ha), fun _ => g2⟩
              · rw [decide_eq_false hcol]
                simp only [cond_false, Bool.false_and]
                exact wp_bnd (wp_some (hnx5 _ rfl))
            · obtain ⟨j1, j2, j3⟩ := hj
              refine wp_chk ⟨by omega, by omega⟩ (hnx4 _ ⟨j1, j2, j3, by show 0 ≤ turn + 1; omega, by show turn + 1 ≤ s.Columns.length; omega⟩ ?_)
              show s.Columns.length + 1 - (turn + 1).toNat < s.Columns.length + 1 - turn.toNat
              omega
          · refine wp_bif (fun hd => wp_some ⟨rfl, fun h0 => ?_⟩) (fun hd => hK _ ⟨i1, fun b hb1 hb2 => ?_⟩)
            · have := (hb.each y hy).id
              have h0' : y.ID = 0 := h0
              omega
            · rcases List.mem_append.1 hb1 with hb1 | hb1
              · exact i2 _ (hpre b hb1 hb2)
              · rw [List.mem_singleton] at hb1; subst hb1
                exact i3 (by simpa using hd)
      · have hK2 : VInv s boxes i l ∧ ∀ b ∈ pre ++ [y], abB i b = true → b.ID ∈ l.map (·.Box) := ⟨hl, fun b hb1 hb2 => by
          rcases List.mem_append.1 hb1 with hb1 | hb1
          · exact hpre b hb1 hb2
          · rw [List.mem_singleton] at hb1; subst hb1; exact (hab hb2).elim⟩
        have hor : ((decide ((i : Int) < y.Load)) || (decide (y.Discharge ≤ (i : Int)))) = true := by
          unfold abB at hab
          simp only [Bool.and_eq_true, decide_eq_true_eq] at hab
          simp only [Bool.or_eq_true, decide_eq_true_eq]
          omega
        rw [hor]
        simp only [Bool.not_true, cond_false, Bool.true_or, cond_true]
        exact wp_bnd (wp_some (hK _ hK2))
    · obtain ⟨hl, hall⟩ := hI3
      have hst := hl.done hb hall
      refine wp_each (fun _ _ => True) trivial (fun pre y post m nx4 e _ hnx4 => hnx4 _ trivial) (fun m _ => ?_)
      have hi' : i < 20 := by omega
      refine wp_need (room_ok (by rw [List.length_singleton]; have := hI.1; omega) (by omega)) (hnx _ ⟨by simp [hI.1], fun k l' hk => ?_⟩)
      rw [List.getElem?_append] at hk
      split at hk
      · exact hI.2 k l' hk
      · rename_i hkl
        have hk0 : k - s6.1.length = 0 := by
          have := (List.getElem?_eq_some_iff.1 hk).1
          simp only [List.length_singleton] at this; omega
        rw [hk0] at hk
        simp only [List.getElem?_cons_zero, Option.some.injEq] at hk
        subst hk
        have : k = i := by have := hI.1; omega
        subst this
        exact hst

structure ItemOk (x : law23_Item) : Prop where
  column : Byte x.Column
  kilos : Byte x.Kilos
  load : Byte x.Load
  stay : Byte x.Stay
theorem Voyage_spec {s : Ship} {items : List law23_Item} {calls : Int} {F : Nat} (hs : Small s) (hi : ∀ x ∈ items, ItemOk x) (hc : 2 ≤ calls ∧ calls ≤ 6) (hF : 60 ≤ F) :
    Wp (M_twistlocklaw23_Voyage F s items calls 8) (fun r => BoxesOk calls r.1 ∧ PlanOk s r.1 calls r.2) := by
  unfold M_twistlocklaw23_Voyage
  have hcols := hs.cols
  refine wp_bnd (wp_natIn (m := min items.length 8) (by omega) (by omega) ?_)
  have hl8 : (items.take (min items.length 8)).length ≤ 8 := by rw [List.length_take]; omega
  refine wp_each (fun pre st => BoxesOk calls st.1 ∧ st.1.length = pre.length ∧ (∀ b ∈ st.1, b.ID ≤ 5 * (pre.length : Int)) ∧ ∀ a, 0 ≤ AMap.get st.2 a 0 ∧ AMap.get st.2 a 0 ≤ 1000)
    ⟨⟨by omega, by simp, fun b hb => (List.not_mem_nil hb).elim, List.Pairwise.nil⟩, rfl, fun b hb => (List.not_mem_nil hb).elim, fun a => by rw [amap_get_empty]; omega⟩ (fun pre y post st nx e hI hnx => ?_) (fun st hI => ?_)
  · obtain ⟨hb, hlen, hid, hhome⟩ := hI
    have hy : ItemOk y := hi y (List.mem_of_mem_take (by rw [e]; simp : y ∈ items.take (min items.length 8)))
    obtain ⟨⟨c1, c2⟩, ⟨k1, k2⟩, ⟨l1, l2⟩, ⟨t1, t2⟩⟩ := hy
    have hp : pre.length < 8 := by rw [e] at hl8; simp only [List.length_append, List.length_cons] at hl8; omega
    refine wp_chk ⟨by omega, by omega⟩ (wp_chk ⟨by omega, by omega⟩ (wp_chk ⟨by omega, by omega⟩ (wp_chk ⟨by omega, by omega⟩ (wp_chk ⟨by omega, by omega⟩ (wp_chk ⟨by omega, by omega⟩ ?_)))))
    refine wp_bnd (wp_rem (by omega) ?_)
    have eL : y.Load.tmod (calls - 1) = y.Load % (calls - 1) := Int.tmod_eq_emod_of_nonneg l1
    rw [eL]
    have rL : 0 ≤ y.Load % (calls - 1) ∧ y.Load % (calls - 1) < calls - 1 := ⟨Int.emod_nonneg _ (by omega), Int.emod_lt_of_pos _ (by omega)⟩
    generalize y.Load % (calls - 1) = L at rL
    refine wp_chk ⟨by omega, by omega⟩ (wp_chk ⟨by omega, by omega⟩ (wp_chk ⟨by omega, by omega⟩ (wp_chk ⟨by omega, by omega⟩ ?_)))
    refine wp_bnd (wp_rem (by omega) ?_)
    have eS : y.Stay.tmod (calls - 1 - L) = y.Stay % (calls - 1 - L) := Int.tmod_eq_emod_of_nonneg t1
    rw [eS]
    have rS : 0 ≤ y.Stay % (calls - 1 - L) ∧ y.Stay % (calls - 1 - L) < calls - 1 - L := ⟨Int.emod_nonneg _ (by omega), Int.emod_lt_of_pos _ (by omega)⟩
    generalize y.Stay % (calls - 1 - L) = T at rS
    refine wp_chk ⟨by omega, by omega⟩ ?_
    refine wp_jp (fun j : Int × Bool => j.1 = 40 ∨ (j.1 = 20 ∧ j.2 = false)) (fun K hK => wp_bif (fun _ => hK _ (.inr ⟨rfl, rfl⟩)) (fun _ => hK _ (.inl rfl))) (fun j hj => ?_)
    refine wp_chk ⟨by omega, by omega⟩ (wp_bnd (wp_rem (by omega) ?_))
    have eC : y.Column.tmod (s.Columns.length : Int) = y.Column % (s.Columns.length : Int) := Int.tmod_eq_emod_of_nonneg c1
    rw [eC]
    have rC : 0 ≤ y.Column % (s.Columns.length : Int) ∧ y.Column % (s.Columns.length : Int) < s.Columns.length := ⟨Int.emod_nonneg _ (by omega), Int.emod_lt_of_pos _ (by omega)⟩
    generalize y.Column % (s.Columns.length : Int) = C at rC
    refine wp_need (room_ok (by rw [List.length_singleton]; omega) (by omega)) (hnx _ ⟨⟨by omega, by simp only [List.length_append, List.length_singleton]; omega, fun b hb' => ?_, ?_⟩, by simp [hlen], fun b hb' => ?_, fun a => ?_⟩)
    · rcases List.mem_append.1 hb' with hb' | hb'
      · exact hb.each b hb'
      · rw [List.mem_singleton] at hb'; subst hb'
        exact ⟨⟨by simp only; omega, by simp only; omega⟩, hj, by simp only; omega, by simp only; omega, by simp only; omega⟩
    · refine pairwise_snoc hb.sorted (fun a ha => ?_)
      have := hid a ha
      simp only
      omega
    · rw [List.length_append, List.length_singleton]
      rcases List.mem_append.1 hb' with hb' | hb'
      · have := hid b hb'; omega
      · rw [List.mem_singleton] at hb'; subst hb'
        simp only; omega
    · rw [amap_get_put]
      split
      · omega
      · exact hhome a
  · obtain ⟨hb, hlen, _, hhome⟩ := hI
    have hbl := hb.len
    refine wp_chk ⟨by omega, by omega⟩ (wp_need (decide_eq_true (by omega)) ?_)
    refine wp_upto (fun _ st => BoxesOk calls st.1 ∧ ∀ a, 0 ≤ AMap.get st.2 a 0 ∧ AMap.get st.2 a 0 ≤ 1000) ⟨hb, hhome⟩ (fun i st nx hi hI hnx => ?_) (fun st _ => ?_)
    · obtain ⟨hb, hhome⟩ := hI
      refine wp_bnd (wp_mono (voyage_spec hs hb hhome hF) (fun r153 h153 => ?_))
      obtain ⟨g1, g2⟩ := h153
      refine wp_bif (fun h => wp_some ⟨hb, g2 (of_decide_eq_true h)⟩) (fun _ => ?_)
      have hbl := hb.len
      refine wp_each (fun pre l => l = pre.filter (fun b => decide (b.ID ≠ r153.2.1))) rfl (fun pre y post l nx2 e hl hnx2 => ?_) (fun l hl => ?_)
      · subst hl
        have hf := List.length_filter_le (fun b : Box => decide (b.ID ≠ r153.2.1)) pre
        have hp : pre.length + 1 ≤ st.1.length := by rw [e]; simp
        refine wp_jp (fun j => j = (pre ++ [y]).filter (fun b => decide (b.ID ≠ r153.2.1))) (fun K hK => wp_bif (fun h => wp_need (room_ok (by rw [List.length_singleton]; omega) (by omega)) (hK _ ?_)) (fun h => hK _ ?_)) (fun j hj => hnx2 _ hj)
        · rw [filter_snoc, h]; rfl
        · rw [filter_snoc, h]; simp
      · subst hl
        refine hnx _ ⟨⟨hb.num, ?_, fun b hb' => hb.each b (List.mem_filter.1 hb').1, hb.sorted.filter _⟩, by rw [g1]; exact hhome⟩
        have := List.length_filter_le (fun b : Box => decide (b.ID ≠ r153.2.1)) st.1
        show (st.1.filter (fun b => decide (b.ID ≠ r153.2.1))).length ≤ 8
        omega
    · obtain ⟨m, hm⟩ : ∃ m : Nat, calls = (m : Int) := ⟨calls.toNat, by omega⟩
      have hno : natOf calls = some m := by
        unfold natOf
        rw [decide_eq_true (by omega), hm]
        rfl
      refine wp_bnd_eq hno (wp_need (decide_eq_true ⟨by omega, Nat.le_trans (show m ≤ 6 by omega) (by decide), by omega⟩) (wp_some ⟨⟨by omega, by simp, fun b hb => (List.not_mem_nil hb).elim, List.Pairwise.nil⟩, by simp [hm], fun k l hk => ?_⟩))
      have : l = [] := by
        have := List.mem_of_getElem? hk
        exact List.eq_of_mem_replicate this
      subst this
      exact ⟨rightP_nil, rfl⟩
end Go.Proofs.Ytbpgdkibmejibaa
