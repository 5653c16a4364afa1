/-
  What is lifted between two states: the walk ends, and tells numbers of boxes, each once.
-/
import Derived.Test.YtbpgdkibmejibaaKeptA
set_option maxRecDepth 100000
namespace Go.Proofs.Ytbpgdkibmejibaa
open Go.RowKit

/-- Ships whose covers and columns are few. -/
structure Small (s : Ship) : Prop where
  right : S_ship_Right s = some true
  cols : 1 ≤ s.Columns.length ∧ s.Columns.length ≤ 40
  tiers : ∀ c ∈ s.Columns, c.Tiers ≤ 100
  covs : s.Covers.length ≤ 1000
  rows : ∀ x ∈ s.Covers, x.Rows.length ≤ 1000
theorem built_small {s : Ship} (h : BuiltOk s) : Small s :=
  ⟨built_right h, ⟨h.some, by have := h.cols.len; omega⟩, fun c hc => by have := (h.cols.each c hc).tiers; omega, by have := h.covs.len; omega, fun x hx => by
    rcases (h.covs.each x hx).rows with e | e <;> rw [e] <;> simp⟩

def ColIn (s : Ship) (x : Slot) : Prop := ∃ (m : Nat) (c : Column), x.Column = (m : Int) ∧ s.Columns[m]? = some c
structure LInv (U : List Int) (m : AMap Int Unit) (l : List Int) : Prop where
  nodup : l.Nodup
  sub : ∀ a ∈ l, a ∈ U
  has : ∀ a, AMap.has m a = decide (a ∈ l)
theorem LInv.le {U : List Int} {m : AMap Int Unit} {l : List Int} (h : LInv U m l) : l.length ≤ U.length := h.nodup.length_le_of_subset (fun a ha => h.sub a ha)
theorem LInv.start {U : List Int} : LInv U (AMap.empty : AMap Int Unit) [] := ⟨List.nodup_nil, fun a ha => (List.not_mem_nil ha).elim, fun a => by simp [amap_has_empty]⟩
theorem LInv.snoc {U : List Int} {m : AMap Int Unit} {l : List Int} (h : LInv U m l) {id : Int} (h1 : id ∉ l) (h2 : id ∈ U) : LInv U (AMap.put m id ()) (l ++ [id]) := by
  refine ⟨?_, fun a ha => ?_, fun a => ?_⟩
  · rw [List.nodup_append]
    refine ⟨h.nodup, by simp, fun a ha b hb => ?_⟩
    rw [List.mem_singleton] at hb; subst hb
    intro e; subst e; exact h1 ha
  · rcases List.mem_append.1 ha with ha | ha
    · exact h.sub a ha
    · rw [List.mem_singleton] at ha; subst ha; exact h2
  · rw [amap_has_put, h.has, Bool.eq_iff_iff]
    simp only [Bool.or_eq_true, decide_eq_true_eq, List.mem_append, List.mem_singleton]
    exact ⟨fun h => h.elim (fun e => .inr e.symm) .inl, fun h => h.elim .inr (fun e => .inl e.symm)⟩

theorem set_add (m : AMap Int Unit) (k : Int) : M_plan_set_int_add m k = some (if AMap.has m k then (false, m) else (true, AMap.put m k ())) := by
  unfold M_plan_set_int_add
  cases AMap.has m k <;> rfl

structure StatesOk (s : Ship) (U : List Int) (states : List (List Stowed)) : Prop where
  small : Small s
  each : ∀ st ∈ states, ∀ x ∈ st, x.Box ∈ U ∧ ColIn s x.Slot
  len : U.length ≤ 1000

theorem add_spec {s : Ship} {U : List Int} {states : List (List Stowed)} (hs : StatesOk s U states) : ∀ (F : Nat) (id : Int) (m : AMap Int Unit) (l : List Int), LInv U m l → id ∈ U → U.length + 1 ≤ F + l.length →
    Wp (M_plan_lifted_1 F id m l states s) (fun r => LInv U r.1 r.2 ∧ l.length ≤ r.2.length) := by
  intro F
  induction F with
  | zero => intro id m l hi _ hF; have := hi.le; omega
  | succ F ih =>
    intro id m l hi hid hF
    show Wp (B_plan_lifted_1 (M_plan_lifted_1 F) F id m l states s) _
    unfold B_plan_lifted_1
    refine wp_bnd_eq (set_add m id) ?_
    rw [hi.has]
    by_cases hmem : id ∈ l
    · rw [if_pos (decide_eq_true hmem)]
      exact wp_bif (fun _ => wp_some ⟨hi, Nat.le_refl _⟩) (fun h => by cases h)
    rw [if_neg (by rw [decide_eq_false hmem]; exact Bool.false_ne_true)]
    refine wp_bif (fun h => by cases h) (fun _ => ?_)
    have hle := hi.le
    have hlen := hs.len
    have h1 := hi.snoc hmem hid
    have h1le := h1.le
    have hl1 : (l ++ [id]).length = l.length + 1 := by simp
    refine wp_need (room_ok (by rw [List.length_singleton]; omega) (by omega)) ?_
    have again : ∀ (y : Stowed) (st : List Stowed) (m' : AMap Int Unit) (l' : List Int), st ∈ states → y ∈ st → LInv U m' l' → l.length + 1 ≤ l'.length → Wp (M_plan_lifted_1 F y.Box m' l' states s) (fun r => LInv U r.1 r.2 ∧ l.length + 1 ≤ r.2.length) :=
      fun y st m' l' h2 h3 h4 h5 => wp_mono (ih y.Box m' l' h4 (hs.each st h2 y h3).1 (by omega)) (fun r hr => ⟨hr.1, by omega⟩)
    refine wp_each (fun _ s7 => LInv U s7.1 s7.2 ∧ l.length + 1 ≤ s7.2.length) ⟨h1, by show l.length + 1 ≤ (l ++ [id]).length; omega⟩ (fun pre st post s7 nx e hI hnx => ?_) (fun s7 hI => wp_some ⟨hI.1, Nat.le_of_succ_le hI.2⟩)
    have hst : st ∈ states := by rw [e]; simp
    refine wp_jp (fun j => LInv U j.1 j.2 ∧ l.length + 1 ≤ j.2.length) (fun K hK => ?_) (fun j hj => hnx _ hj)
    refine wp_bnd_eq (plan_find st id) (wp_bif (fun _ => hK _ hI) (fun hf => ?_))
    have hft : (findP st id).2 = true := by simpa using hf
    obtain ⟨x, hx, _, hxs⟩ := findP_mem hft
    obtain ⟨m0, c0, hm0, hc0⟩ := (hs.each st hst x hx).2
    rw [hxs]
    refine wp_jp (fun _ => True) (fun K' hK' => wp_gidx hm0 hc0 (wp_bif (fun _ => ?_) (fun _ => hK' _ trivial))) (fun j17 _ => ?_)
    · rw [hm0]
      exact wp_bnd_eq (ship_coverOf hc0 (fun x hx => by have := hs.small.rows x hx; omega) (by have := hs.small.covs; omega)) (hK' _ trivial)
    refine wp_each (fun _ s56 => LInv U s56.1 s56.2 ∧ l.length + 1 ≤ s56.2.length) hI (fun pre y post s56 nx e hI hnx => ?_) (fun s56 hI => ?_)
    · have hy : y ∈ st := by rw [e]; simp
      refine wp_jp (fun j => LInv U j.1 j.2 ∧ l.length + 1 ≤ j.2.length) (fun K' hK' => ?_) (fun j hj => hnx _ hj)
      refine wp_bnd (wp_mono (slot_over y.Slot x.Slot) (fun r62 _ => wp_bif (fun _ => ?_) (fun _ => hK' _ hI)))
      exact wp_bnd (wp_mono (again y st _ _ hst hy hI.1 hI.2) (fun r hr => hK' _ hr))
    · refine wp_each (fun _ s65 => LInv U s65.1 s65.2 ∧ l.length + 1 ≤ s65.2.length) hI (fun pre st2 post s65 nx e hI hnx => ?_) (fun s65 hI => hK _ hI)
      have hst2 : st2 ∈ states := by rw [e]; simp
      refine wp_each (fun _ s107 => LInv U s107.1 s107.2 ∧ l.length + 1 ≤ s107.2.length) hI (fun pre y post s107 nx2 e hI hnx2 => ?_) (fun s107 hI => hnx _ hI)
      have hy : y ∈ st2 := by rw [e]; simp
      obtain ⟨m1, c1, hm1, hc1⟩ := (hs.each st2 hst2 y hy).2
      refine wp_jp (fun j => LInv U j.1 j.2 ∧ l.length + 1 ≤ j.2.length) (fun K' hK' => ?_) (fun j hj => hnx2 _ hj)
      refine wp_bnd (Q := _) (wp_mono (Q' := fun _ => True) (wp_bif (fun _ => wp_gidx hm1 hc1 (wp_some trivial)) (fun _ => wp_some trivial)) (fun y113 _ => ?_))
      refine wp_bnd (wp_mono (Q' := fun _ => True) (wp_bif (fun _ => ?_) (fun _ => wp_some trivial)) (fun r114 _ => ?_))
      · rw [hm1]
        exact ⟨_, ship_coverOf hc1 (fun x hx => by have := hs.small.rows x hx; omega) (by have := hs.small.covs; omega), trivial⟩
      · refine wp_bif (fun _ => ?_) (fun _ => hK' _ hI)
        exact wp_bnd (wp_mono (again y st2 _ _ hst2 hy hI.1 hI.2) (fun r hr => hK' _ hr))

theorem lifted_spec {s : Ship} {U : List Int} {before after : List Stowed} (hs : StatesOk s U [before, after]) {F : Nat} (hF : U.length + 1 ≤ F) : Wp (M_plan_lifted F s before after) (fun r => r.Nodup ∧ ∀ a ∈ r, a ∈ U) := by
  unfold M_plan_lifted
  refine wp_each (fun _ s9 => LInv U s9.1 s9.2) LInv.start (fun pre st post s9 nx e hI hnx => ?_) (fun s9 hI => ?_)
  · have hst : st ∈ [before, after] := by rw [e]; simp
    refine wp_each (fun _ s59 => LInv U s59.1 s59.2) hI (fun pre y post s59 nx2 e hI hnx2 => ?_) (fun s59 hI => hnx _ hI)
    have hy : y ∈ st := by rw [e]; simp
    refine wp_jp (fun j => LInv U j.1 j.2) (fun K hK => ?_) (fun j hj => hnx2 _ hj)
    refine wp_bnd_eq (plan_find before y.Box) (wp_bnd_eq (plan_find after y.Box) (wp_bif (fun _ => ?_) (fun _ => hK _ hI)))
    exact wp_bnd (wp_mono (add_spec hs F y.Box _ _ hI (hs.each st hst y hy).1 (by omega)) (fun r hr => hK _ hr.1))
  · have h1 := hI.le
    have h2 := hs.len
    have hse : sortIM s9.2 = some (sortI s9.2) := by
      unfold sortIM
      rw [decide_eq_true (show s9.2.length < 4611686018427387904 by omega)]
      rfl
    have hp := sortI_perm s9.2
    exact wp_bnd_eq hse (wp_some ⟨hp.nodup_iff.2 hI.nodup, fun a ha => hI.sub a (hp.mem_iff.1 ha)⟩)
theorem lifted_same (F : Nat) (s : Ship) (l : List Stowed) : M_plan_lifted F s l l = some [] := by
  refine wp_eq ?_
  unfold M_plan_lifted
  refine wp_each (fun _ s9 => s9.2 = []) rfl (fun pre st post s9 nx e hI hnx => ?_) (fun s9 hI => ?_)
  · refine wp_each (fun _ s59 => s59.2 = []) hI (fun pre y post s59 nx2 e hI hnx2 => ?_) (fun s59 hI => hnx _ hI)
    refine wp_jp (fun j => j.2 = []) (fun K hK => ?_) (fun j hj => hnx2 _ hj)
    refine wp_bnd_eq (plan_find l y.Box) (wp_bnd_eq (plan_find l y.Box) (wp_bif (fun h => ?_) (fun _ => hK _ hI)))
    simp at h
  · rw [hI]
    exact wp_bnd_eq (show sortIM [] = some [] from rfl) (wp_some rfl)

/-! ### slices.DeleteFunc -/
theorem deleteFunc {F : Nat} {l : List Int} {del : Int → Option Bool} {p : Int → Bool} (hd : ∀ x ∈ l, del x = some (p x)) (hF : l.length + 2 ≤ F) (hl : l.length ≤ 100000) : M_slices_DeleteFunc_int F l del = some (l.filter (fun x => !p x)) := by
  refine wp_eq ?_
  unfold M_slices_DeleteFunc_int
  have hi : M_slices_IndexFunc_int l del = some (idxI p l) := each_idx hd
  refine wp_bnd_eq hi ?_
  rcases idxI_cases p l with ⟨h1, h2, _⟩ | ⟨m, x, h1, h2, h3, h4⟩
  · rw [h1]
    refine wp_bif (fun _ => wp_some ?_) (fun h => by simp at h)
    exact (List.filter_eq_self.2 (fun a ha => by rw [h2 a ha]; rfl)).symm
  · have hm := (List.getElem?_eq_some_iff.1 h2).1
    rw [h1]
    refine wp_bif (fun h => ?_) (fun _ => ?_)
    · have := of_decide_eq_true h; omega
    refine wp_chk ⟨by omega, by omega⟩ ?_
    have hfirst : ∀ k, k < m → ∀ y, l[k]? = some y → p y = false := by
      intro k hk y hy
      obtain ⟨_, j, hj, hjx, hbef⟩ := List.find?_eq_some_iff_getElem.1 h4
      have hidx : l.findIdx? p = some m := by
        have h5 := h1
        unfold idxI at h5
        cases hf : l.findIdx? p with
        | none => rw [hf] at h5; simp only at h5; omega
        | some j2 => rw [hf] at h5; simp only at h5; rw [show j2 = m by omega]
      obtain ⟨_, _, hb⟩ := List.findIdx?_eq_some_iff_getElem.1 hidx
      have := hb k hk
      have hkl := (List.getElem?_eq_some_iff.1 hy)
      obtain ⟨hk2, e⟩ := hkl
      rw [e] at this
      simpa using this
    refine wp_loop (fun st => ∃ i j : Nat, st.1 = (i : Int) ∧ st.2.1 = (j : Int) ∧ i < j ∧ j ≤ l.length ∧ st.2.2.length = l.length ∧ st.2.2.take i = (l.take j).filter (fun x => !p x) ∧ st.2.2.drop j = l.drop j) (fun st => l.length + 1 - st.2.1.toNat)
      ⟨m, m + 1, rfl, rfl, by omega, by omega, rfl, ?_, rfl⟩ (by show l.length + 1 - ((m : Int) + 1).toNat < F; omega) (fun st nx hI hnx => ?_)
    · rw [List.take_add_one, h2, List.filter_append]
      simp only [Option.toList_some, List.filter_cons, h3, Bool.not_true, Bool.false_eq_true, if_false, List.filter_nil, List.append_nil]
      refine (List.filter_eq_self.2 (fun a ha => ?_)).symm
      obtain ⟨k, hk⟩ := List.mem_iff_getElem?.1 ha
      have hkm : k < m := by
        have := (List.getElem?_eq_some_iff.1 hk).1
        rw [List.length_take] at this; omega
      rw [List.getElem?_take_of_lt hkm] at hk
      rw [hfirst k hkm a hk]; rfl
    · obtain ⟨a1, a2, cur⟩ := st
      obtain ⟨i, j, e1, e2, hij, hjl, hcl, ht, hdr⟩ := hI
      simp only at e1 e2 hcl ht hdr ⊢
      subst e1 e2
      refine wp_bif (fun h => ?_) (fun h => ?_)
      · have hj : j < l.length := by have := of_decide_eq_true h; omega
        have hcj : cur[j]? = some l[j] := by
          have : (cur.drop j)[0]? = (l.drop j)[0]? := by rw [hdr]
          rw [List.getElem?_drop, List.getElem?_drop] at this
          simpa [hj] using this
        have hlj : l[j]? = some l[j] := by simp [hj]
        refine wp_jp (fun st => ∃ i' : Nat, st.1 = (i' : Int) ∧ i' < j + 1 ∧ st.2.length = l.length ∧ st.2.take i' = (l.take (j + 1)).filter (fun x => !p x) ∧ st.2.drop (j + 1) = l.drop (j + 1)) (fun K hK => ?_) (fun st hst => ?_)
        · refine wp_gidx rfl hcj (wp_bnd_eq (hd l[j] (List.getElem_mem hj)) (wp_bif (fun hp => ?_) (fun hp => hK _ ?_)))
          · have hci : cur[i]? = some (cur[i]'(by omega)) := List.getElem?_eq_getElem (by omega)
            refine wp_gidx rfl hci (wp_chk ⟨by omega, by omega⟩ (hK _ ⟨i + 1, rfl, by omega, by simpa using hcl, ?_, ?_⟩))
            · simp only [Int.toNat_natCast]
              rw [List.take_add_one, List.take_set_of_le (Nat.le_refl _), ht, List.take_add_one, hlj, List.filter_append]
              have : (cur.set i l[j])[i]? = some l[j] := by rw [List.getElem?_set_self (by omega)]
              rw [this]
              simp [hp]
            · simp only [Int.toNat_natCast]
              rw [List.drop_set_of_lt (by omega)]
              have := congrArg (List.drop 1) hdr
              rw [List.drop_drop, List.drop_drop] at this
              exact this
          · refine ⟨i, rfl, by omega, hcl, ?_, ?_⟩
            · rw [ht, List.take_add_one, hlj, List.filter_append]
              simp [hp]
            · have := congrArg (List.drop 1) hdr
              rw [List.drop_drop, List.drop_drop] at this
              exact this
        · obtain ⟨i', g1, g2, g3, g4, g5⟩ := hst
          refine wp_chk ⟨by omega, by omega⟩ (hnx _ ⟨i', j + 1, g1, by simp, g2, by omega, g3, g4, g5⟩ ?_)
          simp only
          omega
      · have hj : j = l.length := by have := of_decide_eq_false h; omega
        subst hj
        have hbl : (blank cur i (cur.length - i) (0 : Int)).length = cur.length := by
          unfold blank
          simp only [List.length_append, List.length_take, List.length_replicate, List.length_drop]
          omega
        refine wp_bnd (wp_natIn rfl (by omega) (wp_bnd (wp_natIn rfl (by rw [hbl]; omega) (wp_some ?_))))
        unfold blank
        rw [List.append_assoc, List.take_left' (by rw [List.length_take]; omega), ht, List.take_length]
end Go.Proofs.Ytbpgdkibmejibaa
