/-
  PlanKept: the law's plain mathematics.
-/
import Derived.Test.YtbpgdkibmejibaaAwake23
set_option maxRecDepth 100000
namespace Go.Proofs.Ytbpgdkibmejibaa
open Go.RowKit

/-- At how many calls up to n a box could be restowed. -/
def stays (n : Nat) (b : Box) : Int := max 0 (min (n : Int) b.Discharge - b.Load - 1)
theorem lawKeptF {F : Nat} (hF : 60 ≤ F) (hA : M_twistlocklaw23_awake F = some true) (l : List law07_Place) (covers : Int) (items : List law23_Item) (n : Int) (hp : ∀ p ∈ l, PlaceOk p) (hi : ∀ x ∈ items, ItemOk x) (hn : Byte n) : M_twistlocklaw23_PlanKept F l covers items n = some true := by
  refine wp_eq ?_
  unfold M_twistlocklaw23_PlanKept
  refine wp_bnd (wp_mono (built_spec l covers hp) (fun s hs => ?_))
  have hsm := built_small hs
  obtain ⟨n1, n2⟩ := hn
  refine wp_chk ⟨by omega, by omega⟩ (wp_bnd (wp_rem (by omega) ?_))
  rw [show n.tmod 5 = n % 5 from Int.tmod_eq_emod_of_nonneg n1]
  refine wp_chk ⟨by omega, by omega⟩ ?_
  have hcalls : 2 ≤ 2 + n % 5 ∧ 2 + n % 5 ≤ 6 := by omega
  generalize 2 + n % 5 = calls at hcalls
  refine wp_bnd (wp_mono (Voyage_spec hsm hi hcalls hF) (fun r8 h8 => ?_))
  obtain ⟨hb, hpl⟩ := h8
  have hlen := hpl.len
  have hsl : r8.2.States.length ≤ 6 := by omega
  obtain ⟨r10, e10, h10a, h10⟩ := plan_restows hsm hb hpl hF
  refine wp_bnd_eq e10 (wp_bnd_eq (plan_count e10 h10 (by omega)) ?_)
  obtain ⟨out, er⟩ := r10
  simp only at h10a h10 ⊢
  subst h10a
  refine wp_chk ⟨by decide, by decide⟩ (wp_bif (fun h => ?_) (fun _ => ?_))
  · have hol := h10.len
    simp only [Bool.or_eq_true, decide_eq_true_eq] at h
    omega
  have hol : out.length = r8.2.States.length := h10.len
  have htot : ∀ l : List (List Int), (∀ x ∈ l, x.length ≤ 8) → 0 ≤ total l ∧ total l ≤ 8 * (l.length : Int) := by
    intro l
    induction l with
    | nil => intro _; exact ⟨Int.le_refl _, Int.le_refl _⟩
    | cons x l ih =>
      intro h
      have h1 := h x (List.mem_cons_self ..)
      have h2 := ih (fun y hy => h y (List.mem_cons_of_mem _ hy))
      have h3 : total (x :: l) = (x.length : Int) + total l := by simp [total]
      rw [h3, List.length_cons]
      omega
  have htt := htot out h10.small
  refine wp_each (fun pre st => st.1 = total out - total pre ∧ (∀ a, 0 ≤ AMap.get st.2 a 0 ∧ AMap.get st.2 a 0 ≤ (pre.length : Int)) ∧ ∀ b ∈ r8.1, AMap.get st.2 b.ID 0 ≤ stays pre.length b) ⟨by simp [total], fun a => ⟨by rw [amap_get_empty]; exact Int.le_refl _, by rw [amap_get_empty]; exact Int.le_refl _⟩, fun b hb => by
      rw [amap_get_empty]; unfold stays; omega⟩ (fun pre x post st nx e hI hnx => ?_) (fun st hI => ?_)
  · obtain ⟨i1, i2, i3⟩ := hI
    have hx : out[pre.length]? = some x := by rw [e]; simp
    have hk : pre.length < r8.2.States.length := by have := (List.getElem?_eq_some_iff.1 hx).1; omega
    obtain ⟨after, ha, hro⟩ := h10.each pre.length x hx
    have hpx : total pre + x.length ≤ total out ∧ 0 ≤ total pre := by
      have h1 := htot pre (fun y hy => h10.small y (by rw [e]; simp [hy]))
      have h2 := htot post (fun y hy => h10.small y (by rw [e]; simp [hy]))
      have h3 : total out = total pre + x.length + total post := by rw [e]; simp [total]; omega
      omega
    -- the box of a number is on board at both calls
    have hstay : ∀ b ∈ r8.1, b.ID ∈ x → b.Load + 1 ≤ (pre.length : Int) ∧ (pre.length : Int) < b.Discharge := by
      intro b hbm hbx
      obtain ⟨g1, g2⟩ := hro.both b.ID hbx
      have hk0 : pre.length ≠ 0 := fun h0 => by
        unfold prevSt at g1
        rw [if_pos h0] at g1
        simp at g1
      have hgot : r8.2.States[pre.length - 1]? = some (r8.2.States[pre.length - 1]'(by omega)) := List.getElem?_eq_getElem (by omega)
      unfold prevSt at g1
      rw [if_neg hk0, hgot, Option.getD_some, (hpl.each _ _ hgot).ids] at g1
      rw [(hpl.each _ _ ha).ids] at g2
      have board : ∀ k : Int, b.ID ∈ aboardL r8.1 k → b.Load ≤ k ∧ k < b.Discharge := fun k hk => by
        obtain ⟨b', hb', he⟩ := List.mem_map.1 hk
        obtain ⟨hb1, hb2⟩ := List.mem_filter.1 hb'
        have := hb.inj hb1 hbm he
        subst this
        unfold abB at hb2
        simpa using hb2
      have q1 := board _ g1
      have q2 := board _ g2
      omega
    have hnext : Wp (bif decide (0 < (pre.length : Int)) then chk ((pre.length : Int) - 1) some else some 0) (fun v27 => Wp (bif decide (0 < (pre.length : Int)) then gidx r8.2.States v27 some else some default) (fun y28 =>
        Wp (bif decide (0 < (pre.length : Int)) then gidx r8.2.States (pre.length : Int) some else some default) (fun y29 => Wp (bif decide (0 < (pre.length : Int)) then M_twistlockkit_SameStoweds y28 y29 else some default) (fun r30 =>
          ((((decide (0 < (pre.length : Int))) && r30) && (decide (0 < (x.length : Int)))) || ((decide ((pre.length : Int) = 0)) && (decide (0 < (x.length : Int))))) = false)))) := by
      by_cases hk0 : pre.length = 0
      · have hx0 : x = [] := by
          refine List.eq_nil_iff_forall_not_mem.2 (fun a ha' => ?_)
          have := (hro.both a ha').1
          unfold prevSt at this
          rw [if_pos hk0] at this
          simp at this
        rw [hk0, hx0]
        exact wp_some (wp_some (wp_some (wp_some (by simp))))
      · have hd : decide (0 < (pre.length : Int)) = true := decide_eq_true (by omega)
        have hd2 : decide ((pre.length : Int) = 0) = false := decide_eq_false (by omega)
        rw [hd, hd2]
        simp only [cond_true, Bool.true_and, Bool.false_and, Bool.or_false]
        have hgot : r8.2.States[pre.length - 1]? = some (r8.2.States[pre.length - 1]'(by omega)) := List.getElem?_eq_getElem (by omega)
        refine wp_chk ⟨by omega, by omega⟩ (wp_some (wp_gidx (m := pre.length - 1) (by omega) hgot (wp_some (wp_gidx rfl ha (wp_some (wp_mono (same_stoweds _ _) (fun r30 h30 => ?_)))))))
        cases r30 with
        | false => rfl
        | true =>
          have hsame := h30.1 rfl
          have : x = [] := hro.same (by
            unfold prevSt
            rw [if_neg hk0, hgot, Option.getD_some]; exact hsame)
          subst this
          rfl
    refine wp_bnd (wp_mono hnext (fun v27 h27 => wp_bnd (wp_mono h27 (fun y28 h28 => wp_bnd (wp_mono h28 (fun y29 h29 => wp_bnd (wp_mono h29 (fun r30 h30 => ?_))))))))
    rw [h30]
    simp only [cond_false]
    have hx8 := h10.small x (List.mem_of_getElem? hx)
    have hol6 : out.length ≤ 6 := by omega
    refine wp_chk ⟨by omega, by omega⟩ ?_
    refine wp_each (fun pr m => ∀ a, AMap.get m a 0 = AMap.get st.2 a 0 + (if a ∈ pr then 1 else 0)) (fun a => by simp) (fun pr id ps m nx2 e2 hm hnx2 => ?_) (fun m hm => hnx _ ⟨?_, fun a => ?_, fun b hbm => ?_⟩)
    · have hnd := hro.nodup
      rw [e2] at hnd
      have hid : id ∉ pr := fun hin => (List.nodup_append.1 hnd).2.2 id hin id (List.mem_cons_self ..) rfl
      have hg := hm id
      rw [if_neg hid] at hg
      have hb2 := i2 id
      refine wp_bnd_eq rfl (wp_chk ⟨by omega, by omega⟩ (hnx2 _ (fun a => ?_)))
      rw [amap_get_put]
      by_cases ha' : id = a
      · subst ha'
        rw [if_pos rfl, if_pos (by simp), hg]
        omega
      · rw [if_neg ha', hm a]
        have : (a ∈ pr ++ [id]) ↔ a ∈ pr := by
          rw [List.mem_append, List.mem_singleton]
          exact ⟨fun h => h.elim _root_.id (fun e => (ha' e.symm).elim), .inl⟩
        simp only [this]
    · rw [total_snoc]
      show st.1 - (x.length : Int) = total out - (total pre + x.length)
      omega
    · have := i2 a
      show 0 ≤ AMap.get m a 0 ∧ AMap.get m a 0 ≤ _
      rw [hm a, List.length_append, List.length_singleton]
      split <;> omega
    · have h3 := i3 b hbm
      show AMap.get m b.ID 0 ≤ stays (pre ++ [x]).length b
      rw [hm b.ID, List.length_append, List.length_singleton]
      by_cases hbx : b.ID ∈ x
      · obtain ⟨q1, q2⟩ := hstay b hbm hbx
        rw [if_pos hbx]
        unfold stays at *
        omega
      · rw [if_neg hbx]
        unfold stays at *
        omega
  · obtain ⟨i1, i2, i3⟩ := hI
    have h0 : st.1 = 0 := by rw [i1]; omega
    refine wp_each (fun _ _ => True) trivial (fun pre b post u nx e _ hnx => ?_) (fun u _ => ?_)
    · have hbm : b ∈ r8.1 := by rw [e]; simp
      have hbo := hb.each b hbm
      obtain ⟨_, _, q3, q4, q5⟩ := hbo
      refine wp_bnd_eq rfl (wp_chk ⟨by omega, by omega⟩ (wp_chk ⟨by omega, by omega⟩ (wp_bif (fun h => ?_) (fun _ => hnx _ trivial))))
      have h3 := i3 b hbm
      have h4 := of_decide_eq_true h
      unfold stays at h3
      omega
    · rw [h0, decide_eq_true (rfl : (0 : Int) = 0)]
      simp only [cond_true, Bool.true_and]
      exact wp_bnd_eq hA (wp_some rfl)
theorem lawKept (l : List law07_Place) (covers : Int) (items : List law23_Item) (n : Int) (hp : ∀ p ∈ l, PlaceOk p) (hi : ∀ x ∈ items, ItemOk x) (hn : Byte n) : M_twistlocklaw23_PlanKept 60 l covers items n = some true := lawKeptF (Nat.le_refl 60) awake23 l covers items n hp hi hn
end Go.Proofs.Ytbpgdkibmejibaa
