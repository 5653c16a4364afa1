/-
 MovesPhases: the work of the bays adds up.
-/
import Derived.Test.YtmdnkofmmheoaaaGreatMovB
set_option maxRecDepth 100000
namespace Go.Proofs.YtmdnkofmmheoaaaGreat
open Go.RowKit

def tot {α : Type} (f : α → Int) : List α → Int
 | [] => 0
 | x :: l => f x + tot f l
section
variable {α : Type} {f : α → Int}
theorem tot_append : ∀ (l m : List α), tot f (l ++ m) = tot f l + tot f m
 | [], m => by simp [tot]
 | x :: l, m => by rw [List.cons_append, tot, tot, tot_append l m]; omega
theorem tot_snoc (l : List α) (x : α) : tot f (l ++ [x]) = tot f l + f x := by rw [tot_append]; simp [tot]
theorem tot_perm {l m : List α} (h : l.Perm m) : tot f l = tot f m := by
 induction h with
 | nil => rfl
 | cons x _ ih => rw [tot, tot, ih]
 | swap x y l => simp only [tot]; omega
 | trans _ _ h1 h2 => rw [h1, h2]
theorem tot_map {β : Type} (g : β → α) : ∀ l : List β, tot f (l.map g) = tot (fun x => f (g x)) l
 | [] => rfl
 | x :: l => by rw [List.map_cons, tot, tot, tot_map g l]
theorem tot_bound {lo hi : Int} : ∀ {l : List α}, (∀ x ∈ l, lo ≤ f x ∧ f x ≤ hi) → lo * (l.length : Int) ≤ tot f l ∧ tot f l ≤ hi * (l.length : Int)
 | [], _ => by simp [tot]
 | x :: l, h => by
  have h1 := h x (by simp)
  have h2 := tot_bound (l := l) (fun y hy => h y (by simp [hy]))
  have e : ((x :: l).length : Int) = (l.length : Int) + 1 := by rw [List.length_cons]; omega
  rw [tot, e, Int.mul_add, Int.mul_add]
  omega
end
section
variable {κ ν : Type} [DecidableEq κ]
theorem map_other {a : κ} {v : ν} {l : List (κ × ν)} (h : a ∉ l.map (·.1)) : l.map (fun p => if p.1 = a then (a, v) else p) = l := by
 induction l with
 | nil => rfl
 | cons p l ih =>
  rw [List.map_cons, List.mem_cons] at h
  rw [List.map_cons, if_neg (fun e => h (.inl e.symm)), ih (fun h2 => h (.inr h2))]
theorem tot_mput {f : ν → Int} {l : List (κ × ν)} (hn : (l.map (·.1)).Nodup) (a : κ) (v z : ν) (hz : f z = 0) : tot (fun e => f e.2) (mput l a v) = tot (fun e => f e.2) l - f ((mget l a).getD z) + f v := by
 unfold mput
 by_cases h : mhas l a = true
 ·rw [if_pos h]
  induction l with
  | nil => cases h
  | cons p l ih =>
   rw [List.map_cons, List.nodup_cons] at hn
   rw [List.map_cons, mget_cons]
   by_cases hp : p.1 = a
   ·rw [if_pos hp, if_pos hp, map_other (by rw [← hp]; exact hn.1)]
    simp only [tot, Option.getD_some]; omega
   ·rw [if_neg hp, if_neg hp]
    have h2 : mhas l a = true := by
     unfold mhas at h ⊢
     rw [List.any_cons, Bool.or_eq_true] at h
     rcases h with h | h
     ·exact absurd (of_decide_eq_true h) hp
     ·exact h
    simp only [tot]
    rw [ih hn.2 h2]; omega
 ·have hf : mhas l a = false := by simpa using h
  rw [if_neg h, tot_snoc, mget_eq_none hf]
  show _ = _ - f z + _
  rw [hz]; simp
theorem amap_get_mem {m : AMap κ ν} {a : κ} {z : ν} : AMap.get m a z = z ∨ ∃ e ∈ AMap.l m, e.2 = AMap.get m a z := by
 unfold AMap.get mget
 cases h : (AMap.l m).find? (fun p => p.1 = a) with
 | none => exact .inl rfl
 | some e => exact .inr ⟨e, List.mem_of_find?_eq_some h, rfl⟩
end

/-- How many boxes some moves lift. -/
def boxesN (l : List Move) : Int := tot (fun m => bif isBox m then 1 else 0) l
theorem moves_lifts (l : List Move) (hl : l.length ≤ 100000) : M_moves_Lifts l = some (boxesN l) := by
 refine wp_eq ?_
 unfold M_moves_Lifts
 refine wp_each (fun pre n => n = boxesN pre ∧ 0 ≤ n ∧ n ≤ (pre.length : Int)) ⟨rfl, by simp, by simp⟩ (fun pre x post n nx e hI hnx => ?_) (fun n hI => wp_some hI.1)
 have hp : pre.length + 1 ≤ l.length := by rw [e]; simp
 obtain ⟨i1, i2, i3⟩ := hI
 have hs : boxesN (pre ++ [x]) = n + (bif isBox x then 1 else 0) := by unfold boxesN; rw [tot_snoc, i1]; rfl
 refine wp_jp (fun j => j = boxesN (pre ++ [x]) ∧ 0 ≤ j ∧ j ≤ ((pre ++ [x]).length : Int)) (fun K hK => wp_bif (fun h => wp_chk ⟨by omega, by omega⟩ (hK _ ?_)) (fun h => hK _ ?_)) (fun j hj => hnx _ hj)
 ·have hb : isBox x = true := h
  rw [hb, cond_true] at hs
  rw [hs, List.length_append, List.length_singleton]
  omega
 ·have hb : isBox x = false := h
  rw [hb, cond_false] at hs
  rw [hs, List.length_append, List.length_singleton]
  omega

structure TaskB (n : Int) (t : Task) : Prop where
 phase : t.Phase = 1 ∨ t.Phase = 2
 bay : 0 ≤ t.Bay ∧ t.Bay ≤ 4
 lifts : 0 ≤ t.Lifts ∧ t.Lifts ≤ n
 covs : 0 ≤ t.Covers ∧ t.Covers ≤ n
 some : 1 ≤ t.Lifts + t.Covers
structure WorkB (m : AMap Arr2Int Task) (pre : List Move) : Prop where
 inv : TInv m
 each : ∀ e ∈ AMap.l m, TaskB (pre.length : Int) e.2
 lifts : tot (fun e => e.2.Lifts) (AMap.l m) = boxesN pre
 covs : tot (fun e => e.2.Covers) (AMap.l m) = (pre.length : Int) - boxesN pre
/-- The tasks of some moves. -/
structure TasksOk (l : List Move) (r : List Task) : Prop where
 sorted : r.Pairwise (fun a b => tcmp a b < 0)
 each : ∀ t ∈ r, TaskB (l.length : Int) t
 len : r.length ≤ 12
 lifts : tot Task.Lifts r = boxesN l
 covs : tot Task.Covers r = (l.length : Int) - boxesN l
theorem moves_tasks {F : Nat} {s : Ship} {l : List Move} (hF : 60 ≤ F) (hb : BuiltOk s) (hm : ∀ m ∈ l, MvOk s m) (hl : l.length ≤ 100000) : Wp (S_moves_Tasks F s l) (fun r => r.2 = 0 ∧ TasksOk l r.1) := by
 unfold S_moves_Tasks
 rw [decide_eq_false (by omega), cond_false]
 refine wp_bnd_eq (built_right hb) ?_
 simp only [Bool.not_true, cond_false]
 refine wp_each (fun pre m => WorkB m pre) ⟨fun e he => (by cases he), fun e he => (by cases he), rfl, rfl⟩ (fun pre y post m nx e hI hnx => ?_) (fun m hI => ?_)
 ·have hy := hm y (by rw [e]; simp)
  have hp : pre.length + 1 ≤ l.length := by rw [e]; simp
  obtain ⟨k1, k2⟩ := hy.kind
  have hcov : ((decide (y.Kind = 1)) || (decide (y.Kind = 4))) = !isBox y := by
   unfold isBox
   rcases (by omega : y.Kind = 1 ∨ y.Kind = 2 ∨ y.Kind = 3 ∨ y.Kind = 4) with h | h | h | h <;> rw [h] <;> rfl
  rw [hcov]
  refine wp_jp (fun j => j = false) (fun K hK => wp_bif (fun h => ?_) (fun _ => wp_bif (fun h => ?_) (fun _ => hK _ ?_))) (fun j hj => ?_)
  ·simp only [Bool.or_eq_true, decide_eq_true_eq] at h; omega
  ·simp only [Bool.and_eq_true, Bool.not_eq_true', Bool.or_eq_true, decide_eq_true_eq] at h
   obtain ⟨k, x, q1, q2⟩ := hy.cov h.1
   have := (List.getElem?_eq_some_iff.1 q2).1
   omega
  ·cases hbx : isBox y with
   | false => rfl
   | true =>
    obtain ⟨k, x, q1, q2⟩ := hy.col hbx
    have := (List.getElem?_eq_some_iff.1 q2).1
    simp only [Bool.not_true, Bool.not_false, Bool.true_and, Bool.or_eq_false_iff, decide_eq_false_iff_not]
    omega
  ·subst hj
   simp only [cond_false]
   refine wp_jp (fun j => j = phOf y) (fun K hK => wp_bif (fun h => hK _ ?_) (fun h => hK _ ?_)) (fun j1 hj1 => ?_)
   ·have := of_decide_eq_true h
    unfold phOf
    rcases (by omega : y.Kind = 3 ∨ y.Kind = 4) with h | h <;> rw [h] <;> rfl
   ·have := of_decide_eq_false h
    unfold phOf
    rcases (by omega : y.Kind = 1 ∨ y.Kind = 2) with h | h <;> rw [h] <;> rfl
   subst hj1
   refine wp_jp (fun j => 0 ≤ j ∧ j ≤ 4) (fun K hK => wp_bif (fun h => ?_) (fun h => ?_)) (fun j2 hj2 => ?_)
   ·obtain ⟨k, x, q1, q2⟩ := hy.cov (by simpa using h)
    have hx := (hb.covs.each x (List.mem_of_getElem? q2)).bay
    exact wp_gidx q1 q2 (hK _ hx)
   ·obtain ⟨k, x, q1, q2⟩ := hy.col (by simpa using h)
    have hx := (hb.cols.each x (List.mem_of_getElem? q2)).bay
    exact wp_gidx q1 q2 (hK _ hx)
   refine wp_bnd (wp_some (wp_bnd (wp_some ?_)))
   obtain ⟨w1, w2, w3, w4⟩ := hI
   have hph : phOf y = 1 ∨ phOf y = 2 := by unfold phOf; cases (decide (y.Kind = 3) || decide (y.Kind = 4)) with
    | false => exact .inl rfl
    | true => exact .inr rfl
   have hg : 0 ≤ (AMap.get m (Arr2Int.mk (phOf y) j2) (Task.mk 0 0 0 0)).Lifts ∧ (AMap.get m (Arr2Int.mk (phOf y) j2) (Task.mk 0 0 0 0)).Lifts ≤ (pre.length : Int) ∧ 0 ≤ (AMap.get m (Arr2Int.mk (phOf y) j2) (Task.mk 0 0 0 0)).Covers ∧ (AMap.get m (Arr2Int.mk (phOf y) j2) (Task.mk 0 0 0 0)).Covers ≤ (pre.length : Int) := by
    rcases amap_get_mem (m := m) (a := Arr2Int.mk (phOf y) j2) (z := Task.mk 0 0 0 0) with h | ⟨e, he, h⟩
    ·rw [h]; simp only; omega
    ·rw [← h]
     have := w2 e he
     exact ⟨this.lifts.1, this.lifts.2, this.covs.1, this.covs.2⟩
   have hL := fun v => tot_mput (f := Task.Lifts) m.nd (Arr2Int.mk (phOf y) j2) v (Task.mk 0 0 0 0) rfl
   have hC := fun v => tot_mput (f := Task.Covers) m.nd (Arr2Int.mk (phOf y) j2) v (Task.mk 0 0 0 0) rfl
   have eL : ((mget (AMap.l m) (Arr2Int.mk (phOf y) j2)).getD (Task.mk 0 0 0 0)) = AMap.get m (Arr2Int.mk (phOf y) j2) (Task.mk 0 0 0 0) := rfl
   rw [eL] at hL hC
   generalize AMap.get m (Arr2Int.mk (phOf y) j2) (Task.mk 0 0 0 0) = g at hg hL hC ⊢
   have hbs : boxesN (pre ++ [y]) = boxesN pre + (bif isBox y then 1 else 0) := by unfold boxesN; rw [tot_snoc]
   have fin : ∀ a b : Int, (isBox y = true ∧ a = g.Lifts + 1 ∧ b = g.Covers) ∨ (isBox y = false ∧ a = g.Lifts ∧ b = g.Covers + 1) → WorkB (AMap.put m (Arr2Int.mk (phOf y) j2) (Task.mk j2 (phOf y) a b)) (pre ++ [y]) := fun a b hab => by
    refine ⟨w1.put _ _ _ _, fun e he => ?_, ?_, ?_⟩
    ·rw [List.length_append, List.length_singleton]
     rcases mput_mem (l := AMap.l m) he with rfl | he
     ·refine ⟨hph, hj2, ?_, ?_, ?_⟩ <;> simp only <;> omega
     ·obtain ⟨t1, t2, t3, t4, t5⟩ := w2 e he
      exact ⟨t1, t2, by omega, by omega, t5⟩
    ·show tot _ (mput (AMap.l m) _ _) = _
     rw [hL, w3, hbs]
     rcases hab with ⟨h1, h2, h3⟩ | ⟨h1, h2, h3⟩ <;> rw [h1, h2] <;> simp only [cond_true, cond_false] <;> omega
    ·show tot _ (mput (AMap.l m) _ _) = _
     rw [hC, w4, hbs, List.length_append, List.length_singleton]
     rcases hab with ⟨h1, h2, h3⟩ | ⟨h1, h2, h3⟩ <;> rw [h1, h3] <;> simp only [cond_true, cond_false] <;> omega
   refine wp_jp (fun j : Int × Int => (isBox y = true ∧ j.1 = g.Lifts + 1 ∧ j.2 = g.Covers) ∨ (isBox y = false ∧ j.1 = g.Lifts ∧ j.2 = g.Covers + 1)) (fun K hK => wp_bif (fun h => wp_chk ⟨by omega, by omega⟩ (hK _ (.inr ⟨by simpa using h, rfl, rfl⟩))) (fun h => wp_chk ⟨by omega, by omega⟩ (hK _ (.inl ⟨by simpa using h, rfl, rfl⟩)))) (fun j3 hj3 => hnx _ (fin _ _ hj3))
 ·obtain ⟨w1, w2, w3, w4⟩ := hI
  have hlen : (AMap.l m).length ≤ 10 := by
   have h := pigeon 10 ((AMap.l m).map (fun e => (5 * (e.2.Phase - 1) + e.2.Bay).toNat)) ?_ ?_
   ·rwa [List.length_map] at h
   ·refine List.pairwise_map.2 (List.Pairwise.imp_of_mem (fun {a b} ha hb hab => ?_) (List.pairwise_map.1 m.nd))
    have ta := w2 a ha
    have tb := w2 b hb
    have p1 := ta.phase
    have p2 := tb.phase
    have b1 := ta.bay
    have b2 := tb.bay
    intro e
    refine hab ?_
    rw [w1 a ha, w1 b hb]
    have h1 : a.2.Phase = b.2.Phase := by omega
    have h2 : a.2.Bay = b.2.Bay := by omega
    rw [h1, h2]
   ·intro x hx
    obtain ⟨a, ha, rfl⟩ := List.mem_map.1 hx
    have ta := w2 a ha
    have p1 := ta.phase
    have b1 := ta.bay
    omega
  refine wp_need (decide_eq_true (by omega)) (wp_some ⟨rfl, ?_⟩)
  have hperm := isrt_perm tcmp ((AMap.l m).map (·.2))
  refine ⟨?_, fun t ht => ?_, ?_, ?_, ?_⟩
  ·have hs := isrt_sorted tcmp_order ((AMap.l m).map (·.2))
   have hnd : (isrt tcmp ((AMap.l m).map (·.2))).Nodup := by
    rw [hperm.nodup_iff]
    refine List.pairwise_map.2 (List.Pairwise.imp_of_mem (fun {a b} ha hb hab => ?_) (List.pairwise_map.1 m.nd))
    intro e
    exact hab (by rw [w1 a ha, w1 b hb, e])
   have hmem := fun t (ht : t ∈ isrt tcmp ((AMap.l m).map (·.2))) => isrt_mem.1 ht
   refine List.Pairwise.imp_of_mem (R := fun a b => leOf tcmp a b ∧ a ≠ b) (fun {a b} ha hb hab => ?_) (hs.and hnd)
   refine Decidable.byContradiction (fun hlt => hab.2 (w1.unique a (hmem a ha) b (hmem b hb) hlt hab.1))
  ·obtain ⟨e, he, rfl⟩ := List.mem_map.1 (isrt_mem.1 ht)
   exact w2 e he
  ·rw [isrt_length, List.length_map]; omega
  ·rw [tot_perm hperm, tot_map]; exact w3
  ·rw [tot_perm hperm, tot_map]; exact w4
theorem lawPhasesF {F : Nat} (hF : 60 ≤ F) (hA : M_twistlocklaw30_awake F = some true) (l : List law07_Place) (covers : Int) (items : List law23_Item) (n : Int) (hp : ∀ p ∈ l, PlaceOk p) (hi : ∀ x ∈ items, ItemOk x) (hn : Byte n) : M_twistlocklaw30_MovesPhases F l covers items n = some true := by
 refine wp_eq ?_
 unfold M_twistlocklaw30_MovesPhases
 refine wp_bnd (wp_mono (built_spec l covers hp) (fun s hs => ?_))
 have hsm := built_small hs
 have hfew := built_few hs
 obtain ⟨n1, n2⟩ := hn
 refine wp_chk ⟨by omega, by omega⟩ (wp_bnd (wp_rem (by omega) ?_))
 rw [show n.tmod 5 = n % 5 from Int.tmod_eq_emod_of_nonneg n1]
 refine wp_chk ⟨by omega, by omega⟩ ?_
 have hcalls : 2 ≤ 2 + n % 5 ∧ 2 + n % 5 ≤ 6 := by omega
 generalize 2 + n % 5 = calls at hcalls
 refine wp_bnd (wp_mono (Voyage_spec hsm hi hcalls hF) (fun r8 h8 => ?_))
 obtain ⟨hb, hpl⟩ := h8
 have hbl := hb.len
 refine wp_bnd (wp_mono (moves_voyage hF hsm hfew hb hpl) (fun r10 h10 => ?_))
 obtain ⟨g1, g2, g3⟩ := h10
 rw [g1]
 simp only [ne_eq, not_true_eq_false, decide_false, cond_false]
 refine wp_each (fun _ _ => True) trivial (fun pre x post u nx e _ hnx => ?_) (fun u _ => wp_bnd_eq hA (wp_some rfl))
 have hx : r10.1[pre.length]? = some x := by rw [e]; simp
 obtain ⟨after, lifted, ha, hL, hxe⟩ := g3 _ _ hx
 have hbef := befSt_ok hpl (by omega) pre.length
 have haft := hpl.each _ _ ha
 have hal := haft.len
 obtain ⟨hok, hsort⟩ := callL_ok (lifted := lifted) (StateOk.colIn hbef.1) (StateOk.colIn haft.right)
 have hlen := callL_len (s := s) (before := befSt (r8.2.States.take pre.length)) (after := after) (lifted := lifted) hfew (by omega) (by omega)
 rw [← hxe] at hok hsort hlen
 refine wp_each (fun q (st : Int × Int) => (q = [] ∧ st = (0, -1)) ∨ ∃ a, a ∈ q ∧ st = (phOf a, bayOf s a)) (.inl ⟨rfl, rfl⟩) (fun q y r st nx2 e2 hI hnx2 => ?_) (fun st _ => ?_)
 ·have hy := hok y (by rw [e2]; simp)
  have hxy : ∀ a ∈ q, Rb s a y := fun a ha => by
   rw [e2] at hsort
   exact pairwise_mid hsort a ha
  refine wp_jp (fun j => j = phOf y) (fun K hK => wp_bif (fun h => hK _ (by unfold phOf; rw [h]; rfl)) (fun h => hK _ (by unfold phOf; rw [h]; rfl))) (fun j1 hj1 => ?_)
  subst hj1
  refine wp_jp (fun j => j = bayOf s y) (fun K hK => wp_bif (fun h => ?_) (fun h => ?_)) (fun j2 hj2 => ?_)
  ·obtain ⟨k, c, q1, q2⟩ := hy.col h
   have hk := (List.getElem?_eq_some_iff.1 q2).1
   refine wp_bif (fun h2 => ?_) (fun _ => wp_gidx q1 q2 (hK _ ?_))
   ·simp only [Bool.or_eq_true, decide_eq_true_eq] at h2; omega
   ·unfold bayOf
    rw [show isBox y = true from h, cond_true, colAt_of q1 q2]
  ·obtain ⟨k, c, q1, q2⟩ := hy.cov h
   have hk := (List.getElem?_eq_some_iff.1 q2).1
   refine wp_bif (fun h2 => ?_) (fun _ => wp_gidx q1 q2 (hK _ ?_))
   ·simp only [Bool.or_eq_true, decide_eq_true_eq] at h2; omega
   ·unfold bayOf
    rw [show isBox y = false from h, cond_false, q1, show (k : Int).toNat = k by omega, q2]; rfl
  ·subst hj2
   refine wp_bif (fun h => ?_) (fun _ => hnx2 _ (.inr ⟨y, by simp, rfl⟩))
   simp only [Bool.or_eq_true, Bool.and_eq_true, decide_eq_true_eq] at h
   have hph : 1 ≤ phOf y := by unfold phOf; cases (decide (y.Kind = 3) || decide (y.Kind = 4)) <;> decide
   rcases hI with ⟨_, rfl⟩ | ⟨a, ha, rfl⟩
   ·simp only at h; omega
   ·have := hxy a ha
    unfold Rb at this
    simp only at h; omega
 ·refine wp_bnd (wp_mono (moves_tasks hF hs hok (by omega)) (fun r228 h228 => ?_))
  obtain ⟨t1, t2⟩ := h228
  rw [t1]
  simp only [ne_eq, not_true_eq_false, decide_false, cond_false]
  obtain ⟨u1, u2, u3, u4, u5⟩ := t2
  have hbN : 0 ≤ boxesN x ∧ boxesN x ≤ (x.length : Int) := by
   have := tot_bound (f := fun m : Move => (bif isBox m then 1 else 0 : Int)) (lo := 0) (hi := 1) (l := x) (fun m _ => by cases isBox m <;> decide)
   unfold boxesN; omega
  have hx4 : (x.length : Int) ≤ 4000 := by omega
  refine wp_each (fun q (st : Int × Int) => st.1 = tot Task.Lifts q ∧ st.2 = tot Task.Covers q) ⟨rfl, rfl⟩ (fun q y r st nx2 e2 hI hnx2 => ?_) (fun st hI => ?_)
  ·obtain ⟨i1, i2⟩ := hI
   have hql : q.length ≤ 12 := by rw [e2] at u3; simp at u3; omega
   have hsum : ∀ t ∈ q, TaskB (x.length : Int) t := fun t ht => u2 t (by rw [e2]; simp [ht])
   have hqL := tot_bound (f := Task.Lifts) (l := q) (fun t ht => (hsum t ht).lifts)
   have hqC := tot_bound (f := Task.Covers) (l := q) (fun t ht => (hsum t ht).covs)
   have hmul : (x.length : Int) * (q.length : Int) ≤ 4000 * 12 := Int.mul_le_mul hx4 (by omega) (by omega) (by omega)
   have hy := u2 y (by rw [e2]; simp)
   obtain ⟨y1, y2, y3, y4, y5⟩ := hy
   have hst1 : 0 ≤ st.1 ∧ st.1 ≤ 48000 := by rw [i1]; omega
   have hst2 : 0 ≤ st.2 ∧ st.2 ≤ 48000 := by rw [i2]; omega
   refine wp_chk ⟨by omega, by omega⟩ (wp_chk ⟨by omega, by omega⟩ (wp_chk ⟨by omega, by omega⟩ ?_))
   have d1 : decide (y.Lifts + y.Covers < 1) = false := decide_eq_false (by omega)
   rw [d1]
   simp only [Bool.not_false, Bool.true_and, Bool.false_or]
   have hfin : nx2 (st.1 + y.Lifts, st.2 + y.Covers) = nx2 (st.1 + y.Lifts, st.2 + y.Covers) := rfl
   have hgo : Wp (nx2 (st.1 + y.Lifts, st.2 + y.Covers)) (fun r => r = true) := hnx2 _ ⟨by rw [tot_snoc, i1], by rw [tot_snoc, i2]⟩
   by_cases hq0 : q.length = 0
   ·have hd : decide (0 < (q.length : Int)) = false := decide_eq_false (by omega)
    rw [hd]
    exact wp_bnd (wp_some (wp_bnd (wp_some (wp_bnd (wp_some (wp_bnd (wp_some (wp_bnd (wp_some (wp_bnd (wp_some hgo)))))))))))
   ·have hd : decide (0 < (q.length : Int)) = true := decide_eq_true (by omega)
    rw [hd]
    simp only [Bool.true_and, cond_true]
    obtain ⟨t, ht⟩ : ∃ t, q[q.length - 1]? = some t := ⟨q[q.length - 1]'(by omega), List.getElem?_eq_getElem (by omega)⟩
    have ht2 : r228.1[q.length - 1]? = some t := by rw [e2, List.getElem?_append_left (by omega)]; exact ht
    have hty : tcmp t y < 0 := by
     rw [e2] at u1
     exact pairwise_mid u1 t (List.mem_of_getElem? ht)
    rw [tcmp_lt] at hty
    refine wp_bnd (wp_chk ⟨by omega, by omega⟩ (wp_some (wp_bnd (wp_gidx (m := q.length - 1) (by omega) ht2 (wp_some ?_)))))
    have d2 : decide (y.Phase < t.Phase) = false := decide_eq_false (by omega)
    rw [d2]
    simp only [Bool.not_false, cond_true, Bool.true_and, Bool.false_or]
    refine wp_bnd (wp_chk ⟨by omega, by omega⟩ (wp_some (wp_bnd (wp_gidx (m := q.length - 1) (by omega) ht2 (wp_some ?_)))))
    by_cases hpp : t.Phase = y.Phase
    ·rw [decide_eq_true hpp]
     simp only [cond_true, Bool.true_and]
     refine wp_bnd (wp_chk ⟨by omega, by omega⟩ (wp_some (wp_bnd (wp_gidx (m := q.length - 1) (by omega) ht2 (wp_some ?_)))))
     rw [decide_eq_false (by omega : ¬ y.Bay ≤ t.Bay), cond_false]
     exact hgo
    ·rw [decide_eq_false hpp]
     simp only [cond_false, Bool.false_and]
     exact wp_bnd (wp_some (wp_bnd (wp_some hgo)))
  ·obtain ⟨i1, i2⟩ := hI
   rw [u4] at i1
   rw [u5] at i2
   refine wp_bnd_eq (moves_lifts x (by omega)) ?_
   rw [i1, i2]
   simp only [ne_eq, not_true_eq_false, decide_false, Bool.not_false, cond_true, Bool.false_or]
   refine wp_bnd (wp_chk ⟨by omega, by omega⟩ (wp_some ?_))
   rw [decide_eq_false (by omega), cond_false]
   exact hnx _ trivial
end Go.Proofs.YtmdnkofmmheoaaaGreat
