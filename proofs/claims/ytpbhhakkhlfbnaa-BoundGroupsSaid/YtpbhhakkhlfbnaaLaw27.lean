/-
  BoundGroups: the law's plain mathematics.
-/
import Derived.Test.YtpbhhakkhlfbnaaAwake27
import Derived.Test.YtpbhhakkhlfbnaaLawG
set_option maxRecDepth 100000
namespace Go.Proofs.Ytpbhhakkhlfbnaa
open Go.RowKit Go.Shelf Go.Sort

/-- The counts of a group, box by box. -/
theorem count_each {β : Type} (g : Group) (kx : Int × Int → Option β) : ∀ (xs : List Box) (pre : List Box) (i : Nat), pre.length + xs.length ≤ 1000000 →
    each (fun (y : Box) (_ : Nat) (s : Int × Int) nx =>
        jp (fun kj =>
          bif ((decide (y.Load = g.Load)) && (decide (y.Discharge = g.Discharge))) then
          (bif decide (y.Size = 40) then (chk (s.1 + 1) fun v => kj (v, s.2)) else (bif decide (y.Size = 20) then (chk (s.2 + 1) fun v => kj (s.1, v)) else (kj (s.1, s.2))))
          else (kj (s.1, s.2))) fun (j : Int × Int) => nx (j.1, j.2)) kx xs i (boxn 40 g pre, boxn 20 g pre) = kx (boxn 40 g (pre ++ xs), boxn 20 g (pre ++ xs))
  | [], pre, i, _ => by simp [each]
  | x :: xs, pre, i, hl => by
    rw [List.length_cons] at hl
    have ih := count_each g kx xs (pre ++ [x]) (i + 1) (by rw [List.length_append, List.length_singleton]; omega)
    have h40 := boxn_le 40 g pre
    have h20 := boxn_le 20 g pre
    rw [List.append_assoc, List.singleton_append, boxn_snoc, boxn_snoc] at ih
    rw [each]
    simp only [jp]
    unfold hit at ih
    cases hg : (decide (x.Load = g.Load) && decide (x.Discharge = g.Discharge)) with
    | false =>
      rw [hg] at ih
      simp only [Bool.false_and, Bool.false_eq_true, if_false, Int.add_zero] at ih
      rw [cond_false]; exact ih
    | true =>
      rw [hg] at ih
      simp only [Bool.true_and] at ih
      rw [cond_true]
      by_cases a : x.Size = 40
      · have b : ¬ x.Size = 20 := by omega
        rw [if_pos (decide_eq_true a), if_neg (by rw [decide_eq_false b]; exact Bool.false_ne_true), Int.add_zero] at ih
        rw [decide_eq_true a, cond_true, chk_ok ⟨by omega, by omega⟩]; exact ih
      · by_cases b : x.Size = 20
        · rw [if_neg (by rw [decide_eq_false a]; exact Bool.false_ne_true), if_pos (decide_eq_true b), Int.add_zero] at ih
          rw [decide_eq_false a, cond_false, decide_eq_true b, cond_true, chk_ok ⟨by omega, by omega⟩]; exact ih
        · rw [if_neg (by rw [decide_eq_false a]; exact Bool.false_ne_true), if_neg (by rw [decide_eq_false b]; exact Bool.false_ne_true), Int.add_zero, Int.add_zero] at ih
          rw [decide_eq_false a, cond_false, decide_eq_false b, cond_false]; exact ih
theorem alln_cons (z : Int) (x : Box) (xs : List Box) : alln z (x :: xs) = (if decide (x.Size = z) then 1 else 0) + alln z xs := by
  unfold alln; rw [List.countP_cons]; by_cases h : x.Size = z <;> simp [h]; omega
theorem alln_le (z : Int) (xs : List Box) : 0 ≤ alln z xs ∧ alln z xs ≤ (xs.length : Int) := by
  unfold alln; have := List.countP_le_length (p := fun x : Box => decide (x.Size = z)) (l := xs); omega
/-- All boxes taken off again. -/
theorem down_each {β : Type} (kx : Int × Int → Option β) : ∀ (xs : List Box) (i : Nat) (p q : Int), (-1000000 ≤ p - (xs.length : Int) ∧ p ≤ 1000000) → (-1000000 ≤ q - (xs.length : Int) ∧ q ≤ 1000000) →
    each (fun (y : Box) (_ : Nat) (s : Int × Int) nx =>
        jp (fun kj =>
          bif decide (y.Size = 40) then (chk (s.1 - 1) fun v => kj (v, s.2)) else (bif decide (y.Size = 20) then (chk (s.2 - 1) fun v => kj (s.1, v)) else (kj (s.1, s.2)))) fun (j : Int × Int) => nx (j.1, j.2)) kx xs i (p, q) = kx (p - alln 40 xs, q - alln 20 xs)
  | [], i, p, q, _, _ => by simp [each, alln]
  | x :: xs, i, p, q, hp, hq => by
    rw [List.length_cons] at hp hq
    rw [each]
    simp only [jp]
    rw [alln_cons, alln_cons]
    by_cases a : x.Size = 40
    · have b : ¬ x.Size = 20 := by omega
      rw [if_pos (decide_eq_true a), if_neg (by rw [decide_eq_false b]; exact Bool.false_ne_true), Int.zero_add, decide_eq_true a, cond_true, chk_ok ⟨by omega, by omega⟩]
      have ih := down_each kx xs (i + 1) (p - 1) q (by omega) (by omega)
      rw [Int.sub_sub] at ih
      exact ih
    · by_cases b : x.Size = 20
      · rw [if_neg (by rw [decide_eq_false a]; exact Bool.false_ne_true), if_pos (decide_eq_true b), Int.zero_add, decide_eq_false a, cond_false, decide_eq_true b, cond_true, chk_ok ⟨by omega, by omega⟩]
        have ih := down_each kx xs (i + 1) p (q - 1) (by omega) (by omega)
        rw [Int.sub_sub q] at ih
        exact ih
      · rw [if_neg (by rw [decide_eq_false a]; exact Bool.false_ne_true), if_neg (by rw [decide_eq_false b]; exact Bool.false_ne_true), Int.zero_add, Int.zero_add, decide_eq_false a, cond_false, decide_eq_false b, cond_false]
        exact down_each kx xs (i + 1) p q (by omega) (by omega)
theorem cross_self (a : Group) : M_bound_Cross a a = some false := by
  unfold M_bound_Cross
  rw [decide_eq_false (by omega : ¬ a.Load < a.Load), Bool.false_and, Bool.false_and]
theorem cross_both (a b : Group) : ∃ p q, M_bound_Cross a b = some p ∧ M_bound_Cross b a = some q ∧ (p && q) = false := by
  refine ⟨_, _, rfl, rfl, ?_⟩
  by_cases h : a.Load < b.Load
  · rw [decide_eq_false (by omega : ¬ b.Load < a.Load)]; simp
  · rw [decide_eq_false h]; simp
/-- What comes behind the loops. -/
theorem tail27 (a b : Group) (s : Int × Int) (h1 : s.1 = 0) (h2 : s.2 = 0) :
    (bnd (bif ((decide (s.1 = 0)) && (decide (s.2 = 0))) then M_bound_Cross a a else some default) fun r97 =>
        bnd (bif (((decide (s.1 = 0)) && (decide (s.2 = 0))) && (!r97)) then M_bound_Cross a b else some default) fun r98 =>
        bnd (bif ((((decide (s.1 = 0)) && (decide (s.2 = 0))) && (!r97)) && r98) then M_bound_Cross b a else some default) fun r99 =>
        bnd (bif ((((decide (s.1 = 0)) && (decide (s.2 = 0))) && (!r97)) && (!(r98 && r99))) then M_twistlocklaw27_awake 60 else some default) fun r100 =>
        some (((((decide (s.1 = 0)) && (decide (s.2 = 0))) && (!r97)) && (!(r98 && r99))) && r100)) = some true := by
  obtain ⟨p, q, e1, e2, e3⟩ := cross_both a b
  rw [decide_eq_true h1, decide_eq_true h2]
  simp only [Bool.and_self, cond_true, cross_self, bnd, Bool.not_false, Bool.true_and, e1]
  cases p with
  | false => simp only [Bool.false_and, cond_false, bnd, Bool.not_false, cond_true, awake27, Bool.and_self]
  | true =>
    have : q = false := by simpa using e3
    subst this
    simp only [cond_true, e2, bnd, Bool.and_false, Bool.not_false, awake27, Bool.and_self]
/-- What is asked of a group behind the count of its boxes. -/
def tail11 {β : Type} (l : List bound_Count) (y11 : bound_Count) (i11 : Nat) (s11 s41 : Int × Int) (no : β) (nx11 : Int × Int → Option β) : Option β :=
        bnd (bif (!((decide (s41.1 ≠ y11.Whole)) || (decide (s41.2 ≠ y11.Half)))) then chk (s41.1 + s41.2) some else some 0) fun v54 =>
        bnd (bif ((!(((decide (s41.1 ≠ y11.Whole)) || (decide (s41.2 ≠ y11.Half))) || (decide (v54 = 0)))) && (decide (0 < (i11 : Int)))) then chk ((i11 : Int) - 1) some else some 0) fun v55 =>
        bnd (bif ((!(((decide (s41.1 ≠ y11.Whole)) || (decide (s41.2 ≠ y11.Half))) || (decide (v54 = 0)))) && (decide (0 < (i11 : Int)))) then gidx l v55 some else some default) fun y56 =>
        bnd (bif (((!(((decide (s41.1 ≠ y11.Whole)) || (decide (s41.2 ≠ y11.Half))) || (decide (v54 = 0)))) && (decide (0 < (i11 : Int)))) && !(decide (y56.Group.Load < y11.Group.Load))) then chk ((i11 : Int) - 1) some else some 0) fun v57 =>
        bnd (bif (((!(((decide (s41.1 ≠ y11.Whole)) || (decide (s41.2 ≠ y11.Half))) || (decide (v54 = 0)))) && (decide (0 < (i11 : Int)))) && !(decide (y56.Group.Load < y11.Group.Load))) then gidx l v57 some else some default) fun y58 =>
        bnd (bif ((((!(((decide (s41.1 ≠ y11.Whole)) || (decide (s41.2 ≠ y11.Half))) || (decide (v54 = 0)))) && (decide (0 < (i11 : Int)))) && !(decide (y56.Group.Load < y11.Group.Load))) && (decide (y58.Group.Load = y11.Group.Load))) then chk ((i11 : Int) - 1) some else some 0) fun v59 =>
        bnd (bif ((((!(((decide (s41.1 ≠ y11.Whole)) || (decide (s41.2 ≠ y11.Half))) || (decide (v54 = 0)))) && (decide (0 < (i11 : Int)))) && !(decide (y56.Group.Load < y11.Group.Load))) && (decide (y58.Group.Load = y11.Group.Load))) then gidx l v59 some else some default) fun y60 =>
        bif ((((decide (s41.1 ≠ y11.Whole)) || (decide (s41.2 ≠ y11.Half))) || (decide (v54 = 0))) || ((decide (0 < (i11 : Int))) && (!((decide (y56.Group.Load < y11.Group.Load)) || ((decide (y58.Group.Load = y11.Group.Load)) && (decide (y60.Group.Discharge < y11.Group.Discharge))))))) then
        (some no)
        else
        (chk (s11.1 + s41.1) fun v62 =>
          chk (s11.2 + s41.2) fun v63 =>
          nx11 (v62, v63))
theorem gidx_at {α β : Type} {l : List α} {i : Nat} {x : α} {k : α → Option β} (h : l[i]? = some x) : gidx l (i : Int) k = k x := by
  unfold gidx
  rw [decide_eq_true (by omega : (0 : Int) ≤ i), cond_true, Int.toNat_natCast, h]; rfl
theorem tail11_ok {β : Type} {l : List bound_Count} {y : bound_Count} {i : Nat} {s : Int × Int} {w h : Int} {no : β} {nx : Int × Int → Option β} (hw : w = y.Whole) (hh : h = y.Half) (hne : w + h ≠ 0) (hb : 0 ≤ w ∧ w ≤ 1000000) (hb2 : 0 ≤ h ∧ h ≤ 1000000) (hs : 0 ≤ s.1 ∧ s.1 ≤ 1000000000) (hs2 : 0 ≤ s.2 ∧ s.2 ≤ 1000000000) (hi : i ≤ 1000000)
    (hp : ∀ j, i = j + 1 → ∃ x, l[j]? = some x ∧ (x.Group.Load < y.Group.Load ∨ (x.Group.Load = y.Group.Load ∧ x.Group.Discharge < y.Group.Discharge))) : tail11 l y i s (w, h) no nx = nx (s.1 + w, s.2 + h) := by
  unfold tail11
  simp only
  rw [decide_eq_false (by omega : ¬ w ≠ y.Whole), decide_eq_false (by omega : ¬ h ≠ y.Half)]
  simp only [Bool.or_false, Bool.not_false, cond_true, Bool.true_and]
  rw [chk_ok ⟨by omega, by omega⟩]
  simp only [bnd, decide_eq_false hne, Bool.false_or, Bool.not_false, Bool.true_and]
  cases i with
  | zero =>
    rw [decide_eq_false (by omega : ¬ 0 < ((0 : Nat) : Int))]
    simp only [cond_false, Bool.false_and, bnd]
    rw [chk_ok ⟨by omega, by omega⟩, chk_ok ⟨by omega, by omega⟩]
  | succ j =>
    obtain ⟨x, hx, hlt⟩ := hp j rfl
    have e0 : ((j + 1 : Nat) : Int) - 1 = (j : Int) := by omega
    rw [decide_eq_true (by omega : 0 < ((j + 1 : Nat) : Int)), e0]
    simp only [cond_true, Bool.true_and]
    rw [chk_ok ⟨by omega, by omega⟩]
    simp only [bnd]
    rw [gidx_at hx]
    simp only [bnd]
    by_cases h1 : x.Group.Load < y.Group.Load
    · simp only [decide_eq_true h1, Bool.not_true, cond_false, bnd, Bool.false_and, Bool.true_or]
      rw [chk_ok ⟨by omega, by omega⟩, chk_ok ⟨by omega, by omega⟩]
    · have h2 : x.Group.Load = y.Group.Load := by omega
      have h3 : x.Group.Discharge < y.Group.Discharge := by omega
      simp only [decide_eq_false h1, Bool.not_false, cond_true, Bool.false_or, Bool.true_and]
      rw [chk_ok ⟨by omega, by omega⟩]
      rw [gidx_at hx]
      simp only [decide_eq_true h2, Bool.true_and, cond_true]
      rw [gidx_at hx]
      simp only [decide_eq_true h3, Bool.not_true, cond_false]
      rw [chk_ok ⟨by omega, by omega⟩]
def lawB (boxes : List Box) (l : List bound_Count) (y : bound_Count) (i : Nat) (s : Int × Int) (nx : Int × Int → Option Bool) : Option Bool :=
  each (fun (x : Box) (_ : Nat) (s : Int × Int) nx =>
        jp (fun kj =>
          bif ((decide (x.Load = y.Group.Load)) && (decide (x.Discharge = y.Group.Discharge))) then
          (bif decide (x.Size = 40) then (chk (s.1 + 1) fun v => kj (v, s.2)) else (bif decide (x.Size = 20) then (chk (s.2 + 1) fun v => kj (s.1, v)) else (kj (s.1, s.2))))
          else (kj (s.1, s.2))) fun (j : Int × Int) => nx (j.1, j.2)) (fun s41 => tail11 l y i s s41 false nx) boxes 0 (0, 0)
theorem outer27 (boxes : List Box) (l : List bound_Count) (kx : Int × Int → Option Bool) (hb : boxes.length ≤ 40) (hl : l.length ≤ 40)
    (hc : ∀ c ∈ l, c.Whole = boxn 40 c.Group boxes ∧ c.Half = boxn 20 c.Group boxes ∧ c.Whole + c.Half ≠ 0) (ho : ∀ i j (_ : i < j) (hj : j < l.length), ltOf gcmp l[i] l[j] = true) :
    ∀ (xs pre : List bound_Count) (P Q : Int), l = pre ++ xs → (0 ≤ P ∧ P ≤ 40 * (pre.length : Int)) → (0 ≤ Q ∧ Q ≤ 40 * (pre.length : Int)) → each (lawB boxes l) kx xs pre.length (P, Q) = kx (P + (xs.map (·.Whole)).sum, Q + (xs.map (·.Half)).sum)
  | [], pre, P, Q, _, _, _ => by simp [each]
  | c :: xs, pre, P, Q, he, hP, hQ => by
    obtain ⟨h1, h2, h3⟩ := hc c (by rw [he]; simp)
    have b1 := boxn_le 40 c.Group boxes
    have b2 := boxn_le 20 c.Group boxes
    have hpl : pre.length + 1 ≤ 40 := by rw [he, List.length_append, List.length_cons] at hl; omega
    have ih := outer27 boxes l kx hb hl hc ho xs (pre ++ [c]) (P + boxn 40 c.Group boxes) (Q + boxn 20 c.Group boxes) (by rw [he]; simp) (by rw [List.length_append, List.length_singleton]; omega) (by rw [List.length_append, List.length_singleton]; omega)
    rw [each]
    unfold lawB
    have hce := count_each (β := Bool) c.Group (fun s41 => tail11 l c pre.length (P, Q) s41 false (each (lawB boxes l) kx xs (pre.length + 1))) boxes [] 0 (by rw [List.length_nil]; omega)
    refine Eq.trans hce ?_
    rw [List.nil_append]
    rw [tail11_ok h1.symm h2.symm (by omega) (by omega) (by omega) (by simp only; omega) (by simp only; omega) (by omega) (fun j hj => ?_)]
    · rw [List.length_append, List.length_singleton] at ih
      refine Eq.trans ih ?_
      rw [List.map_cons, List.map_cons, List.sum_cons, List.sum_cons, h1, h2, Int.add_assoc, Int.add_assoc]
    · have hj1 : j < l.length := by rw [he, List.length_append, List.length_cons]; omega
      have hj2 : j + 1 < l.length := by rw [he, List.length_append, List.length_cons]; omega
      have hlc : l[j + 1] = c := by
        have : l[j + 1]? = some c := by rw [he, ← hj]; simp
        rw [List.getElem?_eq_getElem hj2] at this; exact Option.some.inj this
      refine ⟨l[j], List.getElem?_eq_getElem hj1, ?_⟩
      have := ho j (j + 1) (by omega) hj2
      rw [gcmp_lt, hlc] at this
      simpa using this
/-- The law. -/
theorem law27 (boxes : List Box) (a b : Group) : M_twistlocklaw27_BoundGroups 60 boxes a b = some true := by
  unfold M_twistlocklaw27_BoundGroups
  by_cases h : 40 < (boxes.length : Int)
  · rw [decide_eq_true h, cond_true, awake27]; rfl
  · rw [decide_eq_false h, cond_false]
    have hb : boxes.length ≤ 40 := by omega
    obtain ⟨l, e, hl, hc, ho, hw, hh⟩ := groups_facts boxes (by omega)
    rw [e]
    have a1 := alln_le 40 boxes
    have a2 := alln_le 20 boxes
    refine Eq.trans (outer27 boxes l _ hb (by omega) hc ho l [] 0 0 rfl ⟨by omega, by simp⟩ ⟨by omega, by simp⟩) ?_
    rw [Int.zero_add, Int.zero_add, hw, hh]
    refine Eq.trans (down_each (β := Bool) _ boxes 0 (alln 40 boxes) (alln 20 boxes) (by omega) (by omega)) ?_
    exact tail27 a b _ (by simp only; omega) (by simp only; omega)
end Go.Proofs.Ytpbhhakkhlfbnaa
