/-
  What the counts of bound.Groups are.
-/
import Derived.Test.YtlhfflmknlfafaaSpecG
set_option maxRecDepth 100000
namespace Go.Proofs.Ytlhfflmknlfafaa
open Go.RowKit Go.Shelf Go.Sort

theorem sum_mput {κ ν : Type} [DecidableEq κ] (f : κ × ν → Int) (a : κ) (v : ν) : ∀ {l : List (κ × ν)}, (l.map (·.1)).Nodup → ((mput l a v).map f).sum = (l.map f).sum + f (a, v) - (match mget l a with | some w => f (a, w) | none => 0)
  | l, hn => by
    unfold mput
    by_cases h : mhas l a = true
    · rw [if_pos h]
      have key : ∀ l : List (κ × ν), (l.map (·.1)).Nodup → mhas l a = true → ((l.map fun p => if p.1 = a then (a, v) else p).map f).sum = (l.map f).sum + f (a, v) - (match mget l a with | some w => f (a, w) | none => 0) := by
        intro l
        induction l with
        | nil => intro _ h; simp [mhas] at h
        | cons p r ih =>
          intro hn h
          rw [List.map_cons, List.nodup_cons] at hn
          rw [mget_cons]
          by_cases e : p.1 = a
          · have hr : ∀ q ∈ r, ¬ q.1 = a := fun q hq e' => hn.1 (List.mem_map.2 ⟨q, hq, by rw [e', e]⟩)
            have hm : (r.map fun p => if p.1 = a then (a, v) else p) = r := by
              conv => rhs; rw [← List.map_id r]
              exact List.map_congr_left (fun q hq => by rw [if_neg (hr q hq)]; rfl)
            have ep : p = (a, p.2) := by rw [← e]
            simp only [List.map_cons, List.sum_cons, if_pos e, hm]
            rw [← ep]; omega
          · have h' : mhas r a = true := by
              simp only [mhas, List.any_cons, decide_eq_true_eq, Bool.or_eq_true, e, false_or] at h ⊢
              simpa using h
            have := ih hn.2 h'
            simp only [List.map_cons, List.sum_cons, if_neg e]
            simp only [List.map_map] at this ⊢
            omega
      exact key l hn h
    · rw [if_neg h, mget_eq_none (by simpa using h)]
      simp

def hit (g : G7) (z : Int) (x : Box) : Bool := decide (x.Load = g.Load) && decide (x.Discharge = g.Discharge) && decide (x.Size = z)
def boxn (z : Int) (g : G7) (pre : List Box) : Int := (pre.countP (hit g z) : Nat)
def alln (z : Int) (pre : List Box) : Int := (pre.countP (fun x => decide (x.Size = z)) : Nat)
theorem boxn_snoc (z : Int) (g : G7) (pre : List Box) (x : Box) : boxn z g (pre ++ [x]) = boxn z g pre + (if hit g z x then 1 else 0) := by
  unfold boxn; rw [List.countP_append]; by_cases h : hit g z x <;> simp [h]
theorem alln_snoc (z : Int) (pre : List Box) (x : Box) : alln z (pre ++ [x]) = alln z pre + (if decide (x.Size = z) then 1 else 0) := by
  unfold alln; rw [List.countP_append]; by_cases h : x.Size = z <;> simp [h]
theorem boxn_le (z : Int) (g : G7) (pre : List Box) : 0 ≤ boxn z g pre ∧ boxn z g pre ≤ (pre.length : Int) := by
  unfold boxn; have := List.countP_le_length (p := hit g z) (l := pre); omega

/-- The map behind some boxes. -/
structure GMap (pre : List Box) (s : AMap G7 G0) : Prop where
  get : ∀ g, mget (AMap.l s) g = if boxn 40 g pre + boxn 20 g pre = 0 then none else some ⟨g, boxn 40 g pre, boxn 20 g pre⟩
  whole : ((AMap.l s).map (fun e => e.2.Whole)).sum = alln 40 pre
  half : ((AMap.l s).map (fun e => e.2.Half)).sum = alln 20 pre
  len : (AMap.l s).length ≤ pre.length
theorem GMap.start : GMap [] AMap.empty := ⟨fun g => by simp [boxn, AMap.empty, mget], by simp [AMap.empty, alln], by simp [AMap.empty, alln], by simp [AMap.empty]⟩
theorem length_mput {κ ν : Type} [DecidableEq κ] (l : List (κ × ν)) (a : κ) (v : ν) : (mput l a v).length ≤ l.length + 1 := by
  unfold mput; split <;> simp
theorem GMap.old {pre : List Box} {s : AMap G7 G0} (h : GMap pre s) (g : G7) : AMap.get s g (G0.mk (G7.mk 0 0) 0 0) = (if boxn 40 g pre + boxn 20 g pre = 0 then G0.mk (G7.mk 0 0) 0 0 else ⟨g, boxn 40 g pre, boxn 20 g pre⟩) := by
  unfold AMap.get; rw [h.get]; split <;> rfl
theorem GMap.old2 {pre : List Box} {s : AMap G7 G0} (h : GMap pre s) (g : G7) : (AMap.get s g (G0.mk (G7.mk 0 0) 0 0)).Whole = boxn 40 g pre ∧ (AMap.get s g (G0.mk (G7.mk 0 0) 0 0)).Half = boxn 20 g pre := by
  rw [h.old]
  have h1 := boxn_le 40 g pre
  have h2 := boxn_le 20 g pre
  split
  · exact ⟨by simp only; omega, by simp only; omega⟩
  · exact ⟨rfl, rfl⟩

theorem hit_self (x : Box) (z : Int) : hit (G7.mk x.Load x.Discharge) z x = decide (x.Size = z) := by simp [hit]
theorem hit_other {x : Box} {g : G7} (z : Int) (h : ¬ G7.mk x.Load x.Discharge = g) : hit g z x = false := by
  cases hb : hit g z x with
  | false => rfl
  | true =>
    exfalso
    simp only [hit, Bool.and_eq_true, decide_eq_true_eq] at hb
    apply h
    cases g
    simp only at hb
    rw [hb.1.1, hb.1.2]
/-- One box more, of 40 or 20 feet. -/
theorem GMap.put {pre : List Box} {s : AMap G7 G0} (h : GMap pre s) (x : Box) (hx : x.Size = 40 ∨ x.Size = 20) :
    GMap (pre ++ [x]) (AMap.put s (G7.mk x.Load x.Discharge) (G0.mk (G7.mk x.Load x.Discharge) (boxn 40 (G7.mk x.Load x.Discharge) pre + (if decide (x.Size = 40) then 1 else 0)) (boxn 20 (G7.mk x.Load x.Discharge) pre + (if decide (x.Size = 20) then 1 else 0)))) := by
  have h40 := boxn_le 40 (G7.mk x.Load x.Discharge) pre
  have h20 := boxn_le 20 (G7.mk x.Load x.Discharge) pre
  refine ⟨fun g => ?_, ?_, ?_, ?_⟩
  · show mget (mput (AMap.l s) _ _) g = _
    rw [mget_mput, boxn_snoc, boxn_snoc]
    by_cases e : G7.mk x.Load x.Discharge = g
    · subst e
      have hone : (if decide (x.Size = 40) = true then (1 : Int) else 0) + (if decide (x.Size = 20) = true then 1 else 0) = 1 := by
        rcases hx with hx | hx <;> rw [hx] <;> rfl
      have hne : ¬ (boxn 40 (G7.mk x.Load x.Discharge) pre + (if decide (x.Size = 40) = true then 1 else 0) + (boxn 20 (G7.mk x.Load x.Discharge) pre + (if decide (x.Size = 20) = true then 1 else 0)) = 0) := by omega
      rw [if_pos rfl, hit_self, hit_self, if_neg hne]
    · rw [if_neg e, hit_other 40 e, hit_other 20 e, h.get]
      simp
  · show ((mput (AMap.l s) _ _).map _).sum = _
    rw [sum_mput _ _ _ s.nd, h.whole, h.get, alln_snoc]
    by_cases e0 : boxn 40 (G7.mk x.Load x.Discharge) pre + boxn 20 (G7.mk x.Load x.Discharge) pre = 0
    · rw [if_pos e0]; simp only; omega
    · rw [if_neg e0]; simp only; omega
  · show ((mput (AMap.l s) _ _).map _).sum = _
    rw [sum_mput _ _ _ s.nd, h.half, h.get, alln_snoc]
    by_cases e0 : boxn 40 (G7.mk x.Load x.Discharge) pre + boxn 20 (G7.mk x.Load x.Discharge) pre = 0
    · rw [if_pos e0]; simp only; omega
    · rw [if_neg e0]; simp only; omega
  · have := length_mput (AMap.l s) (G7.mk x.Load x.Discharge) (G0.mk (G7.mk x.Load x.Discharge) (boxn 40 (G7.mk x.Load x.Discharge) pre + (if decide (x.Size = 40) then 1 else 0)) (boxn 20 (G7.mk x.Load x.Discharge) pre + (if decide (x.Size = 20) then 1 else 0)))
    have := h.len
    show (mput _ _ _).length ≤ _
    rw [List.length_append, List.length_singleton]; omega
/-- One box more, of another size. -/
theorem GMap.skip {pre : List Box} {s : AMap G7 G0} (h : GMap pre s) (x : Box) (h40 : ¬ x.Size = 40) (h20 : ¬ x.Size = 20) : GMap (pre ++ [x]) s := by
  have e1 : ∀ g, hit g 40 x = false := fun g => by simp [hit, h40]
  have e2 : ∀ g, hit g 20 x = false := fun g => by simp [hit, h20]
  refine ⟨fun g => by rw [boxn_snoc, boxn_snoc, e1, e2, h.get]; simp, by rw [alln_snoc, h.whole]; simp [h40], by rw [alln_snoc, h.half]; simp [h20], ?_⟩
  have := h.len
  rw [List.length_append]; omega
theorem chk_ok {β : Type} {z : Int} {k : Int → Option β} (h : -9223372036854775808 ≤ z ∧ z ≤ 9223372036854775807) : chk z k = k z := by
  unfold chk inI64
  rw [decide_eq_true h.1, decide_eq_true h.2, Bool.and_self, cond_true]
def gbody (y : Box) (_ : Nat) (s : AMap G7 G0) (nx : AMap G7 G0 → Option (List G0)) : Option (List G0) :=
    jp (fun kj =>
      bnd (some (AMap.get s (G7.mk y.Load y.Discharge) (G0.mk (G7.mk 0 0) 0 0))) fun v =>
      jp (fun kj2 =>
        bif decide (y.Size = 40) then (chk (v.Whole + 1) fun w => kj2 (w, v.Half))
        else (bif decide (y.Size = 20) then (chk (v.Half + 1) fun w => kj2 (v.Whole, w)) else (kj (s, v.Whole, v.Half)))) fun (j : Int × Int) =>
      kj ((AMap.put s (G7.mk y.Load y.Discharge) (G0.mk (G7.mk y.Load y.Discharge) j.1 j.2)), j.1, j.2)) fun (j : (AMap G7 G0) × Int × Int) =>
    nx j.1
theorem gbody_step {pre : List Box} {s : AMap G7 G0} (h : GMap pre s) (y : Box) (i : Nat) (hl : pre.length ≤ 1000000) (nx : AMap G7 G0 → Option (List G0)) : ∃ s', GMap (pre ++ [y]) s' ∧ gbody y i s nx = nx s' := by
  obtain ⟨e1, e2⟩ := h.old2 (G7.mk y.Load y.Discharge)
  have h40 := boxn_le 40 (G7.mk y.Load y.Discharge) pre
  have h20 := boxn_le 20 (G7.mk y.Load y.Discharge) pre
  by_cases a : y.Size = 40
  · have b : ¬ y.Size = 20 := by omega
    have hp := h.put y (.inl a)
    rw [if_pos (decide_eq_true a), if_neg (by rw [decide_eq_false b]; exact Bool.false_ne_true), Int.add_zero] at hp
    refine ⟨_, hp, ?_⟩
    unfold gbody
    simp only [jp, bnd, e1, e2]
    rw [decide_eq_true a, cond_true, chk_ok ⟨by omega, by omega⟩]
  · by_cases b : y.Size = 20
    · have hp := h.put y (.inr b)
      rw [if_neg (by rw [decide_eq_false a]; exact Bool.false_ne_true), if_pos (decide_eq_true b), Int.add_zero] at hp
      refine ⟨_, hp, ?_⟩
      unfold gbody
      simp only [jp, bnd, e1, e2]
      rw [decide_eq_false a, cond_false, decide_eq_true b, cond_true, chk_ok ⟨by omega, by omega⟩]
    · refine ⟨s, h.skip y a b, ?_⟩
      unfold gbody
      simp only [jp, bnd]
      rw [decide_eq_false a, cond_false, decide_eq_false b, cond_false]
theorem groups_each (kx : AMap G7 G0 → Option (List G0)) : ∀ (xs pre : List Box) (i : Nat) (s : AMap G7 G0), GMap pre s → pre.length + xs.length ≤ 1000000 → ∃ m, GMap (pre ++ xs) m ∧ each gbody kx xs i s = kx m
  | [], pre, i, s, h, _ => ⟨s, by simpa using h, rfl⟩
  | x :: xs, pre, i, s, h, hl => by
    rw [List.length_cons] at hl
    obtain ⟨s', h', e⟩ := gbody_step h x i (by omega) (each gbody kx xs (i + 1))
    obtain ⟨m, hm, e2⟩ := groups_each kx xs (pre ++ [x]) (i + 1) s' h' (by rw [List.length_append, List.length_singleton]; omega)
    refine ⟨m, by simpa using hm, ?_⟩
    rw [each, e, e2]
/-- The groups of at most a million boxes. -/
theorem groups_spec (boxes : List Box) (hl : boxes.length ≤ 1000000) : ∃ m, GMap boxes m ∧ S_bound_Groups boxes = some (gsort ((AMap.l m).map (·.2))) := by
  obtain ⟨m, hm, e⟩ := groups_each (fun s => need (decide ((AMap.l s).length * 32 ≤ 140737488355328 ∧ (AMap.l s).length ≤ maxLen)) <| some (gsort ((AMap.l s).map (·.2)))) boxes [] 0 AMap.empty GMap.start (by simpa using hl)
  refine ⟨m, by simpa using hm, ?_⟩
  have hlen := hm.len
  rw [List.nil_append] at hlen
  have hd : decide ((AMap.l m).length * 32 ≤ 140737488355328 ∧ (AMap.l m).length ≤ maxLen) = true := by
    rw [decide_eq_true_eq]
    have : maxLen = 9223372036854775807 := rfl
    omega
  unfold S_bound_Groups
  refine Eq.trans e ?_
  simp only [hd, need_tt]
theorem GMap.entry {pre : List Box} {s : AMap G7 G0} (h : GMap pre s) {e : G7 × G0} (he : e ∈ AMap.l s) : e.2 = ⟨e.1, boxn 40 e.1 pre, boxn 20 e.1 pre⟩ ∧ boxn 40 e.1 pre + boxn 20 e.1 pre ≠ 0 := by
  obtain ⟨j, hj⟩ := List.mem_iff_getElem?.1 he
  have h1 := (mget_at s.nd (j := j) (a := e.1) (v := e.2) hj).1
  rw [h.get] at h1
  by_cases h0 : boxn 40 e.1 pre + boxn 20 e.1 pre = 0
  · rw [if_pos h0] at h1; cases h1
  · rw [if_neg h0] at h1; exact ⟨(Option.some.inj h1).symm, h0⟩
theorem sum_perm {l q : List Int} (h : l.Perm q) : l.sum = q.sum := by
  induction h with
  | nil => rfl
  | cons x _ ih => simp [ih]
  | swap x y l => simp; omega
  | trans _ _ h1 h2 => exact h1.trans h2
/-- The groups of boxes: their counts, their order, their sums. -/
theorem groups_facts (boxes : List Box) (hl : boxes.length ≤ 1000000) : ∃ l, S_bound_Groups boxes = some l ∧ l.length ≤ boxes.length ∧
    (∀ c ∈ l, c.Whole = boxn 40 c.G7 boxes ∧ c.Half = boxn 20 c.G7 boxes ∧ c.Whole + c.Half ≠ 0) ∧
    (∀ i j (_ : i < j) (hj : j < l.length), ltOf gcmp l[i] l[j] = true) ∧ (l.map (·.Whole)).sum = alln 40 boxes ∧ (l.map (·.Half)).sum = alln 20 boxes := by
  obtain ⟨m, hm, e⟩ := groups_spec boxes hl
  have hp := gsort_perm ((AMap.l m).map (·.2))
  have hmem : ∀ c ∈ gsort ((AMap.l m).map (·.2)), ∃ x ∈ AMap.l m, x.2 = c := fun c hc => List.mem_map.1 (hp.mem_iff.1 hc)
  refine ⟨_, e, ?_, fun c hc => ?_, fun i j hij hj => ?_, ?_, ?_⟩
  · rw [hp.length_eq, List.length_map]; exact hm.len
  · obtain ⟨x, hx, rfl⟩ := hmem c hc
    obtain ⟨h1, h2⟩ := hm.entry hx
    rw [h1]; exact ⟨rfl, rfl, h2⟩
  · have hle := (List.pairwise_iff_getElem.1 (gsort_sorted ((AMap.l m).map (·.2)))) i j (by omega) hj hij
    unfold gle at hle
    have hnd : (gsort ((AMap.l m).map (·.2))).Pairwise (fun a b => a.G7 ≠ b.G7) := by
      refine List.Perm.pairwise hp.symm ?_ (fun h => h.symm)
      rw [List.pairwise_map]
      have := m.nd
      rw [List.nodup_iff_pairwise_ne, List.pairwise_map] at this
      refine List.Pairwise.imp_of_mem (fun {a b} ha hb hab => ?_) this
      rw [(hm.entry ha).1, (hm.entry hb).1]; exact hab
    have hne := (List.pairwise_iff_getElem.1 hnd) i j (by omega) hj hij
    rw [gcmp_lt] at hle ⊢
    simp only [decide_eq_false_iff_not, decide_eq_true_eq] at hle ⊢
    generalize (gsort ((AMap.l m).map (·.2)))[i] = a at *
    generalize (gsort ((AMap.l m).map (·.2)))[j] = b at *
    have : ¬ (a.G7.Load = b.G7.Load ∧ a.G7.Discharge = b.G7.Discharge) := fun h => hne (by
      obtain ⟨⟨al, ad⟩, _, _⟩ := a
      obtain ⟨⟨bl, bd⟩, _, _⟩ := b
      simp only at h
      rw [h.1, h.2])
    omega
  · rw [sum_perm (hp.map _), List.map_map]; exact hm.whole
  · rw [sum_perm (hp.map _), List.map_map]; exact hm.half
end Go.Proofs.Ytlhfflmknlfafaa
