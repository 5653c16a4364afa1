/-
  What bound.Groups returns: the counts of the groups, in order.
-/
import Derived.Test.YtlhfflmknlfafaaSpecA
set_option maxRecDepth 100000
namespace Go.Proofs.Ytlhfflmknlfafaa
open Go.RowKit Go.Shelf Go.Sort

def gcmp (a b : G0) : Int :=
  bif decide (a.G7.Load < b.G7.Load) then -1 else bif decide (b.G7.Load < a.G7.Load) then 1 else
  bif decide (a.G7.Discharge < b.G7.Discharge) then -1 else bif decide (b.G7.Discharge < a.G7.Discharge) then 1 else 0
theorem gcmp_model (a b : G0) : M_bound_Groups_1 a b = some (gcmp a b) := by
  have h1 : decide (a.G7.Load ≠ a.G7.Load) = false := by simp
  have h2 : decide (b.G7.Load ≠ b.G7.Load) = false := by simp
  have h3 : decide (a.G7.Discharge ≠ a.G7.Discharge) = false := by simp
  have h4 : decide (b.G7.Discharge ≠ b.G7.Discharge) = false := by simp
  simp only [M_bound_Groups_1, M_bound_compare, M_cmp_Compare_int, M_cmp_isNaN_int, bnd, h1, h2, h3, h4, cond_false]
  unfold gcmp
  cases decide (a.G7.Load < b.G7.Load) <;> cases decide (b.G7.Load < a.G7.Load) <;> cases decide (a.G7.Discharge < b.G7.Discharge) <;> cases decide (b.G7.Discharge < a.G7.Discharge) <;> rfl
theorem gcmp_lt (a b : G0) : ltOf gcmp a b = decide (a.G7.Load < b.G7.Load ∨ (a.G7.Load = b.G7.Load ∧ a.G7.Discharge < b.G7.Discharge)) := by
  unfold ltOf gcmp
  by_cases h1 : a.G7.Load < b.G7.Load
  · simp [h1]
  · by_cases h2 : b.G7.Load < a.G7.Load
    · simp [h1, h2]; omega
    · have : a.G7.Load = b.G7.Load := by omega
      by_cases h3 : a.G7.Discharge < b.G7.Discharge
      · simp [this, h3]
      · by_cases h4 : b.G7.Discharge < a.G7.Discharge <;> simp [this, h3, h4]
theorem gcmp_order : SWO (ltOf gcmp) where
  irrefl x := by rw [gcmp_lt]; simp
  trans x y z := by rw [gcmp_lt, gcmp_lt, gcmp_lt]; simp only [decide_eq_true_eq]; omega
  ntrans x y z := by rw [gcmp_lt, gcmp_lt, gcmp_lt]; simp only [decide_eq_false_iff_not]; omega

def gins (x : G0) : List G0 → List G0
  | [] => [x]
  | y :: r => bif ltOf gcmp y x then y :: gins x r else x :: y :: r
def gsort : List G0 → List G0
  | [] => []
  | x :: r => gins x (gsort r)
theorem gins_perm (x : G0) : ∀ l, (gins x l).Perm (x :: l)
  | [] => .refl _
  | y :: r => by
    unfold gins
    cases ltOf gcmp y x with
    | true => exact (List.Perm.cons y (gins_perm x r)).trans (List.Perm.swap x y r)
    | false => exact .refl _
theorem gsort_perm : ∀ l, (gsort l).Perm l
  | [] => .refl _
  | x :: r => (gins_perm x _).trans ((gsort_perm r).cons x)
def gle (a b : G0) : Prop := ltOf gcmp b a = false
theorem gins_sorted (x : G0) : ∀ {l}, l.Pairwise gle → (gins x l).Pairwise gle
  | [], _ => by simp [gins]
  | y :: r, h => by
    unfold gins
    cases hc : ltOf gcmp y x with
    | true =>
      refine List.pairwise_cons.2 ⟨fun z hz => ?_, gins_sorted x (List.pairwise_cons.1 h).2⟩
      rcases List.mem_cons.1 ((gins_perm x r).mem_iff.1 hz) with rfl | hz
      · unfold gle
        rw [gcmp_lt] at hc ⊢
        simp only [decide_eq_true_eq, decide_eq_false_iff_not] at hc ⊢
        omega
      · exact (List.pairwise_cons.1 h).1 z hz
    | false =>
      refine List.pairwise_cons.2 ⟨fun z hz => ?_, h⟩
      rcases List.mem_cons.1 hz with rfl | hz
      · exact hc
      · exact gcmp_order.ntrans _ _ _ ((List.pairwise_cons.1 h).1 z hz) hc
theorem gsort_sorted : ∀ l, (gsort l).Pairwise gle
  | [] => .nil
  | x :: r => gins_sorted x (gsort_sorted r)
theorem gsort_unique {l q : List G0} (hu : ∀ a ∈ l, ∀ b ∈ l, a.G7 = b.G7 → a = b) (hq : q.Perm l) : sortBy gcmp q = gsort l := by
  obtain ⟨h1, h2, h3⟩ := sortBy_spec gcmp gcmp_order q
  refine List.Perm.eq_of_pairwise (le := gle) (fun a b ha hb hab hba => ?_) ?_ (gsort_sorted l) ((h1.trans hq).trans (gsort_perm l).symm)
  · refine hu a (hq.mem_iff.1 (h1.mem_iff.1 ha)) b ((gsort_perm l).mem_iff.1 hb) ?_
    unfold gle at hab hba
    rw [gcmp_lt] at hab hba
    simp only [decide_eq_false_iff_not] at hab hba
    obtain ⟨⟨al, ad⟩, _, _⟩ := a
    obtain ⟨⟨bl, bd⟩, _, _⟩ := b
    simp only at hab hba ⊢
    have e1 : al = bl := by omega
    have e2 : ad = bd := by omega
    rw [e1, e2]
  · rw [List.pairwise_iff_getElem]
    intro i j hi hj hij
    exact h3 i j hij hj

theorem need_tt {β : Type} {k : Option β} : need true k = k := rfl
theorem runM_collect {κ ν β : Type} {kx : List ν → Option β} : ∀ (q : List (κ × ν)) (s : List ν), ((s.length + q.length) * 32 ≤ 140737488355328 ∧ s.length + q.length ≤ maxLen) →
    runM (fun (x : κ × ν) (s : List ν) nx => need (decide ((s.length + [x.2].length) * 32 ≤ 140737488355328 ∧ s.length + [x.2].length ≤ maxLen)) <| nx (s ++ [x.2])) kx q s = kx (s ++ q.map (·.2))
  | [], s, _ => by simp [runM]
  | x :: q, s, h => by
    rw [List.length_cons] at h
    have hd : decide ((s.length + [x.2].length) * 32 ≤ 140737488355328 ∧ s.length + [x.2].length ≤ maxLen) = true := by
      rw [decide_eq_true_eq, List.length_singleton]; omega
    rw [runM, hd]
    simp only [need_tt]
    rw [runM_collect q (s ++ [x.2]) (by rw [List.length_append, List.length_singleton]; omega)]
    simp

theorem rel_eachI {α σ R : Type} {r : R} (I : σ → Prop) {b : α → Nat → σ → (σ → Option Prop) → Option Prop} {b' : α → Nat → σ → (σ → Option R) → Option R} {kx : σ → Option Prop} {kx' : σ → Option R}
    (h : ∀ x i s nx nx', I s → (∀ s, I s → Rel r (nx s) (nx' s)) → Rel r (b x i s nx) (b' x i s nx')) (hk : ∀ s, I s → Rel r (kx s) (kx' s)) : ∀ {xs : List α} {i : Nat} {s : σ}, I s → Rel r (each b kx xs i s) (each b' kx' xs i s)
  | [], _, s, hs => hk s hs
  | x :: _, i, s, hs => h x i s _ _ hs (fun _ h2 => rel_eachI I h hk h2)

/-- The counts of the groups of boxes, in order. -/
def S_bound_Groups (boxes : List Box) : Option (List G0) :=
  each (fun y i (s : AMap G7 G0) nx =>
    jp (fun kj =>
      bnd (some (AMap.get s (G7.mk y.Load y.Discharge) (G0.mk (G7.mk 0 0) 0 0))) fun v =>
      jp (fun kj2 =>
        bif decide (y.Size = 40) then (chk (v.Whole + 1) fun w => kj2 (w, v.Half))
        else (bif decide (y.Size = 20) then (chk (v.Half + 1) fun w => kj2 (v.Whole, w)) else (kj (s, v.Whole, v.Half)))) fun (j : Int × Int) =>
      kj ((AMap.put s (G7.mk y.Load y.Discharge) (G0.mk (G7.mk y.Load y.Discharge) j.1 j.2)), j.1, j.2)) fun (j : (AMap G7 G0) × Int × Int) =>
    nx j.1)
  (fun (s : AMap G7 G0) => need (decide ((AMap.l s).length * 32 ≤ 140737488355328 ∧ (AMap.l s).length ≤ maxLen)) <| some (gsort ((AMap.l s).map (·.2)))) boxes 0 (AMap.empty : AMap G7 G0)

/-- The value of each entry bears its key. -/
def GInv (s : AMap G7 G0) : Prop := ∀ e ∈ AMap.l s, e.2.G7 = e.1
theorem mput_mem {κ ν : Type} [DecidableEq κ] {a : κ} {v : ν} {l : List (κ × ν)} {e : κ × ν} (h : e ∈ mput l a v) : e = (a, v) ∨ e ∈ l := by
  unfold mput at h
  split at h
  · obtain ⟨p, hp, rfl⟩ := List.mem_map.1 h
    by_cases hpa : p.1 = a
    · rw [if_pos hpa]; exact .inl rfl
    · rw [if_neg hpa]; exact .inr hp
  · rcases List.mem_append.1 h with h | h
    · exact .inr h
    · exact .inl (List.mem_singleton.1 h)
theorem GInv.put {s : AMap G7 G0} (h : GInv s) (g : G7) (x y : Int) : GInv (AMap.put s g (G0.mk g x y)) := fun e he => by
  rcases mput_mem (l := AMap.l s) he with rfl | he
  · rfl
  · exact h e he
theorem GInv.unique {s : AMap G7 G0} (h : GInv s) : ∀ a ∈ (AMap.l s).map (·.2), ∀ b ∈ (AMap.l s).map (·.2), a.G7 = b.G7 → a = b := by
  intro a ha b hb hab
  obtain ⟨e, he, rfl⟩ := List.mem_map.1 ha
  obtain ⟨f, hf, rfl⟩ := List.mem_map.1 hb
  have hk : e.1 = f.1 := by rw [← h e he, ← h f hf]; exact hab
  have hn := s.nd
  have : ∀ (l : List (G7 × G0)), (l.map (·.1)).Nodup → e ∈ l → f ∈ l → e = f := by
    intro l
    induction l with
    | nil => intro _ h; simp at h
    | cons x r ih =>
      intro hn he hf
      rw [List.map_cons, List.nodup_cons] at hn
      rcases List.mem_cons.1 he with he1 | he1
      · rcases List.mem_cons.1 hf with hf1 | hf1
        · rw [he1, hf1]
        · exact absurd (List.mem_map.2 ⟨f, hf1, by rw [← hk, he1]⟩) hn.1
      · rcases List.mem_cons.1 hf with hf1 | hf1
        · exact absurd (List.mem_map.2 ⟨e, he1, by rw [hk, hf1]⟩) hn.1
        · exact ih hn.2 he1 hf1
  rw [this _ hn he hf]

theorem S_bound_Groups_rel (boxes : List Box) (r : List G0) : Rel r (M_bound_Groups boxes (fun r_ => r_ = r)) (S_bound_Groups boxes) := by
  unfold M_bound_Groups S_bound_Groups
  refine rel_eachI GInv (fun y i s nx nx' hs hnx => ?_) (fun s hs => ?_) (fun e he => by cases he)
  · have hput : ∀ K K' : (AMap G7 G0) × Int × Int → _, (∀ a, GInv a.1 → Rel r (K a) (K' a)) → Rel r
        (bnd (some (AMap.get s (G7.mk y.Load y.Discharge) (G0.mk (G7.mk 0 0) 0 0))) fun v => jp (fun kj2 => bif decide (y.Size = 40) then (chk (v.Whole + 1) fun w => kj2 (w, v.Half)) else (bif decide (y.Size = 20) then (chk (v.Half + 1) fun w => kj2 (v.Whole, w)) else (K (s, v.Whole, v.Half)))) fun (j : Int × Int) => K ((AMap.put s (G7.mk y.Load y.Discharge) (G0.mk (G7.mk y.Load y.Discharge) j.1 j.2)), j.1, j.2))
        (bnd (some (AMap.get s (G7.mk y.Load y.Discharge) (G0.mk (G7.mk 0 0) 0 0))) fun v => jp (fun kj2 => bif decide (y.Size = 40) then (chk (v.Whole + 1) fun w => kj2 (w, v.Half)) else (bif decide (y.Size = 20) then (chk (v.Half + 1) fun w => kj2 (v.Whole, w)) else (K' (s, v.Whole, v.Half)))) fun (j : Int × Int) => K' ((AMap.put s (G7.mk y.Load y.Discharge) (G0.mk (G7.mk y.Load y.Discharge) j.1 j.2)), j.1, j.2)) := fun K K' hK => by
      refine rel_bnd (fun v => rel_jp (fun J J' hJ => ?_) (fun j => hK _ (hs.put _ _ _)))
      exact rel_bif (fun _ => rel_chk (fun _ => hJ _)) (fun _ => rel_bif (fun _ => rel_chk (fun _ => hJ _)) (fun _ => hK _ hs))
    exact hput _ _ (fun a ha => hnx _ ha)
  · intro h
    obtain ⟨hd, h⟩ := He h
    have hd := of_decide_eq_true hd
    refine ⟨_, rfl, fun q hq => ?_⟩
    have hl := hq.length_eq
    rw [runM_collect q [] (by simp only [List.length_nil, Nat.zero_add, hl]; exact hd)]
    rw [List.nil_append, sortM_eq gcmp gcmp_model gcmp_order (by rw [List.length_map, hl]; omega)]
    exact ⟨_, rfl, (gsort_unique hs.unique (hq.map _)).trans (Option.some.inj h)⟩
def S_bound_Groups_w := PLift.up (M_bound_Groups_s S_bound_Groups (fun b r h => S_bound_Groups_rel b r h))
def S_bound_Groups_n := PLift.up (M_bound_Groups_sn S_bound_Groups (fun b r h => S_bound_Groups_rel b r h))
end Go.Proofs.Ytlhfflmknlfafaa
