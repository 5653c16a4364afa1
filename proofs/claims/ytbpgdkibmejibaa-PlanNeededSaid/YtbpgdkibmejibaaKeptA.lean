/-
  Small functions of the packages ship and plan, in plain words.
-/
import Derived.Test.YtbpgdkibmejibaaRightM
set_option maxRecDepth 100000
namespace Go.Proofs.Ytbpgdkibmejibaa
open Go.RowKit

section maps
variable {κ ν : Type} [DecidableEq κ]
theorem amap_has_empty (a : κ) : AMap.has (AMap.empty : AMap κ ν) a = false := rfl
theorem amap_has_put (m : AMap κ ν) (a b : κ) (v : ν) : AMap.has (AMap.put m a v) b = (decide (a = b) || AMap.has m b) := by
  unfold AMap.has AMap.put
  have h := mget_isSome (l := mput m.l a v) (a := b)
  have h2 := mget_isSome (l := m.l) (a := b)
  rw [← h, mget_mput]
  by_cases e : a = b
  · simp [e]
  · simp [e, h2]
end maps

theorem each_chosen {α : Type} {l : List α} {wanted : α → Option Bool} {p : α → Bool} (hw : ∀ x ∈ l, wanted x = some (p x)) (hl : l.length ≤ 1000000) :
    each (fun y i (s : List Int) nx => jp (fun kj => bnd (wanted y) fun r => bif r then (need (decide ((s.length + [(i : Int)].length) * 8 ≤ 140737488355328 ∧ s.length + [(i : Int)].length ≤ maxLen)) <| kj (s ++ [(i : Int)])) else (kj s)) fun (j : List Int) => nx j)
      (fun s => some s) l 0 [] = some (idxs p l) := by
  refine wp_eq ?_
  refine wp_each (fun pre s => s = idxs p pre) rfl (fun pre x post s nx e hs hnx => ?_) (fun s hs => wp_some hs)
  subst hs
  have hpl : pre.length + 1 ≤ l.length := by rw [e]; simp
  refine wp_jp (fun j => j = idxs p (pre ++ [x])) (fun K hK => ?_) (fun j hj => hnx _ hj)
  refine wp_bnd_eq (hw x (by rw [e]; simp)) (wp_bif (fun h => wp_need ?_ (hK _ ?_)) (fun h => hK _ ?_))
  · have := idxs_length p pre
    exact room_ok (by rw [List.length_singleton]; omega) (by omega)
  · rw [idxs_snoc, h]; rfl
  · rw [idxs_snoc, h]; simp
theorem idxs_cons {α : Type} (p : α → Bool) (x : α) (l : List α) : idxs p (x :: l) = (if p x then [0] else []) ++ (idxs p l).map (· + 1) := by
  unfold idxs
  rw [List.zipIdx_cons', List.filter_cons]
  have h : (((l.zipIdx.map (Prod.map id (fun n : Nat => n + 1))).filter (fun y : α × Nat => p y.1)).map (fun y : α × Nat => (y.2 : Int))) = ((l.zipIdx.filter (fun y : α × Nat => p y.1)).map (fun y : α × Nat => (y.2 : Int))).map (· + 1) := by
    rw [List.filter_map, List.map_map, List.map_map]
    rfl
  by_cases hx : p x = true
  · rw [if_pos (show p (x, 0).fst = true from hx), if_pos hx, List.map_cons]
    exact congrArg (List.cons _) h
  · rw [if_neg (show ¬ p (x, 0).fst = true from hx), if_neg hx, List.nil_append]
    exact h
theorem idxs_head {α : Type} (p : α → Bool) (l : List α) : (idxs p l).head? = match l.findIdx? p with
    | some j => some (j : Int)
    | none => none := by
  induction l with
  | nil => rfl
  | cons x l ih =>
    rw [idxs_cons, List.findIdx?_cons]
    by_cases hx : p x
    · simp [hx]
    · simp only [hx, if_false, Bool.false_eq_true, List.nil_append, List.head?_map, ih]
      cases l.findIdx? p <;> simp
theorem idxs_pos {α : Type} (p : α → Bool) (l : List α) : decide (0 < ((idxs p l).length : Int)) = l.any p := by
  by_cases h : ∀ x ∈ l, p x = false
  · rw [idxs_nil.2 h]
    refine Eq.symm (List.any_eq_false.2 fun x hx => ?_)
    rw [h x hx]; exact Bool.false_ne_true
  · have h1 : idxs p l ≠ [] := fun e => h (idxs_nil.1 e)
    have h2 := List.length_pos_iff.2 h1
    rw [decide_eq_true (by omega)]
    refine Eq.symm (List.any_eq_true.2 ?_)
    refine Classical.byContradiction fun hn => h fun x hx => ?_
    cases hc : p x with
    | false => rfl
    | true => exact (hn ⟨x, hx, hc⟩).elim

/-- A cover lies over a place. -/
def covB (x : Cover) (c : Column) : Bool := decide (x.Bay = c.Bay) && x.Rows.any (fun r => decide (r = c.Row))
theorem ship_covers (x : Cover) (c : Column) (hl : x.Rows.length ≤ 1000000) : M_ship_covers x c = some (covB x c) := by
  unfold M_ship_covers covB
  by_cases h : x.Bay = c.Bay
  · have hc : M_ship_chosen_int x.Rows (fun z0 => M_ship_covers_1 z0 c) = some (idxs (fun r => decide (r = c.Row)) x.Rows) := by
      unfold M_ship_chosen_int
      exact each_chosen (fun x _ => rfl) hl
    rw [decide_eq_true h]
    simp only [cond_true, Bool.true_and]
    rw [hc, bnd_some, idxs_pos]
  · rw [decide_eq_false h]
    rfl
def coverOf (s : Ship) (c : Column) : Int := idxI (fun x => covB x c) s.Covers
theorem ship_coverOf {s : Ship} {m : Nat} {c : Column} (hc : s.Columns[m]? = some c) (hr : ∀ x ∈ s.Covers, x.Rows.length ≤ 1000000) (hl : s.Covers.length ≤ 1000000) : M_ship_CoverOf s (m : Int) = some (coverOf s c) := by
  have hm := (List.getElem?_eq_some_iff.1 hc).1
  refine wp_eq ?_
  unfold M_ship_CoverOf
  refine wp_bif (fun h => ?_) (fun _ => ?_)
  · simp only [Bool.or_eq_true, decide_eq_true_eq] at h
    omega
  have hch : M_ship_chosen_apiCover s.Covers (fun z0 => M_ship_CoverOf_1 z0 s (m : Int)) = some (idxs (fun x => covB x c) s.Covers) := by
    unfold M_ship_chosen_apiCover
    refine each_chosen (fun x hx => wp_eq ?_) hl
    unfold M_ship_CoverOf_1
    exact wp_gidx rfl hc (wp_bnd_eq (ship_covers x c (hr x hx)) (wp_some rfl))
  refine wp_bnd_eq hch ?_
  have hh := idxs_head (fun x => covB x c) s.Covers
  unfold coverOf idxI
  cases hf : s.Covers.findIdx? (fun x => covB x c) with
  | none =>
    rw [hf] at hh
    have h0 : idxs (fun x => covB x c) s.Covers = [] := List.head?_eq_none_iff.1 hh
    rw [h0]
    exact wp_some rfl
  | some j =>
    rw [hf] at hh
    cases hi : idxs (fun x => covB x c) s.Covers with
    | nil => rw [hi] at hh; cases hh
    | cons z r =>
      rw [hi] at hh
      simp only [List.head?_cons, Option.some.injEq] at hh
      subst hh
      refine wp_bif (fun h => ?_) (fun _ => wp_gidx (m := 0) rfl rfl (wp_some rfl))
      have := of_decide_eq_true h
      simp only [List.length_cons] at this
      omega

/-! ### States -/
def holdsB (l : List Stowed) (id : Int) : Bool := l.any (fun x => decide (x.Box = id))
theorem holdsB_iff {l : List Stowed} {id : Int} : holdsB l id = true ↔ id ∈ l.map (·.Box) := by
  unfold holdsB
  rw [List.any_eq_true, List.mem_map]
  constructor
  · rintro ⟨x, h1, h2⟩; exact ⟨x, h1, of_decide_eq_true h2⟩
  · rintro ⟨x, h1, h2⟩; exact ⟨x, h1, decide_eq_true h2⟩
theorem law23_holds (l : List Stowed) (id : Int) : M_twistlocklaw23_holds l id = some (holdsB l id) := by
  refine wp_eq ?_
  unfold M_twistlocklaw23_holds
  refine wp_each (fun pre _ => ∀ x ∈ pre, decide (x.Box = id) = false) (fun x hx => (List.not_mem_nil hx).elim) (fun pre y post s nx e hI hnx => wp_bif (fun h => wp_some ?_) (fun h => hnx _ (fun x hx => ?_))) (fun s hI => wp_some ?_)
  · exact (List.any_eq_true.2 ⟨y, by rw [e]; simp, h⟩).symm
  · rcases List.mem_append.1 hx with hx | hx
    · exact hI x hx
    · rw [List.mem_singleton] at hx; subst hx; exact h
  · refine (List.any_eq_false.2 fun x hx => ?_).symm
    rw [hI x hx]; exact Bool.false_ne_true

/-- Boxes that are on board behind a call. -/
def abB (k : Int) (b : Box) : Bool := decide (b.Load ≤ k) && decide (k < b.Discharge)
def aboardL (boxes : List Box) (k : Int) : List Int := (boxes.filter (abB k)).map (·.ID)
/-- The slot of a box in a state, and whether it is there. -/
def findP (l : List Stowed) (id : Int) : Slot × Bool := match findSt l id with
  | some x => (x.Slot, true)
  | none => (⟨0, 0, 0⟩, false)
theorem plan_find (l : List Stowed) (id : Int) : M_plan_find l id = some (findP l id) := by
  unfold M_plan_find
  have h : M_slices_IndexFunc_apiStowed l (fun z0 => M_plan_find_1 z0 id) = some (idxI (fun x : Stowed => decide (x.Box = id)) l) := each_idx (fun x _ => rfl)
  rw [h]
  simp only [bnd_some]
  unfold findP findSt
  rcases idxI_cases (fun x : Stowed => decide (x.Box = id)) l with ⟨h1, _, h3⟩ | ⟨m, x, h1, h2, _, h4⟩
  · rw [h1, h3]; rfl
  · rw [h1, h4, decide_eq_false (by omega), cond_false]
    unfold gidx
    rw [decide_eq_true (by omega), cond_true, show (m : Int).toNat = m by omega, h2]
    rfl
theorem findP_true {l : List Stowed} {id : Int} : (findP l id).2 = true ↔ id ∈ l.map (·.Box) := by
  unfold findP
  cases h : findSt l id with
  | none =>
    refine ⟨fun e => (by cases e), fun e => ?_⟩
    obtain ⟨x, hx, he⟩ := List.mem_map.1 e
    have := List.find?_eq_none.1 h x hx
    simp [he] at this
  | some x =>
    refine ⟨fun _ => ?_, fun _ => rfl⟩
    have h1 := List.mem_of_find?_eq_some h
    have h2 := of_decide_eq_true (List.find?_some (p := fun x : Stowed => decide (x.Box = id)) h)
    exact List.mem_map.2 ⟨x, h1, h2⟩
theorem findP_mem {l : List Stowed} {id : Int} (h : (findP l id).2 = true) : ∃ x ∈ l, x.Box = id ∧ (findP l id).1 = x.Slot := by
  unfold findP at h ⊢
  cases hf : findSt l id with
  | none => rw [hf] at h; cases h
  | some x => exact ⟨x, List.mem_of_find?_eq_some hf, of_decide_eq_true (List.find?_some (p := fun x : Stowed => decide (x.Box = id)) hf), rfl⟩
end Go.Proofs.Ytbpgdkibmejibaa
