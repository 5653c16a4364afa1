/-
  What slot.Right, stow.Find and stow.Right say, in plain words.
-/
import Derived.Test.YtbpgdkibmejibaaBuiltL
set_option maxRecDepth 100000
namespace Go.Proofs.Ytbpgdkibmejibaa
open Go.RowKit

theorem bnd_some {α β : Type} {x : α} {k : α → Option β} : bnd (some x) k = k x := rfl
/-- The place of the first element at which p holds, -1 if there is none. -/
def idxI {α : Type} (p : α → Bool) (l : List α) : Int := match l.findIdx? p with
  | some j => (j : Int)
  | none => -1
theorem each_idx {α : Type} {p : α → Bool} {f : α → Option Bool} {xs : List α} (hf : ∀ x ∈ xs, f x = some (p x)) :
    each (fun y i (_ : Unit) nx => bnd (f y) fun r => bif r then some (i : Int) else nx ()) (fun _ => some (-1)) xs 0 () = some (idxI p xs) := by
  have key : ∀ (xs : List α), (∀ x ∈ xs, f x = some (p x)) → ∀ i : Nat, each (fun y i (_ : Unit) nx => bnd (f y) fun r => bif r then some (i : Int) else nx ()) (fun _ => some (-1)) xs i () = some (match xs.findIdx? p with
    | some j => ((i + j : Nat) : Int)
    | none => -1) := by
    intro xs
    induction xs with
    | nil => intro _ i; rfl
    | cons x xs ih =>
      intro hf i
      rw [each, hf x (List.mem_cons_self ..), bnd_some, List.findIdx?_cons]
      cases p x with
      | true => simp
      | false =>
        simp only [cond_false]
        rw [ih (fun y hy => hf y (List.mem_cons_of_mem _ hy)) (i + 1)]
        cases xs.findIdx? p with
        | none => simp
        | some j => show some (((i + 1 + j : Nat)) : Int) = some (((i + (j + 1) : Nat)) : Int); rw [show i + 1 + j = i + (j + 1) by omega]
  rw [key xs hf 0]
  unfold idxI
  cases xs.findIdx? p <;> simp
theorem idxI_cases {α : Type} (p : α → Bool) (l : List α) : (idxI p l = -1 ∧ (∀ x ∈ l, p x = false) ∧ l.find? p = none) ∨ ∃ (m : Nat) (x : α), idxI p l = (m : Int) ∧ l[m]? = some x ∧ p x = true ∧ l.find? p = some x := by
  unfold idxI
  cases h : l.findIdx? p with
  | none =>
    have := List.findIdx?_eq_none_iff.1 h
    exact .inl ⟨rfl, this, List.find?_eq_none.2 (fun x hx => by rw [this x hx]; simp)⟩
  | some j =>
    obtain ⟨hj, h1, h2⟩ := List.findIdx?_eq_some_iff_getElem.1 h
    refine .inr ⟨j, l[j], rfl, by simp [hj], h1, ?_⟩
    refine List.find?_eq_some_iff_getElem.2 ⟨h1, j, hj, rfl, fun k hk => ?_⟩
    simpa using h2 k hk
theorem idxI_nonneg {α : Type} {p : α → Bool} {l : List α} : decide (0 ≤ idxI p l) = l.any p := by
  rcases idxI_cases p l with ⟨h1, h2, _⟩ | ⟨m, x, h1, h2, h3, _⟩
  · rw [h1]
    refine Eq.symm (List.any_eq_false.2 fun x hx => ?_)
    rw [h2 x hx]; exact Bool.false_ne_true
  · rw [h1, decide_eq_true (by omega)]
    exact (List.any_eq_true.2 ⟨x, List.mem_of_getElem? h2, h3⟩).symm

def findBox (boxes : List Box) (id : Int) : Option Box := boxes.find? (fun b => decide (b.ID = id))
theorem stow_find (boxes : List Box) (id : Int) : M_stow_Find boxes id = some (match findBox boxes id with
    | some b => (b, true)
    | none => (Box.mk 0 ByteArray.empty 0 false 0 0 0 0 false, false)) := by
  unfold M_stow_Find
  have h : M_slices_IndexFunc_apiBox boxes (fun z0 => M_stow_Find_1 z0 id) = some (idxI (fun b : Box => decide (b.ID = id)) boxes) := each_idx (fun x _ => rfl)
  rw [h]
  simp only [bnd_some]
  unfold findBox
  rcases idxI_cases (fun b : Box => decide (b.ID = id)) boxes with ⟨h1, _, h3⟩ | ⟨m, x, h1, h2, _, h4⟩
  · rw [h1, h3]; rfl
  · rw [h1, h4, decide_eq_false (by omega), cond_false]
    unfold gidx
    rw [decide_eq_true (by omega), cond_true, show (m : Int).toNat = m by omega, h2]
    rfl
def findSt (l : List Stowed) (id : Int) : Option Stowed := l.find? (fun x => decide (x.Box = id))

def halvesL (size : Int) : List Int := if size = 40 then [0] else if size = 20 then [1, 2] else []
theorem slot_halves (size : Int) : M_slot_halves size = some (halvesL size) := by
  unfold M_slot_halves halvesL
  by_cases h : size = 40
  · simp [h]
  · by_cases h2 : size = 20
    · simp [h2]
    · simp [h, h2]
theorem contains8 (l : List Int) (v : Int) : M_slices_Contains_uint8 l v = some (l.any (fun y => decide (v = y))) := by
  unfold M_slices_Contains_uint8
  have h : M_slices_Index_uint8 l v = some (idxI (fun y => decide (v = y)) l) := by
    unfold M_slices_Index_uint8
    exact each_idx (f := fun y => some (decide (v = y))) (fun x _ => rfl)
  rw [h]
  simp only [bnd_some]
  rw [idxI_nonneg]
theorem containsSlot (l : List Slot) (v : Slot) : M_slices_Contains_apiSlot l v = some (l.any (fun y => decide (v = y))) := by
  unfold M_slices_Contains_apiSlot
  have h : M_slices_Index_apiSlot l v = some (idxI (fun y => decide (v = y)) l) := by
    unfold M_slices_Index_apiSlot
    exact each_idx (f := fun y => some (decide (v = y))) (fun x _ => rfl)
  rw [h]
  simp only [bnd_some]
  rw [idxI_nonneg]

/-- There is such a slot in the ship, for boxes of a size. -/
structure SlotOk (s : Ship) (x : Slot) (size : Int) : Prop where
  col : ∃ (m : Nat) (c : Column), x.Column = (m : Int) ∧ s.Columns[m]? = some c ∧ x.Tier < c.Tiers
  tier : 0 ≤ x.Tier
  half : x.Half ∈ halvesL size
theorem slot_right (s : Ship) (x : Slot) (size : Int) : Wp (M_slot_Right s x size) (fun r => r = true ↔ SlotOk s x size) := by
  unfold M_slot_Right
  by_cases h0 : 0 ≤ x.Column ∧ x.Column < (s.Columns.length : Int)
  · by_cases h1 : 0 ≤ x.Tier
    · obtain ⟨m, hm⟩ : ∃ m : Nat, x.Column = (m : Int) := ⟨x.Column.toNat, by omega⟩
      have hml : m < s.Columns.length := by omega
      have hc : s.Columns[m]? = some s.Columns[m] := by simp [hml]
      have e : (((decide (0 ≤ x.Column)) && (decide (x.Column < (s.Columns.length : Int)))) && (decide (0 ≤ x.Tier))) = true := by simp [h0.1, h0.2, h1]
      simp only [e, cond_true, Bool.true_and]
      refine wp_bnd (wp_gidx hm hc (wp_some ?_))
      by_cases h2 : x.Tier < (s.Columns[m]).Tiers
      · rw [decide_eq_true h2]
        simp only [cond_true]
        refine wp_bnd_eq (slot_halves size) (wp_bnd_eq (contains8 _ _) (wp_some ?_))
        rw [Bool.true_and, List.any_eq_true]
        constructor
        · rintro ⟨y, hy, he⟩
          have := of_decide_eq_true he
          subst this
          exact ⟨⟨m, _, hm, hc, h2⟩, h1, hy⟩
        · exact fun h => ⟨_, h.half, by simp⟩
      · rw [decide_eq_false h2]
        simp only [cond_false, Bool.false_and]
        refine wp_bnd (wp_some (wp_bnd (wp_some (wp_some ⟨fun h => (by cases h), fun h => ?_⟩))))
        obtain ⟨m', c, g1, g2, g3⟩ := h.col
        have : m' = m := by omega
        subst this
        rw [hc] at g2; cases g2
        exact (h2 g3).elim
    · simp only [decide_eq_false h1, Bool.and_false, cond_false, Bool.false_and]
      exact wp_bnd (wp_some (wp_bnd (wp_some (wp_bnd (wp_some (wp_some ⟨fun h => (by cases h), fun h => (h1 h.tier).elim⟩))))))
  · have e : ((decide (0 ≤ x.Column)) && (decide (x.Column < (s.Columns.length : Int)))) = false := by
      by_cases h : 0 ≤ x.Column
      · have : ¬ x.Column < (s.Columns.length : Int) := fun g => h0 ⟨h, g⟩
        simp [this]
      · simp [h]
    simp only [e, Bool.false_and, cond_false]
    refine wp_bnd (wp_some (wp_bnd (wp_some (wp_bnd (wp_some (wp_some ⟨fun h => (by cases h), fun h => ?_⟩))))))
    obtain ⟨m, c, g1, g2, _⟩ := h.col
    have := (List.getElem?_eq_some_iff.1 g2).1
    exact (h0 (by omega)).elim

/-- What holds a slot. -/
def below (l : List Slot) (x : Slot) (half : Int) : Prop := (⟨x.Column, x.Tier - 1, half⟩ : Slot) ∈ l
def HeldP (x : Slot) (l : List Slot) : Prop := x.Tier ≤ 0 ∨ below l x x.Half ∨ (x.Half = 0 ∧ below l x 1 ∧ below l x 2)
theorem slot_held1 (half : Int) (l : List Slot) (x : Slot) (ht : -1000000 ≤ x.Tier ∧ x.Tier ≤ 1000000) : Wp (M_slot_Held_1 half l x) (fun r => r = true ↔ below l x half) := by
  unfold M_slot_Held_1
  refine wp_chk ⟨by omega, by omega⟩ (wp_bnd_eq (containsSlot _ _) (wp_some ?_))
  rw [List.any_eq_true]
  constructor
  · rintro ⟨y, hy, he⟩
    have := of_decide_eq_true he
    subst this
    exact hy
  · exact fun h => ⟨_, h, by simp⟩
theorem slot_held (x : Slot) (l : List Slot) (ht : -1000000 ≤ x.Tier ∧ x.Tier ≤ 1000000) : Wp (M_slot_Held x l) (fun r => r = true ↔ HeldP x l) := by
  unfold M_slot_Held HeldP
  refine wp_bif (fun h => wp_some ⟨fun _ => .inl (of_decide_eq_true h), fun _ => rfl⟩) (fun h => ?_)
  have h0 := of_decide_eq_false h
  refine wp_bnd (wp_mono (slot_held1 x.Half l x ht) (fun r7 h7 => ?_))
  cases r7 with
  | true =>
    simp only [Bool.not_true, Bool.false_and, cond_false, Bool.true_or]
    exact wp_bnd (wp_some (wp_bnd (wp_some (wp_some ⟨fun _ => .inr (.inl (h7.1 rfl)), fun _ => rfl⟩))))
  | false =>
    have h7' : ¬ below l x x.Half := fun h => by have := h7.2 h; cases this
    simp only [Bool.not_false, Bool.true_and, Bool.false_or]
    by_cases hh : x.Half = 0
    · rw [decide_eq_true hh]
      simp only [cond_true, Bool.true_and]
      refine wp_bnd (wp_mono (slot_held1 1 l x ht) (fun r8 h8 => ?_))
      cases r8 with
      | true =>
        simp only [cond_true, Bool.true_and]
        refine wp_bnd (wp_mono (slot_held1 2 l x ht) (fun r9 h9 => wp_some ⟨fun h => .inr (.inr ⟨hh, h8.1 rfl, h9.1 h⟩), fun h => ?_⟩))
        rcases h with h | h | ⟨_, _, h⟩
        · exact (h0 h).elim
        · exact (h7' h).elim
        · exact h9.2 h
      | false =>
        simp only [cond_false, Bool.false_and]
        refine wp_bnd (wp_some (wp_some ⟨fun h => (by cases h), fun h => ?_⟩))
        rcases h with h | h | ⟨_, h, _⟩
        · exact (h0 h).elim
        · exact (h7' h).elim
        · have := h8.2 h; cases this
    · rw [decide_eq_false hh]
      simp only [cond_false, Bool.false_and]
      refine wp_bnd (wp_some (wp_bnd (wp_some (wp_some ⟨fun h => (by cases h), fun h => ?_⟩))))
      rcases h with h | h | ⟨h, _⟩
      · exact (h0 h).elim
      · exact (h7' h).elim
      · exact (hh h).elim

def sharesP (a b : Int) : Prop := a = b ∨ a = 0 ∨ b = 0
theorem slot_shares (a b : Int) : Wp (M_slot_shares a b) (fun r => r = true ↔ sharesP a b) := by
  unfold M_slot_shares sharesP
  refine wp_some ?_
  simp [or_assoc]
def MeetP (a b : Slot) : Prop := a.Column = b.Column ∧ a.Tier = b.Tier ∧ sharesP a.Half b.Half
theorem slot_meet (a b : Slot) : Wp (M_slot_Meet a b) (fun r => r = true ↔ MeetP a b) := by
  unfold M_slot_Meet MeetP
  by_cases h : a.Column = b.Column ∧ a.Tier = b.Tier
  · simp only [decide_eq_true h.1, decide_eq_true h.2, Bool.and_self, cond_true, Bool.true_and]
    exact wp_bnd (wp_mono (slot_shares _ _) (fun r hr => wp_some ⟨fun e => ⟨h.1, h.2, hr.1 e⟩, fun e => hr.2 e.2.2⟩))
  · have e : (decide (a.Column = b.Column) && decide (a.Tier = b.Tier)) = false := by
      by_cases h1 : a.Column = b.Column
      · have : ¬ a.Tier = b.Tier := fun h2 => h ⟨h1, h2⟩
        simp [this]
      · simp [h1]
    simp only [e, cond_false, Bool.false_and]
    exact wp_bnd (wp_some (wp_some ⟨fun e => (by cases e), fun e => (h ⟨e.1, e.2.1⟩).elim⟩))
def OverP (a b : Slot) : Prop := a.Column = b.Column ∧ b.Tier < a.Tier ∧ sharesP a.Half b.Half
theorem slot_over (a b : Slot) : Wp (M_slot_Over a b) (fun r => r = true ↔ OverP a b) := by
  unfold M_slot_Over OverP
  by_cases h : a.Column = b.Column ∧ b.Tier < a.Tier
  · simp only [decide_eq_true h.1, decide_eq_true h.2, Bool.and_self, cond_true, Bool.true_and]
    exact wp_bnd (wp_mono (slot_shares _ _) (fun r hr => wp_some ⟨fun e => ⟨h.1, h.2, hr.1 e⟩, fun e => hr.2 e.2.2⟩))
  · have e : (decide (a.Column = b.Column) && decide (b.Tier < a.Tier)) = false := by
      by_cases h1 : a.Column = b.Column
      · have : ¬ b.Tier < a.Tier := fun h2 => h ⟨h1, h2⟩
        simp [this]
      · simp [h1]
    simp only [e, cond_false, Bool.false_and]
    exact wp_bnd (wp_some (wp_some ⟨fun e => (by cases e), fun e => (h ⟨e.1, e.2.1⟩).elim⟩))

/-- The height of what stands in a half of a column. -/
def tallI (b : Box) : Int := if b.High then 2896 else 2591
def addH (boxes : List Box) (column half : Int) (n : Int) (x : Stowed) : Int :=
  if x.Slot.Column = column ∧ (x.Slot.Half = half ∨ x.Slot.Half = 0) then (match findBox boxes x.Box with | some b => n + tallI b | none => n) else n
def heightI (boxes : List Box) (l : List Stowed) (column half : Int) : Int := l.foldl (addH boxes column half) 0
theorem addH_le {boxes : List Box} {column half n : Int} {x : Stowed} : n ≤ addH boxes column half n x ∧ addH boxes column half n x ≤ n + 2896 := by
  unfold addH tallI
  split
  · split
    · split <;> omega
    · omega
  · omega
theorem stow_height (boxes : List Box) (l : List Stowed) (column half : Int) (hl : l.length ≤ 1000000) : M_stow_Height boxes l column half = some (heightI boxes l column half) := by
  refine wp_eq ?_
  unfold M_stow_Height heightI
  refine wp_each (fun pre n => n = pre.foldl (addH boxes column half) 0 ∧ 0 ≤ n ∧ n ≤ 2896 * pre.length) ⟨rfl, Int.le_refl _, by simp⟩ (fun pre y post n nx e hn hnx => ?_) (fun n hn => wp_some hn.1)
  obtain ⟨rfl, h1, h2⟩ := hn
  have hp : pre.length + 1 ≤ l.length := by rw [e]; simp
  have ha := addH_le (boxes := boxes) (column := column) (half := half) (n := pre.foldl (addH boxes column half) 0) (x := y)
  have hlen : ((pre ++ [y]).length : Int) = pre.length + 1 := by simp
  generalize hg : pre.foldl (addH boxes column half) 0 = n at *
  refine wp_jp (fun j => j = addH boxes column half n y) (fun K hK => ?_) (fun j hj => hnx _ ⟨by rw [hj, List.foldl_append, hg]; rfl, by omega, by rw [hlen]; omega⟩)
  refine wp_bif (fun hc => ?_) (fun hc => hK _ ?_)
  · have hc' : y.Slot.Column = column ∧ (y.Slot.Half = half ∨ y.Slot.Half = 0) := by simpa using hc
    refine wp_bnd_eq (stow_find boxes y.Box) ?_
    cases hf : findBox boxes y.Box with
    | none => exact wp_bif (fun h => by cases h) (fun _ => hK _ (by unfold addH; rw [if_pos hc', hf]))
    | some b =>
      refine wp_bif (fun _ => ?_) (fun h => by cases h)
      have ht : M_stow_tall b = some (tallI b) := by unfold M_stow_tall tallI; cases b.High <;> rfl
      have hadd : addH boxes column half n y = n + tallI b := by unfold addH; rw [if_pos hc', hf]
      refine wp_bnd_eq ht (wp_chk ?_ (hK _ hadd.symm))
      rw [← hadd]
      omega
  · have hc' : ¬ (y.Slot.Column = column ∧ (y.Slot.Half = half ∨ y.Slot.Half = 0)) := by simpa using hc
    unfold addH; rw [if_neg hc']
def FitsP (boxes : List Box) (l : List Stowed) (m : Nat) (c : Column) : Prop := c.Height ≤ 0 ∨ (heightI boxes l m 1 ≤ c.Height ∧ heightI boxes l m 2 ≤ c.Height)
theorem stow_fits {s : Ship} {boxes : List Box} {l : List Stowed} {m : Nat} {c : Column} (hc : s.Columns[m]? = some c) (hl : l.length ≤ 1000000) : Wp (M_stow_fits s boxes l (m : Int)) (fun r => r = true ↔ FitsP boxes l m c) := by
  unfold M_stow_fits FitsP
  refine wp_gidx rfl hc ?_
  by_cases h : c.Height ≤ 0
  · simp only [decide_eq_true h, Bool.not_true, cond_false, Bool.false_and, Bool.true_or]
    exact wp_bnd (wp_some (wp_bnd (wp_some (wp_some ⟨fun _ => .inl h, fun _ => rfl⟩))))
  · simp only [decide_eq_false h, Bool.not_false, cond_true, Bool.true_and, Bool.false_or]
    refine wp_bnd_eq (stow_height boxes l m 1 hl) ?_
    by_cases h1 : heightI boxes l m 1 ≤ c.Height
    · rw [decide_eq_true h1]
      simp only [cond_true, Bool.true_and]
      exact wp_bnd_eq (stow_height boxes l m 2 hl) (wp_some ⟨fun e => .inr ⟨h1, of_decide_eq_true e⟩, fun e => decide_eq_true (e.elim (fun e => (h e).elim) (·.2))⟩)
    · rw [decide_eq_false h1]
      simp only [cond_false, Bool.false_and]
      exact wp_bnd (wp_some (wp_some ⟨fun e => (by cases e), fun e => e.elim (fun e => (h e).elim) (fun e => (h1 e.1).elim)⟩))

theorem stow_taken (l : List Stowed) (hl : l.length ≤ 1000000) : M_stow_taken l = some (l.map (·.Slot)) := by
  refine wp_eq ?_
  unfold M_stow_taken
  refine wp_each (fun pre s => s = pre.map (·.Slot)) rfl (fun pre y post s nx e hs hnx => ?_) (fun s hs => wp_some hs)
  subst hs
  have hp : pre.length + 1 ≤ l.length := by rw [e]; simp
  exact wp_need (room_ok (by simp only [List.length_map, List.length_singleton]; omega) (by omega)) (hnx _ (by simp))
end Go.Proofs.Ytbpgdkibmejibaa
