/-
 Plans that Voyage makes are right; what Lifted returns.
-/
import Derived.Test.YtmdnkofmmheoaaaGreatXN
import Derived.Test.YtmdnkofmmheoaaaGreatSpecI
import Derived.Test.YtmdnkofmmheoaaaGreatBuiltL
set_option maxRecDepth 100000
namespace Go.Proofs.YtmdnkofmmheoaaaGreat
open Go.RowKit

theorem bnd_some {α β : Type} {x : α} {k : α → Option β} : bnd (some x) k = k x := rfl
/-- The place of the first element at which p holds, -1 if there is none. -/
def idxI {α : Type} (p : α → Bool) (l : List α) : Int := match l.findIdx? p with
 | some j => (j : Int)
 | none => -1
theorem each_idx {α : Type} {p : α → Bool} {f : α → Option Bool} {xs : List α} (hf : ∀ x ∈ xs, f x = some (p x)) :
  each (fun y i (_ : Unit) nx => bnd (f y) fun r => bif r then some (i : Int) else nx ()) (fun _ => some (-1)) xs 0 () = some (idxI p xs) := by
 have key : ∀ (xs : List α), (∀ x ∈ xs, f x = some (p x)) → ∀ i : Nat, each (fun y i (_ : Unit) nx => bnd (f y) fun r => bif r then some (i : Int) else nx ()) (fun _ => some (-1)) xs i () = some (match xs.findIdx? p with
  | some j => ((i + j : Nat) : Int)
  | none => -1) := by
  intro xs
  induction xs with
  | nil => intro _ i; rfl
  | cons x xs ih =>
   intro hf i
   rw [each, hf x (List.mem_cons_self ..), bnd_some, List.findIdx?_cons]
   cases p x with
   | true => simp
   | false =>
    simp only [cond_false]
    rw [ih (fun y hy => hf y (List.mem_cons_of_mem _ hy)) (i + 1)]
    cases xs.findIdx? p with
    | none => simp
    | some j => show some (((i + 1 + j : Nat)) : Int) = some (((i + (j + 1) : Nat)) : Int); rw [show i + 1 + j = i + (j + 1) by omega]
 rw [key xs hf 0]
 unfold idxI
 cases xs.findIdx? p <;> simp
theorem idxI_cases {α : Type} (p : α → Bool) (l : List α) : (idxI p l = -1 ∧ (∀ x ∈ l, p x = false) ∧ l.find? p = none) ∨ ∃ (m : Nat) (x : α), idxI p l = (m : Int) ∧ l[m]? = some x ∧ p x = true ∧ l.find? p = some x := by
 unfold idxI
 cases h : l.findIdx? p with
 | none =>
  have := List.findIdx?_eq_none_iff.1 h
  exact .inl ⟨rfl, this, List.find?_eq_none.2 (fun x hx => by rw [this x hx]; simp)⟩
 | some j =>
  obtain ⟨hj, h1, h2⟩ := List.findIdx?_eq_some_iff_getElem.1 h
  refine .inr ⟨j, l[j], rfl, by simp [hj], h1, ?_⟩
  refine List.find?_eq_some_iff_getElem.2 ⟨h1, j, hj, rfl, fun k hk => ?_⟩
  simpa using h2 k hk
theorem idxI_nonneg {α : Type} {p : α → Bool} {l : List α} : decide (0 ≤ idxI p l) = l.any p := by
 rcases idxI_cases p l with ⟨h1, h2, _⟩ | ⟨m, x, h1, h2, h3, _⟩
 ·rw [h1]
  refine Eq.symm (List.any_eq_false.2 fun x hx => ?_)
  rw [h2 x hx]; exact Bool.false_ne_true
 ·rw [h1, decide_eq_true (by omega)]
  exact (List.any_eq_true.2 ⟨x, List.mem_of_getElem? h2, h3⟩).symm
def findBox (boxes : List Box) (id : Int) : Option Box := boxes.find? (fun b => decide (b.ID = id))
theorem stow_find (boxes : List Box) (id : Int) : M_stow_Find boxes id = some (match findBox boxes id with
  | some b => (b, true)
  | none => (Box.mk 0 ByteArray.empty 0 false 0 0 0 0 false, false)) := by
 unfold M_stow_Find
 have h : M_slices_IndexFunc_apiBox boxes (fun z0 => M_stow_Find_1 z0 id) = some (idxI (fun b : Box => decide (b.ID = id)) boxes) := each_idx (fun x _ => rfl)
 rw [h]
 simp only [bnd_some]
 unfold findBox
 rcases idxI_cases (fun b : Box => decide (b.ID = id)) boxes with ⟨h1, _, h3⟩ | ⟨m, x, h1, h2, _, h4⟩
 ·rw [h1, h3]; rfl
 ·rw [h1, h4, decide_eq_false (by omega), cond_false]
  unfold gidx
  rw [decide_eq_true (by omega), cond_true, show (m : Int).toNat = m by omega, h2]
  rfl
def findSt (l : List G3) (id : Int) : Option G3 := l.find? (fun x => decide (x.Box = id))
def halvesL (size : Int) : List Int := if size = 40 then [0] else if size = 20 then [1, 2] else []
theorem slot_halves (size : Int) : M_slot_halves size = some (halvesL size) := by
 unfold M_slot_halves halvesL
 by_cases h : size = 40
 ·simp [h]
 ·by_cases h2 : size = 20
  ·simp [h2]
  ·simp [h, h2]
theorem contains8 (l : List Int) (v : Int) : M_slices_Contains_uint8 l v = some (l.any (fun y => decide (v = y))) := by
 unfold M_slices_Contains_uint8
 have h : M_slices_Index_uint8 l v = some (idxI (fun y => decide (v = y)) l) := by
  unfold M_slices_Index_uint8
  exact each_idx (f := fun y => some (decide (v = y))) (fun x _ => rfl)
 rw [h]
 simp only [bnd_some]
 rw [idxI_nonneg]
theorem containsSlot (l : List Slot) (v : Slot) : M_slices_Contains_apiSlot l v = some (l.any (fun y => decide (v = y))) := by
 unfold M_slices_Contains_apiSlot
 have h : M_slices_Index_apiSlot l v = some (idxI (fun y => decide (v = y)) l) := by
  unfold M_slices_Index_apiSlot
  exact each_idx (f := fun y => some (decide (v = y))) (fun x _ => rfl)
 rw [h]
 simp only [bnd_some]
 rw [idxI_nonneg]
/-- There is such a slot in the ship, for boxes of a size. -/
structure SlotOk (s : Ship) (x : Slot) (size : Int) : Prop where
 col : ∃ (m : Nat) (c : G5), x.G5 = (m : Int) ∧ s.Columns[m]? = some c ∧ x.Tier < c.Tiers
 tier : 0 ≤ x.Tier
 half : x.Half ∈ halvesL size
theorem slot_right (s : Ship) (x : Slot) (size : Int) : Wp (M_slot_Right s x size) (fun r => r = true ↔ SlotOk s x size) := by
 unfold M_slot_Right
 by_cases h0 : 0 ≤ x.G5 ∧ x.G5 < (s.Columns.length : Int)
 ·by_cases h1 : 0 ≤ x.Tier
  ·obtain ⟨m, hm⟩ : ∃ m : Nat, x.G5 = (m : Int) := ⟨x.G5.toNat, by omega⟩
   have hml : m < s.Columns.length := by omega
   have hc : s.Columns[m]? = some s.Columns[m] := by simp [hml]
   have e : (((decide (0 ≤ x.G5)) && (decide (x.G5 < (s.Columns.length : Int)))) && (decide (0 ≤ x.Tier))) = true := by simp [h0.1, h0.2, h1]
   simp only [e, cond_true, Bool.true_and]
   refine wp_bnd (wp_gidx hm hc (wp_some ?_))
   by_cases h2 : x.Tier < (s.Columns[m]).Tiers
   ·rw [decide_eq_true h2]
    simp only [cond_true]
    refine wp_bnd_eq (slot_halves size) (wp_bnd_eq (contains8 _ _) (wp_some ?_))
    rw [Bool.true_and, List.any_eq_true]
    constructor
    ·rintro ⟨y, hy, he⟩
     have := of_decide_eq_true he
     subst this
     exact ⟨⟨m, _, hm, hc, h2⟩, h1, hy⟩
    ·exact fun h => ⟨_, h.half, by simp⟩
   ·rw [decide_eq_false h2]
    simp only [cond_false, Bool.false_and]
    refine wp_bnd (wp_some (wp_bnd (wp_some (wp_some ⟨fun h => (by cases h), fun h => ?_⟩))))
    obtain ⟨m', c, g1, g2, g3⟩ := h.col
    have : m' = m := by omega
    subst this
    rw [hc] at g2; cases g2
    exact (h2 g3).elim
  ·simp only [decide_eq_false h1, Bool.and_false, cond_false, Bool.false_and]
   exact wp_bnd (wp_some (wp_bnd (wp_some (wp_bnd (wp_some (wp_some ⟨fun h => (by cases h), fun h => (h1 h.tier).elim⟩))))))
 ·have e : ((decide (0 ≤ x.G5)) && (decide (x.G5 < (s.Columns.length : Int)))) = false := by
   by_cases h : 0 ≤ x.G5
   ·have : ¬ x.G5 < (s.Columns.length : Int) := fun g => h0 ⟨h, g⟩
    simp [this]
   ·simp [h]
  simp only [e, Bool.false_and, cond_false]
  refine wp_bnd (wp_some (wp_bnd (wp_some (wp_bnd (wp_some (wp_some ⟨fun h => (by cases h), fun h => ?_⟩))))))
  obtain ⟨m, c, g1, g2, _⟩ := h.col
  have := (List.getElem?_eq_some_iff.1 g2).1
  exact (h0 (by omega)).elim
/-- What holds a slot. -/
def below (l : List Slot) (x : Slot) (half : Int) : Prop := (⟨x.G5, x.Tier - 1, half⟩ : Slot) ∈ l
def HeldP (x : Slot) (l : List Slot) : Prop := x.Tier ≤ 0 ∨ below l x x.Half ∨ (x.Half = 0 ∧ below l x 1 ∧ below l x 2)
theorem slot_held1 (half : Int) (l : List Slot) (x : Slot) (ht : -1000000 ≤ x.Tier ∧ x.Tier ≤ 1000000) : Wp (M_slot_Held_1 half l x) (fun r => r = true ↔ below l x half) := by
 unfold M_slot_Held_1
 refine wp_chk ⟨by omega, by omega⟩ (wp_bnd_eq (containsSlot _ _) (wp_some ?_))
 rw [List.any_eq_true]
 constructor
 ·rintro ⟨y, hy, he⟩
  have := of_decide_eq_true he
  subst this
  exact hy
 ·exact fun h => ⟨_, h, by simp⟩
theorem slot_held (x : Slot) (l : List Slot) (ht : -1000000 ≤ x.Tier ∧ x.Tier ≤ 1000000) : Wp (M_slot_Held x l) (fun r => r = true ↔ HeldP x l) := by
 unfold M_slot_Held HeldP
 refine wp_bif (fun h => wp_some ⟨fun _ => .inl (of_decide_eq_true h), fun _ => rfl⟩) (fun h => ?_)
 have h0 := of_decide_eq_false h
 refine wp_bnd (wp_mono (slot_held1 x.Half l x ht) (fun r7 h7 => ?_))
 cases r7 with
 | true =>
  simp only [Bool.not_true, Bool.false_and, cond_false, Bool.true_or]
  exact wp_bnd (wp_some (wp_bnd (wp_some (wp_some ⟨fun _ => .inr (.inl (h7.1 rfl)), fun _ => rfl⟩))))
 | false =>
  have h7' : ¬ below l x x.Half := fun h => by have := h7.2 h; cases this
  simp only [Bool.not_false, Bool.true_and, Bool.false_or]
  by_cases hh : x.Half = 0
  ·rw [decide_eq_true hh]
   simp only [cond_true, Bool.true_and]
   refine wp_bnd (wp_mono (slot_held1 1 l x ht) (fun r8 h8 => ?_))
   cases r8 with
   | true =>
    simp only [cond_true, Bool.true_and]
    refine wp_bnd (wp_mono (slot_held1 2 l x ht) (fun r9 h9 => wp_some ⟨fun h => .inr (.inr ⟨hh, h8.1 rfl, h9.1 h⟩), fun h => ?_⟩))
    rcases h with h | h | ⟨_, _, h⟩
    ·exact (h0 h).elim
    ·exact (h7' h).elim
    ·exact h9.2 h
   | false =>
    simp only [cond_false, Bool.false_and]
    refine wp_bnd (wp_some (wp_some ⟨fun h => (by cases h), fun h => ?_⟩))
    rcases h with h | h | ⟨_, h, _⟩
    ·exact (h0 h).elim
    ·exact (h7' h).elim
    ·have := h8.2 h; cases this
  ·rw [decide_eq_false hh]
   simp only [cond_false, Bool.false_and]
   refine wp_bnd (wp_some (wp_bnd (wp_some (wp_some ⟨fun h => (by cases h), fun h => ?_⟩))))
   rcases h with h | h | ⟨h, _⟩
   ·exact (h0 h).elim
   ·exact (h7' h).elim
   ·exact (hh h).elim
def sharesP (a b : Int) : Prop := a = b ∨ a = 0 ∨ b = 0
theorem slot_shares (a b : Int) : Wp (M_slot_shares a b) (fun r => r = true ↔ sharesP a b) := by
 unfold M_slot_shares sharesP
 refine wp_some ?_
 simp [or_assoc]
def MeetP (a b : Slot) : Prop := a.G5 = b.G5 ∧ a.Tier = b.Tier ∧ sharesP a.Half b.Half
theorem slot_meet (a b : Slot) : Wp (M_slot_Meet a b) (fun r => r = true ↔ MeetP a b) := by
 unfold M_slot_Meet MeetP
 by_cases h : a.G5 = b.G5 ∧ a.Tier = b.Tier
 ·simp only [decide_eq_true h.1, decide_eq_true h.2, Bool.and_self, cond_true, Bool.true_and]
  exact wp_bnd (wp_mono (slot_shares _ _) (fun r hr => wp_some ⟨fun e => ⟨h.1, h.2, hr.1 e⟩, fun e => hr.2 e.2.2⟩))
 ·have e : (decide (a.G5 = b.G5) && decide (a.Tier = b.Tier)) = false := by
   by_cases h1 : a.G5 = b.G5
   ·have : ¬ a.Tier = b.Tier := fun h2 => h ⟨h1, h2⟩
    simp [this]
   ·simp [h1]
  simp only [e, cond_false, Bool.false_and]
  exact wp_bnd (wp_some (wp_some ⟨fun e => (by cases e), fun e => (h ⟨e.1, e.2.1⟩).elim⟩))
def OverP (a b : Slot) : Prop := a.G5 = b.G5 ∧ b.Tier < a.Tier ∧ sharesP a.Half b.Half
/-- The height of what stands in a half of a column. -/
def tallI (b : Box) : Int := if b.High then 2896 else 2591
def addH (boxes : List Box) (column half : Int) (n : Int) (x : G3) : Int :=
 if x.Slot.G5 = column ∧ (x.Slot.Half = half ∨ x.Slot.Half = 0) then (match findBox boxes x.Box with | some b => n + tallI b | none => n) else n
def heightI (boxes : List Box) (l : List G3) (column half : Int) : Int := l.foldl (addH boxes column half) 0
theorem addH_le {boxes : List Box} {column half n : Int} {x : G3} : n ≤ addH boxes column half n x ∧ addH boxes column half n x ≤ n + 2896 := by
 unfold addH tallI
 split
 ·split
  ·split <;> omega
  ·omega
 ·omega
theorem stow_height (boxes : List Box) (l : List G3) (column half : Int) (hl : l.length ≤ 1000000) : M_stow_Height boxes l column half = some (heightI boxes l column half) := by
 refine wp_eq ?_
 unfold M_stow_Height heightI
 refine wp_each (fun pre n => n = pre.foldl (addH boxes column half) 0 ∧ 0 ≤ n ∧ n ≤ 2896 * pre.length) ⟨rfl, Int.le_refl _, by simp⟩ (fun pre y post n nx e hn hnx => ?_) (fun n hn => wp_some hn.1)
 obtain ⟨rfl, h1, h2⟩ := hn
 have hp : pre.length + 1 ≤ l.length := by rw [e]; simp
 have ha := addH_le (boxes := boxes) (column := column) (half := half) (n := pre.foldl (addH boxes column half) 0) (x := y)
 have hlen : ((pre ++ [y]).length : Int) = pre.length + 1 := by simp
 generalize hg : pre.foldl (addH boxes column half) 0 = n at *
 refine wp_jp (fun j => j = addH boxes column half n y) (fun K hK => ?_) (fun j hj => hnx _ ⟨by rw [hj, List.foldl_append, hg]; rfl, by omega, by rw [hlen]; omega⟩)
 refine wp_bif (fun hc => ?_) (fun hc => hK _ ?_)
 ·have hc' : y.Slot.G5 = column ∧ (y.Slot.Half = half ∨ y.Slot.Half = 0) := by simpa using hc
  refine wp_bnd_eq (stow_find boxes y.Box) ?_
  cases hf : findBox boxes y.Box with
  | none => exact wp_bif (fun h => by cases h) (fun _ => hK _ (by unfold addH; rw [if_pos hc', hf]))
  | some b =>
   refine wp_bif (fun _ => ?_) (fun h => by cases h)
   have ht : M_stow_tall b = some (tallI b) := by unfold M_stow_tall tallI; cases b.High <;> rfl
   have hadd : addH boxes column half n y = n + tallI b := by unfold addH; rw [if_pos hc', hf]
   refine wp_bnd_eq ht (wp_chk ?_ (hK _ hadd.symm))
   rw [← hadd]
   omega
 ·have hc' : ¬ (y.Slot.G5 = column ∧ (y.Slot.Half = half ∨ y.Slot.Half = 0)) := by simpa using hc
  unfold addH; rw [if_neg hc']
def FitsP (boxes : List Box) (l : List G3) (m : Nat) (c : G5) : Prop := c.Height ≤ 0 ∨ (heightI boxes l m 1 ≤ c.Height ∧ heightI boxes l m 2 ≤ c.Height)
theorem stow_fits {s : Ship} {boxes : List Box} {l : List G3} {m : Nat} {c : G5} (hc : s.Columns[m]? = some c) (hl : l.length ≤ 1000000) : Wp (M_stow_fits s boxes l (m : Int)) (fun r => r = true ↔ FitsP boxes l m c) := by
 unfold M_stow_fits FitsP
 refine wp_gidx rfl hc ?_
 by_cases h : c.Height ≤ 0
 ·simp only [decide_eq_true h, Bool.not_true, cond_false, Bool.false_and, Bool.true_or]
  exact wp_bnd (wp_some (wp_bnd (wp_some (wp_some ⟨fun _ => .inl h, fun _ => rfl⟩))))
 ·simp only [decide_eq_false h, Bool.not_false, cond_true, Bool.true_and, Bool.false_or]
  refine wp_bnd_eq (stow_height boxes l m 1 hl) ?_
  by_cases h1 : heightI boxes l m 1 ≤ c.Height
  ·rw [decide_eq_true h1]
   simp only [cond_true, Bool.true_and]
   exact wp_bnd_eq (stow_height boxes l m 2 hl) (wp_some ⟨fun e => .inr ⟨h1, of_decide_eq_true e⟩, fun e => decide_eq_true (e.elim (fun e => (h e).elim) (·.2))⟩)
  ·rw [decide_eq_false h1]
   simp only [cond_false, Bool.false_and]
   exact wp_bnd (wp_some (wp_some ⟨fun e => (by cases e), fun e => e.elim (fun e => (h e).elim) (fun e => (h1 e.1).elim)⟩))
theorem stow_taken (l : List G3) (hl : l.length ≤ 1000000) : M_stow_taken l = some (l.map (·.Slot)) := by
 refine wp_eq ?_
 unfold M_stow_taken
 refine wp_each (fun pre s => s = pre.map (·.Slot)) rfl (fun pre y post s nx e hs hnx => ?_) (fun s hs => wp_some hs)
 subst hs
 have hp : pre.length + 1 ≤ l.length := by rw [e]; simp
 exact wp_need (room_ok (by simp only [List.length_map, List.length_singleton]; omega) (by omega)) (hnx _ (by simp))
structure RightP (s : Ship) (boxes : List Box) (l : List G3) : Prop where
 each : ∀ x ∈ l, ∃ b, findBox boxes x.Box = some b ∧ SlotOk s x.Slot b.Size ∧ HeldP x.Slot (l.map (·.Slot))
 sorted : l.Pairwise (fun a b => a.Box < b.Box)
 apart : l.Pairwise (fun a b => ¬ MeetP b.Slot a.Slot)
 fits : ∀ m c, s.Columns[m]? = some c → FitsP boxes l m c
theorem pairwise_snoc {α : Type} {R : α → α → Prop} {l : List α} {x : α} (h : l.Pairwise R) (hx : ∀ a ∈ l, R a x) : (l ++ [x]).Pairwise R := by
 rw [List.pairwise_append]
 refine ⟨h, List.pairwise_singleton .., fun a ha b hb => ?_⟩
 rw [List.mem_singleton] at hb; subst hb
 exact hx a ha
theorem pairwise_mid {α : Type} {R : α → α → Prop} {pre post : List α} {y : α} (h : (pre ++ y :: post).Pairwise R) : ∀ a ∈ pre, R a y := fun a ha => (List.pairwise_append.1 h).2.2 a ha y (List.mem_cons_self ..)
theorem stow_right {s : Ship} {boxes : List Box} {l : List G3} (hr : S_ship_Right s = some true) (ht : ∀ c ∈ s.Columns, c.Tiers ≤ 1000000) (hl : l.length ≤ 1000000) : Wp (M_stow_Right s boxes l) (fun r => r = true ↔ RightP s boxes l) := by
 unfold M_stow_Right
 refine wp_bnd_eq hr (wp_bif (fun h => by cases h) (fun _ => ?_))
 refine wp_bnd_eq (stow_taken l hl) ?_
 refine wp_each (fun pre _ => (∀ x ∈ pre, ∃ b, findBox boxes x.Box = some b ∧ SlotOk s x.Slot b.Size ∧ HeldP x.Slot (l.map (·.Slot))) ∧ pre.Pairwise (fun a b => a.Box < b.Box) ∧ pre.Pairwise (fun a b => ¬ MeetP b.Slot a.Slot))
  ⟨fun x hx => (List.not_mem_nil hx).elim, List.Pairwise.nil, List.Pairwise.nil⟩ (fun pre y post u nx e hI hnx => ?_) (fun u hI => ?_)
 ·obtain ⟨i1, i2, i3⟩ := hI
  have hlen : pre.length < l.length := by rw [e]; simp
  have hy : y ∈ l := by rw [e]; simp
  have no : ∀ {m : Option Bool}, m = some false → ¬ RightP s boxes l → Wp m (fun r => r = true ↔ RightP s boxes l) := fun e h => by subst e; exact wp_some ⟨fun e => (by cases e), fun e => (h e).elim⟩
  refine wp_bnd_eq (stow_find boxes y.Box) ?_
  cases hf : findBox boxes y.Box with
  | none =>
   simp only [Bool.not_false, Bool.not_true, Bool.false_and, cond_false, Bool.true_or, cond_true]
   refine wp_bnd (wp_some (wp_bnd (wp_some (wp_bnd (wp_some (wp_bnd (wp_some (no rfl fun h => ?_))))))))
   obtain ⟨b, hb, _⟩ := h.each y hy
   rw [hf] at hb; cases hb
  | some b =>
   simp only [Bool.not_true, Bool.not_false, Bool.true_and, Bool.false_or]
   -- the order
   have hprev : Wp (bif decide (0 < (pre.length : Int)) then chk ((pre.length : Int) - 1) some else some 0) (fun v => Wp (bif decide (0 < (pre.length : Int)) then gidx l v some else some default) (fun y20 =>
     ((decide (0 < (pre.length : Int)) && decide (y.Box ≤ y20.Box)) = true → ¬ RightP s boxes l) ∧ ((decide (0 < (pre.length : Int)) && decide (y.Box ≤ y20.Box)) = false → ∀ a ∈ pre, a.Box < y.Box))) := by
    rcases List.eq_nil_or_concat pre with hp | ⟨pre', z, hp⟩
    ·subst hp
     simp only [List.length_nil]
     exact wp_some (wp_some ⟨fun h => by simp at h, fun _ a ha => (List.not_mem_nil ha).elim⟩)
    ·have hp' : pre = pre' ++ [z] := by simpa using hp
     have hpl : pre.length = pre'.length + 1 := by rw [hp']; simp
     have hd : decide (0 < (pre.length : Int)) = true := decide_eq_true (by omega)
     have hz : l[pre'.length]? = some z := by rw [e, hp']; simp
     rw [hd]
     simp only [cond_true, Bool.true_and]
     refine wp_chk ⟨by omega, by omega⟩ (wp_some (wp_gidx (m := pre'.length) (by omega) hz (wp_some ⟨fun h hR => ?_, fun h a ha => ?_⟩)))
     ·have := of_decide_eq_true h
      have hs := hR.sorted
      rw [e] at hs
      have := pairwise_mid hs z (by rw [hp']; simp)
      omega
     ·have hzy : ¬ y.Box ≤ z.Box := of_decide_eq_false h
      rw [hp'] at ha
      rcases List.mem_append.1 ha with ha | ha
      ·have := pairwise_mid (hp' ▸ i2 : (pre' ++ z :: []).Pairwise _) a ha
       omega
      ·rw [List.mem_singleton] at ha; subst ha; omega
   refine wp_bnd (wp_mono hprev (fun v hv => wp_bnd (wp_mono hv (fun y20 h20 => ?_))))
   obtain ⟨n1, n2⟩ := h20
   generalize (decide (0 < (pre.length : Int)) && decide (y.Box ≤ y20.Box)) = c at n1 n2
   cases c with
   | true =>
    simp only [Bool.not_true, cond_false, Bool.true_or, cond_true]
    exact wp_bnd (wp_some (wp_bnd (wp_some (no rfl (n1 rfl)))))
   | false =>
    simp only [Bool.not_false, cond_true, Bool.false_or]
    have hsort := n2 rfl
    refine wp_bnd (wp_mono (slot_right s y.Slot b.Size) (fun r21 h21 => ?_))
    cases r21 with
    | false =>
     simp only [Bool.not_false, Bool.not_true, cond_false, Bool.true_or, cond_true]
     refine wp_bnd (wp_some (no rfl fun h => ?_))
     obtain ⟨b', hb, hs, _⟩ := h.each y hy
     rw [hf] at hb; cases hb
     have := h21.2 hs; cases this
    | true =>
     have hslot := h21.1 rfl
     simp only [Bool.not_true, Bool.not_false, cond_true, Bool.false_or]
     have htier : -1000000 ≤ y.Slot.Tier ∧ y.Slot.Tier ≤ 1000000 := by
      obtain ⟨m, c, _, hc, h3⟩ := hslot.col
      have := hslot.tier
      have := ht c (List.mem_of_getElem? hc)
      omega
     refine wp_bnd (wp_mono (slot_held y.Slot (l.map (·.Slot)) htier) (fun r22 h22 => ?_))
     cases r22 with
     | false =>
      refine wp_bif (fun _ => no rfl fun h => ?_) (fun h => by cases h)
      obtain ⟨b', hb, _, hh⟩ := h.each y hy
      have := h22.2 hh; cases this
     | true =>
      have hheld := h22.1 rfl
      refine wp_bif (fun h => by cases h) (fun _ => ?_)
      refine wp_bnd (wp_natIn (m := pre.length) rfl (by rw [List.length_map]; omega) ?_)
      have htk : (l.map (·.Slot)).take pre.length = pre.map (·.Slot) := by rw [← List.map_take, e, List.take_left']; rfl
      rw [htk]
      refine wp_each (fun pr _ => ∀ a ∈ pr, ¬ MeetP y.Slot a) (fun a ha => (List.not_mem_nil ha).elim) (fun pr a pos u nx2 e2 hI2 hnx2 => ?_) (fun u hI2 => hnx _ ⟨fun x hx => ?_, pairwise_snoc i2 hsort, pairwise_snoc i3 (fun a ha => hI2 a.Slot (List.mem_map.2 ⟨a, ha, rfl⟩))⟩)
      ·refine wp_bnd (wp_mono (slot_meet y.Slot a) (fun r48 h48 => ?_))
       refine wp_bif (fun h => no rfl fun hR => ?_) (fun h => hnx2 _ (fun a' ha' => ?_))
       ·have hm := h48.1 h
        have hin : a ∈ pre.map (·.Slot) := by rw [e2]; simp
        obtain ⟨z, hz, rfl⟩ := List.mem_map.1 hin
        have ha := hR.apart
        rw [e] at ha
        exact pairwise_mid ha z hz hm
       ·rcases List.mem_append.1 ha' with ha' | ha'
        ·exact hI2 a' ha'
        ·rw [List.mem_singleton] at ha'; subst ha'
         intro hm
         have := h48.2 hm
         rw [this] at h; cases h
      ·rcases List.mem_append.1 hx with hx | hx
       ·exact i1 x hx
       ·rw [List.mem_singleton] at hx; subst hx
        exact ⟨b, hf, hslot, hheld⟩
 ·obtain ⟨i1, i2, i3⟩ := hI
  refine wp_each (fun pre _ => ∀ m c, m < pre.length → s.Columns[m]? = some c → FitsP boxes l m c) (fun m c h => (Nat.not_lt_zero m h).elim) (fun pre y post u nx e hI hnx => ?_) (fun u hI => wp_some ⟨fun _ => ⟨i1, i2, i3, fun m c hc => hI m c (List.getElem?_eq_some_iff.1 hc).1 hc⟩, fun _ => rfl⟩)
  have hc : s.Columns[pre.length]? = some y := by rw [e]; simp
  refine wp_bnd (wp_mono (stow_fits hc hl) (fun r hr => ?_))
  cases r with
  | false => exact wp_bif (fun _ => wp_some ⟨fun e => (by cases e), fun h => by have := hr.2 (h.fits _ _ hc); cases this⟩) (fun h => by cases h)
  | true =>
   refine wp_bif (fun h => by cases h) (fun _ => hnx _ (fun m c hm hmc => ?_))
   rw [List.length_append, List.length_singleton] at hm
   rcases Nat.lt_or_ge m pre.length with h | h
   ·exact hI m c h hmc
   ·have : m = pre.length := by omega
    subst this
    rw [hc] at hmc; cases hmc
    exact hr.1 rfl
theorem wp_loop {β σ : Type} {Q : β → Prop} (I : σ → Prop) (μ : σ → Nat) {b : (σ → Option β) → σ → Option β} {F : Nat} {s : σ} (h0 : I s) (hF : μ s < F)
  (hb : ∀ s nx, I s → (∀ s', I s' → μ s' < μ s → Wp (nx s') Q) → Wp (b nx s) Q) : Wp (loop b F s) Q := by
 induction F generalizing s with
 | zero => omega
 | succ F ih =>
  rw [loop]
  exact hb s _ h0 (fun s' h1 h2 => ih h1 (by omega))
section maps
variable {κ ν : Type} [DecidableEq κ]
theorem amap_get_empty (a : κ) (z : ν) : AMap.get (AMap.empty : AMap κ ν) a z = z := rfl
theorem amap_has_empty (a : κ) : AMap.has (AMap.empty : AMap κ ν) a = false := rfl
theorem amap_get_put (m : AMap κ ν) (a b : κ) (v z : ν) : AMap.get (AMap.put m a v) b z = if a = b then v else AMap.get m b z := by
 unfold AMap.get AMap.put
 simp only [mget_mput]
 split <;> rfl
theorem amap_has_put (m : AMap κ ν) (a b : κ) (v : ν) : AMap.has (AMap.put m a v) b = (decide (a = b) || AMap.has m b) := by
 unfold AMap.has AMap.put
 have h := mget_isSome (l := mput m.l a v) (a := b)
 have h2 := mget_isSome (l := m.l) (a := b)
 rw [← h, mget_mput]
 by_cases e : a = b
 ·simp [e]
 ·simp [e, h2]
end maps
theorem each_chosen {α : Type} {l : List α} {wanted : α → Option Bool} {p : α → Bool} (hw : ∀ x ∈ l, wanted x = some (p x)) (hl : l.length ≤ 1000000) :
  each (fun y i (s : List Int) nx => jp (fun kj => bnd (wanted y) fun r => bif r then (need (decide ((s.length + [(i : Int)].length) * 8 ≤ 140737488355328 ∧ s.length + [(i : Int)].length ≤ maxLen)) <| kj (s ++ [(i : Int)])) else (kj s)) fun (j : List Int) => nx j)
   (fun s => some s) l 0 [] = some (idxs p l) := by
 refine wp_eq ?_
 refine wp_each (fun pre s => s = idxs p pre) rfl (fun pre x post s nx e hs hnx => ?_) (fun s hs => wp_some hs)
 subst hs
 have hpl : pre.length + 1 ≤ l.length := by rw [e]; simp
 refine wp_jp (fun j => j = idxs p (pre ++ [x])) (fun K hK => ?_) (fun j hj => hnx _ hj)
 refine wp_bnd_eq (hw x (by rw [e]; simp)) (wp_bif (fun h => wp_need ?_ (hK _ ?_)) (fun h => hK _ ?_))
 ·have := idxs_length p pre
  exact room_ok (by rw [List.length_singleton]; omega) (by omega)
 ·rw [idxs_snoc, h]; rfl
 ·rw [idxs_snoc, h]; simp
theorem idxs_cons {α : Type} (p : α → Bool) (x : α) (l : List α) : idxs p (x :: l) = (if p x then [0] else []) ++ (idxs p l).map (· + 1) := by
 unfold idxs
 rw [List.zipIdx_cons', List.filter_cons]
 have h : (((l.zipIdx.map (Prod.map id (fun n : Nat => n + 1))).filter (fun y : α × Nat => p y.1)).map (fun y : α × Nat => (y.2 : Int))) = ((l.zipIdx.filter (fun y : α × Nat => p y.1)).map (fun y : α × Nat => (y.2 : Int))).map (· + 1) := by
  rw [List.filter_map, List.map_map, List.map_map]
  rfl
 by_cases hx : p x = true
 ·rw [if_pos (show p (x, 0).fst = true from hx), if_pos hx, List.map_cons]
  exact congrArg (List.cons _) h
 ·rw [if_neg (show ¬ p (x, 0).fst = true from hx), if_neg hx, List.nil_append]
  exact h
theorem idxs_head {α : Type} (p : α → Bool) (l : List α) : (idxs p l).head? = match l.findIdx? p with
  | some j => some (j : Int)
  | none => none := by
 induction l with
 | nil => rfl
 | cons x l ih =>
  rw [idxs_cons, List.findIdx?_cons]
  by_cases hx : p x
  ·simp [hx]
  ·simp only [hx, if_false, Bool.false_eq_true, List.nil_append, List.head?_map, ih]
   cases l.findIdx? p <;> simp
theorem idxs_pos {α : Type} (p : α → Bool) (l : List α) : decide (0 < ((idxs p l).length : Int)) = l.any p := by
 by_cases h : ∀ x ∈ l, p x = false
 ·rw [idxs_nil.2 h]
  refine Eq.symm (List.any_eq_false.2 fun x hx => ?_)
  rw [h x hx]; exact Bool.false_ne_true
 ·have h1 : idxs p l ≠ [] := fun e => h (idxs_nil.1 e)
  have h2 := List.length_pos_iff.2 h1
  rw [decide_eq_true (by omega)]
  refine Eq.symm (List.any_eq_true.2 ?_)
  refine Classical.byContradiction fun hn => h fun x hx => ?_
  cases hc : p x with
  | false => rfl
  | true => exact (hn ⟨x, hx, hc⟩).elim
/-- A cover lies over a place. -/
def covB (x : Gc) (c : G5) : Bool := decide (x.Bay = c.Bay) && x.Rows.any (fun r => decide (r = c.Row))
theorem ship_covers (x : Gc) (c : G5) (hl : x.Rows.length ≤ 1000000) : M_ship_covers x c = some (covB x c) := by
 unfold M_ship_covers covB
 by_cases h : x.Bay = c.Bay
 ·have hc : M_ship_chosen_int x.Rows (fun z0 => M_ship_covers_1 z0 c) = some (idxs (fun r => decide (r = c.Row)) x.Rows) := by
   unfold M_ship_chosen_int
   exact each_chosen (fun x _ => rfl) hl
  rw [decide_eq_true h]
  simp only [cond_true, Bool.true_and]
  rw [hc, bnd_some, idxs_pos]
 ·rw [decide_eq_false h]
  rfl
def coverOf (s : Ship) (c : G5) : Int := idxI (fun x => covB x c) s.Covers
theorem ship_coverOf {s : Ship} {m : Nat} {c : G5} (hc : s.Columns[m]? = some c) (hr : ∀ x ∈ s.Covers, x.Rows.length ≤ 1000000) (hl : s.Covers.length ≤ 1000000) : M_ship_CoverOf s (m : Int) = some (coverOf s c) := by
 have hm := (List.getElem?_eq_some_iff.1 hc).1
 refine wp_eq ?_
 unfold M_ship_CoverOf
 refine wp_bif (fun h => ?_) (fun _ => ?_)
 ·simp only [Bool.or_eq_true, decide_eq_true_eq] at h
  omega
 have hch : M_ship_chosen_apiCover s.Covers (fun z0 => M_ship_CoverOf_1 z0 s (m : Int)) = some (idxs (fun x => covB x c) s.Covers) := by
  unfold M_ship_chosen_apiCover
  refine each_chosen (fun x hx => wp_eq ?_) hl
  unfold M_ship_CoverOf_1
  exact wp_gidx rfl hc (wp_bnd_eq (ship_covers x c (hr x hx)) (wp_some rfl))
 refine wp_bnd_eq hch ?_
 have hh := idxs_head (fun x => covB x c) s.Covers
 unfold coverOf idxI
 cases hf : s.Covers.findIdx? (fun x => covB x c) with
 | none =>
  rw [hf] at hh
  have h0 : idxs (fun x => covB x c) s.Covers = [] := List.head?_eq_none_iff.1 hh
  rw [h0]
  exact wp_some rfl
 | some j =>
  rw [hf] at hh
  cases hi : idxs (fun x => covB x c) s.Covers with
  | nil => rw [hi] at hh; cases hh
  | cons z r =>
   rw [hi] at hh
   simp only [List.head?_cons, Option.some.injEq] at hh
   subst hh
   refine wp_bif (fun h => ?_) (fun _ => wp_gidx (m := 0) rfl rfl (wp_some rfl))
   have := of_decide_eq_true h
   simp only [List.length_cons] at this
   omega
def insSt (l : List G3) (x : G3) : List G3 := l.filter (fun y => decide (y.Box < x.Box)) ++ [x] ++ l.filter (fun y => decide (x.Box < y.Box))
theorem filter_snoc {α : Type} (p : α → Bool) (l : List α) (x : α) : (l ++ [x]).filter p = l.filter p ++ (if p x then [x] else []) := by
 rw [List.filter_append]
 by_cases h : p x <;> simp [h]
theorem law23_with (l : List G3) (x : G3) (hl : l.length ≤ 100000) : M_twistlocklaw23_with l x = some (insSt l x) := by
 refine wp_eq ?_
 unfold M_twistlocklaw23_with insSt
 refine wp_each (fun pre s => s = pre.filter (fun y => decide (y.Box < x.Box))) rfl (fun pre y post s nx e hs hnx => ?_) (fun s hs => ?_)
 ·subst hs
  have hp : pre.length + 1 ≤ l.length := by rw [e]; simp
  have hf := List.length_filter_le (fun y : G3 => decide (y.Box < x.Box)) pre
  refine wp_jp (fun j => j = (pre ++ [y]).filter (fun y => decide (y.Box < x.Box))) (fun K hK => wp_bif (fun h => wp_need (room_ok (by rw [List.length_singleton]; omega) (by omega)) (hK _ ?_)) (fun h => hK _ ?_)) (fun j hj => hnx _ hj)
  ·rw [filter_snoc, h]; rfl
  ·rw [filter_snoc, h]; simp
 ·subst hs
  have hf := List.length_filter_le (fun y : G3 => decide (y.Box < x.Box)) l
  refine wp_need (room_ok (by rw [List.length_singleton]; omega) (by omega)) ?_
  refine wp_each (fun pre s => s = l.filter (fun y => decide (y.Box < x.Box)) ++ [x] ++ pre.filter (fun y => decide (x.Box < y.Box))) (by simp) (fun pre y post s nx e hs hnx => ?_) (fun s hs => wp_some hs)
  subst hs
  have hp : pre.length + 1 ≤ l.length := by rw [e]; simp
  have hg := List.length_filter_le (fun y : G3 => decide (x.Box < y.Box)) pre
  refine wp_jp (fun j => j = l.filter (fun y => decide (y.Box < x.Box)) ++ [x] ++ (pre ++ [y]).filter (fun y => decide (x.Box < y.Box))) (fun K hK => wp_bif (fun h => wp_need (room_ok (by simp only [List.length_append, List.length_singleton]; omega) (by omega)) (hK _ ?_)) (fun h => hK _ ?_)) (fun j hj => hnx _ hj)
  ·rw [filter_snoc, h]; simp
  ·rw [filter_snoc, h]; simp
theorem insSt_mem {l : List G3} {x y : G3} : y ∈ insSt l x ↔ y = x ∨ (y ∈ l ∧ y.Box ≠ x.Box) := by
 unfold insSt
 simp only [List.mem_append, List.mem_filter, List.mem_singleton, decide_eq_true_eq]
 constructor
 ·rintro ((⟨h1, h2⟩ | h) | ⟨h1, h2⟩)
  ·exact .inr ⟨h1, by omega⟩
  ·exact .inl h
  ·exact .inr ⟨h1, by omega⟩
 ·rintro (h | ⟨h1, h2⟩)
  ·exact .inl (.inr h)
  ·rcases Int.lt_or_gt_of_ne h2 with h | h
   ·exact .inl (.inl ⟨h1, h⟩)
   ·exact .inr ⟨h1, h⟩
theorem insSt_length (l : List G3) (x : G3) : (insSt l x).length ≤ 2 * l.length + 1 := by
 unfold insSt
 have h1 := List.length_filter_le (fun y : G3 => decide (y.Box < x.Box)) l
 have h2 := List.length_filter_le (fun y : G3 => decide (x.Box < y.Box)) l
 simp only [List.length_append, List.length_singleton]
 omega
def holdsB (l : List G3) (id : Int) : Bool := l.any (fun x => decide (x.Box = id))
theorem holdsB_iff {l : List G3} {id : Int} : holdsB l id = true ↔ id ∈ l.map (·.Box) := by
 unfold holdsB
 rw [List.any_eq_true, List.mem_map]
 constructor
 ·rintro ⟨x, h1, h2⟩; exact ⟨x, h1, of_decide_eq_true h2⟩
 ·rintro ⟨x, h1, h2⟩; exact ⟨x, h1, decide_eq_true h2⟩
theorem law23_holds (l : List G3) (id : Int) : M_twistlocklaw23_holds l id = some (holdsB l id) := by
 refine wp_eq ?_
 unfold M_twistlocklaw23_holds
 refine wp_each (fun pre _ => ∀ x ∈ pre, decide (x.Box = id) = false) (fun x hx => (List.not_mem_nil hx).elim) (fun pre y post s nx e hI hnx => wp_bif (fun h => wp_some ?_) (fun h => hnx _ (fun x hx => ?_))) (fun s hI => wp_some ?_)
 ·exact (List.any_eq_true.2 ⟨y, by rw [e]; simp, h⟩).symm
 ·rcases List.mem_append.1 hx with hx | hx
  ·exact hI x hx
  ·rw [List.mem_singleton] at hx; subst hx; exact h
 ·refine (List.any_eq_false.2 fun x hx => ?_).symm
  rw [hI x hx]; exact Bool.false_ne_true
/-- Boxes that are on board behind a call. -/
def abB (k : Int) (b : Box) : Bool := decide (b.Load ≤ k) && decide (k < b.Discharge)
def aboardL (boxes : List Box) (k : Int) : List Int := (boxes.filter (abB k)).map (·.ID)
/-- The slot of a box in a state, and whether it is there. -/
def findP (l : List G3) (id : Int) : Slot × Bool := match findSt l id with
 | some x => (x.Slot, true)
 | none => (⟨0, 0, 0⟩, false)
theorem plan_find (l : List G3) (id : Int) : M_plan_find l id = some (findP l id) := by
 unfold M_plan_find
 have h : M_slices_IndexFunc_apiStowed l (fun z0 => M_plan_find_1 z0 id) = some (idxI (fun x : G3 => decide (x.Box = id)) l) := each_idx (fun x _ => rfl)
 rw [h]
 simp only [bnd_some]
 unfold findP findSt
 rcases idxI_cases (fun x : G3 => decide (x.Box = id)) l with ⟨h1, _, h3⟩ | ⟨m, x, h1, h2, _, h4⟩
 ·rw [h1, h3]; rfl
 ·rw [h1, h4, decide_eq_false (by omega), cond_false]
  unfold gidx
  rw [decide_eq_true (by omega), cond_true, show (m : Int).toNat = m by omega, h2]
  rfl
/-- Ships whose covers and columns are few. -/
structure Small (s : Ship) : Prop where
 right : S_ship_Right s = some true
 cols : 1 ≤ s.Columns.length ∧ s.Columns.length ≤ 40
 tiers : ∀ c ∈ s.Columns, c.Tiers ≤ 100
 covs : s.Covers.length ≤ 1000
 rows : ∀ x ∈ s.Covers, x.Rows.length ≤ 1000
theorem built_small {s : Ship} (h : BuiltOk s) : Small s :=
 ⟨built_right h, ⟨h.some, by have := h.cols.len; omega⟩, fun c hc => by have := (h.cols.each c hc).tiers; omega, by have := h.covs.len; omega, fun x hx => by
  rcases (h.covs.each x hx).rows with e | e <;> rw [e] <;> simp⟩
def ColIn (s : Ship) (x : Slot) : Prop := ∃ (m : Nat) (c : G5), x.G5 = (m : Int) ∧ s.Columns[m]? = some c
structure LInv (U : List Int) (m : AMap Int Unit) (l : List Int) : Prop where
 nodup : l.Nodup
 sub : ∀ a ∈ l, a ∈ U
 has : ∀ a, AMap.has m a = decide (a ∈ l)
theorem LInv.le {U : List Int} {m : AMap Int Unit} {l : List Int} (h : LInv U m l) : l.length ≤ U.length := h.nodup.length_le_of_subset (fun a ha => h.sub a ha)
theorem LInv.start {U : List Int} : LInv U (AMap.empty : AMap Int Unit) [] := ⟨List.nodup_nil, fun a ha => (List.not_mem_nil ha).elim, fun a => by simp [amap_has_empty]⟩
theorem LInv.snoc {U : List Int} {m : AMap Int Unit} {l : List Int} (h : LInv U m l) {id : Int} (h1 : id ∉ l) (h2 : id ∈ U) : LInv U (AMap.put m id ()) (l ++ [id]) := by
 refine ⟨?_, fun a ha => ?_, fun a => ?_⟩
 ·rw [List.nodup_append]
  refine ⟨h.nodup, by simp, fun a ha b hb => ?_⟩
  rw [List.mem_singleton] at hb; subst hb
  intro e; subst e; exact h1 ha
 ·rcases List.mem_append.1 ha with ha | ha
  ·exact h.sub a ha
  ·rw [List.mem_singleton] at ha; subst ha; exact h2
 ·rw [amap_has_put, h.has, Bool.eq_iff_iff]
  simp only [Bool.or_eq_true, decide_eq_true_eq, List.mem_append, List.mem_singleton]
  exact ⟨fun h => h.elim (fun e => .inr e.symm) .inl, fun h => h.elim .inr (fun e => .inl e.symm)⟩
theorem lifted_same (F : Nat) (s : Ship) (l : List G3) : M_plan_lifted F s l l = some [] := by
 refine wp_eq ?_
 unfold M_plan_lifted
 refine wp_each (fun _ s9 => s9.2 = []) rfl (fun pre st post s9 nx e hI hnx => ?_) (fun s9 hI => ?_)
 ·refine wp_each (fun _ s59 => s59.2 = []) hI (fun pre y post s59 nx2 e hI hnx2 => ?_) (fun s59 hI => hnx _ hI)
  refine wp_jp (fun j => j.2 = []) (fun K hK => ?_) (fun j hj => hnx2 _ hj)
  refine wp_bnd_eq (plan_find l y.Box) (wp_bnd_eq (plan_find l y.Box) (wp_bif (fun h => ?_) (fun _ => hK _ hI)))
  simp at h
 ·rw [hI]
  exact wp_bnd_eq (show sortIM [] = some [] from rfl) (wp_some rfl)
structure BoxOk (calls : Int) (b : Box) : Prop where
 id : 5 ≤ b.ID ∧ b.ID ≤ 999999
 size : b.Size = 40 ∨ (b.Size = 20 ∧ b.High = false)
 load : 0 ≤ b.Load
 stay : b.Load < b.Discharge
 out : b.Discharge < calls
structure BoxesOk (calls : Int) (boxes : List Box) : Prop where
 num : 1 ≤ calls ∧ calls ≤ 20
 len : boxes.length ≤ 8
 each : ∀ b ∈ boxes, BoxOk calls b
 sorted : boxes.Pairwise (fun a b => a.ID < b.ID)
theorem sorted_nodup {l : List Int} (h : l.Pairwise (· < ·)) : l.Nodup := h.imp (fun h => by omega)
theorem BoxesOk.ids {calls : Int} {boxes : List Box} (h : BoxesOk calls boxes) : (boxes.map (·.ID)).Pairwise (· < ·) := List.pairwise_map.2 h.sorted
theorem plan_boxes {calls : Int} {boxes : List Box} (h : BoxesOk calls boxes) : M_plan_Boxes boxes calls = some true := by
 refine wp_eq ?_
 unfold M_plan_Boxes
 have hc := h.num
 have hl := h.len
 refine wp_bif (fun hb => ?_) (fun _ => ?_)
 ·simp only [Bool.or_eq_true, decide_eq_true_eq] at hb
  omega
 refine wp_each (fun pre last => 0 ≤ last ∧ (pre = [] ∧ last = 0 ∨ ∃ a ∈ pre, a.ID = last)) ⟨Int.le_refl _, .inl ⟨rfl, rfl⟩⟩ (fun pre y post last nx e hI hnx => ?_) (fun s _ => wp_some rfl)
 have hy := h.each y (by rw [e]; simp)
 obtain ⟨⟨i1, i2⟩, hs, h3, h4, h5⟩ := hy
 have hlast : last < y.ID := by
  rcases hI.2 with ⟨_, h⟩ | ⟨a, ha, h⟩
  ·omega
  ·have := h.symm
   have hp := BoxesOk.sorted ‹BoxesOk calls boxes›
   rw [e] at hp
   have := pairwise_mid hp a ha
   omega
 refine wp_bif (fun hb => ?_) (fun _ => hnx _ ⟨by omega, .inr ⟨y, by simp, rfl⟩⟩)
 have e1 : decide (y.ID ≤ last) = false := decide_eq_false (by omega)
 have e2 : decide (999999 < y.ID) = false := decide_eq_false (by omega)
 have e3 : decide (y.Load < 0) = false := decide_eq_false (by omega)
 have e4 : decide (y.Discharge ≤ y.Load) = false := decide_eq_false (by omega)
 have e5 : decide (calls ≤ y.Discharge) = false := decide_eq_false (by omega)
 rw [e1, e2, e3, e4, e5] at hb
 rcases hs with hs | ⟨hs, hh⟩
 ·simp [hs] at hb
 ·simp [hs, hh] at hb
/-- A state of a plan that is right. -/
structure StateOk (s : Ship) (boxes : List Box) (k : Int) (l : List G3) : Prop where
 right : RightP s boxes l
 ids : l.map (·.Box) = aboardL boxes k
structure PlanOk (s : Ship) (boxes : List Box) (calls : Int) (p : Plan) : Prop where
 len : (p.States.length : Int) = calls
 each : ∀ (k : Nat) l, p.States[k]? = some l → StateOk s boxes k l
theorem aboard_len (boxes : List Box) (k : Int) : (aboardL boxes k).length ≤ boxes.length := by
 unfold aboardL
 rw [List.length_map]
 exact List.length_filter_le _ _
theorem StateOk.len {s : Ship} {boxes : List Box} {k : Int} {l : List G3} (h : StateOk s boxes k l) : l.length ≤ boxes.length := by
 have := congrArg List.length h.ids
 rw [List.length_map] at this
 rw [this]
 exact aboard_len boxes k
theorem Small.tier {s : Ship} (h : Small s) : ∀ c ∈ s.Columns, c.Tiers ≤ 1000000 := fun c hc => by have := h.tiers c hc; omega
theorem slot_colIn {s : Ship} {x : Slot} {size : Int} (h : SlotOk s x size) : ColIn s x := by
 obtain ⟨m, c, h1, h2, _⟩ := h.col
 exact ⟨m, c, h1, h2⟩
theorem rightP_nil {s : Ship} {boxes : List Box} : RightP s boxes [] := ⟨fun x hx => (List.not_mem_nil hx).elim, List.Pairwise.nil, List.Pairwise.nil, fun m c _ => by
 unfold FitsP heightI
 simp only [List.foldl_nil]
 omega⟩
theorem eq_of_sorted {a b : List Int} (ha : a.Pairwise (· < ·)) (hb : b.Pairwise (· < ·)) (h : ∀ x, x ∈ a ↔ x ∈ b) : a = b :=
 List.Perm.eq_of_pairwise (le := fun x y : Int => x < y) (fun x y _ _ h1 h2 => by omega) ha hb ((List.perm_ext_iff_of_nodup (sorted_nodup ha) (sorted_nodup hb)).2 h)
theorem slots_spec {s : Ship} (hs : Small s) (size : Int) : Wp (S_slot_slots_1 s size) (fun r => r.length ≤ 200 * s.Columns.length ∧ ∀ x ∈ r, SlotOk s x size) := by
 unfold S_slot_slots_1
 have hhl : (halvesL size).length ≤ 2 := by
  unfold halvesL
  split
  ·simp
  ·split <;> simp
 refine wp_each (fun pre r => r.length ≤ 200 * pre.length ∧ ∀ x ∈ r, SlotOk s x size) ⟨by simp, fun x hx => (List.not_mem_nil hx).elim⟩ (fun pre c post r nx e hI hnx => ?_) (fun r hI => wp_some hI)
 obtain ⟨h1, h2⟩ := hI
 have hc : s.Columns[pre.length]? = some c := by rw [e]; simp
 have ht := hs.tiers c (List.mem_of_getElem? hc)
 refine wp_need (decide_eq_true (by omega)) ?_
 have htn : (max c.Tiers 0).toNat ≤ 100 := by omega
 refine wp_upto (fun i r' => r'.length ≤ r.length + 2 * i ∧ ∀ x ∈ r', SlotOk s x size) ⟨by simp, h2⟩ (fun i r' nx2 hi hI hnx2 => ?_) (fun r' hI => hnx _ ⟨?_, hI.2⟩)
 ·refine wp_bnd_eq (slot_halves size) ?_
  refine wp_each (fun pr r2 => r2.length = r'.length + pr.length ∧ ∀ x ∈ r2, SlotOk s x size) ⟨by simp, hI.2⟩ (fun pr h post2 r2 nx3 e2 hI2 hnx3 => hnx3 _ ⟨?_, fun x hx => ?_⟩) (fun r2 hI2 => hnx2 _ ⟨by have := hI.1; have := hI2.1; omega, hI2.2⟩)
  ·simp only [List.length_append, List.length_singleton]; have := hI2.1; omega
  ·rcases List.mem_append.1 hx with hx | hx
   ·exact hI2.2 x hx
   ·rw [List.mem_singleton] at hx; subst hx
    exact ⟨⟨pre.length, c, rfl, hc, by show (i : Int) < c.Tiers; omega⟩, by show (0 : Int) ≤ i; omega, by show h ∈ halvesL size; rw [e2]; simp⟩
 ·have := hI.1
  simp only [List.length_append, List.length_singleton]; omega
theorem slot_all {s : Ship} (hs : Small s) (size : Int) : Wp (M_slot_All s size) (fun r => r.length ≤ 200 * s.Columns.length ∧ ∀ x ∈ r, SlotOk s x size) := by
 unfold M_slot_All
 refine wp_bnd_eq (show M_slot_slots s size = some () from rfl) ?_
 refine wp_bnd (wp_mono (slots_spec hs size) (fun ys hys => ?_))
 have hc := hs.cols
 refine wp_each (fun pre r => r = pre) rfl (fun pre y post r nx e hI hnx => ?_) (fun r hI => by subst hI; exact wp_some hys)
 subst hI
 have hl : r.length < ys.length := by rw [e]; simp
 exact wp_need (room_ok (by rw [List.length_singleton]; have := hys.1; omega) (by omega)) (hnx _ rfl)
/-- A state in the making, behind a call. -/
structure VInv (s : Ship) (boxes : List Box) (k : Int) (l : List G3) : Prop where
 right : RightP s boxes l
 mem : ∀ x ∈ l, ∃ b ∈ boxes, b.ID = x.Box ∧ abB k b = true
theorem VInv.nil {s : Ship} {boxes : List Box} {k : Int} : VInv s boxes k [] := ⟨rightP_nil, fun x hx => (List.not_mem_nil hx).elim⟩
theorem VInv.len {s : Ship} {boxes : List Box} {k : Int} {l : List G3} (h : VInv s boxes k l) : l.length ≤ boxes.length := by
 have h1 : (l.map (·.Box)).Pairwise (· < ·) := List.pairwise_map.2 h.right.sorted
 have := (sorted_nodup h1).length_le_of_subset (l₂ := boxes.map (·.ID)) (fun a ha => by
  obtain ⟨x, hx, rfl⟩ := List.mem_map.1 ha
  obtain ⟨b, hb, e, _⟩ := h.mem x hx
  exact List.mem_map.2 ⟨b, hb, e⟩)
 rw [List.length_map, List.length_map] at this
 exact this
theorem try_spec {s : Ship} {boxes : List Box} {calls k : Int} {l : List G3} {b : Box} (x : Slot) (hs : Small s) (hb : BoxesOk calls boxes) (h : VInv s boxes k l) (hbm : b ∈ boxes) (hab : abB k b = true) :
  Wp (M_stow_Right s boxes (insSt l ⟨b.ID, x⟩)) (fun v => v = true → VInv s boxes k (insSt l ⟨b.ID, x⟩) ∧ b.ID ∈ (insSt l ⟨b.ID, x⟩).map (·.Box) ∧ ∀ a ∈ l.map (·.Box), a ∈ (insSt l ⟨b.ID, x⟩).map (·.Box)) := by
 have hl := h.len
 have hbl := hb.len
 have hil := insSt_length l ⟨b.ID, x⟩
 refine wp_mono (stow_right hs.right hs.tier (by omega)) (fun v hv e => ⟨⟨hv.1 e, fun y hy => ?_⟩, List.mem_map.2 ⟨_, insSt_mem.2 (.inl rfl), rfl⟩, fun a ha => ?_⟩)
 ·rcases insSt_mem.1 hy with rfl | ⟨hy, _⟩
  ·exact ⟨b, hbm, rfl, hab⟩
  ·exact h.mem y hy
 ·obtain ⟨y, hy, rfl⟩ := List.mem_map.1 ha
  by_cases hyb : y.Box = b.ID
  ·exact List.mem_map.2 ⟨_, insSt_mem.2 (.inl rfl), hyb.symm⟩
  ·exact List.mem_map.2 ⟨y, insSt_mem.2 (.inr ⟨hy, hyb⟩), rfl⟩
theorem VInv.done {s : Ship} {boxes : List Box} {calls k : Int} {l : List G3} (hb : BoxesOk calls boxes) (h : VInv s boxes k l) (hall : ∀ b ∈ boxes, abB k b = true → b.ID ∈ l.map (·.Box)) : StateOk s boxes k l := by
 refine ⟨h.right, eq_of_sorted (List.pairwise_map.2 h.right.sorted) (List.pairwise_map.2 (hb.sorted.filter _)) (fun a => ?_)⟩
 unfold aboardL
 constructor
 ·intro ha
  obtain ⟨x, hx, rfl⟩ := List.mem_map.1 ha
  obtain ⟨b, hb1, e, hab⟩ := h.mem x hx
  exact List.mem_map.2 ⟨b, List.mem_filter.2 ⟨hb1, hab⟩, e⟩
 ·intro ha
  obtain ⟨b, hb1, rfl⟩ := List.mem_map.1 ha
  obtain ⟨hb2, hab⟩ := List.mem_filter.1 hb1
  exact hall b hb2 hab
theorem voyage_spec {s : Ship} {boxes : List Box} {home : AMap Int Int} {calls : Int} {F : Nat} (hs : Small s) (hb : BoxesOk calls boxes) (hh : ∀ a, 0 ≤ AMap.get home a 0 ∧ AMap.get home a 0 ≤ 1000) (hF : 60 ≤ F) :
  Wp (M_twistlocklaw23_voyage F s boxes home calls) (fun r => r.2.2 = home ∧ (r.2.1 = 0 → PlanOk s boxes calls r.1)) := by
 unfold M_twistlocklaw23_voyage
 have hnum := hb.num
 have hbl := hb.len
 have hcols := hs.cols
 refine wp_need (decide_eq_true (by omega)) ?_
 refine wp_upto (fun i s6 => s6.1.length = i ∧ ∀ (k : Nat) l, s6.1[k]? = some l → StateOk s boxes k l) ⟨rfl, fun k l h => by simp at h⟩ (fun i s6 nx hi hI hnx => ?_) (fun s6 hI => wp_some ⟨rfl, fun _ => ⟨by show (s6.1.length : Int) = calls; have := hI.1; omega, hI.2⟩⟩)
 refine wp_need (by decide) ?_
 refine wp_upto (fun _ l => VInv s boxes i l) VInv.nil (fun t l nx2 ht hl hnx2 => ?_) (fun l hl => ?_)
 ·refine wp_each (fun _ l => VInv s boxes i l) hl (fun pre y post l nx3 e hl hnx3 => ?_) (fun l hl => hnx2 _ hl)
  have hy : y ∈ boxes := by rw [e]; simp
  refine wp_jp (fun j => VInv s boxes i j) (fun K hK => ?_) (fun j hj => hnx3 _ hj)
  refine wp_bnd_eq rfl (wp_bif (fun hc => ?_) (fun _ => hK _ hl))
  have hab : abB i y = true := by
   simp only [Bool.and_eq_true, decide_eq_true_eq] at hc
   unfold abB
   rw [decide_eq_true (by omega), decide_eq_true hc.2]; rfl
  have hll := hl.len
  exact wp_bnd_eq (law23_with l _ (by omega)) (wp_bnd (wp_mono (try_spec _ hs hb hl hy hab) (fun r53 h53 => wp_bif (fun h => hK _ (h53 h).1) (fun _ => hK _ hl))))
 ·refine wp_each (fun pre l => VInv s boxes i l ∧ ∀ b ∈ pre, abB i b = true → b.ID ∈ l.map (·.Box)) ⟨hl, fun b hb => (List.not_mem_nil hb).elim⟩ (fun pre y post l nx3 e hI3 hnx3 => ?_) (fun l hI3 => ?_)
  ·obtain ⟨hl, hpre⟩ := hI3
   have hy : y ∈ boxes := by rw [e]; simp
   have hll := hl.len
   refine wp_jp (fun j => VInv s boxes i j ∧ ∀ b ∈ pre ++ [y], abB i b = true → b.ID ∈ j.map (·.Box)) (fun K hK => ?_) (fun j hj => hnx3 _ hj)
   by_cases hab : abB i y = true
   ·have hab' := hab
    unfold abB at hab'
    simp only [Bool.and_eq_true, decide_eq_true_eq] at hab'
    rw [decide_eq_false (show ¬ (i : Int) < y.Load by omega), decide_eq_false (show ¬ y.Discharge ≤ (i : Int) by omega)]
    simp only [Bool.or_self, Bool.not_false, cond_true, Bool.false_or]
    refine wp_bnd_eq (law23_holds l y.ID) (wp_bif (fun h => hK _ ⟨hl, fun b hb1 hb2 => ?_⟩) (fun h => ?_))
    ·rcases List.mem_append.1 hb1 with hb1 | hb1
     ·exact hpre b hb1 hb2
     ·rw [List.mem_singleton] at hb1; subst hb1
      exact holdsB_iff.1 h
    ·refine wp_loop (fun st : List G3 × Bool × Int => VInv s boxes i st.1 ∧ (∀ a ∈ l.map (·.Box), a ∈ st.1.map (·.Box)) ∧ (st.2.1 = true → y.ID ∈ st.1.map (·.Box)) ∧ 0 ≤ st.2.2 ∧ st.2.2 ≤ (s.Columns.length : Int)) (fun st => s.Columns.length + 1 - st.2.2.toNat)
      ⟨hl, fun a ha => ha, fun h => (by cases h), Int.le_refl _, by simp⟩ (by show s.Columns.length + 1 - 0 < F; omega) (fun st nx4 hst hnx4 => ?_)
     obtain ⟨l1, done, turn⟩ := st
     obtain ⟨i1, i2, i3, i4, i5⟩ := hst
     simp only at i1 i2 i3 i4 i5 ⊢
     refine wp_bif (fun hc => ?_) (fun hc => ?_)
     ·simp only [Bool.and_eq_true, decide_eq_true_eq, Bool.not_eq_true'] at hc
      obtain ⟨c1, rfl⟩ := hc
      refine wp_jp (fun j => VInv s boxes i j.1 ∧ (∀ a ∈ l.map (·.Box), a ∈ j.1.map (·.Box)) ∧ (j.2 = true → y.ID ∈ j.1.map (·.Box))) (fun K' hK' => ?_) (fun j hj => ?_)
      ·refine wp_bnd (wp_mono (slot_all hs y.Size) (fun r72 _ => ?_))
       refine wp_each (fun _ s99 => s99 = (l1, false)) rfl (fun pre2 x post2 s99 nx5 e2 hI5 hnx5 => ?_) (fun s99 hI5 => by subst hI5; exact hK' _ ⟨i1, i2, fun h => by cases h⟩)
       subst hI5
       have hl1 := i1.len
       refine wp_bnd_eq (law23_with l1 _ (by omega)) (wp_bnd_eq rfl ?_)
       have hg := hh y.ID
       refine wp_chk ⟨by omega, by omega⟩ (wp_bnd (wp_rem (by omega) ?_))
       by_cases hcol : x.G5 = (AMap.get home y.ID 0 + turn).tmod (s.Columns.length : Int)
       ·rw [decide_eq_true hcol]
        simp only [cond_true, Bool.true_and]
        refine wp_bnd (wp_mono (try_spec x hs hb i1 hy hab) (fun r110 h110 => wp_bif (fun h => ?_) (fun _ => hnx5 _ rfl)))
        obtain ⟨g1, g2, g3⟩ := h110 h
        exact hK' _ ⟨g1, fun a ha => g3 a (i2 a ha), fun _ => g2⟩
       ·rw [decide_eq_false hcol]
        simp only [cond_false, Bool.false_and]
        exact wp_bnd (wp_some (hnx5 _ rfl))
      ·obtain ⟨j1, j2, j3⟩ := hj
       refine wp_chk ⟨by omega, by omega⟩ (hnx4 _ ⟨j1, j2, j3, by show 0 ≤ turn + 1; omega, by show turn + 1 ≤ s.Columns.length; omega⟩ ?_)
       show s.Columns.length + 1 - (turn + 1).toNat < s.Columns.length + 1 - turn.toNat
       omega
     ·refine wp_bif (fun hd => wp_some ⟨rfl, fun h0 => ?_⟩) (fun hd => hK _ ⟨i1, fun b hb1 hb2 => ?_⟩)
      ·have := (hb.each y hy).id
       have h0' : y.ID = 0 := h0
       omega
      ·rcases List.mem_append.1 hb1 with hb1 | hb1
       ·exact i2 _ (hpre b hb1 hb2)
       ·rw [List.mem_singleton] at hb1; subst hb1
        exact i3 (by simpa using hd)
   ·have hK2 : VInv s boxes i l ∧ ∀ b ∈ pre ++ [y], abB i b = true → b.ID ∈ l.map (·.Box) := ⟨hl, fun b hb1 hb2 => by
     rcases List.mem_append.1 hb1 with hb1 | hb1
     ·exact hpre b hb1 hb2
     ·rw [List.mem_singleton] at hb1; subst hb1; exact (hab hb2).elim⟩
    have hor : ((decide ((i : Int) < y.Load)) || (decide (y.Discharge ≤ (i : Int)))) = true := by
     unfold abB at hab
     simp only [Bool.and_eq_true, decide_eq_true_eq] at hab
     simp only [Bool.or_eq_true, decide_eq_true_eq]
     omega
    rw [hor]
    simp only [Bool.not_true, cond_false, Bool.true_or, cond_true]
    exact wp_bnd (wp_some (hK _ hK2))
  ·obtain ⟨hl, hall⟩ := hI3
   have hst := hl.done hb hall
   refine wp_each (fun _ _ => True) trivial (fun pre y post m nx4 e _ hnx4 => hnx4 _ trivial) (fun m _ => ?_)
   have hi' : i < 20 := by omega
   refine wp_need (room_ok (by rw [List.length_singleton]; have := hI.1; omega) (by omega)) (hnx _ ⟨by simp [hI.1], fun k l' hk => ?_⟩)
   rw [List.getElem?_append] at hk
   split at hk
   ·exact hI.2 k l' hk
   ·rename_i hkl
    have hk0 : k - s6.1.length = 0 := by
     have := (List.getElem?_eq_some_iff.1 hk).1
     simp only [List.length_singleton] at this; omega
    rw [hk0] at hk
    simp only [List.getElem?_cons_zero, Option.some.injEq] at hk
    subst hk
    have : k = i := by have := hI.1; omega
    subst this
    exact hst
structure ItemOk (x : law23_Item) : Prop where
 column : Byte x.G5
 kilos : Byte x.Kilos
 load : Byte x.Load
 stay : Byte x.Stay
theorem Voyage_spec {s : Ship} {items : List law23_Item} {calls : Int} {F : Nat} (hs : Small s) (hi : ∀ x ∈ items, ItemOk x) (hc : 2 ≤ calls ∧ calls ≤ 6) (hF : 60 ≤ F) :
  Wp (M_twistlocklaw23_Voyage F s items calls 8) (fun r => BoxesOk calls r.1 ∧ PlanOk s r.1 calls r.2) := by
 unfold M_twistlocklaw23_Voyage
 have hcols := hs.cols
 refine wp_bnd (wp_natIn (m := min items.length 8) (by omega) (by omega) ?_)
 have hl8 : (items.take (min items.length 8)).length ≤ 8 := by rw [List.length_take]; omega
 refine wp_each (fun pre st => BoxesOk calls st.1 ∧ st.1.length = pre.length ∧ (∀ b ∈ st.1, b.ID ≤ 5 * (pre.length : Int)) ∧ ∀ a, 0 ≤ AMap.get st.2 a 0 ∧ AMap.get st.2 a 0 ≤ 1000)
  ⟨⟨by omega, by simp, fun b hb => (List.not_mem_nil hb).elim, List.Pairwise.nil⟩, rfl, fun b hb => (List.not_mem_nil hb).elim, fun a => by rw [amap_get_empty]; omega⟩ (fun pre y post st nx e hI hnx => ?_) (fun st hI => ?_)
 ·obtain ⟨hb, hlen, hid, hhome⟩ := hI
  have hy : ItemOk y := hi y (List.mem_of_mem_take (by rw [e]; simp : y ∈ items.take (min items.length 8)))
  obtain ⟨⟨c1, c2⟩, ⟨k1, k2⟩, ⟨l1, l2⟩, ⟨t1, t2⟩⟩ := hy
  have hp : pre.length < 8 := by rw [e] at hl8; simp only [List.length_append, List.length_cons] at hl8; omega
  refine wp_chk ⟨by omega, by omega⟩ (wp_chk ⟨by omega, by omega⟩ (wp_chk ⟨by omega, by omega⟩ (wp_chk ⟨by omega, by omega⟩ (wp_chk ⟨by omega, by omega⟩ (wp_chk ⟨by omega, by omega⟩ ?_)))))
  refine wp_bnd (wp_rem (by omega) ?_)
  have eL : y.Load.tmod (calls - 1) = y.Load % (calls - 1) := Int.tmod_eq_emod_of_nonneg l1
  rw [eL]
  have rL : 0 ≤ y.Load % (calls - 1) ∧ y.Load % (calls - 1) < calls - 1 := ⟨Int.emod_nonneg _ (by omega), Int.emod_lt_of_pos _ (by omega)⟩
  generalize y.Load % (calls - 1) = L at rL
  refine wp_chk ⟨by omega, by omega⟩ (wp_chk ⟨by omega, by omega⟩ (wp_chk ⟨by omega, by omega⟩ (wp_chk ⟨by omega, by omega⟩ ?_)))
  refine wp_bnd (wp_rem (by omega) ?_)
  have eS : y.Stay.tmod (calls - 1 - L) = y.Stay % (calls - 1 - L) := Int.tmod_eq_emod_of_nonneg t1
  rw [eS]
  have rS : 0 ≤ y.Stay % (calls - 1 - L) ∧ y.Stay % (calls - 1 - L) < calls - 1 - L := ⟨Int.emod_nonneg _ (by omega), Int.emod_lt_of_pos _ (by omega)⟩
  generalize y.Stay % (calls - 1 - L) = T at rS
  refine wp_chk ⟨by omega, by omega⟩ ?_
  refine wp_jp (fun j : Int × Bool => j.1 = 40 ∨ (j.1 = 20 ∧ j.2 = false)) (fun K hK => wp_bif (fun _ => hK _ (.inr ⟨rfl, rfl⟩)) (fun _ => hK _ (.inl rfl))) (fun j hj => ?_)
  refine wp_chk ⟨by omega, by omega⟩ (wp_bnd (wp_rem (by omega) ?_))
  have eC : y.G5.tmod (s.Columns.length : Int) = y.G5 % (s.Columns.length : Int) := Int.tmod_eq_emod_of_nonneg c1
  rw [eC]
  have rC : 0 ≤ y.G5 % (s.Columns.length : Int) ∧ y.G5 % (s.Columns.length : Int) < s.Columns.length := ⟨Int.emod_nonneg _ (by omega), Int.emod_lt_of_pos _ (by omega)⟩
  generalize y.G5 % (s.Columns.length : Int) = C at rC
  refine wp_need (room_ok (by rw [List.length_singleton]; omega) (by omega)) (hnx _ ⟨⟨by omega, by simp only [List.length_append, List.length_singleton]; omega, fun b hb' => ?_, ?_⟩, by simp [hlen], fun b hb' => ?_, fun a => ?_⟩)
  ·rcases List.mem_append.1 hb' with hb' | hb'
   ·exact hb.each b hb'
   ·rw [List.mem_singleton] at hb'; subst hb'
    exact ⟨⟨by simp only; omega, by simp only; omega⟩, hj, by simp only; omega, by simp only; omega, by simp only; omega⟩
  ·refine pairwise_snoc hb.sorted (fun a ha => ?_)
   have := hid a ha
   simp only
   omega
  ·rw [List.length_append, List.length_singleton]
   rcases List.mem_append.1 hb' with hb' | hb'
   ·have := hid b hb'; omega
   ·rw [List.mem_singleton] at hb'; subst hb'
    simp only; omega
  ·rw [amap_get_put]
   split
   ·omega
   ·exact hhome a
 ·obtain ⟨hb, hlen, _, hhome⟩ := hI
  have hbl := hb.len
  refine wp_chk ⟨by omega, by omega⟩ (wp_need (decide_eq_true (by omega)) ?_)
  refine wp_upto (fun _ st => BoxesOk calls st.1 ∧ ∀ a, 0 ≤ AMap.get st.2 a 0 ∧ AMap.get st.2 a 0 ≤ 1000) ⟨hb, hhome⟩ (fun i st nx hi hI hnx => ?_) (fun st _ => ?_)
  ·obtain ⟨hb, hhome⟩ := hI
   refine wp_bnd (wp_mono (voyage_spec hs hb hhome hF) (fun r153 h153 => ?_))
   obtain ⟨g1, g2⟩ := h153
   refine wp_bif (fun h => wp_some ⟨hb, g2 (of_decide_eq_true h)⟩) (fun _ => ?_)
   have hbl := hb.len
   refine wp_each (fun pre l => l = pre.filter (fun b => decide (b.ID ≠ r153.2.1))) rfl (fun pre y post l nx2 e hl hnx2 => ?_) (fun l hl => ?_)
   ·subst hl
    have hf := List.length_filter_le (fun b : Box => decide (b.ID ≠ r153.2.1)) pre
    have hp : pre.length + 1 ≤ st.1.length := by rw [e]; simp
    refine wp_jp (fun j => j = (pre ++ [y]).filter (fun b => decide (b.ID ≠ r153.2.1))) (fun K hK => wp_bif (fun h => wp_need (room_ok (by rw [List.length_singleton]; omega) (by omega)) (hK _ ?_)) (fun h => hK _ ?_)) (fun j hj => hnx2 _ hj)
    ·rw [filter_snoc, h]; rfl
    ·rw [filter_snoc, h]; simp
   ·subst hl
    refine hnx _ ⟨⟨hb.num, ?_, fun b hb' => hb.each b (List.mem_filter.1 hb').1, hb.sorted.filter _⟩, by rw [g1]; exact hhome⟩
    have := List.length_filter_le (fun b : Box => decide (b.ID ≠ r153.2.1)) st.1
    show (st.1.filter (fun b => decide (b.ID ≠ r153.2.1))).length ≤ 8
    omega
  ·obtain ⟨m, hm⟩ : ∃ m : Nat, calls = (m : Int) := ⟨calls.toNat, by omega⟩
   have hno : natOf calls = some m := by
    unfold natOf
    rw [decide_eq_true (by omega), hm]
    rfl
   refine wp_bnd_eq hno (wp_need (decide_eq_true ⟨by omega, Nat.le_trans (show m ≤ 6 by omega) (by decide), by omega⟩) (wp_some ⟨⟨by omega, by simp, fun b hb => (List.not_mem_nil hb).elim, List.Pairwise.nil⟩, by simp [hm], fun k l hk => ?_⟩))
   have : l = [] := by
    have := List.mem_of_getElem? hk
    exact List.eq_of_mem_replicate this
   subst this
   exact ⟨rightP_nil, rfl⟩
/-- y stands on deck upon the cover that x stands under. -/
def upon (s : Ship) (x y : Slot) : Prop := ∃ (m : Nat) (c : G5) (m1 : Nat) (c1 : G5), x.G5 = (m : Int) ∧ s.Columns[m]? = some c ∧ y.G5 = (m1 : Int) ∧ s.Columns[m1]? = some c1 ∧ c.Deck = false ∧ c1.Deck = true ∧ 0 ≤ coverOf s c ∧ coverOf s c1 = coverOf s c
def PullsIn (s : Ship) (states : List (List G3)) (st : List G3) (a b : Int) : Prop :=
 (findP st a).2 = true ∧ ((∃ y ∈ st, y.Box = b ∧ OverP y.Slot (findP st a).1) ∨ ∃ st2 ∈ states, ∃ y ∈ st2, y.Box = b ∧ upon s (findP st a).1 y.Slot)
/-- To lift a, b has to be lifted. -/
def Pulls (s : Ship) (states : List (List G3)) (a b : Int) : Prop := ∃ st ∈ states, PullsIn s states st a b
structure Grown (s : Ship) (U : List Int) (states : List (List G3)) (l : List Int) (id : Int) (m : AMap Int Unit) (l' : List Int) : Prop where
 inv : LInv U m l'
 sub : ∀ a ∈ l, a ∈ l'
 has : id ∈ l'
 closed : ∀ a ∈ l', a ∉ l → ∀ b, Pulls s states a b → b ∈ l'
 least : ∀ C : Int → Prop, (∀ a b, C a → Pulls s states a b → C b) → (∀ a ∈ l, C a) → C id → ∀ a ∈ l', C a
structure Rch (s : Ship) (U : List Int) (states : List (List G3)) (l : List Int) (id : Int) (m : AMap Int Unit) (l' : List Int) : Prop where
 inv : LInv U m l'
 sub : ∀ a ∈ l ++ [id], a ∈ l'
 closed : ∀ a ∈ l', a ∉ l → a ≠ id → ∀ b, Pulls s states a b → b ∈ l'
 least : ∀ C : Int → Prop, (∀ a b, C a → Pulls s states a b → C b) → (∀ a ∈ l, C a) → C id → ∀ a ∈ l', C a
section
variable {s : Ship} {U : List Int} {states : List (List G3)} {l l' l2 : List Int} {id y : Int} {m m2 : AMap Int Unit}
theorem Rch.start (h : LInv U m (l ++ [id])) : Rch s U states l id m (l ++ [id]) :=
 ⟨h, fun a ha => ha, fun a ha h1 h2 => by
  rcases List.mem_append.1 ha with ha | ha
  ·exact (h1 ha).elim
  ·exact (h2 (List.mem_singleton.1 ha)).elim, fun C _ hl hid a ha => by
  rcases List.mem_append.1 ha with ha | ha
  ·exact hl a ha
  ·exact List.mem_singleton.1 ha ▸ hid⟩
theorem Rch.step (h : Rch s U states l id m l') (hp : Pulls s states id y) (g : Grown s U states l' y m2 l2) : Rch s U states l id m2 l2 ∧ (∀ a ∈ l', a ∈ l2) ∧ y ∈ l2 :=
 ⟨⟨g.inv, fun a ha => g.sub a (h.sub a ha), fun a ha h1 h2 b hb => by
  by_cases hal : a ∈ l'
  ·exact g.sub b (h.closed a hal h1 h2 b hb)
  ·exact g.closed a ha hal b hb, fun C hc hl hid => g.least C hc (h.least C hc hl hid) (hc id y hid hp)⟩, g.sub, g.has⟩
end
structure Least (s : Ship) (before after : List G3) (l : List Int) : Prop where
 seeds : ∀ st ∈ [before, after], ∀ y ∈ st, findP before y.Box ≠ findP after y.Box → y.Box ∈ l
 closed : ∀ a ∈ l, ∀ b, Pulls s [before, after] a b → b ∈ l
 least : ∀ C : Int → Prop, (∀ a b, C a → Pulls s [before, after] a b → C b) → (∀ st ∈ [before, after], ∀ y ∈ st, findP before y.Box ≠ findP after y.Box → C y.Box) → ∀ a ∈ l, C a
theorem mem_swap {α : Type} {a b x : α} (h : x ∈ [a, b]) : x ∈ [b, a] := by
 simp only [List.mem_cons, List.not_mem_nil, or_false] at h ⊢
 exact h.symm
theorem Pulls.swap {s : Ship} {a b : List G3} {x y : Int} (h : Pulls s [a, b] x y) : Pulls s [b, a] x y := by
 obtain ⟨st, hst, h1, h2⟩ := h
 exact ⟨st, mem_swap hst, h1, h2.imp _root_.id (fun ⟨st2, h3, h4⟩ => ⟨st2, mem_swap h3, h4⟩)⟩
theorem Least.le {s : Ship} {before after : List G3} {l l' : List Int} (h : Least s before after l) (h' : Least s after before l') : ∀ a ∈ l, a ∈ l' :=
 h.least (· ∈ l') (fun a b ha hb => h'.closed a ha b hb.swap) (fun st hst y hy hne => h'.seeds st (mem_swap hst) y hy (fun e => hne e.symm))
section
variable {s : Ship} {boxes : List Box} {before after : List G3} {r : List Int}
end
theorem lifted_none {s : Ship} {boxes : List Box} {l : List G3} {F : Nat} (hs : Small s) (h1 : RightP s boxes l) (l1 : l.length ≤ 9) : M_plan_Lifted F s boxes l l = some ([], 0) := by
 refine wp_eq ?_
 unfold M_plan_Lifted
 refine wp_bnd (wp_mono (stow_right hs.right hs.tier (by omega)) (fun r4 h4 => ?_))
 rw [h4.2 h1]
 simp only [Bool.not_true, Bool.not_false, cond_true, Bool.false_or]
 refine wp_bnd (wp_mono (stow_right hs.right hs.tier (by omega)) (fun r5 h5 => ?_))
 rw [h5.2 h1]
 simp only [Bool.not_true, cond_false]
 exact wp_bnd_eq (lifted_same F s l) (wp_some rfl)
end Go.Proofs.YtmdnkofmmheoaaaGreat
