/-
  Plans that Voyage makes are right; what Lifted returns; restows.
-/
import Derived.Test.YtkfhfoljfbjknaaGreatXN
import Derived.Test.YtkfhfoljfbjknaaGreatSpecI
import Derived.Test.YtkfhfoljfbjknaaGreatSpecJ
import Derived.Test.YtkfhfoljfbjknaaGreatBuiltL
set_option maxRecDepth 100000
namespace Go.Proofs.YtkfhfoljfbjknaaGreat
open Go.RowKit

theorem bnd_some {α β : Type} {x : α} {k : α → Option β} : bnd (some x) k = k x := rfl
/-- The place of the first element at which p holds, -1 if there is none. -/
def idxI {α : Type} (p : α → Bool) (l : List α) : Int := match l.findIdx? p with
  | some j => (j : Int)
  | none => -1
theorem each_idx {α : Type} {p : α → Bool} {f : α → Option Bool} {xs : List α} (hf : ∀ x ∈ xs, f x = some (p x)) :
    each (fun y i (_ : Unit) nx => bnd (f y) fun r => bif r then some (i : Int) else nx ()) (fun _ => some (-1)) xs 0 () = some (idxI p xs) := by
  have key : ∀ (xs : List α), (∀ x ∈ xs, f x = some (p x)) → ∀ i : Nat, each (fun y i (_ : Unit) nx => bnd (f y) fun r => bif r then some (i : Int) else nx ()) (fun _ => some (-1)) xs i () = some (match xs.findIdx? p with
    | some j => ((i + j : Nat) : Int)
    | none => -1) := by
    intro xs
    induction xs with
    | nil => intro _ i; rfl
    | cons x xs ih =>
      intro hf i
      rw [each, hf x (List.mem_cons_self ..), bnd_some, List.findIdx?_cons]
      cases p x with
      | true => simp
      | false =>
        simp only [cond_false]
        rw [ih (fun y hy => hf y (List.mem_cons_of_mem _ hy)) (i + 1)]
        cases xs.findIdx? p with
        | none => simp
        | some j => show some (((i + 1 + j : Nat)) : Int) = some (((i + (j + 1) : Nat)) : Int); rw [show i + 1 + j = i + (j + 1) by omega]
  rw [key xs hf 0]
  unfold idxI
  cases xs.findIdx? p <;> simp
theorem idxI_cases {α : Type} (p : α → Bool) (l : List α) : (idxI p l = -1 ∧ (∀ x ∈ l, p x = false) ∧ l.find? p = none) ∨ ∃ (m : Nat) (x : α), idxI p l = (m : Int) ∧ l[m]? = some x ∧ p x = true ∧ l.find? p = some x := by
  unfold idxI
  cases h : l.findIdx? p with
  | none =>
    have := List.findIdx?_eq_none_iff.1 h
    exact .inl ⟨rfl, this, List.find?_eq_none.2 (fun x hx => by rw [this x hx]; simp)⟩
  | some j =>
    obtain ⟨hj, h1, h2⟩ := List.findIdx?_eq_some_iff_getElem.1 h
    refine .inr ⟨j, l[j], rfl, by simp [hj], h1, ?_⟩
    refine List.find?_eq_some_iff_getElem.2 ⟨h1, j, hj, rfl, fun k hk => ?_⟩
    simpa using h2 k hk
theorem idxI_nonneg {α : Type} {p : α → Bool} {l : List α} : decide (0 ≤ idxI p l) = l.any p := by
  rcases idxI_cases p l with ⟨h1, h2, _⟩ | ⟨m, x, h1, h2, h3, _⟩
  · rw [h1]
    refine Eq.symm (List.any_eq_false.2 fun x hx => ?_)
    rw [h2 x hx]; exact Bool.false_ne_true
  · rw [h1, decide_eq_true (by omega)]
    exact (List.any_eq_true.2 ⟨x, List.mem_of_getElem? h2, h3⟩).symm
def findBox (boxes : List Gp) (id : Int) : Option Gp := boxes.find? (fun b => decide (b.ID = id))
theorem stow_find (boxes : List Gp) (id : Int) : M_stow_Find boxes id = some (match findBox boxes id with
    | some b => (b, true)
    | none => (Gp.mk 0 ByteArray.empty 0 false 0 0 0 0 false, false)) := by
  unfold M_stow_Find
  have h : M_slices_IndexFunc_apiBox boxes (fun z0 => M_stow_Find_1 z0 id) = some (idxI (fun b : Gp => decide (b.ID = id)) boxes) := each_idx (fun x _ => rfl)
  rw [h]
  simp only [bnd_some]
  unfold findBox
  rcases idxI_cases (fun b : Gp => decide (b.ID = id)) boxes with ⟨h1, _, h3⟩ | ⟨m, x, h1, h2, _, h4⟩
  · rw [h1, h3]; rfl
  · rw [h1, h4, decide_eq_false (by omega), cond_false]
    unfold Jy
    rw [decide_eq_true (by omega), cond_true, show (m : Int).toNat = m by omega, h2]
    rfl
def findSt (l : List G2) (id : Int) : Option G2 := l.find? (fun x => decide (x.Gp = id))
def halvesL (size : Int) : List Int := if size = 40 then [0] else if size = 20 then [1, 2] else []
theorem slot_halves (size : Int) : M_slot_halves size = some (halvesL size) := by
  unfold M_slot_halves halvesL
  by_cases h : size = 40
  · simp [h]
  · by_cases h2 : size = 20
    · simp [h2]
    · simp [h, h2]
theorem contains8 (l : List Int) (v : Int) : M_slices_Contains_uint8 l v = some (l.any (fun y => decide (v = y))) := by
  unfold M_slices_Contains_uint8
  have h : M_slices_Index_uint8 l v = some (idxI (fun y => decide (v = y)) l) := by
    unfold M_slices_Index_uint8
    exact each_idx (f := fun y => some (decide (v = y))) (fun x _ => rfl)
  rw [h]
  simp only [bnd_some]
  rw [idxI_nonneg]
theorem containsSlot (l : List Slot) (v : Slot) : M_slices_Contains_apiSlot l v = some (l.any (fun y => decide (v = y))) := by
  unfold M_slices_Contains_apiSlot
  have h : M_slices_Index_apiSlot l v = some (idxI (fun y => decide (v = y)) l) := by
    unfold M_slices_Index_apiSlot
    exact each_idx (f := fun y => some (decide (v = y))) (fun x _ => rfl)
  rw [h]
  simp only [bnd_some]
  rw [idxI_nonneg]
/-- There is such a slot in the ship, for boxes of a size. -/
structure SlotOk (s : Gz) (x : Slot) (size : Int) : Prop where
  col : ∃ (m : Nat) (c : G5), x.G5 = (m : Int) ∧ s.Columns[m]? = some c ∧ x.Tier < c.Tiers
  tier : 0 ≤ x.Tier
  half : x.Half ∈ halvesL size
theorem slot_right (s : Gz) (x : Slot) (size : Int) : Wp (M_slot_Right s x size) (fun r => r = true ↔ SlotOk s x size) := by
  unfold M_slot_Right
  by_cases h0 : 0 ≤ x.G5 ∧ x.G5 < (s.Columns.length : Int)
  · by_cases h1 : 0 ≤ x.Tier
    · obtain ⟨m, hm⟩ : ∃ m : Nat, x.G5 = (m : Int) := ⟨x.G5.toNat, by omega⟩
      have hml : m < s.Columns.length := by omega
      have hc : s.Columns[m]? = some s.Columns[m] := by simp [hml]
      have e : (((decide (0 ≤ x.G5)) && (decide (x.G5 < (s.Columns.length : Int)))) && (decide (0 ≤ x.Tier))) = true := by simp [h0.1, h0.2, h1]
      simp only [e, cond_true, Bool.true_and]
      refine He (wp_gidx hm hc (Gt ?_))
      by_cases h2 : x.Tier < (s.Columns[m]).Tiers
      · rw [decide_eq_true h2]
        simp only [cond_true]
        refine Gw (slot_halves size) (Gw (contains8 _ _) (Gt ?_))
        rw [Bool.true_and, List.any_eq_true]
        constructor
        · rintro ⟨y, hy, he⟩
          have := of_decide_eq_true he
          subst this
          exact ⟨⟨m, _, hm, hc, h2⟩, h1, hy⟩
        · exact fun h => ⟨_, h.half, by simp⟩
      · rw [decide_eq_false h2]
        simp only [cond_false, Bool.false_and]
        refine He (Gt (He (Gt (Gt ⟨fun h => (by cases h), fun h => ?_⟩))))
        obtain ⟨m', c, g1, g2, g3⟩ := h.col
        have : m' = m := by omega
        subst this
        rw [hc] at g2; cases g2
        exact (h2 g3).elim
    · simp only [decide_eq_false h1, Bool.and_false, cond_false, Bool.false_and]
      exact He (Gt (He (Gt (He (Gt (Gt ⟨fun h => (by cases h), fun h => (h1 h.tier).elim⟩))))))
  · have e : ((decide (0 ≤ x.G5)) && (decide (x.G5 < (s.Columns.length : Int)))) = false := by
      by_cases h : 0 ≤ x.G5
      · have : ¬ x.G5 < (s.Columns.length : Int) := fun g => h0 ⟨h, g⟩
        simp [this]
      · simp [h]
    simp only [e, Bool.false_and, cond_false]
    refine He (Gt (He (Gt (He (Gt (Gt ⟨fun h => (by cases h), fun h => ?_⟩))))))
    obtain ⟨m, c, g1, g2, _⟩ := h.col
    have := (List.getElem?_eq_some_iff.1 g2).1
    exact (h0 (by omega)).elim
/-- What holds a slot. -/
def below (l : List Slot) (x : Slot) (half : Int) : Prop := (⟨x.G5, x.Tier - 1, half⟩ : Slot) ∈ l
def HeldP (x : Slot) (l : List Slot) : Prop := x.Tier ≤ 0 ∨ below l x x.Half ∨ (x.Half = 0 ∧ below l x 1 ∧ below l x 2)
theorem slot_held1 (half : Int) (l : List Slot) (x : Slot) (ht : -1000000 ≤ x.Tier ∧ x.Tier ≤ 1000000) : Wp (M_slot_Held_1 half l x) (fun r => r = true ↔ below l x half) := by
  unfold M_slot_Held_1
  refine Jk ⟨by omega, by omega⟩ (Gw (containsSlot _ _) (Gt ?_))
  rw [List.any_eq_true]
  constructor
  · rintro ⟨y, hy, he⟩
    have := of_decide_eq_true he
    subst this
    exact hy
  · exact fun h => ⟨_, h, by simp⟩
theorem slot_held (x : Slot) (l : List Slot) (ht : -1000000 ≤ x.Tier ∧ x.Tier ≤ 1000000) : Wp (M_slot_Held x l) (fun r => r = true ↔ HeldP x l) := by
  unfold M_slot_Held HeldP
  refine Hw (fun h => Gt ⟨fun _ => .inl (of_decide_eq_true h), fun _ => rfl⟩) (fun h => ?_)
  have h0 := of_decide_eq_false h
  refine He (wp_mono (slot_held1 x.Half l x ht) (fun r7 h7 => ?_))
  cases r7 with
  | true =>
    simp only [Bool.not_true, Bool.false_and, cond_false, Bool.true_or]
    exact He (Gt (He (Gt (Gt ⟨fun _ => .inr (.inl (h7.1 rfl)), fun _ => rfl⟩))))
  | false =>
    have h7' : ¬ below l x x.Half := fun h => by have := h7.2 h; cases this
    simp only [Bool.not_false, Bool.true_and, Bool.false_or]
    by_cases hh : x.Half = 0
    · rw [decide_eq_true hh]
      simp only [cond_true, Bool.true_and]
      refine He (wp_mono (slot_held1 1 l x ht) (fun r8 h8 => ?_))
      cases r8 with
      | true =>
        simp only [cond_true, Bool.true_and]
        refine He (wp_mono (slot_held1 2 l x ht) (fun r9 h9 => Gt ⟨fun h => .inr (.inr ⟨hh, h8.1 rfl, h9.1 h⟩), fun h => ?_⟩))
        rcases h with h | h | ⟨_, _, h⟩
        · exact (h0 h).elim
        · exact (h7' h).elim
        · exact h9.2 h
      | false =>
        simp only [cond_false, Bool.false_and]
        refine He (Gt (Gt ⟨fun h => (by cases h), fun h => ?_⟩))
        rcases h with h | h | ⟨_, h, _⟩
        · exact (h0 h).elim
        · exact (h7' h).elim
        · have := h8.2 h; cases this
    · rw [decide_eq_false hh]
      simp only [cond_false, Bool.false_and]
      refine He (Gt (He (Gt (Gt ⟨fun h => (by cases h), fun h => ?_⟩))))
      rcases h with h | h | ⟨h, _⟩
      · exact (h0 h).elim
      · exact (h7' h).elim
      · exact (hh h).elim
def sharesP (a b : Int) : Prop := a = b ∨ a = 0 ∨ b = 0
theorem slot_shares (a b : Int) : Wp (M_slot_shares a b) (fun r => r = true ↔ sharesP a b) := by
  unfold M_slot_shares sharesP
  refine Gt ?_
  simp [or_assoc]
def MeetP (a b : Slot) : Prop := a.G5 = b.G5 ∧ a.Tier = b.Tier ∧ sharesP a.Half b.Half
theorem slot_meet (a b : Slot) : Wp (M_slot_Meet a b) (fun r => r = true ↔ MeetP a b) := by
  unfold M_slot_Meet MeetP
  by_cases h : a.G5 = b.G5 ∧ a.Tier = b.Tier
  · simp only [decide_eq_true h.1, decide_eq_true h.2, Bool.and_self, cond_true, Bool.true_and]
    exact He (wp_mono (slot_shares _ _) (fun r hr => Gt ⟨fun e => ⟨h.1, h.2, hr.1 e⟩, fun e => hr.2 e.2.2⟩))
  · have e : (decide (a.G5 = b.G5) && decide (a.Tier = b.Tier)) = false := by
      by_cases h1 : a.G5 = b.G5
      · have : ¬ a.Tier = b.Tier := fun h2 => h ⟨h1, h2⟩
        simp [this]
      · simp [h1]
    simp only [e, cond_false, Bool.false_and]
    exact He (Gt (Gt ⟨fun e => (by cases e), fun e => (h ⟨e.1, e.2.1⟩).elim⟩))
def OverP (a b : Slot) : Prop := a.G5 = b.G5 ∧ b.Tier < a.Tier ∧ sharesP a.Half b.Half
theorem slot_over (a b : Slot) : Wp (M_slot_Over a b) (fun r => r = true ↔ OverP a b) := by
  unfold M_slot_Over OverP
  by_cases h : a.G5 = b.G5 ∧ b.Tier < a.Tier
  · simp only [decide_eq_true h.1, decide_eq_true h.2, Bool.and_self, cond_true, Bool.true_and]
    exact He (wp_mono (slot_shares _ _) (fun r hr => Gt ⟨fun e => ⟨h.1, h.2, hr.1 e⟩, fun e => hr.2 e.2.2⟩))
  · have e : (decide (a.G5 = b.G5) && decide (b.Tier < a.Tier)) = false := by
      by_cases h1 : a.G5 = b.G5
      · have : ¬ b.Tier < a.Tier := fun h2 => h ⟨h1, h2⟩
        simp [this]
      · simp [h1]
    simp only [e, cond_false, Bool.false_and]
    exact He (Gt (Gt ⟨fun e => (by cases e), fun e => (h ⟨e.1, e.2.1⟩).elim⟩))
/-- The height of what stands in a half of a column. -/
def tallI (b : Gp) : Int := if b.High then 2896 else 2591
def addH (boxes : List Gp) (column half : Int) (n : Int) (x : G2) : Int :=
  if x.Slot.G5 = column ∧ (x.Slot.Half = half ∨ x.Slot.Half = 0) then (match findBox boxes x.Gp with | some b => n + tallI b | none => n) else n
def heightI (boxes : List Gp) (l : List G2) (column half : Int) : Int := l.foldl (addH boxes column half) 0
theorem addH_le {boxes : List Gp} {column half n : Int} {x : G2} : n ≤ addH boxes column half n x ∧ addH boxes column half n x ≤ n + 2896 := by
  unfold addH tallI
  split
  · split
    · split <;> omega
    · omega
  · omega
theorem stow_height (boxes : List Gp) (l : List G2) (column half : Int) (hl : l.length ≤ 1000000) : M_stow_Height boxes l column half = some (heightI boxes l column half) := by
  refine wp_eq ?_
  unfold M_stow_Height heightI
  refine J3 (fun pre n => n = pre.foldl (addH boxes column half) 0 ∧ 0 ≤ n ∧ n ≤ 2896 * pre.length) ⟨rfl, Int.le_refl _, by simp⟩ (fun pre y post n nx e hn hnx => ?_) (fun n hn => Gt hn.1)
  obtain ⟨rfl, h1, h2⟩ := hn
  have hp : pre.length + 1 ≤ l.length := by rw [e]; simp
  have ha := addH_le (boxes := boxes) (column := column) (half := half) (n := pre.foldl (addH boxes column half) 0) (x := y)
  have hlen : ((pre ++ [y]).length : Int) = pre.length + 1 := by simp
  generalize hg : pre.foldl (addH boxes column half) 0 = n at *
  refine wp_jp (fun j => j = addH boxes column half n y) (fun K hK => ?_) (fun j hj => hnx _ ⟨by rw [hj, List.foldl_append, hg]; rfl, by omega, by rw [hlen]; omega⟩)
  refine Hw (fun hc => ?_) (fun hc => hK _ ?_)
  · have hc' : y.Slot.G5 = column ∧ (y.Slot.Half = half ∨ y.Slot.Half = 0) := by simpa using hc
    refine Gw (stow_find boxes y.Gp) ?_
    cases hf : findBox boxes y.Gp with
    | none => exact Hw (fun h => by cases h) (fun _ => hK _ (by unfold addH; rw [if_pos hc', hf]))
    | some b =>
      refine Hw (fun _ => ?_) (fun h => by cases h)
      have ht : M_stow_tall b = some (tallI b) := by unfold M_stow_tall tallI; cases b.High <;> rfl
      have hadd : addH boxes column half n y = n + tallI b := by unfold addH; rw [if_pos hc', hf]
      refine Gw ht (Jk ?_ (hK _ hadd.symm))
      rw [← hadd]
      omega
  · have hc' : ¬ (y.Slot.G5 = column ∧ (y.Slot.Half = half ∨ y.Slot.Half = 0)) := by simpa using hc
    unfold addH; rw [if_neg hc']
def FitsP (boxes : List Gp) (l : List G2) (m : Nat) (c : G5) : Prop := c.Height ≤ 0 ∨ (heightI boxes l m 1 ≤ c.Height ∧ heightI boxes l m 2 ≤ c.Height)
theorem stow_fits {s : Gz} {boxes : List Gp} {l : List G2} {m : Nat} {c : G5} (hc : s.Columns[m]? = some c) (hl : l.length ≤ 1000000) : Wp (M_stow_fits s boxes l (m : Int)) (fun r => r = true ↔ FitsP boxes l m c) := by
  unfold M_stow_fits FitsP
  refine wp_gidx rfl hc ?_
  by_cases h : c.Height ≤ 0
  · simp only [decide_eq_true h, Bool.not_true, cond_false, Bool.false_and, Bool.true_or]
    exact He (Gt (He (Gt (Gt ⟨fun _ => .inl h, fun _ => rfl⟩))))
  · simp only [decide_eq_false h, Bool.not_false, cond_true, Bool.true_and, Bool.false_or]
    refine Gw (stow_height boxes l m 1 hl) ?_
    by_cases h1 : heightI boxes l m 1 ≤ c.Height
    · rw [decide_eq_true h1]
      simp only [cond_true, Bool.true_and]
      exact Gw (stow_height boxes l m 2 hl) (Gt ⟨fun e => .inr ⟨h1, of_decide_eq_true e⟩, fun e => decide_eq_true (e.elim (fun e => (h e).elim) (·.2))⟩)
    · rw [decide_eq_false h1]
      simp only [cond_false, Bool.false_and]
      exact He (Gt (Gt ⟨fun e => (by cases e), fun e => e.elim (fun e => (h e).elim) (fun e => (h1 e.1).elim)⟩))
theorem stow_taken (l : List G2) (hl : l.length ≤ 1000000) : M_stow_taken l = some (l.map (·.Slot)) := by
  refine wp_eq ?_
  unfold M_stow_taken
  refine J3 (fun pre s => s = pre.map (·.Slot)) rfl (fun pre y post s nx e hs hnx => ?_) (fun s hs => Gt hs)
  subst hs
  have hp : pre.length + 1 ≤ l.length := by rw [e]; simp
  exact Qe (room_ok (by simp only [List.length_map, List.length_singleton]; omega) (by omega)) (hnx _ (by simp))
structure RightP (s : Gz) (boxes : List Gp) (l : List G2) : Prop where
  each : ∀ x ∈ l, ∃ b, findBox boxes x.Gp = some b ∧ SlotOk s x.Slot b.Size ∧ HeldP x.Slot (l.map (·.Slot))
  sorted : l.Pairwise (fun a b => a.Gp < b.Gp)
  apart : l.Pairwise (fun a b => ¬ MeetP b.Slot a.Slot)
  fits : ∀ m c, s.Columns[m]? = some c → FitsP boxes l m c
theorem pairwise_snoc {α : Type} {R : α → α → Prop} {l : List α} {x : α} (h : l.Pairwise R) (hx : ∀ a ∈ l, R a x) : (l ++ [x]).Pairwise R := by
  rw [List.pairwise_append]
  refine ⟨h, List.pairwise_singleton .., fun a ha b hb => ?_⟩
  rw [List.mem_singleton] at hb; subst hb
  exact hx a ha
theorem pairwise_mid {α : Type} {R : α → α → Prop} {pre post : List α} {y : α} (h : (pre ++ y :: post).Pairwise R) : ∀ a ∈ pre, R a y := fun a ha => (List.pairwise_append.1 h).2.2 a ha y (List.mem_cons_self ..)
theorem stow_right {s : Gz} {boxes : List Gp} {l : List G2} (hr : S_ship_Right s = some true) (ht : ∀ c ∈ s.Columns, c.Tiers ≤ 1000000) (hl : l.length ≤ 1000000) : Wp (M_stow_Right s boxes l) (fun r => r = true ↔ RightP s boxes l) := by
  unfold M_stow_Right
  refine Gw hr (Hw (fun h => by cases h) (fun _ => ?_))
  refine Gw (stow_taken l hl) ?_
  refine J3 (fun pre _ => (∀ x ∈ pre, ∃ b, findBox boxes x.Gp = some b ∧ SlotOk s x.Slot b.Size ∧ HeldP x.Slot (l.map (·.Slot))) ∧ pre.Pairwise (fun a b => a.Gp < b.Gp) ∧ pre.Pairwise (fun a b => ¬ MeetP b.Slot a.Slot))
    ⟨fun x hx => (List.not_mem_nil hx).elim, List.Pairwise.nil, List.Pairwise.nil⟩ (fun pre y post u nx e hI hnx => ?_) (fun u hI => ?_)
  · obtain ⟨i1, i2, i3⟩ := hI
    have hlen : pre.length < l.length := by rw [e]; simp
    have hy : y ∈ l := by rw [e]; simp
    have no : ∀ {m : Option Bool}, m = some false → ¬ RightP s boxes l → Wp m (fun r => r = true ↔ RightP s boxes l) := fun e h => by subst e; exact Gt ⟨fun e => (by cases e), fun e => (h e).elim⟩
    refine Gw (stow_find boxes y.Gp) ?_
    cases hf : findBox boxes y.Gp with
    | none =>
      simp only [Bool.not_false, Bool.not_true, Bool.false_and, cond_false, Bool.true_or, cond_true]
      refine He (Gt (He (Gt (He (Gt (He (Gt (no rfl fun h => ?_))))))))
      obtain ⟨b, hb, _⟩ := h.each y hy
      rw [hf] at hb; cases hb
    | some b =>
      simp only [Bool.not_true, Bool.not_false, Bool.true_and, Bool.false_or]
      -- the order
      have hprev : Wp (bif decide (0 < (pre.length : Int)) then chk ((pre.length : Int) - 1) some else some 0) (fun v => Wp (bif decide (0 < (pre.length : Int)) then Jy l v some else some default) (fun y20 =>
          ((decide (0 < (pre.length : Int)) && decide (y.Gp ≤ y20.Gp)) = true → ¬ RightP s boxes l) ∧ ((decide (0 < (pre.length : Int)) && decide (y.Gp ≤ y20.Gp)) = false → ∀ a ∈ pre, a.Gp < y.Gp))) := by
        rcases List.eq_nil_or_concat pre with hp | ⟨pre', z, hp⟩
        · subst hp
          simp only [List.length_nil]
          exact Gt (Gt ⟨fun h => by simp at h, fun _ a ha => (List.not_mem_nil ha).elim⟩)
        · have hp' : pre = pre' ++ [z] := by simpa using hp
          have hpl : pre.length = pre'.length + 1 := by rw [hp']; simp
          have hd : decide (0 < (pre.length : Int)) = true := decide_eq_true (by omega)
          have hz : l[pre'.length]? = some z := by rw [e, hp']; simp
          rw [hd]
          simp only [cond_true, Bool.true_and]
          refine Jk ⟨by omega, by omega⟩ (Gt (wp_gidx (m := pre'.length) (by omega) hz (Gt ⟨fun h hR => ?_, fun h a ha => ?_⟩)))
          · have := of_decide_eq_true h
            have hs := hR.sorted
            rw [e] at hs
            have := pairwise_mid hs z (by rw [hp']; simp)
            omega
          · have hzy : ¬ y.Gp ≤ z.Gp := of_decide_eq_false h
            rw [hp'] at ha
            rcases List.mem_append.1 ha with ha | ha
            · have := pairwise_mid (hp' ▸ i2 : (pre' ++ z :: []).Pairwise _) a ha
              omega
            · rw [List.mem_singleton] at ha; subst ha; omega
      refine He (wp_mono hprev (fun v hv => He (wp_mono hv (fun y20 h20 => ?_))))
      obtain ⟨n1, n2⟩ := h20
      generalize (decide (0 < (pre.length : Int)) && decide (y.Gp ≤ y20.Gp)) = c at n1 n2
      cases c with
      | true =>
        simp only [Bool.not_true, cond_false, Bool.true_or, cond_true]
        exact He (Gt (He (Gt (no rfl (n1 rfl)))))
      | false =>
        simp only [Bool.not_false, cond_true, Bool.false_or]
        have hsort := n2 rfl
        refine He (wp_mono (slot_right s y.Slot b.Size) (fun r21 h21 => ?_))
        cases r21 with
        | false =>
          simp only [Bool.not_false, Bool.not_true, cond_false, Bool.true_or, cond_true]
          refine He (Gt (no rfl fun h => ?_))
          obtain ⟨b', hb, hs, _⟩ := h.each y hy
          rw [hf] at hb; cases hb
          have := h21.2 hs; cases this
        | true =>
          have hslot := h21.1 rfl
          simp only [Bool.not_true, Bool.not_false, cond_true, Bool.false_or]
          have htier : -1000000 ≤ y.Slot.Tier ∧ y.Slot.Tier ≤ 1000000 := by
            obtain ⟨m, c, _, hc, h3⟩ := hslot.col
            have := hslot.tier
            have := ht c (List.mem_of_getElem? hc)
            omega
          refine He (wp_mono (slot_held y.Slot (l.map (·.Slot)) htier) (fun r22 h22 => ?_))
          cases r22 with
          | false =>
            refine Hw (fun _ => no rfl fun h => ?_) (fun h => by cases h)
            obtain ⟨b', hb, _, hh⟩ := h.each y hy
            have := h22.2 hh; cases this
          | true =>
            have hheld := h22.1 rfl
            refine Hw (fun h => by cases h) (fun _ => ?_)
            refine He (wp_natIn (m := pre.length) rfl (by rw [List.length_map]; omega) ?_)
            have htk : (l.map (·.Slot)).take pre.length = pre.map (·.Slot) := by rw [← List.map_take, e, List.take_left']; rfl
            rw [htk]
            refine J3 (fun pr _ => ∀ a ∈ pr, ¬ MeetP y.Slot a) (fun a ha => (List.not_mem_nil ha).elim) (fun pr a pos u nx2 e2 hI2 hnx2 => ?_) (fun u hI2 => hnx _ ⟨fun x hx => ?_, pairwise_snoc i2 hsort, pairwise_snoc i3 (fun a ha => hI2 a.Slot (List.mem_map.2 ⟨a, ha, rfl⟩))⟩)
            · refine He (wp_mono (slot_meet y.Slot a) (fun r48 h48 => ?_))
              refine Hw (fun h => no rfl fun hR => ?_) (fun h => hnx2 _ (fun a' ha' => ?_))
              · have hm := h48.1 h
                have hin : a ∈ pre.map (·.Slot) := by rw [e2]; simp
                obtain ⟨z, hz, rfl⟩ := List.mem_map.1 hin
                have ha := hR.apart
                rw [e] at ha
                exact pairwise_mid ha z hz hm
              · rcases List.mem_append.1 ha' with ha' | ha'
                · exact hI2 a' ha'
                · rw [List.mem_singleton] at ha'; subst ha'
                  intro hm
                  have := h48.2 hm
                  rw [this] at h; cases h
            · rcases List.mem_append.1 hx with hx | hx
              · exact i1 x hx
              · rw [List.mem_singleton] at hx; subst hx
                exact ⟨b, hf, hslot, hheld⟩
  · obtain ⟨i1, i2, i3⟩ := hI
    refine J3 (fun pre _ => ∀ m c, m < pre.length → s.Columns[m]? = some c → FitsP boxes l m c) (fun m c h => (Nat.not_lt_zero m h).elim) (fun pre y post u nx e hI hnx => ?_) (fun u hI => Gt ⟨fun _ => ⟨i1, i2, i3, fun m c hc => hI m c (List.getElem?_eq_some_iff.1 hc).1 hc⟩, fun _ => rfl⟩)
    have hc : s.Columns[pre.length]? = some y := by rw [e]; simp
    refine He (wp_mono (stow_fits hc hl) (fun r hr => ?_))
    cases r with
    | false => exact Hw (fun _ => Gt ⟨fun e => (by cases e), fun h => by have := hr.2 (h.fits _ _ hc); cases this⟩) (fun h => by cases h)
    | true =>
      refine Hw (fun h => by cases h) (fun _ => hnx _ (fun m c hm hmc => ?_))
      rw [List.length_append, List.length_singleton] at hm
      rcases Nat.lt_or_ge m pre.length with h | h
      · exact hI m c h hmc
      · have : m = pre.length := by omega
        subst this
        rw [hc] at hmc; cases hmc
        exact hr.1 rfl
theorem wp_loop {β σ : Type} {Q : β → Prop} (I : σ → Prop) (μ : σ → Nat) {b : (σ → Option β) → σ → Option β} {F : Nat} {s : σ} (h0 : I s) (hF : μ s < F)
    (hb : ∀ s nx, I s → (∀ s', I s' → μ s' < μ s → Wp (nx s') Q) → Wp (b nx s) Q) : Wp (loop b F s) Q := by
  induction F generalizing s with
  | zero => omega
  | succ F ih =>
    rw [loop]
    exact hb s _ h0 (fun s' h1 h2 => ih h1 (by omega))
section maps
variable {κ ν : Type} [DecidableEq κ]
theorem amap_get_empty (a : κ) (z : ν) : Gr.get (Gr.empty : Gr κ ν) a z = z := rfl
theorem amap_has_empty (a : κ) : Gr.has (Gr.empty : Gr κ ν) a = false := rfl
theorem amap_get_put (m : Gr κ ν) (a b : κ) (v z : ν) : Gr.get (Gr.put m a v) b z = if a = b then v else Gr.get m b z := by
  unfold Gr.get Gr.put
  simp only [mget_mput]
  split <;> rfl
theorem amap_has_put (m : Gr κ ν) (a b : κ) (v : ν) : Gr.has (Gr.put m a v) b = (decide (a = b) || Gr.has m b) := by
  unfold Gr.has Gr.put
  have h := mget_isSome (l := mput m.l a v) (a := b)
  have h2 := mget_isSome (l := m.l) (a := b)
  rw [← h, mget_mput]
  by_cases e : a = b
  · simp [e]
  · simp [e, h2]
end maps
theorem each_chosen {α : Type} {l : List α} {wanted : α → Option Bool} {p : α → Bool} (hw : ∀ x ∈ l, wanted x = some (p x)) (hl : l.length ≤ 1000000) :
    each (fun y i (s : List Int) nx => jp (fun kj => bnd (wanted y) fun r => bif r then (need (decide ((s.length + [(i : Int)].length) * 8 ≤ 140737488355328 ∧ s.length + [(i : Int)].length ≤ maxLen)) <| kj (s ++ [(i : Int)])) else (kj s)) fun (j : List Int) => nx j)
      (fun s => some s) l 0 [] = some (idxs p l) := by
  refine wp_eq ?_
  refine J3 (fun pre s => s = idxs p pre) rfl (fun pre x post s nx e hs hnx => ?_) (fun s hs => Gt hs)
  subst hs
  have hpl : pre.length + 1 ≤ l.length := by rw [e]; simp
  refine wp_jp (fun j => j = idxs p (pre ++ [x])) (fun K hK => ?_) (fun j hj => hnx _ hj)
  refine Gw (hw x (by rw [e]; simp)) (Hw (fun h => Qe ?_ (hK _ ?_)) (fun h => hK _ ?_))
  · have := idxs_length p pre
    exact room_ok (by rw [List.length_singleton]; omega) (by omega)
  · rw [idxs_snoc, h]; rfl
  · rw [idxs_snoc, h]; simp
theorem idxs_cons {α : Type} (p : α → Bool) (x : α) (l : List α) : idxs p (x :: l) = (if p x then [0] else []) ++ (idxs p l).map (· + 1) := by
  unfold idxs
  rw [List.zipIdx_cons', List.filter_cons]
  have h : (((l.zipIdx.map (Prod.map id (fun n : Nat => n + 1))).filter (fun y : α × Nat => p y.1)).map (fun y : α × Nat => (y.2 : Int))) = ((l.zipIdx.filter (fun y : α × Nat => p y.1)).map (fun y : α × Nat => (y.2 : Int))).map (· + 1) := by
    rw [List.filter_map, List.map_map, List.map_map]
    rfl
  by_cases hx : p x = true
  · rw [if_pos (show p (x, 0).fst = true from hx), if_pos hx, List.map_cons]
    exact congrArg (List.cons _) h
  · rw [if_neg (show ¬ p (x, 0).fst = true from hx), if_neg hx, List.nil_append]
    exact h
theorem idxs_head {α : Type} (p : α → Bool) (l : List α) : (idxs p l).head? = match l.findIdx? p with
    | some j => some (j : Int)
    | none => none := by
  induction l with
  | nil => rfl
  | cons x l ih =>
    rw [idxs_cons, List.findIdx?_cons]
    by_cases hx : p x
    · simp [hx]
    · simp only [hx, if_false, Bool.false_eq_true, List.nil_append, List.head?_map, ih]
      cases l.findIdx? p <;> simp
theorem idxs_pos {α : Type} (p : α → Bool) (l : List α) : decide (0 < ((idxs p l).length : Int)) = l.any p := by
  by_cases h : ∀ x ∈ l, p x = false
  · rw [idxs_nil.2 h]
    refine Eq.symm (List.any_eq_false.2 fun x hx => ?_)
    rw [h x hx]; exact Bool.false_ne_true
  · have h1 : idxs p l ≠ [] := fun e => h (idxs_nil.1 e)
    have h2 := List.length_pos_iff.2 h1
    rw [decide_eq_true (by omega)]
    refine Eq.symm (List.any_eq_true.2 ?_)
    refine Classical.byContradiction fun hn => h fun x hx => ?_
    cases hc : p x with
    | false => rfl
    | true => exact (hn ⟨x, hx, hc⟩).elim
/-- A cover lies over a place. -/
def covB (x : Ga) (c : G5) : Bool := decide (x.Bay = c.Bay) && x.Rows.any (fun r => decide (r = c.Row))
theorem ship_covers (x : Ga) (c : G5) (hl : x.Rows.length ≤ 1000000) : M_ship_covers x c = some (covB x c) := by
  unfold M_ship_covers covB
  by_cases h : x.Bay = c.Bay
  · have hc : M_ship_chosen_int x.Rows (fun z0 => M_ship_covers_1 z0 c) = some (idxs (fun r => decide (r = c.Row)) x.Rows) := by
      unfold M_ship_chosen_int
      exact each_chosen (fun x _ => rfl) hl
    rw [decide_eq_true h]
    simp only [cond_true, Bool.true_and]
    rw [hc, bnd_some, idxs_pos]
  · rw [decide_eq_false h]
    rfl
def coverOf (s : Gz) (c : G5) : Int := idxI (fun x => covB x c) s.Covers
theorem ship_coverOf {s : Gz} {m : Nat} {c : G5} (hc : s.Columns[m]? = some c) (hr : ∀ x ∈ s.Covers, x.Rows.length ≤ 1000000) (hl : s.Covers.length ≤ 1000000) : M_ship_CoverOf s (m : Int) = some (coverOf s c) := by
  have hm := (List.getElem?_eq_some_iff.1 hc).1
  refine wp_eq ?_
  unfold M_ship_CoverOf
  refine Hw (fun h => ?_) (fun _ => ?_)
  · simp only [Bool.or_eq_true, decide_eq_true_eq] at h
    omega
  have hch : M_ship_chosen_apiCover s.Covers (fun z0 => M_ship_CoverOf_1 z0 s (m : Int)) = some (idxs (fun x => covB x c) s.Covers) := by
    unfold M_ship_chosen_apiCover
    refine each_chosen (fun x hx => wp_eq ?_) hl
    unfold M_ship_CoverOf_1
    exact wp_gidx rfl hc (Gw (ship_covers x c (hr x hx)) (Gt rfl))
  refine Gw hch ?_
  have hh := idxs_head (fun x => covB x c) s.Covers
  unfold coverOf idxI
  cases hf : s.Covers.findIdx? (fun x => covB x c) with
  | none =>
    rw [hf] at hh
    have h0 : idxs (fun x => covB x c) s.Covers = [] := List.head?_eq_none_iff.1 hh
    rw [h0]
    exact Gt rfl
  | some j =>
    rw [hf] at hh
    cases hi : idxs (fun x => covB x c) s.Covers with
    | nil => rw [hi] at hh; cases hh
    | cons z r =>
      rw [hi] at hh
      simp only [List.head?_cons, Option.some.injEq] at hh
      subst hh
      refine Hw (fun h => ?_) (fun _ => wp_gidx (m := 0) rfl rfl (Gt rfl))
      have := of_decide_eq_true h
      simp only [List.length_cons] at this
      omega
def insSt (l : List G2) (x : G2) : List G2 := l.filter (fun y => decide (y.Gp < x.Gp)) ++ [x] ++ l.filter (fun y => decide (x.Gp < y.Gp))
theorem filter_snoc {α : Type} (p : α → Bool) (l : List α) (x : α) : (l ++ [x]).filter p = l.filter p ++ (if p x then [x] else []) := by
  rw [List.filter_append]
  by_cases h : p x <;> simp [h]
theorem law23_with (l : List G2) (x : G2) (hl : l.length ≤ 100000) : M_twistlocklaw23_with l x = some (insSt l x) := by
  refine wp_eq ?_
  unfold M_twistlocklaw23_with insSt
  refine J3 (fun pre s => s = pre.filter (fun y => decide (y.Gp < x.Gp))) rfl (fun pre y post s nx e hs hnx => ?_) (fun s hs => ?_)
  · subst hs
    have hp : pre.length + 1 ≤ l.length := by rw [e]; simp
    have hf := List.length_filter_le (fun y : G2 => decide (y.Gp < x.Gp)) pre
    refine wp_jp (fun j => j = (pre ++ [y]).filter (fun y => decide (y.Gp < x.Gp))) (fun K hK => Hw (fun h => Qe (room_ok (by rw [List.length_singleton]; omega) (by omega)) (hK _ ?_)) (fun h => hK _ ?_)) (fun j hj => hnx _ hj)
    · rw [filter_snoc, h]; rfl
    · rw [filter_snoc, h]; simp
  · subst hs
    have hf := List.length_filter_le (fun y : G2 => decide (y.Gp < x.Gp)) l
    refine Qe (room_ok (by rw [List.length_singleton]; omega) (by omega)) ?_
    refine J3 (fun pre s => s = l.filter (fun y => decide (y.Gp < x.Gp)) ++ [x] ++ pre.filter (fun y => decide (x.Gp < y.Gp))) (by simp) (fun pre y post s nx e hs hnx => ?_) (fun s hs => Gt hs)
    subst hs
    have hp : pre.length + 1 ≤ l.length := by rw [e]; simp
    have hg := List.length_filter_le (fun y : G2 => decide (x.Gp < y.Gp)) pre
    refine wp_jp (fun j => j = l.filter (fun y => decide (y.Gp < x.Gp)) ++ [x] ++ (pre ++ [y]).filter (fun y => decide (x.Gp < y.Gp))) (fun K hK => Hw (fun h => Qe (room_ok (by simp only [List.length_append, List.length_singleton]; omega) (by omega)) (hK _ ?_)) (fun h => hK _ ?_)) (fun j hj => hnx _ hj)
    · rw [filter_snoc, h]; simp
    · rw [filter_snoc, h]; simp
theorem insSt_mem {l : List G2} {x y : G2} : y ∈ insSt l x ↔ y = x ∨ (y ∈ l ∧ y.Gp ≠ x.Gp) := by
  unfold insSt
  simp only [List.mem_append, List.mem_filter, List.mem_singleton, decide_eq_true_eq]
  constructor
  · rintro ((⟨h1, h2⟩ | h) | ⟨h1, h2⟩)
    · exact .inr ⟨h1, by omega⟩
    · exact .inl h
    · exact .inr ⟨h1, by omega⟩
  · rintro (h | ⟨h1, h2⟩)
    · exact .inl (.inr h)
    · rcases Int.lt_or_gt_of_ne h2 with h | h
      · exact .inl (.inl ⟨h1, h⟩)
      · exact .inr ⟨h1, h⟩
theorem insSt_length (l : List G2) (x : G2) : (insSt l x).length ≤ 2 * l.length + 1 := by
  unfold insSt
  have h1 := List.length_filter_le (fun y : G2 => decide (y.Gp < x.Gp)) l
  have h2 := List.length_filter_le (fun y : G2 => decide (x.Gp < y.Gp)) l
  simp only [List.length_append, List.length_singleton]
  omega
def holdsB (l : List G2) (id : Int) : Bool := l.any (fun x => decide (x.Gp = id))
theorem holdsB_iff {l : List G2} {id : Int} : holdsB l id = true ↔ id ∈ l.map (·.Gp) := by
  unfold holdsB
  rw [List.any_eq_true, List.mem_map]
  constructor
  · rintro ⟨x, h1, h2⟩; exact ⟨x, h1, of_decide_eq_true h2⟩
  · rintro ⟨x, h1, h2⟩; exact ⟨x, h1, decide_eq_true h2⟩
theorem law23_holds (l : List G2) (id : Int) : M_twistlocklaw23_holds l id = some (holdsB l id) := by
  refine wp_eq ?_
  unfold M_twistlocklaw23_holds
  refine J3 (fun pre _ => ∀ x ∈ pre, decide (x.Gp = id) = false) (fun x hx => (List.not_mem_nil hx).elim) (fun pre y post s nx e hI hnx => Hw (fun h => Gt ?_) (fun h => hnx _ (fun x hx => ?_))) (fun s hI => Gt ?_)
  · exact (List.any_eq_true.2 ⟨y, by rw [e]; simp, h⟩).symm
  · rcases List.mem_append.1 hx with hx | hx
    · exact hI x hx
    · rw [List.mem_singleton] at hx; subst hx; exact h
  · refine (List.any_eq_false.2 fun x hx => ?_).symm
    rw [hI x hx]; exact Bool.false_ne_true
/-- Boxes that are on board behind a call. -/
def abB (k : Int) (b : Gp) : Bool := decide (b.Load ≤ k) && decide (k < b.Discharge)
def aboardL (boxes : List Gp) (k : Int) : List Int := (boxes.filter (abB k)).map (·.ID)
theorem plan_aboard (boxes : List Gp) (k : Int) (hl : boxes.length ≤ 100000) : M_plan_Aboard boxes k = some (aboardL boxes k) := by
  refine wp_eq ?_
  unfold M_plan_Aboard aboardL
  refine J3 (fun pre s => s = (pre.filter (abB k)).map (·.ID)) rfl (fun pre y post s nx e hs hnx => ?_) (fun s hs => Gt hs)
  subst hs
  have hp : pre.length + 1 ≤ boxes.length := by rw [e]; simp
  have hf := List.length_filter_le (abB k) pre
  refine wp_jp (fun j => j = ((pre ++ [y]).filter (abB k)).map (·.ID)) (fun K hK => Hw (fun h => Qe (room_ok (by simp only [List.length_map, List.length_singleton]; omega) (by omega)) (hK _ ?_)) (fun h => hK _ ?_)) (fun j hj => hnx _ hj)
  · have h' : abB k y = true := h
    rw [filter_snoc, h']; simp
  · have h' : abB k y = false := h
    rw [filter_snoc, h']; simp
theorem equal_ids {l : List G2} {ids : List Int} (h : l.map (·.Gp) = ids) : M_slices_EqualFunc_int l ids (fun z0 z1 => M_plan_Check_1 z0 z1) = some true := by
  refine wp_eq ?_
  subst h
  unfold M_slices_EqualFunc_int
  refine Hw (fun h => ?_) (fun _ => ?_)
  · have := of_decide_eq_true h
    rw [List.length_map] at this
    exact (this rfl).elim
  refine J3 (fun _ _ => True) trivial (fun pre y post s nx e _ hnx => ?_) (fun s _ => Gt rfl)
  refine wp_gidx (m := pre.length) (x := y.Gp) rfl (by rw [e]; simp) ?_
  have : M_plan_Check_1 y y.Gp = some true := by unfold M_plan_Check_1; simp
  exact Gw this (Hw (fun h => by cases h) (fun _ => hnx _ trivial))
/-- The slot of a box in a state, and whether it is there. -/
def findP (l : List G2) (id : Int) : Slot × Bool := match findSt l id with
  | some x => (x.Slot, true)
  | none => (⟨0, 0, 0⟩, false)
theorem plan_find (l : List G2) (id : Int) : M_plan_find l id = some (findP l id) := by
  unfold M_plan_find
  have h : M_slices_IndexFunc_apiStowed l (fun z0 => M_plan_find_1 z0 id) = some (idxI (fun x : G2 => decide (x.Gp = id)) l) := each_idx (fun x _ => rfl)
  rw [h]
  simp only [bnd_some]
  unfold findP findSt
  rcases idxI_cases (fun x : G2 => decide (x.Gp = id)) l with ⟨h1, _, h3⟩ | ⟨m, x, h1, h2, _, h4⟩
  · rw [h1, h3]; rfl
  · rw [h1, h4, decide_eq_false (by omega), cond_false]
    unfold Jy
    rw [decide_eq_true (by omega), cond_true, show (m : Int).toNat = m by omega, h2]
    rfl
theorem findP_true {l : List G2} {id : Int} : (findP l id).2 = true ↔ id ∈ l.map (·.Gp) := by
  unfold findP
  cases h : findSt l id with
  | none =>
    refine ⟨fun e => (by cases e), fun e => ?_⟩
    obtain ⟨x, hx, he⟩ := List.mem_map.1 e
    have := List.find?_eq_none.1 h x hx
    simp [he] at this
  | some x =>
    refine ⟨fun _ => ?_, fun _ => rfl⟩
    have h1 := List.mem_of_find?_eq_some h
    have h2 := of_decide_eq_true (List.find?_some (p := fun x : G2 => decide (x.Gp = id)) h)
    exact List.mem_map.2 ⟨x, h1, h2⟩
theorem findP_mem {l : List G2} {id : Int} (h : (findP l id).2 = true) : ∃ x ∈ l, x.Gp = id ∧ (findP l id).1 = x.Slot := by
  unfold findP at h ⊢
  cases hf : findSt l id with
  | none => rw [hf] at h; cases h
  | some x => exact ⟨x, List.mem_of_find?_eq_some hf, of_decide_eq_true (List.find?_some (p := fun x : G2 => decide (x.Gp = id)) hf), rfl⟩
/-- Ships whose covers and columns are few. -/
structure Small (s : Gz) : Prop where
  right : S_ship_Right s = some true
  cols : 1 ≤ s.Columns.length ∧ s.Columns.length ≤ 40
  tiers : ∀ c ∈ s.Columns, c.Tiers ≤ 100
  covs : s.Covers.length ≤ 1000
  rows : ∀ x ∈ s.Covers, x.Rows.length ≤ 1000
theorem built_small {s : Gz} (h : BuiltOk s) : Small s :=
  ⟨built_right h, ⟨h.some, by have := h.cols.len; omega⟩, fun c hc => by have := (h.cols.each c hc).tiers; omega, by have := h.covs.len; omega, fun x hx => by
    rcases (h.covs.each x hx).rows with e | e <;> rw [e] <;> simp⟩
def ColIn (s : Gz) (x : Slot) : Prop := ∃ (m : Nat) (c : G5), x.G5 = (m : Int) ∧ s.Columns[m]? = some c
structure LInv (U : List Int) (m : Gr Int Unit) (l : List Int) : Prop where
  nodup : l.Nodup
  sub : ∀ a ∈ l, a ∈ U
  has : ∀ a, Gr.has m a = decide (a ∈ l)
theorem LInv.le {U : List Int} {m : Gr Int Unit} {l : List Int} (h : LInv U m l) : l.length ≤ U.length := h.nodup.length_le_of_subset (fun a ha => h.sub a ha)
theorem LInv.start {U : List Int} : LInv U (Gr.empty : Gr Int Unit) [] := ⟨List.nodup_nil, fun a ha => (List.not_mem_nil ha).elim, fun a => by simp [amap_has_empty]⟩
theorem LInv.snoc {U : List Int} {m : Gr Int Unit} {l : List Int} (h : LInv U m l) {id : Int} (h1 : id ∉ l) (h2 : id ∈ U) : LInv U (Gr.put m id ()) (l ++ [id]) := by
  refine ⟨?_, fun a ha => ?_, fun a => ?_⟩
  · rw [List.nodup_append]
    refine ⟨h.nodup, by simp, fun a ha b hb => ?_⟩
    rw [List.mem_singleton] at hb; subst hb
    intro e; subst e; exact h1 ha
  · rcases List.mem_append.1 ha with ha | ha
    · exact h.sub a ha
    · rw [List.mem_singleton] at ha; subst ha; exact h2
  · rw [amap_has_put, h.has, Bool.eq_iff_iff]
    simp only [Bool.or_eq_true, decide_eq_true_eq, List.mem_append, List.mem_singleton]
    exact ⟨fun h => h.elim (fun e => .inr e.symm) .inl, fun h => h.elim .inr (fun e => .inl e.symm)⟩
theorem set_add (m : Gr Int Unit) (k : Int) : M_plan_set_int_add m k = some (if Gr.has m k then (false, m) else (true, Gr.put m k ())) := by
  unfold M_plan_set_int_add
  cases Gr.has m k <;> rfl
structure StatesOk (s : Gz) (U : List Int) (states : List (List G2)) : Prop where
  small : Small s
  each : ∀ st ∈ states, ∀ x ∈ st, x.Gp ∈ U ∧ ColIn s x.Slot
  len : U.length ≤ 1000
theorem add_spec {s : Gz} {U : List Int} {states : List (List G2)} (hs : StatesOk s U states) : ∀ (F : Nat) (id : Int) (m : Gr Int Unit) (l : List Int), LInv U m l → id ∈ U → U.length + 1 ≤ F + l.length →
    Wp (M_plan_lifted_1 F id m l states s) (fun r => LInv U r.1 r.2 ∧ l.length ≤ r.2.length) := by
  intro F
  induction F with
  | zero => intro id m l hi _ hF; have := hi.le; omega
  | succ F ih =>
    intro id m l hi hid hF
    show Wp (B_plan_lifted_1 (M_plan_lifted_1 F) F id m l states s) _
    unfold B_plan_lifted_1
    refine Gw (set_add m id) ?_
    rw [hi.has]
    by_cases hmem : id ∈ l
    · rw [if_pos (decide_eq_true hmem)]
      exact Hw (fun _ => Gt ⟨hi, Nat.le_refl _⟩) (fun h => by cases h)
    rw [if_neg (by rw [decide_eq_false hmem]; exact Bool.false_ne_true)]
    refine Hw (fun h => by cases h) (fun _ => ?_)
    have hle := hi.le
    have hlen := hs.len
    have h1 := hi.snoc hmem hid
    have h1le := h1.le
    have hl1 : (l ++ [id]).length = l.length + 1 := by simp
    refine Qe (room_ok (by rw [List.length_singleton]; omega) (by omega)) ?_
    have again : ∀ (y : G2) (st : List G2) (m' : Gr Int Unit) (l' : List Int), st ∈ states → y ∈ st → LInv U m' l' → l.length + 1 ≤ l'.length → Wp (M_plan_lifted_1 F y.Gp m' l' states s) (fun r => LInv U r.1 r.2 ∧ l.length + 1 ≤ r.2.length) :=
      fun y st m' l' h2 h3 h4 h5 => wp_mono (ih y.Gp m' l' h4 (hs.each st h2 y h3).1 (by omega)) (fun r hr => ⟨hr.1, by omega⟩)
    refine J3 (fun _ s7 => LInv U s7.1 s7.2 ∧ l.length + 1 ≤ s7.2.length) ⟨h1, by show l.length + 1 ≤ (l ++ [id]).length; omega⟩ (fun pre st post s7 nx e hI hnx => ?_) (fun s7 hI => Gt ⟨hI.1, Nat.le_of_succ_le hI.2⟩)
    have hst : st ∈ states := by rw [e]; simp
    refine wp_jp (fun j => LInv U j.1 j.2 ∧ l.length + 1 ≤ j.2.length) (fun K hK => ?_) (fun j hj => hnx _ hj)
    refine Gw (plan_find st id) (Hw (fun _ => hK _ hI) (fun hf => ?_))
    have hft : (findP st id).2 = true := by simpa using hf
    obtain ⟨x, hx, _, hxs⟩ := findP_mem hft
    obtain ⟨m0, c0, hm0, hc0⟩ := (hs.each st hst x hx).2
    rw [hxs]
    refine wp_jp (fun _ => True) (fun K' hK' => wp_gidx hm0 hc0 (Hw (fun _ => ?_) (fun _ => hK' _ trivial))) (fun j17 _ => ?_)
    · rw [hm0]
      exact Gw (ship_coverOf hc0 (fun x hx => by have := hs.small.rows x hx; omega) (by have := hs.small.covs; omega)) (hK' _ trivial)
    refine J3 (fun _ s56 => LInv U s56.1 s56.2 ∧ l.length + 1 ≤ s56.2.length) hI (fun pre y post s56 nx e hI hnx => ?_) (fun s56 hI => ?_)
    · have hy : y ∈ st := by rw [e]; simp
      refine wp_jp (fun j => LInv U j.1 j.2 ∧ l.length + 1 ≤ j.2.length) (fun K' hK' => ?_) (fun j hj => hnx _ hj)
      refine He (wp_mono (slot_over y.Slot x.Slot) (fun r62 _ => Hw (fun _ => ?_) (fun _ => hK' _ hI)))
      exact He (wp_mono (again y st _ _ hst hy hI.1 hI.2) (fun r hr => hK' _ hr))
    · refine J3 (fun _ s65 => LInv U s65.1 s65.2 ∧ l.length + 1 ≤ s65.2.length) hI (fun pre st2 post s65 nx e hI hnx => ?_) (fun s65 hI => hK _ hI)
      have hst2 : st2 ∈ states := by rw [e]; simp
      refine J3 (fun _ s107 => LInv U s107.1 s107.2 ∧ l.length + 1 ≤ s107.2.length) hI (fun pre y post s107 nx2 e hI hnx2 => ?_) (fun s107 hI => hnx _ hI)
      have hy : y ∈ st2 := by rw [e]; simp
      obtain ⟨m1, c1, hm1, hc1⟩ := (hs.each st2 hst2 y hy).2
      refine wp_jp (fun j => LInv U j.1 j.2 ∧ l.length + 1 ≤ j.2.length) (fun K' hK' => ?_) (fun j hj => hnx2 _ hj)
      refine He (Q := _) (wp_mono (Q' := fun _ => True) (Hw (fun _ => wp_gidx hm1 hc1 (Gt trivial)) (fun _ => Gt trivial)) (fun y113 _ => ?_))
      refine He (wp_mono (Q' := fun _ => True) (Hw (fun _ => ?_) (fun _ => Gt trivial)) (fun r114 _ => ?_))
      · rw [hm1]
        exact ⟨_, ship_coverOf hc1 (fun x hx => by have := hs.small.rows x hx; omega) (by have := hs.small.covs; omega), trivial⟩
      · refine Hw (fun _ => ?_) (fun _ => hK' _ hI)
        exact He (wp_mono (again y st2 _ _ hst2 hy hI.1 hI.2) (fun r hr => hK' _ hr))
theorem lifted_spec {s : Gz} {U : List Int} {before after : List G2} (hs : StatesOk s U [before, after]) {F : Nat} (hF : U.length + 1 ≤ F) : Wp (Q3 F s before after) (fun r => r.Nodup ∧ ∀ a ∈ r, a ∈ U) := by
  unfold Q3
  refine J3 (fun _ s9 => LInv U s9.1 s9.2) LInv.start (fun pre st post s9 nx e hI hnx => ?_) (fun s9 hI => ?_)
  · have hst : st ∈ [before, after] := by rw [e]; simp
    refine J3 (fun _ s59 => LInv U s59.1 s59.2) hI (fun pre y post s59 nx2 e hI hnx2 => ?_) (fun s59 hI => hnx _ hI)
    have hy : y ∈ st := by rw [e]; simp
    refine wp_jp (fun j => LInv U j.1 j.2) (fun K hK => ?_) (fun j hj => hnx2 _ hj)
    refine Gw (plan_find before y.Gp) (Gw (plan_find after y.Gp) (Hw (fun _ => ?_) (fun _ => hK _ hI)))
    exact He (wp_mono (add_spec hs F y.Gp _ _ hI (hs.each st hst y hy).1 (by omega)) (fun r hr => hK _ hr.1))
  · have h1 := hI.le
    have h2 := hs.len
    have hse : sortIM s9.2 = some (sortI s9.2) := by
      unfold sortIM
      rw [decide_eq_true (show s9.2.length < 4611686018427387904 by omega)]
      rfl
    have hp := sortI_perm s9.2
    exact Gw hse (Gt ⟨hp.nodup_iff.2 hI.nodup, fun a ha => hI.sub a (hp.mem_iff.1 ha)⟩)
theorem deleteFunc {F : Nat} {l : List Int} {del : Int → Option Bool} {p : Int → Bool} (hd : ∀ x ∈ l, del x = some (p x)) (hF : l.length + 2 ≤ F) (hl : l.length ≤ 100000) : M_slices_DeleteFunc_int F l del = some (l.filter (fun x => !p x)) := by
  refine wp_eq ?_
  unfold M_slices_DeleteFunc_int
  have hi : M_slices_IndexFunc_int l del = some (idxI p l) := each_idx hd
  refine Gw hi ?_
  rcases idxI_cases p l with ⟨h1, h2, _⟩ | ⟨m, x, h1, h2, h3, h4⟩
  · rw [h1]
    refine Hw (fun _ => Gt ?_) (fun h => by simp at h)
    exact (List.filter_eq_self.2 (fun a ha => by rw [h2 a ha]; rfl)).symm
  · have hm := (List.getElem?_eq_some_iff.1 h2).1
    rw [h1]
    refine Hw (fun h => ?_) (fun _ => ?_)
    · have := of_decide_eq_true h; omega
    refine Jk ⟨by omega, by omega⟩ ?_
    have hfirst : ∀ k, k < m → ∀ y, l[k]? = some y → p y = false := by
      intro k hk y hy
      obtain ⟨_, j, hj, hjx, hbef⟩ := List.find?_eq_some_iff_getElem.1 h4
      have hidx : l.findIdx? p = some m := by
        have h5 := h1
        unfold idxI at h5
        cases hf : l.findIdx? p with
        | none => rw [hf] at h5; simp only at h5; omega
        | some j2 => rw [hf] at h5; simp only at h5; rw [show j2 = m by omega]
      obtain ⟨_, _, hb⟩ := List.findIdx?_eq_some_iff_getElem.1 hidx
      have := hb k hk
      have hkl := (List.getElem?_eq_some_iff.1 hy)
      obtain ⟨hk2, e⟩ := hkl
      rw [e] at this
      simpa using this
    refine wp_loop (fun st => ∃ i j : Nat, st.1 = (i : Int) ∧ st.2.1 = (j : Int) ∧ i < j ∧ j ≤ l.length ∧ st.2.2.length = l.length ∧ st.2.2.take i = (l.take j).filter (fun x => !p x) ∧ st.2.2.drop j = l.drop j) (fun st => l.length + 1 - st.2.1.toNat)
      ⟨m, m + 1, rfl, rfl, by omega, by omega, rfl, ?_, rfl⟩ (by show l.length + 1 - ((m : Int) + 1).toNat < F; omega) (fun st nx hI hnx => ?_)
    · rw [List.take_add_one, h2, List.filter_append]
      simp only [Option.toList_some, List.filter_cons, h3, Bool.not_true, Bool.false_eq_true, if_false, List.filter_nil, List.append_nil]
      refine (List.filter_eq_self.2 (fun a ha => ?_)).symm
      obtain ⟨k, hk⟩ := List.mem_iff_getElem?.1 ha
      have hkm : k < m := by
        have := (List.getElem?_eq_some_iff.1 hk).1
        rw [List.length_take] at this; omega
      rw [List.getElem?_take_of_lt hkm] at hk
      rw [hfirst k hkm a hk]; rfl
    · obtain ⟨a1, a2, cur⟩ := st
      obtain ⟨i, j, e1, e2, hij, hjl, hcl, ht, hdr⟩ := hI
      simp only at e1 e2 hcl ht hdr ⊢
      subst e1 e2
      refine Hw (fun h => ?_) (fun h => ?_)
      · have hj : j < l.length := by have := of_decide_eq_true h; omega
        have hcj : cur[j]? = some l[j] := by
          have : (cur.drop j)[0]? = (l.drop j)[0]? := by rw [hdr]
          rw [List.getElem?_drop, List.getElem?_drop] at this
          simpa [hj] using this
        have hlj : l[j]? = some l[j] := by simp [hj]
        refine wp_jp (fun st => ∃ i' : Nat, st.1 = (i' : Int) ∧ i' < j + 1 ∧ st.2.length = l.length ∧ st.2.take i' = (l.take (j + 1)).filter (fun x => !p x) ∧ st.2.drop (j + 1) = l.drop (j + 1)) (fun K hK => ?_) (fun st hst => ?_)
        · refine wp_gidx rfl hcj (Gw (hd l[j] (List.getElem_mem hj)) (Hw (fun hp => ?_) (fun hp => hK _ ?_)))
          · have hci : cur[i]? = some (cur[i]'(by omega)) := List.getElem?_eq_getElem (by omega)
            refine wp_gidx rfl hci (Jk ⟨by omega, by omega⟩ (hK _ ⟨i + 1, rfl, by omega, by simpa using hcl, ?_, ?_⟩))
            · simp only [Int.toNat_natCast]
              rw [List.take_add_one, List.take_set_of_le (Nat.le_refl _), ht, List.take_add_one, hlj, List.filter_append]
              have : (cur.set i l[j])[i]? = some l[j] := by rw [List.getElem?_set_self (by omega)]
              rw [this]
              simp [hp]
            · simp only [Int.toNat_natCast]
              rw [List.drop_set_of_lt (by omega)]
              have := congrArg (List.drop 1) hdr
              rw [List.drop_drop, List.drop_drop] at this
              exact this
          · refine ⟨i, rfl, by omega, hcl, ?_, ?_⟩
            · rw [ht, List.take_add_one, hlj, List.filter_append]
              simp [hp]
            · have := congrArg (List.drop 1) hdr
              rw [List.drop_drop, List.drop_drop] at this
              exact this
        · obtain ⟨i', g1, g2, g3, g4, g5⟩ := hst
          refine Jk ⟨by omega, by omega⟩ (hnx _ ⟨i', j + 1, g1, by simp, g2, by omega, g3, g4, g5⟩ ?_)
          simp only
          omega
      · have hj : j = l.length := by have := of_decide_eq_false h; omega
        subst hj
        have hbl : (blank cur i (cur.length - i) (0 : Int)).length = cur.length := by
          unfold blank
          simp only [List.length_append, List.length_take, List.length_replicate, List.length_drop]
          omega
        refine He (wp_natIn rfl (by omega) (He (wp_natIn rfl (by rw [hbl]; omega) (Gt ?_))))
        unfold blank
        rw [List.append_assoc, List.take_left' (by rw [List.length_take]; omega), ht, List.take_length]
structure BoxOk (calls : Int) (b : Gp) : Prop where
  id : 5 ≤ b.ID ∧ b.ID ≤ 999999
  size : b.Size = 40 ∨ (b.Size = 20 ∧ b.High = false)
  load : 0 ≤ b.Load
  stay : b.Load < b.Discharge
  out : b.Discharge < calls
structure BoxesOk (calls : Int) (boxes : List Gp) : Prop where
  num : 1 ≤ calls ∧ calls ≤ 20
  len : boxes.length ≤ 8
  each : ∀ b ∈ boxes, BoxOk calls b
  sorted : boxes.Pairwise (fun a b => a.ID < b.ID)
theorem sorted_nodup {l : List Int} (h : l.Pairwise (· < ·)) : l.Nodup := h.imp (fun h => by omega)
theorem BoxesOk.ids {calls : Int} {boxes : List Gp} (h : BoxesOk calls boxes) : (boxes.map (·.ID)).Pairwise (· < ·) := List.pairwise_map.2 h.sorted
theorem BoxesOk.inj {calls : Int} {boxes : List Gp} (h : BoxesOk calls boxes) {a b : Gp} (ha : a ∈ boxes) (hb : b ∈ boxes) (e : a.ID = b.ID) : a = b := by
  obtain ⟨i, hi⟩ := List.mem_iff_getElem?.1 ha
  obtain ⟨j, hj⟩ := List.mem_iff_getElem?.1 hb
  obtain ⟨hi1, hi2⟩ := List.getElem?_eq_some_iff.1 hi
  obtain ⟨hj1, hj2⟩ := List.getElem?_eq_some_iff.1 hj
  have hp := List.pairwise_iff_getElem.1 h.sorted
  rcases Nat.lt_trichotomy i j with hl | hl | hl
  · have := hp i j hi1 hj1 hl
    rw [hi2, hj2] at this; omega
  · subst hl; rw [← hi2, ← hj2]
  · have := hp j i hj1 hi1 hl
    rw [hi2, hj2] at this; omega
theorem plan_boxes {calls : Int} {boxes : List Gp} (h : BoxesOk calls boxes) : M_plan_Boxes boxes calls = some true := by
  refine wp_eq ?_
  unfold M_plan_Boxes
  have hc := h.num
  have hl := h.len
  refine Hw (fun hb => ?_) (fun _ => ?_)
  · simp only [Bool.or_eq_true, decide_eq_true_eq] at hb
    omega
  refine J3 (fun pre last => 0 ≤ last ∧ (pre = [] ∧ last = 0 ∨ ∃ a ∈ pre, a.ID = last)) ⟨Int.le_refl _, .inl ⟨rfl, rfl⟩⟩ (fun pre y post last nx e hI hnx => ?_) (fun s _ => Gt rfl)
  have hy := h.each y (by rw [e]; simp)
  obtain ⟨⟨i1, i2⟩, hs, h3, h4, h5⟩ := hy
  have hlast : last < y.ID := by
    rcases hI.2 with ⟨_, h⟩ | ⟨a, ha, h⟩
    · omega
    · have := h.symm
      have hp := BoxesOk.sorted ‹BoxesOk calls boxes›
      rw [e] at hp
      have := pairwise_mid hp a ha
      omega
  refine Hw (fun hb => ?_) (fun _ => hnx _ ⟨by omega, .inr ⟨y, by simp, rfl⟩⟩)
  have e1 : decide (y.ID ≤ last) = false := decide_eq_false (by omega)
  have e2 : decide (999999 < y.ID) = false := decide_eq_false (by omega)
  have e3 : decide (y.Load < 0) = false := decide_eq_false (by omega)
  have e4 : decide (y.Discharge ≤ y.Load) = false := decide_eq_false (by omega)
  have e5 : decide (calls ≤ y.Discharge) = false := decide_eq_false (by omega)
  rw [e1, e2, e3, e4, e5] at hb
  rcases hs with hs | ⟨hs, hh⟩
  · simp [hs] at hb
  · simp [hs, hh] at hb
/-- A state of a plan that is right. -/
structure StateOk (s : Gz) (boxes : List Gp) (k : Int) (l : List G2) : Prop where
  right : RightP s boxes l
  ids : l.map (·.Gp) = aboardL boxes k
structure PlanOk (s : Gz) (boxes : List Gp) (calls : Int) (p : Plan) : Prop where
  len : (p.States.length : Int) = calls
  each : ∀ (k : Nat) l, p.States[k]? = some l → StateOk s boxes k l
theorem aboard_len (boxes : List Gp) (k : Int) : (aboardL boxes k).length ≤ boxes.length := by
  unfold aboardL
  rw [List.length_map]
  exact List.length_filter_le _ _
theorem StateOk.len {s : Gz} {boxes : List Gp} {k : Int} {l : List G2} (h : StateOk s boxes k l) : l.length ≤ boxes.length := by
  have := congrArg List.length h.ids
  rw [List.length_map] at this
  rw [this]
  exact aboard_len boxes k
theorem Small.tier {s : Gz} (h : Small s) : ∀ c ∈ s.Columns, c.Tiers ≤ 1000000 := fun c hc => by have := h.tiers c hc; omega
theorem plan_check {s : Gz} {boxes : List Gp} {calls : Int} {p : Plan} (hs : Small s) (hb : BoxesOk calls boxes) (hp : PlanOk s boxes calls p) : M_plan_Check s boxes calls p = some (0, 0) := by
  refine wp_eq ?_
  unfold M_plan_Check
  have hl := hb.len
  refine Gw hs.right (Hw (fun h => by cases h) (fun _ => Gw (plan_boxes hb) (Hw (fun h => by cases h) (fun _ => Hw (fun h => ?_) (fun _ => ?_)))))
  · exact (of_decide_eq_true h hp.len).elim
  refine J3 (fun _ _ => True) trivial (fun pre y post u nx e _ hnx => ?_) (fun u _ => Gt rfl)
  have hy : StateOk s boxes pre.length y := hp.each pre.length y (by rw [e]; simp)
  have hyl := hy.len
  refine He (wp_mono (stow_right hs.right hs.tier (by omega)) (fun r hr => ?_))
  refine Hw (fun h => ?_) (fun _ => ?_)
  · have := hr.2 hy.right
    rw [this] at h; cases h
  · refine Gw (plan_aboard boxes pre.length (by omega)) (Gw (equal_ids hy.ids) (Hw (fun h => by cases h) (fun _ => hnx _ trivial)))
theorem slot_colIn {s : Gz} {x : Slot} {size : Int} (h : SlotOk s x size) : ColIn s x := by
  obtain ⟨m, c, h1, h2, _⟩ := h.col
  exact ⟨m, c, h1, h2⟩
theorem states_ok {s : Gz} {boxes : List Gp} {before after : List G2} (hs : Small s) (h1 : RightP s boxes before) (h2 : RightP s boxes after) (l1 : before.length ≤ 100) (l2 : after.length ≤ 100) :
    StatesOk s (before.map (·.Gp) ++ after.map (·.Gp)) [before, after] := by
  refine ⟨hs, fun st hst x hx => ?_, by simp only [List.length_append, List.length_map]; omega⟩
  simp only [List.mem_cons, List.not_mem_nil, or_false] at hst
  rcases hst with rfl | rfl
  · obtain ⟨b, _, hb, _⟩ := h1.each x hx
    exact ⟨List.mem_append.2 (.inl (List.mem_map.2 ⟨x, hx, rfl⟩)), slot_colIn hb⟩
  · obtain ⟨b, _, hb, _⟩ := h2.each x hx
    exact ⟨List.mem_append.2 (.inr (List.mem_map.2 ⟨x, hx, rfl⟩)), slot_colIn hb⟩
/-- The state ahead of a call. -/
def prevSt (l : List (List G2)) (k : Nat) : List G2 := if k = 0 then [] else (l[k - 1]?).getD []
theorem plan_steps (p : Plan) : ∃ ys, S_plan_steps_1 p = some ys ∧ ys.length = p.States.length ∧ ∀ k y, ys[k]? = some y → y.1 = prevSt p.States k ∧ p.States[k]? = some y.2 := by
  have : Wp (S_plan_steps_1 p) (fun ys => ys.length = p.States.length ∧ ∀ k y, ys[k]? = some y → y.1 = prevSt p.States k ∧ p.States[k]? = some y.2) := by
    unfold S_plan_steps_1
    refine J3 (fun pre st => st.1 = prevSt p.States pre.length ∧ st.2.length = pre.length ∧ ∀ k y, st.2[k]? = some y → y.1 = prevSt p.States k ∧ p.States[k]? = some y.2) ⟨rfl, rfl, fun k y h => by simp at h⟩ (fun pre y post st nx e hI hnx => ?_) (fun st hI => Gt hI.2)
    obtain ⟨h1, h2, h3⟩ := hI
    have hy : p.States[pre.length]? = some y := by rw [e]; simp
    refine hnx _ ⟨?_, by simp [h2], fun k z hz => ?_⟩
    · show y = prevSt p.States (pre ++ [y]).length
      unfold prevSt
      rw [List.length_append, List.length_singleton, if_neg (by omega), Nat.add_sub_cancel, hy]; rfl
    · rw [List.getElem?_append] at hz
      split at hz
      · exact h3 k z hz
      · rename_i hk
        have hk0 : k - st.2.length = 0 := by
          have := (List.getElem?_eq_some_iff.1 hz).1
          simp only [List.length_singleton] at this; omega
        rw [hk0] at hz
        simp only [List.getElem?_cons_zero, Option.some.injEq] at hz
        subst hz
        have : k = pre.length := by omega
        subst this
        exact ⟨h1, hy⟩
  obtain ⟨ys, e, h⟩ := this
  exact ⟨ys, e, h⟩
theorem rightP_nil {s : Gz} {boxes : List Gp} : RightP s boxes [] := ⟨fun x hx => (List.not_mem_nil hx).elim, List.Pairwise.nil, List.Pairwise.nil, fun m c _ => by
  unfold FitsP heightI
  simp only [List.foldl_nil]
  omega⟩
theorem eq_of_sorted {a b : List Int} (ha : a.Pairwise (· < ·)) (hb : b.Pairwise (· < ·)) (h : ∀ x, x ∈ a ↔ x ∈ b) : a = b :=
  List.Perm.eq_of_pairwise (le := fun x y : Int => x < y) (fun x y _ _ h1 h2 => by omega) ha hb ((List.perm_ext_iff_of_nodup (sorted_nodup ha) (sorted_nodup hb)).2 h)
theorem slots_spec {s : Gz} (hs : Small s) (size : Int) : Wp (S_slot_slots_1 s size) (fun r => r.length ≤ 200 * s.Columns.length ∧ ∀ x ∈ r, SlotOk s x size) := by
  unfold S_slot_slots_1
  have hhl : (halvesL size).length ≤ 2 := by
    unfold halvesL
    split
    · simp
    · split <;> simp
  refine J3 (fun pre r => r.length ≤ 200 * pre.length ∧ ∀ x ∈ r, SlotOk s x size) ⟨by simp, fun x hx => (List.not_mem_nil hx).elim⟩ (fun pre c post r nx e hI hnx => ?_) (fun r hI => Gt hI)
  obtain ⟨h1, h2⟩ := hI
  have hc : s.Columns[pre.length]? = some c := by rw [e]; simp
  have ht := hs.tiers c (List.mem_of_getElem? hc)
  refine Qe (decide_eq_true (by omega)) ?_
  have htn : (max c.Tiers 0).toNat ≤ 100 := by omega
  refine wp_upto (fun i r' => r'.length ≤ r.length + 2 * i ∧ ∀ x ∈ r', SlotOk s x size) ⟨by simp, h2⟩ (fun i r' nx2 hi hI hnx2 => ?_) (fun r' hI => hnx _ ⟨?_, hI.2⟩)
  · refine Gw (slot_halves size) ?_
    refine J3 (fun pr r2 => r2.length = r'.length + pr.length ∧ ∀ x ∈ r2, SlotOk s x size) ⟨by simp, hI.2⟩ (fun pr h post2 r2 nx3 e2 hI2 hnx3 => hnx3 _ ⟨?_, fun x hx => ?_⟩) (fun r2 hI2 => hnx2 _ ⟨by have := hI.1; have := hI2.1; omega, hI2.2⟩)
    · simp only [List.length_append, List.length_singleton]; have := hI2.1; omega
    · rcases List.mem_append.1 hx with hx | hx
      · exact hI2.2 x hx
      · rw [List.mem_singleton] at hx; subst hx
        exact ⟨⟨pre.length, c, rfl, hc, by show (i : Int) < c.Tiers; omega⟩, by show (0 : Int) ≤ i; omega, by show h ∈ halvesL size; rw [e2]; simp⟩
  · have := hI.1
    simp only [List.length_append, List.length_singleton]; omega
theorem slot_all {s : Gz} (hs : Small s) (size : Int) : Wp (M_slot_All s size) (fun r => r.length ≤ 200 * s.Columns.length ∧ ∀ x ∈ r, SlotOk s x size) := by
  unfold M_slot_All
  refine Gw (show M_slot_slots s size = some () from rfl) ?_
  refine He (wp_mono (slots_spec hs size) (fun ys hys => ?_))
  have hc := hs.cols
  refine J3 (fun pre r => r = pre) rfl (fun pre y post r nx e hI hnx => ?_) (fun r hI => by subst hI; exact Gt hys)
  subst hI
  have hl : r.length < ys.length := by rw [e]; simp
  exact Qe (room_ok (by rw [List.length_singleton]; have := hys.1; omega) (by omega)) (hnx _ rfl)
/-- A state in the making, behind a call. -/
structure VInv (s : Gz) (boxes : List Gp) (k : Int) (l : List G2) : Prop where
  right : RightP s boxes l
  mem : ∀ x ∈ l, ∃ b ∈ boxes, b.ID = x.Gp ∧ abB k b = true
theorem VInv.nil {s : Gz} {boxes : List Gp} {k : Int} : VInv s boxes k [] := ⟨rightP_nil, fun x hx => (List.not_mem_nil hx).elim⟩
theorem VInv.len {s : Gz} {boxes : List Gp} {k : Int} {l : List G2} (h : VInv s boxes k l) : l.length ≤ boxes.length := by
  have h1 : (l.map (·.Gp)).Pairwise (· < ·) := List.pairwise_map.2 h.right.sorted
  have := (sorted_nodup h1).length_le_of_subset (l₂ := boxes.map (·.ID)) (fun a ha => by
    obtain ⟨x, hx, rfl⟩ := List.mem_map.1 ha
    obtain ⟨b, hb, e, _⟩ := h.mem x hx
    exact List.mem_map.2 ⟨b, hb, e⟩)
  rw [List.length_map, List.length_map] at this
  exact this
theorem try_spec {s : Gz} {boxes : List Gp} {calls k : Int} {l : List G2} {b : Gp} (x : Slot) (hs : Small s) (hb : BoxesOk calls boxes) (h : VInv s boxes k l) (hbm : b ∈ boxes) (hab : abB k b = true) :
    Wp (M_stow_Right s boxes (insSt l ⟨b.ID, x⟩)) (fun v => v = true → VInv s boxes k (insSt l ⟨b.ID, x⟩) ∧ b.ID ∈ (insSt l ⟨b.ID, x⟩).map (·.Gp) ∧ ∀ a ∈ l.map (·.Gp), a ∈ (insSt l ⟨b.ID, x⟩).map (·.Gp)) := by
  have hl := h.len
  have hbl := hb.len
  have hil := insSt_length l ⟨b.ID, x⟩
  refine wp_mono (stow_right hs.right hs.tier (by omega)) (fun v hv e => ⟨⟨hv.1 e, fun y hy => ?_⟩, List.mem_map.2 ⟨_, insSt_mem.2 (.inl rfl), rfl⟩, fun a ha => ?_⟩)
  · rcases insSt_mem.1 hy with rfl | ⟨hy, _⟩
    · exact ⟨b, hbm, rfl, hab⟩
    · exact h.mem y hy
  · obtain ⟨y, hy, rfl⟩ := List.mem_map.1 ha
    by_cases hyb : y.Gp = b.ID
    · exact List.mem_map.2 ⟨_, insSt_mem.2 (.inl rfl), hyb.symm⟩
    · exact List.mem_map.2 ⟨y, insSt_mem.2 (.inr ⟨hy, hyb⟩), rfl⟩
theorem VInv.done {s : Gz} {boxes : List Gp} {calls k : Int} {l : List G2} (hb : BoxesOk calls boxes) (h : VInv s boxes k l) (hall : ∀ b ∈ boxes, abB k b = true → b.ID ∈ l.map (·.Gp)) : StateOk s boxes k l := by
  refine ⟨h.right, eq_of_sorted (List.pairwise_map.2 h.right.sorted) (List.pairwise_map.2 (hb.sorted.filter _)) (fun a => ?_)⟩
  unfold aboardL
  constructor
  · intro ha
    obtain ⟨x, hx, rfl⟩ := List.mem_map.1 ha
    obtain ⟨b, hb1, e, hab⟩ := h.mem x hx
    exact List.mem_map.2 ⟨b, List.mem_filter.2 ⟨hb1, hab⟩, e⟩
  · intro ha
    obtain ⟨b, hb1, rfl⟩ := List.mem_map.1 ha
    obtain ⟨hb2, hab⟩ := List.mem_filter.1 hb1
    exact hall b hb2 hab
theorem voyage_spec {s : Gz} {boxes : List Gp} {home : Gr Int Int} {calls : Int} {F : Nat} (hs : Small s) (hb : BoxesOk calls boxes) (hh : ∀ a, 0 ≤ Gr.get home a 0 ∧ Gr.get home a 0 ≤ 1000) (hF : 60 ≤ F) :
    Wp (M_twistlocklaw23_voyage F s boxes home calls) (fun r => r.2.2 = home ∧ (r.2.1 = 0 → PlanOk s boxes calls r.1)) := by
  unfold M_twistlocklaw23_voyage
  have hnum := hb.num
  have hbl := hb.len
  have hcols := hs.cols
  refine Qe (decide_eq_true (by omega)) ?_
  refine wp_upto (fun i s6 => s6.1.length = i ∧ ∀ (k : Nat) l, s6.1[k]? = some l → StateOk s boxes k l) ⟨rfl, fun k l h => by simp at h⟩ (fun i s6 nx hi hI hnx => ?_) (fun s6 hI => Gt ⟨rfl, fun _ => ⟨by show (s6.1.length : Int) = calls; have := hI.1; omega, hI.2⟩⟩)
  refine Qe (by decide) ?_
  refine wp_upto (fun _ l => VInv s boxes i l) VInv.nil (fun t l nx2 ht hl hnx2 => ?_) (fun l hl => ?_)
  · refine J3 (fun _ l => VInv s boxes i l) hl (fun pre y post l nx3 e hl hnx3 => ?_) (fun l hl => hnx2 _ hl)
    have hy : y ∈ boxes := by rw [e]; simp
    refine wp_jp (fun j => VInv s boxes i j) (fun K hK => ?_) (fun j hj => hnx3 _ hj)
    refine Gw rfl (Hw (fun hc => ?_) (fun _ => hK _ hl))
    have hab : abB i y = true := by
      simp only [Bool.and_eq_true, decide_eq_true_eq] at hc
      unfold abB
      rw [decide_eq_true (by omega), decide_eq_true hc.2]; rfl
    have hll := hl.len
    exact Gw (law23_with l _ (by omega)) (He (wp_mono (try_spec _ hs hb hl hy hab) (fun r53 h53 => Hw (fun h => hK _ (h53 h).1) (fun _ => hK _ hl))))
  · refine J3 (fun pre l => VInv s boxes i l ∧ ∀ b ∈ pre, abB i b = true → b.ID ∈ l.map (·.Gp)) ⟨hl, fun b hb => (List.not_mem_nil hb).elim⟩ (fun pre y post l nx3 e hI3 hnx3 => ?_) (fun l hI3 => ?_)
    · obtain ⟨hl, hpre⟩ := hI3
      have hy : y ∈ boxes := by rw [e]; simp
      have hll := hl.len
      refine wp_jp (fun j => VInv s boxes i j ∧ ∀ b ∈ pre ++ [y], abB i b = true → b.ID ∈ j.map (·.Gp)) (fun K hK => ?_) (fun j hj => hnx3 _ hj)
      by_cases hab : abB i y = true
      · have hab' := hab
        unfold abB at hab'
        simp only [Bool.and_eq_true, decide_eq_true_eq] at hab'
        rw [decide_eq_false (show ¬ (i : Int) < y.Load by omega), decide_eq_false (show ¬ y.Discharge ≤ (i : Int) by omega)]
        simp only [Bool.or_self, Bool.not_false, cond_true, Bool.false_or]
        refine Gw (law23_holds l y.ID) (Hw (fun h => hK _ ⟨hl, fun b hb1 hb2 => ?_⟩) (fun h => ?_))
        · rcases List.mem_append.1 hb1 with hb1 | hb1
          · exact hpre b hb1 hb2
          · rw [List.mem_singleton] at hb1; subst hb1
            exact holdsB_iff.1 h
        · refine wp_loop (fun st : List G2 × Bool × Int => VInv s boxes i st.1 ∧ (∀ a ∈ l.map (·.Gp), a ∈ st.1.map (·.Gp)) ∧ (st.2.1 = true → y.ID ∈ st.1.map (·.Gp)) ∧ 0 ≤ st.2.2 ∧ st.2.2 ≤ (s.Columns.length : Int)) (fun st => s.Columns.length + 1 - st.2.2.toNat)
            ⟨hl, fun a ha => ha, fun h => (by cases h), Int.le_refl _, by simp⟩ (by show s.Columns.length + 1 - 0 < F; omega) (fun st nx4 hst hnx4 => ?_)
          obtain ⟨l1, done, turn⟩ := st
          obtain ⟨i1, i2, i3, i4, i5⟩ := hst
          simp only at i1 i2 i3 i4 i5 ⊢
          refine Hw (fun hc => ?_) (fun hc => ?_)
          · simp only [Bool.and_eq_true, decide_eq_true_eq, Bool.not_eq_true'] at hc
            obtain ⟨c1, rfl⟩ := hc
            refine wp_jp (fun j => VInv s boxes i j.1 ∧ (∀ a ∈ l.map (·.Gp), a ∈ j.1.map (·.Gp)) ∧ (j.2 = true → y.ID ∈ j.1.map (·.Gp))) (fun K' hK' => ?_) (fun j hj => ?_)
            · refine He (wp_mono (slot_all hs y.Size) (fun r72 _ => ?_))
              refine J3 (fun _ s99 => s99 = (l1, false)) rfl (fun pre2 x post2 s99 nx5 e2 hI5 hnx5 => ?_) (fun s99 hI5 => by subst hI5; exact hK' _ ⟨i1, i2, fun h => by cases h⟩)
              subst hI5
              have hl1 := i1.len
              refine Gw (law23_with l1 _ (by omega)) (Gw rfl ?_)
              have hg := hh y.ID
              refine Jk ⟨by omega, by omega⟩ (He (wp_rem (by omega) ?_))
              by_cases hcol : x.G5 = (Gr.get home y.ID 0 + turn).tmod (s.Columns.length : Int)
              · rw [decide_eq_true hcol]
                simp only [cond_true, Bool.true_and]
                refine He (wp_mono (try_spec x hs hb i1 hy hab) (fun r110 h110 => Hw (fun h => ?_) (fun _ => hnx5 _ rfl)))
                obtain ⟨g1, g2, g3⟩ := h110 h
                exact hK' _ ⟨g1, fun a ha => g3 a (i2 a ha), fun _ => g2⟩
              · rw [decide_eq_false hcol]
                simp only [cond_false, Bool.false_and]
                exact He (Gt (hnx5 _ rfl))
            · obtain ⟨j1, j2, j3⟩ := hj
              refine Jk ⟨by omega, by omega⟩ (hnx4 _ ⟨j1, j2, j3, by show 0 ≤ turn + 1; omega, by show turn + 1 ≤ s.Columns.length; omega⟩ ?_)
              show s.Columns.length + 1 - (turn + 1).toNat < s.Columns.length + 1 - turn.toNat
              omega
          · refine Hw (fun hd => Gt ⟨rfl, fun h0 => ?_⟩) (fun hd => hK _ ⟨i1, fun b hb1 hb2 => ?_⟩)
            · have := (hb.each y hy).id
              have h0' : y.ID = 0 := h0
              omega
            · rcases List.mem_append.1 hb1 with hb1 | hb1
              · exact i2 _ (hpre b hb1 hb2)
              · rw [List.mem_singleton] at hb1; subst hb1
                exact i3 (by simpa using hd)
      · have hK2 : VInv s boxes i l ∧ ∀ b ∈ pre ++ [y], abB i b = true → b.ID ∈ l.map (·.Gp) := ⟨hl, fun b hb1 hb2 => by
          rcases List.mem_append.1 hb1 with hb1 | hb1
          · exact hpre b hb1 hb2
          · rw [List.mem_singleton] at hb1; subst hb1; exact (hab hb2).elim⟩
        have hor : ((decide ((i : Int) < y.Load)) || (decide (y.Discharge ≤ (i : Int)))) = true := by
          unfold abB at hab
          simp only [Bool.and_eq_true, decide_eq_true_eq] at hab
          simp only [Bool.or_eq_true, decide_eq_true_eq]
          omega
        rw [hor]
        simp only [Bool.not_true, cond_false, Bool.true_or, cond_true]
        exact He (Gt (hK _ hK2))
    · obtain ⟨hl, hall⟩ := hI3
      have hst := hl.done hb hall
      refine J3 (fun _ _ => True) trivial (fun pre y post m nx4 e _ hnx4 => hnx4 _ trivial) (fun m _ => ?_)
      have hi' : i < 20 := by omega
      refine Qe (room_ok (by rw [List.length_singleton]; have := hI.1; omega) (by omega)) (hnx _ ⟨by simp [hI.1], fun k l' hk => ?_⟩)
      rw [List.getElem?_append] at hk
      split at hk
      · exact hI.2 k l' hk
      · rename_i hkl
        have hk0 : k - s6.1.length = 0 := by
          have := (List.getElem?_eq_some_iff.1 hk).1
          simp only [List.length_singleton] at this; omega
        rw [hk0] at hk
        simp only [List.getElem?_cons_zero, Option.some.injEq] at hk
        subst hk
        have : k = i := by have := hI.1; omega
        subst this
        exact hst
structure ItemOk (x : Hh) : Prop where
  column : Byte x.G5
  kilos : Byte x.Kilos
  load : Byte x.Load
  stay : Byte x.Stay
theorem Voyage_spec {s : Gz} {items : List Hh} {calls : Int} {F : Nat} (hs : Small s) (hi : ∀ x ∈ items, ItemOk x) (hc : 2 ≤ calls ∧ calls ≤ 6) (hF : 60 ≤ F) :
    Wp (M_twistlocklaw23_Voyage F s items calls 8) (fun r => BoxesOk calls r.1 ∧ PlanOk s r.1 calls r.2) := by
  unfold M_twistlocklaw23_Voyage
  have hcols := hs.cols
  refine He (wp_natIn (m := min items.length 8) (by omega) (by omega) ?_)
  have hl8 : (items.take (min items.length 8)).length ≤ 8 := by rw [List.length_take]; omega
  refine J3 (fun pre st => BoxesOk calls st.1 ∧ st.1.length = pre.length ∧ (∀ b ∈ st.1, b.ID ≤ 5 * (pre.length : Int)) ∧ ∀ a, 0 ≤ Gr.get st.2 a 0 ∧ Gr.get st.2 a 0 ≤ 1000)
    ⟨⟨by omega, by simp, fun b hb => (List.not_mem_nil hb).elim, List.Pairwise.nil⟩, rfl, fun b hb => (List.not_mem_nil hb).elim, fun a => by rw [amap_get_empty]; omega⟩ (fun pre y post st nx e hI hnx => ?_) (fun st hI => ?_)
  · obtain ⟨hb, hlen, hid, hhome⟩ := hI
    have hy : ItemOk y := hi y (List.mem_of_mem_take (by rw [e]; simp : y ∈ items.take (min items.length 8)))
    obtain ⟨⟨c1, c2⟩, ⟨k1, k2⟩, ⟨l1, l2⟩, ⟨t1, t2⟩⟩ := hy
    have hp : pre.length < 8 := by rw [e] at hl8; simp only [List.length_append, List.length_cons] at hl8; omega
    refine Jk ⟨by omega, by omega⟩ (Jk ⟨by omega, by omega⟩ (Jk ⟨by omega, by omega⟩ (Jk ⟨by omega, by omega⟩ (Jk ⟨by omega, by omega⟩ (Jk ⟨by omega, by omega⟩ ?_)))))
    refine He (wp_rem (by omega) ?_)
    have eL : y.Load.tmod (calls - 1) = y.Load % (calls - 1) := Int.tmod_eq_emod_of_nonneg l1
    rw [eL]
    have rL : 0 ≤ y.Load % (calls - 1) ∧ y.Load % (calls - 1) < calls - 1 := ⟨Int.emod_nonneg _ (by omega), Int.emod_lt_of_pos _ (by omega)⟩
    generalize y.Load % (calls - 1) = L at rL
    refine Jk ⟨by omega, by omega⟩ (Jk ⟨by omega, by omega⟩ (Jk ⟨by omega, by omega⟩ (Jk ⟨by omega, by omega⟩ ?_)))
    refine He (wp_rem (by omega) ?_)
    have eS : y.Stay.tmod (calls - 1 - L) = y.Stay % (calls - 1 - L) := Int.tmod_eq_emod_of_nonneg t1
    rw [eS]
    have rS : 0 ≤ y.Stay % (calls - 1 - L) ∧ y.Stay % (calls - 1 - L) < calls - 1 - L := ⟨Int.emod_nonneg _ (by omega), Int.emod_lt_of_pos _ (by omega)⟩
    generalize y.Stay % (calls - 1 - L) = T at rS
    refine Jk ⟨by omega, by omega⟩ ?_
    refine wp_jp (fun j : Int × Bool => j.1 = 40 ∨ (j.1 = 20 ∧ j.2 = false)) (fun K hK => Hw (fun _ => hK _ (.inr ⟨rfl, rfl⟩)) (fun _ => hK _ (.inl rfl))) (fun j hj => ?_)
    refine Jk ⟨by omega, by omega⟩ (He (wp_rem (by omega) ?_))
    have eC : y.G5.tmod (s.Columns.length : Int) = y.G5 % (s.Columns.length : Int) := Int.tmod_eq_emod_of_nonneg c1
    rw [eC]
    have rC : 0 ≤ y.G5 % (s.Columns.length : Int) ∧ y.G5 % (s.Columns.length : Int) < s.Columns.length := ⟨Int.emod_nonneg _ (by omega), Int.emod_lt_of_pos _ (by omega)⟩
    generalize y.G5 % (s.Columns.length : Int) = C at rC
    refine Qe (room_ok (by rw [List.length_singleton]; omega) (by omega)) (hnx _ ⟨⟨by omega, by simp only [List.length_append, List.length_singleton]; omega, fun b hb' => ?_, ?_⟩, by simp [hlen], fun b hb' => ?_, fun a => ?_⟩)
    · rcases List.mem_append.1 hb' with hb' | hb'
      · exact hb.each b hb'
      · rw [List.mem_singleton] at hb'; subst hb'
        exact ⟨⟨by simp only; omega, by simp only; omega⟩, hj, by simp only; omega, by simp only; omega, by simp only; omega⟩
    · refine pairwise_snoc hb.sorted (fun a ha => ?_)
      have := hid a ha
      simp only
      omega
    · rw [List.length_append, List.length_singleton]
      rcases List.mem_append.1 hb' with hb' | hb'
      · have := hid b hb'; omega
      · rw [List.mem_singleton] at hb'; subst hb'
        simp only; omega
    · rw [amap_get_put]
      split
      · omega
      · exact hhome a
  · obtain ⟨hb, hlen, _, hhome⟩ := hI
    have hbl := hb.len
    refine Jk ⟨by omega, by omega⟩ (Qe (decide_eq_true (by omega)) ?_)
    refine wp_upto (fun _ st => BoxesOk calls st.1 ∧ ∀ a, 0 ≤ Gr.get st.2 a 0 ∧ Gr.get st.2 a 0 ≤ 1000) ⟨hb, hhome⟩ (fun i st nx hi hI hnx => ?_) (fun st _ => ?_)
    · obtain ⟨hb, hhome⟩ := hI
      refine He (wp_mono (voyage_spec hs hb hhome hF) (fun r153 h153 => ?_))
      obtain ⟨g1, g2⟩ := h153
      refine Hw (fun h => Gt ⟨hb, g2 (of_decide_eq_true h)⟩) (fun _ => ?_)
      have hbl := hb.len
      refine J3 (fun pre l => l = pre.filter (fun b => decide (b.ID ≠ r153.2.1))) rfl (fun pre y post l nx2 e hl hnx2 => ?_) (fun l hl => ?_)
      · subst hl
        have hf := List.length_filter_le (fun b : Gp => decide (b.ID ≠ r153.2.1)) pre
        have hp : pre.length + 1 ≤ st.1.length := by rw [e]; simp
        refine wp_jp (fun j => j = (pre ++ [y]).filter (fun b => decide (b.ID ≠ r153.2.1))) (fun K hK => Hw (fun h => Qe (room_ok (by rw [List.length_singleton]; omega) (by omega)) (hK _ ?_)) (fun h => hK _ ?_)) (fun j hj => hnx2 _ hj)
        · rw [filter_snoc, h]; rfl
        · rw [filter_snoc, h]; simp
      · subst hl
        refine hnx _ ⟨⟨hb.num, ?_, fun b hb' => hb.each b (List.mem_filter.1 hb').1, hb.sorted.filter _⟩, by rw [g1]; exact hhome⟩
        have := List.length_filter_le (fun b : Gp => decide (b.ID ≠ r153.2.1)) st.1
        show (st.1.filter (fun b => decide (b.ID ≠ r153.2.1))).length ≤ 8
        omega
    · obtain ⟨m, hm⟩ : ∃ m : Nat, calls = (m : Int) := ⟨calls.toNat, by omega⟩
      have hno : natOf calls = some m := by
        unfold natOf
        rw [decide_eq_true (by omega), hm]
        rfl
      refine Gw hno (Qe (decide_eq_true ⟨by omega, Nat.le_trans (show m ≤ 6 by omega) (by decide), by omega⟩) (Gt ⟨⟨by omega, by simp, fun b hb => (List.not_mem_nil hb).elim, List.Pairwise.nil⟩, by simp [hm], fun k l hk => ?_⟩))
      have : l = [] := by
        have := List.mem_of_getElem? hk
        exact List.eq_of_mem_replicate this
      subst this
      exact ⟨rightP_nil, rfl⟩
/-- y stands on deck upon the cover that x stands under. -/
def upon (s : Gz) (x y : Slot) : Prop := ∃ (m : Nat) (c : G5) (m1 : Nat) (c1 : G5), x.G5 = (m : Int) ∧ s.Columns[m]? = some c ∧ y.G5 = (m1 : Int) ∧ s.Columns[m1]? = some c1 ∧ c.Deck = false ∧ c1.Deck = true ∧ 0 ≤ coverOf s c ∧ coverOf s c1 = coverOf s c
def PullsIn (s : Gz) (states : List (List G2)) (st : List G2) (a b : Int) : Prop :=
  (findP st a).2 = true ∧ ((∃ y ∈ st, y.Gp = b ∧ OverP y.Slot (findP st a).1) ∨ ∃ st2 ∈ states, ∃ y ∈ st2, y.Gp = b ∧ upon s (findP st a).1 y.Slot)
/-- To lift a, b has to be lifted. -/
def Pulls (s : Gz) (states : List (List G2)) (a b : Int) : Prop := ∃ st ∈ states, PullsIn s states st a b
structure Grown (s : Gz) (U : List Int) (states : List (List G2)) (l : List Int) (id : Int) (m : Gr Int Unit) (l' : List Int) : Prop where
  inv : LInv U m l'
  sub : ∀ a ∈ l, a ∈ l'
  has : id ∈ l'
  closed : ∀ a ∈ l', a ∉ l → ∀ b, Pulls s states a b → b ∈ l'
  least : ∀ C : Int → Prop, (∀ a b, C a → Pulls s states a b → C b) → (∀ a ∈ l, C a) → C id → ∀ a ∈ l', C a
structure Rch (s : Gz) (U : List Int) (states : List (List G2)) (l : List Int) (id : Int) (m : Gr Int Unit) (l' : List Int) : Prop where
  inv : LInv U m l'
  sub : ∀ a ∈ l ++ [id], a ∈ l'
  closed : ∀ a ∈ l', a ∉ l → a ≠ id → ∀ b, Pulls s states a b → b ∈ l'
  least : ∀ C : Int → Prop, (∀ a b, C a → Pulls s states a b → C b) → (∀ a ∈ l, C a) → C id → ∀ a ∈ l', C a
section
variable {s : Gz} {U : List Int} {states : List (List G2)} {l l' l2 : List Int} {id y : Int} {m m2 : Gr Int Unit}
theorem Rch.start (h : LInv U m (l ++ [id])) : Rch s U states l id m (l ++ [id]) :=
  ⟨h, fun a ha => ha, fun a ha h1 h2 => by
    rcases List.mem_append.1 ha with ha | ha
    · exact (h1 ha).elim
    · exact (h2 (List.mem_singleton.1 ha)).elim, fun C _ hl hid a ha => by
    rcases List.mem_append.1 ha with ha | ha
    · exact hl a ha
    · exact List.mem_singleton.1 ha ▸ hid⟩
theorem Rch.step (h : Rch s U states l id m l') (hp : Pulls s states id y) (g : Grown s U states l' y m2 l2) : Rch s U states l id m2 l2 ∧ (∀ a ∈ l', a ∈ l2) ∧ y ∈ l2 :=
  ⟨⟨g.inv, fun a ha => g.sub a (h.sub a ha), fun a ha h1 h2 b hb => by
    by_cases hal : a ∈ l'
    · exact g.sub b (h.closed a hal h1 h2 b hb)
    · exact g.closed a ha hal b hb, fun C hc hl hid => g.least C hc (h.least C hc hl hid) (hc id y hid hp)⟩, g.sub, g.has⟩
end
theorem mem_snoc {α : Type} {P : α → Prop} {l : List α} {x : α} (h1 : ∀ y ∈ l, P y) (h2 : P x) : ∀ y ∈ l ++ [x], P y := fun y hy => by
  rcases List.mem_append.1 hy with hy | hy
  · exact h1 y hy
  · exact List.mem_singleton.1 hy ▸ h2
theorem add_full {s : Gz} {U : List Int} {states : List (List G2)} (hs : StatesOk s U states) : ∀ (F : Nat) (id : Int) (m : Gr Int Unit) (l : List Int), LInv U m l → id ∈ U → U.length + 1 ≤ F + l.length →
    Wp (M_plan_lifted_1 F id m l states s) (fun r => Grown s U states l id r.1 r.2) := by
  intro F
  induction F with
  | zero => intro id m l hi _ hF; have := hi.le; omega
  | succ F ih =>
    intro id m l hi hid hF
    show Wp (B_plan_lifted_1 (M_plan_lifted_1 F) F id m l states s) _
    unfold B_plan_lifted_1
    refine Gw (set_add m id) ?_
    rw [hi.has]
    by_cases hmem : id ∈ l
    · rw [if_pos (decide_eq_true hmem)]
      exact Hw (fun _ => Gt ⟨hi, fun a ha => ha, hmem, fun a ha hn => (hn ha).elim, fun C _ hl _ a ha => hl a ha⟩) (fun h => by cases h)
    rw [if_neg (by rw [decide_eq_false hmem]; exact Bool.false_ne_true)]
    refine Hw (fun h => by cases h) (fun _ => ?_)
    have hle := hi.le
    have hlen := hs.len
    have h1 := hi.snoc hmem hid
    have h1le := h1.le
    have hl1 : (l ++ [id]).length = l.length + 1 := by simp
    refine Qe (room_ok (by rw [List.length_singleton]; omega) (by omega)) ?_
    have again : ∀ (y : G2) (st : List G2) (m' : Gr Int Unit) (l' : List Int), st ∈ states → y ∈ st → Rch s U states l id m' l' → Pulls s states id y.Gp →
        Wp (M_plan_lifted_1 F y.Gp m' l' states s) (fun r => Rch s U states l id r.1 r.2 ∧ (∀ a ∈ l', a ∈ r.2) ∧ y.Gp ∈ r.2) :=
      fun y st m' l' h2 h3 h4 h5 => wp_mono (ih y.Gp m' l' h4.inv (hs.each st h2 y h3).1 (by
        have := h1.nodup.length_le_of_subset (fun a ha => h4.sub a ha)
        omega)) (fun r hr => h4.step h5 hr)
    have hcov : ∀ {k : Nat} {c : G5}, s.Columns[k]? = some c → M_ship_CoverOf s (k : Int) = some (coverOf s c) := fun hc => ship_coverOf hc (fun x hx => by have := hs.small.rows x hx; omega) (by have := hs.small.covs; omega)
    refine J3 (fun pre s7 => Rch s U states l id s7.1 s7.2 ∧ ∀ st ∈ pre, ∀ b, PullsIn s states st id b → b ∈ s7.2) ⟨.start h1, fun st h => (List.not_mem_nil h).elim⟩ (fun pre st post s7 nx e hI hnx => ?_) (fun s7 hI => Gt ?_)
    · have hst : st ∈ states := by rw [e]; simp
      obtain ⟨hR, hD⟩ := hI
      refine wp_jp (fun j => Rch s U states l id j.1 j.2 ∧ (∀ a ∈ s7.2, a ∈ j.2) ∧ ∀ b, PullsIn s states st id b → b ∈ j.2) (fun K hK => ?_) (fun j hj => hnx _ ⟨hj.1, mem_snoc (fun st' h' b hb => hj.2.1 _ (hD st' h' b hb)) hj.2.2⟩)
      refine Gw (plan_find st id) (Hw (fun hf => hK _ ⟨hR, fun a ha => ha, fun b hb => ?_⟩) (fun hf => ?_))
      · rw [hb.1] at hf; cases hf
      have hft : (findP st id).2 = true := by simpa using hf
      obtain ⟨x, hx, _, hxs⟩ := findP_mem hft
      obtain ⟨m0, c0, hm0, hc0⟩ := (hs.each st hst x hx).2
      rw [hxs]
      refine wp_jp (fun j17 => j17 = if c0.Deck = true then -1 else coverOf s c0) (fun K' hK' => wp_gidx hm0 hc0 (Hw (fun hd => ?_) (fun hd => hK' _ (by
        rw [if_pos (by simpa using hd)])))) (fun j17 h17 => ?_)
      · rw [hm0]
        exact Gw (hcov hc0) (hK' _ (by rw [if_neg (by simpa using hd)]))
      refine J3 (fun pre s56 => Rch s U states l id s56.1 s56.2 ∧ (∀ a ∈ s7.2, a ∈ s56.2) ∧ ∀ y ∈ pre, OverP y.Slot x.Slot → y.Gp ∈ s56.2) ⟨hR, fun a ha => ha, fun y h => (List.not_mem_nil h).elim⟩ (fun pre y post s56 nx e hI hnx => ?_) (fun s56 hI => ?_)
      · have hy : y ∈ st := by rw [e]; simp
        obtain ⟨i1, i2, i3⟩ := hI
        refine wp_jp (fun j => Rch s U states l id j.1 j.2 ∧ (∀ a ∈ s56.2, a ∈ j.2) ∧ (OverP y.Slot x.Slot → y.Gp ∈ j.2)) (fun K' hK' => ?_) (fun j hj => hnx _ ⟨hj.1, fun a ha => hj.2.1 a (i2 a ha), mem_snoc (fun y' h' ho => hj.2.1 _ (i3 y' h' ho)) hj.2.2⟩)
        refine He (wp_mono (slot_over y.Slot x.Slot) (fun r62 h62 => Hw (fun hr => ?_) (fun hr => hK' _ ⟨i1, fun a ha => ha, fun ho => ?_⟩)))
        · exact He (wp_mono (again y st _ _ hst hy i1 ⟨st, hst, hft, .inl ⟨y, hy, rfl, by rw [hxs]; exact h62.1 hr⟩⟩) (fun r hr => hK' _ ⟨hr.1, hr.2.1, fun _ => hr.2.2⟩))
        · rw [h62.2 ho] at hr; cases hr
      · obtain ⟨i1, i2, i3⟩ := hI
        refine J3 (fun pre s65 => Rch s U states l id s65.1 s65.2 ∧ (∀ a ∈ s56.2, a ∈ s65.2) ∧ ∀ st2 ∈ pre, ∀ y ∈ st2, upon s x.Slot y.Slot → y.Gp ∈ s65.2) ⟨i1, fun a ha => ha, fun st2 h => (List.not_mem_nil h).elim⟩ (fun pre st2 post s65 nx e hI hnx => ?_) (fun s65 hI => hK _ ⟨hI.1, fun a ha => hI.2.1 a (i2 a ha), fun b hb => ?_⟩)
        · obtain ⟨j1, j2, j3⟩ := hI
          have hst2 : st2 ∈ states := by rw [e]; simp
          refine J3 (fun pre s107 => Rch s U states l id s107.1 s107.2 ∧ (∀ a ∈ s65.2, a ∈ s107.2) ∧ ∀ y ∈ pre, upon s x.Slot y.Slot → y.Gp ∈ s107.2) ⟨j1, fun a ha => ha, fun y h => (List.not_mem_nil h).elim⟩ (fun pre y post s107 nx2 e hI hnx2 => ?_) (fun s107 hI => hnx _ ⟨hI.1, fun a ha => hI.2.1 a (j2 a ha), mem_snoc (fun st' h' y hy hu => hI.2.1 _ (j3 st' h' y hy hu)) hI.2.2⟩)
          obtain ⟨k1, k2, k3⟩ := hI
          have hy : y ∈ st2 := by rw [e]; simp
          obtain ⟨m1, c1, hm1, hc1⟩ := (hs.each st2 hst2 y hy).2
          have hup : upon s x.Slot y.Slot ↔ (0 ≤ j17 ∧ c1.Deck = true ∧ coverOf s c1 = j17) := by
            constructor
            · rintro ⟨n0, d0, n1, d1, e1, e2, e3, e4, q1, q2, q3, q4⟩
              have e5 : n0 = m0 := by omega
              have e6 : n1 = m1 := by omega
              subst e5 e6
              rw [hc0] at e2; cases e2
              rw [hc1] at e4; cases e4
              rw [if_neg (by rw [q1]; exact Bool.false_ne_true)] at h17
              rw [h17]
              exact ⟨q3, q2, q4⟩
            · rintro ⟨q1, q2, q3⟩
              by_cases hd : c0.Deck = true
              · rw [if_pos hd] at h17; omega
              · rw [if_neg hd] at h17
                exact ⟨m0, c0, m1, c1, hm0, hc0, hm1, hc1, by simpa using hd, q2, by omega, by omega⟩
          refine wp_jp (fun j => Rch s U states l id j.1 j.2 ∧ (∀ a ∈ s107.2, a ∈ j.2) ∧ (upon s x.Slot y.Slot → y.Gp ∈ j.2)) (fun K' hK' => ?_) (fun j hj => hnx2 _ ⟨hj.1, fun a ha => hj.2.1 a (k2 a ha), mem_snoc (fun y' h' ho => hj.2.1 _ (k3 y' h' ho)) hj.2.2⟩)
          by_cases hj : 0 ≤ j17
          · rw [decide_eq_true hj]
            simp only [cond_true, Bool.true_and]
            refine He (wp_gidx hm1 hc1 (Gt ?_))
            cases hd : c1.Deck with
            | true =>
              simp only [cond_true, Bool.true_and]
              rw [hm1]
              refine Gw (hcov hc1) (Hw (fun hc => ?_) (fun hc => hK' _ ⟨k1, fun a ha => ha, fun hu => ?_⟩))
              · exact He (wp_mono (again y st2 _ _ hst2 hy k1 ⟨st, hst, hft, .inr ⟨st2, hst2, y, hy, rfl, by rw [hxs]; exact hup.2 ⟨hj, hd, of_decide_eq_true hc⟩⟩⟩) (fun r hr => hK' _ ⟨hr.1, hr.2.1, fun _ => hr.2.2⟩))
              · exact (of_decide_eq_false hc (hup.1 hu).2.2).elim
            | false =>
              simp only [cond_false, Bool.false_and]
              exact He (Gt (hK' _ ⟨k1, fun a ha => ha, fun hu => by have := (hup.1 hu).2.1; rw [hd] at this; cases this⟩))
          · rw [decide_eq_false hj]
            simp only [cond_false, Bool.false_and]
            exact He (Gt (He (Gt (hK' _ ⟨k1, fun a ha => ha, fun hu => (hj (hup.1 hu).1).elim⟩))))
        · rcases hb.2 with ⟨y, hy, rfl, ho⟩ | ⟨st2, h2, y, hy, rfl, hu⟩
          · exact hI.2.1 _ (i3 y hy (by rw [← hxs]; exact ho))
          · exact hI.2.2 st2 h2 y hy (by rw [← hxs]; exact hu)
    · obtain ⟨hR, hD⟩ := hI
      refine ⟨hR.inv, fun a ha => hR.sub a (List.mem_append.2 (.inl ha)), hR.sub id (by simp), fun a ha hn b hb => ?_, hR.least⟩
      by_cases e : a = id
      · subst e
        obtain ⟨st, hst, hp⟩ := hb
        exact hD st hst b hp
      · exact hR.closed a ha hn e b hb
structure Least (s : Gz) (before after : List G2) (l : List Int) : Prop where
  seeds : ∀ st ∈ [before, after], ∀ y ∈ st, findP before y.Gp ≠ findP after y.Gp → y.Gp ∈ l
  closed : ∀ a ∈ l, ∀ b, Pulls s [before, after] a b → b ∈ l
  least : ∀ C : Int → Prop, (∀ a b, C a → Pulls s [before, after] a b → C b) → (∀ st ∈ [before, after], ∀ y ∈ st, findP before y.Gp ≠ findP after y.Gp → C y.Gp) → ∀ a ∈ l, C a
theorem Least.perm {s : Gz} {before after : List G2} {l l' : List Int} (h : Least s before after l) (hp : ∀ a, a ∈ l' ↔ a ∈ l) : Least s before after l' :=
  ⟨fun st hst y hy hne => (hp _).2 (h.seeds st hst y hy hne), fun a ha b hb => (hp b).2 (h.closed a ((hp a).1 ha) b hb), fun C hc hl a ha => h.least C hc hl a ((hp a).1 ha)⟩
theorem differ {p q : Slot × Bool} : ((!(p.2 == q.2)) || (!decide (p.1 = q.1))) = true ↔ p ≠ q := by
  obtain ⟨p1, p2⟩ := p
  obtain ⟨q1, q2⟩ := q
  simp only [Bool.or_eq_true, Bool.not_eq_true', beq_eq_false_iff_ne, decide_eq_false_iff_not, ne_eq, Prod.mk.injEq, not_and]
  constructor
  · rintro (h | h) h1 h2
    · exact h h2
    · exact h h1
  · intro h
    by_cases e : p1 = q1
    · exact .inl (h e)
    · exact .inr e
theorem lifted_full {s : Gz} {U : List Int} {before after : List G2} (hs : StatesOk s U [before, after]) {F : Nat} (hF : U.length + 1 ≤ F) :
    Wp (Q3 F s before after) (fun r => r.Pairwise (· < ·) ∧ (∀ a ∈ r, a ∈ U) ∧ Least s before after r) := by
  unfold Q3
  have go : ∀ {m : Gr Int Unit} {l : List Int} {y : G2} {st : List G2} {m2 : Gr Int Unit} {l2 : List Int}, st ∈ [before, after] → y ∈ st → findP before y.Gp ≠ findP after y.Gp →
      (LInv U m l ∧ (∀ a ∈ l, ∀ b, Pulls s [before, after] a b → b ∈ l) ∧ ∀ C : Int → Prop, (∀ a b, C a → Pulls s [before, after] a b → C b) → (∀ st ∈ [before, after], ∀ y ∈ st, findP before y.Gp ≠ findP after y.Gp → C y.Gp) → ∀ a ∈ l, C a) →
      Grown s U [before, after] l y.Gp m2 l2 →
      (LInv U m2 l2 ∧ (∀ a ∈ l2, ∀ b, Pulls s [before, after] a b → b ∈ l2) ∧ ∀ C : Int → Prop, (∀ a b, C a → Pulls s [before, after] a b → C b) → (∀ st ∈ [before, after], ∀ y ∈ st, findP before y.Gp ≠ findP after y.Gp → C y.Gp) → ∀ a ∈ l2, C a) :=
    fun {m l y st m2 l2} hst hy hne hI g => ⟨g.inv, fun a ha b hb => by
      by_cases hal : a ∈ l
      · exact g.sub b (hI.2.1 a hal b hb)
      · exact g.closed a ha hal b hb, fun C hc hl => g.least C hc (hI.2.2 C hc hl) (hl st hst y hy hne)⟩
  refine J3 (fun pre s9 => (LInv U s9.1 s9.2 ∧ (∀ a ∈ s9.2, ∀ b, Pulls s [before, after] a b → b ∈ s9.2) ∧ ∀ C : Int → Prop, (∀ a b, C a → Pulls s [before, after] a b → C b) → (∀ st ∈ [before, after], ∀ y ∈ st, findP before y.Gp ≠ findP after y.Gp → C y.Gp) → ∀ a ∈ s9.2, C a) ∧
      ∀ st ∈ pre, ∀ y ∈ st, findP before y.Gp ≠ findP after y.Gp → y.Gp ∈ s9.2)
    ⟨⟨.start, fun a h => (List.not_mem_nil h).elim, fun C _ _ a h => (List.not_mem_nil h).elim⟩, fun st h => (List.not_mem_nil h).elim⟩ (fun pre st post s9 nx e hI hnx => ?_) (fun s9 hI => ?_)
  · have hst : st ∈ [before, after] := by rw [e]; simp
    obtain ⟨hA, hB⟩ := hI
    refine J3 (fun pre s59 => (LInv U s59.1 s59.2 ∧ (∀ a ∈ s59.2, ∀ b, Pulls s [before, after] a b → b ∈ s59.2) ∧ ∀ C : Int → Prop, (∀ a b, C a → Pulls s [before, after] a b → C b) → (∀ st ∈ [before, after], ∀ y ∈ st, findP before y.Gp ≠ findP after y.Gp → C y.Gp) → ∀ a ∈ s59.2, C a) ∧
        (∀ a ∈ s9.2, a ∈ s59.2) ∧ ∀ y ∈ pre, findP before y.Gp ≠ findP after y.Gp → y.Gp ∈ s59.2)
      ⟨hA, fun a ha => ha, fun y h => (List.not_mem_nil h).elim⟩ (fun pre y post s59 nx2 e hI hnx2 => ?_) (fun s59 hI => hnx _ ⟨hI.1, mem_snoc (fun st' h' y hy hne => hI.2.1 _ (hB st' h' y hy hne)) hI.2.2⟩)
    have hy : y ∈ st := by rw [e]; simp
    obtain ⟨j1, j2, j3⟩ := hI
    refine wp_jp (fun j => (LInv U j.1 j.2 ∧ (∀ a ∈ j.2, ∀ b, Pulls s [before, after] a b → b ∈ j.2) ∧ ∀ C : Int → Prop, (∀ a b, C a → Pulls s [before, after] a b → C b) → (∀ st ∈ [before, after], ∀ y ∈ st, findP before y.Gp ≠ findP after y.Gp → C y.Gp) → ∀ a ∈ j.2, C a) ∧
        (∀ a ∈ s59.2, a ∈ j.2) ∧ (findP before y.Gp ≠ findP after y.Gp → y.Gp ∈ j.2)) (fun K hK => ?_) (fun j hj => hnx2 _ ⟨hj.1, fun a ha => hj.2.1 a (j2 a ha), mem_snoc (fun y' h' ho => hj.2.1 _ (j3 y' h' ho)) hj.2.2⟩)
    refine Gw (plan_find before y.Gp) (Gw (plan_find after y.Gp) (Hw (fun hd => ?_) (fun hd => hK _ ⟨j1, fun a ha => ha, fun hne => ?_⟩)))
    · have hne := differ.1 hd
      exact He (wp_mono (add_full hs F y.Gp _ _ j1.1 (hs.each st hst y hy).1 (by omega)) (fun r hr => hK _ ⟨go hst hy hne j1 hr, hr.sub, fun _ => hr.has⟩))
    · rw [differ.2 hne] at hd; cases hd
  · obtain ⟨⟨hA, hB, hC⟩, hD⟩ := hI
    have h1 := hA.le
    have h2 := hs.len
    have hse : sortIM s9.2 = some (sortI s9.2) := by
      unfold sortIM
      rw [decide_eq_true (show s9.2.length < 4611686018427387904 by omega)]
      rfl
    have hp := sortI_perm s9.2
    refine Gw hse (Gt ⟨?_, fun a ha => hA.sub a (hp.mem_iff.1 ha), Least.perm ⟨hD, hB, hC⟩ (fun a => hp.mem_iff)⟩)
    have hn : (sortI s9.2).Nodup := hp.nodup_iff.2 hA.nodup
    exact (List.pairwise_and_iff.2 ⟨sortI_sorted s9.2, hn⟩).imp (fun {a b} h => by have h1 := h.1; have h2 := h.2; omega)
theorem mem_swap {α : Type} {a b x : α} (h : x ∈ [a, b]) : x ∈ [b, a] := by
  simp only [List.mem_cons, List.not_mem_nil, or_false] at h ⊢
  exact h.symm
theorem Pulls.swap {s : Gz} {a b : List G2} {x y : Int} (h : Pulls s [a, b] x y) : Pulls s [b, a] x y := by
  obtain ⟨st, hst, h1, h2⟩ := h
  exact ⟨st, mem_swap hst, h1, h2.imp _root_.id (fun ⟨st2, h3, h4⟩ => ⟨st2, mem_swap h3, h4⟩)⟩
theorem Least.le {s : Gz} {before after : List G2} {l l' : List Int} (h : Least s before after l) (h' : Least s after before l') : ∀ a ∈ l, a ∈ l' :=
  h.least (· ∈ l') (fun a b ha hb => h'.closed a ha b hb.swap) (fun st hst y hy hne => h'.seeds st (mem_swap hst) y hy (fun e => hne e.symm))
section
variable {s : Gz} {boxes : List Gp} {before after : List G2} {r : List Int}
end
theorem lifted_law {s : Gz} {boxes : List Gp} {before after : List G2} {F : Nat} (hs : Small s) (h1 : RightP s boxes before) (h2 : RightP s boxes after) (l1 : before.length ≤ 9) (l2 : after.length ≤ 9) (hF : 60 ≤ F) :
    Wp (Qh F s boxes before after) (fun r => r.2 = 0 ∧ r.1.Pairwise (· < ·) ∧ (∀ a ∈ r.1, a ∈ before.map (·.Gp) ++ after.map (·.Gp)) ∧ Least s before after r.1) := by
  unfold Qh
  refine He (wp_mono (stow_right hs.right hs.tier (by omega)) (fun r4 h4 => ?_))
  rw [h4.2 h1]
  simp only [Bool.not_true, Bool.not_false, cond_true, Bool.false_or]
  refine He (wp_mono (stow_right hs.right hs.tier (by omega)) (fun r5 h5 => ?_))
  rw [h5.2 h2]
  simp only [Bool.not_true, cond_false]
  exact He (wp_mono (lifted_full (states_ok hs h1 h2 (by omega) (by omega)) (by simp only [List.length_append, List.length_map]; omega)) (fun r hr => Gt ⟨rfl, hr⟩))
end Go.Proofs.YtkfhfoljfbjknaaGreat
