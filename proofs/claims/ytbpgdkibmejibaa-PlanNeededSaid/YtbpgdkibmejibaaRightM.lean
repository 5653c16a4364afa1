/-
  What stow.Right says, in plain words.
-/
import Derived.Test.YtbpgdkibmejibaaRightL
set_option maxRecDepth 100000
namespace Go.Proofs.Ytbpgdkibmejibaa
open Go.RowKit

structure RightP (s : Ship) (boxes : List Box) (l : List Stowed) : Prop where
  each : ∀ x ∈ l, ∃ b, findBox boxes x.Box = some b ∧ SlotOk s x.Slot b.Size ∧ HeldP x.Slot (l.map (·.Slot))
  sorted : l.Pairwise (fun a b => a.Box < b.Box)
  apart : l.Pairwise (fun a b => ¬ MeetP b.Slot a.Slot)
  fits : ∀ m c, s.Columns[m]? = some c → FitsP boxes l m c

theorem pairwise_snoc {α : Type} {R : α → α → Prop} {l : List α} {x : α} (h : l.Pairwise R) (hx : ∀ a ∈ l, R a x) : (l ++ [x]).Pairwise R := by
  rw [List.pairwise_append]
  refine ⟨h, List.pairwise_singleton .., fun a ha b hb => ?_⟩
  rw [List.mem_singleton] at hb; subst hb
  exact hx a ha
theorem pairwise_mid {α : Type} {R : α → α → Prop} {pre post : List α} {y : α} (h : (pre ++ y :: post).Pairwise R) : ∀ a ∈ pre, R a y := fun a ha => (List.pairwise_append.1 h).2.2 a ha y (List.mem_cons_self ..)

theorem stow_right {s : Ship} {boxes : List Box} {l : List Stowed} (hr : S_ship_Right s = some true) (ht : ∀ c ∈ s.Columns, c.Tiers ≤ 1000000) (hl : l.length ≤ 1000000) : Wp (M_stow_Right s boxes l) (fun r => r = true ↔ RightP s boxes l) := by
  unfold M_stow_Right
  refine wp_bnd_eq hr (wp_bif (fun h => by cases h) (fun _ => ?_))
  refine wp_bnd_eq (stow_taken l hl) ?_
  refine wp_each (fun pre _ => (∀ x ∈ pre, ∃ b, findBox boxes x.Box = some b ∧ SlotOk s x.Slot b.Size ∧ HeldP x.Slot (l.map (·.Slot))) ∧ pre.Pairwise (fun a b => a.Box < b.Box) ∧ pre.Pairwise (fun a b => ¬ MeetP b.Slot a.Slot))
    ⟨fun x hx => (List.not_mem_nil hx).elim, List.Pairwise.nil, List.Pairwise.nil⟩ (fun pre y post u nx e hI hnx => ?_) (fun u hI => ?_)
  · obtain ⟨i1, i2, i3⟩ := hI
    have hlen : pre.length < l.length := by rw [e]; simp
    have hy : y ∈ l := by rw [e]; simp
    have no : ∀ {m : Option Bool}, m = some false → ¬ RightP s boxes l → Wp m (fun r => r = true ↔ RightP s boxes l) := fun e h => by subst e; exact wp_some ⟨fun e => (by cases e), fun e => (h e).elim⟩
    refine wp_bnd_eq (stow_find boxes y.Box) ?_
    cases hf : findBox boxes y.Box with
    | none =>
      simp only [Bool.not_false, Bool.not_true, Bool.false_and, cond_false, Bool.true_or, cond_true]
      refine wp_bnd (wp_some (wp_bnd (wp_some (wp_bnd (wp_some (wp_bnd (wp_some (no rfl fun h => ?_))))))))
      obtain ⟨b, hb, _⟩ := h.each y hy
      rw [hf] at hb; cases hb
    | some b =>
      simp only [Bool.not_true, Bool.not_false, Bool.true_and, Bool.false_or]
      -- the order
      have hprev : Wp (bif decide (0 < (pre.length : Int)) then chk ((pre.length : Int) - 1) some else some 0) (fun v => Wp (bif decide (0 < (pre.length : Int)) then gidx l v some else some default) (fun y20 =>
          ((decide (0 < (pre.length : Int)) && decide (y.Box ≤ y20.Box)) = true → ¬ RightP s boxes l) ∧ ((decide (0 < (pre.length : Int)) && decide (y.Box ≤ y20.Box)) = false → ∀ a ∈ pre, a.Box < y.Box))) := by
        rcases List.eq_nil_or_concat pre with hp | ⟨pre', z, hp⟩
        · subst hp
          simp only [List.length_nil]
          exact wp_some (wp_some ⟨fun h => by simp at h, fun _ a ha => (List.not_mem_nil ha).elim⟩)
        · have hp' : pre = pre' ++ [z] := by simpa using hp
          have hpl : pre.length = pre'.length + 1 := by rw [hp']; simp
          have hd : decide (0 < (pre.length : Int)) = true := decide_eq_true (by omega)
          have hz : l[pre'.length]? = some z := by rw [e, hp']; simp
          rw [hd]
          simp only [cond_true, Bool.true_and]
          refine wp_chk ⟨by omega, by omega⟩ (wp_some (wp_gidx (m := pre'.length) (by omega) hz (wp_some ⟨fun h hR => ?_, fun h a ha => ?_⟩)))
          · have := of_decide_eq_true h
            have hs := hR.sorted
            rw [e] at hs
            have := pairwise_mid hs z (by rw [hp']; simp)
            omega
          · have hzy : ¬ y.Box ≤ z.Box := of_decide_eq_false h
            rw [hp'] at ha
            rcases List.mem_append.1 ha with ha | ha
            · have := pairwise_mid (hp' ▸ i2 : (pre' ++ z :: []).Pairwise _) a ha
              omega
            · rw [List.mem_singleton] at ha; subst ha; omega
      refine wp_bnd (wp_mono hprev (fun v hv => wp_bnd (wp_mono hv (fun y20 h20 => ?_))))
      obtain ⟨n1, n2⟩ := h20
      generalize (decide (0 < (pre.length : Int)) && decide (y.Box ≤ y20.Box)) = c at n1 n2
      cases c with
      | true =>
        simp only [Bool.not_true, cond_false, Bool.true_or, cond_true]
        exact wp_bnd (wp_some (wp_bnd (wp_some (no rfl (n1 rfl)))))
      | false =>
        simp only [Bool.not_false, cond_true, Bool.false_or]
        have hsort := n2 rfl
        refine wp_bnd (wp_mono (slot_right s y.Slot b.Size) (fun r21 h21 => ?_))
        cases r21 with
        | false =>
          simp only [Bool.not_false, Bool.not_true, cond_false, Bool.true_or, cond_true]
          refine wp_bnd (wp_some (no rfl fun h => ?_))
          obtain ⟨b', hb, hs, _⟩ := h.each y hy
          rw [hf] at hb; cases hb
          have := h21.2 hs; cases this
        | true =>
          have hslot := h21.1 rfl
          simp only [Bool.not_true, Bool.not_false, cond_true, Bool.false_or]
          have htier : -1000000 ≤ y.Slot.Tier ∧ y.Slot.Tier ≤ 1000000 := by
            obtain ⟨m, c, _, hc, h3⟩ := hslot.col
            have := hslot.tier
            have := ht c (List.mem_of_getElem? hc)
            omega
          refine wp_bnd (wp_mono (slot_held y.Slot (l.map (·.Slot)) htier) (fun r22 h22 => ?_))
          cases r22 with
          | false =>
            refine wp_bif (fun _ => no rfl fun h => ?_) (fun h => by cases h)
            obtain ⟨b', hb, _, hh⟩ := h.each y hy
            have := h22.2 hh; cases this
          | true =>
            have hheld := h22.1 rfl
            refine wp_bif (fun h => by cases h) (fun _ => ?_)
            refine wp_bnd (wp_natIn (m := pre.length) rfl (by rw [List.length_map]; omega) ?_)
            have htk : (l.map (·.Slot)).take pre.length = pre.map (·.Slot) := by rw [← List.map_take, e, List.take_left']; rfl
            rw [htk]
            refine wp_each (fun pr _ => ∀ a ∈ pr, ¬ MeetP y.Slot a) (fun a ha => (List.not_mem_nil ha).elim) (fun pr a pos u nx2 e2 hI2 hnx2 => ?_) (fun u hI2 => hnx _ ⟨fun x hx => ?_, pairwise_snoc i2 hsort, pairwise_snoc i3 (fun a ha => hI2 a.Slot (List.mem_map.2 ⟨a, ha, rfl⟩))⟩)
            · refine wp_bnd (wp_mono (slot_meet y.Slot a) (fun r48 h48 => ?_))
              refine wp_bif (fun h => no rfl fun hR => ?_) (fun h => hnx2 _ (fun a' ha' => ?_))
              · have hm := h48.1 h
                have hin : a ∈ pre.map (·.Slot) := by rw [e2]; simp
                obtain ⟨z, hz, rfl⟩ := List.mem_map.1 hin
                have ha := hR.apart
                rw [e] at ha
                exact pairwise_mid ha z hz hm
              · rcases List.mem_append.1 ha' with ha' | ha'
                · exact hI2 a' ha'
                · rw [List.mem_singleton] at ha'; subst ha'
                  intro hm
                  have := h48.2 hm
                  rw [this] at h; cases h
            · rcases List.mem_append.1 hx with hx | hx
              · exact i1 x hx
              · rw [List.mem_singleton] at hx; subst hx
                exact ⟨b, hf, hslot, hheld⟩
  · obtain ⟨i1, i2, i3⟩ := hI
    refine wp_each (fun pre _ => ∀ m c, m < pre.length → s.Columns[m]? = some c → FitsP boxes l m c) (fun m c h => (Nat.not_lt_zero m h).elim) (fun pre y post u nx e hI hnx => ?_) (fun u hI => wp_some ⟨fun _ => ⟨i1, i2, i3, fun m c hc => hI m c (List.getElem?_eq_some_iff.1 hc).1 hc⟩, fun _ => rfl⟩)
    have hc : s.Columns[pre.length]? = some y := by rw [e]; simp
    refine wp_bnd (wp_mono (stow_fits hc hl) (fun r hr => ?_))
    cases r with
    | false => exact wp_bif (fun _ => wp_some ⟨fun e => (by cases e), fun h => by have := hr.2 (h.fits _ _ hc); cases this⟩) (fun h => by cases h)
    | true =>
      refine wp_bif (fun h => by cases h) (fun _ => hnx _ (fun m c hm hmc => ?_))
      rw [List.length_append, List.length_singleton] at hm
      rcases Nat.lt_or_ge m pre.length with h | h
      · exact hI m c h hmc
      · have : m = pre.length := by omega
        subst this
        rw [hc] at hmc; cases hmc
        exact hr.1 rfl
end Go.Proofs.Ytbpgdkibmejibaa
