/-
  What has to be lifted between two states, exactly: the least set of boxes that bears those that differ and is closed.
-/
import Derived.Test.YtbpgdkibmejibaaKeptD
set_option maxRecDepth 100000
namespace Go.Proofs.Ytbpgdkibmejibaa
open Go.RowKit

/-- y stands on deck upon the cover that x stands under. -/
def upon (s : Ship) (x y : Slot) : Prop := ∃ (m : Nat) (c : Column) (m1 : Nat) (c1 : Column), x.Column = (m : Int) ∧ s.Columns[m]? = some c ∧ y.Column = (m1 : Int) ∧ s.Columns[m1]? = some c1 ∧ c.Deck = false ∧ c1.Deck = true ∧ 0 ≤ coverOf s c ∧ coverOf s c1 = coverOf s c
def PullsIn (s : Ship) (states : List (List Stowed)) (st : List Stowed) (a b : Int) : Prop :=
  (findP st a).2 = true ∧ ((∃ y ∈ st, y.Box = b ∧ OverP y.Slot (findP st a).1) ∨ ∃ st2 ∈ states, ∃ y ∈ st2, y.Box = b ∧ upon s (findP st a).1 y.Slot)
/-- To lift a, b has to be lifted. -/
def Pulls (s : Ship) (states : List (List Stowed)) (a b : Int) : Prop := ∃ st ∈ states, PullsIn s states st a b

structure Grown (s : Ship) (U : List Int) (states : List (List Stowed)) (l : List Int) (id : Int) (m : AMap Int Unit) (l' : List Int) : Prop where
  inv : LInv U m l'
  sub : ∀ a ∈ l, a ∈ l'
  has : id ∈ l'
  closed : ∀ a ∈ l', a ∉ l → ∀ b, Pulls s states a b → b ∈ l'
  least : ∀ C : Int → Prop, (∀ a b, C a → Pulls s states a b → C b) → (∀ a ∈ l, C a) → C id → ∀ a ∈ l', C a
structure Rch (s : Ship) (U : List Int) (states : List (List Stowed)) (l : List Int) (id : Int) (m : AMap Int Unit) (l' : List Int) : Prop where
  inv : LInv U m l'
  sub : ∀ a ∈ l ++ [id], a ∈ l'
  closed : ∀ a ∈ l', a ∉ l → a ≠ id → ∀ b, Pulls s states a b → b ∈ l'
  least : ∀ C : Int → Prop, (∀ a b, C a → Pulls s states a b → C b) → (∀ a ∈ l, C a) → C id → ∀ a ∈ l', C a
section
variable {s : Ship} {U : List Int} {states : List (List Stowed)} {l l' l2 : List Int} {id y : Int} {m m2 : AMap Int Unit}
theorem Rch.start (h : LInv U m (l ++ [id])) : Rch s U states l id m (l ++ [id]) :=
  ⟨h, fun a ha => ha, fun a ha h1 h2 => by
    rcases List.mem_append.1 ha with ha | ha
    · exact (h1 ha).elim
    · exact (h2 (List.mem_singleton.1 ha)).elim, fun C _ hl hid a ha => by
    rcases List.mem_append.1 ha with ha | ha
    · exact hl a ha
    · exact List.mem_singleton.1 ha ▸ hid⟩
theorem Rch.step (h : Rch s U states l id m l') (hp : Pulls s states id y) (g : Grown s U states l' y m2 l2) : Rch s U states l id m2 l2 ∧ (∀ a ∈ l', a ∈ l2) ∧ y ∈ l2 :=
  ⟨⟨g.inv, fun a ha => g.sub a (h.sub a ha), fun a ha h1 h2 b hb => by
    by_cases hal : a ∈ l'
    · exact g.sub b (h.closed a hal h1 h2 b hb)
    · exact g.closed a ha hal b hb, fun C hc hl hid => g.least C hc (h.least C hc hl hid) (hc id y hid hp)⟩, g.sub, g.has⟩
end

theorem mem_snoc {α : Type} {P : α → Prop} {l : List α} {x : α} (h1 : ∀ y ∈ l, P y) (h2 : P x) : ∀ y ∈ l ++ [x], P y := fun y hy => by
  rcases List.mem_append.1 hy with hy | hy
  · exact h1 y hy
  · exact List.mem_singleton.1 hy ▸ h2

theorem add_full {s : Ship} {U : List Int} {states : List (List Stowed)} (hs : StatesOk s U states) : ∀ (F : Nat) (id : Int) (m : AMap Int Unit) (l : List Int), LInv U m l → id ∈ U → U.length + 1 ≤ F + l.length →
    Wp (M_plan_lifted_1 F id m l states s) (fun r => Grown s U states l id r.1 r.2) := by
  intro F
  induction F with
  | zero => intro id m l hi _ hF; have := hi.le; omega
  | succ F ih =>
    intro id m l hi hid hF
    show Wp (B_plan_lifted_1 (M_plan_lifted_1 F) F id m l states s) _
    unfold B_plan_lifted_1
    refine wp_bnd_eq (set_add m id) ?_
    rw [hi.has]
    by_cases hmem : id ∈ l
    · rw [if_pos (decide_eq_true hmem)]
      exact wp_bif (fun _ => wp_some ⟨hi, fun a ha => ha, hmem, fun a ha hn => (hn ha).elim, fun C _ hl _ a ha => hl a ha⟩) (fun h => by cases h)
    rw [if_neg (by rw [decide_eq_false hmem]; exact Bool.false_ne_true)]
    refine wp_bif (fun h => by cases h) (fun _ => ?_)
    have hle := hi.le
    have hlen := hs.len
    have h1 := hi.snoc hmem hid
    have h1le := h1.le
    have hl1 : (l ++ [id]).length = l.length + 1 := by simp
    refine wp_need (room_ok (by rw [List.length_singleton]; omega) (by omega)) ?_
    have again : ∀ (y : Stowed) (st : List Stowed) (m' : AMap Int Unit) (l' : List Int), st ∈ states → y ∈ st → Rch s U states l id m' l' → Pulls s states id y.Box →
        Wp (M_plan_lifted_1 F y.Box m' l' states s) (fun r => Rch s U states l id r.1 r.2 ∧ (∀ a ∈ l', a ∈ r.2) ∧ y.Box ∈ r.2) :=
      fun y st m' l' h2 h3 h4 h5 => wp_mono (ih y.Box m' l' h4.inv (hs.each st h2 y h3).1 (by
        have := h1.nodup.length_le_of_subset (fun a ha => h4.sub a ha)
        omega)) (fun r hr => h4.step h5 hr)
    have hcov : ∀ {k : Nat} {c : Column}, s.Columns[k]? = some c → M_ship_CoverOf s (k : Int) = some (coverOf s c) := fun hc => ship_coverOf hc (fun x hx => by have := hs.small.rows x hx; omega) (by have := hs.small.covs; omega)
    refine wp_each (fun pre s7 => Rch s U states l id s7.1 s7.2 ∧ ∀ st ∈ pre, ∀ b, PullsIn s states st id b → b ∈ s7.2) ⟨.start h1, fun st h => (List.not_mem_nil h).elim⟩ (fun pre st post s7 nx e hI hnx => ?_) (fun s7 hI => wp_some ?_)
    · have hst : st ∈ states := by rw [e]; simp
      obtain ⟨hR, hD⟩ := hI
      refine wp_jp (fun j => Rch s U states l id j.1 j.2 ∧ (∀ a ∈ s7.2, a ∈ j.2) ∧ ∀ b, PullsIn s states st id b → b ∈ j.2) (fun K hK => ?_) (fun j hj => hnx _ ⟨hj.1, mem_snoc (fun st' h' b hb => hj.2.1 _ (hD st' h' b hb)) hj.2.2⟩)
      refine wp_bnd_eq (plan_find st id) (wp_bif (fun hf => hK _ ⟨hR, fun a ha => ha, fun b hb => ?_⟩) (fun hf => ?_))
      · rw [hb.1] at hf; cases hf
      have hft : (findP st id).2 = true := by simpa using hf
      obtain ⟨x, hx, _, hxs⟩ := findP_mem hft
      obtain ⟨m0, c0, hm0, hc0⟩ := (hs.each st hst x hx).2
      rw [hxs]
      refine wp_jp (fun j17 => j17 = if c0.Deck = true then -1 else coverOf s c0) (fun K' hK' => wp_gidx hm0 hc0 (wp_bif (fun hd => ?_) (fun hd => hK' _ (by
        rw [if_pos (by simpa using hd)])))) (fun j17 h17 => ?_)
      · rw [hm0]
        exact wp_bnd_eq (hcov hc0) (hK' _ (by rw [if_neg (by simpa using hd)]))
      refine wp_each (fun pre s56 => Rch s U states l id s56.1 s56.2 ∧ (∀ a ∈ s7.2, a ∈ s56.2) ∧ ∀ y ∈ pre, OverP y.Slot x.Slot → y.Box ∈ s56.2) ⟨hR, fun a ha => ha, fun y h => (List.not_mem_nil h).elim⟩ (fun pre y post s56 nx e hI hnx => ?_) (fun s56 hI => ?_)
      · have hy : y ∈ st := by rw [e]; simp
        obtain ⟨i1, i2, i3⟩ := hI
        refine wp_jp (fun j => Rch s U states l id j.1 j.2 ∧ (∀ a ∈ s56.2, a ∈ j.2) ∧ (OverP y.Slot x.Slot → y.Box ∈ j.2)) (fun K' hK' => ?_) (fun j hj => hnx _ ⟨hj.1, fun a ha => hj.2.1 a (i2 a ha), mem_snoc (fun y' h' ho => hj.2.1 _ (i3 y' h' ho)) hj.2.2⟩)
        refine wp_bnd (wp_mono (slot_over y.Slot x.Slot) (fun r62 h62 => wp_bif (fun hr => ?_) (fun hr => hK' _ ⟨i1, fun a ha => ha, fun ho => ?_⟩)))
        · exact wp_bnd (wp_mono (again y st _ _ hst hy i1 ⟨st, hst, hft, .inl ⟨y, hy, rfl, by rw [hxs]; exact h62.1 hr⟩⟩) (fun r hr => hK' _ ⟨hr.1, hr.2.1, fun _ => hr.2.2⟩))
        · rw [h62.2 ho] at hr; cases hr
      · obtain ⟨i1, i2, i3⟩ := hI
        refine wp_each (fun pre s65 => Rch s U states l id s65.1 s65.2 ∧ (∀ a ∈ s56.2, a ∈ s65.2) ∧ ∀ st2 ∈ pre, ∀ y ∈ st2, upon s x.Slot y.Slot → y.Box ∈ s65.2) ⟨i1, fun a ha => ha, fun st2 h => (List.not_mem_nil h).elim⟩ (fun pre st2 post s65 nx e hI hnx => ?_) (fun s65 hI => hK _ ⟨hI.1, fun a ha => hI.2.1 a (i2 a ha), fun b hb => ?_⟩)
        · obtain ⟨j1, j2, j3⟩ := hI
          have hst2 : st2 ∈ states := by rw [e]; simp
          refine wp_each (fun pre s107 => Rch s U states l id s107.1 s107.2 ∧ (∀ a ∈ s65.2, a ∈ s107.2) ∧ ∀ y ∈ pre, upon s x.Slot y.Slot → y.Box ∈ s107.2) ⟨j1, fun a ha => ha, fun y h => (List.not_mem_nil h).elim⟩ (fun pre y post s107 nx2 e hI hnx2 => ?_) (fun s107 hI => hnx _ ⟨hI.1, fun a ha => hI.2.1 a (j2 a ha), mem_snoc (fun st' h' y hy hu => hI.2.1 _ (j3 st' h' y hy hu)) hI.2.2⟩)
          obtain ⟨k1, k2, k3⟩ := hI
          have hy : y ∈ st2 := by rw [e]; simp
          obtain ⟨m1, c1, hm1, hc1⟩ := (hs.each st2 hst2 y hy).2
          have hup : upon s x.Slot y.Slot ↔ (0 ≤ j17 ∧ c1.Deck = true ∧ coverOf s c1 = j17) := by
            constructor
            · rintro ⟨n0, d0, n1, d1, e1, e2, e3, e4, q1, q2, q3, q4⟩
              have e5 : n0 = m0 := by omega
              have e6 : n1 = m1 := by omega
              subst e5 e6
              rw [hc0] at e2; cases e2
              rw [hc1] at e4; cases e4
              rw [if_neg (by rw [q1]; exact Bool.false_ne_true)] at h17
              rw [h17]
              exact ⟨q3, q2, q4⟩
            · rintro ⟨q1, q2, q3⟩
              by_cases hd : c0.Deck = true
              · rw [if_pos hd] at h17; omega
              · rw [if_neg hd] at h17
                exact ⟨m0, c0, m1, c1, hm0, hc0, hm1, hc1, by simpa using hd, q2, by omega, by omega⟩
          refine wp_jp (fun j => Rch s U states l id j.1 j.2 ∧ (∀ a ∈ s107.2, a ∈ j.2) ∧ (upon s x.Slot y.Slot → y.Box ∈ j.2)) (fun K' hK' => ?_) (fun j hj => hnx2 _ ⟨hj.1, fun a ha => hj.2.1 a (k2 a ha), mem_snoc (fun y' h' ho => hj.2.1 _ (k3 y' h' ho)) hj.2.2⟩)
          by_cases hj : 0 ≤ j17
          · rw [decide_eq_true hj]
            simp only [cond_true, Bool.true_and]
            refine wp_bnd (wp_gidx hm1 hc1 (wp_some ?_))
            cases hd : c1.Deck with
            | true =>
              simp only [cond_true, Bool.true_and]
              rw [hm1]
              refine wp_bnd_eq (hcov hc1) (wp_bif (fun hc => ?_) (fun hc => hK' _ ⟨k1, fun a ha => ha, fun hu => ?_⟩))
              · exact wp_bnd (wp_mono (again y st2 _ _ hst2 hy k1 ⟨st, hst, hft, .inr ⟨st2, hst2, y, hy, rfl, by rw [hxs]; exact hup.2 ⟨hj, hd, of_decide_eq_true hc⟩⟩⟩) (fun r hr => hK' _ ⟨hr.1, hr.2.1, fun _ => hr.2.2⟩))
              · exact (of_decide_eq_false hc (hup.1 hu).2.2).elim
            | false =>
              simp only [cond_false, Bool.false_and]
              exact wp_bnd (wp_some (hK' _ ⟨k1, fun a ha => ha, fun hu => by have := (hup.1 hu).2.1; rw [hd] at this; cases this⟩))
          · rw [decide_eq_false hj]
            simp only [cond_false, Bool.false_and]
            exact wp_bnd (wp_some (wp_bnd (wp_some (hK' _ ⟨k1, fun a ha => ha, fun hu => (hj (hup.1 hu).1).elim⟩))))
        · rcases hb.2 with ⟨y, hy, rfl, ho⟩ | ⟨st2, h2, y, hy, rfl, hu⟩
          · exact hI.2.1 _ (i3 y hy (by rw [← hxs]; exact ho))
          · exact hI.2.2 st2 h2 y hy (by rw [← hxs]; exact hu)
    · obtain ⟨hR, hD⟩ := hI
      refine ⟨hR.inv, fun a ha => hR.sub a (List.mem_append.2 (.inl ha)), hR.sub id (by simp), fun a ha hn b hb => ?_, hR.least⟩
      by_cases e : a = id
      · subst e
        obtain ⟨st, hst, hp⟩ := hb
        exact hD st hst b hp
      · exact hR.closed a ha hn e b hb

structure Least (s : Ship) (before after : List Stowed) (l : List Int) : Prop where
  seeds : ∀ st ∈ [before, after], ∀ y ∈ st, findP before y.Box ≠ findP after y.Box → y.Box ∈ l
  closed : ∀ a ∈ l, ∀ b, Pulls s [before, after] a b → b ∈ l
  least : ∀ C : Int → Prop, (∀ a b, C a → Pulls s [before, after] a b → C b) → (∀ st ∈ [before, after], ∀ y ∈ st, findP before y.Box ≠ findP after y.Box → C y.Box) → ∀ a ∈ l, C a
theorem Least.perm {s : Ship} {before after : List Stowed} {l l' : List Int} (h : Least s before after l) (hp : ∀ a, a ∈ l' ↔ a ∈ l) : Least s before after l' :=
  ⟨fun st hst y hy hne => (hp _).2 (h.seeds st hst y hy hne), fun a ha b hb => (hp b).2 (h.closed a ((hp a).1 ha) b hb), fun C hc hl a ha => h.least C hc hl a ((hp a).1 ha)⟩
theorem differ {p q : Slot × Bool} : ((!(p.2 == q.2)) || (!decide (p.1 = q.1))) = true ↔ p ≠ q := by
  obtain ⟨p1, p2⟩ := p
  obtain ⟨q1, q2⟩ := q
  simp only [Bool.or_eq_true, Bool.not_eq_true', beq_eq_false_iff_ne, decide_eq_false_iff_not, ne_eq, Prod.mk.injEq, not_and]
  constructor
  · rintro (h | h) h1 h2
    · exact h h2
    · exact h h1
  · intro h
    by_cases e : p1 = q1
    · exact .inl (h e)
    · exact .inr e

theorem lifted_full {s : Ship} {U : List Int} {before after : List Stowed} (hs : StatesOk s U [before, after]) {F : Nat} (hF : U.length + 1 ≤ F) :
    Wp (M_plan_lifted F s before after) (fun r => r.Pairwise (· < ·) ∧ (∀ a ∈ r, a ∈ U) ∧ Least s before after r) := by
  unfold M_plan_lifted
  have go : ∀ {m : AMap Int Unit} {l : List Int} {y : Stowed} {st : List Stowed} {m2 : AMap Int Unit} {l2 : List Int}, st ∈ [before, after] → y ∈ st → findP before y.Box ≠ findP after y.Box →
      (LInv U m l ∧ (∀ a ∈ l, ∀ b, Pulls s [before, after] a b → b ∈ l) ∧ ∀ C : Int → Prop, (∀ a b, C a → Pulls s [before, after] a b → C b) → (∀ st ∈ [before, after], ∀ y ∈ st, findP before y.Box ≠ findP after y.Box → C y.Box) → ∀ a ∈ l, C a) →
      Grown s U [before, after] l y.Box m2 l2 →
      (LInv U m2 l2 ∧ (∀ a ∈ l2, ∀ b, Pulls s [before, after] a b → b ∈ l2) ∧ ∀ C : Int → Prop, (∀ a b, C a → Pulls s [before, after] a b → C b) → (∀ st ∈ [before, after], ∀ y ∈ st, findP before y.Box ≠ findP after y.Box → C y.Box) → ∀ a ∈ l2, C a) :=
    fun {m l y st m2 l2} hst hy hne hI g => ⟨g.inv, fun a ha b hb => by
      by_cases hal : a ∈ l
      · exact g.sub b (hI.2.1 a hal b hb)
      · exact g.closed a ha hal b hb, fun C hc hl => g.least C hc (hI.2.2 C hc hl) (hl st hst y hy hne)⟩
  refine wp_each (fun pre s9 => (LInv U s9.1 s9.2 ∧ (∀ a ∈ s9.2, ∀ b, Pulls s [before, after] a b → b ∈ s9.2) ∧ ∀ C : Int → Prop, (∀ a b, C a → Pulls s [before, after] a b → C b) → (∀ st ∈ [before, after], ∀ y ∈ st, findP before y.Box ≠ findP after y.Box → C y.Box) → ∀ a ∈ s9.2, C a) ∧
      ∀ st ∈ pre, ∀ y ∈ st, findP before y.Box ≠ findP after y.Box → y.Box ∈ s9.2)
    ⟨⟨.start, fun a h => (List.not_mem_nil h).elim, fun C _ _ a h => (List.not_mem_nil h).elim⟩, fun st h => (List.not_mem_nil h).elim⟩ (fun pre st post s9 nx e hI hnx => ?_) (fun s9 hI => ?_)
  · have hst : st ∈ [before, after] := by rw [e]; simp
    obtain ⟨hA, hB⟩ := hI
    refine wp_each (fun pre s59 => (LInv U s59.1 s59.2 ∧ (∀ a ∈ s59.2, ∀ b, Pulls s [before, after] a b → b ∈ s59.2) ∧ ∀ C : Int → Prop, (∀ a b, C a → Pulls s [before, after] a b → C b) → (∀ st ∈ [before, after], ∀ y ∈ st, findP before y.Box ≠ findP after y.Box → C y.Box) → ∀ a ∈ s59.2, C a) ∧
        (∀ a ∈ s9.2, a ∈ s59.2) ∧ ∀ y ∈ pre, findP before y.Box ≠ findP after y.Box → y.Box ∈ s59.2)
      ⟨hA, fun a ha => ha, fun y h => (List.not_mem_nil h).elim⟩ (fun pre y post s59 nx2 e hI hnx2 => ?_) (fun s59 hI => hnx _ ⟨hI.1, mem_snoc (fun st' h' y hy hne => hI.2.1 _ (hB st' h' y hy hne)) hI.2.2⟩)
    have hy : y ∈ st := by rw [e]; simp
    obtain ⟨j1, j2, j3⟩ := hI
    refine wp_jp (fun j => (LInv U j.1 j.2 ∧ (∀ a ∈ j.2, ∀ b, Pulls s [before, after] a b → b ∈ j.2) ∧ ∀ C : Int → Prop, (∀ a b, C a → Pulls s [before, after] a b → C b) → (∀ st ∈ [before, after], ∀ y ∈ st, findP before y.Box ≠ findP after y.Box → C y.Box) → ∀ a ∈ j.2, C a) ∧
        (∀ a ∈ s59.2, a ∈ j.2) ∧ (findP before y.Box ≠ findP after y.Box → y.Box ∈ j.2)) (fun K hK => ?_) (fun j hj => hnx2 _ ⟨hj.1, fun a ha => hj.2.1 a (j2 a ha), mem_snoc (fun y' h' ho => hj.2.1 _ (j3 y' h' ho)) hj.2.2⟩)
    refine wp_bnd_eq (plan_find before y.Box) (wp_bnd_eq (plan_find after y.Box) (wp_bif (fun hd => ?_) (fun hd => hK _ ⟨j1, fun a ha => ha, fun hne => ?_⟩)))
    · have hne := differ.1 hd
      exact wp_bnd (wp_mono (add_full hs F y.Box _ _ j1.1 (hs.each st hst y hy).1 (by omega)) (fun r hr => hK _ ⟨go hst hy hne j1 hr, hr.sub, fun _ => hr.has⟩))
    · rw [differ.2 hne] at hd; cases hd
  · obtain ⟨⟨hA, hB, hC⟩, hD⟩ := hI
    have h1 := hA.le
    have h2 := hs.len
    have hse : sortIM s9.2 = some (sortI s9.2) := by
      unfold sortIM
      rw [decide_eq_true (show s9.2.length < 4611686018427387904 by omega)]
      rfl
    have hp := sortI_perm s9.2
    refine wp_bnd_eq hse (wp_some ⟨?_, fun a ha => hA.sub a (hp.mem_iff.1 ha), Least.perm ⟨hD, hB, hC⟩ (fun a => hp.mem_iff)⟩)
    have hn : (sortI s9.2).Nodup := hp.nodup_iff.2 hA.nodup
    exact (List.pairwise_and_iff.2 ⟨sortI_sorted s9.2, hn⟩).imp (fun {a b} h => by have h1 := h.1; have h2 := h.2; omega)

theorem mem_swap {α : Type} {a b x : α} (h : x ∈ [a, b]) : x ∈ [b, a] := by
  simp only [List.mem_cons, List.not_mem_nil, or_false] at h ⊢
  exact h.symm
theorem Pulls.swap {s : Ship} {a b : List Stowed} {x y : Int} (h : Pulls s [a, b] x y) : Pulls s [b, a] x y := by
  obtain ⟨st, hst, h1, h2⟩ := h
  exact ⟨st, mem_swap hst, h1, h2.imp _root_.id (fun ⟨st2, h3, h4⟩ => ⟨st2, mem_swap h3, h4⟩)⟩
theorem Least.le {s : Ship} {before after : List Stowed} {l l' : List Int} (h : Least s before after l) (h' : Least s after before l') : ∀ a ∈ l, a ∈ l' :=
  h.least (· ∈ l') (fun a b ha hb => h'.closed a ha b hb.swap) (fun st hst y hy hne => h'.seeds st (mem_swap hst) y hy (fun e => hne e.symm))
theorem Least.eq {s : Ship} {before after : List Stowed} {l l' : List Int} (h : Least s before after l) (h' : Least s after before l') (s1 : l.Pairwise (· < ·)) (s2 : l'.Pairwise (· < ·)) : l = l' :=
  eq_of_sorted s1 s2 (fun x => ⟨h.le h' x, h'.le h x⟩)
end Go.Proofs.Ytbpgdkibmejibaa
