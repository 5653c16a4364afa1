/-
  BoundTells: the reference's numbers, groups and need.
-/
import Derived.Test.YtfkilljboodoaaaGreatFamT
import Derived.Test.YtfkilljboodoaaaGreatShipT
set_option maxRecDepth 100000
set_option linter.unusedVariables false
namespace Go.Proofs.YtfkilljboodoaaaGreat
open Go.RowKit

theorem H68 (boxes : List H4) (g : G6) (z : Int) (hl : boxes.length ≤ 1000000) : Jq boxes g z = some (Zo z g boxes) := by
  refine Ga2 ?_
  unfold Jq
  refine Rn (fun pre (st : Int) => st = Zo z g pre) rfl (fun pre y post st nx e hI hnx => ?_) (fun st hI => H3 hI)
  subst hI
  have hb := G6c z g pre
  have hp : pre.length ≤ 1000000 := by
    have := congrArg List.length e
    simp only [List.length_append, List.length_cons] at this
    omega
  refine J69 (fun j : Int => j = Zo z g (pre ++ [y])) (fun K hK => J5 (fun h => Jh ⟨by omega, by omega⟩ (hK _ ?_)) (fun h => hK _ ?_)) (fun j hj => hnx _ hj)
  · have h : hit g z y = true := h
    rw [Gf8, if_pos h]
  · have h : hit g z y = false := h
    rw [Gf8, if_neg (by rw [h]; exact fun e => Bool.noConfusion e)]; omega

def J0a (a b : G6) : Prop := a.Load < b.Load ∨ (a.Load = b.Load ∧ a.Discharge < b.Discharge)
theorem J09 {a b c : G6} (h1 : J0a a b) (h2 : J0a b c) : J0a a c := by unfold J0a at *; omega
theorem J61 {a : G6} (h : J0a a a) : False := by unfold J0a at h; omega
theorem glt_tri (a b : G6) : J0a a b ∨ a = b ∨ J0a b a := by
  unfold J0a
  by_cases h : a.Load = b.Load ∧ a.Discharge = b.Discharge
  · refine .inr (.inl ?_)
    obtain ⟨al, ad⟩ := a
    obtain ⟨bl, bd⟩ := b
    simp only at h
    rw [h.1, h.2]
  · omega
theorem ref_less (a b : G6) : ∃ r, Qy a b = some r ∧ (r = true ↔ J0a a b) := ⟨_, rfl, by
  rw [Bool.or_eq_true, Bool.and_eq_true, decide_eq_true_eq, decide_eq_true_eq, decide_eq_true_eq]; rfl⟩
def nz (boxes : List H4) (g : G6) : Prop := Zo 40 g boxes + Zo 20 g boxes ≠ 0
def J0f (boxes : List H4) (g : G6) : Gj := ⟨g, Zo 40 g boxes, Zo 20 g boxes⟩
def gB (b : H4) : G6 := ⟨b.Load, b.Discharge⟩
theorem nz_mem {boxes : List H4} {g : G6} (h : nz boxes g) : ∃ b ∈ boxes, gB b = g := by
  have hp : ∀ z, 0 < boxes.countP (hit g z) → ∃ b ∈ boxes, gB b = g := fun z hz => by
    obtain ⟨b, hb, hh⟩ := List.countP_pos_iff.1 hz
    simp only [hit, Bool.and_eq_true, decide_eq_true_eq] at hh
    refine ⟨b, hb, ?_⟩
    unfold gB
    rw [hh.1.1, hh.1.2]
  unfold nz Zo at h
  by_cases h1 : 0 < boxes.countP (hit g 40)
  · exact hp 40 h1
  · exact hp 20 (by omega)
structure GOut (boxes : List H4) (out : List Gj) : Prop where
  sorted : out.Pairwise (fun a b => J0a a.G6 b.G6)
  each : ∀ c ∈ out, c = J0f boxes c.G6 ∧ nz boxes c.G6
  rest : ∀ b ∈ boxes, nz boxes (gB b) → gB b ∈ out.map (·.G6) ∨ ∀ c ∈ out, J0a c.G6 (gB b)
theorem GOut.len {boxes : List H4} {out : List Gj} (h : GOut boxes out) : out.length ≤ boxes.length := by
  have hn : (out.map (·.G6)).Nodup := by
    rw [List.nodup_iff_pairwise_ne, List.pairwise_map]
    exact h.sorted.imp (fun h e => by rw [e] at h; exact J61 h)
  have := hn.length_le_of_subset (l₂ := boxes.map gB) (fun a ha => by
    obtain ⟨c, hc, e⟩ := List.mem_map.1 ha
    obtain ⟨b, hb, e2⟩ := nz_mem (h.each c hc).2
    exact List.mem_map.2 ⟨b, hb, e2.trans e⟩)
  rwa [List.length_map, List.length_map] at this
/-- Behind the last group that was told. -/
def Ja9 (boxes : List H4) (out : List Gj) (g : G6) : Prop := nz boxes g ∧ ∀ c ∈ out, J0a c.G6 g
theorem pick_step {β : Type} {Q : β → Prop} {boxes : List H4} {out : List Gj} (h : GOut boxes out) (hl : boxes.length ≤ 1000000) {g best : G6} {some_ : Bool} {K1 : Option β} {K2 : Int → Int → Option β}
    (h1 : ¬ (Ja9 boxes out g ∧ (some_ = true → J0a g best)) → Wp K1 Q) (h2 : Ja9 boxes out g → (some_ = true → J0a g best) → Wp (K2 (Zo 40 g boxes) (Zo 20 g boxes)) Q) :
    Wp (bnd (Jq boxes g 40) fun r108 =>
        bnd (Jq boxes g 20) fun r109 =>
        Rm (r108 + r109) fun v112 =>
        bnd (bif ((!(decide (v112 = 0))) && (decide (0 < (out.length : Int)))) then Rm ((out.length : Int) - 1) some else some 0) fun v113 =>
        bnd (bif ((!(decide (v112 = 0))) && (decide (0 < (out.length : Int)))) then Qe out v113 some else some default) fun y114 =>
        bnd (bif ((!(decide (v112 = 0))) && (decide (0 < (out.length : Int)))) then Qy y114.G6 g else some default) fun r115 =>
        bnd (bif ((!((decide (v112 = 0)) || ((decide (0 < (out.length : Int))) && (!r115)))) && some_) then Qy g best else some default) fun r116 =>
        bif (((decide (v112 = 0)) || ((decide (0 < (out.length : Int))) && (!r115))) || (some_ && (!r116))) then K1 else K2 r108 r109) Q := by
  have hlen := h.len
  have g1 := G6c 40 g boxes
  have g2 := G6c 20 g boxes
  refine H9 (H68 boxes g 40 hl) (H9 (H68 boxes g 20 hl) (Jh ⟨by omega, by omega⟩ ?_))
  by_cases hz : Zo 40 g boxes + Zo 20 g boxes = 0
  · rw [decide_eq_true hz]
    simp only [Bool.not_true, Bool.false_and, cond_false, Bool.true_or, cond_true, bnd]
    exact h1 (fun hh => hh.1.1 hz)
  · rw [decide_eq_false hz]
    simp only [Bool.not_false, Bool.true_and, Bool.false_or]
    have tail : ∀ r115 : Bool, ((decide (0 < (out.length : Int)) && !r115) = false ↔ ∀ c ∈ out, J0a c.G6 g) →
        Wp (bnd (bif (!((decide (0 < (out.length : Int))) && (!r115))) && some_ then Qy g best else some default) fun r116 =>
          bif (((decide (0 < (out.length : Int))) && (!r115)) || (some_ && (!r116))) then K1 else K2 (Zo 40 g boxes) (Zo 20 g boxes)) Q := fun r115 hr => by
      cases hq : (decide (0 < (out.length : Int)) && !r115) with
      | true =>
        simp only [Bool.not_true, Bool.false_and, cond_false, Bool.true_or, cond_true, bnd]
        exact h1 (fun hh => by have := hr.2 hh.1.2; rw [hq] at this; cases this)
      | false =>
        have hall := hr.1 hq
        simp only [Bool.not_false, Bool.true_and, Bool.false_or]
        cases some_ with
        | false =>
          simp only [cond_false, Bool.false_and, bnd]
          exact h2 ⟨hz, hall⟩ (fun e => Bool.noConfusion e)
        | true =>
          obtain ⟨r, e, hr2⟩ := ref_less g best
          rw [cond_true]
          refine H9 e ?_
          cases r with
          | true => exact h2 ⟨hz, hall⟩ (fun _ => hr2.1 rfl)
          | false => exact h1 (fun hh => by have := hr2.2 (hh.2 rfl); cases this)
    cases hlo : out with
    | nil =>
      have := tail default (by rw [hlo]; simp)
      rw [hlo] at this
      simp only [List.length_nil, Int.natCast_zero, Int.lt_irrefl, decide_false, cond_false, H0b] at this ⊢
      exact this
    | cons c0 cs =>
      have hpos : decide (0 < ((c0 :: cs).length : Int)) = true := decide_eq_true (by rw [List.length_cons]; omega)
      have hne : 0 < out.length := by rw [hlo]; simp
      have hlast : ∃ c, out[out.length - 1]? = some c := ⟨_, List.getElem?_eq_getElem (by omega)⟩
      obtain ⟨c, hc⟩ := hlast
      rw [← hlo] at hpos ⊢
      rw [hpos]
      simp only [cond_true, Bool.true_and] at tail ⊢
      obtain ⟨r, e, hr⟩ := ref_less c.G6 g
      refine Jo (Jh ⟨by omega, by omega⟩ (H3 (Jo (G2d (m := out.length - 1) (by omega) hc (H3 (H9 e ?_))))))
      have ht := tail r (by
        rw [hpos, Bool.true_and, Bool.not_eq_false', hr]
        refine ⟨fun hg a ha => ?_, fun hh => hh c (List.mem_of_getElem? hc)⟩
        obtain ⟨i, hi, rfl⟩ := List.mem_iff_getElem.1 ha
        have hce := (List.getElem?_eq_some_iff.1 hc).2
        by_cases hie : i = out.length - 1
        · subst hie; rw [hce]; exact hg
        · have := List.pairwise_iff_getElem.1 h.sorted i (out.length - 1) hi (by omega) (by omega)
          rw [hce] at this
          exact J09 this hg)
      rw [hpos] at ht
      simpa using ht
structure GAll (boxes : List H4) (out : List Gj) : Prop where
  sorted : out.Pairwise (fun a b => J0a a.G6 b.G6)
  each : ∀ c ∈ out, c = J0f boxes c.G6 ∧ nz boxes c.G6
  all : ∀ g, nz boxes g → g ∈ out.map (·.G6)
theorem ref_groups {F : Nat} {boxes : List H4} (hl : boxes.length ≤ 1000000) (hF : boxes.length < F) : Wp (Y2 F boxes) (GAll boxes) := by
  unfold Y2
  refine wp_loop (fun out => GOut boxes out) (fun out => boxes.length - out.length) ⟨List.Pairwise.nil, fun c hc => (List.not_mem_nil hc).elim, fun b hb hn => .inr (fun c hc => (List.not_mem_nil hc).elim)⟩ (by simp only [List.length_nil]; omega) (fun out nx hI hnx => ?_)
  have hlen := hI.len
  refine Rn (fun pre (st : Bool × Int × Int × Int × Int) => (st.1 = false → ∀ b ∈ pre, ¬ Ja9 boxes out (gB b)) ∧ (st.1 = true → Ja9 boxes out ⟨st.2.1, st.2.2.1⟩ ∧ st.2.2.2.1 = Zo 40 ⟨st.2.1, st.2.2.1⟩ boxes ∧ st.2.2.2.2 = Zo 20 ⟨st.2.1, st.2.2.1⟩ boxes ∧ ∀ b ∈ pre, Ja9 boxes out (gB b) → ¬ J0a (gB b) ⟨st.2.1, st.2.2.1⟩))
    ⟨fun _ b hb => (List.not_mem_nil hb).elim, fun h => Bool.noConfusion h⟩ (fun pre y post st nx2 e hJ hnx2 => ?_) (fun st hJ => ?_)
  · refine J69 (fun st : Bool × Int × Int × Int × Int => (st.1 = false → ∀ b ∈ pre ++ [y], ¬ Ja9 boxes out (gB b)) ∧ (st.1 = true → Ja9 boxes out ⟨st.2.1, st.2.2.1⟩ ∧ st.2.2.2.1 = Zo 40 ⟨st.2.1, st.2.2.1⟩ boxes ∧ st.2.2.2.2 = Zo 20 ⟨st.2.1, st.2.2.1⟩ boxes ∧ ∀ b ∈ pre ++ [y], Ja9 boxes out (gB b) → ¬ J0a (gB b) ⟨st.2.1, st.2.2.1⟩)) (fun K hK => ?_) (fun j hj => hnx2 _ hj)
    refine pick_step (K1 := K (st.1, st.2.1, st.2.2.1, st.2.2.2.1, st.2.2.2.2)) (K2 := fun a b => K (true, y.Load, y.Discharge, a, b)) hI hl (fun hn => hK _ ⟨fun hs => Qw (P := fun b : H4 => ¬ Ja9 boxes out (gB b)) (hJ.1 hs) (fun hc => ?_), fun hs => ⟨(hJ.2 hs).1, (hJ.2 hs).2.1, (hJ.2 hs).2.2.1, Qw (P := fun b : H4 => Ja9 boxes out (gB b) → ¬ J0a (gB b) ⟨st.2.1, st.2.2.1⟩) (hJ.2 hs).2.2.2 (fun hc hg => hn ⟨hc, fun _ => hg⟩)⟩⟩)
      (fun hc hg => hK _ ⟨fun h => Bool.noConfusion h, fun _ => ⟨hc, rfl, rfl, Qw (P := fun b : H4 => Ja9 boxes out (gB b) → ¬ J0a (gB b) (gB y)) (fun b hb hcb hlt => ?_) (fun _ h => J61 h)⟩⟩)
    · refine hn ⟨hc, fun h => ?_⟩
      have hs : st.1 = false := hs
      rw [hs] at h; cases h
    · cases hs : st.1 with
      | false => exact hJ.1 hs b hb hcb
      | true => exact (hJ.2 hs).2.2.2 b hb hcb (J09 hlt (hg hs))
  · refine J5 (fun h => H3 ⟨hI.sorted, hI.each, fun g hg => ?_⟩) (fun h => ?_)
    · have hs : st.1 = false := by simpa using h
      obtain ⟨b, hb, rfl⟩ := nz_mem hg
      exact (hI.rest b hb hg).elim (fun h => h) (fun h => (hJ.1 hs b hb ⟨hg, h⟩).elim)
    · have hs : st.1 = true := by simpa using h
      obtain ⟨hc, e1, e2, hmin⟩ := hJ.2 hs
      have hI' : GOut boxes (out ++ [Gj.mk (G6.mk st.2.1 st.2.2.1) st.2.2.2.1 st.2.2.2.2]) := by
        refine ⟨H69 hI.sorted (fun c hcc => hc.2 c hcc), Qw hI.each ⟨by rw [e1, e2]; rfl, hc.1⟩, fun b hb hn => ?_⟩
        rcases hI.rest b hb hn with h2 | h2
        · exact .inl (by rw [List.map_append]; exact List.mem_append.2 (.inl h2))
        · rcases glt_tri (gB b) ⟨st.2.1, st.2.2.1⟩ with h3 | h3 | h3
          · exact (hmin b hb ⟨hn, h2⟩ h3).elim
          · exact .inl (by rw [List.map_append, h3]; simp)
          · exact .inr (Qw (P := fun c : Gj => J0a c.G6 (gB b)) h2 h3)
      have hl2 := hI'.len
      rw [List.length_append, List.length_singleton] at hl2
      refine G58 (J80 (by rw [List.length_singleton]; omega) (by omega)) (hnx _ hI' ?_)
      simp only [List.length_append, List.length_singleton]
      omega
def J5b (c : Gj) : G2 := ⟨c.G6, c.Whole, c.Half⟩
def toR (c : G2) : Gj := ⟨c.G6, c.Whole, c.Half⟩
theorem mget_mem {κ ν : Type} [DecidableEq κ] {a : κ} {v : ν} : ∀ {l : List (κ × ν)}, G3c l a = some v → (a, v) ∈ l
  | [], h => by cases h
  | p :: l, h => by
    rw [G6a] at h
    by_cases e : p.1 = a
    · rw [if_pos e] at h
      cases h
      rw [← e]
      exact List.mem_cons_self ..
    · rw [if_neg e] at h
      exact List.mem_cons_of_mem _ (mget_mem h)
/-- Both tell the same groups. -/
structure GBoth (F : Nat) (boxes : List H4) (g0 : List G2) : Prop where
  prog : Qp boxes = some g0
  ref : Y2 F boxes = some (g0.map toR)
  sorted : g0.Pairwise (fun a b => J0a a.G6 b.G6)
  each : ∀ c ∈ g0, c = J5b (J0f boxes c.G6) ∧ nz boxes c.G6
  all : ∀ g, nz boxes g → J5b (J0f boxes g) ∈ g0
  len : g0.length ≤ boxes.length
theorem J43 {F : Nat} {boxes : List H4} (hl : boxes.length ≤ 100000) (hF : boxes.length < F) : ∃ g0, GBoth F boxes g0 := by
  obtain ⟨l, e, h1, h2, h3, _⟩ := groups_facts boxes (by omega)
  obtain ⟨m, hm, e'⟩ := J41 boxes (by omega)
  rw [e] at e'
  have e' := Option.some.inj e'
  have hs : l.Pairwise (fun a b => J0a a.G6 b.G6) := List.pairwise_iff_getElem.2 (fun i j hi hj hij => by
    have := h3 i j hij hj
    rw [Gaf, decide_eq_true_eq] at this
    exact this)
  have heach : ∀ c ∈ l, c = J5b (J0f boxes c.G6) ∧ nz boxes c.G6 := fun c hc => by
    obtain ⟨a1, a2, a3⟩ := h2 c hc
    refine ⟨?_, by unfold nz; rw [← a1, ← a2]; exact a3⟩
    obtain ⟨g, w, h⟩ := c
    simp only at a1 a2
    unfold J5b J0f
    rw [a1, a2]
  have hall : ∀ g, nz boxes g → J5b (J0f boxes g) ∈ l := fun g hg => by
    have := hm.get g
    rw [if_neg hg] at this
    rw [e']
    exact (H0a _).mem_iff.2 (List.mem_map.2 ⟨_, mget_mem this, rfl⟩)
  obtain ⟨r, er, hr⟩ := ref_groups (F := F) (boxes := boxes) (by omega) hF
  refine ⟨l, e, ?_, hs, heach, hall, h1⟩
  rw [er]
  congr 1
  have hrs : (r.map J5b).Pairwise (fun a b => J0a a.G6 b.G6) := by rw [List.pairwise_map]; exact hr.sorted
  have hnd : ∀ {q : List G2}, q.Pairwise (fun a b => J0a a.G6 b.G6) → q.Nodup := fun {q} h => by
    rw [List.nodup_iff_pairwise_ne]
    exact h.imp (fun h e => by rw [e] at h; exact J61 h)
  have hmem : ∀ c, c ∈ r.map J5b ↔ c ∈ l := fun c => by
    constructor
    · intro h
      obtain ⟨x, hx, rfl⟩ := List.mem_map.1 h
      obtain ⟨a1, a2⟩ := hr.each x hx
      have := hall x.G6 a2
      rwa [← a1] at this
    · intro h
      obtain ⟨a1, a2⟩ := heach c h
      obtain ⟨x, hx, ex⟩ := List.mem_map.1 (hr.all c.G6 a2)
      refine List.mem_map.2 ⟨x, hx, ?_⟩
      rw [(hr.each x hx).1, a1]
      rw [show x.G6 = c.G6 from ex]
  have heq : r.map J5b = l := List.Perm.eq_of_pairwise (le := fun a b : G2 => J0a a.G6 b.G6) (fun a b _ _ h1 h2 => (J61 (J09 h1 h2)).elim) hrs hs ((List.perm_ext_iff_of_nodup (hnd hrs) (hnd hs)).2 hmem)
  rw [← heq, List.map_map]
  exact (List.map_id'' (fun _ => rfl) r).symm
end Go.Proofs.YtfkilljboodoaaaGreat
