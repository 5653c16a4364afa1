/-
 The examples of the chapter. StowMore: the law's plain mathematics. A literal as a slice of the call's own, that may be appended to.
-/
import Derived.Test.YtbljcmgjmieffaaGreatXP
import Derived.Test.YtbljcmgjmieffaaGreatBuiltO
import Derived.Test.YtbljcmgjmieffaaGreatFres
set_option linter.unusedVariables false
set_option linter.unusedSimpArgs false
set_option linter.unnecessarySimpa false
set_option maxRecDepth 100000
namespace Go.Proofs.YtbljcmgjmieffaaGreat
open Go.RowKit
theorem awake09 : Hr 60 = some true := by kernel_rfl
end Go.Proofs.YtbljcmgjmieffaaGreat
set_option linter.unusedSimpArgs false
set_option linter.unnecessarySimpa false
set_option maxRecDepth 100000
set_option linter.unusedVariables false
namespace Go.Proofs.YtbljcmgjmieffaaGreat
open Go.RowKit

theorem G3b.mem {s:Gr} {l:List Stowed} {ids r:List Int} (h:G3b s l ids r) (hi:∀ a∈ids,a∈l.map (·.Gb)):∀ a∈r,a∈l.map (·.Gb):=
 h.least (·∈l.map (·.Gb)) (fun a b _ hp=>by
  obtain⟨x,_,_,y,hy,e,_⟩:=hp
  exact List.mem_map.2 ⟨y,hy,e⟩) hi
theorem G3b.mono {s:Gr} {l:List Stowed} {ids ids' r r':List Int} (h:G3b s l ids r) (h':G3b s l ids' r') (hi:∀ a∈ids,a∈ids'):∀ a∈r,a∈r':=
 h.least (·∈r') (fun a b ha hp=>h'.closed a ha b hp) (fun a ha=>h'.seeds a (hi a ha))
theorem G3b.len {s:Gr} {l:List Stowed} {ids r:List Int} (h:G3b s l ids r) (hi:∀ a∈ids,a∈l.map (·.Gb)):r.length≤l.length:=by
 have:=(G40 h.sorted).length_le_of_subset (fun a ha=>h.mem hi a ha)
 simpa using this
/-- A ship and a state as the chapter's statements make them. -/
structure J0a (s:Gr) (boxes:List Gb) (l:List Stowed):Prop where
 ship:H70 s
 right:Rh s boxes l
 len:l.length≤10
end Go.Proofs.YtbljcmgjmieffaaGreat
set_option linter.unusedVariables false
set_option linter.unusedSimpArgs false
set_option linter.unnecessarySimpa false
namespace Go.Proofs.YtbljcmgjmieffaaGreat
open Go.RowKit

theorem own_newN {w : World} {β : H2} {L : Loc} {i : Nat} (E k : Nat) (vs : Array Value) (xs : List AV) (hk : ∀ x ∈ xs, x.cells.length = k) (hvs : vs.size = xs.length * k) (hmax : xs.length ≤ maxLen) (hD : ∀ (j : Nat) u v, (flat xs)[j]? = some u → vs[j]? = some v → D w (Jh w β L) u v) (hsat : Sat w β L) (hi : lk L i = none) :
    Step w β L (w.alloc (.cells vs E)) (Jb β i (some w.heap.size)) ((i, .spare E k xs.length xs.length) :: L) ∧ Sat (w.alloc (.cells vs E)) (Jb β i (some w.heap.size)) ((i, .spare E k xs.length xs.length) :: L) ∧
    V (w.alloc (.cells vs E)) (Jb β i (some w.heap.size)) ((i, .spare E k xs.length xs.length) :: L) (.own i xs.length k xs) (.slice (some ⟨w.heap.size, 0, none⟩) xs.length xs.length) := by
  have hne : ∀ id, (lk L id).isSome = true → i ≠ id := fun id h e => by subst e; rw [hi] at h; cases h
  have hlt : ∀ b, b < w.heap.size → (w.alloc (.cells vs E)).heap[b]? = w.heap[b]? := fun b hb => Jd w _ hb
  have hsz : w.heap.size < (w.alloc (.cells vs E)).heap.size := by simp
  have st : Step w β L (w.alloc (.cells vs E)) (Jb β i (some w.heap.size)) ((i, .spare E k xs.length xs.length) :: L) := by
    refine ⟨rfl, rfl, ⟨rfl, Nat.le_refl _⟩, Nat.le_of_lt hsz, fun _ _ _ => Iff.rfl, fun b j hs => ⟨⟨Nat.lt_trans hs.lt hsz, hs.seen, fun id ob hid hb => ?_⟩, World.cell?_of_block (w := w) (hlt b hs.lt)⟩, fun b hb hfar => ⟨hlt b hb, fun id hid e => ?_⟩, fun id t cs hid => ?_, fun id t cs hid => ?_, fun id t n cs hid => ?_, fun id t k' ver zs hid => ?_, fun id t k' ver hw hid => ?_⟩
    · rw [Ge] at hid
      by_cases e : i = id
      · subst e; simp only [Jb, if_true] at hb; cases hb; exact absurd hs.lt (Nat.lt_irrefl _)
      · rw [if_neg e] at hid; simp only [Jb, if_neg (Ne.symm e)] at hb; exact hs.kept id ob hid hb
    · rw [Ge] at hid
      by_cases e' : i = id
      · subst e'; simp only [Jb, if_true] at e; cases e; exact absurd hb (Nat.lt_irrefl _)
      · rw [if_neg e'] at hid; simp only [Jb, if_neg (Ne.symm e')] at e; exact hfar id hid e
    all_goals
      have e := hne id (by rw [hid]; rfl)
    · exact ⟨by simp [Jb, Ne.symm e], cs, by rw [Ge, if_neg e]; exact hid⟩
    · exact ⟨by simp [Jb, Ne.symm e], cs, by rw [Ge, if_neg e]; exact hid⟩
    · exact ⟨by simp [Jb, Ne.symm e], n, cs, by rw [Ge, if_neg e]; exact hid⟩
    · exact ⟨ver, zs, by rw [Ge, if_neg e]; exact hid, Nat.le_refl _, fun _ => ⟨rfl, by simp [Jb, Ne.symm e], fun b hb => Ze (hlt b (hsat.bnd id b (by rw [hid]; rfl) hb))⟩⟩
    · exact ⟨ver, hw, by rw [Ge, if_neg e]; exact hid, Nat.le_refl _, fun _ => ⟨rfl, by simp [Jb, Ne.symm e], fun b hb => hlt b (hsat.bnd id b (by rw [hid]; rfl) hb)⟩⟩
  refine ⟨st, ⟨fun b j h => Nat.lt_trans (hsat.hid b j h) hsz, fun id b hid hb => ?_, fun id b j hid hb hh => ?_, fun id id' b h1 h2 h3 h4 => ?_, fun id ob hid => ?_⟩, ?_⟩
  · rw [Ge] at hid
    by_cases e : i = id
    · subst e; simp only [Jb, if_true] at hb; cases hb; exact hsz
    · rw [if_neg e] at hid; simp only [Jb, if_neg (Ne.symm e)] at hb; exact Nat.lt_trans (hsat.bnd id b hid hb) hsz
  · rw [Ge] at hid
    by_cases e : i = id
    · subst e; simp only [Jb, if_true] at hb; cases hb; exact absurd (hsat.hid _ _ hh) (Nat.lt_irrefl _)
    · rw [if_neg e] at hid; simp only [Jb, if_neg (Ne.symm e)] at hb; exact hsat.apart id b j hid hb hh
  · by_cases e : i = id
    · by_cases e' : i = id'
      · rw [← e, e']
      · subst e
        rw [Ge, if_neg e'] at h2
        simp only [Jb, if_true] at h3
        simp only [Jb, if_neg (Ne.symm e')] at h4
        cases h3
        exact absurd (hsat.bnd id' _ h2 h4) (Nat.lt_irrefl _)
    · by_cases e' : i = id'
      · subst e'
        rw [Ge, if_neg e] at h1
        simp only [Jb, if_true] at h4
        simp only [Jb, if_neg (Ne.symm e)] at h3
        cases h4
        exact absurd (hsat.bnd id _ h1 h3) (Nat.lt_irrefl _)
      · rw [Ge, if_neg e] at h1
        rw [Ge, if_neg e'] at h2
        simp only [Jb, if_neg (Ne.symm e)] at h3
        simp only [Jb, if_neg (Ne.symm e')] at h4
        exact hsat.inj id id' b h1 h2 h3 h4
  · rw [Ge] at hid
    by_cases e : i = id
    · subst e; rw [if_pos rfl] at hid; cases hid
      exact .inr ⟨w.heap.size, by simp [Jb], vs, heap_alloc_new w _, by rw [hvs]; exact Nat.le_refl _⟩
    · rw [if_neg e] at hid
      simp only [Jb, if_neg (Ne.symm e)]
      exact (hsat.obj id ob hid).step st (fun b hb => hlt b (hsat.bnd id b (by rw [hid]; rfl) hb))
  · have hn := heap_alloc_new w (.cells vs E)
    have hfl : (flat xs).length = xs.length * k := Hp hk
    have hrow : (w.alloc (.cells vs E)).ownsRow 0 E k (.slice (some ⟨w.heap.size, 0, none⟩) xs.length xs.length) xs.length vs.toList :=
      ⟨by simp [hvs], .inr ⟨w.heap.size, xs.length, vs, rfl, Nat.zero_le _, hn, Nat.le_refl _, hmax, hvs, by rw [List.take_of_length_le (by simp [hvs])]⟩⟩
    refine .own ?_ ⟨E, xs.length, xs.length, by rw [Ge, if_pos rfl], Nat.le_refl _, fun _ => ⟨rfl, by simp [Value.ownBlock, Jb], vs.toList, hrow, fun j u hu => ?_⟩⟩
    · refine .list (fun j => vs.getD j undef) (Nat.le_refl _) hmax hk (fun j hj => ⟨⟨hsz, fun hh => absurd (hsat.hid _ _ hh) (Nat.lt_irrefl _), fun id ob hid hbid => ?_⟩, ?_⟩) (fun j u hu => ?_)
      · rw [Ge] at hid
        by_cases e : i = id
        · subst e; rw [if_pos rfl] at hid; cases hid
          show 0 + j < xs.length * k
          omega
        · rw [if_neg e] at hid
          simp only [Jb, if_neg (Ne.symm e)] at hbid
          exact absurd (hsat.bnd id _ (by rw [hid]; rfl) hbid) (Nat.lt_irrefl _)
      · have : j < vs.size := by omega
        unfold World.cell?
        rw [hn]
        simp [this]
      · have hj : j < vs.size := by
          have := (List.getElem?_eq_some_iff.1 hu).1
          omega
        refine (hD j u _ hu ?_).mono st.stab
        simp [hj]
    · have hj : j < vs.size := by
        have := (List.getElem?_eq_some_iff.1 hu).1
        omega
      exact ⟨vs[j], by simp [hj], (hD j u _ hu (by simp [hj])).mono st.stab⟩

section lits
variable {P : Program} {o : Oper} {l : Fr} {L : Loc}
theorem A_ownLitN (i : Nat) {T E k n : Nat} {parts : List (Nat × Operand)} {xs : List AV} (ho : o.op = .buildSlice T n parts.toArray) (hd : G07 l (parts.map (·.2)) xs) (hT : sliceB P T E k = true) (hz : Qu P E k = true)
    (hix : parts.map (·.1) = List.range n) (hc : G7a k xs = true) (hn : Nat.ble (n * k) 16777216 = true) (hk0 : Nat.blt 0 k = true) (hi : lk L i = none) : H0 P o l L (Is (.own i xs.length k xs) ((i, .spare E k xs.length xs.length) :: L)) := by
  intro a w β K Q hsat hf hK
  have hlen := hd.length
  have hnl : n = xs.length := by
    have := congrArg List.length hix
    simp only [List.length_map, List.length_range] at this hlen
    omega
  subst hnl
  have hc' := G67 hc
  have hkc : ∀ x ∈ xs, x.cells.length = k := fun x hx => (hc' x hx).1
  have hdata : ∀ x ∈ xs, x.isData = true := by
    intro x hx
    obtain ⟨j, hj, e⟩ := List.mem_iff_getElem.1 hx
    have hj2 : j < (parts.map (·.2)).length := by omega
    exact e ▸ (hd.get (j := j) (x := (parts.map (·.2))[j]) (u := xs[j]) (List.getElem?_eq_getElem hj2) (List.getElem?_eq_getElem hj)).2
  have hfill := Gd3 (k := k) xs 0 (List.replicate (xs.length * k) .junk) (by simp) hc'
  obtain ⟨inf, z, hi0, hz1, hz2⟩ := Qu.out hz
  let zs : Array Value := if xs.length * k = 0 then #[] else z.cells
  obtain ⟨vs', e1, e2, e3⟩ := G96 (w := w) (β := β) (L := L) (qs := parts.map fun p => (p.1, a.eval p.2)) (vs := (Array.range (xs.length * k)).map (zs[· % zs.size]!)) hfill (by
      have := congrArg List.length hix
      simp only [List.length_map, List.length_range] at this
      simp [this]) (fun j p q hp hq => by
      simp only [List.getElem?_map, Option.map_eq_some_iff] at hq
      obtain ⟨y, hy, rfl⟩ := hq
      rw [List.getElem?_zip_eq_some] at hp
      obtain ⟨hp1, hp2⟩ := hp
      have hix' : (parts.map (·.1))[j]? = (List.range xs.length)[j]? := by rw [hix]
      simp only [List.getElem?_map, hy, Option.map_some] at hix'
      rw [List.range_eq_range', hp1] at hix'
      have := (hd.get (j := j) (x := y.2) (u := p.2) (by rw [List.getElem?_map, hy]; rfl) hp2)
      have hv := (hf.ev y.2).plain
      rw [this.1] at hv
      exact ⟨(Option.some.inj hix').symm, hv⟩) (by simp) (fun j u v hu _ => by
      have := List.eq_of_mem_replicate (List.mem_of_getElem? hu)
      subst this; exact .junk)
  have hflat : (List.take (0 * k) (List.replicate (xs.length * k) AV.junk)) ++ flat xs = flat xs := by simp
  rw [hflat] at e2 e3
  have hr : (execOp a.eval o).run P w = .ok (.value (.slice (some ⟨w.heap.size, 0, none⟩) xs.length xs.length)) (w.alloc (.cells vs' E)) := by
    have hsz := Jn (sliceB.out hT).2 w
    have hle0 : xs.length * k ≤ 16777216 := by simpa using hn
    have hle : ¬ (xs.length * k > 2 ^ 24) := by
      have : (2 : Nat) ^ 24 = 16777216 := by decide
      omega
    have hp : (parts.toArray.map fun (x : Nat × Operand) => (x.1, a.eval x.2)).toList = parts.map fun p => (p.1, a.eval p.2) := by simp
    by_cases h0 : xs.length * k = 0
    · have hzs : zs = #[] := by simp only [zs, if_pos h0]
      rw [hzs] at e1
      simp only [execOp, ho, Instr.buildSlice, underlying, (sliceB.out hT).1, run_program, Sem.run_bind, Result.andThen_ok, hsz, hle, if_false, Sem.run_pure, if_pos h0, hp, e1, newRow, run_newObj]
      rfl
    · have hzs : zs = z.cells := by simp only [zs, if_neg h0]
      rw [hzs] at e1
      simp only [execOp, ho, Instr.buildSlice, underlying, (sliceB.out hT).1, run_program, Sem.run_bind, Result.andThen_ok, hsz, hle, if_false, Sem.run_pure, if_neg h0, zeroValue, typeInfo, hi0, hz1, hp, e1, newRow, run_newObj]
      rfl
  unfold Oper.wp
  rw [hr]
  have hmax : xs.length ≤ maxLen := by
    have h1 : xs.length * k ≤ 16777216 := by simpa using hn
    have h2 : 0 < k := by simpa [Nat.blt_eq] using hk0
    have : xs.length * 1 ≤ xs.length * k := Nat.mul_le_mul_left _ h2
    simp only [maxLen]; omega
  have hfl : (flat xs).length = xs.length * k := Hp hkc
  obtain ⟨st, sat, hv⟩ := own_newN (i := i) E k vs' xs hkc (by rw [e2, hfl]) hmax (fun j u v hu hv => (e3 j u v hu hv).toD (Gc0 hdata u (List.mem_of_getElem? hu))) hsat hi
  exact hK _ _ _ _ _ ⟨rfl, rfl⟩ sat st hv
theorem Je3 {α : Type} (i : Nat) {T E k n : Nat} {parts : List (Nat × Operand)} {f : α → AV} (xs : List α) (ho : o.op = .buildSlice T n parts.toArray) (hd : G07 l (parts.map (·.2)) (xs.map f)) (hT : sliceB P T E k = true) (hz : Qu P E k = true)
    (hix : parts.map (·.1) = List.range n) (hc : G7a k (xs.map f) = true) (hn : Nat.ble (n * k) 16777216 = true) (hk0 : Nat.blt 0 k = true) (hi : lk L i = none) : H0 P o l L (Is (OW i k f xs) ((i, .spare E k xs.length xs.length) :: L)) := by
  have h := A_ownLitN (P := P) i ho hd hT hz hix hc hn hk0 hi
  simpa only [List.length_map] using h
theorem J8d {x : Operand} {i ver m f t k : Nat} {xs : List AV} (ho : o.op = .nilCheck x) (hx : ev l x = .vptr i ver m f) (hi : lk L i = some (.vec t k ver xs)) : H0 P o l L (Is (.vptr i ver m f) L) :=
  Hb fun ac w β hsat hf => by
    have h1 := hf.ev x
    rw [hx] at h1
    obtain ⟨b, _, e⟩ := h1.inv_vptr hi
    exact ⟨ac.eval x, by rw [e]; simp [execOp, ho, e], h1⟩
/-- The length of a slice that was written in place, told anew. -/
theorem Qm {N : Zt} {ops : Array Oper} {rest : List Oper} {Q : Post} {α : Type} (s : Nat) {i ver k n E : Nat} {f : α → AV} {xs : List α} (h1 : look l s = .vec i ver k n) (hi : lk L i = some (.vec E k ver (xs.map f))) (h : JL P N ops rest Q ((s, .vec i ver k xs.length) :: l) L) : JL P N ops rest Q l L := fun n0 w0 β0 L0 a w β hs => by
  have hv := hs.frame.tmp s
  rw [h1] at hv
  have e := (G4e hs.sat hi hv).1
  rw [List.length_map] at e
  subst e
  refine h n0 w0 β0 L0 a w β ⟨hs.sat, hs.step, ⟨fun t => ?_⟩, hs.size, hs.base, hs.defers⟩
  simp only [look]
  cases hb : Nat.beq s t with
  | true => have := Nat.eq_of_beq_eq_true hb; subst this; exact hv
  | false => exact hs.frame.tmp t
end lits
end Go.Proofs.YtbljcmgjmieffaaGreat
