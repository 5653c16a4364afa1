/-
  Slices that begin as an empty literal and are appended to; appends of whole lists to an own slice; the least of three numbers.
-/
import Derived.Test.YtmdnkofmmheoaaaGreatMore2
import Derived.Test.YtmdnkofmmheoaaaGreatVecM
namespace Go.Proofs.YtmdnkofmmheoaaaGreat
open Go.RowKit

def field1B (P : Program) (T f off : Nat) : Bool :=
  match P.underlying T with
  | some (.struct fs) => match fs[f]? with
    | some fld => fld.offset == off && scalarB P fld.type
    | none => false
  | _ => false
theorem field1B.out {P : Program} {T f off : Nat} (h : field1B P T f off = true) : ∃ fs fld, P.underlying T = some (.struct fs) ∧ fs[f]? = some fld ∧ fld.offset = off ∧ scalarB P fld.type = true := by
  unfold field1B at h
  split at h
  · rename_i fs h1
    split at h
    · rename_i fld h2
      simp only [Bool.and_eq_true, beq_iff_eq] at h
      exact ⟨fs, fld, h1, h2, h.1, h.2⟩
    · cases h
  · cases h

def arrNB (P : Program) (T n k : Nat) : Bool :=
  match P.underlying T with
  | some (.array m e) => m == n && sizeB P e k
  | _ => false
theorem arrNB.out {P : Program} {T n k : Nat} (h : arrNB P T n k = true) : ∃ e, P.underlying T = some (.array n e) ∧ sizeB P e k = true := by
  unfold arrNB at h
  split at h
  · rename_i m e h1
    simp only [Bool.and_eq_true, beq_iff_eq] at h
    obtain ⟨rfl, h2⟩ := h
    exact ⟨_, h1, h2⟩
  · cases h
section ops
variable {P : Program} {N : Cfg} {o : Oper} {l : Fr} {L L' : Loc} {u : AV} {α : Type}

def sidx (s : ByteArray) (z : Int) : Option Int := bif decide (0 ≤ z) then (s[z.toNat]?).map (fun b => (b.toNat : Int)) else none
theorem A_strIdx {x ix : Operand} {T : Nat} {kd : IntKind} {s : ByteArray} {z v : Int} (hT : strB P T = true) (ho : o.op = .index T x ix) (hx : ev l x = .sc (.string s)) (hi : ev l ix = .sc (.int kd z)) (hv : sidx s z = some v) : AStep P o l L (Is (.sc (.int .u8 v)) L) :=
  AStep_val fun a w β _ hf => by
    have h1 := hf.ev x
    rw [hx] at h1
    have h2 := hf.ev ix
    rw [hi] at h2
    unfold sidx at hv
    by_cases h0 : 0 ≤ z
    · rw [decide_eq_true h0, cond_true] at hv
      cases hb : s[z.toNat]? with
      | none => rw [hb] at hv; cases hv
      | some b =>
        rw [hb] at hv
        cases hv
        have hu : P.underlying T = some .string := by
          unfold strB at hT
          split at hT
          · assumption
          · cases hT
        exact ⟨.int .u8 b.toNat, by simp [execOp, ho, Instr.index, asIntOf, underlying, hu, h1.inv_sc, h2.inv_sc, h0, hb], .sc⟩
    · rw [decide_eq_false h0, cond_false] at hv; cases hv
theorem A_field1 {x : Operand} {T f off : Nat} {cs : List AV} (hT : field1B P T f off = true) (ho : o.op = .field T x f) (hx : ev l x = .agg cs) (hn : cs[off]? = some u) : AStep P o l L (Is u L) :=
  AStep_val fun a w β _ hf => by
    have h1 := hf.ev x
    rw [hx] at h1
    obtain ⟨vs, he, hl, hv⟩ := h1.inv_agg
    have hlt : off < vs.size := by
      rw [hl]
      rcases Nat.lt_or_ge off cs.length with h | h
      · exact h
      · simp [List.getElem?_eq_none h] at hn
    obtain ⟨fs, fld, g1, g2, rfl, g4⟩ := field1B.out hT
    exact ⟨vs[fld.offset], by simp [execOp, ho, Instr.field, underlying, g1, g2, he, asAgg, part, run_isAgg_false g4, hlt], hv fld.offset u _ hn (by simp [hlt])⟩
end ops
end Go.Proofs.YtmdnkofmmheoaaaGreat
