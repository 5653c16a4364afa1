/-
 Parts of slices that the call may write in place: slicing, copy, clear.
-/
import Derived.Test.YtmdnkofmmheoaaaGreatDraw2
namespace Go.Proofs.YtmdnkofmmheoaaaGreat
open Go.RowKit

def SrcReads (w : World) (S : Nat → Nat → Prop) (k : Nat) (ys : List AV) (v : Value) : Prop :=
 (∀ y ∈ ys, y.cells.length = k) ∧ ∃ (a : Option Addr) (cap : Nat) (cs : List Value), v = .slice a ys.length cap ∧ (a = none → ys = []) ∧ cs.length = ys.length * k ∧ (∀ (ad : Addr) (j : Nat) u, a = some ad → cs[j]? = some u → w.cell? (ad.add j) = some u) ∧
  ∀ (j : Nat) u x, (flat ys)[j]? = some u → cs[j]? = some x → D w S u x

theorem V.inv_vsl {w : World} {β : Places} {L : Loc} {i ver k k' off n t : Nat} {xs : List AV} {x : Value} (hi : lk L i = some (.vec t k' ver xs)) (h : V w β L (.vsl i ver k off n) x) : k = k' ∧ off + n ≤ xs.length ∧ VslVal (β.at_ i) k off n x := by
 cases h with
 | data h => cases h
 | vsl hp _ =>
  obtain ⟨t', ver', xs', h1, _, h3⟩ := hp
  rw [hi] at h1; cases h1
  exact ⟨rfl, h3 rfl⟩

theorem vec_part {w : World} {β : Places} {L : Loc} {i ver k t n : Nat} {xs : List AV} {x : Value} (hsat : Sat w β L) (hi : lk L i = some (.vec t k ver xs)) (hv : V w β L (.vec i ver k n) x) : n = xs.length ∧ VslVal (β.at_ i) k 0 n x := by
 obtain ⟨rfl, _, h⟩ := vec_at hsat hi hv
 refine ⟨rfl, ?_⟩
 rcases h with ⟨rfl, rfl, _⟩ | ⟨b, cap, vs, rfl, h1, h2, h3, _⟩
 ·exact ⟨none, 0, rfl, Nat.le_refl _, Nat.zero_le _, .inl rfl⟩
 ·exact ⟨_, cap, rfl, h2, h3, .inr ⟨b, h1, by rw [Nat.zero_mul]⟩⟩

theorem part_reads {w : World} {β : Places} {L : Loc} {i ver k t off n : Nat} {xs : List AV} {x : Value} (hsat : Sat w β L) (hi : lk L i = some (.vec t k ver xs)) (hn : off + n ≤ xs.length) (h : VslVal (β.at_ i) k off n x) : SrcReads w (Stab w β L) k ((xs.drop off).take n) x := by
 obtain ⟨o1, o2⟩ := hsat.obj i _ hi
 have hk : ∀ y ∈ (xs.drop off).take n, y.cells.length = k := fun y hy => o1 y (List.mem_of_mem_drop (List.mem_of_mem_take hy))
 have hl : ((xs.drop off).take n).length = n := by simp; omega
 refine ⟨hk, ?_⟩
 obtain ⟨a, cap, rfl, h1, h2, h3⟩ := h
 rw [hl]
 by_cases h0 : n = 0
 ·subst h0
  exact ⟨a, cap, [], rfl, fun _ => by simp, by simp, fun ad j u _ hu => by simp at hu, fun j u x _ hx => by simp at hx⟩
 ·rcases h3 with h3 | ⟨b, hb, rfl⟩
  ·exact absurd h3 h0
  ·obtain ⟨q1, vs, q2, q3, q4⟩ := vec_row hsat hi hb
   have hm : off * k + n * k ≤ xs.length * k := by rw [← Nat.add_mul]; exact Nat.mul_le_mul_right _ hn
   refine ⟨_, cap, (vs.toList.drop (off * k)).take (n * k), rfl, (fun e => by cases e), by simp; omega, fun ad j u e hu => ?_, fun j u x hu hx => ?_⟩
   ·cases e
    have hj := (List.getElem?_eq_some_iff.1 hu).1
    rw [List.length_take] at hj
    rw [List.getElem?_take, if_pos (by omega), List.getElem?_drop] at hu
    rw [Addr.add_lit]
    simp [World.cell?, q2]
    simpa using hu
   ·have hj := (List.getElem?_eq_some_iff.1 hx).1
    rw [List.length_take] at hj
    rw [List.getElem?_take, if_pos (by omega), List.getElem?_drop] at hx
    have hk2 : ∀ y ∈ xs.drop off, y.cells.length = k := fun y hy => o1 y (List.mem_of_mem_drop hy)
    rw [flat_take hk2, flat_drop o1, List.getElem?_take, if_pos (by omega), List.getElem?_drop] at hu
    exact q4 _ u x hu (by simpa using hx)

theorem list_reads {w : World} {S : Nat → Nat → Prop} {k k' : Nat} {ys : List AV} {x : Value} (h : D w S (.list k' ys) x) (hk : k' = k ∨ ys = []) : SrcReads w S k ys x := by
 obtain ⟨ao, cap, rfl, _⟩ := h.len
 obtain ⟨_, h1, h2, cs, h3, h4, h5⟩ := h.vals
 have hk2 : ∀ y ∈ ys, y.cells.length = k := by
  rcases hk with rfl | rfl
  ·exact h1
  ·simp
 refine ⟨hk2, ao, cap, cs, rfl, fun e => List.eq_nil_of_length_eq_zero (h2 e), h3.trans (flat_length hk2), h4, fun j u x hu hx => ?_⟩
 obtain ⟨x', hx', hd⟩ := h5 j u hu
 rw [hx] at hx'; cases hx'
 exact hd

def SrcIs (L : Loc) (k : Nat) (s : AV) (ys : List AV) : Prop :=
 (∃ kx, asList s = some (kx, ys) ∧ (kx = k ∨ ys = [])) ∨ (∃ i ver n t, s = .vec i ver k n ∧ lk L i = some (.vec t k ver ys)) ∨ (∃ i ver off n t zs, s = .vsl i ver k off n ∧ lk L i = some (.vec t k ver zs) ∧ ys = (zs.drop off).take n)
theorem SrcIs.reads {w : World} {β : Places} {L : Loc} {k : Nat} {s : AV} {ys : List AV} {x : Value} (hsat : Sat w β L) (h : SrcIs L k s ys) (hv : V w β L s x) : SrcReads w (Stab w β L) k ys x := by
 rcases h with ⟨kx, h1, h2⟩ | ⟨i, ver, n, t, rfl, hi⟩ | ⟨i, ver, off, n, t, zs, rfl, hi, rfl⟩
 ·exact list_reads (hv.asList h1) h2
 ·obtain ⟨rfl, h⟩ := vec_part hsat hi hv
  have := part_reads hsat hi (by simp) h
  simpa using this
 ·obtain ⟨_, h1, h2⟩ := hv.inv_vsl hi
  exact part_reads hsat hi h1 h2
def DstIs (L : Loc) (k : Nat) (s : AV) (i ver off n t : Nat) (xs : List AV) : Prop :=
 lk L i = some (.vec t k ver xs) ∧ ((s = .vec i ver k n ∧ off = 0) ∨ s = .vsl i ver k off n)
theorem DstIs.out {w : World} {β : Places} {L : Loc} {k i ver off n t : Nat} {s : AV} {xs : List AV} {x : Value} (hsat : Sat w β L) (h : DstIs L k s i ver off n t xs) (hv : V w β L s x) : off + n ≤ xs.length ∧ VslVal (β.at_ i) k off n x := by
 obtain ⟨hi, ⟨rfl, rfl⟩ | rfl⟩ := h
 ·obtain ⟨rfl, h⟩ := vec_part hsat hi hv
  exact ⟨by simp, h⟩
 ·exact (hv.inv_vsl hi).2

section ops
variable {P : Program} {N : Cfg} {o : Oper} {l : Fr} {L L' : Loc} {u : AV} {α : Type}

end ops

/-! ### Typed elements -/
section typed
variable {P : Program} {o : Oper} {l : Fr} {L : Loc} {α : Type}
def band (k : IntKind) (m n : Int) : Int := k.wrap (BitVec.ofInt k.bits m &&& BitVec.ofInt k.bits n).toNat
def shrN (k : IntKind) (m : Int) (s : Nat) : Int := m.fdiv (2 ^ (min s k.bits))
theorem A_band {T T' : Nat} {x y : Operand} {k : IntKind} {m n : Int} (ho : o.op = .binOp .and T x y T') (hx : ev l x = .sc (.int k m)) (hy : ev l y = .sc (.int k n)) : AStep P o l L (Is (.sc (.int k (band k m n))) L) :=
 A_bin (fun P w => by simp [eqGuard, binOp, Op.intBits, band]) hx hy ho
theorem A_shrM {T T' : Nat} {x y : Operand} {k k' : IntKind} {m n : Int} {s : Nat} (hn : n = (s : Int)) (ho : o.op = .binOp .shr T x y T') (hx : ev l x = .sc (.int k m)) (hy : ev l y = .sc (.int k' n)) : AStep P o l L (Is (.sc (.int k (shrN k m s))) L) :=
 A_shr hn rfl ho hx hy
end typed
end Go.Proofs.YtmdnkofmmheoaaaGreat
