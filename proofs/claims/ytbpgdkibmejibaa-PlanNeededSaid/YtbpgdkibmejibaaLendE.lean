/-
  Calls that leave objects whose versions are not known beforehand.
-/
import Derived.Test.YtbpgdkibmejibaaSub
namespace Go.Proofs.Ytbpgdkibmejibaa
open Go.RowKit

theorem ACalls.mono {P : Program} {f : FuncId} {args : List AV} {L0 : Loc} {R R' : AV → Loc → Prop} (h : ACalls P f args L0 R) (hr : ∀ u L, R u L → R' u L) : ACalls P f args L0 R' := fun w β vs a b c =>
  (h w β vs a b c).mono fun e w' hh => by
    obtain ⟨v, r, β', L', h1, h2, h3, h4, h5⟩ := hh
    exact ⟨v, r, β', L', h1, h2, h3, h4, hr _ _ h5⟩
theorem Pure.monoP {P : Program} {f : FuncId} {args : List AV} {R R' : AV → Prop} (h : Pure P f args R) (hr : ∀ u, R u → R' u) : Pure P f args R' := ACalls.mono h (fun u L hh => ⟨hh.1, hr u hh.2⟩)
def inAllB : Loc → List Nat → Bool
  | [], _ => true
  | (i, _) :: r, B => B.any (Nat.beq i) && inAllB r B
theorem inAll {B : List Nat} : ∀ {L0 : Loc}, inAllB L0 B = true → ∀ id, (lk L0 id).isSome = true → id ∈ B
  | [], _, id, h => by simp [lk] at h
  | (i, o) :: r, hb, id, h => by
    simp only [inAllB, Bool.and_eq_true, List.any_eq_true] at hb
    rw [lk_cons] at h
    by_cases e : i = id
    · obtain ⟨x, hx, hxi⟩ := hb.1
      rw [← e, Nat.eq_of_beq_eq_true hxi]; exact hx
    · rw [if_neg e] at h; exact inAll hb.2 id h

theorem JC_vlen {P : Program} {N : Cfg} {c : Code} {Q : Post} {l : Fr} {L : Loc} (s : Nat) {i ver k n E : Nat} {xs : List AV} (h1 : look l s = .vec i ver k n) (hi : lk L i = some (.vec E k ver xs)) (h : n = xs.length → JC P N c Q l L) : JC P N c Q l L := fun n w0 β0 L0 a w β hs =>
  h (by
    have hv := hs.frame.tmp s
    rw [h1] at hv
    exact (vec_at hs.sat hi hv).1) n w0 β0 L0 a w β hs
theorem JL_vlenM {P : Program} {N : Cfg} {o : Oper} {ops : Array Oper} {rest : List Oper} {Q : Post} {l : Fr} {L : Loc} {α : Type} {x : Operand} {T E k k' d i ver n : Nat} {f : α → AV} {xs : List α} (hT : sliceB P T E k' = true) (ho : o.op = .call { callee := .builtin .len, args := #[x], argTypes := #[T] }) (hx : ev l x = .vec i ver k n) (hi : lk L i = some (.vec E k ver (xs.map f)))
    (hk : xs.length ≤ maxLen → JL P N ops rest Q ((d, I64 (xs.length : Int)) :: l) L) (hg : o.guard = none) (hd : o.dst = some d) (hn : Nat.blt d N.n = true) : JL P N ops (o :: rest) Q l L := by
  intro n w0 β0 L0 a w β hs
  have hv := hs.frame.ev x
  rw [hx] at hv
  obtain ⟨e, _, h⟩ := vec_at hs.sat hi hv
  rw [List.length_map] at e
  subst e
  have hm : xs.length ≤ maxLen := by
    rcases h with ⟨_, h2, _⟩ | ⟨b, cap, vs, _, _, h3, h4, _⟩
    · rw [List.map_eq_nil_iff] at h2
      rw [h2]; exact Nat.zero_le _
    · rw [List.length_map] at h3; exact Nat.le_trans h3 h4
  exact Jg (A_vlen hT ho hx hi) (hk hm) hg hd hn (by unfold noDef; rw [ho]) n w0 β0 L0 a w β hs

section calls
variable {P : Program} {o : Oper} {l : Fr} {L : Loc} {γ : Type}
end calls
end Go.Proofs.Ytbpgdkibmejibaa
