/-
  Calls that leave objects whose versions are not known beforehand.
-/
import Derived.Test.YtkfhfoljfbjknaaGreatSub
namespace Go.Proofs.YtkfhfoljfbjknaaGreat
open Go.RowKit

theorem Jr.mono {P : Program} {f : FuncId} {args : List AV} {L0 : Loc} {R R' : AV → Loc → Prop} (h : Jr P f args L0 R) (hr : ∀ u L, R u L → R' u L) : Jr P f args L0 R' := fun w β vs a b c =>
  (h w β vs a b c).mono fun e w' hh => by
    obtain ⟨v, r, β', L', h1, h2, h3, h4, h5⟩ := hh
    exact ⟨v, r, β', L', h1, h2, h3, h4, hr _ _ h5⟩
theorem Pure.monoP {P : Program} {f : FuncId} {args : List AV} {R R' : AV → Prop} (h : Pure P f args R) (hr : ∀ u, R u → R' u) : Pure P f args R' := Jr.mono h (fun u L hh => ⟨hh.1, hr u hh.2⟩)
def inAllB : Loc → List Nat → Bool
  | [], _ => true
  | (i, _) :: r, B => B.any (Nat.beq i) && inAllB r B
theorem inAll {B : List Nat} : ∀ {L0 : Loc}, inAllB L0 B = true → ∀ id, (lk L0 id).isSome = true → id ∈ B
  | [], _, id, h => by simp [lk] at h
  | (i, o) :: r, hb, id, h => by
    simp only [inAllB, Bool.and_eq_true, List.any_eq_true] at hb
    rw [Gm] at h
    by_cases e : i = id
    · obtain ⟨x, hx, hxi⟩ := hb.1
      rw [← e, Nat.eq_of_beq_eq_true hxi]; exact hx
    · rw [if_neg e] at h; exact inAll hb.2 id h

theorem JC_vlen {P : Program} {N : Cfg} {c : Code} {Q : Post} {l : Fr} {L : Loc} (s : Nat) {i ver k n E : Nat} {xs : List AV} (h1 : look l s = .vec i ver k n) (hi : lk L i = some (.vec E k ver xs)) (h : n = xs.length → JC P N c Q l L) : JC P N c Q l L := fun n w0 β0 L0 a w β hs =>
  h (by
    have hv := hs.frame.tmp s
    rw [h1] at hv
    exact (vec_at hs.sat hi hv).1) n w0 β0 L0 a w β hs
theorem JL_vlen {P : Program} {N : Cfg} {ops : Array Oper} {rest : List Oper} {Q : Post} {l : Fr} {L : Loc} (s : Nat) {i ver k n E : Nat} {xs : List AV} (h1 : look l s = .vec i ver k n) (hi : lk L i = some (.vec E k ver xs)) (h : n = xs.length → JL P N ops rest Q l L) : JL P N ops rest Q l L := fun n w0 β0 L0 a w β hs =>
  h (by
    have hv := hs.frame.tmp s
    rw [h1] at hv
    exact (vec_at hs.sat hi hv).1) n w0 β0 L0 a w β hs

theorem JL_vlenM {P : Program} {N : Cfg} {o : Oper} {ops : Array Oper} {rest : List Oper} {Q : Post} {l : Fr} {L : Loc} {α : Type} {x : Operand} {T E k k' d i ver n : Nat} {f : α → AV} {xs : List α} (hT : sliceB P T E k' = true) (ho : o.op = .call { callee := .builtin .len, args := #[x], argTypes := #[T] }) (hx : ev l x = .vec i ver k n) (hi : lk L i = some (.vec E k ver (xs.map f)))
    (hk : xs.length ≤ maxLen → JL P N ops rest Q ((d, G0 (xs.length : Int)) :: l) L) (hg : o.guard = none) (hd : o.dst = some d) (hn : Nat.blt d N.n = true) : JL P N ops (o :: rest) Q l L := by
  intro n w0 β0 L0 a w β hs
  have hv := hs.frame.ev x
  rw [hx] at hv
  obtain ⟨e, _, h⟩ := vec_at hs.sat hi hv
  rw [List.length_map] at e
  subst e
  have hm : xs.length ≤ maxLen := by
    rcases h with ⟨_, h2, _⟩ | ⟨b, cap, vs, _, _, h3, h4, _⟩
    · rw [List.map_eq_nil_iff] at h2
      rw [h2]; exact Nat.zero_le _
    · rw [List.length_map] at h3; exact Nat.le_trans h3 h4
  exact G1 (A_vlen hT ho hx hi) (hk hm) hg hd hn (by unfold noDef; rw [ho]) n w0 β0 L0 a w β hs

section calls
variable {P : Program} {o : Oper} {l : Fr} {L : Loc} {γ : Type}
theorem call_coreE {f : FuncId} {vs : Array Value} {args : List AV} {L0 : Loc} {u : γ → AV} {Lr : γ → Loc} {a : Act} {w : World} {β : H4} {K : Act → World → Prop} {Q : Exit → Act → World → Prop} (hc : Jr P f args L0 (fun r L' => ∃ p, r = u p ∧ L' = Lr p)) (hsat : Sat w β L)
    (hsub : subL L L0) (hcl : closedIn (inL L0) L0 = true) (hnew : ∀ p, newOk L L0 (Lr p) = true) (hl : vs.size = args.length)
    (hv : ∀ (j : Nat) u v, args[j]? = some u → vs[j]? = some v → V w β L u v ∧ u.refs (inL L0) = true)
    (hK : ∀ u' L' v w' β', (∃ p, u' = u p ∧ L' = Lr p ++ restL L L0) → Sat w' β' L' → Step w β L w' β' L' → V w' β' L' u' v → K (a.put o.dst v) w') :
    Calls P f vs w fun
      | .returned v, w'' => K (a.put o.dst v) w''
      | .panicked chain, w'' => Q (.panic chain) a w''
      | .outgrown, _ => LetsOut Q := by
  refine (frame_core hc hsat (fun id ob h => hsub.get h) (fun id ob h => closedIn.get hcl h) hl hv (fun r L' hR id h => by obtain ⟨p, _, rfl⟩ := hR; exact newOk.get (hnew p) h)).mono fun e w' h => ?_
  obtain ⟨v, r, β', L', rfl, ⟨p, rfl, rfl⟩, h1, h2, h3⟩ := h
  exact hK _ _ v w' _ ⟨p, rfl, rfl⟩ h1 h2 h3

theorem A_callLE {f : FuncId} {xs : List Operand} {args : List AV} {ts : Array TypeId} {L0 : Loc} {u : γ → AV} {Lr : γ → Loc} (ho : o.op = .call { callee := .value (.func f), args := xs.toArray, argTypes := ts }) (hc : Jr P f args L0 (fun r L' => ∃ p, r = u p ∧ L' = Lr p)) (hB : Hb P f = true) (ha : AllIn l L0 xs args)
    (hsub : subL L L0) (hcl : closedIn (inL L0) L0 = true) (hnew : ∀ p, newOk L L0 (Lr p) = true) : Ha P o l L (fun u' L'' => ∃ p, u' = u p ∧ L'' = Lr p ++ restL L L0) := by
  intro a w β K Q hsat hf hK
  have hr : (execOp a.eval o).run P w = .ok (.enter f (xs.toArray.map a.eval)) w := by
    simp [execOp, ho, resolve, Act.eval, Deferred.ofValue, invoke, Hb.out hB]
  unfold Oper.wp
  rw [hr]
  refine call_coreE hc hsat hsub hcl hnew (by simp [ha.length]) (fun j u v hu hv => ?_) hK
  simp only [Array.getElem?_map, List.getElem?_toArray, Option.map_eq_some_iff] at hv
  obtain ⟨x, hx, rfl⟩ := hv
  obtain ⟨h1, h2⟩ := ha.get hx hu
  refine ⟨?_, h2⟩
  rcases h1 with h1 | h1
  · rw [← h1]; exact hf.ev x
  · rw [← h1]; exact (hf.ev x).plain

end calls
end Go.Proofs.YtkfhfoljfbjknaaGreat
