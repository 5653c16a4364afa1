/-
  BoundGroups, as it is given: whatever the arguments, the law returns true, and the arguments read as they did. No condition.
-/
import Derived.Test.YtpbhhakkhlfbnaaRows
import Derived.Test.YtpbhhakkhlfbnaaGate
import Derived.Test.YtpbhhakkhlfbnaaXC
import Derived.Test.YtpbhhakkhlfbnaaLaw27
import Derived.ChangeSame
import Derived.Carry
set_option maxRecDepth 100000
set_option linter.unusedVariables false
namespace Go.Proofs.Ytpbhhakkhlfbnaa
open Go.RowKit Go.ChangeShapes Go.WideShapes Go.ChangeAt
namespace GBoundGroups
noncomputable section
theorem op3 {n : Nat} {us : List AV} (h : Tells Try.prog (n + 1) 3 us) : ∃ x : Int, (fun z : Int => (Lit.int .i64 z).wf = true) x ∧ us = [I64 x] := tells_int h Try.underlying3
theorem op9 {n : Nat} {us : List AV} (h : Tells Try.prog (n + 1) 9 us) : ∃ x : ByteArray, (fun s : ByteArray => s.size ≤ maxLen) x ∧ us = [ST x] := tells_string h Try.underlying9
theorem op5 {n : Nat} {us : List AV} (h : Tells Try.prog (n + 1) 5 us) : ∃ x : Int, (fun z : Int => (Lit.int .u8 z).wf = true) x ∧ us = [U8 x] := tells_int h Try.underlying5
theorem op4 {n : Nat} {us : List AV} (h : Tells Try.prog (n + 1) 4 us) : ∃ x : Bool, (fun _ : Bool => True) x ∧ us = [BL x] := tells_bool h Try.underlying4
structure Box.ok (x : Box) : Prop where
  ID : (fun z : Int => (Lit.int .i64 z).wf = true) x.ID
  Number : (fun s : ByteArray => s.size ≤ maxLen) x.Number
  Size : (fun z : Int => (Lit.int .u8 z).wf = true) x.Size
  High : (fun _ : Bool => True) x.High
  Kilos : (fun z : Int => (Lit.int .i64 z).wf = true) x.Kilos
  Load : (fun z : Int => (Lit.int .i64 z).wf = true) x.Load
  Discharge : (fun z : Int => (Lit.int .i64 z).wf = true) x.Discharge
  Class : (fun z : Int => (Lit.int .u8 z).wf = true) x.Class
  Reefer : (fun _ : Bool => True) x.Reefer
theorem op31 {n : Nat} {us : List AV} (h : Tells Try.prog (n + 2) 31 us) : ∃ x : Box, Box.ok x ∧ us = x.cs := by
  have h := tells_struct h Try.underlying31
  obtain ⟨u0, r0, e0, _, h0, h⟩ := h
  obtain ⟨x0, o0, rfl⟩ := op3 h0
  obtain ⟨u1, r1, e1, _, h1, h⟩ := h
  obtain ⟨x1, o1, rfl⟩ := op9 h1
  obtain ⟨u2, r2, e2, _, h2, h⟩ := h
  obtain ⟨x2, o2, rfl⟩ := op5 h2
  obtain ⟨u3, r3, e3, _, h3, h⟩ := h
  obtain ⟨x3, o3, rfl⟩ := op4 h3
  obtain ⟨u4, r4, e4, _, h4, h⟩ := h
  obtain ⟨x4, o4, rfl⟩ := op3 h4
  obtain ⟨u5, r5, e5, _, h5, h⟩ := h
  obtain ⟨x5, o5, rfl⟩ := op3 h5
  obtain ⟨u6, r6, e6, _, h6, h⟩ := h
  obtain ⟨x6, o6, rfl⟩ := op3 h6
  obtain ⟨u7, r7, e7, _, h7, h⟩ := h
  obtain ⟨x7, o7, rfl⟩ := op5 h7
  obtain ⟨u8, r8, e8, _, h8, h⟩ := h
  obtain ⟨x8, o8, rfl⟩ := op4 h8
  have h : r8 = [] := h
  subst h
  subst e8
  subst e7
  subst e6
  subst e5
  subst e4
  subst e3
  subst e2
  subst e1
  subst e0
  exact ⟨⟨x0, x1, x2, x3, x4, x5, x6, x7, x8⟩, ⟨o0, o1, o2, o3, o4, o5, o6, o7, o8⟩, rfl⟩
theorem op22 {n : Nat} {us : List AV} (h : Tells Try.prog (n + 3) 22 us) : ∃ xs : List Box, (fun xs : List Box => (∀ x ∈ xs, Box.ok x) ∧ xs.length ≤ maxLen) xs ∧ us = [(LS 9 Box.av) xs] :=
  tells_list (ok := Box.ok) h Try.underlying22 (by kernel_rfl) (fun us h => by
    obtain ⟨x, hx, rfl⟩ := op31 h
    exact ⟨x, hx, el_agg Try.underlying31⟩)
structure Group.ok (x : Group) : Prop where
  Load : (fun z : Int => (Lit.int .i64 z).wf = true) x.Load
  Discharge : (fun z : Int => (Lit.int .i64 z).wf = true) x.Discharge
theorem op24 {n : Nat} {us : List AV} (h : Tells Try.prog (n + 2) 24 us) : ∃ x : Group, Group.ok x ∧ us = x.cs := by
  have h := tells_struct h Try.underlying24
  obtain ⟨u0, r0, e0, _, h0, h⟩ := h
  obtain ⟨x0, o0, rfl⟩ := op3 h0
  obtain ⟨u1, r1, e1, _, h1, h⟩ := h
  obtain ⟨x1, o1, rfl⟩ := op3 h1
  have h : r1 = [] := h
  subst h
  subst e1
  subst e0
  exact ⟨⟨x0, x1⟩, ⟨o0, o1⟩, rfl⟩
end
theorem fnq : Try.prog.funcs[3]? = some Try.f3 := Try.func3
theorem own : ownKnob Try.prog.godebug = none := by kernel_rfl
theorem laidOut : laidOutB Try.prog = true := by kernel_rfl
theorem unB : Try.prog.underlying 4 = some .bool := by kernel_rfl
theorem sh0 : okSh Try.prog 3 22 = true := by kernel_rfl
theorem sh1 : okSh Try.prog 2 24 = true := by kernel_rfl
theorem sh2 : okSh Try.prog 2 24 = true := by kernel_rfl

theorem lifted (os : Os) (started : os.Started) (H : Type) (enc : TypeId × Value → H) :
    ReturnsInHanded {} Try.checked os 3 .any (Rows.boundGroupsSpec.pre6 enc Try.prog Try.f3 Rows.boundGroupsRow.domain false) (Rows.boundGroupsSpec.post enc Try.prog Try.f3 false true false false) := by
  refine returnsInHanded_of_change (C := Try.checked) own started (by kernel_rfl) Try.func3
    (ChangeSpec.witness6 (enc := enc) (C := Try.checked) false ⟨#[], #[.slice none 0 0, .agg #[.int .i64 0, .int .i64 0], .agg #[.int .i64 0, .int .i64 0]], []⟩ 8 (by kernel_rfl) (by kernel_rfl) (by kernel_rfl) (by kernel_rfl)) ?_
  intro W base args ds gs before hval0 hW hcnd _
  have hval : ∀ (j : Nat) t v, Try.f3.params[j]? = some t → args[j]? = some v → Value.okWide Try.prog W .any base t v := hval0
  have hW' := hW
  obtain ⟨p, q, hA0, hV, rfl, hfz, hnd⟩ := hW
  have hA : DataW.TrodAll enc Try.prog W 0 (fun _ => true) true Try.f3.params.toList args.toList ds p := hA0
  rw [Try.params3] at hA hval
  obtain ⟨v0, vs0, d0, ds0, p0, q0, hargs, rfl, rfl, h0, r0⟩ := trodAll_cons hA
  obtain ⟨v1, vs1, d1, ds1, p1, q1, rfl, rfl, rfl, h1, r1⟩ := trodAll_cons r0
  obtain ⟨v2, vs2, d2, ds2, p2, q2, rfl, rfl, rfl, h2, r2⟩ := trodAll_cons r1
  obtain ⟨rfl, rfl, rfl⟩ := trodAll_nil r2
  obtain rfl : args = #[v0, v1, v2] := by cases args; simp_all
  obtain ⟨rfl, rfl⟩ := trodVars_none hV
  have lt0 : ∀ x ∈ p0, x.block < W.heap.size := by obtain ⟨m, hm⟩ := h0; exact DataW.trod_lt m _ _ _ hm
  obtain ⟨us0, t0, D0⟩ := arg_fits (S := Stab W ⟨fun _ => none, fun _ _ => False⟩ []) stab_all sh0 (hval 0 22 v0 rfl rfl) h0
  obtain ⟨a0, o0, e0⟩ := op22 (n := 0) t0
  subst e0
  rw [el_one (by kernel_rfl)] at D0
  have lt1 : ∀ x ∈ p1, x.block < W.heap.size := by obtain ⟨m, hm⟩ := h1; exact DataW.trod_lt m _ _ _ hm
  obtain ⟨us1, t1, D1⟩ := arg_fits (S := Stab W ⟨fun _ => none, fun _ _ => False⟩ []) stab_all sh1 (hval 1 24 v1 rfl rfl) h1
  obtain ⟨a1, o1, e1⟩ := op24 (n := 0) t1
  subst e1
  rw [el_agg Try.underlying24] at D1
  have lt2 : ∀ x ∈ p2, x.block < W.heap.size := by obtain ⟨m, hm⟩ := h2; exact DataW.trod_lt m _ _ _ hm
  obtain ⟨us2, t2, D2⟩ := arg_fits (S := Stab W ⟨fun _ => none, fun _ _ => False⟩ []) stab_all sh2 (hval 2 24 v2 rfl rfl) h2
  obtain ⟨a2, o2, e2⟩ := op24 (n := 0) t2
  subst e2
  rw [el_agg Try.underlying24] at D2
  refine (pure_at (M_twistlocklaw27_BoundGroups_w 60 a0 a1 a2 true (law27 a0 a1 a2)) rfl (fun j u v hu hv => ?_)).mono fun e W' h => ?_
  · match j, hu, hv with
    | 0, hu, hv => cases hu; cases hv; exact D0
    | 1, hu, hv => cases hu; cases hv; exact D1
    | 2, hu, hv => cases hu; cases hv; exact D2
    | j + 3, hu, hv => cases hu
  · obtain ⟨v, r, β', he, bel, hv, rfl⟩ := h
    subst he
    cases hv with | data hv => cases hv with | sc =>
    exact ⟨_, rfl, _, _, _, [], _, [], hW', trodAll_mk1 (shut_bool unB _), (trodAll_cons_mk (Below.trod laidOut (by kernel_rfl) (of_decide_eq_true (by kernel_rfl)) h0 bel lt0) (trodAll_cons_mk (Below.trod laidOut (by kernel_rfl) (of_decide_eq_true (by kernel_rfl)) h1 bel lt1) (trodAll_cons_mk (Below.trod laidOut (by kernel_rfl) (of_decide_eq_true (by kernel_rfl)) h2 bel lt2) trodAll_mk0))), rfl, bel.frame _, fun h => by cases h⟩

end GBoundGroups

/-- The given statement. -/
theorem boundGroups_holds : Rows.BoundGroupsSaid :=
  OpenClaim.holds_of_wide 3 Try.f3 rfl rfl rfl rfl rfl rfl rfl ⟨rfl, rfl, rfl, rfl, rfl⟩ rfl rfl rfl rfl rfl (by kernel_rfl) Try.func3 (by kernel_rfl)
    (of_decide_eq_true (by kernel_rfl)) (by unfold Func.isWrapper; first | (rw [if_pos (by decide +kernel)]; kernel_rfl) | (rw [if_neg (by decide +kernel)]; exact ⟨rfl, rfl⟩))
    (fun os started H enc _ => GBoundGroups.lifted os started H enc)
#print axioms boundGroups_holds
end Go.Proofs.Ytpbhhakkhlfbnaa

