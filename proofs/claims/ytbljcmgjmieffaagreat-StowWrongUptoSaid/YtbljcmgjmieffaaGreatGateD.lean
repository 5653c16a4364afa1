/-
  StowWrong, as it is given: whatever the arguments, the law returns true, and the arguments read as they did. One condition: the arguments hold together at most 1048576 values and letters.
-/
import Derived.Test.YtbljcmgjmieffaaGreatRows
import Derived.Test.YtbljcmgjmieffaaGreatGate
import Derived.Test.YtbljcmgjmieffaaGreatWrongB
import Derived.ChangeSame
import Derived.Carry
import Derived.JoinedCond
set_option linter.unusedSimpArgs false
set_option linter.unnecessarySimpa false
set_option maxRecDepth 100000
set_option linter.unusedVariables false
namespace Go.Proofs.YtbljcmgjmieffaaGreat
open Go.RowKit Go.ChangeShapes Go.WideShapes Go.ChangeAt
namespace GStowWrong
noncomputable section
abbrev MX : Nat := 1048576
theorem one_le {H : Type} (d : DataW H) : 1 ≤ Rows.uptoBulk d := by
  cases d with
  | lit l => cases l <;> simp [Rows.uptoBulk]
  | _ => simp [Rows.uptoBulk]
theorem part_le {H : Type} {d : DataW H} {l : List (DataW H)} (h : d ∈ l) : Rows.uptoBulk d ≤ Rows.uptoBulkAll l := by
  induction l with
  | nil => cases h
  | cons x r ih =>
    simp only [Rows.uptoBulkAll]
    cases List.mem_cons.1 h with
    | inl e => subst e; omega
    | inr e => have := ih e; omega
theorem length_le {H : Type} (l : List (DataW H)) : l.length ≤ Rows.uptoBulkAll l := by
  induction l with
  | nil => simp [Rows.uptoBulkAll]
  | cons x r ih => have := one_le x; simp only [Rows.uptoBulkAll, List.length_cons]; omega
theorem H35 {H : Type} : Had H MX (fun d => Rows.uptoBulk d ≤ 1048576) where
  slice := fun elems spare h _ => by
    simp only [Rows.uptoBulk] at h
    have := length_le elems
    exact ⟨by unfold MX; omega, fun e he => by have := part_le he; omega⟩
  agg := fun parts h p hp => by
    simp only [Rows.uptoBulk] at h
    have := part_le hp
    omega
theorem op5 {n : Nat} {us : List AV} (h : Yy Tryz.prog MX (n + 1) 5 us) : ∃ x : Int, (fun z : Int => (Lit.int .u8 z).wf = true) x ∧ us = [U8 x] := Hbf h Tryz.underlying5
theorem op4 {n : Nat} {us : List AV} (h : Yy Tryz.prog MX (n + 1) 4 us) : ∃ x : Bool, (fun _ : Bool => True) x ∧ us = [BL x] := tells_bool h Tryz.underlying4
structure Gy.ok (x : Gy) : Prop where
  Bay : (fun z : Int => (Lit.int .u8 z).wf = true) x.Bay
  Row : (fun z : Int => (Lit.int .u8 z).wf = true) x.Row
  Tiers : (fun z : Int => (Lit.int .u8 z).wf = true) x.Tiers
  Deck : (fun _ : Bool => True) x.Deck
theorem op107 {n : Nat} {us : List AV} (h : Yy Tryz.prog MX (n + 2) 107 us) : ∃ x : Gy, Gy.ok x ∧ us = x.cs := by
  have h := H95 h Tryz.underlying107
  obtain ⟨u0, r0, e0, _, h0, h⟩ := h
  obtain ⟨x0, o0, rfl⟩ := op5 h0
  obtain ⟨u1, r1, e1, _, h1, h⟩ := h
  obtain ⟨x1, o1, rfl⟩ := op5 h1
  obtain ⟨u2, r2, e2, _, h2, h⟩ := h
  obtain ⟨x2, o2, rfl⟩ := op5 h2
  obtain ⟨u3, r3, e3, _, h3, h⟩ := h
  obtain ⟨x3, o3, rfl⟩ := op4 h3
  have h : r3 = [] := h
  subst h
  subst e3
  subst e2
  subst e1
  subst e0
  exact ⟨⟨x0, x1, x2, x3⟩, ⟨o0, o1, o2, o3⟩, rfl⟩
theorem op22 {n : Nat} {us : List AV} (h : Yy Tryz.prog MX (n + 3) 22 us) : ∃ xs : List Gy, (fun xs : List Gy => (∀ x ∈ xs, Gy.ok x) ∧ xs.length ≤ MX) xs ∧ us = [(LS 4 Gy.av) xs] :=
  J3b (ok := Gy.ok) h Tryz.underlying22 (by kernel_rfl) (fun us h => by
    obtain ⟨x, hx, rfl⟩ := op107 h
    exact ⟨x, hx, el_agg Tryz.underlying107⟩)
theorem op23 {n : Nat} {us : List AV} (h : Yy Tryz.prog MX (n + 1) 23 us) : ∃ x : Int, (fun z : Int => (Lit.int .u32 z).wf = true) x ∧ us = [(fun n => .sc (.int .u32 n)) x] := Hbf h Tryz.underlying23
structure Ga.ok (x : Ga) : Prop where
  G3 : (fun z : Int => (Lit.int .u8 z).wf = true) x.G3
  Kilos : (fun z : Int => (Lit.int .u8 z).wf = true) x.Kilos
  Small : (fun _ : Bool => True) x.Small
  High : (fun _ : Bool => True) x.High
theorem op58 {n : Nat} {us : List AV} (h : Yy Tryz.prog MX (n + 2) 58 us) : ∃ x : Ga, Ga.ok x ∧ us = x.cs := by
  have h := H95 h Tryz.underlying58
  obtain ⟨u0, r0, e0, _, h0, h⟩ := h
  obtain ⟨x0, o0, rfl⟩ := op5 h0
  obtain ⟨u1, r1, e1, _, h1, h⟩ := h
  obtain ⟨x1, o1, rfl⟩ := op5 h1
  obtain ⟨u2, r2, e2, _, h2, h⟩ := h
  obtain ⟨x2, o2, rfl⟩ := op4 h2
  obtain ⟨u3, r3, e3, _, h3, h⟩ := h
  obtain ⟨x3, o3, rfl⟩ := op4 h3
  have h : r3 = [] := h
  subst h
  subst e3
  subst e2
  subst e1
  subst e0
  exact ⟨⟨x0, x1, x2, x3⟩, ⟨o0, o1, o2, o3⟩, rfl⟩
theorem op24 {n : Nat} {us : List AV} (h : Yy Tryz.prog MX (n + 3) 24 us) : ∃ xs : List Ga, (fun xs : List Ga => (∀ x ∈ xs, Ga.ok x) ∧ xs.length ≤ MX) xs ∧ us = [(LS 4 Ga.av) xs] :=
  J3b (ok := Ga.ok) h Tryz.underlying24 (by kernel_rfl) (fun us h => by
    obtain ⟨x, hx, rfl⟩ := op58 h
    exact ⟨x, hx, el_agg Tryz.underlying58⟩)
theorem op3 {n : Nat} {us : List AV} (h : Yy Tryz.prog MX (n + 1) 3 us) : ∃ x : Int, (fun z : Int => (Lit.int .i64 z).wf = true) x ∧ us = [G0 x] := Hbf h Tryz.underlying3
end
theorem fnq : Tryz.prog.funcs[6]? = some Tryz.f6 := Tryz.func6
theorem own : ownKnob Tryz.prog.godebug = none := by kernel_rfl
theorem laidOut : laidOutB Tryz.prog = true := by kernel_rfl
theorem unB : Tryz.prog.underlying 4 = some .bool := by kernel_rfl
theorem sh0 : okSh Tryz.prog 3 22 = true := by kernel_rfl
theorem sh1 : okSh Tryz.prog 1 23 = true := by kernel_rfl
theorem sh2 : okSh Tryz.prog 3 24 = true := by kernel_rfl
theorem sh3 : okSh Tryz.prog 1 5 = true := by kernel_rfl
theorem sh4 : okSh Tryz.prog 1 3 = true := by kernel_rfl

theorem lifted (os : Os) (started : os.Started) (H : Type) (enc : TypeId × Value → H) (F : Stop.Interp) :
    ReturnsInHanded {} Tryz.checked os 6 .any ((Rows.OpenSpec.upto Rows.stowWrongSpec).pre6 enc Tryz.prog Tryz.f6 Rows.stowWrongUptoRow.domain false) (((Rows.OpenSpec.upto Rows.stowWrongSpec).at F).post enc Tryz.prog Tryz.f6 false true false false) := by
  refine returnsInHanded_of_cond (C := Tryz.checked) (s := Rows.OpenSpec.upto Rows.stowWrongSpec) (k := Rows.uptoSmall) rfl own started (by kernel_rfl) Tryz.func6
    (OpenSpec.witness (enc := enc) (C := Tryz.checked) (s := Rows.OpenSpec.upto Rows.stowWrongSpec) (k := Rows.uptoSmall) rfl false ⟨#[], #[.slice none 0 0, .int .u32 0, .slice none 0 0, .int .u8 0, .int .i64 0], []⟩ 8 (by kernel_rfl) (by kernel_rfl) (by kernel_rfl)
      (x := ([.nil, .lit (.int .u32 0), .nil, .lit (.int .u8 0), .lit (.int .i64 0)], [], [])) (by kernel_rfl) rfl (by kernel_rfl)) ?_
  intro W base args ds gs before hval0 hW _ hk _
  show Calls _ _ _ _ fun e W' => ∃ v, e = .returned v ∧ Rows.stowWrongSpec.post enc Tryz.prog Tryz.f6 false true false false W args v W'
  have hval : ∀ (j : Nat) t v, Tryz.f6.params[j]? = some t → args[j]? = some v → Value.okWide Tryz.prog W .any base t v := hval0
  have hW' := hW
  obtain ⟨p, q, hA0, hV, rfl, hfz, hnd⟩ := hW
  have hA : DataW.TrodAll enc Tryz.prog W 0 (fun _ => true) true Tryz.f6.params.toList args.toList ds p := hA0
  rw [Tryz.params6] at hA hval
  obtain ⟨v0, vs0, d0, ds0, p0, q0, hargs, rfl, rfl, h0, r0⟩ := trodAll_cons hA
  obtain ⟨v1, vs1, d1, ds1, p1, q1, rfl, rfl, rfl, h1, r1⟩ := trodAll_cons r0
  obtain ⟨v2, vs2, d2, ds2, p2, q2, rfl, rfl, rfl, h2, r2⟩ := trodAll_cons r1
  obtain ⟨v3, vs3, d3, ds3, p3, q3, rfl, rfl, rfl, h3, r3⟩ := trodAll_cons r2
  obtain ⟨v4, vs4, d4, ds4, p4, q4, rfl, rfl, rfl, h4, r4⟩ := trodAll_cons r3
  obtain ⟨rfl, rfl, rfl⟩ := trodAll_nil r4
  obtain rfl : args = #[v0, v1, v2, v3, v4] := by cases args; simp_all
  obtain ⟨rfl, rfl⟩ := trodVars_none hV
  have hks : Rows.uptoBulkAll [d0, d1, d2, d3, d4] ≤ 1048576 := by
    have := of_decide_eq_true hk
    simpa using this
  simp only [Rows.uptoBulkAll] at hks
  have lt0 : ∀ x ∈ p0, x.block < W.heap.size := by obtain ⟨m, hm⟩ := h0; exact DataW.trod_lt m _ _ _ hm
  obtain ⟨us0, t0, D0⟩ := H43 (S := Jh W ⟨fun _ => none, fun _ _ => False⟩ []) H33 H35 sh0 (hval 0 22 v0 rfl rfl) h0 (show Rows.uptoBulk d0 ≤ 1048576 by omega)
  obtain ⟨a0, o0, e0⟩ := op22 (n := 0) t0
  subst e0
  rw [J57 (by kernel_rfl)] at D0
  have lt1 : ∀ x ∈ p1, x.block < W.heap.size := by obtain ⟨m, hm⟩ := h1; exact DataW.trod_lt m _ _ _ hm
  obtain ⟨us1, t1, D1⟩ := H43 (S := Jh W ⟨fun _ => none, fun _ _ => False⟩ []) H33 H35 sh1 (hval 1 23 v1 rfl rfl) h1 (show Rows.uptoBulk d1 ≤ 1048576 by omega)
  obtain ⟨a1, o1, e1⟩ := op23 (n := 0) t1
  subst e1
  rw [J57 (by kernel_rfl)] at D1
  have lt2 : ∀ x ∈ p2, x.block < W.heap.size := by obtain ⟨m, hm⟩ := h2; exact DataW.trod_lt m _ _ _ hm
  obtain ⟨us2, t2, D2⟩ := H43 (S := Jh W ⟨fun _ => none, fun _ _ => False⟩ []) H33 H35 sh2 (hval 2 24 v2 rfl rfl) h2 (show Rows.uptoBulk d2 ≤ 1048576 by omega)
  obtain ⟨a2, o2, e2⟩ := op24 (n := 0) t2
  subst e2
  rw [J57 (by kernel_rfl)] at D2
  have lt3 : ∀ x ∈ p3, x.block < W.heap.size := by obtain ⟨m, hm⟩ := h3; exact DataW.trod_lt m _ _ _ hm
  obtain ⟨us3, t3, D3⟩ := H43 (S := Jh W ⟨fun _ => none, fun _ _ => False⟩ []) H33 H35 sh3 (hval 3 5 v3 rfl rfl) h3 (show Rows.uptoBulk d3 ≤ 1048576 by omega)
  obtain ⟨a3, o3, e3⟩ := op5 (n := 0) t3
  subst e3
  rw [J57 (by kernel_rfl)] at D3
  have lt4 : ∀ x ∈ p4, x.block < W.heap.size := by obtain ⟨m, hm⟩ := h4; exact DataW.trod_lt m _ _ _ hm
  obtain ⟨us4, t4, D4⟩ := H43 (S := Jh W ⟨fun _ => none, fun _ _ => False⟩ []) H33 H35 sh4 (hval 4 3 v4 rfl rfl) h4 (show Rows.uptoBulk d4 ≤ 1048576 by omega)
  obtain ⟨a4, o4, e4⟩ := op3 (n := 0) t4
  subst e4
  rw [J57 (by kernel_rfl)] at D4
  refine (pure_at (Gac 60 a0 a1 a2 a3 a4 true (lawWrong a0 a1 a2 a3 a4 (fun p hp => ⟨u8r (o0.1 p hp).Bay, u8r (o0.1 p hp).Row, u8r (o0.1 p hp).Tiers⟩) (fun x hx => ⟨u8r (o2.1 x hx).G3, u8r (o2.1 x hx).Kilos⟩) o2.2 (u8r o3) (i64r o4))) rfl (fun j u v hu hv => ?_)).mono fun e W' h => ?_
  · match j, hu, hv with
    | 0, hu, hv => cases hu; cases hv; exact D0
    | 1, hu, hv => cases hu; cases hv; exact D1
    | 2, hu, hv => cases hu; cases hv; exact D2
    | 3, hu, hv => cases hu; cases hv; exact D3
    | 4, hu, hv => cases hu; cases hv; exact D4
    | j + 5, hu, hv => cases hu
  · obtain ⟨v, r, β', he, bel, hv, rfl⟩ := h
    subst he
    cases hv with | data hv => cases hv with | sc =>
    exact ⟨_, rfl, _, _, _, [], _, [], hW', trodAll_mk1 (shut_bool unB _), (trodAll_cons_mk (Below.trod laidOut (by kernel_rfl) (of_decide_eq_true (by kernel_rfl)) h0 bel lt0) (trodAll_cons_mk (Below.trod laidOut (by kernel_rfl) (of_decide_eq_true (by kernel_rfl)) h1 bel lt1) (trodAll_cons_mk (Below.trod laidOut (by kernel_rfl) (of_decide_eq_true (by kernel_rfl)) h2 bel lt2) (trodAll_cons_mk (Below.trod laidOut (by kernel_rfl) (of_decide_eq_true (by kernel_rfl)) h3 bel lt3) (trodAll_cons_mk (Below.trod laidOut (by kernel_rfl) (of_decide_eq_true (by kernel_rfl)) h4 bel lt4) trodAll_mk0))))), rfl, bel.frame _, fun h => by cases h⟩

theorem and_t {a b : Bool} (ha : a = true) (hb : b = true) : (a && b) = true := by rw [ha, hb]; rfl
set_option maxHeartbeats 4000000 in
theorem facts : joinedFacts Tryz.pinned.checked.prog 6 Tryz.f6 (Rows.OpenSpec.upto Rows.stowWrongSpec).bare Rows.stowWrongUptoRow = true := by
  unfold joinedFacts
  repeat' with_reducible refine and_t ?_ ?_
  all_goals as_aux_lemma => kernel_rfl
end GStowWrong

/-- The given statement. -/
theorem stowWrongUpto_holds : Rows.StowWrongUptoSaid :=
  OpenClaim.holds_of_cond 6 Tryz.f6 rfl rfl rfl rfl rfl rfl rfl ⟨rfl, rfl, rfl, rfl, rfl⟩ rfl rfl rfl rfl rfl (by kernel_rfl) Tryz.func6 GStowWrong.facts
    (of_decide_eq_true (by kernel_rfl)) (by unfold Func.isWrapper; first | (rw [if_pos (by decide +kernel)]; kernel_rfl) | (rw [if_neg (by decide +kernel)]; exact ⟨rfl, rfl⟩))
    (fun os started H enc _ F => GStowWrong.lifted os started H enc F)
#print axioms stowWrongUpto_holds
end Go.Proofs.YtbljcmgjmieffaaGreat

