/-
 Models of functions of the program, and that they return what the models say.
-/
import Derived.Test.YtlhfflmknlfafaaProg
import Derived.Test.YtlhfflmknlfafaaSortM
import Derived.Test.YtlhfflmknlfafaaSortLay
import Derived.Test.YtlhfflmknlfafaaRel
import Derived.Test.YtlhfflmknlfafaaLit0
import Derived.Test.YtlhfflmknlfafaaXA
import Derived.Test.YtlhfflmknlfafaaSpecA
import Derived.Test.YtlhfflmknlfafaaSpecI
import Derived.Test.YtlhfflmknlfafaaSpecG
import Derived.Test.YtlhfflmknlfafaaXVa
import Derived.Test.YtlhfflmknlfafaaXV
import Derived.Test.YtlhfflmknlfafaaXBa
set_option maxRecDepth 100000
set_option linter.unusedVariables false
set_option linter.unusedSimpArgs false
namespace Go.Proofs.Ytlhfflmknlfafaa
open Go.RowKit
noncomputable section
open XAF
open XVF
open XBF

def M_slices_DeleteFunc_boundCount (F : Nat) (s : List G0) (del : G0 → Option Bool) : Option (List G0) :=
 bnd (M_slices_IndexFunc_boundCount s del) fun r3 =>
 bif decide (r3 = (-1)) then
 (some s)
 else
 (chk (r3 + 1) fun v9 =>
  loop (fun nx48 (s48 : Int × Int × (List G0)) =>
   bif decide (s48.2.1 < (s48.2.2.length : Int)) then
   (jp (fun kj51 =>
     gidx s48.2.2 s48.2.1 fun y53 =>
     bnd (del y53) fun r55 =>
     bif (!r55) then
     (gidx s48.2.2 s48.1 fun y57 =>
      chk (s48.1 + 1) fun v58 =>
      kj51 (v58, (s48.2.2.set s48.1.toNat y53)))
     else
     (kj51 (s48.1, s48.2.2))) fun (j51 : Int × (List G0)) =>
    chk (s48.2.1 + 1) fun v59 =>
    nx48 (j51.1, v59, j51.2))
   else
   (bnd (natIn s48.1 s48.2.2.length) fun m61 =>
    bnd (natIn s48.1 (blank s48.2.2 m61 (s48.2.2.length - m61) (G0.mk (G7.mk 0 0) 0 0)).length) fun m63 =>
    some ((blank s48.2.2 m61 (s48.2.2.length - m61) (G0.mk (G7.mk 0 0) 0 0)).take m63))) F (r3, v9, s))
theorem M_slices_DeleteFunc_boundCount_p140000008 (F : Nat) (s : List G0) (s_q : Nat) (del : G0 → Option Bool) (del_f : FuncId) (del_c : List AV) (del_B : callB Try.prog del_f = true) (del_d : refsL (fun _ => false) del_c = true) (del_w : ∀ a0 q, del a0 = some q → Pure Try.prog del_f ([.agg (G0.cs a0)] ++ del_c) (· = BL q)) (r : (List G0)) (h : M_slices_DeleteFunc_boundCount F s del = some r) : ACalls Try.prog 18 [.vec 1052 s_q 4 s.length, .fn del_f del_c] [(1052, .vec 83 4 s_q (s.map G0.av))] (fun av L' => ∃ p : Nat, av = .vec 1052 p 4 r.length ∧ L' = [(1052, .vec 83 4 p (r.map G0.av))]) := by
 unfold M_slices_DeleteFunc_boundCount at h
 refine ACalls_ofG [1052] [.tmp 4] Try.func18 rfl rfl (inAll rfl) ?_
 refine G6 fun K1 hK1 => G3 ?_
 refine G1 (u := .vec 1066 (([] : List G0).length) 4 (([] : List G0).length)) (A_vnil 1066 83 4 rfl rfl rfl) ?_
 refine G9 (hK1 _ _ ?_)
 refine G6 fun K2 hK2 => G3 ?_
 refine G1 (u := .vec 1052 s_q 4 s.length) (G5 rfl rfl) ?_
 refine G1 (u := .fn del_f del_c) (G5 rfl rfl) ?_
 obtain ⟨r3, hr3, h⟩ := Gg h
 refine G1 (u := G2 r3) (A_callLend (args := [LS 4 G0.av s, .fn del_f del_c]) rfl (M_slices_IndexFunc_boundCount_w s del del_f del_c del_B del_d del_w r3 hr3) tf_call_42 ⟨.vec rfl, .data rfl del_d, trivial⟩ rfl) ?_
 refine G1 (u := G2 r3) (Ga rfl rfl) ?_
 refine G9 (hK2 _ _ ?_)
 refine G6 (fun K4 hK4 => ?_)
 refine G6 fun K5 hK5 => G3 ?_
 refine G1 (u := G2 r3) (G5 rfl rfl) ?_
 refine G1 (u := BL (decide (r3 = (-1)))) (Jb rfl rfl rfl) ?_
 refine G9 (hK5 _ _ ?_)
 refine Gm rfl (fun hb => ?_) (fun hb => ?_)
 ·
  replace h := bif_t hb h
  refine G6 fun K6 hK6 => G3 ?_
  refine G1 (u := .vec 1052 s_q 4 s.length) (G5 rfl rfl) ?_
  refine G1 (u := .vec 1052 s_q 4 s.length) (Ga rfl rfl) ?_
  refine G9 (hK6 _ _ ?_)
  refine JC_vlen 4 rfl rfl (fun hn_ => ?_)
  refine Gt ?_
  obtain rfl := Option.some.inj h
  exact ⟨[.vec 1052 s_q 4 s.length], [(1052, .vec 83 4 s_q (s.map G0.av))], ⟨⟨_, rfl, .vec⟩, trivial⟩, rfl, ⟨⟨_, rfl, .conv (.same rfl)⟩, trivial⟩, s_q, congrArg (fun n_ : Nat => (.vec 1052 s_q 4 n_ : AV)) (hn_.trans (List.length_map _)), rfl⟩
 ·
  replace h := bif_f hb h
  refine Gp ?_
  refine hK4 _ _ ?_
  refine G6 (fun K7 hK7 => ?_)
  refine G6 fun K8 hK8 => G3 ?_
  refine G1 (u := G2 r3) (G5 rfl rfl) ?_
  obtain ⟨v9, hv9, h⟩ := Gy h
  refine G1 (u := G2 v9) (H7 hv9 rfl rfl rfl) ?_
  refine G1 (u := G2 v9) (Ga rfl rfl) ?_
  refine G9 (hK8 _ _ ?_)
  refine Gk ?_
  obtain ⟨b48, hb48, h⟩ := loop_in h
  refine H2 (fun i48 (s48 : Int × Int × (List G0)) => loop b48 i48 s48 = some r) (fun i48 s48 => [(0, .vec 1052 s_q 4 s.length), (1, .fn del_f del_c), (5, G2 s48.1), (6, G2 s48.2.1)]) (fun i48 s48 => [(1052, .vec 83 4 s_q (s48.2.2.map G0.av)), (1066, .vec 83 4 (([] : List G0).length) (([] : List G0).map G0.av))]) (fun i48 => i48) F (r3, v9, s) h ⟨⟨.same rfl, .same (refsL_any _ _ del_d), .same rfl, .same rfl, trivial⟩, ⟨⟨_, rfl, .vec⟩, ⟨_, rfl, .vec⟩, trivial⟩, rfl⟩ ?_
  clear h
  intro i48 s48 hi48 K48 e48
  obtain ⟨m48, nx48, hm_48, hn48, h⟩ := loop_out hi48
  replace h := app2 hb48 h
  refine G6 (fun K49 hK49 => ?_)
  refine G6 fun K50 hK50 => G3 ?_
  refine G1 (u := G2 s48.2.1) (G5 rfl rfl) ?_
  refine G1 (u := .vec 1052 s_q 4 s.length) (G5 rfl rfl) ?_
  refine JL_vlenM (f := G0.av) (xs := s48.2.2) Gs rfl rfl rfl (fun hm18 => ?_) rfl rfl rfl
  refine G1 (u := BL (decide (s48.2.1 < (s48.2.2.length : Int)))) (Hg rfl rfl rfl) ?_
  refine G9 (hK50 _ _ ?_)
  refine Gm rfl (fun hb => ?_) (fun hb => ?_)
  ·
   replace h := bif_t hb h
   refine Gp ?_
   refine hK49 _ _ ?_
   obtain ⟨kj51, hkj51, h⟩ := Jf h
   refine Ht (fun j51 : Int × (List G0) => kj51 j51 = some r) (fun j51 => [(0, .vec 1052 s_q 4 s.length), (1, .fn del_f del_c), (5, G2 j51.1), (6, G2 s48.2.1)]) (fun j51 => [(1052, .vec 83 4 s_q (j51.2.map G0.av)), (1066, .vec 83 4 (([] : List G0).length) (([] : List G0).map G0.av))]) (fun Kj51 ej51 => ?_) ?_
   ·
    refine Gk ?_
    refine G6 fun K52 hK52 => G3 ?_
    refine G1 (u := .vec 1052 s_q 4 s.length) (G5 rfl rfl) ?_
    refine G1 (u := G2 s48.2.1) (G5 rfl rfl) ?_
    obtain ⟨y53, hmy53, hy53, h⟩ := J6 h
    refine G1 (u := .vptr 1052 s_q s48.2.1.toNat 0) (J1 (f := G0.av) (xs := s48.2.2) (y := y53) rfl rfl rfl rfl Gs hy53 hmy53) ?_
    refine G1 (u := .agg (G0.cs y53)) (A_vloadAggM (f := G0.av) (xs := s48.2.2) (y := y53) Hv rfl rfl rfl hy53 rfl rfl) ?_
    refine G1 (u := .ptr 1067 0) (H8 1067 4 Hw rfl rfl) ?_
    refine H6 (u := .junk) (Gz (u := .agg (G0.cs y53)) (ds := [G2 y53.G7.Load, G2 y53.G7.Discharge, G2 y53.Whole, G2 y53.Half]) tf_size_83 rfl rfl rfl rfl rfl rfl rfl rfl) ?_
    refine G9 (hK52 _ _ ?_)
    refine Gq [(0, .vec 1052 s_q 4 s.length), (1, .fn del_f del_c), (5, G2 s48.1), (6, G2 s48.2.1), (7, .dptr (G0.cs y53))] [(1052, .vec 83 4 s_q (s48.2.2.map G0.av)), (1066, .vec 83 4 (([] : List G0).length) (([] : List G0).map G0.av))] 1067 rfl rfl rfl ⟨⟨_, rfl, .vec⟩, ⟨_, rfl, .vec⟩, trivial⟩ rfl (by exact ⟨.conv (.same rfl), .conv (.same (refsL_any _ _ del_d)), .conv (.same rfl), .conv (.same rfl), .ptr, trivial⟩) ?_
    refine G6 fun K54 hK54 => G3 ?_
    refine G1 (u := .fn del_f del_c) (G5 rfl rfl) ?_
    refine G1 (u := .agg (G0.cs y53)) (Gf Hv rfl rfl rfl) ?_
    obtain ⟨r55, hr55, h⟩ := Gg h
    refine G1 (u := BL r55) (A_callV1 (args := [.agg (G0.cs y53)]) (caps := del_c) rfl rfl (del_w y53 _ hr55) del_B ⟨rfl, rfl, trivial⟩ del_d) ?_
    refine G1 (u := BL (!r55)) (A_not (b := r55) rfl rfl) ?_
    refine G9 (hK54 _ _ ?_)
    refine Gm rfl (fun hb => ?_) (fun hb => ?_)
    ·
     replace h := bif_t hb h
     refine G6 fun K56 hK56 => G3 ?_
     refine G1 (u := .vec 1052 s_q 4 s.length) (G5 rfl rfl) ?_
     refine G1 (u := G2 s48.1) (G5 rfl rfl) ?_
     refine G1 (u := .agg (G0.cs y53)) (Gf Hv rfl rfl rfl) ?_
     obtain ⟨y57, hmy57, hy57, h⟩ := J6 h
     refine G1 (u := .vptr 1052 s_q s48.1.toNat 0) (J1 (f := G0.av) (xs := s48.2.2) (y := y57) rfl rfl rfl rfl Gs hy57 hmy57) ?_
     refine H6 (u := .junk) (A_vstoreM (f := G0.av) (xs := s48.2.2) (z := y53) tf_size_83 rfl rfl rfl rfl (List.getElem?_eq_some_iff.1 hy57).1 rfl rfl rfl rfl) ?_
     refine G9 (hK56 _ _ ?_)
     refine G3 ?_
     refine G1 (u := G2 s48.1) (G5 rfl rfl) ?_
     obtain ⟨v58, hv58, h⟩ := Gy h
     refine G1 (u := G2 v58) (H7 hv58 rfl rfl rfl) ?_
     refine G1 (u := G2 v58) (Ga rfl rfl) ?_
     refine G9 ?_
     exact ej51 _ _ (v58, (s48.2.2.set s48.1.toNat y53)) h ⟨⟨.same rfl, .same (refsL_any _ _ del_d), .same rfl, .same rfl, trivial⟩, ⟨⟨_, rfl, .vec⟩, ⟨_, rfl, .vec⟩, trivial⟩, rfl⟩
    ·
     replace h := bif_f hb h
     refine Gp ?_
     exact ej51 _ _ (s48.1, s48.2.2) h ⟨⟨.same rfl, .same (refsL_any _ _ del_d), .same rfl, .same rfl, trivial⟩, ⟨⟨_, rfl, .vec⟩, ⟨_, rfl, .vec⟩, trivial⟩, rfl⟩
   ·intro j51 h
    replace h := app1 hkj51 h
    refine G3 ?_
    refine G1 (u := G2 s48.2.1) (G5 rfl rfl) ?_
    obtain ⟨v59, hv59, h⟩ := Gy h
    refine G1 (u := G2 v59) (H7 hv59 rfl rfl rfl) ?_
    refine G1 (u := G2 v59) (Ga rfl rfl) ?_
    refine G9 ?_
    exact e48 _ _ m48 (j51.1, v59, j51.2) (app1 hn48 h) (by omega) ⟨⟨.same rfl, .same (refsL_any _ _ del_d), .same rfl, .same rfl, trivial⟩, ⟨⟨_, rfl, .vec⟩, ⟨_, rfl, .vec⟩, trivial⟩, rfl⟩
  ·
   replace h := bif_f hb h
   refine H4 ?_
   refine hK7 _ _ ?_
   refine G6 fun K60 hK60 => G3 ?_
   refine G1 (u := .vec 1052 s_q 4 s.length) (G5 rfl rfl) ?_
   refine G1 (u := G2 s48.1) (G5 rfl rfl) ?_
   obtain ⟨m61, hm61, h⟩ := Gg h
   refine G1 (u := .vsl 1052 s_q 4 m61 (s48.2.2.length - m61)) (A_vsubLoM (f := G0.av) (xs := s48.2.2) rfl rfl rfl rfl Gs (natIn_out hm61)) ?_
   refine H6 (u := .tup []) (A_clearM (f := G0.av) (xs := s48.2.2) (off := m61) (n := (s48.2.2.length - m61)) (G0.mk (G7.mk 0 0) 0 0) [.int .i64 0, .int .i64 0, .int .i64 0, .int .i64 0] rfl Gs (.inr rfl) rfl tf_zero_83 rfl rfl rfl ⟨.inl rfl, .inl rfl, .inl rfl, .inl rfl, trivial⟩) ?_
   refine G9 (hK60 _ _ ?_)
   refine G6 fun K62 hK62 => G3 ?_
   refine G1 (u := .vec 1052 s_q 4 s.length) (G5 rfl rfl) ?_
   refine G1 (u := G2 s48.1) (G5 rfl rfl) ?_
   obtain ⟨m63, hm63, h⟩ := Gg h
   refine G1 (u := .vec 1052 (s_q + 1) 4 (((blank s48.2.2 m61 (s48.2.2.length - m61) (G0.mk (G7.mk 0 0) 0 0)).take m63).length)) (A_vtakeM (f := G0.av) (xs := (blank s48.2.2 m61 (s48.2.2.length - m61) (G0.mk (G7.mk 0 0) 0 0))) rfl rfl rfl rfl Gs (natIn_out hm63)) ?_
   refine G1 (u := .vec 1052 (s_q + 1) 4 (((blank s48.2.2 m61 (s48.2.2.length - m61) (G0.mk (G7.mk 0 0) 0 0)).take m63).length)) (Ga rfl rfl) ?_
   refine G9 (hK62 _ _ ?_)
   refine JC_vlen 4 rfl rfl (fun hn_ => ?_)
   refine Gt ?_
   obtain rfl := Option.some.inj h
   exact ⟨[.vec 1052 (s_q + 1) 4 (((blank s48.2.2 m61 (s48.2.2.length - m61) (G0.mk (G7.mk 0 0) 0 0)).take m63).length)], [(1052, .vec 83 4 (s_q + 1) (((blank s48.2.2 m61 (s48.2.2.length - m61) (G0.mk (G7.mk 0 0) 0 0)).take m63).map G0.av))], ⟨⟨_, rfl, .vec⟩, trivial⟩, rfl, ⟨⟨_, rfl, .conv (.same rfl)⟩, trivial⟩, (s_q + 1), congrArg (fun n_ : Nat => (.vec 1052 (s_q + 1) 4 n_ : AV)) (hn_.trans (List.length_map _)), rfl⟩

def M_bound_Find (F : Nat) (s : Ship) (boxes : List Box) : Option ((List (List G7)) × Int × Int) :=
 bnd (M_bound_right s boxes) fun r4 =>
 bif (!r4) then
 (some ([], 0, 2))
 else
 (bnd (S_bound_Groups boxes) fun r8 =>
  loop (fun nx10 (s10 : (List (List G7)) × Int × (List G0)) =>
   need (decide (20 ≤ 9223372036854775807)) <|
   upto (fun i24 (s24 : (List (List G0))) nx24 =>
    bnd (M_bound_chain F s10.2.2 (i24 : Int)) fun r29 =>
    need (decide ((s24.length + [r29].length) * 24 ≤ 140737488355328 ∧ s24.length + [r29].length ≤ maxLen)) <|
    nx24 (s24 ++ [r29]))
   (fun (s24 : (List (List G0))) =>
    bnd (M_bound_greatest_boundCount s24 (fun z0 => M_bound_Find_1 F z0 s)) fun r32 =>
    bif decide (r32.2 = 0) then
    (some (s10.1, s10.2.1, 0))
    else
    (each (fun y63 i63 (s63 : (List G7)) nx63 =>
      need (decide ((s63.length + [y63.G7].length) * 16 ≤ 140737488355328 ∧ s63.length + [y63.G7].length ≤ maxLen)) <|
      nx63 (s63 ++ [y63.G7]))
     (fun (s63 : (List G7)) =>
      need (decide ((s10.1.length + [s63].length) * 24 ≤ 140737488355328 ∧ s10.1.length + [s63].length ≤ maxLen)) <|
      chk (s10.2.1 + r32.2) fun v71 =>
      bnd (M_slices_DeleteFunc_boundCount F s10.2.2 (fun z0 => M_bound_Find_2 z0 s63)) fun r72 =>
      nx10 ((s10.1 ++ [s63]), v71, r72)) r32.1 0 [])) (20 : Int).toNat 0 []) F ([], 0, r8))
theorem M_bound_Find_w (F : Nat) (s : Ship) (boxes : List Box) (r : (List (List G7)) × Int × Int) (h : M_bound_Find F s boxes = some r) : Pure Try.prog 6 [.agg (Ship.cs s), LS 9 Box.av boxes] (· = .tup [LS 1 (LS 2 G7.av) r.1, G2 r.2.1, G2 r.2.2]) := by
 unfold M_bound_Find at h
 refine H0 [.tmp 4, .tmp 5, .tmp 6] Try.func6 rfl rfl ?_
 refine G6 fun K1 hK1 => G3 ?_
 refine G1 (u := .ptr 1023 0) (J2 (u := .agg (Ship.cs s)) (cs := (Ship.cs s)) 1023 rfl rfl rfl rfl rfl) ?_
 refine G1 (u := LS 1 (LS 2 G7.av) ([] : List (List G7))) (J4 1 rfl rfl) ?_
 refine G1 (u := G2 0) (Ga rfl rfl) ?_
 refine G1 (u := G2 0) (Ga rfl rfl) ?_
 refine G9 (hK1 _ _ ?_)
 refine Gq [(1, LS 9 Box.av boxes), (2, .dptr (Ship.cs s))] [] 1023 rfl rfl rfl trivial rfl (by exact ⟨.conv (.same rfl), .ptr, trivial⟩) ?_
 refine G6 (fun K2 hK2 => ?_)
 refine G6 fun K3 hK3 => G3 ?_
 refine G1 (u := .agg (Ship.cs s)) (Gf Hh rfl rfl rfl) ?_
 refine G1 (u := LS 9 Box.av boxes) (G5 rfl rfl) ?_
 obtain ⟨r4, hr4, h⟩ := Gg h
 refine G1 (u := BL r4) (Gu (args := [.agg (Ship.cs s), LS 9 Box.av boxes]) rfl (M_bound_right_w s boxes r4 hr4) tf_call_12 ⟨rfl, rfl, rfl, rfl, trivial⟩) ?_
 refine G1 (u := BL (!r4)) (A_not (b := r4) rfl rfl) ?_
 refine G9 (hK3 _ _ ?_)
 refine Gm rfl (fun hb => ?_) (fun hb => ?_)
 ·
  replace h := bif_t hb h
  refine G6 fun K5 hK5 => G3 ?_
  refine G1 (u := LS 1 (LS 2 G7.av) ([] : List (List G7))) (J4 1 rfl rfl) ?_
  refine G1 (u := G2 0) (Ga rfl rfl) ?_
  refine G1 (u := G2 2) (Ga rfl rfl) ?_
  refine G9 (hK5 _ _ ?_)
  refine Gt ?_
  exact ⟨[LS 1 (LS 2 G7.av) ([] : List (List G7)), G2 0, G2 2], [], trivial, rfl, ⟨⟨_, rfl, .conv (.same rfl)⟩, ⟨_, rfl, .conv (.same rfl)⟩, ⟨_, rfl, .conv (.same rfl)⟩, trivial⟩, rfl, congrArg (fun r : (List (List G7)) × Int × Int => (.tup [LS 1 (LS 2 G7.av) r.1, G2 r.2.1, G2 r.2.2] : AV)) (Option.some.inj h)⟩
 ·
  replace h := bif_f hb h
  refine Gp ?_
  refine hK2 _ _ ?_
  refine G6 fun K6 hK6 => G3 ?_
  refine G1 (u := OW 1024 1 (LS 2 G7.av) ([] : List (List G7))) (A_nilOwn 1024 52 1 rfl rfl rfl) ?_
  refine G9 (hK6 _ _ ?_)
  refine G6 fun K7 hK7 => G3 ?_
  refine G1 (u := LS 9 Box.av boxes) (G5 rfl rfl) ?_
  obtain ⟨r8, hr8, h⟩ := Gg h
  refine JL_step rfl rfl rfl (A_callLE (args := [LS 9 Box.av boxes]) (L0 := []) (u := fun p => .vec 1052 p 4 r8.length) (Lr := fun p => [(1052, .vec 83 4 p (r8.map G0.av))]) rfl (S_bound_Groups_n.down boxes r8 hr8) tf_call_13 ⟨.inl rfl, rfl, trivial⟩ trivial rfl (fun _ => rfl)) ?_
  rintro u_ L_ ⟨v9, rfl, rfl⟩
  refine G1 (u := G2 0) (Ga rfl rfl) ?_
  refine G1 (u := .vec 1052 v9 4 r8.length) (Ga rfl rfl) ?_
  refine G9 (hK7 _ _ ?_)
  refine Gk ?_
  obtain ⟨b10, hb10, h⟩ := loop_in h
  refine H2 (fun i10 (q10 : ((List (List G7)) × Int × (List G0)) × Nat) => (fun (s10 : (List (List G7)) × Int × (List G0)) => loop b10 i10 s10 = some r) q10.1) (fun i10 q10 => (fun (s10 : (List (List G7)) × Int × (List G0)) (gv10 : Nat) => [(2, .dptr (Ship.cs s)), (7, OW 1024 1 (LS 2 G7.av) s10.1), (8, G2 s10.2.1), (9, .vec 1052 gv10 4 s10.2.2.length)]) q10.1 q10.2) (fun i10 q10 => (fun (s10 : (List (List G7)) × Int × (List G0)) (gv10 : Nat) => [(1024, .spare 52 1 s10.1.length s10.1.length), (1052, .vec 83 4 gv10 (s10.2.2.map G0.av))]) q10.1 q10.2) (fun i10 => i10) F (([], 0, r8), v9) h ⟨(by repeat' constructor), ⟨⟨_, rfl, .same⟩, ⟨_, rfl, .vec⟩, trivial⟩, rfl⟩ ?_
  clear h
  rintro i10 ⟨s10, gv10⟩ hi10 K10 e10
  replace hi10 : loop b10 i10 s10 = some r := hi10
  change JC _ _ _ _ [(2, .dptr (Ship.cs s)), (7, OW 1024 1 (LS 2 G7.av) s10.1), (8, G2 s10.2.1), (9, .vec 1052 gv10 4 s10.2.2.length)] [(1024, .spare 52 1 s10.1.length s10.1.length), (1052, .vec 83 4 gv10 (s10.2.2.map G0.av))]
  obtain ⟨m10, nx10, hm_10, hn10, h⟩ := loop_out hi10
  replace h := app2 hb10 h
  refine Gk ?_
  refine G6 fun K11 hK11 => G3 ?_
  refine G1 (u := OW 1025 1 (LS 4 G0.av) ([] : List (List G0))) (A_nilOwn 1025 74 1 rfl rfl rfl) ?_
  refine G9 (hK11 _ _ ?_)
  refine G6 (fun K12 hK12 => ?_)
  refine G6 fun K13 hK13 => G3 ?_
  refine G1 (u := G2 0) (G5 rfl rfl) ?_
  refine G9 (hK13 _ _ ?_)
  refine Gk ?_
  obtain ⟨hx24, h⟩ := He h
  obtain ⟨b24, kx24, hb24, hkx24, h⟩ := upto_in h
  refine H2 (fun i24 (s24 : (List (List G0))) => upto b24 kx24 ((20 : Int).toNat - i24) i24 s24 = some r) (fun i24 s24 => [(2, .dptr (Ship.cs s)), (7, OW 1024 1 (LS 2 G7.av) s10.1), (8, G2 s10.2.1), (9, .vec 1052 gv10 4 s10.2.2.length), (10, OW 1025 1 (LS 4 G0.av) s24), (23, G2 (i24 : Int))]) (fun i24 s24 => [(1024, .spare 52 1 s10.1.length s10.1.length), (1052, .vec 83 4 gv10 (s10.2.2.map G0.av)), (1025, .spare 74 1 s24.length s24.length)]) (fun i24 => (20 : Int).toNat - i24) 0 [] h ⟨(by repeat' constructor), ⟨⟨_, rfl, .same⟩, ⟨_, rfl, .vec⟩, ⟨_, rfl, .same⟩, trivial⟩, rfl⟩ ?_
  clear h
  intro i24 s24 hi24 K24 e24
  refine G6 fun K25 hK25 => G3 ?_
  refine G1 (u := BL (decide ((i24 : Int) < 20))) (Hg rfl rfl rfl) ?_
  refine G9 (hK25 _ _ ?_)
  refine G6 (fun K26 hK26 => ?_)
  refine Gm rfl (fun hb => ?_) (fun hb => ?_)
  ·
   have hk24 := lt_toNat hb
   obtain ⟨nx24, hn24, h⟩ := upto_out hi24 hk24
   replace h := app3 hb24 h
   refine Gp ?_
   refine hK26 _ _ ?_
   refine G6 (fun K27 hK27 => ?_)
   refine Gk ?_
   refine G6 fun K28 hK28 => G3 ?_
   refine G1 (u := G2 (i24 : Int)) (G5 rfl rfl) ?_
   refine G1 (u := G2 (i24 : Int)) (Ga rfl rfl) ?_
   refine G9 (hK28 _ _ ?_)
   refine G3 ?_
   refine G1 (u := OW 1025 1 (LS 4 G0.av) s24) (G5 rfl rfl) ?_
   refine G1 (u := .vec 1052 gv10 4 s10.2.2.length) (G5 rfl rfl) ?_
   refine G1 (u := G2 (i24 : Int)) (G5 rfl rfl) ?_
   obtain ⟨r29, hr29, h⟩ := Gg h
   refine G1 (u := LS 4 G0.av r29) (A_callL (args := [.vec 1052 gv10 4 s10.2.2.length, G2 (i24 : Int)]) (L0 := [(1052, .vec 83 4 gv10 (s10.2.2.map G0.av))]) (Lr := [(1052, .vec 83 4 gv10 (s10.2.2.map G0.av))]) rfl (M_bound_chain_p140000008 F s10.2.2 gv10 (i24 : Int) r29 hr29) tf_call_14 ⟨.inl rfl, rfl, .inl rfl, rfl, trivial⟩ ⟨rfl, trivial⟩ rfl rfl rfl) ?_
   refine G1 (u := LS 1 (LS 4 G0.av) [r29]) (H1 (xs := [LS 4 G0.av r29]) rfl ⟨rfl, rfl, trivial⟩ tf_slice_76 tf_zsize_74 rfl rfl rfl rfl) ?_
   obtain ⟨ha30, h⟩ := He h
   refine G1 (u := OW 1025 1 (LS 4 G0.av) (s24 ++ [r29])) (Hs (f := (LS 4 G0.av)) (xs := s24) (ys := [r29]) rfl rfl rfl rfl tf_slice_76 tf_elem_74 ha30 (fun _ => rfl) (.inl rfl) rfl) ?_
   refine G1 (u := OW 1025 1 (LS 4 G0.av) (s24 ++ [r29])) (Ga rfl rfl) ?_
   refine G9 (hK27 _ _ ?_)
   refine G3 ?_
   refine G1 (u := G2 ((i24 + 1 : Nat) : Int)) (H7 (idx_succ hk24 (toNat_max hx24)) rfl rfl rfl) ?_
   refine G1 (u := G2 ((i24 + 1 : Nat) : Int)) (G5 rfl rfl) ?_
   refine G9 ?_
   exact e24 _ _ (i24 + 1) (s24 ++ [r29]) (app1 hn24 h) (by omega) ⟨(by repeat' constructor), ⟨⟨_, rfl, .same⟩, ⟨_, rfl, .vec⟩, ⟨_, rfl, .same⟩, trivial⟩, rfl⟩
  ·
   have h := app1 hkx24 (upto_nil hi24 (not_lt_toNat hb))
   refine H4 ?_
   refine hK12 _ _ ?_
   refine G6 fun K31 hK31 => G3 ?_
   refine G1 (u := OW 1025 1 (LS 4 G0.av) s24) (G5 rfl rfl) ?_
   refine G1 (u := .fn 16 [.dptr (Ship.cs s)]) (A_makeFunc (cs := [.dptr (Ship.cs s)]) rfl rfl) ?_
   obtain ⟨r32, hr32, h⟩ := Gg h
   refine G1 (u := .tup [LS 4 G0.av r32.1, G2 r32.2]) (Gu (args := [LS 1 (LS 4 G0.av) s24, .fn 16 [.dptr (Ship.cs s)]]) rfl (M_bound_greatest_boundCount_w s24 (fun z0 => M_bound_Find_1 F z0 s) 16 [.dptr (Ship.cs s)] tf_call_16 rfl (fun z0 q hq => M_bound_Find_1_w F z0 s q hq) r32 hr32) tf_call_15 ⟨rfl, rfl, rfl, rfl, trivial⟩) ?_
   refine G1 (u := .tup [LS 4 G0.av r32.1, G2 r32.2]) (G5 rfl rfl) ?_
   refine G1 (u := LS 4 G0.av r32.1) (Gx rfl rfl rfl) ?_
   refine G1 (u := G2 r32.2) (Gx rfl rfl rfl) ?_
   refine G1 (u := LS 4 G0.av r32.1) (Ga rfl rfl) ?_
   refine G1 (u := G2 r32.2) (Ga rfl rfl) ?_
   refine G9 (hK31 _ _ ?_)
   refine G6 (fun K33 hK33 => ?_)
   refine G6 fun K34 hK34 => G3 ?_
   refine G1 (u := G2 r32.2) (G5 rfl rfl) ?_
   refine G1 (u := BL (decide (r32.2 = 0))) (Jb rfl rfl rfl) ?_
   refine G9 (hK34 _ _ ?_)
   refine Gm rfl (fun hb => ?_) (fun hb => ?_)
   ·
    replace h := bif_t hb h
    refine G6 fun K35 hK35 => G3 ?_
    refine G1 (u := OW 1024 1 (LS 2 G7.av) s10.1) (G5 rfl rfl) ?_
    refine G1 (u := G2 s10.2.1) (G5 rfl rfl) ?_
    refine G1 (u := OW 1024 1 (LS 2 G7.av) s10.1) (Ga rfl rfl) ?_
    refine G1 (u := G2 s10.2.1) (Ga rfl rfl) ?_
    refine G1 (u := G2 0) (Ga rfl rfl) ?_
    refine G9 (hK35 _ _ ?_)
    refine Gt ?_
    exact ⟨[LS 1 (LS 2 G7.av) s10.1, G2 s10.2.1, G2 0], [], trivial, rfl, ⟨⟨_, rfl, .conv (.list rfl)⟩, ⟨_, rfl, .conv (.same rfl)⟩, ⟨_, rfl, .conv (.same rfl)⟩, trivial⟩, rfl, congrArg (fun r : (List (List G7)) × Int × Int => (.tup [LS 1 (LS 2 G7.av) r.1, G2 r.2.1, G2 r.2.2] : AV)) (Option.some.inj h)⟩
   ·
    replace h := bif_f hb h
    refine Gp ?_
    refine hK33 _ _ ?_
    refine G6 fun K36 hK36 => G3 ?_
    refine G1 (u := .ptr 1026 0) (A_allocZ 1026 [.sc (.slice none 0 0)] [.slice none 0 0] tf_zero_52 ⟨.inl rfl, trivial⟩ rfl rfl) ?_
    refine JL_ownCell 1026 0 1028 56 2 rfl rfl rfl (cs' := [OW 1028 2 G7.av ([] : List G7)]) rfl ?_
    refine G9 (hK36 _ _ ?_)
    refine G6 (fun K37 hK37 => ?_)
    refine G6 fun K38 hK38 => G3 ?_
    refine G1 (u := LS 4 G0.av r32.1) (G5 rfl rfl) ?_
    refine H9 (f := G0.av) (xs := r32.1) Gs rfl rfl (fun hm44 => ?_) rfl rfl rfl
    refine G1 (u := G2 0) (G5 rfl rfl) ?_
    refine G9 (hK38 _ _ ?_)
    refine Gk ?_
    obtain ⟨b63, kx63, hb63, hkx63, h⟩ := Hj h
    refine H2 (fun i63 (s63 : (List G7)) => each b63 kx63 (List.drop i63 r32.1) i63 s63 = some r) (fun i63 s63 => [(2, .dptr (Ship.cs s)), (7, OW 1024 1 (LS 2 G7.av) s10.1), (8, G2 s10.2.1), (9, .vec 1052 gv10 4 s10.2.2.length), (13, G2 r32.2), (14, .ptr 1026 0), (43, LS 4 G0.av r32.1), (44, G2 (r32.1.length : Int)), (45, G2 (i63 : Int))]) (fun i63 s63 => [(1024, .spare 52 1 s10.1.length s10.1.length), (1052, .vec 83 4 gv10 (s10.2.2.map G0.av)), (1028, .spare 56 2 s63.length s63.length), (1026, .box 52 [OW 1028 2 G7.av s63])]) (fun i63 => r32.1.length - i63) 0 [] h ⟨(by repeat' constructor), ⟨⟨_, rfl, .same⟩, ⟨_, rfl, .vec⟩, ⟨_, rfl, .same⟩, ⟨_, rfl, .boxL rfl ⟨.same rfl, trivial⟩⟩, trivial⟩, rfl⟩ ?_
    clear h
    intro i63 s63 hi63 K63 e63
    refine G6 fun K64 hK64 => G3 ?_
    refine G1 (u := BL (decide ((i63 : Int) < (r32.1.length : Int)))) (Hg rfl rfl rfl) ?_
    refine G9 (hK64 _ _ ?_)
    refine G6 (fun K65 hK65 => ?_)
    refine Gm rfl (fun hb => ?_) (fun hb => ?_)
    ·
     have hk63 := lt_len hb
     obtain ⟨y63, nx63, hy63, hn63, h⟩ := Hc hi63 hk63
     replace h := app4 hb63 h
     refine Gp ?_
     refine hK65 _ _ ?_
     refine G6 (fun K66 hK66 => ?_)
     refine Gk ?_
     refine G6 fun K67 hK67 => G3 ?_
     refine G1 (u := .dptr (G0.cs y63)) (Gw (f := G0.av) (xs := r32.1) (y := y63) rfl rfl rfl Gs hy63 rfl) ?_
     refine G1 (u := .agg (G0.cs y63)) (Gf Hv rfl rfl rfl) ?_
     refine G1 (u := .ptr 1027 0) (H8 1027 4 Hw rfl rfl) ?_
     refine H6 (u := .junk) (Gz (u := .agg (G0.cs y63)) (ds := [G2 y63.G7.Load, G2 y63.G7.Discharge, G2 y63.Whole, G2 y63.Half]) tf_size_83 rfl rfl rfl rfl rfl rfl rfl rfl) ?_
     refine G9 (hK67 _ _ ?_)
     refine Gq [(2, .dptr (Ship.cs s)), (7, OW 1024 1 (LS 2 G7.av) s10.1), (8, G2 s10.2.1), (9, .vec 1052 gv10 4 s10.2.2.length), (13, G2 r32.2), (14, .ptr 1026 0), (16, .dptr (G0.cs y63)), (43, LS 4 G0.av r32.1), (44, G2 (r32.1.length : Int)), (45, G2 (i63 : Int))] [(1024, .spare 52 1 s10.1.length s10.1.length), (1052, .vec 83 4 gv10 (s10.2.2.map G0.av)), (1028, .spare 56 2 s63.length s63.length), (1026, .box 52 [OW 1028 2 G7.av s63])] 1027 rfl rfl rfl ⟨⟨_, rfl, .same⟩, ⟨_, rfl, .vec⟩, ⟨_, rfl, .same⟩, ⟨_, rfl, .boxEq rfl rfl⟩, trivial⟩ rfl (by repeat' (first | exact .ptr | constructor)) ?_
     refine G3 ?_
     refine G1 (u := OW 1028 2 G7.av s63) (J5 tf_scalar_52 rfl rfl rfl rfl) ?_
     refine G1 (u := .dptr (G0.cs y63)) (Gd Ho rfl rfl rfl) ?_
     refine G1 (u := .agg [G2 y63.G7.Load, G2 y63.G7.Discharge]) (Gf Hf rfl rfl rfl) ?_
     refine G1 (u := LS 2 G7.av [y63.G7]) (H1 (xs := [.agg [G2 y63.G7.Load, G2 y63.G7.Discharge]]) rfl ⟨rfl, rfl, trivial⟩ H5 Jr rfl rfl rfl rfl) ?_
     obtain ⟨ha68, h⟩ := He h
     refine G1 (u := OW 1028 2 G7.av (s63 ++ [y63.G7])) (Hs (f := G7.av) (xs := s63) (ys := [y63.G7]) rfl rfl rfl rfl H5 tf_elem_56 ha68 (fun _ => rfl) (.inl rfl) rfl) ?_
     refine H6 (u := .junk) (Gz (u := OW 1028 2 G7.av (s63 ++ [y63.G7])) (ds := [OW 1028 2 G7.av (s63 ++ [y63.G7])]) tf_size_52 rfl rfl rfl rfl rfl rfl rfl rfl) ?_
     refine G9 (hK66 _ _ ?_)
     refine G3 ?_
     refine G1 (u := G2 ((i63 + 1 : Nat) : Int)) (H7 (idx_succ hk63 hm44) rfl rfl rfl) ?_
     refine G1 (u := G2 ((i63 + 1 : Nat) : Int)) (G5 rfl rfl) ?_
     refine G9 ?_
     exact e63 _ _ (i63 + 1) (s63 ++ [y63.G7]) (app1 hn63 h) (by omega) ⟨(by repeat' constructor), ⟨⟨_, rfl, .same⟩, ⟨_, rfl, .vec⟩, ⟨_, rfl, .same⟩, ⟨_, rfl, .boxL rfl ⟨.same rfl, trivial⟩⟩, trivial⟩, rfl⟩
    ·
     have h := app1 hkx63 (Hd hi63 (H3 hb))
     refine H4 ?_
     refine hK37 _ _ ?_
     refine G6 fun K69 hK69 => G3 ?_
     refine G1 (u := OW 1024 1 (LS 2 G7.av) s10.1) (G5 rfl rfl) ?_
     refine G1 (u := OW 1028 2 G7.av s63) (J5 tf_scalar_52 rfl rfl rfl rfl) ?_
     refine G1 (u := LS 1 (LS 2 G7.av) [s63]) (H1 (xs := [LS 2 G7.av s63]) rfl ⟨rfl, rfl, trivial⟩ Q2 tf_zsize_52 rfl rfl rfl rfl) ?_
     obtain ⟨ha70, h⟩ := He h
     refine G1 (u := OW 1024 1 (LS 2 G7.av) (s10.1 ++ [s63])) (Hs (f := (LS 2 G7.av)) (xs := s10.1) (ys := [s63]) rfl rfl rfl rfl Q2 tf_elem_52 ha70 (fun _ => rfl) (.inl rfl) rfl) ?_
     refine G1 (u := G2 s10.2.1) (G5 rfl rfl) ?_
     refine G1 (u := G2 r32.2) (G5 rfl rfl) ?_
     obtain ⟨v71, hv71, h⟩ := Gy h
     refine G1 (u := G2 v71) (H7 hv71 rfl rfl rfl) ?_
     refine G1 (u := OW 1024 1 (LS 2 G7.av) (s10.1 ++ [s63])) (Ga rfl rfl) ?_
     refine G1 (u := G2 v71) (Ga rfl rfl) ?_
     refine G9 (hK69 _ _ ?_)
     refine J3 (l' := [(2, .dptr (Ship.cs s)), (7, OW 1024 1 (LS 2 G7.av) (s10.1 ++ [s63])), (8, G2 v71), (9, .vec 1052 gv10 4 s10.2.2.length), (14, .ptr 1026 0)]) (L' := [(1024, .spare 52 1 (s10.1 ++ [s63]).length (s10.1 ++ [s63]).length), (1052, .vec 83 4 gv10 (s10.2.2.map G0.av)), (1026, .box 52 [LS 2 G7.av s63])]) ⟨(by repeat' constructor), ⟨⟨_, rfl, .same⟩, ⟨_, rfl, .vec⟩, ⟨_, rfl, .boxL rfl ⟨.list rfl, trivial⟩⟩, trivial⟩, rfl⟩ ?_
     refine Gq [(2, .dptr (Ship.cs s)), (7, OW 1024 1 (LS 2 G7.av) (s10.1 ++ [s63])), (8, G2 v71), (9, .vec 1052 gv10 4 s10.2.2.length), (14, .dptr [LS 2 G7.av s63])] [(1024, .spare 52 1 (s10.1 ++ [s63]).length (s10.1 ++ [s63]).length), (1052, .vec 83 4 gv10 (s10.2.2.map G0.av))] 1026 rfl rfl rfl ⟨⟨_, rfl, .same⟩, ⟨_, rfl, .vec⟩, trivial⟩ rfl (by repeat' (first | exact .ptr | constructor)) ?_
     refine G3 ?_
     refine G1 (u := .vec 1052 gv10 4 s10.2.2.length) (G5 rfl rfl) ?_
     refine G1 (u := .fn 19 [.dptr [LS 2 G7.av s63]]) (A_makeFunc (cs := [.dptr [LS 2 G7.av s63]]) rfl rfl) ?_
     obtain ⟨r72, hr72, h⟩ := Gg h
     refine JL_step rfl rfl rfl (A_callLE (args := [.vec 1052 gv10 4 s10.2.2.length, .fn 19 [.dptr [LS 2 G7.av s63]]]) (L0 := [(1052, .vec 83 4 gv10 (s10.2.2.map G0.av))]) (u := fun p => .vec 1052 p 4 r72.length) (Lr := fun p => [(1052, .vec 83 4 p (r72.map G0.av))]) rfl (M_slices_DeleteFunc_boundCount_p140000008 F s10.2.2 gv10 (fun z0 => M_bound_Find_2 z0 s63) 19 [.dptr [LS 2 G7.av s63]] tf_call_19 rfl (fun z0 q hq => M_bound_Find_2_w z0 s63 q hq) r72 hr72) tf_call_18 ⟨.inl rfl, rfl, .inl rfl, rfl, trivial⟩ ⟨rfl, trivial⟩ rfl (fun _ => rfl)) ?_
     rintro u_ L_ ⟨v73, rfl, rfl⟩
     refine G1 (u := .vec 1052 v73 4 r72.length) (Ga rfl rfl) ?_
     refine G9 ?_
     exact e10 _ _ m10 (((s10.1 ++ [s63]), v71, r72), v73) (app1 hn10 h) (by omega) ⟨(by repeat' constructor), ⟨⟨_, rfl, .same⟩, ⟨_, rfl, .vec⟩, trivial⟩, rfl⟩

def M_bound_family_1 (c : G0) (p1 : G7) : Option Bool :=
 some (decide (c.G7 = p1))
theorem M_bound_family_1_w (c : G0) (p1 : G7) (r : Bool) (h : M_bound_family_1 c p1 = some r) : Pure Try.prog 44 [.agg (G0.cs c), .dptr [G2 p1.Load, G2 p1.Discharge]] (· = BL r) := by
 unfold M_bound_family_1 at h
 refine H0 [.tmp 3] Try.func44 rfl rfl ?_
 refine G6 fun K1 hK1 => G3 ?_
 refine G1 (u := .ptr 1114 0) (J2 (u := .agg (G0.cs c)) (cs := [G2 c.G7.Load, G2 c.G7.Discharge, G2 c.Whole, G2 c.Half]) 1114 rfl rfl rfl rfl rfl) ?_
 refine G1 (u := BL false) (Ga rfl rfl) ?_
 refine G9 (hK1 _ _ ?_)
 refine Gq [(1, .dptr [G2 p1.Load, G2 p1.Discharge]), (2, .dptr (G0.cs c))] [] 1114 rfl rfl rfl trivial rfl (by exact ⟨.conv (.same rfl), .ptr, trivial⟩) ?_
 refine G6 fun K2 hK2 => G3 ?_
 refine G1 (u := .dptr (G0.cs c)) (Gd Ho rfl rfl rfl) ?_
 refine G1 (u := .agg [G2 c.G7.Load, G2 c.G7.Discharge]) (Gf Hf rfl rfl rfl) ?_
 refine G1 (u := .agg [G2 p1.Load, G2 p1.Discharge]) (Gf Hf rfl rfl rfl) ?_
 refine G1 (u := BL (decide (c.G7 = p1))) (A_eqAgg (vs := [.int .i64 c.G7.Load, .int .i64 c.G7.Discharge]) (us := [.int .i64 p1.Load, .int .i64 p1.Discharge]) 4 rfl (tq_56 c.G7 p1) tf_aggof_56 tf_eqg_56 rfl rfl rfl) ?_
 refine G1 (u := BL (decide (c.G7 = p1))) (Ga rfl rfl) ?_
 refine G9 (hK2 _ _ ?_)
 refine Gt ?_
 exact ⟨[BL (decide (c.G7 = p1))], [], trivial, rfl, ⟨⟨_, rfl, .conv (.same rfl)⟩, trivial⟩, rfl, congrArg (fun r : Bool => (BL r : AV)) (Option.some.inj h)⟩

def M_bound_Cross (a : G7) (b : G7) : Option Bool :=
 some (((decide (a.Load < b.Load)) && (decide (b.Load < a.Discharge))) && (decide (a.Discharge < b.Discharge)))
theorem M_bound_Cross_w (a : G7) (b : G7) (r : Bool) (h : M_bound_Cross a b = some r) : Pure Try.prog 8 [.agg [G2 a.Load, G2 a.Discharge], .agg [G2 b.Load, G2 b.Discharge]] (· = BL r) := by
 unfold M_bound_Cross at h
 refine H0 [.tmp 4] Try.func8 rfl rfl ?_
 refine G6 fun K1 hK1 => G3 ?_
 refine G1 (u := .ptr 1030 0) (J2 (u := .agg [G2 a.Load, G2 a.Discharge]) (cs := [G2 a.Load, G2 a.Discharge]) 1030 rfl rfl rfl rfl rfl) ?_
 refine G1 (u := .ptr 1031 0) (J2 (u := .agg [G2 b.Load, G2 b.Discharge]) (cs := [G2 b.Load, G2 b.Discharge]) 1031 rfl rfl rfl rfl rfl) ?_
 refine G1 (u := BL false) (Ga rfl rfl) ?_
 refine G9 (hK1 _ _ ?_)
 refine Gq [(2, .dptr [G2 a.Load, G2 a.Discharge]), (3, .ptr 1031 0)] [(1031, .box 56 [G2 b.Load, G2 b.Discharge])] 1030 rfl rfl rfl ⟨⟨_, rfl, .boxEq rfl rfl⟩, trivial⟩ rfl (by exact ⟨.ptr, .conv (.same rfl), trivial⟩) ?_
 refine Gq [(2, .dptr [G2 a.Load, G2 a.Discharge]), (3, .dptr [G2 b.Load, G2 b.Discharge])] [] 1031 rfl rfl rfl trivial rfl (by exact ⟨.conv (.same rfl), .ptr, trivial⟩) ?_
 refine G6 fun K2 hK2 => G3 ?_
 refine G1 (u := .dptr [G2 a.Load, G2 a.Discharge]) (Gd J9 rfl rfl rfl) ?_
 refine G1 (u := G2 a.Load) (Gn Gc rfl rfl rfl) ?_
 refine G1 (u := .dptr [G2 b.Load, G2 b.Discharge]) (Gd J9 rfl rfl rfl) ?_
 refine G1 (u := G2 b.Load) (Gn Gc rfl rfl rfl) ?_
 refine G1 (u := BL (decide (a.Load < b.Load))) (Hg rfl rfl rfl) ?_
 refine G1 (u := BL (decide (a.Load < b.Load))) (G5 rfl rfl) ?_
 refine Gj (u := .dptr [G2 b.Load, G2 b.Discharge]) [] rfl rfl rfl .sct trivial (fun hc => Gd J9 rfl rfl rfl) ?_
 refine Gj (u := G2 b.Load) [(11, .dptr [G2 b.Load, G2 b.Discharge])] rfl rfl rfl .sct ⟨.all id, trivial⟩ (fun hc => Gn Gc rfl rfl rfl) ?_
 refine Gj (u := .dptr [G2 a.Discharge]) [] rfl rfl rfl .sct trivial (fun hc => Gd J8 rfl rfl rfl) ?_
 refine Gj (u := G2 a.Discharge) [(13, .dptr [G2 a.Discharge])] rfl rfl rfl .sct ⟨.all id, trivial⟩ (fun hc => Gn Gc rfl rfl rfl) ?_
 refine Gj (u := BL (decide (b.Load < a.Discharge))) [(12, G2 b.Load), (14, G2 a.Discharge)] rfl rfl rfl .sct ⟨.all id, .all id, trivial⟩ (fun hc => Hg rfl rfl rfl) ?_
 refine G1 (u := BL ((decide (a.Load < b.Load)) && (decide (b.Load < a.Discharge)))) (Jc rfl rfl rfl rfl) ?_
 refine G1 (u := BL ((decide (a.Load < b.Load)) && (decide (b.Load < a.Discharge)))) (G5 rfl rfl) ?_
 refine Gj (u := .dptr [G2 a.Discharge]) [] rfl rfl rfl .sct trivial (fun hc => Gd J8 rfl rfl rfl) ?_
 refine Gj (u := G2 a.Discharge) [(18, .dptr [G2 a.Discharge])] rfl rfl rfl .sct ⟨.all id, trivial⟩ (fun hc => Gn Gc rfl rfl rfl) ?_
 refine Gj (u := .dptr [G2 b.Discharge]) [] rfl rfl rfl .sct trivial (fun hc => Gd J8 rfl rfl rfl) ?_
 refine Gj (u := G2 b.Discharge) [(20, .dptr [G2 b.Discharge])] rfl rfl rfl .sct ⟨.all id, trivial⟩ (fun hc => Gn Gc rfl rfl rfl) ?_
 refine Gj (u := BL (decide (a.Discharge < b.Discharge))) [(19, G2 a.Discharge), (21, G2 b.Discharge)] rfl rfl rfl .sct ⟨.all id, .all id, trivial⟩ (fun hc => Hg rfl rfl rfl) ?_
 refine G1 (u := BL (((decide (a.Load < b.Load)) && (decide (b.Load < a.Discharge))) && (decide (a.Discharge < b.Discharge)))) (Jc rfl rfl rfl rfl) ?_
 refine G1 (u := BL (((decide (a.Load < b.Load)) && (decide (b.Load < a.Discharge))) && (decide (a.Discharge < b.Discharge)))) (Ga rfl rfl) ?_
 refine G9 (hK2 _ _ ?_)
 refine Gt ?_
 exact ⟨[BL (((decide (a.Load < b.Load)) && (decide (b.Load < a.Discharge))) && (decide (a.Discharge < b.Discharge)))], [], trivial, rfl, ⟨⟨_, rfl, .conv (.same rfl)⟩, trivial⟩, rfl, congrArg (fun r : Bool => (BL r : AV)) (Option.some.inj h)⟩

def M_bound_family_2 (h_ : G7) (p1 : G7) : Option Bool :=
 bnd (M_bound_Cross p1 h_) fun r3 =>
 some (!r3)
theorem M_bound_family_2_w (h_ : G7) (p1 : G7) (r : Bool) (h : M_bound_family_2 h_ p1 = some r) : Pure Try.prog 46 [.agg [G2 h_.Load, G2 h_.Discharge], .dptr [G2 p1.Load, G2 p1.Discharge]] (· = BL r) := by
 unfold M_bound_family_2 at h
 refine H0 [.tmp 3] Try.func46 rfl rfl ?_
 refine G6 fun K1 hK1 => G3 ?_
 refine G1 (u := .ptr 1115 0) (J2 (u := .agg [G2 h_.Load, G2 h_.Discharge]) (cs := [G2 h_.Load, G2 h_.Discharge]) 1115 rfl rfl rfl rfl rfl) ?_
 refine G1 (u := BL false) (Ga rfl rfl) ?_
 refine G9 (hK1 _ _ ?_)
 refine Gq [(1, .dptr [G2 p1.Load, G2 p1.Discharge]), (2, .dptr [G2 h_.Load, G2 h_.Discharge])] [] 1115 rfl rfl rfl trivial rfl (by exact ⟨.conv (.same rfl), .ptr, trivial⟩) ?_
 refine G6 fun K2 hK2 => G3 ?_
 refine G1 (u := .agg [G2 p1.Load, G2 p1.Discharge]) (Gf Hf rfl rfl rfl) ?_
 refine G1 (u := .agg [G2 h_.Load, G2 h_.Discharge]) (Gf Hf rfl rfl rfl) ?_
 obtain ⟨r3, hr3, h⟩ := Gg h
 refine G1 (u := BL r3) (Gu (args := [.agg [G2 p1.Load, G2 p1.Discharge], .agg [G2 h_.Load, G2 h_.Discharge]]) rfl (M_bound_Cross_w p1 h_ r3 hr3) tf_call_8 ⟨rfl, rfl, rfl, rfl, trivial⟩) ?_
 refine G1 (u := BL (!r3)) (A_not (b := r3) rfl rfl) ?_
 refine G1 (u := BL (!r3)) (Ga rfl rfl) ?_
 refine G9 (hK2 _ _ ?_)
 refine Gt ?_
 exact ⟨[BL (!r3)], [], trivial, rfl, ⟨⟨_, rfl, .conv (.same rfl)⟩, trivial⟩, rfl, congrArg (fun r : Bool => (BL r : AV)) (Option.some.inj h)⟩

def M_slices_IndexFunc_apiGroup (s : List G7) (f : G7 → Option Bool) : Option Int :=
 each (fun y20 i20 (s20 : Unit) nx20 =>
  bnd (f y20) fun r26 =>
  bif r26 then
  (some (i20 : Int))
  else
  (nx20 ()))
 (fun (s20 : Unit) =>
  some (-1)) s 0 ()
theorem M_slices_IndexFunc_apiGroup_w (s : List G7) (f : G7 → Option Bool) (f_f : FuncId) (f_c : List AV) (f_B : callB Try.prog f_f = true) (f_d : refsL (fun _ => false) f_c = true) (f_w : ∀ a0 q, f a0 = some q → Pure Try.prog f_f ([.agg [G2 a0.Load, G2 a0.Discharge]] ++ f_c) (· = BL q)) (r : Int) (h : M_slices_IndexFunc_apiGroup s f = some r) : Pure Try.prog 61 [LS 2 G7.av s, .fn f_f f_c] (· = G2 r) := by
 unfold M_slices_IndexFunc_apiGroup at h
 refine H0 [.tmp 4] Try.func61 rfl rfl ?_
 refine G6 fun K1 hK1 => G3 ?_
 refine G1 (u := G2 0) (Ga rfl rfl) ?_
 refine G9 (hK1 _ _ ?_)
 refine G6 (fun K2 hK2 => ?_)
 refine G6 fun K3 hK3 => G3 ?_
 refine G1 (u := LS 2 G7.av s) (G5 rfl rfl) ?_
 refine H9 (f := G7.av) (xs := s) H5 rfl rfl (fun hm7 => ?_) rfl rfl rfl
 refine G1 (u := G2 0) (G5 rfl rfl) ?_
 refine G9 (hK3 _ _ ?_)
 refine Gk ?_
 obtain ⟨b20, kx20, hb20, hkx20, h⟩ := Hj h
 refine H2 (fun i20 (s20 : Unit) => each b20 kx20 (List.drop i20 s) i20 s20 = some r) (fun i20 s20 => [(0, LS 2 G7.av s), (1, .fn f_f f_c), (7, G2 (s.length : Int)), (8, G2 (i20 : Int))]) (fun i20 s20 => []) (fun i20 => s.length - i20) 0 () h ⟨⟨.same rfl, .same (refsL_any _ _ f_d), .same rfl, .same rfl, trivial⟩, trivial, rfl⟩ ?_
 clear h
 intro i20 s20 hi20 K20 e20
 refine G6 fun K21 hK21 => G3 ?_
 refine G1 (u := BL (decide ((i20 : Int) < (s.length : Int)))) (Hg rfl rfl rfl) ?_
 refine G9 (hK21 _ _ ?_)
 refine G6 (fun K22 hK22 => ?_)
 refine Gm rfl (fun hb => ?_) (fun hb => ?_)
 ·
  have hk20 := lt_len hb
  obtain ⟨y20, nx20, hy20, hn20, h⟩ := Hc hi20 hk20
  replace h := app4 hb20 h
  refine Gp ?_
  refine hK22 _ _ ?_
  refine G6 (fun K23 hK23 => ?_)
  refine Gk ?_
  refine G6 fun K24 hK24 => G3 ?_
  refine G1 (u := G2 (i20 : Int)) (G5 rfl rfl) ?_
  refine G1 (u := G2 (i20 : Int)) (Ga rfl rfl) ?_
  refine G9 (hK24 _ _ ?_)
  refine G6 fun K25 hK25 => G3 ?_
  refine G1 (u := .fn f_f f_c) (G5 rfl rfl) ?_
  refine G1 (u := LS 2 G7.av s) (G5 rfl rfl) ?_
  refine G1 (u := G2 (i20 : Int)) (G5 rfl rfl) ?_
  refine G1 (u := .dptr [G2 y20.Load, G2 y20.Discharge]) (Gw (f := G7.av) (xs := s) (y := y20) rfl rfl rfl H5 hy20 rfl) ?_
  refine G1 (u := .agg [G2 y20.Load, G2 y20.Discharge]) (Gf Hf rfl rfl rfl) ?_
  obtain ⟨r26, hr26, h⟩ := Gg h
  refine G1 (u := BL r26) (A_callV1 (args := [.agg [G2 y20.Load, G2 y20.Discharge]]) (caps := f_c) rfl rfl (f_w y20 _ hr26) f_B ⟨rfl, rfl, trivial⟩ f_d) ?_
  refine G9 (hK25 _ _ ?_)
  refine Gm rfl (fun hb => ?_) (fun hb => ?_)
  ·
   replace h := bif_t hb h
   refine G6 fun K27 hK27 => G3 ?_
   refine G1 (u := G2 (i20 : Int)) (G5 rfl rfl) ?_
   refine G1 (u := G2 (i20 : Int)) (Ga rfl rfl) ?_
   refine G9 (hK27 _ _ ?_)
   refine Gt ?_
   exact ⟨[G2 (i20 : Int)], [], trivial, rfl, ⟨⟨_, rfl, .conv (.same rfl)⟩, trivial⟩, rfl, congrArg (fun r : Int => (G2 r : AV)) (Option.some.inj h)⟩
  ·
   replace h := bif_f hb h
   refine Gp ?_
   refine hK23 _ _ ?_
   refine G3 ?_
   refine G1 (u := G2 ((i20 + 1 : Nat) : Int)) (H7 (idx_succ hk20 hm7) rfl rfl rfl) ?_
   refine G1 (u := G2 ((i20 + 1 : Nat) : Int)) (G5 rfl rfl) ?_
   refine G9 ?_
   exact e20 _ _ (i20 + 1) () (app1 hn20 h) (by omega) ⟨⟨.same rfl, .same (refsL_any _ _ f_d), .same rfl, .same rfl, trivial⟩, trivial, rfl⟩
 ·
  have h := app1 hkx20 (Hd hi20 (H3 hb))
  refine H4 ?_
  refine hK2 _ _ ?_
  refine G6 fun K28 hK28 => G3 ?_
  refine G1 (u := G2 (-1)) (Ga rfl rfl) ?_
  refine G9 (hK28 _ _ ?_)
  refine Gt ?_
  exact ⟨[G2 (-1)], [], trivial, rfl, ⟨⟨_, rfl, .conv (.same rfl)⟩, trivial⟩, rfl, congrArg (fun r : Int => (G2 r : AV)) (Option.some.inj h)⟩

def M_slices_ContainsFunc_apiGroup (s : List G7) (f : G7 → Option Bool) : Option Bool :=
 bnd (M_slices_IndexFunc_apiGroup s f) fun r3 =>
 some (decide (0 ≤ r3))
theorem M_slices_ContainsFunc_apiGroup_w (s : List G7) (f : G7 → Option Bool) (f_f : FuncId) (f_c : List AV) (f_B : callB Try.prog f_f = true) (f_d : refsL (fun _ => false) f_c = true) (f_w : ∀ a0 q, f a0 = some q → Pure Try.prog f_f ([.agg [G2 a0.Load, G2 a0.Discharge]] ++ f_c) (· = BL q)) (r : Bool) (h : M_slices_ContainsFunc_apiGroup s f = some r) : Pure Try.prog 45 [LS 2 G7.av s, .fn f_f f_c] (· = BL r) := by
 unfold M_slices_ContainsFunc_apiGroup at h
 refine H0 [.tmp 4] Try.func45 rfl rfl ?_
 refine G6 fun K1 hK1 => G3 ?_
 refine G1 (u := BL false) (Ga rfl rfl) ?_
 refine G9 (hK1 _ _ ?_)
 refine G6 fun K2 hK2 => G3 ?_
 refine G1 (u := LS 2 G7.av s) (G5 rfl rfl) ?_
 refine G1 (u := .fn f_f f_c) (G5 rfl rfl) ?_
 obtain ⟨r3, hr3, h⟩ := Gg h
 refine G1 (u := G2 r3) (Gu (args := [LS 2 G7.av s, .fn f_f f_c]) rfl (M_slices_IndexFunc_apiGroup_w s f f_f f_c f_B f_d f_w r3 hr3) tf_call_61 ⟨rfl, rfl, rfl, f_d, trivial⟩) ?_
 refine G1 (u := BL (decide (0 ≤ r3))) (A_geq rfl rfl rfl) ?_
 refine G1 (u := BL (decide (0 ≤ r3))) (Ga rfl rfl) ?_
 refine G9 (hK2 _ _ ?_)
 refine Gt ?_
 exact ⟨[BL (decide (0 ≤ r3))], [], trivial, rfl, ⟨⟨_, rfl, .conv (.same rfl)⟩, trivial⟩, rfl, congrArg (fun r : Bool => (BL r : AV)) (Option.some.inj h)⟩

def M_bound_family (counts : List G0) (l : List G7) : Option ((List G0) × Int) :=
 each (fun y47 i47 (s47 : (List G0)) nx47 =>
  bnd (M_slices_IndexFunc_boundCount counts (fun z0 => M_bound_family_1 z0 y47)) fun r53 =>
  bnd (bif (!(decide (r53 < 0))) then chk ((i47 : Int) + 1) some else some 0) fun v56 =>
  bnd (bif (!(decide (r53 < 0))) then natIn v56 l.length else some 0) fun m57 =>
  bnd (bif (!(decide (r53 < 0))) then M_slices_ContainsFunc_apiGroup (l.drop m57) (fun z0 => M_bound_family_2 z0 y47) else some default) fun r58 =>
  bif ((decide (r53 < 0)) || r58) then
  (some ([], 270))
  else
  (gidx counts r53 fun y60 =>
   need (decide ((s47.length + [y60].length) * 32 ≤ 140737488355328 ∧ s47.length + [y60].length ≤ maxLen)) <|
   nx47 (s47 ++ [y60])))
 (fun (s47 : (List G0)) =>
  some (s47, 0)) l 0 []
theorem M_bound_family_w (counts : List G0) (l : List G7) (r : (List G0) × Int) (h : M_bound_family counts l = some r) : Pure Try.prog 21 [LS 4 G0.av counts, LS 2 G7.av l] (· = .tup [LS 4 G0.av r.1, G2 r.2]) := by
 unfold M_bound_family at h
 refine H0 [.tmp 4, .tmp 5] Try.func21 rfl rfl ?_
 refine G6 fun K1 hK1 => G3 ?_
 refine G1 (u := LS 4 G0.av ([] : List G0)) (J4 4 rfl rfl) ?_
 refine G1 (u := G2 0) (Ga rfl rfl) ?_
 refine G9 (hK1 _ _ ?_)
 refine G6 fun K2 hK2 => G3 ?_
 refine G1 (u := OW 1070 4 G0.av ([] : List G0)) (A_nilOwn 1070 83 4 rfl rfl rfl) ?_
 refine G9 (hK2 _ _ ?_)
 refine G6 (fun K3 hK3 => ?_)
 refine G6 fun K4 hK4 => G3 ?_
 refine G1 (u := LS 2 G7.av l) (G5 rfl rfl) ?_
 refine H9 (f := G7.av) (xs := l) H5 rfl rfl (fun hm11 => ?_) rfl rfl rfl
 refine G1 (u := G2 0) (G5 rfl rfl) ?_
 refine G9 (hK4 _ _ ?_)
 refine Gk ?_
 obtain ⟨b47, kx47, hb47, hkx47, h⟩ := Hj h
 refine H2 (fun i47 (s47 : (List G0)) => each b47 kx47 (List.drop i47 l) i47 s47 = some r) (fun i47 s47 => [(0, LS 4 G0.av counts), (1, LS 2 G7.av l), (6, OW 1070 4 G0.av s47), (10, LS 2 G7.av l), (11, G2 (l.length : Int)), (12, G2 (i47 : Int))]) (fun i47 s47 => [(1070, .spare 83 4 s47.length s47.length)]) (fun i47 => l.length - i47) 0 [] h ⟨(by repeat' constructor), ⟨⟨_, rfl, .same⟩, trivial⟩, rfl⟩ ?_
 clear h
 intro i47 s47 hi47 K47 e47
 refine G6 fun K48 hK48 => G3 ?_
 refine G1 (u := BL (decide ((i47 : Int) < (l.length : Int)))) (Hg rfl rfl rfl) ?_
 refine G9 (hK48 _ _ ?_)
 refine G6 (fun K49 hK49 => ?_)
 refine Gm rfl (fun hb => ?_) (fun hb => ?_)
 ·
  have hk47 := lt_len hb
  obtain ⟨y47, nx47, hy47, hn47, h⟩ := Hc hi47 hk47
  replace h := app4 hb47 h
  refine Gp ?_
  refine hK49 _ _ ?_
  refine G6 (fun K50 hK50 => ?_)
  refine Gk ?_
  refine G6 fun K51 hK51 => G3 ?_
  refine G1 (u := G2 (i47 : Int)) (G5 rfl rfl) ?_
  refine G1 (u := .dptr [G2 y47.Load, G2 y47.Discharge]) (Gw (f := G7.av) (xs := l) (y := y47) rfl rfl rfl H5 hy47 rfl) ?_
  refine G1 (u := .agg [G2 y47.Load, G2 y47.Discharge]) (Gf Hf rfl rfl rfl) ?_
  refine G1 (u := .ptr 1071 0) (H8 1071 2 Jr rfl rfl) ?_
  refine G1 (u := G2 (i47 : Int)) (Ga rfl rfl) ?_
  refine H6 (u := .junk) (Gz (u := .agg [G2 y47.Load, G2 y47.Discharge]) (ds := [G2 y47.Load, G2 y47.Discharge]) tf_size_56 rfl rfl rfl rfl rfl rfl rfl rfl) ?_
  refine G9 (hK51 _ _ ?_)
  refine Gq [(0, LS 4 G0.av counts), (1, LS 2 G7.av l), (6, OW 1070 4 G0.av s47), (7, G2 (i47 : Int)), (8, .dptr [G2 y47.Load, G2 y47.Discharge]), (10, LS 2 G7.av l), (11, G2 (l.length : Int)), (12, G2 (i47 : Int))] [(1070, .spare 83 4 s47.length s47.length)] 1071 rfl rfl rfl ⟨⟨_, rfl, .same⟩, trivial⟩ rfl (by repeat' (first | exact .ptr | constructor)) ?_
  refine G6 fun K52 hK52 => G3 ?_
  refine G1 (u := LS 4 G0.av counts) (G5 rfl rfl) ?_
  refine G1 (u := .fn 44 [.dptr [G2 y47.Load, G2 y47.Discharge]]) (A_makeFunc (cs := [.dptr [G2 y47.Load, G2 y47.Discharge]]) rfl rfl) ?_
  obtain ⟨r53, hr53, h⟩ := Gg h
  refine G1 (u := G2 r53) (Gu (args := [LS 4 G0.av counts, .fn 44 [.dptr [G2 y47.Load, G2 y47.Discharge]]]) rfl (M_slices_IndexFunc_boundCount_w counts (fun z0 => M_bound_family_1 z0 y47) 44 [.dptr [G2 y47.Load, G2 y47.Discharge]] tf_call_44 rfl (fun z0 q hq => M_bound_family_1_w z0 y47 q hq) r53 hr53) tf_call_42 ⟨rfl, rfl, rfl, rfl, trivial⟩) ?_
  refine G1 (u := G2 r53) (Ga rfl rfl) ?_
  refine G9 (hK52 _ _ ?_)
  refine G6 (fun K54 hK54 => ?_)
  refine G6 fun K55 hK55 => G3 ?_
  refine G1 (u := G2 r53) (G5 rfl rfl) ?_
  refine G1 (u := BL (decide (r53 < 0))) (Hg rfl rfl rfl) ?_
  refine G1 (u := BL (decide (r53 < 0))) (G5 rfl rfl) ?_
  refine Gj (u := LS 2 G7.av l) [] rfl rfl rfl .scf trivial (fun hc => G5 rfl rfl) ?_
  refine Gj (u := G2 (i47 : Int)) [] rfl rfl rfl .scf trivial (fun hc => G5 rfl rfl) ?_
  obtain ⟨v56, hv56, h⟩ := Gg h
  refine Gj (u := G2 v56) [(24, G2 (i47 : Int))] rfl rfl rfl .scf ⟨.all id, trivial⟩ (fun hc => H7 (chk_some (bif_t hc hv56)) rfl rfl rfl) ?_
  obtain ⟨m57, hm57, h⟩ := Gg h
  refine Gj (u := LS 2 G7.av (l.drop m57)) [(23, LS 2 G7.av l), (25, G2 v56)] rfl rfl rfl .scf ⟨.all id, .all id, trivial⟩ (fun hc => A_sliceLoM (f := G7.av) (xs := l) rfl rfl rfl H5 (natIn_out (bif_t hc hm57))) ?_
  refine Gj (u := .fn 46 [.dptr [G2 y47.Load, G2 y47.Discharge]]) [] rfl rfl rfl .scf trivial (fun hc => A_makeFunc (cs := [.dptr [G2 y47.Load, G2 y47.Discharge]]) rfl rfl) ?_
  obtain ⟨r58, hr58, h⟩ := Gg h
  refine Gj (u := BL r58) [(26, LS 2 G7.av (l.drop m57)), (27, .fn 46 [.dptr [G2 y47.Load, G2 y47.Discharge]])] rfl rfl rfl .scf ⟨.all id, .all id, trivial⟩ (fun hc => Gu (args := [LS 2 G7.av (l.drop m57), .fn 46 [.dptr [G2 y47.Load, G2 y47.Discharge]]]) rfl (M_slices_ContainsFunc_apiGroup_w (l.drop m57) (fun z0 => M_bound_family_2 z0 y47) 46 [.dptr [G2 y47.Load, G2 y47.Discharge]] tf_call_46 rfl (fun z0 q hq => M_bound_family_2_w z0 y47 q hq) r58 (bif_t hc hr58)) tf_call_45 ⟨rfl, rfl, rfl, rfl, trivial⟩) ?_
  refine G1 (u := BL ((decide (r53 < 0)) || r58)) (A_or rfl rfl rfl rfl) ?_
  refine G9 (hK55 _ _ ?_)
  refine Gm rfl (fun hb => ?_) (fun hb => ?_)
  ·
   replace h := bif_t hb h
   refine G6 fun K59 hK59 => G3 ?_
   refine G1 (u := LS 4 G0.av ([] : List G0)) (J4 4 rfl rfl) ?_
   refine G1 (u := G2 270) (Ga rfl rfl) ?_
   refine G9 (hK59 _ _ ?_)
   refine Gt ?_
   exact ⟨[LS 4 G0.av ([] : List G0), G2 270], [], trivial, rfl, ⟨⟨_, rfl, .conv (.same rfl)⟩, ⟨_, rfl, .conv (.same rfl)⟩, trivial⟩, rfl, congrArg (fun r : (List G0) × Int => (.tup [LS 4 G0.av r.1, G2 r.2] : AV)) (Option.some.inj h)⟩
  ·
   replace h := bif_f hb h
   refine Gp ?_
   refine hK54 _ _ ?_
   refine G3 ?_
   refine G1 (u := OW 1070 4 G0.av s47) (G5 rfl rfl) ?_
   refine G1 (u := LS 4 G0.av counts) (G5 rfl rfl) ?_
   refine G1 (u := G2 r53) (G5 rfl rfl) ?_
   obtain ⟨m61, y60, hm61, hy60, h⟩ := Je h
   refine G1 (u := .dptr (G0.cs y60)) (Gw (f := G0.av) (xs := counts) (y := y60) rfl rfl rfl Gs hy60 hm61) ?_
   refine G1 (u := .agg (G0.cs y60)) (Gf Hv rfl rfl rfl) ?_
   refine G1 (u := LS 4 G0.av [y60]) (H1 (xs := [.agg (G0.cs y60)]) rfl ⟨rfl, rfl, trivial⟩ Gs Hw rfl rfl rfl rfl) ?_
   obtain ⟨ha62, h⟩ := He h
   refine G1 (u := OW 1070 4 G0.av (s47 ++ [y60])) (Hs (f := G0.av) (xs := s47) (ys := [y60]) rfl rfl rfl rfl Gs tf_elem_83 ha62 (fun _ => rfl) (.inl rfl) rfl) ?_
   refine G1 (u := OW 1070 4 G0.av (s47 ++ [y60])) (Ga rfl rfl) ?_
   refine G9 (hK50 _ _ ?_)
   refine G3 ?_
   refine G1 (u := G2 ((i47 + 1 : Nat) : Int)) (H7 (idx_succ hk47 hm11) rfl rfl rfl) ?_
   refine G1 (u := G2 ((i47 + 1 : Nat) : Int)) (G5 rfl rfl) ?_
   refine G9 ?_
   exact e47 _ _ (i47 + 1) (s47 ++ [y60]) (app1 hn47 h) (by omega) ⟨(by repeat' constructor), ⟨⟨_, rfl, .same⟩, trivial⟩, rfl⟩
 ·
  have h := app1 hkx47 (Hd hi47 (H3 hb))
  refine H4 ?_
  refine hK3 _ _ ?_
  refine G6 fun K63 hK63 => G3 ?_
  refine G1 (u := OW 1070 4 G0.av s47) (G5 rfl rfl) ?_
  refine G1 (u := OW 1070 4 G0.av s47) (Ga rfl rfl) ?_
  refine G1 (u := G2 0) (Ga rfl rfl) ?_
  refine G9 (hK63 _ _ ?_)
  refine Gt ?_
  exact ⟨[LS 4 G0.av s47, G2 0], [], trivial, rfl, ⟨⟨_, rfl, .conv (.list rfl)⟩, ⟨_, rfl, .conv (.same rfl)⟩, trivial⟩, rfl, congrArg (fun r : (List G0) × Int => (.tup [LS 4 G0.av r.1, G2 r.2] : AV)) (Option.some.inj h)⟩

def M_bound_Family (F : Nat) (s : Ship) (boxes : List Box) (l : List G7) : Option (Int × Int) :=
 bnd (M_bound_right s boxes) fun r4 =>
 bif (!r4) then
 (some (0, 2))
 else
 (bnd (S_bound_Groups boxes) fun r7 =>
  bnd (M_bound_family r7 l) fun r8 =>
  bif decide (r8.2 ≠ 0) then
  (some (0, r8.2))
  else
  (bnd (M_bound_bound F s r8.1) fun r13 =>
   some (r13, 0)))
theorem M_bound_Family_w (F : Nat) (s : Ship) (boxes : List Box) (l : List G7) (r : Int × Int) (h : M_bound_Family F s boxes l = some r) : Pure Try.prog 7 [.agg (Ship.cs s), LS 9 Box.av boxes, LS 2 G7.av l] (· = .tup [G2 r.1, G2 r.2]) := by
 unfold M_bound_Family at h
 refine H0 [.tmp 6, .tmp 7] Try.func7 rfl rfl ?_
 refine G6 fun K1 hK1 => G3 ?_
 refine G1 (u := .ptr 1029 0) (J2 (u := .agg (Ship.cs s)) (cs := (Ship.cs s)) 1029 rfl rfl rfl rfl rfl) ?_
 refine G1 (u := G2 0) (Ga rfl rfl) ?_
 refine G1 (u := G2 0) (Ga rfl rfl) ?_
 refine G9 (hK1 _ _ ?_)
 refine Gq [(1, LS 9 Box.av boxes), (2, LS 2 G7.av l), (3, .dptr (Ship.cs s))] [] 1029 rfl rfl rfl trivial rfl (by exact ⟨.conv (.same rfl), .conv (.same rfl), .ptr, trivial⟩) ?_
 refine G6 (fun K2 hK2 => ?_)
 refine G6 fun K3 hK3 => G3 ?_
 refine G1 (u := .agg (Ship.cs s)) (Gf Hh rfl rfl rfl) ?_
 refine G1 (u := LS 9 Box.av boxes) (G5 rfl rfl) ?_
 obtain ⟨r4, hr4, h⟩ := Gg h
 refine G1 (u := BL r4) (Gu (args := [.agg (Ship.cs s), LS 9 Box.av boxes]) rfl (M_bound_right_w s boxes r4 hr4) tf_call_12 ⟨rfl, rfl, rfl, rfl, trivial⟩) ?_
 refine G1 (u := BL (!r4)) (A_not (b := r4) rfl rfl) ?_
 refine G9 (hK3 _ _ ?_)
 refine Gm rfl (fun hb => ?_) (fun hb => ?_)
 ·
  replace h := bif_t hb h
  refine G6 fun K5 hK5 => G3 ?_
  refine G1 (u := G2 0) (Ga rfl rfl) ?_
  refine G1 (u := G2 2) (Ga rfl rfl) ?_
  refine G9 (hK5 _ _ ?_)
  refine Gt ?_
  exact ⟨[G2 0, G2 2], [], trivial, rfl, ⟨⟨_, rfl, .conv (.same rfl)⟩, ⟨_, rfl, .conv (.same rfl)⟩, trivial⟩, rfl, congrArg (fun r : Int × Int => (.tup [G2 r.1, G2 r.2] : AV)) (Option.some.inj h)⟩
 ·
  replace h := bif_f hb h
  refine Gp ?_
  refine hK2 _ _ ?_
  refine G6 fun K6 hK6 => G3 ?_
  refine G1 (u := LS 9 Box.av boxes) (G5 rfl rfl) ?_
  obtain ⟨r7, hr7, h⟩ := Gg h
  refine G1 (u := LS 4 G0.av r7) (Gu (args := [LS 9 Box.av boxes]) rfl (S_bound_Groups_w.down boxes r7 hr7) tf_call_13 ⟨rfl, rfl, trivial⟩) ?_
  refine G1 (u := LS 2 G7.av l) (G5 rfl rfl) ?_
  obtain ⟨r8, hr8, h⟩ := Gg h
  refine G1 (u := .tup [LS 4 G0.av r8.1, G2 r8.2]) (Gu (args := [LS 4 G0.av r7, LS 2 G7.av l]) rfl (M_bound_family_w r7 l r8 hr8) tf_call_21 ⟨rfl, rfl, rfl, rfl, trivial⟩) ?_
  refine G1 (u := .tup [LS 4 G0.av r8.1, G2 r8.2]) (G5 rfl rfl) ?_
  refine G1 (u := LS 4 G0.av r8.1) (Gx rfl rfl rfl) ?_
  refine G1 (u := G2 r8.2) (Gx rfl rfl rfl) ?_
  refine G1 (u := LS 4 G0.av r8.1) (Ga rfl rfl) ?_
  refine G1 (u := G2 r8.2) (Ga rfl rfl) ?_
  refine G9 (hK6 _ _ ?_)
  refine G6 (fun K9 hK9 => ?_)
  refine G6 fun K10 hK10 => G3 ?_
  refine G1 (u := G2 r8.2) (G5 rfl rfl) ?_
  refine G1 (u := BL (decide (r8.2 ≠ 0))) (A_neq rfl rfl rfl) ?_
  refine G9 (hK10 _ _ ?_)
  refine Gm rfl (fun hb => ?_) (fun hb => ?_)
  ·
   replace h := bif_t hb h
   refine G6 fun K11 hK11 => G3 ?_
   refine G1 (u := G2 r8.2) (G5 rfl rfl) ?_
   refine G1 (u := G2 0) (Ga rfl rfl) ?_
   refine G1 (u := G2 r8.2) (Ga rfl rfl) ?_
   refine G9 (hK11 _ _ ?_)
   refine Gt ?_
   exact ⟨[G2 0, G2 r8.2], [], trivial, rfl, ⟨⟨_, rfl, .conv (.same rfl)⟩, ⟨_, rfl, .conv (.same rfl)⟩, trivial⟩, rfl, congrArg (fun r : Int × Int => (.tup [G2 r.1, G2 r.2] : AV)) (Option.some.inj h)⟩
  ·
   replace h := bif_f hb h
   refine Gp ?_
   refine hK9 _ _ ?_
   refine G6 fun K12 hK12 => G3 ?_
   refine G1 (u := .agg (Ship.cs s)) (Gf Hh rfl rfl rfl) ?_
   refine G1 (u := LS 4 G0.av r8.1) (G5 rfl rfl) ?_
   obtain ⟨r13, hr13, h⟩ := Gg h
   refine G1 (u := G2 r13) (Gu (args := [.agg (Ship.cs s), LS 4 G0.av r8.1]) rfl (M_bound_bound_w F s r8.1 r13 hr13) tf_call_17 ⟨rfl, rfl, rfl, rfl, trivial⟩) ?_
   refine G1 (u := G2 r13) (Ga rfl rfl) ?_
   refine G1 (u := G2 0) (Ga rfl rfl) ?_
   refine G9 (hK12 _ _ ?_)
   refine Gt ?_
   exact ⟨[G2 r13, G2 0], [], trivial, rfl, ⟨⟨_, rfl, .conv (.same rfl)⟩, ⟨_, rfl, .conv (.same rfl)⟩, trivial⟩, rfl, congrArg (fun r : Int × Int => (.tup [G2 r.1, G2 r.2] : AV)) (Option.some.inj h)⟩

def M_twistlocklaw27_tower (columns : Int) : Option Ship :=
 need (decide (columns ≤ 9223372036854775807)) <|
 upto (fun i21 (s21 : (List G8) × (List Cover) × Int × Int × Int × Int × (List Row) × (List Frame) × (List Tank) × Int × Int × Int × Int) nx21 =>
  need (decide ((s21.1.length + [(G8.mk 0 (i21 : Int) false 2 0 0 0 0 [] 0 0 0)].length) * 112 ≤ 140737488355328 ∧ s21.1.length + [(G8.mk 0 (i21 : Int) false 2 0 0 0 0 [] 0 0 0)].length ≤ maxLen)) <|
  nx21 ((s21.1 ++ [(G8.mk 0 (i21 : Int) false 2 0 0 0 0 [] 0 0 0)]), s21.2.1, s21.2.2.1, s21.2.2.2.1, s21.2.2.2.2.1, s21.2.2.2.2.2.1, s21.2.2.2.2.2.2.1, s21.2.2.2.2.2.2.2.1, s21.2.2.2.2.2.2.2.2.1, s21.2.2.2.2.2.2.2.2.2.1, s21.2.2.2.2.2.2.2.2.2.2.1, s21.2.2.2.2.2.2.2.2.2.2.2.1, s21.2.2.2.2.2.2.2.2.2.2.2.2))
 (fun (s21 : (List G8) × (List Cover) × Int × Int × Int × Int × (List Row) × (List Frame) × (List Tank) × Int × Int × Int × Int) =>
  some (Ship.mk s21.1 s21.2.1 (Light.mk s21.2.2.1 s21.2.2.2.1 s21.2.2.2.2.1 s21.2.2.2.2.2.1) s21.2.2.2.2.2.2.1 s21.2.2.2.2.2.2.2.1 s21.2.2.2.2.2.2.2.2.1 (G4.mk s21.2.2.2.2.2.2.2.2.2.1 s21.2.2.2.2.2.2.2.2.2.2.1 s21.2.2.2.2.2.2.2.2.2.2.2.1 s21.2.2.2.2.2.2.2.2.2.2.2.2))) columns.toNat 0 ([], [], 0, 0, 0, 0, [], [], [], 0, 0, 0, 0)
theorem M_twistlocklaw27_tower_w (columns : Int) (r : Ship) (h : M_twistlocklaw27_tower columns = some r) : Pure Try.prog 22 [G2 columns] (· = .agg (Ship.cs r)) := by
 unfold M_twistlocklaw27_tower at h
 refine H0 [.cell 2 35] Try.func22 rfl rfl ?_
 refine G6 fun K1 hK1 => G3 ?_
 refine G1 (u := .ptr 1072 0) (A_allocZ 1072 [LS 12 G8.av ([] : List G8), LS 2 Cover.av ([] : List Cover), G2 0, G2 0, G2 0, G2 0, LS 5 Row.av ([] : List Row), LS 5 Frame.av ([] : List Frame), LS 6 Tank.av ([] : List Tank), G2 0, G2 0, G2 0, G2 0] [.slice none 0 0, .slice none 0 0, .int .i64 0, .int .i64 0, .int .i64 0, .int .i64 0, .slice none 0 0, .slice none 0 0, .slice none 0 0, .int .i64 0, .int .i64 0, .int .i64 0, .int .i64 0] tf_zero_35 ⟨.inr ⟨_, rfl, rfl⟩, .inr ⟨_, rfl, rfl⟩, .inl rfl, .inl rfl, .inl rfl, .inl rfl, .inr ⟨_, rfl, rfl⟩, .inr ⟨_, rfl, rfl⟩, .inr ⟨_, rfl, rfl⟩, .inl rfl, .inl rfl, .inl rfl, .inl rfl, trivial⟩ rfl rfl) ?_
 refine G9 (hK1 _ _ ?_)
 refine G6 fun K2 hK2 => G3 ?_
 refine G1 (u := .ptr 1073 0) (A_allocZ 1073 [.sc (.slice none 0 0), LS 2 Cover.av ([] : List Cover), G2 0, G2 0, G2 0, G2 0, LS 5 Row.av ([] : List Row), LS 5 Frame.av ([] : List Frame), LS 6 Tank.av ([] : List Tank), G2 0, G2 0, G2 0, G2 0] [.slice none 0 0, .slice none 0 0, .int .i64 0, .int .i64 0, .int .i64 0, .int .i64 0, .slice none 0 0, .slice none 0 0, .slice none 0 0, .int .i64 0, .int .i64 0, .int .i64 0, .int .i64 0] tf_zero_35 ⟨.inl rfl, .inr ⟨_, rfl, rfl⟩, .inl rfl, .inl rfl, .inl rfl, .inl rfl, .inr ⟨_, rfl, rfl⟩, .inr ⟨_, rfl, rfl⟩, .inr ⟨_, rfl, rfl⟩, .inl rfl, .inl rfl, .inl rfl, .inl rfl, trivial⟩ rfl rfl) ?_
 refine JL_ownCell 1073 0 1074 50 12 rfl rfl rfl (cs' := [OW 1074 12 G8.av ([] : List G8), LS 2 Cover.av ([] : List Cover), G2 0, G2 0, G2 0, G2 0, LS 5 Row.av ([] : List Row), LS 5 Frame.av ([] : List Frame), LS 6 Tank.av ([] : List Tank), G2 0, G2 0, G2 0, G2 0]) rfl ?_
 refine G9 (hK2 _ _ ?_)
 refine G6 (fun K3 hK3 => ?_)
 refine G6 fun K4 hK4 => G3 ?_
 refine G1 (u := G2 columns) (G5 rfl rfl) ?_
 refine G1 (u := G2 0) (G5 rfl rfl) ?_
 refine G9 (hK4 _ _ ?_)
 refine Gk ?_
 obtain ⟨hx21, h⟩ := He h
 obtain ⟨b21, kx21, hb21, hkx21, h⟩ := upto_in h
 refine H2 (fun i21 (s21 : (List G8) × (List Cover) × Int × Int × Int × Int × (List Row) × (List Frame) × (List Tank) × Int × Int × Int × Int) => upto b21 kx21 (columns.toNat - i21) i21 s21 = some r) (fun i21 s21 => [(2, .ptr 1072 0), (3, .ptr 1073 0), (5, G2 columns), (6, G2 (i21 : Int))]) (fun i21 s21 => [(1074, .spare 50 12 s21.1.length s21.1.length), (1072, .box 35 [LS 12 G8.av ([] : List G8), LS 2 Cover.av ([] : List Cover), G2 0, G2 0, G2 0, G2 0, LS 5 Row.av ([] : List Row), LS 5 Frame.av ([] : List Frame), LS 6 Tank.av ([] : List Tank), G2 0, G2 0, G2 0, G2 0]), (1073, .box 35 [OW 1074 12 G8.av s21.1, LS 2 Cover.av s21.2.1, G2 s21.2.2.1, G2 s21.2.2.2.1, G2 s21.2.2.2.2.1, G2 s21.2.2.2.2.2.1, LS 5 Row.av s21.2.2.2.2.2.2.1, LS 5 Frame.av s21.2.2.2.2.2.2.2.1, LS 6 Tank.av s21.2.2.2.2.2.2.2.2.1, G2 s21.2.2.2.2.2.2.2.2.2.1, G2 s21.2.2.2.2.2.2.2.2.2.2.1, G2 s21.2.2.2.2.2.2.2.2.2.2.2.1, G2 s21.2.2.2.2.2.2.2.2.2.2.2.2])]) (fun i21 => columns.toNat - i21) 0 ([], [], 0, 0, 0, 0, [], [], [], 0, 0, 0, 0) h ⟨(by repeat' constructor), ⟨⟨_, rfl, .same⟩, ⟨_, rfl, .boxL rfl (by repeat' constructor)⟩, ⟨_, rfl, .boxL rfl (by repeat' constructor)⟩, trivial⟩, rfl⟩ ?_
 clear h
 intro i21 s21 hi21 K21 e21
 refine G6 fun K22 hK22 => G3 ?_
 refine G1 (u := BL (decide ((i21 : Int) < columns))) (Hg rfl rfl rfl) ?_
 refine G9 (hK22 _ _ ?_)
 refine G6 (fun K23 hK23 => ?_)
 refine Gm rfl (fun hb => ?_) (fun hb => ?_)
 ·
  have hk21 := lt_toNat hb
  obtain ⟨nx21, hn21, h⟩ := upto_out hi21 hk21
  replace h := app3 hb21 h
  refine Gp ?_
  refine hK23 _ _ ?_
  refine G6 (fun K24 hK24 => ?_)
  refine Gk ?_
  refine G6 fun K25 hK25 => G3 ?_
  refine G1 (u := G2 (i21 : Int)) (G5 rfl rfl) ?_
  refine G1 (u := G2 (i21 : Int)) (Ga rfl rfl) ?_
  refine G9 (hK25 _ _ ?_)
  refine G3 ?_
  refine G1 (u := .ptr 1073 0) (Hi Hb rfl rfl) ?_
  refine G1 (u := OW 1074 12 G8.av s21.1) (J5 Hm rfl rfl rfl rfl) ?_
  refine G1 (u := G2 (i21 : Int)) (G5 rfl rfl) ?_
  refine G1 (u := .agg [G2 0, G2 (i21 : Int), BL false, G2 2, G2 0, G2 0, G2 0, G2 0, LS 1 G2 ([] : List Int), G2 0, G2 0, G2 0]) (Hn (cs := [G2 0, G2 (i21 : Int), BL false, G2 2, G2 0, G2 0, G2 0, G2 0, LS 1 G2 ([] : List Int), G2 0, G2 0, G2 0]) [(0, 1), (1, 1), (2, 1), (3, 1), (4, 1), (5, 1), (6, 1), (7, 1), (8, 1), (9, 1), (10, 1), (11, 1)] [G2 0, G2 0, BL false, G2 0, G2 0, G2 0, G2 0, G2 0, LS 1 G2 ([] : List Int), G2 0, G2 0, G2 0] [.int .i64 0, .int .i64 0, .bool false, .int .i64 0, .int .i64 0, .int .i64 0, .int .i64 0, .int .i64 0, .slice none 0 0, .int .i64 0, .int .i64 0, .int .i64 0] tf_places_50 tf_zero_50 ⟨.inl rfl, .inl rfl, .inl rfl, .inl rfl, .inl rfl, .inl rfl, .inl rfl, .inl rfl, .inr ⟨_, rfl, rfl⟩, .inl rfl, .inl rfl, .inl rfl, trivial⟩ rfl rfl) ?_
  refine G1 (u := LS 12 G8.av ([(G8.mk 0 (i21 : Int) false 2 0 0 0 0 [] 0 0 0)])) (H1 (xs := [.agg [G2 0, G2 (i21 : Int), BL false, G2 2, G2 0, G2 0, G2 0, G2 0, LS 1 G2 ([] : List Int), G2 0, G2 0, G2 0]]) rfl ⟨rfl, rfl, trivial⟩ Ha Q1 rfl rfl rfl rfl) ?_
  obtain ⟨ha26, h⟩ := He h
  refine G1 (u := OW 1074 12 G8.av (s21.1 ++ [(G8.mk 0 (i21 : Int) false 2 0 0 0 0 [] 0 0 0)])) (Hs (f := G8.av) (xs := s21.1) (ys := [(G8.mk 0 (i21 : Int) false 2 0 0 0 0 [] 0 0 0)]) rfl rfl rfl rfl Ha tf_elem_50 ha26 (fun _ => rfl) (.inl rfl) rfl) ?_
  refine G1 (u := .ptr 1073 0) (Hi Hb rfl rfl) ?_
  refine H6 (u := .junk) (Gz (u := OW 1074 12 G8.av (s21.1 ++ [(G8.mk 0 (i21 : Int) false 2 0 0 0 0 [] 0 0 0)])) (ds := [OW 1074 12 G8.av (s21.1 ++ [(G8.mk 0 (i21 : Int) false 2 0 0 0 0 [] 0 0 0)]), LS 2 Cover.av s21.2.1, G2 s21.2.2.1, G2 s21.2.2.2.1, G2 s21.2.2.2.2.1, G2 s21.2.2.2.2.2.1, LS 5 Row.av s21.2.2.2.2.2.2.1, LS 5 Frame.av s21.2.2.2.2.2.2.2.1, LS 6 Tank.av s21.2.2.2.2.2.2.2.2.1, G2 s21.2.2.2.2.2.2.2.2.2.1, G2 s21.2.2.2.2.2.2.2.2.2.2.1, G2 s21.2.2.2.2.2.2.2.2.2.2.2.1, G2 s21.2.2.2.2.2.2.2.2.2.2.2.2]) tf_size_25 rfl rfl rfl rfl rfl rfl rfl rfl) ?_
  refine G9 (hK24 _ _ ?_)
  refine G3 ?_
  refine G1 (u := G2 ((i21 + 1 : Nat) : Int)) (H7 (idx_succ hk21 (toNat_max hx21)) rfl rfl rfl) ?_
  refine G1 (u := G2 ((i21 + 1 : Nat) : Int)) (G5 rfl rfl) ?_
  refine G9 ?_
  exact e21 _ _ (i21 + 1) ((s21.1 ++ [(G8.mk 0 (i21 : Int) false 2 0 0 0 0 [] 0 0 0)]), s21.2.1, s21.2.2.1, s21.2.2.2.1, s21.2.2.2.2.1, s21.2.2.2.2.2.1, s21.2.2.2.2.2.2.1, s21.2.2.2.2.2.2.2.1, s21.2.2.2.2.2.2.2.2.1, s21.2.2.2.2.2.2.2.2.2.1, s21.2.2.2.2.2.2.2.2.2.2.1, s21.2.2.2.2.2.2.2.2.2.2.2.1, s21.2.2.2.2.2.2.2.2.2.2.2.2) (app1 hn21 h) (by omega) ⟨(by repeat' constructor), ⟨⟨_, rfl, .same⟩, ⟨_, rfl, .boxL rfl (by repeat' constructor)⟩, ⟨_, rfl, .boxL rfl (by repeat' constructor)⟩, trivial⟩, rfl⟩
 ·
  have h := app1 hkx21 (upto_nil hi21 (not_lt_toNat hb))
  refine H4 ?_
  refine hK3 _ _ ?_
  refine G6 fun K27 hK27 => G3 ?_
  refine G1 (u := .agg [OW 1074 12 G8.av s21.1, LS 2 Cover.av s21.2.1, G2 s21.2.2.1, G2 s21.2.2.2.1, G2 s21.2.2.2.2.1, G2 s21.2.2.2.2.2.1, LS 5 Row.av s21.2.2.2.2.2.2.1, LS 5 Frame.av s21.2.2.2.2.2.2.2.1, LS 6 Tank.av s21.2.2.2.2.2.2.2.2.1, G2 s21.2.2.2.2.2.2.2.2.2.1, G2 s21.2.2.2.2.2.2.2.2.2.2.1, G2 s21.2.2.2.2.2.2.2.2.2.2.2.1, G2 s21.2.2.2.2.2.2.2.2.2.2.2.2]) (A_loadAggL Hh rfl rfl rfl rfl) ?_
  refine H6 (u := .junk) (Gz (u := .agg [OW 1074 12 G8.av s21.1, LS 2 Cover.av s21.2.1, G2 s21.2.2.1, G2 s21.2.2.2.1, G2 s21.2.2.2.2.1, G2 s21.2.2.2.2.2.1, LS 5 Row.av s21.2.2.2.2.2.2.1, LS 5 Frame.av s21.2.2.2.2.2.2.2.1, LS 6 Tank.av s21.2.2.2.2.2.2.2.2.1, G2 s21.2.2.2.2.2.2.2.2.2.1, G2 s21.2.2.2.2.2.2.2.2.2.2.1, G2 s21.2.2.2.2.2.2.2.2.2.2.2.1, G2 s21.2.2.2.2.2.2.2.2.2.2.2.2]) (ds := [OW 1074 12 G8.av s21.1, LS 2 Cover.av s21.2.1, G2 s21.2.2.1, G2 s21.2.2.2.1, G2 s21.2.2.2.2.1, G2 s21.2.2.2.2.2.1, LS 5 Row.av s21.2.2.2.2.2.2.1, LS 5 Frame.av s21.2.2.2.2.2.2.2.1, LS 6 Tank.av s21.2.2.2.2.2.2.2.2.1, G2 s21.2.2.2.2.2.2.2.2.2.1, G2 s21.2.2.2.2.2.2.2.2.2.2.1, G2 s21.2.2.2.2.2.2.2.2.2.2.2.1, G2 s21.2.2.2.2.2.2.2.2.2.2.2.2]) tf_size_35 rfl rfl rfl rfl rfl rfl rfl rfl) ?_
  refine G9 (hK27 _ _ ?_)
  refine Gt ?_
  exact ⟨[.agg [LS 12 G8.av s21.1, LS 2 Cover.av s21.2.1, G2 s21.2.2.1, G2 s21.2.2.2.1, G2 s21.2.2.2.2.1, G2 s21.2.2.2.2.2.1, LS 5 Row.av s21.2.2.2.2.2.2.1, LS 5 Frame.av s21.2.2.2.2.2.2.2.1, LS 6 Tank.av s21.2.2.2.2.2.2.2.2.1, G2 s21.2.2.2.2.2.2.2.2.2.1, G2 s21.2.2.2.2.2.2.2.2.2.2.1, G2 s21.2.2.2.2.2.2.2.2.2.2.2.1, G2 s21.2.2.2.2.2.2.2.2.2.2.2.2]], [], trivial, rfl, ⟨⟨_, ⟨_, _, _, _, rfl, rfl, rfl, .inl ⟨Hh, rfl⟩⟩, .agg ⟨.list rfl, .same rfl, .same rfl, .same rfl, .same rfl, .same rfl, .same rfl, .same rfl, .same rfl, .same rfl, .same rfl, .same rfl, .same rfl, trivial⟩⟩, trivial⟩, rfl, congrArg (fun r : Ship => (.agg (Ship.cs r) : AV)) (Option.some.inj h)⟩

def M_bound_Check (F : Nat) (s : Ship) (boxes : List Box) (families : List (List G7)) (Rp : (Int × Int) → Prop) : Option Prop :=
 bnd (M_bound_right s boxes) fun r4 =>
 bif (!r4) then
 (some (Rp (0, 2)))
 else
 (bnd (S_bound_Groups boxes) fun r7 =>
  each (fun y11 i11 (s11 : Int × (AMap G7 Int)) nx11 =>
   bnd (M_bound_family r7 y11) fun r17 =>
   bif decide (r17.2 ≠ 0) then
   (some (Rp (0, r17.2)))
   else
   (bnd (M_bound_bound F s r17.1) fun r22 =>
    chk (s11.1 + r22) fun v23 =>
    each (fun y53 i53 (s53 : (AMap G7 Int)) nx53 =>
     bnd (some (AMap.get s53 y53 0)) fun v58 =>
     chk (v58 + 1) fun v59 =>
     nx53 (AMap.put s53 y53 v59))
    (fun (s53 : (AMap G7 Int)) =>
     nx11 (v23, s53)) y11 0 s11.2))
  (fun (s11 : Int × (AMap G7 Int)) =>
   eachM (fun (x67 : G7 × Int) (s67 : Unit) nx67 =>
    bif decide (1 < x67.2) then
    (lft (some (Rp (0, 271))))
    else
    (nx67 ()))
   (fun (s67 : Unit) =>
    some (Rp (s11.1, 0))) (AMap.l s11.2) ()) families 0 (0, (AMap.empty : AMap G7 Int)))
def D_bound_Check (F : Nat) (s : Ship) (boxes : List Box) (families : List (List G7)) : Option (Int × Int) :=
 bnd (M_bound_right s boxes) fun r4 =>
 bif (!r4) then
 (some (id (0, 2)))
 else
 (bnd (S_bound_Groups boxes) fun r7 =>
  each (fun y11 i11 (s11 : Int × (AMap G7 Int)) nx11 =>
   bnd (M_bound_family r7 y11) fun r17 =>
   bif decide (r17.2 ≠ 0) then
   (some (id (0, r17.2)))
   else
   (bnd (M_bound_bound F s r17.1) fun r22 =>
    chk (s11.1 + r22) fun v23 =>
    each (fun y53 i53 (s53 : (AMap G7 Int)) nx53 =>
     bnd (some (AMap.get s53 y53 0)) fun v58 =>
     chk (v58 + 1) fun v59 =>
     nx53 (AMap.put s53 y53 v59))
    (fun (s53 : (AMap G7 Int)) =>
     nx11 (v23, s53)) y11 0 s11.2))
  (fun (s11 : Int × (AMap G7 Int)) =>
   runM (fun (x67 : G7 × Int) (s67 : Unit) nx67 =>
    bif decide (1 < x67.2) then
    (lft (some (id (0, 271))))
    else
    (nx67 ()))
   (fun (s67 : Unit) =>
    some (id (s11.1, 0))) (AMap.l s11.2) ()) families 0 (0, (AMap.empty : AMap G7 Int)))
theorem M_bound_Check_w (F : Nat) (s : Ship) (boxes : List Box) (families : List (List G7)) (Rp : (Int × Int) → Prop) (p : Prop) (h : M_bound_Check F s boxes families Rp = some p) (hp : p) : Pure Try.prog 23 [.agg (Ship.cs s), LS 9 Box.av boxes, LS 1 (LS 2 G7.av) families] (fun av => ∃ r, Rp r ∧ av = .tup [G2 r.1, G2 r.2]) := by
 unfold M_bound_Check at h
 refine H0 [.tmp 6, .tmp 7] Try.func23 rfl rfl ?_
 refine G6 fun K1 hK1 => G3 ?_
 refine G1 (u := .ptr 1075 0) (J2 (u := .agg (Ship.cs s)) (cs := (Ship.cs s)) 1075 rfl rfl rfl rfl rfl) ?_
 refine G1 (u := G2 0) (Ga rfl rfl) ?_
 refine G1 (u := G2 0) (Ga rfl rfl) ?_
 refine G9 (hK1 _ _ ?_)
 refine Gq [(1, LS 9 Box.av boxes), (2, LS 1 (LS 2 G7.av) families), (3, .dptr (Ship.cs s))] [] 1075 rfl rfl rfl trivial rfl (by exact ⟨.conv (.same rfl), .conv (.same rfl), .ptr, trivial⟩) ?_
 refine G6 (fun K2 hK2 => ?_)
 refine G6 fun K3 hK3 => G3 ?_
 refine G1 (u := .agg (Ship.cs s)) (Gf Hh rfl rfl rfl) ?_
 refine G1 (u := LS 9 Box.av boxes) (G5 rfl rfl) ?_
 obtain ⟨r4, hr4, h⟩ := Gg h
 refine G1 (u := BL r4) (Gu (args := [.agg (Ship.cs s), LS 9 Box.av boxes]) rfl (M_bound_right_w s boxes r4 hr4) tf_call_12 ⟨rfl, rfl, rfl, rfl, trivial⟩) ?_
 refine G1 (u := BL (!r4)) (A_not (b := r4) rfl rfl) ?_
 refine G9 (hK3 _ _ ?_)
 refine Gm rfl (fun hb => ?_) (fun hb => ?_)
 ·
  replace h := bif_t hb h
  refine G6 fun K5 hK5 => G3 ?_
  refine G1 (u := G2 0) (Ga rfl rfl) ?_
  refine G1 (u := G2 2) (Ga rfl rfl) ?_
  refine G9 (hK5 _ _ ?_)
  refine Gt ?_
  exact ⟨[G2 0, G2 2], [], trivial, rfl, ⟨⟨_, rfl, .conv (.same rfl)⟩, ⟨_, rfl, .conv (.same rfl)⟩, trivial⟩, rfl, (0, 2), Eq.mpr (Option.some.inj h) hp, rfl⟩
 ·
  replace h := bif_f hb h
  refine Gp ?_
  refine hK2 _ _ ?_
  refine G6 fun K6 hK6 => G3 ?_
  refine G1 (u := LS 9 Box.av boxes) (G5 rfl rfl) ?_
  obtain ⟨r7, hr7, h⟩ := Gg h
  refine G1 (u := LS 4 G0.av r7) (Gu (args := [LS 9 Box.av boxes]) rfl (S_bound_Groups_w.down boxes r7 hr7) tf_call_13 ⟨rfl, rfl, trivial⟩) ?_
  refine G1 (u := G2 0) (Ga rfl rfl) ?_
  refine G1 (u := LS 4 G0.av r7) (Ga rfl rfl) ?_
  refine G9 (hK6 _ _ ?_)
  refine G6 fun K8 hK8 => G3 ?_
  refine G1 (u := .mp 1077) (A_makeMapM 1077 G7.kv G2 rfl rfl) ?_
  refine G1 (u := .mp 1077) (Ga rfl rfl) ?_
  refine G9 (hK8 _ _ ?_)
  refine G6 (fun K9 hK9 => ?_)
  refine G6 fun K10 hK10 => G3 ?_
  refine G1 (u := LS 1 (LS 2 G7.av) families) (G5 rfl rfl) ?_
  refine H9 (f := (LS 2 G7.av)) (xs := families) Q2 rfl rfl (fun hm27 => ?_) rfl rfl rfl
  refine G1 (u := G2 0) (G5 rfl rfl) ?_
  refine G9 (hK10 _ _ ?_)
  refine Gk ?_
  obtain ⟨b11, kx11, hb11, hkx11, h⟩ := Hj h
  refine H2 (fun i11 (s11 : Int × (AMap G7 Int)) => each b11 kx11 (List.drop i11 families) i11 s11 = some p) (fun i11 s11 => [(3, .dptr (Ship.cs s)), (8, G2 s11.1), (9, LS 4 G0.av r7), (10, .mp 1077), (26, LS 1 (LS 2 G7.av) families), (27, G2 (families.length : Int)), (28, G2 (i11 : Int))]) (fun i11 s11 => [(1077, MP 51 G7.kv G2 s11.2)]) (fun i11 => families.length - i11) 0 (0, (AMap.empty : AMap G7 Int)) h ⟨(by repeat' constructor), ⟨⟨_, rfl, .map⟩, trivial⟩, rfl⟩ ?_
  clear h
  intro i11 s11 hi11 K11 e11
  refine G6 fun K12 hK12 => G3 ?_
  refine G1 (u := BL (decide ((i11 : Int) < (families.length : Int)))) (Hg rfl rfl rfl) ?_
  refine G9 (hK12 _ _ ?_)
  refine G6 (fun K13 hK13 => ?_)
  refine Gm rfl (fun hb => ?_) (fun hb => ?_)
  ·
   have hk11 := lt_len hb
   obtain ⟨y11, nx11, hy11, hn11, h⟩ := Hc hi11 hk11
   replace h := app4 hb11 h
   refine Gp ?_
   refine hK13 _ _ ?_
   refine G6 (fun K14 hK14 => ?_)
   refine Gk ?_
   refine G6 fun K15 hK15 => G3 ?_
   refine G1 (u := .dptr [LS 2 G7.av y11]) (Gw (f := (LS 2 G7.av)) (xs := families) (y := y11) rfl rfl rfl Q2 hy11 rfl) ?_
   refine G1 (u := LS 2 G7.av y11) (Gn tf_scalar_52 rfl rfl rfl) ?_
   refine G1 (u := LS 2 G7.av y11) (Ga rfl rfl) ?_
   refine G9 (hK15 _ _ ?_)
   refine G6 fun K16 hK16 => G3 ?_
   refine G1 (u := LS 4 G0.av r7) (G5 rfl rfl) ?_
   refine G1 (u := LS 2 G7.av y11) (G5 rfl rfl) ?_
   obtain ⟨r17, hr17, h⟩ := Gg h
   refine G1 (u := .tup [LS 4 G0.av r17.1, G2 r17.2]) (Gu (args := [LS 4 G0.av r7, LS 2 G7.av y11]) rfl (M_bound_family_w r7 y11 r17 hr17) tf_call_21 ⟨rfl, rfl, rfl, rfl, trivial⟩) ?_
   refine G1 (u := .tup [LS 4 G0.av r17.1, G2 r17.2]) (G5 rfl rfl) ?_
   refine G1 (u := LS 4 G0.av r17.1) (Gx rfl rfl rfl) ?_
   refine G1 (u := G2 r17.2) (Gx rfl rfl rfl) ?_
   refine G1 (u := LS 4 G0.av r17.1) (Ga rfl rfl) ?_
   refine G1 (u := G2 r17.2) (Ga rfl rfl) ?_
   refine G9 (hK16 _ _ ?_)
   refine G6 (fun K18 hK18 => ?_)
   refine G6 fun K19 hK19 => G3 ?_
   refine G1 (u := G2 r17.2) (G5 rfl rfl) ?_
   refine G1 (u := BL (decide (r17.2 ≠ 0))) (A_neq rfl rfl rfl) ?_
   refine G9 (hK19 _ _ ?_)
   refine Gm rfl (fun hb => ?_) (fun hb => ?_)
   ·
    replace h := bif_t hb h
    refine G6 fun K20 hK20 => G3 ?_
    refine G1 (u := G2 r17.2) (G5 rfl rfl) ?_
    refine G1 (u := G2 0) (Ga rfl rfl) ?_
    refine G1 (u := G2 r17.2) (Ga rfl rfl) ?_
    refine G9 (hK20 _ _ ?_)
    refine Gt ?_
    exact ⟨[G2 0, G2 r17.2], [], trivial, rfl, ⟨⟨_, rfl, .conv (.same rfl)⟩, ⟨_, rfl, .conv (.same rfl)⟩, trivial⟩, rfl, (0, r17.2), Eq.mpr (Option.some.inj h) hp, rfl⟩
   ·
    replace h := bif_f hb h
    refine Gp ?_
    refine hK18 _ _ ?_
    refine G6 fun K21 hK21 => G3 ?_
    refine G1 (u := G2 s11.1) (G5 rfl rfl) ?_
    refine G1 (u := .agg (Ship.cs s)) (Gf Hh rfl rfl rfl) ?_
    refine G1 (u := LS 4 G0.av r17.1) (G5 rfl rfl) ?_
    obtain ⟨r22, hr22, h⟩ := Gg h
    refine G1 (u := G2 r22) (Gu (args := [.agg (Ship.cs s), LS 4 G0.av r17.1]) rfl (M_bound_bound_w F s r17.1 r22 hr22) tf_call_17 ⟨rfl, rfl, rfl, rfl, trivial⟩) ?_
    obtain ⟨v23, hv23, h⟩ := Gy h
    refine G1 (u := G2 v23) (H7 hv23 rfl rfl rfl) ?_
    refine G1 (u := G2 v23) (Ga rfl rfl) ?_
    refine G9 (hK21 _ _ ?_)
    refine G6 fun K24 hK24 => G3 ?_
    refine G1 (u := LS 2 G7.av y11) (G5 rfl rfl) ?_
    refine H9 (f := G7.av) (xs := y11) H5 rfl rfl (fun hm47 => ?_) rfl rfl rfl
    refine G1 (u := G2 0) (G5 rfl rfl) ?_
    refine G9 (hK24 _ _ ?_)
    refine Gk ?_
    obtain ⟨b53, kx53, hb53, hkx53, h⟩ := Hj h
    refine H2 (fun i53 (s53 : (AMap G7 Int)) => each b53 kx53 (List.drop i53 y11) i53 s53 = some p) (fun i53 s53 => [(3, .dptr (Ship.cs s)), (8, G2 v23), (9, LS 4 G0.av r7), (10, .mp 1077), (26, LS 1 (LS 2 G7.av) families), (27, G2 (families.length : Int)), (28, G2 (i11 : Int)), (46, LS 2 G7.av y11), (47, G2 (y11.length : Int)), (48, G2 (i53 : Int))]) (fun i53 s53 => [(1077, MP 51 G7.kv G2 s53)]) (fun i53 => y11.length - i53) 0 s11.2 h ⟨(by repeat' constructor), ⟨⟨_, rfl, .map⟩, trivial⟩, rfl⟩ ?_
    clear h
    intro i53 s53 hi53 K53 e53
    refine G6 fun K54 hK54 => G3 ?_
    refine G1 (u := BL (decide ((i53 : Int) < (y11.length : Int)))) (Hg rfl rfl rfl) ?_
    refine G9 (hK54 _ _ ?_)
    refine G6 (fun K55 hK55 => ?_)
    refine Gm rfl (fun hb => ?_) (fun hb => ?_)
    ·
     have hk53 := lt_len hb
     obtain ⟨y53, nx53, hy53, hn53, h⟩ := Hc hi53 hk53
     replace h := app4 hb53 h
     refine Gp ?_
     refine hK55 _ _ ?_
     refine G6 (fun K56 hK56 => ?_)
     refine Gk ?_
     refine G6 fun K57 hK57 => G3 ?_
     refine G1 (u := .dptr [G2 y53.Load, G2 y53.Discharge]) (Gw (f := G7.av) (xs := y11) (y := y53) rfl rfl rfl H5 hy53 rfl) ?_
     refine G1 (u := .agg [G2 y53.Load, G2 y53.Discharge]) (Gf Hf rfl rfl rfl) ?_
     refine G1 (u := .ptr 1076 0) (H8 1076 2 Jr rfl rfl) ?_
     refine H6 (u := .junk) (Gz (u := .agg [G2 y53.Load, G2 y53.Discharge]) (ds := [G2 y53.Load, G2 y53.Discharge]) tf_size_56 rfl rfl rfl rfl rfl rfl rfl rfl) ?_
     refine G9 (hK57 _ _ ?_)
     refine Gq [(3, .dptr (Ship.cs s)), (8, G2 v23), (9, LS 4 G0.av r7), (10, .mp 1077), (16, .dptr [G2 y53.Load, G2 y53.Discharge]), (26, LS 1 (LS 2 G7.av) families), (27, G2 (families.length : Int)), (28, G2 (i11 : Int)), (46, LS 2 G7.av y11), (47, G2 (y11.length : Int)), (48, G2 (i53 : Int))] [(1077, MP 51 G7.kv G2 s53)] 1076 rfl rfl rfl ⟨⟨_, rfl, .map⟩, trivial⟩ rfl (by repeat' (first | exact .ptr | constructor)) ?_
     refine J3 (l' := [(3, .dptr (Ship.cs s)), (8, G2 v23), (9, LS 4 G0.av r7), (10, .mp 1077), (16, .dptr [G2 y53.Load, G2 y53.Discharge]), (26, LS 1 (LS 2 G7.av) families), (27, G2 (families.length : Int)), (28, G2 (i11 : Int)), (46, LS 2 G7.av y11), (47, G2 (y11.length : Int)), (48, G2 (i53 : Int))]) (L' := [(1077, MP 51 G7.kv G2 s53)]) ⟨(by repeat' constructor), ⟨⟨_, rfl, .map⟩, trivial⟩, rfl⟩ ?_
     obtain ⟨v58, hv58, h⟩ := Gg h
     obtain ⟨v59, hv59, h⟩ := Gy h
     refine Hy [4, 6] [0, 0, 0, 0, 0, 1, 0] [0, 0, 1, 1, 0, 1, 0] [[(1077, MP 51 G7.kv G2 s53)], ((1077, MI 51 G7.kv G2 s53 y53 0) :: [(1077, MP 51 G7.kv G2 s53)]), ((1077, MP 51 G7.kv G2 (AMap.put s53 y53 v59)) :: ((1077, MI 51 G7.kv G2 s53 y53 0) :: [(1077, MP 51 G7.kv G2 s53)]))] Hr (by kernel_rfl) rfl rfl ?_
     refine Ge (u := .mp 1077) rfl rfl ⟨Gi (G5 rfl rfl) rfl, trivial⟩ ?_
     refine Ge (u := .agg [G2 y53.Load, G2 y53.Discharge]) rfl rfl ⟨Gi (Gf Hf rfl rfl rfl) rfl, trivial⟩ ?_
     refine Ge (u := G2 v58) rfl rfl ⟨Gi (((Option.some.inj hv58) ▸ A_lookupM0 (av := G2) (m := s53) (a := y53) 0 (.int .i64 0) rfl rfl rfl rfl tk_56 tf_map_51 tf_zv_3 rfl)) rfl, Gi (((Option.some.inj hv58) ▸ A_lookupMI (av := G2) (m := s53) (a := y53) 0 (.int .i64 0) rfl rfl rfl rfl tk_56 tf_map_51 tf_zv_3 rfl)) rfl, trivial⟩ ?_
     refine Ge (u := G2 v59) rfl rfl ⟨Gi (H7 hv59 rfl rfl rfl) rfl, Gi (H7 hv59 rfl rfl rfl) rfl, trivial⟩ ?_
     refine D_w (u := .tup [.junk, G2 (midx (AMap.l s53) y53 : Int)]) rfl rfl rfl rfl (Gi (A_mapEntryM (m := s53) (a := y53) 0 (.int .i64 0) rfl rfl rfl rfl tk_56 tf_map_51 tf_zv_3 rfl) rfl) ?_
     refine Ge (u := G2 (midx (AMap.l s53) y53 : Int)) rfl rfl ⟨Gi (Gx rfl rfl rfl) rfl, trivial⟩ ?_
     refine D_w0 (u := .junk) rfl rfl rfl rfl (Gi (A_entryStoreM (m := s53) (a := y53) (v := v59) 0 rfl rfl rfl rfl rfl rfl) rfl) ?_
     refine Q3 ?_
     refine hK56 _ _ ?_
     refine G3 ?_
     refine G1 (u := G2 ((i53 + 1 : Nat) : Int)) (H7 (idx_succ hk53 hm47) rfl rfl rfl) ?_
     refine G1 (u := G2 ((i53 + 1 : Nat) : Int)) (G5 rfl rfl) ?_
     refine G9 ?_
     exact e53 _ _ (i53 + 1) (AMap.put s53 y53 v59) (app1 hn53 h) (by omega) ⟨(by repeat' constructor), ⟨⟨_, rfl, .map⟩, trivial⟩, rfl⟩
    ·
     have h := app1 hkx53 (Hd hi53 (H3 hb))
     refine H4 ?_
     refine hK14 _ _ ?_
     refine G3 ?_
     refine G1 (u := G2 ((i11 + 1 : Nat) : Int)) (H7 (idx_succ hk11 hm27) rfl rfl rfl) ?_
     refine G1 (u := G2 ((i11 + 1 : Nat) : Int)) (G5 rfl rfl) ?_
     refine G9 ?_
     exact e11 _ _ (i11 + 1) (v23, s53) (app1 hn11 h) (by omega) ⟨(by repeat' constructor), ⟨⟨_, rfl, .map⟩, trivial⟩, rfl⟩
  ·
   have h := app1 hkx11 (Hd hi11 (H3 hb))
   refine H4 ?_
   refine hK9 _ _ ?_
   refine G6 (fun K60 hK60 => ?_)
   refine G6 fun K61 hK61 => G3 ?_
   refine G1 (u := .mp 1077) (G5 rfl rfl) ?_
   refine G1 (u := .it 1078) (A_rangeM 1078 (m := s11.2) rfl rfl rfl rfl tf_map_51) ?_
   refine G9 (hK61 _ _ ?_)
   refine Gk ?_
   obtain ⟨b67, kx67, hb67, hkx67, h⟩ := eachM_in h
   refine JC_loopM (AMap.size s11.2) (fun i67 (s67 : Unit) => MInv b67 kx67 (AMap.l s11.2) i67 s67) (fun i67 s67 => [(8, G2 s11.1), (61, .it 1078)]) (fun i67 s67 => [(1077, MP 51 G7.kv G2 s11.2), (1078, .iter 1077 (AMap.size s11.2) i67)]) () (MInv.start h hp) ⟨⟨.same rfl, .same rfl, trivial⟩, ⟨⟨_, rfl, .map⟩, ⟨_, rfl, .iter rfl⟩, trivial⟩, rfl⟩ ?_
   clear h hp
   intro i67 s67 hi67 K67 e67
   refine G6 fun K68 hK68 => G3 ?_
   refine JL_step rfl rfl rfl (A_nextM (m := s11.2) rfl rfl rfl rfl) ?_
   intro u_ L_ hn_
   rcases hn_ with ⟨q67, x67, he67, hs67, rfl, rfl⟩ | ⟨ha67, rfl, rfl⟩
   ·
    obtain ⟨o67, h, ho1_67, ho2_67⟩ := hi67.step he67 hs67
    replace h := app3 hb67 h
    refine G1 (u := BL true) (Gx rfl rfl rfl) ?_
    refine G9 (hK68 _ _ ?_)
    refine G6 (fun K69 hK69 => ?_)
    refine JC_condT rfl ?_
    refine Gp ?_
    refine hK69 _ _ ?_
    refine Gk ?_
    refine G6 fun K70 hK70 => G3 ?_
    refine G1 (u := .tup [.agg [G2 x67.1.Load, G2 x67.1.Discharge], G2 x67.2]) (A_entryM (kv := G7.kv) (av := G2) (m := s11.2) (q := q67) (seen := i67) (e := x67) rfl rfl rfl rfl he67) ?_
    refine G1 (u := G2 x67.2) (Gx rfl rfl rfl) ?_
    refine G1 (u := G2 x67.2) (Ga rfl rfl) ?_
    refine G9 (hK70 _ _ ?_)
    refine G6 fun K71 hK71 => G3 ?_
    refine G1 (u := G2 x67.2) (G5 rfl rfl) ?_
    refine G1 (u := BL (decide (1 < x67.2))) (Jy rfl rfl rfl) ?_
    refine G9 (hK71 _ _ ?_)
    refine Gm rfl (fun hb => ?_) (fun hb => ?_)
    ·
     replace h := bif_t hb h
     refine G6 fun K72 hK72 => G3 ?_
     refine G1 (u := G2 0) (Ga rfl rfl) ?_
     refine G1 (u := G2 271) (Ga rfl rfl) ?_
     refine G9 (hK72 _ _ ?_)
     refine Gt ?_
     obtain ⟨y_, hy_, hl_⟩ := lft_out h
     exact ⟨[G2 0, G2 271], [], trivial, rfl, ⟨⟨_, rfl, .conv (.same rfl)⟩, ⟨_, rfl, .conv (.same rfl)⟩, trivial⟩, rfl, (0, 271), Eq.mpr (Option.some.inj hl_) (ho1_67 y_ hy_), rfl⟩
    ·
     replace h := bif_f hb h
     refine Gp ?_
     exact e67 _ _ (i67 ++ [q67]) () (ho2_67 _ (Option.some.inj h).symm) (unseen_lt (List.getElem?_eq_some_iff.1 he67).1 hs67) ⟨⟨.same rfl, .same rfl, trivial⟩, ⟨⟨_, rfl, .map⟩, ⟨_, rfl, .iter rfl⟩, trivial⟩, rfl⟩
   ·
    obtain ⟨p_, h, hp⟩ := hi67.done ha67
    replace h := app1 hkx67 h
    refine G1 (u := BL false) (Gx rfl rfl rfl) ?_
    refine G9 (hK68 _ _ ?_)
    refine G6 (fun K73 hK73 => ?_)
    refine JC_condF rfl ?_
    refine H4 ?_
    refine hK60 _ _ ?_
    refine G6 fun K74 hK74 => G3 ?_
    refine G1 (u := G2 s11.1) (G5 rfl rfl) ?_
    refine G1 (u := G2 s11.1) (Ga rfl rfl) ?_
    refine G1 (u := G2 0) (Ga rfl rfl) ?_
    refine G9 (hK74 _ _ ?_)
    refine Gt ?_
    exact ⟨[G2 s11.1, G2 0], [], trivial, rfl, ⟨⟨_, rfl, .conv (.same rfl)⟩, ⟨_, rfl, .conv (.same rfl)⟩, trivial⟩, rfl, (s11.1, 0), Eq.mpr (Option.some.inj h) hp, rfl⟩
theorem M_bound_Check_s (S_ : Nat → (Ship) → (List Box) → (List (List G7)) → Option (Int × Int)) (hS_ : ∀ F s boxes families r, S_ F s boxes families = some r → ∃ p : Prop, M_bound_Check F s boxes families (fun r_ => r_ = r) = some p ∧ p) (F : Nat) (s : Ship) (boxes : List Box) (families : List (List G7)) (r : Int × Int) (h : S_ F s boxes families = some r) : Pure Try.prog 23 [.agg (Ship.cs s), LS 9 Box.av boxes, LS 1 (LS 2 G7.av) families] (· = .tup [G2 r.1, G2 r.2]) := by
 obtain ⟨p, h1, h2⟩ := hS_ F s boxes families r h
 exact (M_bound_Check_w F s boxes families _ p h1 h2).monoP (fun av hh => by obtain ⟨r_, rfl, ha⟩ := hh; exact ha)

def M_bound_up (n : Int) (d : Int) : Option Int :=
 chk (n + d) fun v3 =>
 chk (v3 - 1) fun v4 =>
 bnd (quo64 v4 d) fun v5 =>
 some v5
theorem M_bound_up_w (n : Int) (d : Int) (r : Int) (h : M_bound_up n d = some r) : Pure Try.prog 47 [G2 n, G2 d] (· = G2 r) := by
 unfold M_bound_up at h
 refine H0 [.tmp 4] Try.func47 rfl rfl ?_
 refine G6 fun K1 hK1 => G3 ?_
 refine G1 (u := G2 0) (Ga rfl rfl) ?_
 refine G9 (hK1 _ _ ?_)
 refine G6 fun K2 hK2 => G3 ?_
 refine G1 (u := G2 n) (G5 rfl rfl) ?_
 refine G1 (u := G2 d) (G5 rfl rfl) ?_
 obtain ⟨v3, hv3, h⟩ := Gy h
 refine G1 (u := G2 v3) (H7 hv3 rfl rfl rfl) ?_
 obtain ⟨v4, hv4, h⟩ := Gy h
 refine G1 (u := G2 v4) (A_sub hv4 rfl rfl rfl) ?_
 refine G1 (u := G2 d) (G5 rfl rfl) ?_
 obtain ⟨v5, hv5, h⟩ := Gg h
 refine G1 (u := G2 v5) (A_quo (quo64_out hv5).1 (quo64_out hv5).2 rfl rfl rfl) ?_
 refine G1 (u := G2 v5) (Ga rfl rfl) ?_
 refine G9 (hK2 _ _ ?_)
 refine Gt ?_
 exact ⟨[G2 v5], [], trivial, rfl, ⟨⟨_, rfl, .conv (.same rfl)⟩, trivial⟩, rfl, congrArg (fun r : Int => (G2 r : AV)) (Option.some.inj h)⟩

def M_bound_Need (s : Ship) (whole : Int) (half : Int) : Option (Int × Int) :=
 bnd (S_ship_Right s) fun r4 =>
 bif (((!r4) || (decide ((min whole half) < 0))) || (decide (2000 < (max whole half)))) then
 (some (0, 2))
 else
 (bnd (M_ship_Tallest s) fun r7 =>
  bnd (M_bound_up whole r7) fun r9 =>
  chk (2 * r9) fun v10 =>
  chk (2 * whole) fun v11 =>
  chk (v11 + half) fun v12 =>
  bnd (M_bound_up v12 r7) fun r13 =>
  some ((max v10 r13), 0))
theorem M_bound_Need_w (s : Ship) (whole : Int) (half : Int) (r : Int × Int) (h : M_bound_Need s whole half = some r) : Pure Try.prog 24 [.agg (Ship.cs s), G2 whole, G2 half] (· = .tup [G2 r.1, G2 r.2]) := by
 unfold M_bound_Need at h
 refine H0 [.tmp 6, .tmp 7] Try.func24 rfl rfl ?_
 refine G6 fun K1 hK1 => G3 ?_
 refine G1 (u := .ptr 1079 0) (J2 (u := .agg (Ship.cs s)) (cs := (Ship.cs s)) 1079 rfl rfl rfl rfl rfl) ?_
 refine G1 (u := G2 0) (Ga rfl rfl) ?_
 refine G1 (u := G2 0) (Ga rfl rfl) ?_
 refine G9 (hK1 _ _ ?_)
 refine Gq [(1, G2 whole), (2, G2 half), (3, .dptr (Ship.cs s))] [] 1079 rfl rfl rfl trivial rfl (by exact ⟨.conv (.same rfl), .conv (.same rfl), .ptr, trivial⟩) ?_
 refine G6 (fun K2 hK2 => ?_)
 refine G6 fun K3 hK3 => G3 ?_
 refine G1 (u := .agg (Ship.cs s)) (Gf Hh rfl rfl rfl) ?_
 obtain ⟨r4, hr4, h⟩ := Gg h
 refine G1 (u := BL r4) (Gu (args := [.agg (Ship.cs s)]) rfl (S_ship_Right_w.down s r4 hr4) tf_call_32 ⟨rfl, rfl, trivial⟩) ?_
 refine G1 (u := BL (!r4)) (A_not (b := r4) rfl rfl) ?_
 refine G1 (u := BL (!r4)) (G5 rfl rfl) ?_
 refine Gj (u := G2 whole) [] rfl rfl rfl .scf trivial (fun hc => G5 rfl rfl) ?_
 refine Gj (u := G2 half) [] rfl rfl rfl .scf trivial (fun hc => G5 rfl rfl) ?_
 refine Gj (u := G2 (min whole half)) [(13, G2 whole), (14, G2 half)] rfl rfl rfl .scf ⟨.all id, .all id, trivial⟩ (fun hc => A_min rfl rfl rfl) ?_
 refine Gj (u := BL (decide ((min whole half) < 0))) [(15, G2 (min whole half))] rfl rfl rfl .scf ⟨.all id, trivial⟩ (fun hc => Hg rfl rfl rfl) ?_
 refine G1 (u := BL ((!r4) || (decide ((min whole half) < 0)))) (A_or rfl rfl rfl rfl) ?_
 refine G1 (u := BL ((!r4) || (decide ((min whole half) < 0)))) (G5 rfl rfl) ?_
 refine Gj (u := G2 whole) [] rfl rfl rfl .scf trivial (fun hc => G5 rfl rfl) ?_
 refine Gj (u := G2 half) [] rfl rfl rfl .scf trivial (fun hc => G5 rfl rfl) ?_
 refine Gj (u := G2 (max whole half)) [(19, G2 whole), (20, G2 half)] rfl rfl rfl .scf ⟨.all id, .all id, trivial⟩ (fun hc => A_max rfl rfl rfl) ?_
 refine Gj (u := BL (decide (2000 < (max whole half)))) [(21, G2 (max whole half))] rfl rfl rfl .scf ⟨.all id, trivial⟩ (fun hc => Jy rfl rfl rfl) ?_
 refine G1 (u := BL (((!r4) || (decide ((min whole half) < 0))) || (decide (2000 < (max whole half))))) (A_or rfl rfl rfl rfl) ?_
 refine G9 (hK3 _ _ ?_)
 refine Gm rfl (fun hb => ?_) (fun hb => ?_)
 ·
  replace h := bif_t hb h
  refine G6 fun K5 hK5 => G3 ?_
  refine G1 (u := G2 0) (Ga rfl rfl) ?_
  refine G1 (u := G2 2) (Ga rfl rfl) ?_
  refine G9 (hK5 _ _ ?_)
  refine Gt ?_
  exact ⟨[G2 0, G2 2], [], trivial, rfl, ⟨⟨_, rfl, .conv (.same rfl)⟩, ⟨_, rfl, .conv (.same rfl)⟩, trivial⟩, rfl, congrArg (fun r : Int × Int => (.tup [G2 r.1, G2 r.2] : AV)) (Option.some.inj h)⟩
 ·
  replace h := bif_f hb h
  refine Gp ?_
  refine hK2 _ _ ?_
  refine G6 fun K6 hK6 => G3 ?_
  refine G1 (u := .agg (Ship.cs s)) (Gf Hh rfl rfl rfl) ?_
  obtain ⟨r7, hr7, h⟩ := Gg h
  refine G1 (u := G2 r7) (Gu (args := [.agg (Ship.cs s)]) rfl (M_ship_Tallest_w s r7 hr7) tf_call_38 ⟨rfl, rfl, trivial⟩) ?_
  refine G1 (u := G2 r7) (Ga rfl rfl) ?_
  refine G9 (hK6 _ _ ?_)
  refine G6 fun K8 hK8 => G3 ?_
  refine G1 (u := G2 whole) (G5 rfl rfl) ?_
  refine G1 (u := G2 r7) (G5 rfl rfl) ?_
  obtain ⟨r9, hr9, h⟩ := Gg h
  refine G1 (u := G2 r9) (Gu (args := [G2 whole, G2 r7]) rfl (M_bound_up_w whole r7 r9 hr9) tf_call_47 ⟨rfl, rfl, rfl, rfl, trivial⟩) ?_
  obtain ⟨v10, hv10, h⟩ := Gy h
  refine G1 (u := G2 v10) (A_mul hv10 rfl rfl rfl) ?_
  refine G1 (u := G2 whole) (G5 rfl rfl) ?_
  obtain ⟨v11, hv11, h⟩ := Gy h
  refine G1 (u := G2 v11) (A_mul hv11 rfl rfl rfl) ?_
  refine G1 (u := G2 half) (G5 rfl rfl) ?_
  obtain ⟨v12, hv12, h⟩ := Gy h
  refine G1 (u := G2 v12) (H7 hv12 rfl rfl rfl) ?_
  refine G1 (u := G2 r7) (G5 rfl rfl) ?_
  obtain ⟨r13, hr13, h⟩ := Gg h
  refine G1 (u := G2 r13) (Gu (args := [G2 v12, G2 r7]) rfl (M_bound_up_w v12 r7 r13 hr13) tf_call_47 ⟨rfl, rfl, rfl, rfl, trivial⟩) ?_
  refine G1 (u := G2 (max v10 r13)) (A_max rfl rfl rfl) ?_
  refine G1 (u := G2 (max v10 r13)) (Ga rfl rfl) ?_
  refine G1 (u := G2 0) (Ga rfl rfl) ?_
  refine G9 (hK8 _ _ ?_)
  refine Gt ?_
  exact ⟨[G2 (max v10 r13), G2 0], [], trivial, rfl, ⟨⟨_, rfl, .conv (.same rfl)⟩, ⟨_, rfl, .conv (.same rfl)⟩, trivial⟩, rfl, congrArg (fun r : Int × Int => (.tup [G2 r.1, G2 r.2] : AV)) (Option.some.inj h)⟩

def M_twistlockkit_SameGroups (a : List G7) (b : List G7) : Option Bool :=
 bif decide ((a.length : Int) ≠ (b.length : Int)) then
 (some false)
 else
 (each (fun y24 i24 (s24 : Unit) nx24 =>
   gidx b (i24 : Int) fun y29 =>
   bif (!decide (y24 = y29)) then
   (some false)
   else
   (nx24 ()))
  (fun (s24 : Unit) =>
   some true) a 0 ())
theorem M_twistlockkit_SameGroups_w (a : List G7) (b : List G7) (r : Bool) (h : M_twistlockkit_SameGroups a b = some r) : Pure Try.prog 25 [LS 2 G7.av a, LS 2 G7.av b] (· = BL r) := by
 unfold M_twistlockkit_SameGroups at h
 refine H0 [.tmp 4] Try.func25 rfl rfl ?_
 refine G6 fun K1 hK1 => G3 ?_
 refine G1 (u := BL false) (Ga rfl rfl) ?_
 refine G9 (hK1 _ _ ?_)
 refine G6 (fun K2 hK2 => ?_)
 refine G6 fun K3 hK3 => G3 ?_
 refine G1 (u := LS 2 G7.av a) (G5 rfl rfl) ?_
 refine H9 (f := G7.av) (xs := a) H5 rfl rfl (fun hm7 => ?_) rfl rfl rfl
 refine G1 (u := LS 2 G7.av b) (G5 rfl rfl) ?_
 refine H9 (f := G7.av) (xs := b) H5 rfl rfl (fun hm9 => ?_) rfl rfl rfl
 refine G1 (u := BL (decide ((a.length : Int) ≠ (b.length : Int)))) (A_neq rfl rfl rfl) ?_
 refine G9 (hK3 _ _ ?_)
 refine Gm rfl (fun hb => ?_) (fun hb => ?_)
 ·
  replace h := bif_t hb h
  refine G6 fun K4 hK4 => G3 ?_
  refine G1 (u := BL false) (Ga rfl rfl) ?_
  refine G9 (hK4 _ _ ?_)
  refine Gt ?_
  exact ⟨[BL false], [], trivial, rfl, ⟨⟨_, rfl, .conv (.same rfl)⟩, trivial⟩, rfl, congrArg (fun r : Bool => (BL r : AV)) (Option.some.inj h)⟩
 ·
  replace h := bif_f hb h
  refine Gp ?_
  refine hK2 _ _ ?_
  refine G6 (fun K5 hK5 => ?_)
  refine G6 fun K6 hK6 => G3 ?_
  refine G1 (u := G2 0) (Ga rfl rfl) ?_
  refine G9 (hK6 _ _ ?_)
  refine Gk ?_
  obtain ⟨b24, kx24, hb24, hkx24, h⟩ := Hj h
  refine H2 (fun i24 (s24 : Unit) => each b24 kx24 (List.drop i24 a) i24 s24 = some r) (fun i24 s24 => [(0, LS 2 G7.av a), (1, LS 2 G7.av b), (5, G2 (i24 : Int))]) (fun i24 s24 => []) (fun i24 => a.length - i24) 0 () h ⟨⟨.same rfl, .same rfl, .same rfl, trivial⟩, trivial, rfl⟩ ?_
  clear h
  intro i24 s24 hi24 K24 e24
  refine G6 (fun K25 hK25 => ?_)
  refine G6 fun K26 hK26 => G3 ?_
  refine G1 (u := G2 (i24 : Int)) (G5 rfl rfl) ?_
  refine G1 (u := LS 2 G7.av a) (G5 rfl rfl) ?_
  refine H9 (f := G7.av) (xs := a) H5 rfl rfl (fun hm13 => ?_) rfl rfl rfl
  refine G1 (u := BL (decide ((i24 : Int) < (a.length : Int)))) (Hg rfl rfl rfl) ?_
  refine G9 (hK26 _ _ ?_)
  refine Gm rfl (fun hb => ?_) (fun hb => ?_)
  ·
   have hk24 := lt_len hb
   obtain ⟨y24, nx24, hy24, hn24, h⟩ := Hc hi24 hk24
   replace h := app4 hb24 h
   refine Gp ?_
   refine hK25 _ _ ?_
   refine G6 (fun K27 hK27 => ?_)
   refine Gk ?_
   refine G6 (fun K28 hK28 => ?_)
   obtain ⟨m30, y29, hm30, hy29, h⟩ := Je h
   refine Hy [] [0, 0, 0, 0, 0, 0, 0, 0, 0] [0, 0, 0, 0, 0, 0, 0, 0, 0] [[]] Hr (by kernel_rfl) rfl rfl ?_
   refine Ge (u := LS 2 G7.av a) rfl rfl ⟨Gi (G5 rfl rfl) rfl, trivial⟩ ?_
   refine Ge (u := G2 (i24 : Int)) rfl rfl ⟨Gi (G5 rfl rfl) rfl, trivial⟩ ?_
   refine Ge (u := .dptr [G2 y24.Load, G2 y24.Discharge]) rfl rfl ⟨Gi (Gw (f := G7.av) (xs := a) (y := y24) rfl rfl rfl H5 hy24 rfl) rfl, trivial⟩ ?_
   refine Ge (u := .agg [G2 y24.Load, G2 y24.Discharge]) rfl rfl ⟨Gi (Gf Hf rfl rfl rfl) rfl, trivial⟩ ?_
   refine Ge (u := LS 2 G7.av b) rfl rfl ⟨Gi (G5 rfl rfl) rfl, trivial⟩ ?_
   refine Ge (u := G2 (i24 : Int)) rfl rfl ⟨Gi (G5 rfl rfl) rfl, trivial⟩ ?_
   refine Ge (u := .dptr [G2 y29.Load, G2 y29.Discharge]) rfl rfl ⟨Gi (Gw (f := G7.av) (xs := b) (y := y29) rfl rfl rfl H5 hy29 hm30) rfl, trivial⟩ ?_
   refine Ge (u := .agg [G2 y29.Load, G2 y29.Discharge]) rfl rfl ⟨Gi (Gf Hf rfl rfl rfl) rfl, trivial⟩ ?_
   refine Ge (u := BL (!decide (y24 = y29))) rfl rfl ⟨Gi (A_neAgg (vs := [.int .i64 y24.Load, .int .i64 y24.Discharge]) (us := [.int .i64 y29.Load, .int .i64 y29.Discharge]) 4 rfl (tq_56 y24 y29) tf_aggof_56 tf_eqg_56 rfl rfl rfl) rfl, trivial⟩ ?_
   refine Q3 ?_
   refine hK28 _ _ ?_
   refine Gm rfl (fun hb => ?_) (fun hb => ?_)
   ·
    replace h := bif_t hb h
    refine G6 fun K31 hK31 => G3 ?_
    refine G1 (u := BL false) (Ga rfl rfl) ?_
    refine G9 (hK31 _ _ ?_)
    refine Gt ?_
    exact ⟨[BL false], [], trivial, rfl, ⟨⟨_, rfl, .conv (.same rfl)⟩, trivial⟩, rfl, congrArg (fun r : Bool => (BL r : AV)) (Option.some.inj h)⟩
   ·
    replace h := bif_f hb h
    refine Gp ?_
    refine hK27 _ _ ?_
    refine G3 ?_
    refine G1 (u := G2 (i24 : Int)) (G5 rfl rfl) ?_
    refine G1 (u := G2 ((i24 + 1 : Nat) : Int)) (H7 (idx_succ hk24 hm13) rfl rfl rfl) ?_
    refine G1 (u := G2 ((i24 + 1 : Nat) : Int)) (Ga rfl rfl) ?_
    refine G9 ?_
    exact e24 _ _ (i24 + 1) () (app1 hn24 h) (by omega) ⟨⟨.same rfl, .same rfl, .same rfl, trivial⟩, trivial, rfl⟩
  ·
   have h := app1 hkx24 (Hd hi24 (H3 hb))
   refine H4 ?_
   refine hK5 _ _ ?_
   refine G6 fun K32 hK32 => G3 ?_
   refine G1 (u := BL true) (Ga rfl rfl) ?_
   refine G9 (hK32 _ _ ?_)
   refine Gt ?_
   exact ⟨[BL true], [], trivial, rfl, ⟨⟨_, rfl, .conv (.same rfl)⟩, trivial⟩, rfl, congrArg (fun r : Bool => (BL r : AV)) (Option.some.inj h)⟩
end
end Go.Proofs.Ytlhfflmknlfafaa
