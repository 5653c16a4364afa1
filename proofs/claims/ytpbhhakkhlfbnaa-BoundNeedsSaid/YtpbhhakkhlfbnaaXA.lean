/-
  Models of functions of the program, and that they return what the models say.
-/
import Derived.Test.YtpbhhakkhlfbnaaProg
import Derived.Test.YtpbhhakkhlfbnaaSortM
import Derived.Test.YtpbhhakkhlfbnaaSortLay
import Derived.Test.YtpbhhakkhlfbnaaRel
import Derived.Test.YtpbhhakkhlfbnaaXAa
set_option maxRecDepth 100000
set_option linter.unusedVariables false
set_option linter.unusedSimpArgs false
namespace Go.Proofs.Ytpbhhakkhlfbnaa
open Go.RowKit
noncomputable section
open XAF

def M_bound_bound_1 (F : Nat) (c : bound_Count) (p1 : Int) (p2 : Int) (p3 : List Int) : Option (List Int) :=
  chk (p1 + 1) fun v3 =>
  bnd (M_slices_Repeat_int F [(-1)] v3) fun r4 =>
  jp (fun kj6 =>
    loop (fun nx8 (s8 : Int × (List Int)) =>
      bif decide (s8.1 ≤ p1) then
      (bnd (M_bound_out F c p2 s8.1) fun r13 =>
        loop (fun nx62 (s62 : Int × (List Int)) =>
          bif decide (s62.1 ≤ p1) then
          (jp (fun kj65 =>
              chk (s62.1 - s8.1) fun v67 =>
              gidx p3 v67 fun y68 =>
              chk (y68 + r13) fun v70 =>
              gidx s62.2 s62.1 fun y72 =>
              bnd (bif (!(decide (y72 < 0))) then gidx s62.2 s62.1 some else some default) fun y73 =>
              bif ((decide (y72 < 0)) || (decide (v70 < y73))) then
              (gidx s62.2 s62.1 fun y74 =>
                kj65 (s62.2.set s62.1.toNat v70))
              else
              (kj65 s62.2)) fun (j65 : (List Int)) =>
            chk (s62.1 + 1) fun v75 =>
            nx62 (v75, j65))
          else
          (bif decide (r13 = 0) then
            (kj6 s62.2)
            else
            (chk (s8.1 + 1) fun v77 =>
              nx8 (v77, s62.2)))) F (s8.1, s8.2))
      else
      (kj6 s8.2)) F (0, r4)) fun (j6 : (List Int)) =>
  some j6
theorem M_bound_bound_1_w (F : Nat) (c : bound_Count) (p1 : Int) (p2 : Int) (p3 : List Int) (r : (List Int)) (h : M_bound_bound_1 F c p1 p2 p3 = some r) : ACalls Try.prog 43 [.agg (bound_Count.cs c), .dptr [I64 p1], .dptr [I64 p2], .ptr 250000007 0] [(250000007, .box 52 [LS 1 I64 p3])] (fun av L' => av = .tup [] ∧ L' = [(250000007, .box 52 [LS 1 I64 r])]) := by
  unfold M_bound_bound_1 at h
  refine ACalls_ofG [250000007] [] Try.func43 rfl rfl (inAll rfl) ?_
  refine JC_seq (fun K1 hK1 => ?_)
  refine JC_region ?_
  refine JL_go (u := .ptr 440000004 0) (A_box (u := .agg (bound_Count.cs c)) (cs := [I64 c.Group.Load, I64 c.Group.Discharge, I64 c.Whole, I64 c.Half]) 440000004 rfl rfl rfl rfl rfl) ?_ rfl rfl rfl
  refine JL_nil ?_
  refine hK1 _ _ ?_
  refine JC_freeze [(1, .dptr [I64 p1]), (2, .dptr [I64 p2]), (3, .ptr 250000007 0), (4, .dptr (bound_Count.cs c))] [(250000007, .box 52 [LS 1 I64 p3])] 440000004 rfl rfl rfl ⟨⟨_, rfl, .boxEq rfl rfl⟩, trivial⟩ rfl (by exact ⟨.conv (.same rfl), .conv (.same rfl), .conv (.same rfl), .ptr, trivial⟩) ?_
  refine JC_seq (fun K2 hK2 => ?_)
  refine JC_region ?_
  refine JL_go (u := LS 1 I64 [(-1)]) (A_buildSlice (xs := [I64 (-1)]) rfl ⟨rfl, rfl, trivial⟩ tf_slice_52 tf_zsize_3 rfl rfl rfl rfl) ?_ rfl rfl rfl
  refine JL_go (u := I64 p1) (A_load tf_scalar_3 rfl rfl rfl) ?_ rfl rfl rfl
  obtain ⟨v3, hv3, h⟩ := chk_out h
  refine JL_go (u := I64 v3) (A_add hv3 rfl rfl rfl) ?_ rfl rfl rfl
  obtain ⟨r4, hr4, h⟩ := bnd_out h
  refine JL_step rfl rfl rfl (A_callLE (args := [LS 1 I64 [(-1)], I64 v3]) (L0 := []) (u := fun p => .vec 450000030 p 1 r4.length) (Lr := fun p => [(450000030, .vec 3 1 p (r4.map I64))]) rfl (M_slices_Repeat_int_n F [(-1)] v3 r4 hr4) tf_call_44 ⟨.inl rfl, rfl, .inl rfl, rfl, trivial⟩ trivial rfl (fun _ => rfl)) ?_
  rintro u_ L_ ⟨v5, rfl, rfl⟩
  refine JL_go (u := .vec 450000030 v5 1 r4.length) (A_assign rfl rfl) ?_ rfl rfl rfl
  refine JL_nil ?_
  refine hK2 _ _ ?_
  obtain ⟨kj6, hkj6, h⟩ := jp_out h
  refine JC_seqJ (fun j6 : (List Int) => kj6 j6 = some r) (fun j6 => [(3, .ptr 250000007 0), (5, .vec 450000030 v5 1 r4.length)]) (fun j6 => [(450000030, .vec 3 1 v5 (j6.map I64)), (250000007, .box 52 [LS 1 I64 p3])]) (fun Kj6 ej6 => ?_) ?_
  ·
    refine JC_seq (fun K7 hK7 => ?_)
    refine JC_region ?_
    refine JL_go (u := I64 0) (A_assign rfl rfl) ?_ rfl rfl rfl
    refine JL_nil ?_
    refine hK7 _ _ ?_
    refine JC_block ?_
    obtain ⟨b8, hb8, h⟩ := loop_in h
    refine JC_loop2 (fun i8 (s8 : Int × (List Int)) => loop b8 i8 s8 = some r) (fun i8 s8 => [(1, .dptr [I64 p1]), (2, .dptr [I64 p2]), (3, .ptr 250000007 0), (4, .dptr (bound_Count.cs c)), (5, .vec 450000030 v5 1 r4.length), (6, I64 s8.1)]) (fun i8 s8 => [(450000030, .vec 3 1 v5 (s8.2.map I64)), (250000007, .box 52 [LS 1 I64 p3])]) (fun i8 => i8) F (0, r4) h ⟨⟨.same rfl, .same rfl, .same rfl, .same rfl, .same rfl, .same rfl, trivial⟩, ⟨⟨_, rfl, .vec⟩, ⟨_, rfl, .boxL rfl ⟨.same rfl, trivial⟩⟩, trivial⟩, rfl⟩ ?_
    clear h
    intro i8 s8 hi8 K8 e8
    obtain ⟨m8, nx8, hm_8, hn8, h⟩ := loop_out hi8
    replace h := app2 hb8 h
    refine JC_seq (fun K9 hK9 => ?_)
    refine JC_seq (fun K10 hK10 => ?_)
    refine JC_region ?_
    refine JL_go (u := I64 s8.1) (A_move rfl rfl) ?_ rfl rfl rfl
    refine JL_go (u := I64 p1) (A_load tf_scalar_3 rfl rfl rfl) ?_ rfl rfl rfl
    refine JL_go (u := BL (decide (s8.1 ≤ p1))) (A_leq rfl rfl rfl) ?_ rfl rfl rfl
    refine JL_nil ?_
    refine hK10 _ _ ?_
    refine JC_cond rfl (fun hb => ?_) (fun hb => ?_)
    ·
      replace h := bif_t hb h
      refine JC_skip ?_
      refine hK9 _ _ ?_
      refine JC_seq (fun K11 hK11 => ?_)
      refine JC_block ?_
      refine JC_seq (fun K12 hK12 => ?_)
      refine JC_region ?_
      refine JL_go (u := .agg (bound_Count.cs c)) (A_loadAgg tf_agg_29 rfl rfl rfl) ?_ rfl rfl rfl
      refine JL_go (u := I64 p2) (A_load tf_scalar_3 rfl rfl rfl) ?_ rfl rfl rfl
      refine JL_go (u := I64 s8.1) (A_move rfl rfl) ?_ rfl rfl rfl
      obtain ⟨r13, hr13, h⟩ := bnd_out h
      refine JL_go (u := I64 r13) (A_call1 (args := [.agg (bound_Count.cs c), I64 p2, I64 s8.1]) rfl (M_bound_out_w F c p2 s8.1 r13 hr13) tf_call_45 ⟨rfl, rfl, rfl, rfl, rfl, rfl, trivial⟩) ?_ rfl rfl rfl
      refine JL_go (u := I64 r13) (A_assign rfl rfl) ?_ rfl rfl rfl
      refine JL_nil ?_
      refine hK12 _ _ ?_
      refine JC_seq (fun K14 hK14 => ?_)
      refine JC_seq (fun K15 hK15 => ?_)
      refine JC_region ?_
      refine JL_go (u := I64 s8.1) (A_move rfl rfl) ?_ rfl rfl rfl
      refine JL_go (u := I64 s8.1) (A_assign rfl rfl) ?_ rfl rfl rfl
      refine JL_nil ?_
      refine hK15 _ _ ?_
      refine JC_block ?_
      obtain ⟨b62, hb62, h⟩ := loop_in h
      refine JC_loop2 (fun i62 (s62 : Int × (List Int)) => loop b62 i62 s62 = some r) (fun i62 s62 => [(1, .dptr [I64 p1]), (2, .dptr [I64 p2]), (3, .ptr 250000007 0), (4, .dptr (bound_Count.cs c)), (5, .vec 450000030 v5 1 r4.length), (6, I64 s8.1), (7, I64 r13), (8, I64 s62.1)]) (fun i62 s62 => [(450000030, .vec 3 1 v5 (s62.2.map I64)), (250000007, .box 52 [LS 1 I64 p3])]) (fun i62 => i62) F (s8.1, s8.2) h ⟨⟨.same rfl, .same rfl, .same rfl, .same rfl, .same rfl, .same rfl, .same rfl, .same rfl, trivial⟩, ⟨⟨_, rfl, .vec⟩, ⟨_, rfl, .boxL rfl ⟨.same rfl, trivial⟩⟩, trivial⟩, rfl⟩ ?_
      clear h
      intro i62 s62 hi62 K62 e62
      obtain ⟨m62, nx62, hm_62, hn62, h⟩ := loop_out hi62
      replace h := app2 hb62 h
      refine JC_seq (fun K63 hK63 => ?_)
      refine JC_seq (fun K64 hK64 => ?_)
      refine JC_region ?_
      refine JL_go (u := I64 s62.1) (A_move rfl rfl) ?_ rfl rfl rfl
      refine JL_go (u := I64 p1) (A_load tf_scalar_3 rfl rfl rfl) ?_ rfl rfl rfl
      refine JL_go (u := BL (decide (s62.1 ≤ p1))) (A_leq rfl rfl rfl) ?_ rfl rfl rfl
      refine JL_nil ?_
      refine hK64 _ _ ?_
      refine JC_cond rfl (fun hb => ?_) (fun hb => ?_)
      ·
        replace h := bif_t hb h
        refine JC_skip ?_
        refine hK63 _ _ ?_
        obtain ⟨kj65, hkj65, h⟩ := jp_out h
        refine JC_seqJ (fun j65 : (List Int) => kj65 j65 = some r) (fun j65 => [(1, .dptr [I64 p1]), (2, .dptr [I64 p2]), (3, .ptr 250000007 0), (4, .dptr (bound_Count.cs c)), (5, .vec 450000030 v5 1 r4.length), (6, I64 s8.1), (7, I64 r13), (8, I64 s62.1)]) (fun j65 => [(450000030, .vec 3 1 v5 (j65.map I64)), (250000007, .box 52 [LS 1 I64 p3])]) (fun Kj65 ej65 => ?_) ?_
        ·
          refine JC_block ?_
          refine JC_seq (fun K66 hK66 => ?_)
          refine JC_region ?_
          refine JL_go (u := LS 1 I64 p3) (A_loadL tf_scalar_52 rfl rfl rfl rfl) ?_ rfl rfl rfl
          refine JL_go (u := I64 s62.1) (A_move rfl rfl) ?_ rfl rfl rfl
          refine JL_go (u := I64 s8.1) (A_move rfl rfl) ?_ rfl rfl rfl
          obtain ⟨v67, hv67, h⟩ := chk_out h
          refine JL_go (u := I64 v67) (A_sub hv67 rfl rfl rfl) ?_ rfl rfl rfl
          obtain ⟨m69, y68, hm69, hy68, h⟩ := gidx_out h
          refine JL_go (u := .dptr [I64 y68]) (A_indexM (f := I64) (xs := p3) (y := y68) rfl rfl rfl tf_slice_52 hy68 hm69) ?_ rfl rfl rfl
          refine JL_go (u := I64 y68) (A_load tf_scalar_3 rfl rfl rfl) ?_ rfl rfl rfl
          refine JL_go (u := I64 r13) (A_move rfl rfl) ?_ rfl rfl rfl
          obtain ⟨v70, hv70, h⟩ := chk_out h
          refine JL_go (u := I64 v70) (A_add hv70 rfl rfl rfl) ?_ rfl rfl rfl
          refine JL_go (u := I64 v70) (A_assign rfl rfl) ?_ rfl rfl rfl
          refine JL_nil ?_
          refine hK66 _ _ ?_
          refine JC_seq (fun K71 hK71 => ?_)
          refine JC_region ?_
          refine JL_go (u := .vec 450000030 v5 1 r4.length) (A_move rfl rfl) ?_ rfl rfl rfl
          refine JL_go (u := I64 s62.1) (A_move rfl rfl) ?_ rfl rfl rfl
          obtain ⟨y72, hmy72, hy72, h⟩ := gidx_outT h
          refine JL_go (u := .vptr 450000030 v5 s62.1.toNat 0) (A_vidxM (f := I64) (xs := s62.2) (y := y72) rfl rfl rfl rfl tf_slice_52 hy72 hmy72) ?_ rfl rfl rfl
          refine JL_go (u := I64 y72) (A_vloadM (f := I64) (xs := s62.2) (y := y72) tf_scalar_3 rfl rfl rfl hy72 rfl rfl) ?_ rfl rfl rfl
          refine JL_go (u := BL (decide (y72 < 0))) (A_lss rfl rfl rfl) ?_ rfl rfl rfl
          refine JL_go (u := BL (decide (y72 < 0))) (A_move rfl rfl) ?_ rfl rfl rfl
          refine JL_opt (u := I64 v70) [] rfl rfl rfl .scf trivial (fun hc => A_move rfl rfl) ?_ rfl rfl rfl
          refine JL_opt (u := .vec 450000030 v5 1 r4.length) [] rfl rfl rfl .scf trivial (fun hc => A_move rfl rfl) ?_ rfl rfl rfl
          refine JL_opt (u := I64 s62.1) [] rfl rfl rfl .scf trivial (fun hc => A_move rfl rfl) ?_ rfl rfl rfl
          obtain ⟨y73, hy73, h⟩ := bnd_out h
          refine JL_opt (u := .vptr 450000030 v5 s62.1.toNat 0) [(44, .vec 450000030 v5 1 r4.length), (45, I64 s62.1)] rfl rfl rfl .scf ⟨.all id, .all id, trivial⟩ (fun hc => A_vidxM (f := I64) (xs := s62.2) (y := y73) rfl rfl rfl rfl tf_slice_52 (gidx_some2 (bif_t hc hy73)) (gidx_some1 (bif_t hc hy73))) ?_ rfl rfl rfl
          refine JL_opt (u := I64 y73) [(46, .vptr 450000030 v5 s62.1.toNat 0)] rfl rfl rfl .scf ⟨.all id, trivial⟩ (fun hc => A_vloadM (f := I64) (xs := s62.2) (y := y73) tf_scalar_3 rfl rfl rfl (gidx_some2 (bif_t hc hy73)) rfl rfl) ?_ rfl rfl rfl
          refine JL_opt (u := BL (decide (v70 < y73))) [(43, I64 v70), (47, I64 y73)] rfl rfl rfl .scf ⟨.all id, .all id, trivial⟩ (fun hc => A_lss rfl rfl rfl) ?_ rfl rfl rfl
          refine JL_go (u := BL ((decide (y72 < 0)) || (decide (v70 < y73)))) (A_or rfl rfl rfl rfl) ?_ rfl rfl rfl
          refine JL_nil ?_
          refine hK71 _ _ ?_
          refine JC_cond rfl (fun hb => ?_) (fun hb => ?_)
          ·
            replace h := bif_t hb h
            refine JC_region ?_
            refine JL_go (u := .vec 450000030 v5 1 r4.length) (A_move rfl rfl) ?_ rfl rfl rfl
            refine JL_go (u := I64 s62.1) (A_move rfl rfl) ?_ rfl rfl rfl
            refine JL_go (u := I64 v70) (A_move rfl rfl) ?_ rfl rfl rfl
            obtain ⟨y74, hmy74, hy74, h⟩ := gidx_outT h
            refine JL_go (u := .vptr 450000030 v5 s62.1.toNat 0) (A_vidxM (f := I64) (xs := s62.2) (y := y74) rfl rfl rfl rfl tf_slice_52 hy74 hmy74) ?_ rfl rfl rfl
            refine JL_go0 (u := .junk) (A_vstoreM (f := I64) (xs := s62.2) (z := v70) tf_size_3 rfl rfl rfl rfl (List.getElem?_eq_some_iff.1 hy74).1 rfl rfl rfl rfl) ?_ rfl rfl
            refine JL_nil ?_
            exact ej65 _ _ (s62.2.set s62.1.toNat v70) h ⟨⟨.same rfl, .same rfl, .same rfl, .same rfl, .same rfl, .same rfl, .same rfl, .same rfl, trivial⟩, ⟨⟨_, rfl, .vec⟩, ⟨_, rfl, .boxL rfl ⟨.same rfl, trivial⟩⟩, trivial⟩, rfl⟩
          ·
            replace h := bif_f hb h
            refine JC_skip ?_
            exact ej65 _ _ s62.2 h ⟨⟨.same rfl, .same rfl, .same rfl, .same rfl, .same rfl, .same rfl, .same rfl, .same rfl, trivial⟩, ⟨⟨_, rfl, .vec⟩, ⟨_, rfl, .boxL rfl ⟨.same rfl, trivial⟩⟩, trivial⟩, rfl⟩
        · intro j65 h
          replace h := app1 hkj65 h
          refine JC_region ?_
          refine JL_go (u := I64 s62.1) (A_move rfl rfl) ?_ rfl rfl rfl
          obtain ⟨v75, hv75, h⟩ := chk_out h
          refine JL_go (u := I64 v75) (A_add hv75 rfl rfl rfl) ?_ rfl rfl rfl
          refine JL_go (u := I64 v75) (A_assign rfl rfl) ?_ rfl rfl rfl
          refine JL_nil ?_
          exact e62 _ _ m62 (v75, j65) (app1 hn62 h) (by omega) ⟨⟨.same rfl, .same rfl, .same rfl, .same rfl, .same rfl, .same rfl, .same rfl, .same rfl, trivial⟩, ⟨⟨_, rfl, .vec⟩, ⟨_, rfl, .boxL rfl ⟨.same rfl, trivial⟩⟩, trivial⟩, rfl⟩
      ·
        replace h := bif_f hb h
        refine JC_exit ?_
        refine hK14 _ _ ?_
        refine JC_seq (fun K76 hK76 => ?_)
        refine JC_region ?_
        refine JL_go (u := I64 r13) (A_move rfl rfl) ?_ rfl rfl rfl
        refine JL_go (u := BL (decide (r13 = 0))) (A_eql rfl rfl rfl) ?_ rfl rfl rfl
        refine JL_nil ?_
        refine hK76 _ _ ?_
        refine JC_cond rfl (fun hb => ?_) (fun hb => ?_)
        ·
          replace h := bif_t hb h
          refine JC_exit ?_
          exact ej6 _ _ s62.2 h ⟨⟨.same rfl, .same rfl, trivial⟩, ⟨⟨_, rfl, .vec⟩, ⟨_, rfl, .boxL rfl ⟨.same rfl, trivial⟩⟩, trivial⟩, rfl⟩
        ·
          replace h := bif_f hb h
          refine JC_skip ?_
          refine hK11 _ _ ?_
          refine JC_region ?_
          refine JL_go (u := I64 s8.1) (A_move rfl rfl) ?_ rfl rfl rfl
          obtain ⟨v77, hv77, h⟩ := chk_out h
          refine JL_go (u := I64 v77) (A_add hv77 rfl rfl rfl) ?_ rfl rfl rfl
          refine JL_go (u := I64 v77) (A_assign rfl rfl) ?_ rfl rfl rfl
          refine JL_nil ?_
          exact e8 _ _ m8 (v77, s62.2) (app1 hn8 h) (by omega) ⟨⟨.same rfl, .same rfl, .same rfl, .same rfl, .same rfl, .same rfl, trivial⟩, ⟨⟨_, rfl, .vec⟩, ⟨_, rfl, .boxL rfl ⟨.same rfl, trivial⟩⟩, trivial⟩, rfl⟩
    ·
      replace h := bif_f hb h
      refine JC_exit ?_
      exact ej6 _ _ s8.2 h ⟨⟨.same rfl, .same rfl, trivial⟩, ⟨⟨_, rfl, .vec⟩, ⟨_, rfl, .boxL rfl ⟨.same rfl, trivial⟩⟩, trivial⟩, rfl⟩
  · intro j6 h
    replace h := app1 hkj6 h
    refine JC_region ?_
    refine JL_go (u := .vec 450000030 v5 1 r4.length) (A_move rfl rfl) ?_ rfl rfl rfl
    refine JL_vfreeze [(3, .ptr 250000007 0), (5, LS 1 I64 j6), (56, LS 1 I64 j6)] [(250000007, .box 52 [LS 1 I64 p3])] 450000030 rfl rfl ⟨⟨_, rfl, .boxEq rfl rfl⟩, trivial⟩ rfl (by exact ⟨.conv (.same rfl), .vec, .vec, trivial⟩) ?_
    refine JL_go0 (u := .junk) (A_store (u := LS 1 I64 j6) (ds := [LS 1 I64 j6]) tf_size_52 rfl rfl rfl rfl rfl rfl rfl rfl) ?_ rfl rfl
    refine JL_nil ?_
    obtain rfl := Option.some.inj h
    exact ⟨[], [(250000007, .box 52 [LS 1 I64 j6])], ⟨⟨_, rfl, .boxL rfl ⟨.same rfl, trivial⟩⟩, trivial⟩, rfl, trivial, rfl, rfl⟩

def M_bound_bound (F : Nat) (s : Ship) (l : List bound_Count) : Option Int :=
  bnd (M_ship_Tallest s) fun r3 =>
  chk (2 * (s.Columns.length : Int)) fun v4 =>
  chk (v4 + 1) fun v6 =>
  bnd (natOf v6) fun m7 =>
  need (decide (8 * m7 ≤ 281474976710656 ∧ m7 ≤ maxLen ∧ m7 * 1 ≤ 16777216)) <|
  each (fun y36 i36 (s36 : (List Int)) nx36 =>
    bnd (M_bound_bound_1 F y36 v4 r3 s36) fun r41 =>
    nx36 r41)
  (fun (s36 : (List Int)) =>
    gidx s36 v4 fun y43 =>
    some y43) l 0 (List.replicate m7 (0 : Int))
theorem M_bound_bound_w (F : Nat) (s : Ship) (l : List bound_Count) (r : Int) (h : M_bound_bound F s l = some r) : Pure Try.prog 24 [.agg (Ship.cs s), LS 4 bound_Count.av l] (· = I64 r) := by
  unfold M_bound_bound at h
  refine Pure_ofG [.tmp 4] Try.func24 rfl rfl ?_
  refine JC_seq (fun K1 hK1 => ?_)
  refine JC_region ?_
  refine JL_go (u := .ptr 250000002 0) (A_box (u := .agg (Ship.cs s)) (cs := [LS 12 Column.av s.Columns, LS 2 Cover.av s.Covers, I64 s.Light.Kilos, I64 s.Light.X, I64 s.Light.Y, I64 s.Light.Z, LS 5 Row.av s.Rows, LS 5 Frame.av s.Frames, LS 6 Tank.av s.Tanks, I64 s.Limits.Tolerance, I64 s.Limits.Trim, I64 s.Limits.List_, I64 s.Limits.Stability]) 250000002 rfl rfl rfl rfl rfl) ?_ rfl rfl rfl
  refine JL_go (u := I64 0) (A_assign rfl rfl) ?_ rfl rfl rfl
  refine JL_nil ?_
  refine hK1 _ _ ?_
  refine JC_freeze [(1, LS 4 bound_Count.av l), (2, .dptr (Ship.cs s))] [] 250000002 rfl rfl rfl trivial rfl (by exact ⟨.conv (.same rfl), .ptr, trivial⟩) ?_
  refine JC_seq (fun K2 hK2 => ?_)
  obtain ⟨r3, hr3, h⟩ := bnd_out h
  obtain ⟨v4, hv4, h⟩ := chk_out h
  refine JC_draw2 [6, 7, 8, 9] [[[false, false, false, false], [true, false, false, false], [false, true, false, false], [true, true, false, false]], [[false, false, false, false], [true, false, false, false], [false, true, false, false], [true, true, false, false]], [[false, false, false, false], [true, false, false, false], [false, true, false, false], [true, true, false, false], [true, true, true, false]], [[false, false, false, false], [true, false, false, false], [false, true, false, false], [true, true, false, false], [true, true, true, false]], [[false, false, false, false], [true, false, false, false], [false, true, false, false], [true, true, false, false], [true, true, true, false]], [[false, false, false, false], [true, false, false, false], [false, true, false, false], [true, true, false, false], [true, true, true, false]], [[false, false, false, false], [false, true, false, false]], [[false, false, false, false], [true, false, false, false]], [[true, true, false, false]], [[true, true, true, false]]] [([false, false, false, false], []), ([true, false, false, false], [(250000005, .box 3 [.junk])]), ([false, true, false, false], [(250000006, .box 3 [.junk])]), ([true, true, false, false], [(250000005, .box 3 [.junk]), (250000006, .box 3 [.junk])]), ([true, true, true, false], [(250000005, .box 3 [I64 r3]), (250000006, .box 3 [.junk])]), ([true, true, true, true], [(250000005, .box 3 [I64 r3]), (250000006, .box 3 [I64 v4])])] tf_mixed (by kernel_rfl) rfl rfl ?_
  refine D2_go (u := .agg (Ship.cs s)) rfl ⟨.ro rfl rfl (O_go (A_loadAgg tf_agg_47 rfl rfl rfl) rfl), .ro rfl rfl (O_go (A_loadAgg tf_agg_47 rfl rfl rfl) rfl), .ro rfl rfl (O_go (A_loadAgg tf_agg_47 rfl rfl rfl) rfl), .ro rfl rfl (O_go (A_loadAgg tf_agg_47 rfl rfl rfl) rfl), trivial⟩ ?_ rfl
  refine D2_go (u := I64 r3) rfl ⟨.ro rfl rfl (O_go (A_call1 (args := [.agg (Ship.cs s)]) rfl (M_ship_Tallest_w s r3 hr3) tf_call_20 ⟨rfl, rfl, trivial⟩) rfl), .ro rfl rfl (O_go (A_call1 (args := [.agg (Ship.cs s)]) rfl (M_ship_Tallest_w s r3 hr3) tf_call_20 ⟨rfl, rfl, trivial⟩) rfl), .ro rfl rfl (O_go (A_call1 (args := [.agg (Ship.cs s)]) rfl (M_ship_Tallest_w s r3 hr3) tf_call_20 ⟨rfl, rfl, trivial⟩) rfl), .ro rfl rfl (O_go (A_call1 (args := [.agg (Ship.cs s)]) rfl (M_ship_Tallest_w s r3 hr3) tf_call_20 ⟨rfl, rfl, trivial⟩) rfl), trivial⟩ ?_ rfl
  refine D2_go (u := .dptr (Ship.cs s)) rfl ⟨.ro rfl rfl (O_go (A_fieldM tf_field_47_0 rfl rfl rfl) rfl), .ro rfl rfl (O_go (A_fieldM tf_field_47_0 rfl rfl rfl) rfl), .ro rfl rfl (O_go (A_fieldM tf_field_47_0 rfl rfl rfl) rfl), .ro rfl rfl (O_go (A_fieldM tf_field_47_0 rfl rfl rfl) rfl), .ro rfl rfl (O_go (A_fieldM tf_field_47_0 rfl rfl rfl) rfl), trivial⟩ ?_ rfl
  refine D2_go (u := LS 12 Column.av s.Columns) rfl ⟨.ro rfl rfl (O_go (A_load tf_scalar_37 rfl rfl rfl) rfl), .ro rfl rfl (O_go (A_load tf_scalar_37 rfl rfl rfl) rfl), .ro rfl rfl (O_go (A_load tf_scalar_37 rfl rfl rfl) rfl), .ro rfl rfl (O_go (A_load tf_scalar_37 rfl rfl rfl) rfl), .ro rfl rfl (O_go (A_load tf_scalar_37 rfl rfl rfl) rfl), trivial⟩ ?_ rfl
  refine D2_go (u := I64 (s.Columns.length : Int)) rfl ⟨.ro rfl rfl (O_go (A_lenM (f := Column.av) (xs := s.Columns) tf_slice_37 rfl rfl) rfl), .ro rfl rfl (O_go (A_lenM (f := Column.av) (xs := s.Columns) tf_slice_37 rfl rfl) rfl), .ro rfl rfl (O_go (A_lenM (f := Column.av) (xs := s.Columns) tf_slice_37 rfl rfl) rfl), .ro rfl rfl (O_go (A_lenM (f := Column.av) (xs := s.Columns) tf_slice_37 rfl rfl) rfl), .ro rfl rfl (O_go (A_lenM (f := Column.av) (xs := s.Columns) tf_slice_37 rfl rfl) rfl), trivial⟩ ?_ rfl
  refine D2_go (u := I64 v4) rfl ⟨.ro rfl rfl (O_go (A_mul hv4 rfl rfl rfl) rfl), .ro rfl rfl (O_go (A_mul hv4 rfl rfl rfl) rfl), .ro rfl rfl (O_go (A_mul hv4 rfl rfl rfl) rfl), .ro rfl rfl (O_go (A_mul hv4 rfl rfl rfl) rfl), .ro rfl rfl (O_go (A_mul hv4 rfl rfl rfl) rfl), trivial⟩ ?_ rfl
  refine D2_go (u := .ptr 250000005 0) rfl ⟨.w [250000005] rfl rfl (O_go (A_allocJ 250000005 1 tf_zsize_3 rfl rfl) rfl) rfl rfl ⟨rfl, trivial⟩, .w [250000006, 250000005] rfl rfl (O_go (A_allocJ 250000005 1 tf_zsize_3 rfl rfl) rfl) rfl rfl ⟨rfl, rfl, trivial⟩, trivial⟩ ?_ rfl
  refine D2_go (u := .ptr 250000006 0) rfl ⟨.w [250000006] rfl rfl (O_go (A_allocJ 250000006 1 tf_zsize_3 rfl rfl) rfl) rfl rfl ⟨rfl, trivial⟩, .w [250000005, 250000006] rfl rfl (O_go (A_allocJ 250000006 1 tf_zsize_3 rfl rfl) rfl) rfl rfl ⟨rfl, rfl, trivial⟩, trivial⟩ ?_ rfl
  refine D2_go0 (u := .junk) rfl ⟨.w [250000005, 250000006] rfl rfl (O_go (A_store (u := I64 r3) (ds := [I64 r3]) tf_size_3 rfl rfl rfl rfl rfl rfl rfl rfl) rfl) rfl rfl ⟨rfl, rfl, trivial⟩, trivial⟩ ?_
  refine D2_go0 (u := .junk) rfl ⟨.w [250000005, 250000006] rfl rfl (O_go (A_store (u := I64 v4) (ds := [I64 v4]) tf_size_3 rfl rfl rfl rfl rfl rfl rfl rfl) rfl) rfl rfl ⟨rfl, rfl, trivial⟩, trivial⟩ ?_
  refine D2_nil ?_
  refine hK2 _ _ ?_
  refine JC_freeze [(1, LS 4 bound_Count.av l), (5, .dptr [I64 r3]), (6, .ptr 250000006 0)] [(250000006, .box 3 [I64 v4])] 250000005 rfl rfl rfl ⟨⟨_, rfl, .boxEq rfl rfl⟩, trivial⟩ rfl (by exact ⟨.conv (.same rfl), .ptr, .conv (.same rfl), trivial⟩) ?_
  refine JC_freeze [(1, LS 4 bound_Count.av l), (5, .dptr [I64 r3]), (6, .dptr [I64 v4])] [] 250000006 rfl rfl rfl trivial rfl (by exact ⟨.conv (.same rfl), .conv (.same rfl), .ptr, trivial⟩) ?_
  refine JC_seq (fun K5 hK5 => ?_)
  refine JC_region ?_
  refine JL_go (u := I64 v4) (A_load tf_scalar_3 rfl rfl rfl) ?_ rfl rfl rfl
  obtain ⟨v6, hv6, h⟩ := chk_out h
  refine JL_go (u := I64 v6) (A_add hv6 rfl rfl rfl) ?_ rfl rfl rfl
  obtain ⟨m7, hm7, h⟩ := bnd_out h
  obtain ⟨ha8, h⟩ := need_out h
  refine JL_go (u := .vec 250000019 0 1 ((List.replicate m7 (0 : Int)).length)) (A_vmakeM 250000019 (f := I64) (n := m7) 0 [.int .i64 0] rfl rfl rfl rfl tf_slice_52 tf_elem_3 tf_zero_3 (natOf_out hm7) (natOf_out hm7) ha8 ⟨.inl rfl, trivial⟩ rfl) ?_ rfl rfl rfl
  refine JL_go (u := .ptr 250000007 0) (A_allocJ 250000007 1 tf_zsize_52 rfl rfl) ?_ rfl rfl rfl
  refine JL_vfreeze [(1, LS 4 bound_Count.av l), (5, .dptr [I64 r3]), (6, .dptr [I64 v4]), (7, .ptr 250000007 0), (17, I64 v4), (18, I64 v6), (19, LS 1 I64 (List.replicate m7 (0 : Int)))] [(250000007, .box 52 [.junk])] 250000019 rfl rfl ⟨⟨_, rfl, .boxEq rfl rfl⟩, trivial⟩ rfl (by exact ⟨.conv (.same rfl), .conv (.same rfl), .conv (.same rfl), .conv (.same rfl), .conv (.same rfl), .conv (.same rfl), .vec, trivial⟩) ?_
  refine JL_go0 (u := .junk) (A_store (u := LS 1 I64 (List.replicate m7 (0 : Int))) (ds := [LS 1 I64 (List.replicate m7 (0 : Int))]) tf_size_52 rfl rfl rfl rfl rfl rfl rfl rfl) ?_ rfl rfl
  refine JL_nil ?_
  refine hK5 _ _ ?_
  refine JC_seq (fun K9 hK9 => ?_)
  refine JC_region ?_
  refine JL_go (u := .fn 43 [.dptr [I64 v4], .dptr [I64 r3], .ptr 250000007 0]) (A_makeFunc (cs := [.dptr [I64 v4], .dptr [I64 r3], .ptr 250000007 0]) rfl rfl) ?_ rfl rfl rfl
  refine JL_go (u := .fn 43 [.dptr [I64 v4], .dptr [I64 r3], .ptr 250000007 0]) (A_assign rfl rfl) ?_ rfl rfl rfl
  refine JL_nil ?_
  refine hK9 _ _ ?_
  refine JC_seq (fun K10 hK10 => ?_)
  refine JC_seq (fun K11 hK11 => ?_)
  refine JC_region ?_
  refine JL_go (u := LS 4 bound_Count.av l) (A_move rfl rfl) ?_ rfl rfl rfl
  refine JL_lenM (f := bound_Count.av) (xs := l) tf_slice_26 rfl rfl (fun hm22 => ?_) rfl rfl rfl
  refine JL_go (u := I64 0) (A_move rfl rfl) ?_ rfl rfl rfl
  refine JL_nil ?_
  refine hK11 _ _ ?_
  refine JC_block ?_
  obtain ⟨b36, kx36, hb36, hkx36, h⟩ := each_in h
  refine JC_loop2 (fun i36 (s36 : (List Int)) => each b36 kx36 (List.drop i36 l) i36 s36 = some r) (fun i36 s36 => [(6, .dptr [I64 v4]), (7, .ptr 250000007 0), (8, .fn 43 [.dptr [I64 v4], .dptr [I64 r3], .ptr 250000007 0]), (21, LS 4 bound_Count.av l), (22, I64 (l.length : Int)), (23, I64 (i36 : Int))]) (fun i36 s36 => [(250000007, .box 52 [LS 1 I64 s36])]) (fun i36 => l.length - i36) 0 (List.replicate m7 (0 : Int)) h ⟨⟨.same rfl, .same rfl, .same rfl, .same rfl, .same rfl, .same rfl, trivial⟩, ⟨⟨_, rfl, .boxL rfl ⟨.same rfl, trivial⟩⟩, trivial⟩, rfl⟩ ?_
  clear h
  intro i36 s36 hi36 K36 e36
  refine JC_seq (fun K37 hK37 => ?_)
  refine JC_region ?_
  refine JL_go (u := BL (decide ((i36 : Int) < (l.length : Int)))) (A_lss rfl rfl rfl) ?_ rfl rfl rfl
  refine JL_nil ?_
  refine hK37 _ _ ?_
  refine JC_seq (fun K38 hK38 => ?_)
  refine JC_cond rfl (fun hb => ?_) (fun hb => ?_)
  ·
    have hk36 := lt_len hb
    obtain ⟨y36, nx36, hy36, hn36, h⟩ := each_out hi36 hk36
    replace h := app4 hb36 h
    refine JC_skip ?_
    refine hK38 _ _ ?_
    refine JC_seq (fun K39 hK39 => ?_)
    refine JC_block ?_
    refine JC_seq (fun K40 hK40 => ?_)
    refine JC_region ?_
    refine JL_go (u := .dptr (bound_Count.cs y36)) (A_indexM (f := bound_Count.av) (xs := l) (y := y36) rfl rfl rfl tf_slice_26 hy36 rfl) ?_ rfl rfl rfl
    refine JL_go (u := .agg (bound_Count.cs y36)) (A_loadAgg tf_agg_29 rfl rfl rfl) ?_ rfl rfl rfl
    refine JL_go (u := .ptr 250000010 0) (A_allocJ 250000010 4 tf_zsize_29 rfl rfl) ?_ rfl rfl rfl
    refine JL_go0 (u := .junk) (A_store (u := .agg (bound_Count.cs y36)) (ds := [I64 y36.Group.Load, I64 y36.Group.Discharge, I64 y36.Whole, I64 y36.Half]) tf_size_29 rfl rfl rfl rfl rfl rfl rfl rfl) ?_ rfl rfl
    refine JL_nil ?_
    refine hK40 _ _ ?_
    refine JC_freeze [(6, .dptr [I64 v4]), (7, .ptr 250000007 0), (8, .fn 43 [.dptr [I64 v4], .dptr [I64 r3], .ptr 250000007 0]), (10, .dptr (bound_Count.cs y36)), (21, LS 4 bound_Count.av l), (22, I64 (l.length : Int)), (23, I64 (i36 : Int))] [(250000007, .box 52 [LS 1 I64 s36])] 250000010 rfl rfl rfl ⟨⟨_, rfl, .boxEq rfl rfl⟩, trivial⟩ rfl (by exact ⟨.conv (.same rfl), .conv (.same rfl), .conv (.same rfl), .ptr, .conv (.same rfl), .conv (.same rfl), .conv (.same rfl), trivial⟩) ?_
    refine JC_region ?_
    refine JL_go (u := .fn 43 [.dptr [I64 v4], .dptr [I64 r3], .ptr 250000007 0]) (A_move rfl rfl) ?_ rfl rfl rfl
    refine JL_go (u := .agg (bound_Count.cs y36)) (A_loadAgg tf_agg_29 rfl rfl rfl) ?_ rfl rfl rfl
    obtain ⟨r41, hr41, h⟩ := bnd_out h
    refine JL_go (u := .tup []) (A_callVL (args := [.agg (bound_Count.cs y36)]) (caps := [.dptr [I64 v4], .dptr [I64 r3], .ptr 250000007 0]) (L0 := [(250000007, .box 52 [LS 1 I64 s36])]) (Lr := [(250000007, .box 52 [LS 1 I64 r41])]) rfl rfl (M_bound_bound_1_w F y36 v4 r3 s36 r41 hr41) tf_call_43 ⟨.inl rfl, rfl, trivial⟩ rfl ⟨rfl, trivial⟩ rfl rfl rfl) ?_ rfl rfl rfl
    refine JL_nil ?_
    refine hK39 _ _ ?_
    refine JC_region ?_
    refine JL_go (u := I64 ((i36 + 1 : Nat) : Int)) (A_add (idx_succ hk36 hm22) rfl rfl rfl) ?_ rfl rfl rfl
    refine JL_go (u := I64 ((i36 + 1 : Nat) : Int)) (A_move rfl rfl) ?_ rfl rfl rfl
    refine JL_nil ?_
    exact e36 _ _ (i36 + 1) r41 (app1 hn36 h) (by omega) ⟨⟨.same rfl, .same rfl, .same rfl, .same rfl, .same rfl, .same rfl, trivial⟩, ⟨⟨_, rfl, .boxL rfl ⟨.same rfl, trivial⟩⟩, trivial⟩, rfl⟩
  ·
    have h := app1 hkx36 (each_nil hi36 (not_lt_len hb))
    refine JC_exit ?_
    refine hK10 _ _ ?_
    refine JC_seq (fun K42 hK42 => ?_)
    refine JC_region ?_
    refine JL_go (u := LS 1 I64 s36) (A_loadL tf_scalar_52 rfl rfl rfl rfl) ?_ rfl rfl rfl
    refine JL_go (u := I64 v4) (A_load tf_scalar_3 rfl rfl rfl) ?_ rfl rfl rfl
    obtain ⟨m44, y43, hm44, hy43, h⟩ := gidx_out h
    refine JL_go (u := .dptr [I64 y43]) (A_indexM (f := I64) (xs := s36) (y := y43) rfl rfl rfl tf_slice_52 hy43 hm44) ?_ rfl rfl rfl
    refine JL_go (u := I64 y43) (A_load tf_scalar_3 rfl rfl rfl) ?_ rfl rfl rfl
    refine JL_go (u := I64 y43) (A_assign rfl rfl) ?_ rfl rfl rfl
    refine JL_nil ?_
    refine hK42 _ _ ?_
    refine JC_ret ?_
    exact ⟨[I64 y43], [], trivial, rfl, ⟨⟨_, rfl, .conv (.same rfl)⟩, trivial⟩, rfl, congrArg (fun r : Int => (I64 r : AV)) (Option.some.inj h)⟩

def M_bound_places (c : bound_Count) : Option Int :=
  chk (2 * c.Whole) fun v3 =>
  chk (v3 + c.Half) fun v4 =>
  some v4
theorem M_bound_places_w (c : bound_Count) (r : Int) (h : M_bound_places c = some r) : Pure Try.prog 46 [.agg (bound_Count.cs c)] (· = I64 r) := by
  unfold M_bound_places at h
  refine Pure_ofG [.tmp 2] Try.func46 rfl rfl ?_
  refine JC_seq (fun K1 hK1 => ?_)
  refine JC_region ?_
  refine JL_go (u := .ptr 470000001 0) (A_box (u := .agg (bound_Count.cs c)) (cs := [I64 c.Group.Load, I64 c.Group.Discharge, I64 c.Whole, I64 c.Half]) 470000001 rfl rfl rfl rfl rfl) ?_ rfl rfl rfl
  refine JL_go (u := I64 0) (A_assign rfl rfl) ?_ rfl rfl rfl
  refine JL_nil ?_
  refine hK1 _ _ ?_
  refine JC_freeze [(1, .dptr (bound_Count.cs c))] [] 470000001 rfl rfl rfl trivial rfl (by exact ⟨.ptr, trivial⟩) ?_
  refine JC_seq (fun K2 hK2 => ?_)
  refine JC_region ?_
  refine JL_go (u := .dptr [I64 c.Whole, I64 c.Half]) (A_fieldM tf_field_29_1 rfl rfl rfl) ?_ rfl rfl rfl
  refine JL_go (u := I64 c.Whole) (A_load tf_scalar_3 rfl rfl rfl) ?_ rfl rfl rfl
  obtain ⟨v3, hv3, h⟩ := chk_out h
  refine JL_go (u := I64 v3) (A_mul hv3 rfl rfl rfl) ?_ rfl rfl rfl
  refine JL_go (u := .dptr [I64 c.Half]) (A_fieldM tf_field_29_2 rfl rfl rfl) ?_ rfl rfl rfl
  refine JL_go (u := I64 c.Half) (A_load tf_scalar_3 rfl rfl rfl) ?_ rfl rfl rfl
  obtain ⟨v4, hv4, h⟩ := chk_out h
  refine JL_go (u := I64 v4) (A_add hv4 rfl rfl rfl) ?_ rfl rfl rfl
  refine JL_go (u := I64 v4) (A_assign rfl rfl) ?_ rfl rfl rfl
  refine JL_nil ?_
  refine hK2 _ _ ?_
  refine JC_ret ?_
  exact ⟨[I64 v4], [], trivial, rfl, ⟨⟨_, rfl, .conv (.same rfl)⟩, trivial⟩, rfl, congrArg (fun r : Int => (I64 r : AV)) (Option.some.inj h)⟩

def M_bound_chain (F : Nat) (counts : List bound_Count) (call : Int) : Option (List bound_Count) :=
  each (fun y19 i19 (s19 : (List bound_Count)) nx19 =>
    jp (fun kj22 =>
      bif ((decide (y19.Group.Load ≤ call)) && (decide (call < y19.Group.Discharge))) then
      (need (decide ((s19.length + [y19].length) * 32 ≤ 140737488355328 ∧ s19.length + [y19].length ≤ maxLen)) <|
        kj22 (s19 ++ [y19]))
      else
      (kj22 s19)) fun (j22 : (List bound_Count)) =>
    nx19 j22)
  (fun (s19 : (List bound_Count)) =>
    bnd (natOf (s19.length : Int)) fun m27 =>
    need (decide (8 * m27 ≤ 281474976710656 ∧ m27 ≤ maxLen ∧ m27 * 1 ≤ 16777216)) <|
    bnd (natOf (s19.length : Int)) fun m29 =>
    need (decide (8 * m29 ≤ 281474976710656 ∧ m29 ≤ maxLen ∧ m29 * 1 ≤ 16777216)) <|
    chk ((s19.length : Int) - 1) fun v34 =>
    loop (fun nx35 (s35 : Int × Int × (List Int) × (List Int)) =>
      bif decide (0 ≤ s35.2.1) then
      (jp (fun kj38 =>
          gidx s35.2.2.2 s35.2.1 fun y40 =>
          chk ((s19.length : Int) - 1) fun v43 =>
          loop (fun nx102 (s102 : Int × (List Int) × (List Int)) =>
            bif decide (s35.2.1 < s102.1) then
            (jp (fun kj105 =>
                gidx s19 s102.1 fun y107 =>
                gidx s19 s35.2.1 fun y109 =>
                bnd (bif decide (y109.Group.Load < y107.Group.Load) then gidx s19 s102.1 some else some default) fun y111 =>
                bnd (bif decide (y109.Group.Load < y107.Group.Load) then gidx s19 s35.2.1 some else some default) fun y112 =>
                bnd (bif ((decide (y109.Group.Load < y107.Group.Load)) && (decide (y112.Group.Discharge < y111.Group.Discharge))) then gidx s102.2.1 s102.1 some else some default) fun y113 =>
                bnd (bif ((decide (y109.Group.Load < y107.Group.Load)) && (decide (y112.Group.Discharge < y111.Group.Discharge))) then gidx s102.2.1 s35.2.1 some else some default) fun y114 =>
                bif (((decide (y109.Group.Load < y107.Group.Load)) && (decide (y112.Group.Discharge < y111.Group.Discharge))) && (decide (y114 ≤ y113))) then
                (gidx s102.2.1 s102.1 fun y115 =>
                  gidx s102.2.1 s35.2.1 fun y116 =>
                  gidx s102.2.2 s35.2.1 fun y117 =>
                  kj105 ((s102.2.1.set s35.2.1.toNat y115), (s102.2.2.set s35.2.1.toNat s102.1)))
                else
                (kj105 (s102.2.1, s102.2.2))) fun (j105 : (List Int) × (List Int)) =>
              chk (s102.1 - 1) fun v118 =>
              nx102 (v118, j105.1, j105.2))
            else
            (gidx s102.2.1 s35.2.1 fun y120 =>
              gidx s19 s35.2.1 fun y121 =>
              bnd (M_bound_places y121) fun r123 =>
              chk (y120 + r123) fun v124 =>
              gidx s102.2.1 s35.2.1 fun y125 =>
              bnd (bif (!(decide (s35.1 < 0))) then gidx (s102.2.1.set s35.2.1.toNat v124) s35.2.1 some else some default) fun y127 =>
              bnd (bif (!(decide (s35.1 < 0))) then gidx (s102.2.1.set s35.2.1.toNat v124) s35.1 some else some default) fun y128 =>
              bif ((decide (s35.1 < 0)) || (decide (y128 ≤ y127))) then
              (kj38 (s35.2.1, (s102.2.1.set s35.2.1.toNat v124), s102.2.2))
              else
              (kj38 (s35.1, (s102.2.1.set s35.2.1.toNat v124), s102.2.2)))) F (v43, s35.2.2.1, (s35.2.2.2.set s35.2.1.toNat (-1)))) fun (j38 : Int × (List Int) × (List Int)) =>
        chk (s35.2.1 - 1) fun v129 =>
        nx35 (j38.1, v129, j38.2.1, j38.2.2))
      else
      (loop (fun nx144 (s144 : (List bound_Count) × Int) =>
          bif decide (0 ≤ s144.2) then
          (gidx s19 s144.2 fun y148 =>
            need (decide ((s144.1.length + [y148].length) * 32 ≤ 140737488355328 ∧ s144.1.length + [y148].length ≤ maxLen)) <|
            gidx s35.2.2.2 s144.2 fun y151 =>
            nx144 ((s144.1 ++ [y148]), y151))
          else
          (some s144.1)) F ([], s35.1))) F ((-1), v34, (List.replicate m27 (0 : Int)), (List.replicate m29 (0 : Int)))) counts 0 []
theorem M_bound_chain_w (F : Nat) (counts : List bound_Count) (call : Int) (r : (List bound_Count)) (h : M_bound_chain F counts call = some r) : Pure Try.prog 25 [LS 4 bound_Count.av counts, I64 call] (· = LS 4 bound_Count.av r) := by
  unfold M_bound_chain at h
  refine Pure_ofG [.tmp 4] Try.func25 rfl rfl ?_
  refine JC_seq (fun K1 hK1 => ?_)
  refine JC_region ?_
  refine JL_go (u := LS 4 bound_Count.av ([] : List bound_Count)) (A_nilList 4 rfl rfl) ?_ rfl rfl rfl
  refine JL_nil ?_
  refine hK1 _ _ ?_
  refine JC_seq (fun K2 hK2 => ?_)
  refine JC_region ?_
  refine JL_go (u := OW 260000005 4 bound_Count.av ([] : List bound_Count)) (A_nilOwn 260000005 29 4 rfl rfl rfl) ?_ rfl rfl rfl
  refine JL_nil ?_
  refine hK2 _ _ ?_
  refine JC_seq (fun K3 hK3 => ?_)
  refine JC_seq (fun K4 hK4 => ?_)
  refine JC_region ?_
  refine JL_go (u := LS 4 bound_Count.av counts) (A_move rfl rfl) ?_ rfl rfl rfl
  refine JL_lenM (f := bound_Count.av) (xs := counts) tf_slice_26 rfl rfl (fun hm16 => ?_) rfl rfl rfl
  refine JL_go (u := I64 0) (A_move rfl rfl) ?_ rfl rfl rfl
  refine JL_nil ?_
  refine hK4 _ _ ?_
  refine JC_block ?_
  obtain ⟨b19, kx19, hb19, hkx19, h⟩ := each_in h
  refine JC_loop2 (fun i19 (s19 : (List bound_Count)) => each b19 kx19 (List.drop i19 counts) i19 s19 = some r) (fun i19 s19 => [(1, I64 call), (5, OW 260000005 4 bound_Count.av s19), (15, LS 4 bound_Count.av counts), (16, I64 (counts.length : Int)), (17, I64 (i19 : Int))]) (fun i19 s19 => [(260000005, .spare 29 4 s19.length s19.length)]) (fun i19 => counts.length - i19) 0 [] h ⟨⟨.same rfl, .same rfl, .same rfl, .same rfl, .same rfl, trivial⟩, ⟨⟨_, rfl, .same⟩, trivial⟩, rfl⟩ ?_
  clear h
  intro i19 s19 hi19 K19 e19
  refine JC_seq (fun K20 hK20 => ?_)
  refine JC_region ?_
  refine JL_go (u := BL (decide ((i19 : Int) < (counts.length : Int)))) (A_lss rfl rfl rfl) ?_ rfl rfl rfl
  refine JL_nil ?_
  refine hK20 _ _ ?_
  refine JC_seq (fun K21 hK21 => ?_)
  refine JC_cond rfl (fun hb => ?_) (fun hb => ?_)
  ·
    have hk19 := lt_len hb
    obtain ⟨y19, nx19, hy19, hn19, h⟩ := each_out hi19 hk19
    replace h := app4 hb19 h
    refine JC_skip ?_
    refine hK21 _ _ ?_
    obtain ⟨kj22, hkj22, h⟩ := jp_out h
    refine JC_seqJ (fun j22 : (List bound_Count) => kj22 j22 = some r) (fun j22 => [(1, I64 call), (5, OW 260000005 4 bound_Count.av j22), (15, LS 4 bound_Count.av counts), (16, I64 (counts.length : Int)), (17, I64 (i19 : Int))]) (fun j22 => [(260000005, .spare 29 4 j22.length j22.length)]) (fun Kj22 ej22 => ?_) ?_
    ·
      refine JC_block ?_
      refine JC_seq (fun K23 hK23 => ?_)
      refine JC_region ?_
      refine JL_go (u := .dptr (bound_Count.cs y19)) (A_indexM (f := bound_Count.av) (xs := counts) (y := y19) rfl rfl rfl tf_slice_26 hy19 rfl) ?_ rfl rfl rfl
      refine JL_go (u := .agg (bound_Count.cs y19)) (A_loadAgg tf_agg_29 rfl rfl rfl) ?_ rfl rfl rfl
      refine JL_go (u := .ptr 260000007 0) (A_allocJ 260000007 4 tf_zsize_29 rfl rfl) ?_ rfl rfl rfl
      refine JL_go0 (u := .junk) (A_store (u := .agg (bound_Count.cs y19)) (ds := [I64 y19.Group.Load, I64 y19.Group.Discharge, I64 y19.Whole, I64 y19.Half]) tf_size_29 rfl rfl rfl rfl rfl rfl rfl rfl) ?_ rfl rfl
      refine JL_nil ?_
      refine hK23 _ _ ?_
      refine JC_freeze [(1, I64 call), (5, OW 260000005 4 bound_Count.av s19), (7, .dptr (bound_Count.cs y19)), (15, LS 4 bound_Count.av counts), (16, I64 (counts.length : Int)), (17, I64 (i19 : Int))] [(260000005, .spare 29 4 s19.length s19.length)] 260000007 rfl rfl rfl ⟨⟨_, rfl, .same⟩, trivial⟩ rfl (by exact ⟨.conv (.same rfl), .conv (.same rfl), .ptr, .conv (.same rfl), .conv (.same rfl), .conv (.same rfl), trivial⟩) ?_
      refine JC_seq (fun K24 hK24 => ?_)
      refine JC_region ?_
      refine JL_go (u := .dptr (bound_Count.cs y19)) (A_fieldM tf_field_29_0 rfl rfl rfl) ?_ rfl rfl rfl
      refine JL_go (u := .dptr (bound_Count.cs y19)) (A_fieldM tf_field_24_0 rfl rfl rfl) ?_ rfl rfl rfl
      refine JL_go (u := I64 y19.Group.Load) (A_load tf_scalar_3 rfl rfl rfl) ?_ rfl rfl rfl
      refine JL_go (u := I64 call) (A_move rfl rfl) ?_ rfl rfl rfl
      refine JL_go (u := BL (decide (y19.Group.Load ≤ call))) (A_leq rfl rfl rfl) ?_ rfl rfl rfl
      refine JL_go (u := BL (decide (y19.Group.Load ≤ call))) (A_move rfl rfl) ?_ rfl rfl rfl
      refine JL_opt (u := I64 call) [] rfl rfl rfl .sct trivial (fun hc => A_move rfl rfl) ?_ rfl rfl rfl
      refine JL_opt (u := .dptr (bound_Count.cs y19)) [] rfl rfl rfl .sct trivial (fun hc => A_fieldM tf_field_29_0 rfl rfl rfl) ?_ rfl rfl rfl
      refine JL_opt (u := .dptr ((bound_Count.cs y19).drop 1)) [(28, .dptr (bound_Count.cs y19))] rfl rfl rfl .sct ⟨.all id, trivial⟩ (fun hc => A_fieldM tf_field_24_1 rfl rfl rfl) ?_ rfl rfl rfl
      refine JL_opt (u := I64 y19.Group.Discharge) [(29, .dptr ((bound_Count.cs y19).drop 1))] rfl rfl rfl .sct ⟨.all id, trivial⟩ (fun hc => A_load tf_scalar_3 rfl rfl rfl) ?_ rfl rfl rfl
      refine JL_opt (u := BL (decide (call < y19.Group.Discharge))) [(27, I64 call), (30, I64 y19.Group.Discharge)] rfl rfl rfl .sct ⟨.all id, .all id, trivial⟩ (fun hc => A_lss rfl rfl rfl) ?_ rfl rfl rfl
      refine JL_go (u := BL ((decide (y19.Group.Load ≤ call)) && (decide (call < y19.Group.Discharge)))) (A_and rfl rfl rfl rfl) ?_ rfl rfl rfl
      refine JL_nil ?_
      refine hK24 _ _ ?_
      refine JC_cond rfl (fun hb => ?_) (fun hb => ?_)
      ·
        replace h := bif_t hb h
        refine JC_region ?_
        refine JL_go (u := OW 260000005 4 bound_Count.av s19) (A_move rfl rfl) ?_ rfl rfl rfl
        refine JL_go (u := .agg (bound_Count.cs y19)) (A_loadAgg tf_agg_29 rfl rfl rfl) ?_ rfl rfl rfl
        refine JL_go (u := LS 4 bound_Count.av [y19]) (A_buildSlice (xs := [.agg (bound_Count.cs y19)]) rfl ⟨rfl, rfl, trivial⟩ tf_slice_26 tf_zsize_29 rfl rfl rfl rfl) ?_ rfl rfl rfl
        obtain ⟨ha25, h⟩ := need_out h
        refine JL_go (u := OW 260000005 4 bound_Count.av (s19 ++ [y19])) (A_appendM (f := bound_Count.av) (xs := s19) (ys := [y19]) rfl rfl rfl rfl tf_slice_26 tf_elem_29 ha25 (fun _ => rfl) (.inl rfl) rfl) ?_ rfl rfl rfl
        refine JL_go (u := OW 260000005 4 bound_Count.av (s19 ++ [y19])) (A_assign rfl rfl) ?_ rfl rfl rfl
        refine JL_nil ?_
        exact ej22 _ _ (s19 ++ [y19]) h ⟨⟨.same rfl, .same rfl, .same rfl, .same rfl, .same rfl, trivial⟩, ⟨⟨_, rfl, .same⟩, trivial⟩, rfl⟩
      ·
        replace h := bif_f hb h
        refine JC_skip ?_
        exact ej22 _ _ s19 h ⟨⟨.same rfl, .same rfl, .same rfl, .same rfl, .same rfl, trivial⟩, ⟨⟨_, rfl, .same⟩, trivial⟩, rfl⟩
    · intro j22 h
      replace h := app1 hkj22 h
      refine JC_region ?_
      refine JL_go (u := I64 ((i19 + 1 : Nat) : Int)) (A_add (idx_succ hk19 hm16) rfl rfl rfl) ?_ rfl rfl rfl
      refine JL_go (u := I64 ((i19 + 1 : Nat) : Int)) (A_move rfl rfl) ?_ rfl rfl rfl
      refine JL_nil ?_
      exact e19 _ _ (i19 + 1) j22 (app1 hn19 h) (by omega) ⟨⟨.same rfl, .same rfl, .same rfl, .same rfl, .same rfl, trivial⟩, ⟨⟨_, rfl, .same⟩, trivial⟩, rfl⟩
  ·
    have h := app1 hkx19 (each_nil hi19 (not_lt_len hb))
    refine JC_exit ?_
    refine hK3 _ _ ?_
    refine JC_seq (fun K26 hK26 => ?_)
    refine JC_fits (l' := [(5, OW 260000005 4 bound_Count.av s19)]) (L' := [(260000005, .spare 29 4 s19.length s19.length)]) ⟨⟨.same rfl, trivial⟩, ⟨⟨_, rfl, .same⟩, trivial⟩, rfl⟩ ?_
    obtain ⟨m27, hm27, h⟩ := bnd_out h
    obtain ⟨ha28, h⟩ := need_out h
    obtain ⟨m29, hm29, h⟩ := bnd_out h
    obtain ⟨ha30, h⟩ := need_out h
    refine JC_draw2 [2, 5] [[[false, false], [false, true]], [[false, false], [false, true]], [[false, false], [false, true]], [[false, false], [true, false]], [[false, false], [true, false]], [[false, false], [true, false]], [[true, false], [true, true]], [[true, true]]] [([false, false], [(260000005, .spare 29 4 s19.length s19.length)]), ([false, true], [(260000005, .spare 29 4 s19.length s19.length), (260000043, .vec 3 1 0 ((List.replicate m29 (0 : Int)).map I64))]), ([true, false], [(260000005, .spare 29 4 s19.length s19.length), (260000040, .vec 3 1 0 ((List.replicate m27 (0 : Int)).map I64))]), ([true, true], [(260000005, .spare 29 4 s19.length s19.length), (260000040, .vec 3 1 0 ((List.replicate m27 (0 : Int)).map I64)), (260000043, .vec 3 1 0 ((List.replicate m29 (0 : Int)).map I64))])] tf_mixed (by kernel_rfl) rfl rfl ?_
    refine D2_go (u := OW 260000005 4 bound_Count.av s19) rfl ⟨.ro rfl rfl (O_go (A_move rfl rfl) rfl), .ro rfl rfl (O_go (A_move rfl rfl) rfl), trivial⟩ ?_ rfl
    refine D2_go (u := I64 (s19.length : Int)) rfl ⟨.ro rfl rfl (O_go (A_lenM (f := bound_Count.av) (xs := s19) tf_slice_26 rfl rfl) rfl), .ro rfl rfl (O_go (A_lenM (f := bound_Count.av) (xs := s19) tf_slice_26 rfl rfl) rfl), trivial⟩ ?_ rfl
    refine D2_go (u := .vec 260000040 0 1 ((List.replicate m27 (0 : Int)).length)) rfl ⟨.w [260000005, 260000040] rfl rfl (O_go (A_vmakeM 260000040 (f := I64) (n := m27) 0 [.int .i64 0] rfl rfl rfl rfl tf_slice_52 tf_elem_3 tf_zero_3 (natOf_out hm27) (natOf_out hm27) ha28 ⟨.inl rfl, trivial⟩ rfl) rfl) rfl rfl ⟨rfl, rfl, trivial⟩, .w [260000005, 260000043, 260000040] rfl rfl (O_go (A_vmakeM 260000040 (f := I64) (n := m27) 0 [.int .i64 0] rfl rfl rfl rfl tf_slice_52 tf_elem_3 tf_zero_3 (natOf_out hm27) (natOf_out hm27) ha28 ⟨.inl rfl, trivial⟩ rfl) rfl) rfl rfl ⟨rfl, rfl, rfl, trivial⟩, trivial⟩ ?_ rfl
    refine D2_go (u := OW 260000005 4 bound_Count.av s19) rfl ⟨.ro rfl rfl (O_go (A_move rfl rfl) rfl), .ro rfl rfl (O_go (A_move rfl rfl) rfl), trivial⟩ ?_ rfl
    refine D2_go (u := I64 (s19.length : Int)) rfl ⟨.ro rfl rfl (O_go (A_lenM (f := bound_Count.av) (xs := s19) tf_slice_26 rfl rfl) rfl), .ro rfl rfl (O_go (A_lenM (f := bound_Count.av) (xs := s19) tf_slice_26 rfl rfl) rfl), trivial⟩ ?_ rfl
    refine D2_go (u := .vec 260000043 0 1 ((List.replicate m29 (0 : Int)).length)) rfl ⟨.w [260000005, 260000043] rfl rfl (O_go (A_vmakeM 260000043 (f := I64) (n := m29) 0 [.int .i64 0] rfl rfl rfl rfl tf_slice_52 tf_elem_3 tf_zero_3 (natOf_out hm29) (natOf_out hm29) ha30 ⟨.inl rfl, trivial⟩ rfl) rfl) rfl rfl ⟨rfl, rfl, trivial⟩, .w [260000005, 260000040, 260000043] rfl rfl (O_go (A_vmakeM 260000043 (f := I64) (n := m29) 0 [.int .i64 0] rfl rfl rfl rfl tf_slice_52 tf_elem_3 tf_zero_3 (natOf_out hm29) (natOf_out hm29) ha30 ⟨.inl rfl, trivial⟩ rfl) rfl) rfl rfl ⟨rfl, rfl, rfl, trivial⟩, trivial⟩ ?_ rfl
    refine D2_go (u := .vec 260000040 0 1 ((List.replicate m27 (0 : Int)).length)) rfl ⟨.ro rfl rfl (O_go (A_assign rfl rfl) rfl), .ro rfl rfl (O_go (A_assign rfl rfl) rfl), trivial⟩ ?_ rfl
    refine D2_go (u := .vec 260000043 0 1 ((List.replicate m29 (0 : Int)).length)) rfl ⟨.ro rfl rfl (O_go (A_assign rfl rfl) rfl), trivial⟩ ?_ rfl
    refine D2_nil ?_
    refine hK26 _ _ ?_
    refine JC_seq (fun K31 hK31 => ?_)
    refine JC_region ?_
    refine JL_go (u := I64 (-1)) (A_assign rfl rfl) ?_ rfl rfl rfl
    refine JL_nil ?_
    refine hK31 _ _ ?_
    refine JC_seq (fun K32 hK32 => ?_)
    refine JC_seq (fun K33 hK33 => ?_)
    refine JC_region ?_
    refine JL_go (u := OW 260000005 4 bound_Count.av s19) (A_move rfl rfl) ?_ rfl rfl rfl
    refine JL_lenM (f := bound_Count.av) (xs := s19) tf_slice_26 rfl rfl (fun hm45 => ?_) rfl rfl rfl
    obtain ⟨v34, hv34, h⟩ := chk_out h
    refine JL_go (u := I64 v34) (A_sub hv34 rfl rfl rfl) ?_ rfl rfl rfl
    refine JL_go (u := I64 v34) (A_assign rfl rfl) ?_ rfl rfl rfl
    refine JL_nil ?_
    refine hK33 _ _ ?_
    refine JC_block ?_
    obtain ⟨b35, hb35, h⟩ := loop_in h
    refine JC_loop2 (fun i35 (s35 : Int × Int × (List Int) × (List Int)) => loop b35 i35 s35 = some r) (fun i35 s35 => [(5, OW 260000005 4 bound_Count.av s19), (8, .vec 260000040 0 1 ((List.replicate m27 (0 : Int)).length)), (9, .vec 260000043 0 1 ((List.replicate m29 (0 : Int)).length)), (10, I64 s35.1), (11, I64 s35.2.1)]) (fun i35 s35 => [(260000005, .spare 29 4 s19.length s19.length), (260000040, .vec 3 1 0 (s35.2.2.1.map I64)), (260000043, .vec 3 1 0 (s35.2.2.2.map I64))]) (fun i35 => i35) F ((-1), v34, (List.replicate m27 (0 : Int)), (List.replicate m29 (0 : Int))) h ⟨⟨.same rfl, .same rfl, .same rfl, .same rfl, .same rfl, trivial⟩, ⟨⟨_, rfl, .same⟩, ⟨_, rfl, .vec⟩, ⟨_, rfl, .vec⟩, trivial⟩, rfl⟩ ?_
    clear h
    intro i35 s35 hi35 K35 e35
    obtain ⟨m35, nx35, hm_35, hn35, h⟩ := loop_out hi35
    replace h := app2 hb35 h
    refine JC_seq (fun K36 hK36 => ?_)
    refine JC_seq (fun K37 hK37 => ?_)
    refine JC_region ?_
    refine JL_go (u := I64 s35.2.1) (A_move rfl rfl) ?_ rfl rfl rfl
    refine JL_go (u := BL (decide (0 ≤ s35.2.1))) (A_geq rfl rfl rfl) ?_ rfl rfl rfl
    refine JL_nil ?_
    refine hK37 _ _ ?_
    refine JC_cond rfl (fun hb => ?_) (fun hb => ?_)
    ·
      replace h := bif_t hb h
      refine JC_skip ?_
      refine hK36 _ _ ?_
      obtain ⟨kj38, hkj38, h⟩ := jp_out h
      refine JC_seqJ (fun j38 : Int × (List Int) × (List Int) => kj38 j38 = some r) (fun j38 => [(5, OW 260000005 4 bound_Count.av s19), (8, .vec 260000040 0 1 ((List.replicate m27 (0 : Int)).length)), (9, .vec 260000043 0 1 ((List.replicate m29 (0 : Int)).length)), (10, I64 j38.1), (11, I64 s35.2.1)]) (fun j38 => [(260000005, .spare 29 4 s19.length s19.length), (260000040, .vec 3 1 0 (j38.2.1.map I64)), (260000043, .vec 3 1 0 (j38.2.2.map I64))]) (fun Kj38 ej38 => ?_) ?_
      ·
        refine JC_block ?_
        refine JC_seq (fun K39 hK39 => ?_)
        refine JC_region ?_
        refine JL_go (u := .vec 260000043 0 1 ((List.replicate m29 (0 : Int)).length)) (A_move rfl rfl) ?_ rfl rfl rfl
        refine JL_go (u := I64 s35.2.1) (A_move rfl rfl) ?_ rfl rfl rfl
        obtain ⟨y40, hmy40, hy40, h⟩ := gidx_outT h
        refine JL_go (u := .vptr 260000043 0 s35.2.1.toNat 0) (A_vidxM (f := I64) (xs := s35.2.2.2) (y := y40) rfl rfl rfl rfl tf_slice_52 hy40 hmy40) ?_ rfl rfl rfl
        refine JL_go0 (u := .junk) (A_vstoreM (f := I64) (xs := s35.2.2.2) (z := (-1)) tf_size_3 rfl rfl rfl rfl (List.getElem?_eq_some_iff.1 hy40).1 rfl rfl rfl rfl) ?_ rfl rfl
        refine JL_nil ?_
        refine hK39 _ _ ?_
        refine JC_seq (fun K41 hK41 => ?_)
        refine JC_seq (fun K42 hK42 => ?_)
        refine JC_region ?_
        refine JL_go (u := OW 260000005 4 bound_Count.av s19) (A_move rfl rfl) ?_ rfl rfl rfl
        refine JL_lenM (f := bound_Count.av) (xs := s19) tf_slice_26 rfl rfl (fun hm55 => ?_) rfl rfl rfl
        obtain ⟨v43, hv43, h⟩ := chk_out h
        refine JL_go (u := I64 v43) (A_sub hv43 rfl rfl rfl) ?_ rfl rfl rfl
        refine JL_go (u := I64 v43) (A_assign rfl rfl) ?_ rfl rfl rfl
        refine JL_nil ?_
        refine hK42 _ _ ?_
        refine JC_block ?_
        obtain ⟨b102, hb102, h⟩ := loop_in h
        refine JC_loop2 (fun i102 (s102 : Int × (List Int) × (List Int)) => loop b102 i102 s102 = some r) (fun i102 s102 => [(5, OW 260000005 4 bound_Count.av s19), (8, .vec 260000040 0 1 ((List.replicate m27 (0 : Int)).length)), (9, .vec 260000043 0 1 ((List.replicate m29 (0 : Int)).length)), (10, I64 s35.1), (11, I64 s35.2.1), (12, I64 s102.1)]) (fun i102 s102 => [(260000005, .spare 29 4 s19.length s19.length), (260000040, .vec 3 1 0 (s102.2.1.map I64)), (260000043, .vec 3 1 0 (s102.2.2.map I64))]) (fun i102 => i102) F (v43, s35.2.2.1, (s35.2.2.2.set s35.2.1.toNat (-1))) h ⟨⟨.same rfl, .same rfl, .same rfl, .same rfl, .same rfl, .same rfl, trivial⟩, ⟨⟨_, rfl, .same⟩, ⟨_, rfl, .vec⟩, ⟨_, rfl, .vec⟩, trivial⟩, rfl⟩ ?_
        clear h
        intro i102 s102 hi102 K102 e102
        obtain ⟨m102, nx102, hm_102, hn102, h⟩ := loop_out hi102
        replace h := app2 hb102 h
        refine JC_seq (fun K103 hK103 => ?_)
        refine JC_seq (fun K104 hK104 => ?_)
        refine JC_region ?_
        refine JL_go (u := I64 s102.1) (A_move rfl rfl) ?_ rfl rfl rfl
        refine JL_go (u := I64 s35.2.1) (A_move rfl rfl) ?_ rfl rfl rfl
        refine JL_go (u := BL (decide (s35.2.1 < s102.1))) (A_gtr rfl rfl rfl) ?_ rfl rfl rfl
        refine JL_nil ?_
        refine hK104 _ _ ?_
        refine JC_cond rfl (fun hb => ?_) (fun hb => ?_)
        ·
          replace h := bif_t hb h
          refine JC_skip ?_
          refine hK103 _ _ ?_
          obtain ⟨kj105, hkj105, h⟩ := jp_out h
          refine JC_seqJ (fun j105 : (List Int) × (List Int) => kj105 j105 = some r) (fun j105 => [(5, OW 260000005 4 bound_Count.av s19), (8, .vec 260000040 0 1 ((List.replicate m27 (0 : Int)).length)), (9, .vec 260000043 0 1 ((List.replicate m29 (0 : Int)).length)), (10, I64 s35.1), (11, I64 s35.2.1), (12, I64 s102.1)]) (fun j105 => [(260000005, .spare 29 4 s19.length s19.length), (260000040, .vec 3 1 0 (j105.1.map I64)), (260000043, .vec 3 1 0 (j105.2.map I64))]) (fun Kj105 ej105 => ?_) ?_
          ·
            refine JC_block ?_
            refine JC_seq (fun K106 hK106 => ?_)
            refine JC_fits (l' := [(5, OW 260000005 4 bound_Count.av s19), (8, .vec 260000040 0 1 ((List.replicate m27 (0 : Int)).length)), (9, .vec 260000043 0 1 ((List.replicate m29 (0 : Int)).length)), (10, I64 s35.1), (11, I64 s35.2.1), (12, I64 s102.1)]) (L' := [(260000005, .spare 29 4 s19.length s19.length), (260000040, .vec 3 1 0 (s102.2.1.map I64)), (260000043, .vec 3 1 0 (s102.2.2.map I64))]) ⟨⟨.same rfl, .same rfl, .same rfl, .same rfl, .same rfl, .same rfl, trivial⟩, ⟨⟨_, rfl, .same⟩, ⟨_, rfl, .vec⟩, ⟨_, rfl, .vec⟩, trivial⟩, rfl⟩ ?_
            obtain ⟨m108, y107, hm108, hy107, h⟩ := gidx_out h
            obtain ⟨m110, y109, hm110, hy109, h⟩ := gidx_out h
            obtain ⟨y111, hy111, h⟩ := bnd_out h
            obtain ⟨y112, hy112, h⟩ := bnd_out h
            obtain ⟨y113, hy113, h⟩ := bnd_out h
            obtain ⟨y114, hy114, h⟩ := bnd_out h
            refine JC_draw [] [0, 0, 0, 0, 0, 0, 0, 0, 0, 0, 0, 0, 0, 0, 0, 0, 0, 0, 0, 0, 0, 0, 0, 0, 0, 0, 0, 0, 0, 0, 0, 0, 0, 0, 0, 0, 0, 0, 0] [0, 0, 0, 0, 0, 0, 0, 0, 0, 0, 0, 0, 0, 0, 0, 0, 0, 0, 0, 0, 0, 0, 0, 0, 0, 0, 0, 0, 0, 0, 0, 0, 0, 0, 0, 0, 0, 0, 0] [[(260000005, .spare 29 4 s19.length s19.length), (260000040, .vec 3 1 0 (s102.2.1.map I64)), (260000043, .vec 3 1 0 (s102.2.2.map I64))]] tf_mixed (by kernel_rfl) rfl rfl ?_
            refine D_ro (u := OW 260000005 4 bound_Count.av s19) rfl rfl ⟨O_go (A_move rfl rfl) rfl, trivial⟩ ?_ rfl
            refine D_ro (u := I64 s102.1) rfl rfl ⟨O_go (A_move rfl rfl) rfl, trivial⟩ ?_ rfl
            refine D_ro (u := .dptr (bound_Count.cs y107)) rfl rfl ⟨O_go (A_indexM (f := bound_Count.av) (xs := s19) (y := y107) rfl rfl rfl tf_slice_26 hy107 hm108) rfl, trivial⟩ ?_ rfl
            refine D_ro (u := .dptr (bound_Count.cs y107)) rfl rfl ⟨O_go (A_fieldM tf_field_29_0 rfl rfl rfl) rfl, trivial⟩ ?_ rfl
            refine D_ro (u := .dptr (bound_Count.cs y107)) rfl rfl ⟨O_go (A_fieldM tf_field_24_0 rfl rfl rfl) rfl, trivial⟩ ?_ rfl
            refine D_ro (u := I64 y107.Group.Load) rfl rfl ⟨O_go (A_load tf_scalar_3 rfl rfl rfl) rfl, trivial⟩ ?_ rfl
            refine D_ro (u := OW 260000005 4 bound_Count.av s19) rfl rfl ⟨O_go (A_move rfl rfl) rfl, trivial⟩ ?_ rfl
            refine D_ro (u := I64 s35.2.1) rfl rfl ⟨O_go (A_move rfl rfl) rfl, trivial⟩ ?_ rfl
            refine D_ro (u := .dptr (bound_Count.cs y109)) rfl rfl ⟨O_go (A_indexM (f := bound_Count.av) (xs := s19) (y := y109) rfl rfl rfl tf_slice_26 hy109 hm110) rfl, trivial⟩ ?_ rfl
            refine D_ro (u := .dptr (bound_Count.cs y109)) rfl rfl ⟨O_go (A_fieldM tf_field_29_0 rfl rfl rfl) rfl, trivial⟩ ?_ rfl
            refine D_ro (u := .dptr (bound_Count.cs y109)) rfl rfl ⟨O_go (A_fieldM tf_field_24_0 rfl rfl rfl) rfl, trivial⟩ ?_ rfl
            refine D_ro (u := I64 y109.Group.Load) rfl rfl ⟨O_go (A_load tf_scalar_3 rfl rfl rfl) rfl, trivial⟩ ?_ rfl
            refine D_ro (u := BL (decide (y109.Group.Load < y107.Group.Load))) rfl rfl ⟨O_go (A_gtr rfl rfl rfl) rfl, trivial⟩ ?_ rfl
            refine D_ro (u := BL (decide (y109.Group.Load < y107.Group.Load))) rfl rfl ⟨O_go (A_move rfl rfl) rfl, trivial⟩ ?_ rfl
            refine D_ro (u := .opt (decide (y109.Group.Load < y107.Group.Load)) (OW 260000005 4 bound_Count.av s19)) rfl rfl ⟨O_opt [] rfl rfl rfl .sct trivial (fun hc => A_move rfl rfl) rfl, trivial⟩ ?_ rfl
            refine D_ro (u := .opt (decide (y109.Group.Load < y107.Group.Load)) (I64 s102.1)) rfl rfl ⟨O_opt [] rfl rfl rfl .sct trivial (fun hc => A_move rfl rfl) rfl, trivial⟩ ?_ rfl
            refine D_ro (u := .opt (decide (y109.Group.Load < y107.Group.Load)) (.dptr (bound_Count.cs y111))) rfl rfl ⟨O_opt [(76, OW 260000005 4 bound_Count.av s19), (77, I64 s102.1)] rfl rfl rfl .sct ⟨.all id, .all id, trivial⟩ (fun hc => (match gidx_some (bif_t hc hy111) with | ⟨_, hm_, hy_⟩ => A_indexM (f := bound_Count.av) (xs := s19) (y := y111) rfl rfl rfl tf_slice_26 hy_ hm_)) rfl, trivial⟩ ?_ rfl
            refine D_ro (u := .opt (decide (y109.Group.Load < y107.Group.Load)) (.dptr (bound_Count.cs y111))) rfl rfl ⟨O_opt [(78, .dptr (bound_Count.cs y111))] rfl rfl rfl .sct ⟨.all id, trivial⟩ (fun hc => A_fieldM tf_field_29_0 rfl rfl rfl) rfl, trivial⟩ ?_ rfl
            refine D_ro (u := .opt (decide (y109.Group.Load < y107.Group.Load)) (.dptr ((bound_Count.cs y111).drop 1))) rfl rfl ⟨O_opt [(79, .dptr (bound_Count.cs y111))] rfl rfl rfl .sct ⟨.all id, trivial⟩ (fun hc => A_fieldM tf_field_24_1 rfl rfl rfl) rfl, trivial⟩ ?_ rfl
            refine D_ro (u := .opt (decide (y109.Group.Load < y107.Group.Load)) (I64 y111.Group.Discharge)) rfl rfl ⟨O_opt [(80, .dptr ((bound_Count.cs y111).drop 1))] rfl rfl rfl .sct ⟨.all id, trivial⟩ (fun hc => A_load tf_scalar_3 rfl rfl rfl) rfl, trivial⟩ ?_ rfl
            refine D_ro (u := .opt (decide (y109.Group.Load < y107.Group.Load)) (OW 260000005 4 bound_Count.av s19)) rfl rfl ⟨O_opt [] rfl rfl rfl .sct trivial (fun hc => A_move rfl rfl) rfl, trivial⟩ ?_ rfl
            refine D_ro (u := .opt (decide (y109.Group.Load < y107.Group.Load)) (I64 s35.2.1)) rfl rfl ⟨O_opt [] rfl rfl rfl .sct trivial (fun hc => A_move rfl rfl) rfl, trivial⟩ ?_ rfl
            refine D_ro (u := .opt (decide (y109.Group.Load < y107.Group.Load)) (.dptr (bound_Count.cs y112))) rfl rfl ⟨O_opt [(82, OW 260000005 4 bound_Count.av s19), (83, I64 s35.2.1)] rfl rfl rfl .sct ⟨.all id, .all id, trivial⟩ (fun hc => (match gidx_some (bif_t hc hy112) with | ⟨_, hm_, hy_⟩ => A_indexM (f := bound_Count.av) (xs := s19) (y := y112) rfl rfl rfl tf_slice_26 hy_ hm_)) rfl, trivial⟩ ?_ rfl
            refine D_ro (u := .opt (decide (y109.Group.Load < y107.Group.Load)) (.dptr (bound_Count.cs y112))) rfl rfl ⟨O_opt [(84, .dptr (bound_Count.cs y112))] rfl rfl rfl .sct ⟨.all id, trivial⟩ (fun hc => A_fieldM tf_field_29_0 rfl rfl rfl) rfl, trivial⟩ ?_ rfl
            refine D_ro (u := .opt (decide (y109.Group.Load < y107.Group.Load)) (.dptr ((bound_Count.cs y112).drop 1))) rfl rfl ⟨O_opt [(85, .dptr (bound_Count.cs y112))] rfl rfl rfl .sct ⟨.all id, trivial⟩ (fun hc => A_fieldM tf_field_24_1 rfl rfl rfl) rfl, trivial⟩ ?_ rfl
            refine D_ro (u := .opt (decide (y109.Group.Load < y107.Group.Load)) (I64 y112.Group.Discharge)) rfl rfl ⟨O_opt [(86, .dptr ((bound_Count.cs y112).drop 1))] rfl rfl rfl .sct ⟨.all id, trivial⟩ (fun hc => A_load tf_scalar_3 rfl rfl rfl) rfl, trivial⟩ ?_ rfl
            refine D_ro (u := .opt (decide (y109.Group.Load < y107.Group.Load)) (BL (decide (y112.Group.Discharge < y111.Group.Discharge)))) rfl rfl ⟨O_opt [(81, I64 y111.Group.Discharge), (87, I64 y112.Group.Discharge)] rfl rfl rfl .sct ⟨.all id, .all id, trivial⟩ (fun hc => A_gtr rfl rfl rfl) rfl, trivial⟩ ?_ rfl
            refine D_ro (u := BL ((decide (y109.Group.Load < y107.Group.Load)) && (decide (y112.Group.Discharge < y111.Group.Discharge)))) rfl rfl ⟨O_go (A_and rfl rfl rfl rfl) rfl, trivial⟩ ?_ rfl
            refine D_ro (u := BL ((decide (y109.Group.Load < y107.Group.Load)) && (decide (y112.Group.Discharge < y111.Group.Discharge)))) rfl rfl ⟨O_go (A_move rfl rfl) rfl, trivial⟩ ?_ rfl
            refine D_ro (u := .opt ((decide (y109.Group.Load < y107.Group.Load)) && (decide (y112.Group.Discharge < y111.Group.Discharge))) (.vec 260000040 0 1 ((List.replicate m27 (0 : Int)).length))) rfl rfl ⟨O_opt [] rfl rfl rfl .sct trivial (fun hc => A_move rfl rfl) rfl, trivial⟩ ?_ rfl
            refine D_ro (u := .opt ((decide (y109.Group.Load < y107.Group.Load)) && (decide (y112.Group.Discharge < y111.Group.Discharge))) (I64 s102.1)) rfl rfl ⟨O_opt [] rfl rfl rfl .sct trivial (fun hc => A_move rfl rfl) rfl, trivial⟩ ?_ rfl
            refine D_ro (u := .opt ((decide (y109.Group.Load < y107.Group.Load)) && (decide (y112.Group.Discharge < y111.Group.Discharge))) (.vptr 260000040 0 s102.1.toNat 0)) rfl rfl ⟨O_opt [(91, .vec 260000040 0 1 ((List.replicate m27 (0 : Int)).length)), (92, I64 s102.1)] rfl rfl rfl .sct ⟨.all id, .all id, trivial⟩ (fun hc => A_vidxM (f := I64) (xs := s102.2.1) (y := y113) rfl rfl rfl rfl tf_slice_52 (gidx_some2 (bif_t hc hy113)) (gidx_some1 (bif_t hc hy113))) rfl, trivial⟩ ?_ rfl
            refine D_ro (u := .opt ((decide (y109.Group.Load < y107.Group.Load)) && (decide (y112.Group.Discharge < y111.Group.Discharge))) (I64 y113)) rfl rfl ⟨O_opt [(93, .vptr 260000040 0 s102.1.toNat 0)] rfl rfl rfl .sct ⟨.all id, trivial⟩ (fun hc => A_vloadM (f := I64) (xs := s102.2.1) (y := y113) tf_scalar_3 rfl rfl rfl (gidx_some2 (bif_t hc hy113)) rfl rfl) rfl, trivial⟩ ?_ rfl
            refine D_ro (u := .opt ((decide (y109.Group.Load < y107.Group.Load)) && (decide (y112.Group.Discharge < y111.Group.Discharge))) (.vec 260000040 0 1 ((List.replicate m27 (0 : Int)).length))) rfl rfl ⟨O_opt [] rfl rfl rfl .sct trivial (fun hc => A_move rfl rfl) rfl, trivial⟩ ?_ rfl
            refine D_ro (u := .opt ((decide (y109.Group.Load < y107.Group.Load)) && (decide (y112.Group.Discharge < y111.Group.Discharge))) (I64 s35.2.1)) rfl rfl ⟨O_opt [] rfl rfl rfl .sct trivial (fun hc => A_move rfl rfl) rfl, trivial⟩ ?_ rfl
            refine D_ro (u := .opt ((decide (y109.Group.Load < y107.Group.Load)) && (decide (y112.Group.Discharge < y111.Group.Discharge))) (.vptr 260000040 0 s35.2.1.toNat 0)) rfl rfl ⟨O_opt [(95, .vec 260000040 0 1 ((List.replicate m27 (0 : Int)).length)), (96, I64 s35.2.1)] rfl rfl rfl .sct ⟨.all id, .all id, trivial⟩ (fun hc => A_vidxM (f := I64) (xs := s102.2.1) (y := y114) rfl rfl rfl rfl tf_slice_52 (gidx_some2 (bif_t hc hy114)) (gidx_some1 (bif_t hc hy114))) rfl, trivial⟩ ?_ rfl
            refine D_ro (u := .opt ((decide (y109.Group.Load < y107.Group.Load)) && (decide (y112.Group.Discharge < y111.Group.Discharge))) (I64 y114)) rfl rfl ⟨O_opt [(97, .vptr 260000040 0 s35.2.1.toNat 0)] rfl rfl rfl .sct ⟨.all id, trivial⟩ (fun hc => A_vloadM (f := I64) (xs := s102.2.1) (y := y114) tf_scalar_3 rfl rfl rfl (gidx_some2 (bif_t hc hy114)) rfl rfl) rfl, trivial⟩ ?_ rfl
            refine D_ro (u := .opt ((decide (y109.Group.Load < y107.Group.Load)) && (decide (y112.Group.Discharge < y111.Group.Discharge))) (BL (decide (y114 ≤ y113)))) rfl rfl ⟨O_opt [(94, I64 y113), (98, I64 y114)] rfl rfl rfl .sct ⟨.all id, .all id, trivial⟩ (fun hc => A_geq rfl rfl rfl) rfl, trivial⟩ ?_ rfl
            refine D_ro (u := BL (((decide (y109.Group.Load < y107.Group.Load)) && (decide (y112.Group.Discharge < y111.Group.Discharge))) && (decide (y114 ≤ y113)))) rfl rfl ⟨O_go (A_and rfl rfl rfl rfl) rfl, trivial⟩ ?_ rfl
            refine D_nil ?_
            refine hK106 _ _ ?_
            refine JC_cond rfl (fun hb => ?_) (fun hb => ?_)
            ·
              replace h := bif_t hb h
              refine JC_region ?_
              refine JL_go (u := .vec 260000040 0 1 ((List.replicate m27 (0 : Int)).length)) (A_move rfl rfl) ?_ rfl rfl rfl
              refine JL_go (u := I64 s35.2.1) (A_move rfl rfl) ?_ rfl rfl rfl
              refine JL_go (u := .vec 260000043 0 1 ((List.replicate m29 (0 : Int)).length)) (A_move rfl rfl) ?_ rfl rfl rfl
              refine JL_go (u := I64 s35.2.1) (A_move rfl rfl) ?_ rfl rfl rfl
              refine JL_go (u := .vec 260000040 0 1 ((List.replicate m27 (0 : Int)).length)) (A_move rfl rfl) ?_ rfl rfl rfl
              refine JL_go (u := I64 s102.1) (A_move rfl rfl) ?_ rfl rfl rfl
              obtain ⟨y115, hmy115, hy115, h⟩ := gidx_outT h
              refine JL_go (u := .vptr 260000040 0 s102.1.toNat 0) (A_vidxM (f := I64) (xs := s102.2.1) (y := y115) rfl rfl rfl rfl tf_slice_52 hy115 hmy115) ?_ rfl rfl rfl
              refine JL_go (u := I64 y115) (A_vloadM (f := I64) (xs := s102.2.1) (y := y115) tf_scalar_3 rfl rfl rfl hy115 rfl rfl) ?_ rfl rfl rfl
              refine JL_go (u := I64 s102.1) (A_move rfl rfl) ?_ rfl rfl rfl
              obtain ⟨y116, hmy116, hy116, h⟩ := gidx_outT h
              refine JL_go (u := .vptr 260000040 0 s35.2.1.toNat 0) (A_vidxM (f := I64) (xs := s102.2.1) (y := y116) rfl rfl rfl rfl tf_slice_52 hy116 hmy116) ?_ rfl rfl rfl
              refine JL_go0 (u := .junk) (A_vstoreM (f := I64) (xs := s102.2.1) (z := y115) tf_size_3 rfl rfl rfl rfl (List.getElem?_eq_some_iff.1 hy116).1 rfl rfl rfl rfl) ?_ rfl rfl
              obtain ⟨y117, hmy117, hy117, h⟩ := gidx_outT h
              refine JL_go (u := .vptr 260000043 0 s35.2.1.toNat 0) (A_vidxM (f := I64) (xs := s102.2.2) (y := y117) rfl rfl rfl rfl tf_slice_52 hy117 hmy117) ?_ rfl rfl rfl
              refine JL_go0 (u := .junk) (A_vstoreM (f := I64) (xs := s102.2.2) (z := s102.1) tf_size_3 rfl rfl rfl rfl (List.getElem?_eq_some_iff.1 hy117).1 rfl rfl rfl rfl) ?_ rfl rfl
              refine JL_nil ?_
              exact ej105 _ _ ((s102.2.1.set s35.2.1.toNat y115), (s102.2.2.set s35.2.1.toNat s102.1)) h ⟨⟨.same rfl, .same rfl, .same rfl, .same rfl, .same rfl, .same rfl, trivial⟩, ⟨⟨_, rfl, .same⟩, ⟨_, rfl, .vec⟩, ⟨_, rfl, .vec⟩, trivial⟩, rfl⟩
            ·
              replace h := bif_f hb h
              refine JC_skip ?_
              exact ej105 _ _ (s102.2.1, s102.2.2) h ⟨⟨.same rfl, .same rfl, .same rfl, .same rfl, .same rfl, .same rfl, trivial⟩, ⟨⟨_, rfl, .same⟩, ⟨_, rfl, .vec⟩, ⟨_, rfl, .vec⟩, trivial⟩, rfl⟩
          · intro j105 h
            replace h := app1 hkj105 h
            refine JC_region ?_
            refine JL_go (u := I64 s102.1) (A_move rfl rfl) ?_ rfl rfl rfl
            obtain ⟨v118, hv118, h⟩ := chk_out h
            refine JL_go (u := I64 v118) (A_sub hv118 rfl rfl rfl) ?_ rfl rfl rfl
            refine JL_go (u := I64 v118) (A_assign rfl rfl) ?_ rfl rfl rfl
            refine JL_nil ?_
            exact e102 _ _ m102 (v118, j105.1, j105.2) (app1 hn102 h) (by omega) ⟨⟨.same rfl, .same rfl, .same rfl, .same rfl, .same rfl, .same rfl, trivial⟩, ⟨⟨_, rfl, .same⟩, ⟨_, rfl, .vec⟩, ⟨_, rfl, .vec⟩, trivial⟩, rfl⟩
        ·
          replace h := bif_f hb h
          refine JC_exit ?_
          refine hK41 _ _ ?_
          refine JC_seq (fun K119 hK119 => ?_)
          refine JC_fits (l' := [(5, OW 260000005 4 bound_Count.av s19), (8, .vec 260000040 0 1 ((List.replicate m27 (0 : Int)).length)), (9, .vec 260000043 0 1 ((List.replicate m29 (0 : Int)).length)), (10, I64 s35.1), (11, I64 s35.2.1)]) (L' := [(260000005, .spare 29 4 s19.length s19.length), (260000040, .vec 3 1 0 (s102.2.1.map I64)), (260000043, .vec 3 1 0 (s102.2.2.map I64))]) ⟨⟨.same rfl, .same rfl, .same rfl, .same rfl, .same rfl, trivial⟩, ⟨⟨_, rfl, .same⟩, ⟨_, rfl, .vec⟩, ⟨_, rfl, .vec⟩, trivial⟩, rfl⟩ ?_
          obtain ⟨y120, hmy120, hy120, h⟩ := gidx_outT h
          obtain ⟨m122, y121, hm122, hy121, h⟩ := gidx_out h
          obtain ⟨r123, hr123, h⟩ := bnd_out h
          obtain ⟨v124, hv124, h⟩ := chk_out h
          obtain ⟨y125, hmy125, hy125, h⟩ := gidx_outT h
          refine JC_draw [11] [0, 0, 0, 0, 0, 0, 0, 0, 0, 0, 0, 0] [0, 0, 0, 0, 0, 0, 0, 0, 0, 0, 0, 0] [[(260000005, .spare 29 4 s19.length s19.length), (260000040, .vec 3 1 0 (s102.2.1.map I64)), (260000043, .vec 3 1 0 (s102.2.2.map I64))], ((260000040, .vec 3 1 0 ((s102.2.1.set s35.2.1.toNat v124).map I64)) :: [(260000005, .spare 29 4 s19.length s19.length), (260000040, .vec 3 1 0 (s102.2.1.map I64)), (260000043, .vec 3 1 0 (s102.2.2.map I64))])] tf_mixed (by kernel_rfl) rfl rfl ?_
          refine D_ro (u := .vec 260000040 0 1 ((List.replicate m27 (0 : Int)).length)) rfl rfl ⟨O_go (A_move rfl rfl) rfl, trivial⟩ ?_ rfl
          refine D_ro (u := I64 s35.2.1) rfl rfl ⟨O_go (A_move rfl rfl) rfl, trivial⟩ ?_ rfl
          refine D_ro (u := .vptr 260000040 0 s35.2.1.toNat 0) rfl rfl ⟨O_go (A_vidxM (f := I64) (xs := s102.2.1) (y := y120) rfl rfl rfl rfl tf_slice_52 hy120 hmy120) rfl, trivial⟩ ?_ rfl
          refine D_ro (u := I64 y120) rfl rfl ⟨O_go (A_vloadM (f := I64) (xs := s102.2.1) (y := y120) tf_scalar_3 rfl rfl rfl hy120 rfl rfl) rfl, trivial⟩ ?_ rfl
          refine D_ro (u := OW 260000005 4 bound_Count.av s19) rfl rfl ⟨O_go (A_move rfl rfl) rfl, trivial⟩ ?_ rfl
          refine D_ro (u := I64 s35.2.1) rfl rfl ⟨O_go (A_move rfl rfl) rfl, trivial⟩ ?_ rfl
          refine D_ro (u := .dptr (bound_Count.cs y121)) rfl rfl ⟨O_go (A_indexM (f := bound_Count.av) (xs := s19) (y := y121) rfl rfl rfl tf_slice_26 hy121 hm122) rfl, trivial⟩ ?_ rfl
          refine D_ro (u := .agg (bound_Count.cs y121)) rfl rfl ⟨O_go (A_loadAgg tf_agg_29 rfl rfl rfl) rfl, trivial⟩ ?_ rfl
          refine D_ro (u := I64 r123) rfl rfl ⟨O_go (A_call1 (args := [.agg (bound_Count.cs y121)]) rfl (M_bound_places_w y121 r123 hr123) tf_call_46 ⟨rfl, rfl, trivial⟩) rfl, trivial⟩ ?_ rfl
          refine D_ro (u := I64 v124) rfl rfl ⟨O_go (A_add hv124 rfl rfl rfl) rfl, trivial⟩ ?_ rfl
          refine D_ro (u := .vptr 260000040 0 s35.2.1.toNat 0) rfl rfl ⟨O_go (A_vidxM (f := I64) (xs := s102.2.1) (y := y125) rfl rfl rfl rfl tf_slice_52 hy125 hmy125) rfl, trivial⟩ ?_ rfl
          refine D_w0 (u := .junk) rfl rfl rfl rfl (O_go (A_vstoreM (f := I64) (xs := s102.2.1) (z := v124) tf_size_3 rfl rfl rfl rfl (List.getElem?_eq_some_iff.1 hy125).1 rfl rfl rfl rfl) rfl) ?_
          refine D_nil ?_
          refine hK119 _ _ ?_
          refine JC_seq (fun K126 hK126 => ?_)
          refine JC_fits (l' := [(5, OW 260000005 4 bound_Count.av s19), (8, .vec 260000040 0 1 ((List.replicate m27 (0 : Int)).length)), (9, .vec 260000043 0 1 ((List.replicate m29 (0 : Int)).length)), (10, I64 s35.1), (11, I64 s35.2.1)]) (L' := [(260000005, .spare 29 4 s19.length s19.length), (260000040, .vec 3 1 0 ((s102.2.1.set s35.2.1.toNat v124).map I64)), (260000043, .vec 3 1 0 (s102.2.2.map I64))]) ⟨⟨.same rfl, .same rfl, .same rfl, .same rfl, .same rfl, trivial⟩, ⟨⟨_, rfl, .same⟩, ⟨_, rfl, .vec⟩, ⟨_, rfl, .vec⟩, trivial⟩, rfl⟩ ?_
          obtain ⟨y127, hy127, h⟩ := bnd_out h
          obtain ⟨y128, hy128, h⟩ := bnd_out h
          refine JC_draw [] [0, 0, 0, 0, 0, 0, 0, 0, 0, 0, 0, 0, 0] [0, 0, 0, 0, 0, 0, 0, 0, 0, 0, 0, 0, 0] [[(260000005, .spare 29 4 s19.length s19.length), (260000040, .vec 3 1 0 ((s102.2.1.set s35.2.1.toNat v124).map I64)), (260000043, .vec 3 1 0 (s102.2.2.map I64))]] tf_mixed (by kernel_rfl) rfl rfl ?_
          refine D_ro (u := I64 s35.1) rfl rfl ⟨O_go (A_move rfl rfl) rfl, trivial⟩ ?_ rfl
          refine D_ro (u := BL (decide (s35.1 < 0))) rfl rfl ⟨O_go (A_lss rfl rfl rfl) rfl, trivial⟩ ?_ rfl
          refine D_ro (u := BL (decide (s35.1 < 0))) rfl rfl ⟨O_go (A_move rfl rfl) rfl, trivial⟩ ?_ rfl
          refine D_ro (u := .opt (!(decide (s35.1 < 0))) (.vec 260000040 0 1 ((List.replicate m27 (0 : Int)).length))) rfl rfl ⟨O_opt [] rfl rfl rfl .scf trivial (fun hc => A_move rfl rfl) rfl, trivial⟩ ?_ rfl
          refine D_ro (u := .opt (!(decide (s35.1 < 0))) (I64 s35.2.1)) rfl rfl ⟨O_opt [] rfl rfl rfl .scf trivial (fun hc => A_move rfl rfl) rfl, trivial⟩ ?_ rfl
          refine D_ro (u := .opt (!(decide (s35.1 < 0))) (.vptr 260000040 0 s35.2.1.toNat 0)) rfl rfl ⟨O_opt [(126, .vec 260000040 0 1 ((List.replicate m27 (0 : Int)).length)), (127, I64 s35.2.1)] rfl rfl rfl .scf ⟨.all id, .all id, trivial⟩ (fun hc => A_vidxM (f := I64) (xs := (s102.2.1.set s35.2.1.toNat v124)) (y := y127) rfl rfl rfl rfl tf_slice_52 (gidx_some2 (bif_t hc hy127)) (gidx_some1 (bif_t hc hy127))) rfl, trivial⟩ ?_ rfl
          refine D_ro (u := .opt (!(decide (s35.1 < 0))) (I64 y127)) rfl rfl ⟨O_opt [(128, .vptr 260000040 0 s35.2.1.toNat 0)] rfl rfl rfl .scf ⟨.all id, trivial⟩ (fun hc => A_vloadM (f := I64) (xs := (s102.2.1.set s35.2.1.toNat v124)) (y := y127) tf_scalar_3 rfl rfl rfl (gidx_some2 (bif_t hc hy127)) rfl rfl) rfl, trivial⟩ ?_ rfl
          refine D_ro (u := .opt (!(decide (s35.1 < 0))) (.vec 260000040 0 1 ((List.replicate m27 (0 : Int)).length))) rfl rfl ⟨O_opt [] rfl rfl rfl .scf trivial (fun hc => A_move rfl rfl) rfl, trivial⟩ ?_ rfl
          refine D_ro (u := .opt (!(decide (s35.1 < 0))) (I64 s35.1)) rfl rfl ⟨O_opt [] rfl rfl rfl .scf trivial (fun hc => A_move rfl rfl) rfl, trivial⟩ ?_ rfl
          refine D_ro (u := .opt (!(decide (s35.1 < 0))) (.vptr 260000040 0 s35.1.toNat 0)) rfl rfl ⟨O_opt [(130, .vec 260000040 0 1 ((List.replicate m27 (0 : Int)).length)), (131, I64 s35.1)] rfl rfl rfl .scf ⟨.all id, .all id, trivial⟩ (fun hc => A_vidxM (f := I64) (xs := (s102.2.1.set s35.2.1.toNat v124)) (y := y128) rfl rfl rfl rfl tf_slice_52 (gidx_some2 (bif_t hc hy128)) (gidx_some1 (bif_t hc hy128))) rfl, trivial⟩ ?_ rfl
          refine D_ro (u := .opt (!(decide (s35.1 < 0))) (I64 y128)) rfl rfl ⟨O_opt [(132, .vptr 260000040 0 s35.1.toNat 0)] rfl rfl rfl .scf ⟨.all id, trivial⟩ (fun hc => A_vloadM (f := I64) (xs := (s102.2.1.set s35.2.1.toNat v124)) (y := y128) tf_scalar_3 rfl rfl rfl (gidx_some2 (bif_t hc hy128)) rfl rfl) rfl, trivial⟩ ?_ rfl
          refine D_ro (u := .opt (!(decide (s35.1 < 0))) (BL (decide (y128 ≤ y127)))) rfl rfl ⟨O_opt [(129, I64 y127), (133, I64 y128)] rfl rfl rfl .scf ⟨.all id, .all id, trivial⟩ (fun hc => A_geq rfl rfl rfl) rfl, trivial⟩ ?_ rfl
          refine D_ro (u := BL ((decide (s35.1 < 0)) || (decide (y128 ≤ y127)))) rfl rfl ⟨O_go (A_or rfl rfl rfl rfl) rfl, trivial⟩ ?_ rfl
          refine D_nil ?_
          refine hK126 _ _ ?_
          refine JC_cond rfl (fun hb => ?_) (fun hb => ?_)
          ·
            replace h := bif_t hb h
            refine JC_region ?_
            refine JL_go (u := I64 s35.2.1) (A_move rfl rfl) ?_ rfl rfl rfl
            refine JL_go (u := I64 s35.2.1) (A_assign rfl rfl) ?_ rfl rfl rfl
            refine JL_nil ?_
            exact ej38 _ _ (s35.2.1, (s102.2.1.set s35.2.1.toNat v124), s102.2.2) h ⟨⟨.same rfl, .same rfl, .same rfl, .same rfl, .same rfl, trivial⟩, ⟨⟨_, rfl, .same⟩, ⟨_, rfl, .vec⟩, ⟨_, rfl, .vec⟩, trivial⟩, rfl⟩
          ·
            replace h := bif_f hb h
            refine JC_skip ?_
            exact ej38 _ _ (s35.1, (s102.2.1.set s35.2.1.toNat v124), s102.2.2) h ⟨⟨.same rfl, .same rfl, .same rfl, .same rfl, .same rfl, trivial⟩, ⟨⟨_, rfl, .same⟩, ⟨_, rfl, .vec⟩, ⟨_, rfl, .vec⟩, trivial⟩, rfl⟩
      · intro j38 h
        replace h := app1 hkj38 h
        refine JC_region ?_
        refine JL_go (u := I64 s35.2.1) (A_move rfl rfl) ?_ rfl rfl rfl
        obtain ⟨v129, hv129, h⟩ := chk_out h
        refine JL_go (u := I64 v129) (A_sub hv129 rfl rfl rfl) ?_ rfl rfl rfl
        refine JL_go (u := I64 v129) (A_assign rfl rfl) ?_ rfl rfl rfl
        refine JL_nil ?_
        exact e35 _ _ m35 (j38.1, v129, j38.2.1, j38.2.2) (app1 hn35 h) (by omega) ⟨⟨.same rfl, .same rfl, .same rfl, .same rfl, .same rfl, trivial⟩, ⟨⟨_, rfl, .same⟩, ⟨_, rfl, .vec⟩, ⟨_, rfl, .vec⟩, trivial⟩, rfl⟩
    ·
      replace h := bif_f hb h
      refine JC_exit ?_
      refine hK32 _ _ ?_
      refine JC_seq (fun K130 hK130 => ?_)
      refine JC_region ?_
      refine JL_go (u := OW 260000013 4 bound_Count.av ([] : List bound_Count)) (A_nilOwn 260000013 29 4 rfl rfl rfl) ?_ rfl rfl rfl
      refine JL_nil ?_
      refine hK130 _ _ ?_
      refine JC_seq (fun K131 hK131 => ?_)
      refine JC_seq (fun K132 hK132 => ?_)
      refine JC_region ?_
      refine JL_go (u := I64 s35.1) (A_move rfl rfl) ?_ rfl rfl rfl
      refine JL_go (u := I64 s35.1) (A_assign rfl rfl) ?_ rfl rfl rfl
      refine JL_nil ?_
      refine hK132 _ _ ?_
      refine JC_block ?_
      obtain ⟨b144, hb144, h⟩ := loop_in h
      refine JC_loop2 (fun i144 (s144 : (List bound_Count) × Int) => loop b144 i144 s144 = some r) (fun i144 s144 => [(5, OW 260000005 4 bound_Count.av s19), (9, .vec 260000043 0 1 ((List.replicate m29 (0 : Int)).length)), (13, OW 260000013 4 bound_Count.av s144.1), (14, I64 s144.2)]) (fun i144 s144 => [(260000005, .spare 29 4 s19.length s19.length), (260000040, .vec 3 1 0 (s35.2.2.1.map I64)), (260000043, .vec 3 1 0 (s35.2.2.2.map I64)), (260000013, .spare 29 4 s144.1.length s144.1.length)]) (fun i144 => i144) F ([], s35.1) h ⟨⟨.same rfl, .same rfl, .same rfl, .same rfl, trivial⟩, ⟨⟨_, rfl, .same⟩, ⟨_, rfl, .vec⟩, ⟨_, rfl, .vec⟩, ⟨_, rfl, .same⟩, trivial⟩, rfl⟩ ?_
      clear h
      intro i144 s144 hi144 K144 e144
      obtain ⟨m144, nx144, hm_144, hn144, h⟩ := loop_out hi144
      replace h := app2 hb144 h
      refine JC_seq (fun K145 hK145 => ?_)
      refine JC_seq (fun K146 hK146 => ?_)
      refine JC_region ?_
      refine JL_go (u := I64 s144.2) (A_move rfl rfl) ?_ rfl rfl rfl
      refine JL_go (u := BL (decide (0 ≤ s144.2))) (A_geq rfl rfl rfl) ?_ rfl rfl rfl
      refine JL_nil ?_
      refine hK146 _ _ ?_
      refine JC_cond rfl (fun hb => ?_) (fun hb => ?_)
      ·
        replace h := bif_t hb h
        refine JC_skip ?_
        refine hK145 _ _ ?_
        refine JC_seq (fun K147 hK147 => ?_)
        refine JC_block ?_
        refine JC_region ?_
        refine JL_go (u := OW 260000013 4 bound_Count.av s144.1) (A_move rfl rfl) ?_ rfl rfl rfl
        refine JL_go (u := OW 260000005 4 bound_Count.av s19) (A_move rfl rfl) ?_ rfl rfl rfl
        refine JL_go (u := I64 s144.2) (A_move rfl rfl) ?_ rfl rfl rfl
        obtain ⟨m149, y148, hm149, hy148, h⟩ := gidx_out h
        refine JL_go (u := .dptr (bound_Count.cs y148)) (A_indexM (f := bound_Count.av) (xs := s19) (y := y148) rfl rfl rfl tf_slice_26 hy148 hm149) ?_ rfl rfl rfl
        refine JL_go (u := .agg (bound_Count.cs y148)) (A_loadAgg tf_agg_29 rfl rfl rfl) ?_ rfl rfl rfl
        refine JL_go (u := LS 4 bound_Count.av [y148]) (A_buildSlice (xs := [.agg (bound_Count.cs y148)]) rfl ⟨rfl, rfl, trivial⟩ tf_slice_26 tf_zsize_29 rfl rfl rfl rfl) ?_ rfl rfl rfl
        obtain ⟨ha150, h⟩ := need_out h
        refine JL_go (u := OW 260000013 4 bound_Count.av (s144.1 ++ [y148])) (A_appendM (f := bound_Count.av) (xs := s144.1) (ys := [y148]) rfl rfl rfl rfl tf_slice_26 tf_elem_29 ha150 (fun _ => rfl) (.inl rfl) rfl) ?_ rfl rfl rfl
        refine JL_go (u := OW 260000013 4 bound_Count.av (s144.1 ++ [y148])) (A_assign rfl rfl) ?_ rfl rfl rfl
        refine JL_nil ?_
        refine hK147 _ _ ?_
        refine JC_region ?_
        refine JL_go (u := .vec 260000043 0 1 ((List.replicate m29 (0 : Int)).length)) (A_move rfl rfl) ?_ rfl rfl rfl
        refine JL_go (u := I64 s144.2) (A_move rfl rfl) ?_ rfl rfl rfl
        obtain ⟨y151, hmy151, hy151, h⟩ := gidx_outT h
        refine JL_go (u := .vptr 260000043 0 s144.2.toNat 0) (A_vidxM (f := I64) (xs := s35.2.2.2) (y := y151) rfl rfl rfl rfl tf_slice_52 hy151 hmy151) ?_ rfl rfl rfl
        refine JL_go (u := I64 y151) (A_vloadM (f := I64) (xs := s35.2.2.2) (y := y151) tf_scalar_3 rfl rfl rfl hy151 rfl rfl) ?_ rfl rfl rfl
        refine JL_go (u := I64 y151) (A_assign rfl rfl) ?_ rfl rfl rfl
        refine JL_nil ?_
        exact e144 _ _ m144 ((s144.1 ++ [y148]), y151) (app1 hn144 h) (by omega) ⟨⟨.same rfl, .same rfl, .same rfl, .same rfl, trivial⟩, ⟨⟨_, rfl, .same⟩, ⟨_, rfl, .vec⟩, ⟨_, rfl, .vec⟩, ⟨_, rfl, .same⟩, trivial⟩, rfl⟩
      ·
        replace h := bif_f hb h
        refine JC_exit ?_
        refine hK131 _ _ ?_
        refine JC_seq (fun K152 hK152 => ?_)
        refine JC_region ?_
        refine JL_go (u := OW 260000013 4 bound_Count.av s144.1) (A_move rfl rfl) ?_ rfl rfl rfl
        refine JL_go (u := OW 260000013 4 bound_Count.av s144.1) (A_assign rfl rfl) ?_ rfl rfl rfl
        refine JL_nil ?_
        refine hK152 _ _ ?_
        refine JC_ret ?_
        exact ⟨[LS 4 bound_Count.av s144.1], [], trivial, rfl, ⟨⟨_, rfl, .conv (.list rfl)⟩, trivial⟩, rfl, congrArg (fun r : (List bound_Count) => (LS 4 bound_Count.av r : AV)) (Option.some.inj h)⟩

def M_bound_Find_1 (F : Nat) (l : List bound_Count) (p1 : Ship) : Option Int :=
  bnd (M_bound_bound F p1 l) fun r3 =>
  some r3
theorem M_bound_Find_1_w (F : Nat) (l : List bound_Count) (p1 : Ship) (r : Int) (h : M_bound_Find_1 F l p1 = some r) : Pure Try.prog 27 [LS 4 bound_Count.av l, .dptr (Ship.cs p1)] (· = I64 r) := by
  unfold M_bound_Find_1 at h
  refine Pure_ofG [.tmp 3] Try.func27 rfl rfl ?_
  refine JC_seq (fun K1 hK1 => ?_)
  refine JC_region ?_
  refine JL_go (u := I64 0) (A_assign rfl rfl) ?_ rfl rfl rfl
  refine JL_nil ?_
  refine hK1 _ _ ?_
  refine JC_seq (fun K2 hK2 => ?_)
  refine JC_region ?_
  refine JL_go (u := .agg (Ship.cs p1)) (A_loadAgg tf_agg_47 rfl rfl rfl) ?_ rfl rfl rfl
  refine JL_go (u := LS 4 bound_Count.av l) (A_move rfl rfl) ?_ rfl rfl rfl
  obtain ⟨r3, hr3, h⟩ := bnd_out h
  refine JL_go (u := I64 r3) (A_call1 (args := [.agg (Ship.cs p1), LS 4 bound_Count.av l]) rfl (M_bound_bound_w F p1 l r3 hr3) tf_call_24 ⟨rfl, rfl, rfl, rfl, trivial⟩) ?_ rfl rfl rfl
  refine JL_go (u := I64 r3) (A_assign rfl rfl) ?_ rfl rfl rfl
  refine JL_nil ?_
  refine hK2 _ _ ?_
  refine JC_ret ?_
  exact ⟨[I64 r3], [], trivial, rfl, ⟨⟨_, rfl, .conv (.same rfl)⟩, trivial⟩, rfl, congrArg (fun r : Int => (I64 r : AV)) (Option.some.inj h)⟩

def M_bound_greatest_boundCount (l : List (List bound_Count)) (number : (List bound_Count) → Option Int) : Option ((List bound_Count) × Int) :=
  each (fun y22 i22 (s22 : (List bound_Count) × Int) nx22 =>
    jp (fun kj25 =>
      bnd (number y22) fun r28 =>
      bif decide (s22.2 < r28) then
      (kj25 (y22, r28))
      else
      (kj25 (s22.1, s22.2))) fun (j25 : (List bound_Count) × Int) =>
    nx22 (j25.1, j25.2))
  (fun (s22 : (List bound_Count) × Int) =>
    some (s22.1, s22.2)) l 0 ([], 0)
theorem M_bound_greatest_boundCount_w (l : List (List bound_Count)) (number : (List bound_Count) → Option Int) (number_f : FuncId) (number_c : List AV) (number_B : callB Try.prog number_f = true) (number_d : refsL (fun _ => false) number_c = true) (number_w : ∀ a0 q, number a0 = some q → Pure Try.prog number_f ([LS 4 bound_Count.av a0] ++ number_c) (· = I64 q)) (r : (List bound_Count) × Int) (h : M_bound_greatest_boundCount l number = some r) : Pure Try.prog 26 [LS 1 (LS 4 bound_Count.av) l, .fn number_f number_c] (· = .tup [LS 4 bound_Count.av r.1, I64 r.2]) := by
  unfold M_bound_greatest_boundCount at h
  refine Pure_ofG [.tmp 4, .tmp 5] Try.func26 rfl rfl ?_
  refine JC_seq (fun K1 hK1 => ?_)
  refine JC_region ?_
  refine JL_go (u := LS 4 bound_Count.av ([] : List bound_Count)) (A_nilList 4 rfl rfl) ?_ rfl rfl rfl
  refine JL_go (u := I64 0) (A_assign rfl rfl) ?_ rfl rfl rfl
  refine JL_nil ?_
  refine hK1 _ _ ?_
  refine JC_seq (fun K2 hK2 => ?_)
  refine JC_region ?_
  refine JL_go (u := LS 4 bound_Count.av ([] : List bound_Count)) (A_nilList 4 rfl rfl) ?_ rfl rfl rfl
  refine JL_nil ?_
  refine hK2 _ _ ?_
  refine JC_seq (fun K3 hK3 => ?_)
  refine JC_region ?_
  refine JL_go (u := I64 0) (A_assign rfl rfl) ?_ rfl rfl rfl
  refine JL_nil ?_
  refine hK3 _ _ ?_
  refine JC_seq (fun K4 hK4 => ?_)
  refine JC_seq (fun K5 hK5 => ?_)
  refine JC_region ?_
  refine JL_go (u := LS 1 (LS 4 bound_Count.av) l) (A_move rfl rfl) ?_ rfl rfl rfl
  refine JL_lenM (f := (LS 4 bound_Count.av)) (xs := l) tf_slice_81 rfl rfl (fun hm12 => ?_) rfl rfl rfl
  refine JL_go (u := I64 0) (A_move rfl rfl) ?_ rfl rfl rfl
  refine JL_nil ?_
  refine hK5 _ _ ?_
  refine JC_block ?_
  obtain ⟨b22, kx22, hb22, hkx22, h⟩ := each_in h
  refine JC_loop2 (fun i22 (s22 : (List bound_Count) × Int) => each b22 kx22 (List.drop i22 l) i22 s22 = some r) (fun i22 s22 => [(1, .fn number_f number_c), (6, LS 4 bound_Count.av s22.1), (7, I64 s22.2), (11, LS 1 (LS 4 bound_Count.av) l), (12, I64 (l.length : Int)), (13, I64 (i22 : Int))]) (fun i22 s22 => []) (fun i22 => l.length - i22) 0 ([], 0) h ⟨⟨.same (refsL_any _ _ number_d), .same rfl, .same rfl, .same rfl, .same rfl, .same rfl, trivial⟩, trivial, rfl⟩ ?_
  clear h
  intro i22 s22 hi22 K22 e22
  refine JC_seq (fun K23 hK23 => ?_)
  refine JC_region ?_
  refine JL_go (u := BL (decide ((i22 : Int) < (l.length : Int)))) (A_lss rfl rfl rfl) ?_ rfl rfl rfl
  refine JL_nil ?_
  refine hK23 _ _ ?_
  refine JC_seq (fun K24 hK24 => ?_)
  refine JC_cond rfl (fun hb => ?_) (fun hb => ?_)
  ·
    have hk22 := lt_len hb
    obtain ⟨y22, nx22, hy22, hn22, h⟩ := each_out hi22 hk22
    replace h := app4 hb22 h
    refine JC_skip ?_
    refine hK24 _ _ ?_
    obtain ⟨kj25, hkj25, h⟩ := jp_out h
    refine JC_seqJ (fun j25 : (List bound_Count) × Int => kj25 j25 = some r) (fun j25 => [(1, .fn number_f number_c), (6, LS 4 bound_Count.av j25.1), (7, I64 j25.2), (11, LS 1 (LS 4 bound_Count.av) l), (12, I64 (l.length : Int)), (13, I64 (i22 : Int))]) (fun j25 => []) (fun Kj25 ej25 => ?_) ?_
    ·
      refine JC_block ?_
      refine JC_seq (fun K26 hK26 => ?_)
      refine JC_region ?_
      refine JL_go (u := .dptr [LS 4 bound_Count.av y22]) (A_indexM (f := (LS 4 bound_Count.av)) (xs := l) (y := y22) rfl rfl rfl tf_slice_81 hy22 rfl) ?_ rfl rfl rfl
      refine JL_go (u := LS 4 bound_Count.av y22) (A_load tf_scalar_26 rfl rfl rfl) ?_ rfl rfl rfl
      refine JL_go (u := LS 4 bound_Count.av y22) (A_assign rfl rfl) ?_ rfl rfl rfl
      refine JL_nil ?_
      refine hK26 _ _ ?_
      refine JC_seq (fun K27 hK27 => ?_)
      refine JC_region ?_
      refine JL_go (u := .fn number_f number_c) (A_move rfl rfl) ?_ rfl rfl rfl
      refine JL_go (u := LS 4 bound_Count.av y22) (A_move rfl rfl) ?_ rfl rfl rfl
      obtain ⟨r28, hr28, h⟩ := bnd_out h
      refine JL_go (u := I64 r28) (A_callV1 (args := [LS 4 bound_Count.av y22]) (caps := number_c) rfl rfl (number_w y22 _ hr28) number_B ⟨rfl, rfl, trivial⟩ number_d) ?_ rfl rfl rfl
      refine JL_go (u := I64 r28) (A_assign rfl rfl) ?_ rfl rfl rfl
      refine JL_nil ?_
      refine hK27 _ _ ?_
      refine JC_seq (fun K29 hK29 => ?_)
      refine JC_region ?_
      refine JL_go (u := I64 r28) (A_move rfl rfl) ?_ rfl rfl rfl
      refine JL_go (u := I64 s22.2) (A_move rfl rfl) ?_ rfl rfl rfl
      refine JL_go (u := BL (decide (s22.2 < r28))) (A_gtr rfl rfl rfl) ?_ rfl rfl rfl
      refine JL_nil ?_
      refine hK29 _ _ ?_
      refine JC_cond rfl (fun hb => ?_) (fun hb => ?_)
      ·
        replace h := bif_t hb h
        refine JC_region ?_
        refine JL_go (u := LS 4 bound_Count.av y22) (A_move rfl rfl) ?_ rfl rfl rfl
        refine JL_go (u := I64 r28) (A_move rfl rfl) ?_ rfl rfl rfl
        refine JL_go (u := LS 4 bound_Count.av y22) (A_assign rfl rfl) ?_ rfl rfl rfl
        refine JL_go (u := I64 r28) (A_assign rfl rfl) ?_ rfl rfl rfl
        refine JL_nil ?_
        exact ej25 _ _ (y22, r28) h ⟨⟨.same (refsL_any _ _ number_d), .same rfl, .same rfl, .same rfl, .same rfl, .same rfl, trivial⟩, trivial, rfl⟩
      ·
        replace h := bif_f hb h
        refine JC_skip ?_
        exact ej25 _ _ (s22.1, s22.2) h ⟨⟨.same (refsL_any _ _ number_d), .same rfl, .same rfl, .same rfl, .same rfl, .same rfl, trivial⟩, trivial, rfl⟩
    · intro j25 h
      replace h := app1 hkj25 h
      refine JC_region ?_
      refine JL_go (u := I64 ((i22 + 1 : Nat) : Int)) (A_add (idx_succ hk22 hm12) rfl rfl rfl) ?_ rfl rfl rfl
      refine JL_go (u := I64 ((i22 + 1 : Nat) : Int)) (A_move rfl rfl) ?_ rfl rfl rfl
      refine JL_nil ?_
      exact e22 _ _ (i22 + 1) (j25.1, j25.2) (app1 hn22 h) (by omega) ⟨⟨.same (refsL_any _ _ number_d), .same rfl, .same rfl, .same rfl, .same rfl, .same rfl, trivial⟩, trivial, rfl⟩
  ·
    have h := app1 hkx22 (each_nil hi22 (not_lt_len hb))
    refine JC_exit ?_
    refine hK4 _ _ ?_
    refine JC_seq (fun K30 hK30 => ?_)
    refine JC_region ?_
    refine JL_go (u := LS 4 bound_Count.av s22.1) (A_move rfl rfl) ?_ rfl rfl rfl
    refine JL_go (u := I64 s22.2) (A_move rfl rfl) ?_ rfl rfl rfl
    refine JL_go (u := LS 4 bound_Count.av s22.1) (A_assign rfl rfl) ?_ rfl rfl rfl
    refine JL_go (u := I64 s22.2) (A_assign rfl rfl) ?_ rfl rfl rfl
    refine JL_nil ?_
    refine hK30 _ _ ?_
    refine JC_ret ?_
    exact ⟨[LS 4 bound_Count.av s22.1, I64 s22.2], [], trivial, rfl, ⟨⟨_, rfl, .conv (.same rfl)⟩, ⟨_, rfl, .conv (.same rfl)⟩, trivial⟩, rfl, congrArg (fun r : (List bound_Count) × Int => (.tup [LS 4 bound_Count.av r.1, I64 r.2] : AV)) (Option.some.inj h)⟩

def M_slices_Index_apiGroup (s : List Group) (v : Group) : Option Int :=
  each (fun y18 i18 (s18 : Unit) nx18 =>
    bif decide (v = y18) then
    (some (i18 : Int))
    else
    (nx18 ()))
  (fun (s18 : Unit) =>
    some (-1)) s 0 ()
theorem M_slices_Index_apiGroup_w (s : List Group) (v : Group) (r : Int) (h : M_slices_Index_apiGroup s v = some r) : Pure Try.prog 47 [LS 2 Group.av s, .agg [I64 v.Load, I64 v.Discharge]] (· = I64 r) := by
  unfold M_slices_Index_apiGroup at h
  refine Pure_ofG [.tmp 4] Try.func47 rfl rfl ?_
  refine JC_seq (fun K1 hK1 => ?_)
  refine JC_region ?_
  refine JL_go (u := .ptr 480000003 0) (A_box (u := .agg [I64 v.Load, I64 v.Discharge]) (cs := [I64 v.Load, I64 v.Discharge]) 480000003 rfl rfl rfl rfl rfl) ?_ rfl rfl rfl
  refine JL_go (u := I64 0) (A_assign rfl rfl) ?_ rfl rfl rfl
  refine JL_nil ?_
  refine hK1 _ _ ?_
  refine JC_freeze [(0, LS 2 Group.av s), (3, .dptr [I64 v.Load, I64 v.Discharge])] [] 480000003 rfl rfl rfl trivial rfl (by exact ⟨.conv (.same rfl), .ptr, trivial⟩) ?_
  refine JC_seq (fun K2 hK2 => ?_)
  refine JC_seq (fun K3 hK3 => ?_)
  refine JC_region ?_
  refine JL_go (u := LS 2 Group.av s) (A_move rfl rfl) ?_ rfl rfl rfl
  refine JL_lenM (f := Group.av) (xs := s) tf_slice_56 rfl rfl (fun hm7 => ?_) rfl rfl rfl
  refine JL_go (u := I64 0) (A_move rfl rfl) ?_ rfl rfl rfl
  refine JL_nil ?_
  refine hK3 _ _ ?_
  refine JC_block ?_
  obtain ⟨b18, kx18, hb18, hkx18, h⟩ := each_in h
  refine JC_loop2 (fun i18 (s18 : Unit) => each b18 kx18 (List.drop i18 s) i18 s18 = some r) (fun i18 s18 => [(0, LS 2 Group.av s), (3, .dptr [I64 v.Load, I64 v.Discharge]), (7, I64 (s.length : Int)), (8, I64 (i18 : Int))]) (fun i18 s18 => []) (fun i18 => s.length - i18) 0 () h ⟨⟨.same rfl, .same rfl, .same rfl, .same rfl, trivial⟩, trivial, rfl⟩ ?_
  clear h
  intro i18 s18 hi18 K18 e18
  refine JC_seq (fun K19 hK19 => ?_)
  refine JC_region ?_
  refine JL_go (u := BL (decide ((i18 : Int) < (s.length : Int)))) (A_lss rfl rfl rfl) ?_ rfl rfl rfl
  refine JL_nil ?_
  refine hK19 _ _ ?_
  refine JC_seq (fun K20 hK20 => ?_)
  refine JC_cond rfl (fun hb => ?_) (fun hb => ?_)
  ·
    have hk18 := lt_len hb
    obtain ⟨y18, nx18, hy18, hn18, h⟩ := each_out hi18 hk18
    replace h := app4 hb18 h
    refine JC_skip ?_
    refine hK20 _ _ ?_
    refine JC_seq (fun K21 hK21 => ?_)
    refine JC_block ?_
    refine JC_seq (fun K22 hK22 => ?_)
    refine JC_region ?_
    refine JL_go (u := I64 (i18 : Int)) (A_move rfl rfl) ?_ rfl rfl rfl
    refine JL_go (u := I64 (i18 : Int)) (A_assign rfl rfl) ?_ rfl rfl rfl
    refine JL_nil ?_
    refine hK22 _ _ ?_
    refine JC_seq (fun K23 hK23 => ?_)
    refine JC_draw [] [0, 0, 0, 0, 0, 0] [0, 0, 0, 0, 0, 0] [[]] tf_mixed (by kernel_rfl) rfl rfl ?_
    refine D_ro (u := .agg [I64 v.Load, I64 v.Discharge]) rfl rfl ⟨O_go (A_loadAgg tf_agg_24 rfl rfl rfl) rfl, trivial⟩ ?_ rfl
    refine D_ro (u := LS 2 Group.av s) rfl rfl ⟨O_go (A_move rfl rfl) rfl, trivial⟩ ?_ rfl
    refine D_ro (u := I64 (i18 : Int)) rfl rfl ⟨O_go (A_move rfl rfl) rfl, trivial⟩ ?_ rfl
    refine D_ro (u := .dptr [I64 y18.Load, I64 y18.Discharge]) rfl rfl ⟨O_go (A_indexM (f := Group.av) (xs := s) (y := y18) rfl rfl rfl tf_slice_56 hy18 rfl) rfl, trivial⟩ ?_ rfl
    refine D_ro (u := .agg [I64 y18.Load, I64 y18.Discharge]) rfl rfl ⟨O_go (A_loadAgg tf_agg_24 rfl rfl rfl) rfl, trivial⟩ ?_ rfl
    refine D_ro (u := BL (decide (v = y18))) rfl rfl ⟨O_go (A_eqAgg (vs := [.int .i64 v.Load, .int .i64 v.Discharge]) (us := [.int .i64 y18.Load, .int .i64 y18.Discharge]) 4 rfl (tq_24 v y18) tf_aggof_24 tf_eqg_24 rfl rfl rfl) rfl, trivial⟩ ?_ rfl
    refine D_nil ?_
    refine hK23 _ _ ?_
    refine JC_cond rfl (fun hb => ?_) (fun hb => ?_)
    ·
      replace h := bif_t hb h
      refine JC_seq (fun K24 hK24 => ?_)
      refine JC_region ?_
      refine JL_go (u := I64 (i18 : Int)) (A_move rfl rfl) ?_ rfl rfl rfl
      refine JL_go (u := I64 (i18 : Int)) (A_assign rfl rfl) ?_ rfl rfl rfl
      refine JL_nil ?_
      refine hK24 _ _ ?_
      refine JC_ret ?_
      exact ⟨[I64 (i18 : Int)], [], trivial, rfl, ⟨⟨_, rfl, .conv (.same rfl)⟩, trivial⟩, rfl, congrArg (fun r : Int => (I64 r : AV)) (Option.some.inj h)⟩
    ·
      replace h := bif_f hb h
      refine JC_skip ?_
      refine hK21 _ _ ?_
      refine JC_region ?_
      refine JL_go (u := I64 ((i18 + 1 : Nat) : Int)) (A_add (idx_succ hk18 hm7) rfl rfl rfl) ?_ rfl rfl rfl
      refine JL_go (u := I64 ((i18 + 1 : Nat) : Int)) (A_move rfl rfl) ?_ rfl rfl rfl
      refine JL_nil ?_
      exact e18 _ _ (i18 + 1) () (app1 hn18 h) (by omega) ⟨⟨.same rfl, .same rfl, .same rfl, .same rfl, trivial⟩, trivial, rfl⟩
  ·
    have h := app1 hkx18 (each_nil hi18 (not_lt_len hb))
    refine JC_exit ?_
    refine hK2 _ _ ?_
    refine JC_seq (fun K25 hK25 => ?_)
    refine JC_region ?_
    refine JL_go (u := I64 (-1)) (A_assign rfl rfl) ?_ rfl rfl rfl
    refine JL_nil ?_
    refine hK25 _ _ ?_
    refine JC_ret ?_
    exact ⟨[I64 (-1)], [], trivial, rfl, ⟨⟨_, rfl, .conv (.same rfl)⟩, trivial⟩, rfl, congrArg (fun r : Int => (I64 r : AV)) (Option.some.inj h)⟩

def M_slices_Contains_apiGroup (s : List Group) (v : Group) : Option Bool :=
  bnd (M_slices_Index_apiGroup s v) fun r3 =>
  some (decide (0 ≤ r3))
theorem M_slices_Contains_apiGroup_w (s : List Group) (v : Group) (r : Bool) (h : M_slices_Contains_apiGroup s v = some r) : Pure Try.prog 30 [LS 2 Group.av s, .agg [I64 v.Load, I64 v.Discharge]] (· = BL r) := by
  unfold M_slices_Contains_apiGroup at h
  refine Pure_ofG [.tmp 4] Try.func30 rfl rfl ?_
  refine JC_seq (fun K1 hK1 => ?_)
  refine JC_region ?_
  refine JL_go (u := .ptr 310000003 0) (A_box (u := .agg [I64 v.Load, I64 v.Discharge]) (cs := [I64 v.Load, I64 v.Discharge]) 310000003 rfl rfl rfl rfl rfl) ?_ rfl rfl rfl
  refine JL_go (u := BL false) (A_assign rfl rfl) ?_ rfl rfl rfl
  refine JL_nil ?_
  refine hK1 _ _ ?_
  refine JC_freeze [(0, LS 2 Group.av s), (3, .dptr [I64 v.Load, I64 v.Discharge])] [] 310000003 rfl rfl rfl trivial rfl (by exact ⟨.conv (.same rfl), .ptr, trivial⟩) ?_
  refine JC_seq (fun K2 hK2 => ?_)
  refine JC_region ?_
  refine JL_go (u := LS 2 Group.av s) (A_move rfl rfl) ?_ rfl rfl rfl
  refine JL_go (u := .agg [I64 v.Load, I64 v.Discharge]) (A_loadAgg tf_agg_24 rfl rfl rfl) ?_ rfl rfl rfl
  obtain ⟨r3, hr3, h⟩ := bnd_out h
  refine JL_go (u := I64 r3) (A_call1 (args := [LS 2 Group.av s, .agg [I64 v.Load, I64 v.Discharge]]) rfl (M_slices_Index_apiGroup_w s v r3 hr3) tf_call_47 ⟨rfl, rfl, rfl, rfl, trivial⟩) ?_ rfl rfl rfl
  refine JL_go (u := BL (decide (0 ≤ r3))) (A_geq rfl rfl rfl) ?_ rfl rfl rfl
  refine JL_go (u := BL (decide (0 ≤ r3))) (A_assign rfl rfl) ?_ rfl rfl rfl
  refine JL_nil ?_
  refine hK2 _ _ ?_
  refine JC_ret ?_
  exact ⟨[BL (decide (0 ≤ r3))], [], trivial, rfl, ⟨⟨_, rfl, .conv (.same rfl)⟩, trivial⟩, rfl, congrArg (fun r : Bool => (BL r : AV)) (Option.some.inj h)⟩

def M_bound_Find_2 (c : bound_Count) (p1 : List Group) : Option Bool :=
  bnd (M_slices_Contains_apiGroup p1 c.Group) fun r3 =>
  some r3
theorem M_bound_Find_2_w (c : bound_Count) (p1 : List Group) (r : Bool) (h : M_bound_Find_2 c p1 = some r) : Pure Try.prog 29 [.agg (bound_Count.cs c), .dptr [LS 2 Group.av p1]] (· = BL r) := by
  unfold M_bound_Find_2 at h
  refine Pure_ofG [.tmp 3] Try.func29 rfl rfl ?_
  refine JC_seq (fun K1 hK1 => ?_)
  refine JC_region ?_
  refine JL_go (u := .ptr 300000002 0) (A_box (u := .agg (bound_Count.cs c)) (cs := [I64 c.Group.Load, I64 c.Group.Discharge, I64 c.Whole, I64 c.Half]) 300000002 rfl rfl rfl rfl rfl) ?_ rfl rfl rfl
  refine JL_go (u := BL false) (A_assign rfl rfl) ?_ rfl rfl rfl
  refine JL_nil ?_
  refine hK1 _ _ ?_
  refine JC_freeze [(1, .dptr [LS 2 Group.av p1]), (2, .dptr (bound_Count.cs c))] [] 300000002 rfl rfl rfl trivial rfl (by exact ⟨.conv (.same rfl), .ptr, trivial⟩) ?_
  refine JC_seq (fun K2 hK2 => ?_)
  refine JC_region ?_
  refine JL_go (u := LS 2 Group.av p1) (A_load tf_scalar_56 rfl rfl rfl) ?_ rfl rfl rfl
  refine JL_go (u := .dptr (bound_Count.cs c)) (A_fieldM tf_field_29_0 rfl rfl rfl) ?_ rfl rfl rfl
  refine JL_go (u := .agg [I64 c.Group.Load, I64 c.Group.Discharge]) (A_loadAgg tf_agg_24 rfl rfl rfl) ?_ rfl rfl rfl
  obtain ⟨r3, hr3, h⟩ := bnd_out h
  refine JL_go (u := BL r3) (A_call1 (args := [LS 2 Group.av p1, .agg [I64 c.Group.Load, I64 c.Group.Discharge]]) rfl (M_slices_Contains_apiGroup_w p1 c.Group r3 hr3) tf_call_30 ⟨rfl, rfl, rfl, rfl, trivial⟩) ?_ rfl rfl rfl
  refine JL_go (u := BL r3) (A_assign rfl rfl) ?_ rfl rfl rfl
  refine JL_nil ?_
  refine hK2 _ _ ?_
  refine JC_ret ?_
  exact ⟨[BL r3], [], trivial, rfl, ⟨⟨_, rfl, .conv (.same rfl)⟩, trivial⟩, rfl, congrArg (fun r : Bool => (BL r : AV)) (Option.some.inj h)⟩

def M_bound_up (n : Int) (d : Int) : Option Int :=
  chk (n + d) fun v3 =>
  chk (v3 - 1) fun v4 =>
  bnd (quo64 v4 d) fun v5 =>
  some v5
theorem M_bound_up_w (n : Int) (d : Int) (r : Int) (h : M_bound_up n d = some r) : Pure Try.prog 21 [I64 n, I64 d] (· = I64 r) := by
  unfold M_bound_up at h
  refine Pure_ofG [.tmp 4] Try.func21 rfl rfl ?_
  refine JC_seq (fun K1 hK1 => ?_)
  refine JC_region ?_
  refine JL_go (u := I64 0) (A_assign rfl rfl) ?_ rfl rfl rfl
  refine JL_nil ?_
  refine hK1 _ _ ?_
  refine JC_seq (fun K2 hK2 => ?_)
  refine JC_region ?_
  refine JL_go (u := I64 n) (A_move rfl rfl) ?_ rfl rfl rfl
  refine JL_go (u := I64 d) (A_move rfl rfl) ?_ rfl rfl rfl
  obtain ⟨v3, hv3, h⟩ := chk_out h
  refine JL_go (u := I64 v3) (A_add hv3 rfl rfl rfl) ?_ rfl rfl rfl
  obtain ⟨v4, hv4, h⟩ := chk_out h
  refine JL_go (u := I64 v4) (A_sub hv4 rfl rfl rfl) ?_ rfl rfl rfl
  refine JL_go (u := I64 d) (A_move rfl rfl) ?_ rfl rfl rfl
  obtain ⟨v5, hv5, h⟩ := bnd_out h
  refine JL_go (u := I64 v5) (A_quo (quo64_out hv5).1 (quo64_out hv5).2 rfl rfl rfl) ?_ rfl rfl rfl
  refine JL_go (u := I64 v5) (A_assign rfl rfl) ?_ rfl rfl rfl
  refine JL_nil ?_
  refine hK2 _ _ ?_
  refine JC_ret ?_
  exact ⟨[I64 v5], [], trivial, rfl, ⟨⟨_, rfl, .conv (.same rfl)⟩, trivial⟩, rfl, congrArg (fun r : Int => (I64 r : AV)) (Option.some.inj h)⟩

def M_twistlockkit_SameGroups (a : List Group) (b : List Group) : Option Bool :=
  bif decide ((a.length : Int) ≠ (b.length : Int)) then
  (some false)
  else
  (each (fun y24 i24 (s24 : Unit) nx24 =>
      gidx b (i24 : Int) fun y29 =>
      bif (!decide (y24 = y29)) then
      (some false)
      else
      (nx24 ()))
    (fun (s24 : Unit) =>
      some true) a 0 ())
theorem M_twistlockkit_SameGroups_w (a : List Group) (b : List Group) (r : Bool) (h : M_twistlockkit_SameGroups a b = some r) : Pure Try.prog 14 [LS 2 Group.av a, LS 2 Group.av b] (· = BL r) := by
  unfold M_twistlockkit_SameGroups at h
  refine Pure_ofG [.tmp 4] Try.func14 rfl rfl ?_
  refine JC_seq (fun K1 hK1 => ?_)
  refine JC_region ?_
  refine JL_go (u := BL false) (A_assign rfl rfl) ?_ rfl rfl rfl
  refine JL_nil ?_
  refine hK1 _ _ ?_
  refine JC_seq (fun K2 hK2 => ?_)
  refine JC_seq (fun K3 hK3 => ?_)
  refine JC_region ?_
  refine JL_go (u := LS 2 Group.av a) (A_move rfl rfl) ?_ rfl rfl rfl
  refine JL_lenM (f := Group.av) (xs := a) tf_slice_56 rfl rfl (fun hm7 => ?_) rfl rfl rfl
  refine JL_go (u := LS 2 Group.av b) (A_move rfl rfl) ?_ rfl rfl rfl
  refine JL_lenM (f := Group.av) (xs := b) tf_slice_56 rfl rfl (fun hm9 => ?_) rfl rfl rfl
  refine JL_go (u := BL (decide ((a.length : Int) ≠ (b.length : Int)))) (A_neq rfl rfl rfl) ?_ rfl rfl rfl
  refine JL_nil ?_
  refine hK3 _ _ ?_
  refine JC_cond rfl (fun hb => ?_) (fun hb => ?_)
  ·
    replace h := bif_t hb h
    refine JC_seq (fun K4 hK4 => ?_)
    refine JC_region ?_
    refine JL_go (u := BL false) (A_assign rfl rfl) ?_ rfl rfl rfl
    refine JL_nil ?_
    refine hK4 _ _ ?_
    refine JC_ret ?_
    exact ⟨[BL false], [], trivial, rfl, ⟨⟨_, rfl, .conv (.same rfl)⟩, trivial⟩, rfl, congrArg (fun r : Bool => (BL r : AV)) (Option.some.inj h)⟩
  ·
    replace h := bif_f hb h
    refine JC_skip ?_
    refine hK2 _ _ ?_
    refine JC_seq (fun K5 hK5 => ?_)
    refine JC_seq (fun K6 hK6 => ?_)
    refine JC_region ?_
    refine JL_go (u := I64 0) (A_assign rfl rfl) ?_ rfl rfl rfl
    refine JL_nil ?_
    refine hK6 _ _ ?_
    refine JC_block ?_
    obtain ⟨b24, kx24, hb24, hkx24, h⟩ := each_in h
    refine JC_loop2 (fun i24 (s24 : Unit) => each b24 kx24 (List.drop i24 a) i24 s24 = some r) (fun i24 s24 => [(0, LS 2 Group.av a), (1, LS 2 Group.av b), (5, I64 (i24 : Int))]) (fun i24 s24 => []) (fun i24 => a.length - i24) 0 () h ⟨⟨.same rfl, .same rfl, .same rfl, trivial⟩, trivial, rfl⟩ ?_
    clear h
    intro i24 s24 hi24 K24 e24
    refine JC_seq (fun K25 hK25 => ?_)
    refine JC_seq (fun K26 hK26 => ?_)
    refine JC_region ?_
    refine JL_go (u := I64 (i24 : Int)) (A_move rfl rfl) ?_ rfl rfl rfl
    refine JL_go (u := LS 2 Group.av a) (A_move rfl rfl) ?_ rfl rfl rfl
    refine JL_lenM (f := Group.av) (xs := a) tf_slice_56 rfl rfl (fun hm13 => ?_) rfl rfl rfl
    refine JL_go (u := BL (decide ((i24 : Int) < (a.length : Int)))) (A_lss rfl rfl rfl) ?_ rfl rfl rfl
    refine JL_nil ?_
    refine hK26 _ _ ?_
    refine JC_cond rfl (fun hb => ?_) (fun hb => ?_)
    ·
      have hk24 := lt_len hb
      obtain ⟨y24, nx24, hy24, hn24, h⟩ := each_out hi24 hk24
      replace h := app4 hb24 h
      refine JC_skip ?_
      refine hK25 _ _ ?_
      refine JC_seq (fun K27 hK27 => ?_)
      refine JC_block ?_
      refine JC_seq (fun K28 hK28 => ?_)
      obtain ⟨m30, y29, hm30, hy29, h⟩ := gidx_out h
      refine JC_draw [] [0, 0, 0, 0, 0, 0, 0, 0, 0] [0, 0, 0, 0, 0, 0, 0, 0, 0] [[]] tf_mixed (by kernel_rfl) rfl rfl ?_
      refine D_ro (u := LS 2 Group.av a) rfl rfl ⟨O_go (A_move rfl rfl) rfl, trivial⟩ ?_ rfl
      refine D_ro (u := I64 (i24 : Int)) rfl rfl ⟨O_go (A_move rfl rfl) rfl, trivial⟩ ?_ rfl
      refine D_ro (u := .dptr [I64 y24.Load, I64 y24.Discharge]) rfl rfl ⟨O_go (A_indexM (f := Group.av) (xs := a) (y := y24) rfl rfl rfl tf_slice_56 hy24 rfl) rfl, trivial⟩ ?_ rfl
      refine D_ro (u := .agg [I64 y24.Load, I64 y24.Discharge]) rfl rfl ⟨O_go (A_loadAgg tf_agg_24 rfl rfl rfl) rfl, trivial⟩ ?_ rfl
      refine D_ro (u := LS 2 Group.av b) rfl rfl ⟨O_go (A_move rfl rfl) rfl, trivial⟩ ?_ rfl
      refine D_ro (u := I64 (i24 : Int)) rfl rfl ⟨O_go (A_move rfl rfl) rfl, trivial⟩ ?_ rfl
      refine D_ro (u := .dptr [I64 y29.Load, I64 y29.Discharge]) rfl rfl ⟨O_go (A_indexM (f := Group.av) (xs := b) (y := y29) rfl rfl rfl tf_slice_56 hy29 hm30) rfl, trivial⟩ ?_ rfl
      refine D_ro (u := .agg [I64 y29.Load, I64 y29.Discharge]) rfl rfl ⟨O_go (A_loadAgg tf_agg_24 rfl rfl rfl) rfl, trivial⟩ ?_ rfl
      refine D_ro (u := BL (!decide (y24 = y29))) rfl rfl ⟨O_go (A_neAgg (vs := [.int .i64 y24.Load, .int .i64 y24.Discharge]) (us := [.int .i64 y29.Load, .int .i64 y29.Discharge]) 4 rfl (tq_24 y24 y29) tf_aggof_24 tf_eqg_24 rfl rfl rfl) rfl, trivial⟩ ?_ rfl
      refine D_nil ?_
      refine hK28 _ _ ?_
      refine JC_cond rfl (fun hb => ?_) (fun hb => ?_)
      ·
        replace h := bif_t hb h
        refine JC_seq (fun K31 hK31 => ?_)
        refine JC_region ?_
        refine JL_go (u := BL false) (A_assign rfl rfl) ?_ rfl rfl rfl
        refine JL_nil ?_
        refine hK31 _ _ ?_
        refine JC_ret ?_
        exact ⟨[BL false], [], trivial, rfl, ⟨⟨_, rfl, .conv (.same rfl)⟩, trivial⟩, rfl, congrArg (fun r : Bool => (BL r : AV)) (Option.some.inj h)⟩
      ·
        replace h := bif_f hb h
        refine JC_skip ?_
        refine hK27 _ _ ?_
        refine JC_region ?_
        refine JL_go (u := I64 (i24 : Int)) (A_move rfl rfl) ?_ rfl rfl rfl
        refine JL_go (u := I64 ((i24 + 1 : Nat) : Int)) (A_add (idx_succ hk24 hm13) rfl rfl rfl) ?_ rfl rfl rfl
        refine JL_go (u := I64 ((i24 + 1 : Nat) : Int)) (A_assign rfl rfl) ?_ rfl rfl rfl
        refine JL_nil ?_
        exact e24 _ _ (i24 + 1) () (app1 hn24 h) (by omega) ⟨⟨.same rfl, .same rfl, .same rfl, trivial⟩, trivial, rfl⟩
    ·
      have h := app1 hkx24 (each_nil hi24 (not_lt_len hb))
      refine JC_exit ?_
      refine hK5 _ _ ?_
      refine JC_seq (fun K32 hK32 => ?_)
      refine JC_region ?_
      refine JL_go (u := BL true) (A_assign rfl rfl) ?_ rfl rfl rfl
      refine JL_nil ?_
      refine hK32 _ _ ?_
      refine JC_ret ?_
      exact ⟨[BL true], [], trivial, rfl, ⟨⟨_, rfl, .conv (.same rfl)⟩, trivial⟩, rfl, congrArg (fun r : Bool => (BL r : AV)) (Option.some.inj h)⟩


theorem M_bound_Groups_pn (boxes : List Box) (Rp : (List bound_Count) → Prop) (p : Prop) (h : M_bound_Groups boxes Rp = some p) (hp : p) : ACalls Try.prog 6 [LS 9 Box.av boxes] [] (fun av L' => ∃ p : Nat, ∃ r, Rp r ∧ av = .vec 70000008 p 4 r.length ∧ L' = [(70000008, .vec 29 4 p (r.map bound_Count.av))]) := by
  unfold M_bound_Groups at h
  refine ACalls_ofG [] [.tmp 2] Try.func6 rfl rfl (inAll rfl) ?_
  refine JC_seq (fun K1 hK1 => ?_)
  refine JC_region ?_
  refine JL_go (u := .vec 70000002 (([] : List bound_Count).length) 4 (([] : List bound_Count).length)) (A_vnil 70000002 29 4 rfl rfl rfl) ?_ rfl rfl rfl
  refine JL_nil ?_
  refine hK1 _ _ ?_
  refine JC_seq (fun K2 hK2 => ?_)
  refine JC_region ?_
  refine JL_go (u := .mp 70000011) (A_makeMapM 70000011 Group.kv bound_Count.av rfl rfl) ?_ rfl rfl rfl
  refine JL_go (u := .mp 70000011) (A_assign rfl rfl) ?_ rfl rfl rfl
  refine JL_nil ?_
  refine hK2 _ _ ?_
  refine JC_seq (fun K3 hK3 => ?_)
  refine JC_seq (fun K4 hK4 => ?_)
  refine JC_region ?_
  refine JL_go (u := LS 9 Box.av boxes) (A_move rfl rfl) ?_ rfl rfl rfl
  refine JL_lenM (f := Box.av) (xs := boxes) tf_slice_22 rfl rfl (fun hm13 => ?_) rfl rfl rfl
  refine JL_go (u := I64 0) (A_move rfl rfl) ?_ rfl rfl rfl
  refine JL_nil ?_
  refine hK4 _ _ ?_
  refine JC_block ?_
  obtain ⟨b85, kx85, hb85, hkx85, h⟩ := each_in h
  refine JC_loop2 (fun i85 (s85 : (AMap Group bound_Count)) => each b85 kx85 (List.drop i85 boxes) i85 s85 = some p) (fun i85 s85 => [(3, .mp 70000011), (12, LS 9 Box.av boxes), (13, I64 (boxes.length : Int)), (14, I64 (i85 : Int))]) (fun i85 s85 => [(70000002, .vec 29 4 (([] : List bound_Count).length) (([] : List bound_Count).map bound_Count.av)), (70000011, MP 64 Group.kv bound_Count.av s85)]) (fun i85 => boxes.length - i85) 0 (AMap.empty : AMap Group bound_Count) h ⟨⟨.same rfl, .same rfl, .same rfl, .same rfl, trivial⟩, ⟨⟨_, rfl, .vec⟩, ⟨_, rfl, .map⟩, trivial⟩, rfl⟩ ?_
  clear h
  intro i85 s85 hi85 K85 e85
  refine JC_seq (fun K86 hK86 => ?_)
  refine JC_region ?_
  refine JL_go (u := BL (decide ((i85 : Int) < (boxes.length : Int)))) (A_lss rfl rfl rfl) ?_ rfl rfl rfl
  refine JL_nil ?_
  refine hK86 _ _ ?_
  refine JC_seq (fun K87 hK87 => ?_)
  refine JC_cond rfl (fun hb => ?_) (fun hb => ?_)
  ·
    have hk85 := lt_len hb
    obtain ⟨y85, nx85, hy85, hn85, h⟩ := each_out hi85 hk85
    replace h := app4 hb85 h
    refine JC_skip ?_
    refine hK87 _ _ ?_
    obtain ⟨kj88, hkj88, h⟩ := jp_out h
    refine JC_seqJ (fun j88 : (AMap Group bound_Count) × Int × Int => kj88 j88 = some p) (fun j88 => [(3, .mp 70000011), (12, LS 9 Box.av boxes), (13, I64 (boxes.length : Int)), (14, I64 (i85 : Int))]) (fun j88 => [(70000002, .vec 29 4 (([] : List bound_Count).length) (([] : List bound_Count).map bound_Count.av)), (70000011, MP 64 Group.kv bound_Count.av j88.1), (70000007, .box 29 [I64 y85.Load, I64 y85.Discharge, I64 j88.2.1, I64 j88.2.2])]) (fun Kj88 ej88 => ?_) ?_
    ·
      refine JC_block ?_
      refine JC_seq (fun K89 hK89 => ?_)
      refine JC_region ?_
      refine JL_go (u := .dptr (Box.cs y85)) (A_indexM (f := Box.av) (xs := boxes) (y := y85) rfl rfl rfl tf_slice_22 hy85 rfl) ?_ rfl rfl rfl
      refine JL_go (u := .agg (Box.cs y85)) (A_loadAgg tf_agg_31 rfl rfl rfl) ?_ rfl rfl rfl
      refine JL_go (u := .ptr 70000005 0) (A_allocJ 70000005 9 tf_zsize_31 rfl rfl) ?_ rfl rfl rfl
      refine JL_go0 (u := .junk) (A_store (u := .agg (Box.cs y85)) (ds := [I64 y85.ID, ST y85.Number, U8 y85.Size, BL y85.High, I64 y85.Kilos, I64 y85.Load, I64 y85.Discharge, U8 y85.Class, BL y85.Reefer]) tf_size_31 rfl rfl rfl rfl rfl rfl rfl rfl) ?_ rfl rfl
      refine JL_nil ?_
      refine hK89 _ _ ?_
      refine JC_freeze [(3, .mp 70000011), (5, .dptr (Box.cs y85)), (12, LS 9 Box.av boxes), (13, I64 (boxes.length : Int)), (14, I64 (i85 : Int))] [(70000002, .vec 29 4 (([] : List bound_Count).length) (([] : List bound_Count).map bound_Count.av)), (70000011, MP 64 Group.kv bound_Count.av s85)] 70000005 rfl rfl rfl ⟨⟨_, rfl, .vec⟩, ⟨_, rfl, .map⟩, trivial⟩ rfl (by exact ⟨.conv (.same rfl), .ptr, .conv (.same rfl), .conv (.same rfl), .conv (.same rfl), trivial⟩) ?_
      refine JC_seq (fun K90 hK90 => ?_)
      refine JC_region ?_
      refine JL_go (u := .dptr ((Box.cs y85).drop 5)) (A_fieldM tf_field_31_5 rfl rfl rfl) ?_ rfl rfl rfl
      refine JL_go (u := I64 y85.Load) (A_load tf_scalar_3 rfl rfl rfl) ?_ rfl rfl rfl
      refine JL_go (u := .dptr ((Box.cs y85).drop 6)) (A_fieldM tf_field_31_6 rfl rfl rfl) ?_ rfl rfl rfl
      refine JL_go (u := I64 y85.Discharge) (A_load tf_scalar_3 rfl rfl rfl) ?_ rfl rfl rfl
      refine JL_go (u := .agg [I64 y85.Load, I64 y85.Discharge]) (A_buildZ (cs := [I64 y85.Load, I64 y85.Discharge]) [(0, 1), (1, 1)] [I64 0, I64 0] [.int .i64 0, .int .i64 0] tf_places_24 tf_zero_24 ⟨.inl rfl, .inl rfl, trivial⟩ rfl rfl) ?_ rfl rfl rfl
      refine JL_go (u := .ptr 70000006 0) (A_allocJ 70000006 2 tf_zsize_24 rfl rfl) ?_ rfl rfl rfl
      refine JL_go0 (u := .junk) (A_store (u := .agg [I64 y85.Load, I64 y85.Discharge]) (ds := [I64 y85.Load, I64 y85.Discharge]) tf_size_24 rfl rfl rfl rfl rfl rfl rfl rfl) ?_ rfl rfl
      refine JL_nil ?_
      refine hK90 _ _ ?_
      refine JC_freeze [(3, .mp 70000011), (5, .dptr (Box.cs y85)), (6, .dptr [I64 y85.Load, I64 y85.Discharge]), (12, LS 9 Box.av boxes), (13, I64 (boxes.length : Int)), (14, I64 (i85 : Int))] [(70000002, .vec 29 4 (([] : List bound_Count).length) (([] : List bound_Count).map bound_Count.av)), (70000011, MP 64 Group.kv bound_Count.av s85)] 70000006 rfl rfl rfl ⟨⟨_, rfl, .vec⟩, ⟨_, rfl, .map⟩, trivial⟩ rfl (by exact ⟨.conv (.same rfl), .conv (.same rfl), .ptr, .conv (.same rfl), .conv (.same rfl), .conv (.same rfl), trivial⟩) ?_
      refine JC_seq (fun K91 hK91 => ?_)
      refine JC_region ?_
      refine JL_go (u := .mp 70000011) (A_move rfl rfl) ?_ rfl rfl rfl
      refine JL_go (u := .agg [I64 y85.Load, I64 y85.Discharge]) (A_loadAgg tf_agg_24 rfl rfl rfl) ?_ rfl rfl rfl
      obtain ⟨v92, hv92, h⟩ := bnd_out h
      refine JL_go (u := .agg (bound_Count.cs v92)) (((Option.some.inj hv92) ▸ A_lookupM0 (av := bound_Count.av) (m := s85) (a := (Group.mk y85.Load y85.Discharge)) (bound_Count.mk (Group.mk 0 0) 0 0) (.agg #[.int .i64 0, .int .i64 0, .int .i64 0, .int .i64 0]) rfl rfl rfl rfl tk_24 tf_map_64 tf_zv_29 rfl)) ?_ rfl rfl rfl
      refine JL_go (u := .ptr 70000007 0) (A_allocJ 70000007 4 tf_zsize_29 rfl rfl) ?_ rfl rfl rfl
      refine JL_go0 (u := .junk) (A_store (u := .agg (bound_Count.cs v92)) (ds := [I64 v92.Group.Load, I64 v92.Group.Discharge, I64 v92.Whole, I64 v92.Half]) tf_size_29 rfl rfl rfl rfl rfl rfl rfl rfl) ?_ rfl rfl
      refine JL_nil ?_
      refine hK91 _ _ ?_
      refine JC_seq (fun K93 hK93 => ?_)
      refine JC_region ?_
      refine JL_go (u := .agg [I64 y85.Load, I64 y85.Discharge]) (A_loadAgg tf_agg_24 rfl rfl rfl) ?_ rfl rfl rfl
      refine JL_go (u := .ptr 70000007 0) (A_fieldL tf_field_29_0 rfl rfl) ?_ rfl rfl rfl
      refine JL_go0 (u := .junk) (A_store (u := .agg [I64 y85.Load, I64 y85.Discharge]) (ds := [I64 y85.Load, I64 y85.Discharge, I64 v92.Whole, I64 v92.Half]) tf_size_24 rfl rfl rfl rfl rfl rfl rfl rfl) ?_ rfl rfl
      refine JL_nil ?_
      refine hK93 _ _ ?_
      obtain ⟨kj94, hkj94, h⟩ := jp_out h
      refine JC_seqJ (fun j94 : Int × Int => kj94 j94 = some p) (fun j94 => [(3, .mp 70000011), (6, .dptr [I64 y85.Load, I64 y85.Discharge]), (7, .ptr 70000007 0), (12, LS 9 Box.av boxes), (13, I64 (boxes.length : Int)), (14, I64 (i85 : Int))]) (fun j94 => [(70000002, .vec 29 4 (([] : List bound_Count).length) (([] : List bound_Count).map bound_Count.av)), (70000011, MP 64 Group.kv bound_Count.av s85), (70000007, .box 29 [I64 y85.Load, I64 y85.Discharge, I64 j94.1, I64 j94.2])]) (fun Kj94 ej94 => ?_) ?_
      ·
        refine JC_seq (fun K95 hK95 => ?_)
        refine JC_region ?_
        refine JL_go (u := .dptr ((Box.cs y85).drop 2)) (A_fieldM tf_field_31_2 rfl rfl rfl) ?_ rfl rfl rfl
        refine JL_go (u := U8 y85.Size) (A_load tf_scalar_5 rfl rfl rfl) ?_ rfl rfl rfl
        refine JL_nil ?_
        refine hK95 _ _ ?_
        refine JC_block ?_
        refine JC_seq (fun K96 hK96 => ?_)
        refine JC_region ?_
        refine JL_go (u := BL (decide (y85.Size = 40))) (A_eql rfl rfl rfl) ?_ rfl rfl rfl
        refine JL_go (u := BL (decide (y85.Size = 40))) (A_assign rfl rfl) ?_ rfl rfl rfl
        refine JL_nil ?_
        refine hK96 _ _ ?_
        refine JC_cond rfl (fun hb => ?_) (fun hb => ?_)
        ·
          replace h := bif_t hb h
          refine JC_region ?_
          refine JL_go (u := .ptr 70000007 2) (A_fieldL tf_field_29_1 rfl rfl) ?_ rfl rfl rfl
          refine JL_go (u := I64 v92.Whole) (A_loadL tf_scalar_3 rfl rfl rfl rfl) ?_ rfl rfl rfl
          obtain ⟨v97, hv97, h⟩ := chk_out h
          refine JL_go (u := I64 v97) (A_add hv97 rfl rfl rfl) ?_ rfl rfl rfl
          refine JL_go (u := .ptr 70000007 2) (A_fieldL tf_field_29_1 rfl rfl) ?_ rfl rfl rfl
          refine JL_go0 (u := .junk) (A_store (u := I64 v97) (ds := [I64 y85.Load, I64 y85.Discharge, I64 v97, I64 v92.Half]) tf_size_3 rfl rfl rfl rfl rfl rfl rfl rfl) ?_ rfl rfl
          refine JL_nil ?_
          exact ej94 _ _ (v97, v92.Half) h ⟨⟨.same rfl, .same rfl, .same rfl, .same rfl, .same rfl, .same rfl, trivial⟩, ⟨⟨_, rfl, .vec⟩, ⟨_, rfl, .map⟩, ⟨_, rfl, .boxL rfl ⟨.same rfl, .same rfl, .same rfl, .same rfl, trivial⟩⟩, trivial⟩, rfl⟩
        ·
          replace h := bif_f hb h
          refine JC_seq (fun K98 hK98 => ?_)
          refine JC_region ?_
          refine JL_go (u := BL (decide (y85.Size = 20))) (A_eql rfl rfl rfl) ?_ rfl rfl rfl
          refine JL_go (u := BL (decide (y85.Size = 20))) (A_assign rfl rfl) ?_ rfl rfl rfl
          refine JL_nil ?_
          refine hK98 _ _ ?_
          refine JC_cond rfl (fun hb => ?_) (fun hb => ?_)
          ·
            replace h := bif_t hb h
            refine JC_region ?_
            refine JL_go (u := .ptr 70000007 3) (A_fieldL tf_field_29_2 rfl rfl) ?_ rfl rfl rfl
            refine JL_go (u := I64 v92.Half) (A_loadL tf_scalar_3 rfl rfl rfl rfl) ?_ rfl rfl rfl
            obtain ⟨v99, hv99, h⟩ := chk_out h
            refine JL_go (u := I64 v99) (A_add hv99 rfl rfl rfl) ?_ rfl rfl rfl
            refine JL_go (u := .ptr 70000007 3) (A_fieldL tf_field_29_2 rfl rfl) ?_ rfl rfl rfl
            refine JL_go0 (u := .junk) (A_store (u := I64 v99) (ds := [I64 y85.Load, I64 y85.Discharge, I64 v92.Whole, I64 v99]) tf_size_3 rfl rfl rfl rfl rfl rfl rfl rfl) ?_ rfl rfl
            refine JL_nil ?_
            exact ej94 _ _ (v92.Whole, v99) h ⟨⟨.same rfl, .same rfl, .same rfl, .same rfl, .same rfl, .same rfl, trivial⟩, ⟨⟨_, rfl, .vec⟩, ⟨_, rfl, .map⟩, ⟨_, rfl, .boxL rfl ⟨.same rfl, .same rfl, .same rfl, .same rfl, trivial⟩⟩, trivial⟩, rfl⟩
          ·
            replace h := bif_f hb h
            refine JC_exit ?_
            exact ej88 _ _ (s85, v92.Whole, v92.Half) h ⟨⟨.same rfl, .same rfl, .same rfl, .same rfl, trivial⟩, ⟨⟨_, rfl, .vec⟩, ⟨_, rfl, .map⟩, ⟨_, rfl, .boxL rfl ⟨.same rfl, .same rfl, .same rfl, .same rfl, trivial⟩⟩, trivial⟩, rfl⟩
      · intro j94 h
        replace h := app1 hkj94 h
        refine JC_region ?_
        refine JL_go (u := .mp 70000011) (A_move rfl rfl) ?_ rfl rfl rfl
        refine JL_go (u := .agg [I64 y85.Load, I64 y85.Discharge]) (A_loadAgg tf_agg_24 rfl rfl rfl) ?_ rfl rfl rfl
        refine JL_go (u := .agg [I64 y85.Load, I64 y85.Discharge, I64 j94.1, I64 j94.2]) (A_loadAggL tf_agg_29 rfl rfl rfl rfl) ?_ rfl rfl rfl
        refine JL_go0 (u := .junk) (A_mapUpdateM (m := s85) (a := (Group.mk y85.Load y85.Discharge)) (v := (bound_Count.mk (Group.mk y85.Load y85.Discharge) j94.1 j94.2)) rfl rfl rfl rfl rfl rfl tk_24 tf_map_64) ?_ rfl rfl
        refine JL_nil ?_
        exact ej88 _ _ ((AMap.put s85 (Group.mk y85.Load y85.Discharge) (bound_Count.mk (Group.mk y85.Load y85.Discharge) j94.1 j94.2)), j94.1, j94.2) h ⟨⟨.same rfl, .same rfl, .same rfl, .same rfl, trivial⟩, ⟨⟨_, rfl, .vec⟩, ⟨_, rfl, .map⟩, ⟨_, rfl, .boxL rfl ⟨.same rfl, .same rfl, .same rfl, .same rfl, trivial⟩⟩, trivial⟩, rfl⟩
    · intro j88 h
      replace h := app1 hkj88 h
      refine JC_region ?_
      refine JL_go (u := I64 ((i85 + 1 : Nat) : Int)) (A_add (idx_succ hk85 hm13) rfl rfl rfl) ?_ rfl rfl rfl
      refine JL_go (u := I64 ((i85 + 1 : Nat) : Int)) (A_move rfl rfl) ?_ rfl rfl rfl
      refine JL_nil ?_
      exact e85 _ _ (i85 + 1) j88.1 (app1 hn85 h) (by omega) ⟨⟨.same rfl, .same rfl, .same rfl, .same rfl, trivial⟩, ⟨⟨_, rfl, .vec⟩, ⟨_, rfl, .map⟩, trivial⟩, rfl⟩
  ·
    have h := app1 hkx85 (each_nil hi85 (not_lt_len hb))
    refine JC_exit ?_
    refine hK3 _ _ ?_
    refine JC_seq (fun K100 hK100 => ?_)
    refine JC_region ?_
    refine JL_go (u := .vec 70000008 (([] : List bound_Count).length) 4 (([] : List bound_Count).length)) (A_vnil 70000008 29 4 rfl rfl rfl) ?_ rfl rfl rfl
    refine JL_nil ?_
    refine hK100 _ _ ?_
    refine JC_seq (fun K101 hK101 => ?_)
    refine JC_seq (fun K102 hK102 => ?_)
    refine JC_region ?_
    refine JL_go (u := .mp 70000011) (A_move rfl rfl) ?_ rfl rfl rfl
    refine JL_go (u := .it 70000047) (A_rangeM 70000047 (m := s85) rfl rfl rfl rfl tf_map_64) ?_ rfl rfl rfl
    refine JL_nil ?_
    refine hK102 _ _ ?_
    refine JC_block ?_
    obtain ⟨b111, kx111, hb111, hkx111, h⟩ := eachM_in h
    refine JC_loopM (AMap.size s85) (fun i111 (s111 : (List bound_Count)) => MInv b111 kx111 (AMap.l s85) i111 s111) (fun i111 s111 => [(8, .vec 70000008 s111.length 4 s111.length), (47, .it 70000047)]) (fun i111 s111 => [(70000002, .vec 29 4 (([] : List bound_Count).length) (([] : List bound_Count).map bound_Count.av)), (70000011, MP 64 Group.kv bound_Count.av s85), (70000008, .vec 29 4 s111.length (s111.map bound_Count.av)), (70000047, .iter 70000011 (AMap.size s85) i111)]) [] (MInv.start h hp) ⟨⟨.same rfl, .same rfl, trivial⟩, ⟨⟨_, rfl, .vec⟩, ⟨_, rfl, .map⟩, ⟨_, rfl, .vec⟩, ⟨_, rfl, .iter rfl⟩, trivial⟩, rfl⟩ ?_
    clear h hp
    intro i111 s111 hi111 K111 e111
    refine JC_seq (fun K112 hK112 => ?_)
    refine JC_region ?_
    refine JL_step rfl rfl rfl (A_nextM (m := s85) rfl rfl rfl rfl) ?_
    intro u_ L_ hn_
    rcases hn_ with ⟨q111, x111, he111, hs111, rfl, rfl⟩ | ⟨ha111, rfl, rfl⟩
    ·
      obtain ⟨o111, h, ho1_111, ho2_111⟩ := hi111.step he111 hs111
      replace h := app3 hb111 h
      refine JL_go (u := BL true) (A_extract rfl rfl rfl) ?_ rfl rfl rfl
      refine JL_nil ?_
      refine hK112 _ _ ?_
      refine JC_seq (fun K113 hK113 => ?_)
      refine JC_condT rfl ?_
      refine JC_skip ?_
      refine hK113 _ _ ?_
      refine JC_block ?_
      refine JC_seq (fun K114 hK114 => ?_)
      refine JC_region ?_
      refine JL_go (u := .tup [.agg [I64 x111.1.Load, I64 x111.1.Discharge], .agg (bound_Count.cs x111.2)]) (A_entryM (kv := Group.kv) (av := bound_Count.av) (m := s85) (q := q111) (seen := i111) (e := x111) rfl rfl rfl rfl he111) ?_ rfl rfl rfl
      refine JL_go (u := .agg (bound_Count.cs x111.2)) (A_extract rfl rfl rfl) ?_ rfl rfl rfl
      refine JL_go (u := .ptr 70000010 0) (A_allocJ 70000010 4 tf_zsize_29 rfl rfl) ?_ rfl rfl rfl
      refine JL_go0 (u := .junk) (A_store (u := .agg (bound_Count.cs x111.2)) (ds := [I64 x111.2.Group.Load, I64 x111.2.Group.Discharge, I64 x111.2.Whole, I64 x111.2.Half]) tf_size_29 rfl rfl rfl rfl rfl rfl rfl rfl) ?_ rfl rfl
      refine JL_nil ?_
      refine hK114 _ _ ?_
      refine JC_freeze [(8, .vec 70000008 s111.length 4 s111.length), (10, .dptr (bound_Count.cs x111.2)), (47, .it 70000047)] [(70000002, .vec 29 4 (([] : List bound_Count).length) (([] : List bound_Count).map bound_Count.av)), (70000011, MP 64 Group.kv bound_Count.av s85), (70000008, .vec 29 4 s111.length (s111.map bound_Count.av)), (70000047, .iter 70000011 (AMap.size s85) (i111 ++ [q111]))] 70000010 rfl rfl rfl ⟨⟨_, rfl, .vec⟩, ⟨_, rfl, .map⟩, ⟨_, rfl, .vec⟩, ⟨_, rfl, .iter rfl⟩, trivial⟩ rfl (by exact ⟨.conv (.same rfl), .ptr, .conv (.same rfl), trivial⟩) ?_
      refine JC_region ?_
      refine JL_go (u := .vec 70000008 s111.length 4 s111.length) (A_move rfl rfl) ?_ rfl rfl rfl
      refine JL_go (u := .agg (bound_Count.cs x111.2)) (A_loadAgg tf_agg_29 rfl rfl rfl) ?_ rfl rfl rfl
      refine JL_go (u := LS 4 bound_Count.av [x111.2]) (A_buildSlice (xs := [.agg (bound_Count.cs x111.2)]) rfl ⟨rfl, rfl, trivial⟩ tf_slice_26 tf_zsize_29 rfl rfl rfl rfl) ?_ rfl rfl rfl
      obtain ⟨ha115, h⟩ := need_out h
      refine JL_go (u := .vec 70000008 ((s111 ++ [x111.2]).length) 4 ((s111 ++ [x111.2]).length)) (A_vappendM (f := bound_Count.av) (xs := s111) (ys := [x111.2]) (ver1 := (s111 ++ [x111.2]).length) rfl rfl rfl rfl tf_slice_26 tf_elem_29 ha115 (fun _ => rfl) (.inl rfl) (by simp)) ?_ rfl rfl rfl
      refine JL_go (u := .vec 70000008 ((s111 ++ [x111.2]).length) 4 ((s111 ++ [x111.2]).length)) (A_assign rfl rfl) ?_ rfl rfl rfl
      refine JL_nil ?_
      exact e111 _ _ (i111 ++ [q111]) (s111 ++ [x111.2]) (ho2_111 _ (Option.some.inj h).symm) (unseen_lt (List.getElem?_eq_some_iff.1 he111).1 hs111) ⟨⟨.same rfl, .same rfl, trivial⟩, ⟨⟨_, rfl, .vec⟩, ⟨_, rfl, .map⟩, ⟨_, rfl, .vec⟩, ⟨_, rfl, .iter rfl⟩, trivial⟩, rfl⟩
    ·
      obtain ⟨p_, h, hp⟩ := hi111.done ha111
      replace h := app1 hkx111 h
      refine JL_go (u := BL false) (A_extract rfl rfl rfl) ?_ rfl rfl rfl
      refine JL_nil ?_
      refine hK112 _ _ ?_
      refine JC_seq (fun K116 hK116 => ?_)
      refine JC_condF rfl ?_
      refine JC_exit ?_
      refine hK101 _ _ ?_
      refine JC_seq (fun K117 hK117 => ?_)
      refine JC_region ?_
      refine JL_go (u := .vec 70000008 s111.length 4 s111.length) (A_move rfl rfl) ?_ rfl rfl rfl
      obtain ⟨r118, hr118, h⟩ := bnd_out h
      refine JL_go (u := .tup []) (A_sortM (f := bound_Count.av) (cmp := (fun z0 z1 => M_bound_Groups_1 z0 z1)) (xs := s111) (r := r118) bound_Count.vs rfl sortLaw_15 sortNone_15 (fun _ => rfl) (fun _ => rfl) (fun _ => cells1 rfl) tf_call_15 tf_call_16 rfl rfl rfl rfl rfl hr118 (fun z0 z1 q hq => M_bound_Groups_1_w z0 z1 q hq) rfl) ?_ rfl rfl rfl
      refine JL_nil ?_
      refine hK117 _ _ ?_
      refine JC_seq (fun K119 hK119 => ?_)
      refine JC_region ?_
      refine JL_go (u := .vec 70000008 s111.length 4 s111.length) (A_move rfl rfl) ?_ rfl rfl rfl
      refine JL_go (u := .vec 70000008 s111.length 4 s111.length) (A_assign rfl rfl) ?_ rfl rfl rfl
      refine JL_nil ?_
      refine hK119 _ _ ?_
      refine JC_vlen 2 rfl rfl (fun hn_ => ?_)
      refine JC_ret ?_
      exact ⟨[.vec 70000008 s111.length 4 s111.length], [(70000008, .vec 29 4 s111.length (r118.map bound_Count.av))], ⟨⟨_, rfl, .vec⟩, trivial⟩, rfl, ⟨⟨_, rfl, .conv (.same rfl)⟩, trivial⟩, s111.length, r118, Eq.mpr (Option.some.inj h) hp, congrArg (fun n_ : Nat => (.vec 70000008 s111.length 4 n_ : AV)) (hn_.trans (List.length_map _)), rfl⟩
theorem M_bound_Groups_sn (S_ : (List Box) → Option (List bound_Count)) (hS_ : ∀ boxes r, S_ boxes = some r → ∃ p : Prop, M_bound_Groups boxes (fun r_ => r_ = r) = some p ∧ p) (boxes : List Box) (r : (List bound_Count)) (h : S_ boxes = some r) : ACalls Try.prog 6 [LS 9 Box.av boxes] [] (fun av L' => ∃ p : Nat, av = .vec 70000008 p 4 r.length ∧ L' = [(70000008, .vec 29 4 p (r.map bound_Count.av))]) := by
  obtain ⟨p, h1, h2⟩ := hS_ boxes r h
  exact (M_bound_Groups_pn boxes _ p h1 h2).mono (fun av L hh => by obtain ⟨q, r_, rfl, ha, hb⟩ := hh; exact ⟨q, ha, hb⟩)
end
end Go.Proofs.Ytpbhhakkhlfbnaa
