/-
  Models of functions of the program, and that they return what the models say.
-/
import Derived.Test.YtpbhhakkhlfbnaaProg
import Derived.Test.YtpbhhakkhlfbnaaSortM
import Derived.Test.YtpbhhakkhlfbnaaSortLay
import Derived.Test.YtpbhhakkhlfbnaaRel
import Derived.Test.YtpbhhakkhlfbnaaXAa
import Derived.Test.YtpbhhakkhlfbnaaXA
import Derived.Test.YtpbhhakkhlfbnaaSpecA
import Derived.Test.YtpbhhakkhlfbnaaSpecG
import Derived.Test.YtpbhhakkhlfbnaaXB
import Derived.Test.YtpbhhakkhlfbnaaSpecB
set_option maxRecDepth 100000
set_option linter.unusedVariables false
set_option linter.unusedSimpArgs false
namespace Go.Proofs.Ytpbhhakkhlfbnaa
open Go.RowKit
noncomputable section

namespace XCF
open XAF
open XBF
theorem tf_call_13 : callB Try.prog 13 = true := by kernel_rfl
theorem tf_call_14 : callB Try.prog 14 = true := by kernel_rfl
theorem tf_call_5 : callB Try.prog 5 = true := by kernel_rfl
theorem tf_call_9 : callB Try.prog 9 = true := by kernel_rfl
end XCF
open XAF
open XBF
open XCF

def M_twistlocklaw27_awake (F : Nat)  : Option Bool :=
  bnd (M_twistlocklaw27_tower 1) fun r6 =>
  bnd (M_bound_Family F r6 [(Box.mk 1 ByteArray.empty 40 false 0 0 2 0 false), (Box.mk 2 ByteArray.empty 40 false 0 1 3 0 false)] [(Group.mk 0 2), (Group.mk 1 3)]) fun r7 =>
  bnd (M_twistlocklaw27_tower 2) fun r9 =>
  bnd (M_bound_Family F r9 [(Box.mk 1 ByteArray.empty 40 false 0 0 2 0 false), (Box.mk 2 ByteArray.empty 40 false 0 1 3 0 false)] [(Group.mk 0 2), (Group.mk 1 3)]) fun r10 =>
  bnd (M_twistlocklaw27_tower 1) fun r12 =>
  bnd (M_bound_Family F r12 [(Box.mk 1 ByteArray.empty 20 false 0 0 2 0 false), (Box.mk 2 ByteArray.empty 20 false 0 0 2 0 false), (Box.mk 3 ByteArray.empty 20 false 0 0 2 0 false), (Box.mk 4 ByteArray.empty 20 false 0 1 3 0 false)] [(Group.mk 0 2), (Group.mk 1 3)]) fun r13 =>
  bnd (M_twistlocklaw27_tower 1) fun r15 =>
  bnd (M_bound_Find F r15 [(Box.mk 1 ByteArray.empty 40 false 0 0 2 0 false), (Box.mk 2 ByteArray.empty 40 false 0 1 3 0 false)]) fun r16 =>
  bnd (M_twistlocklaw27_tower 1) fun r18 =>
  gidx [(Group.mk 0 2), (Group.mk 1 3)] 1 fun y19 =>
  gidx [(Group.mk 0 2), (Group.mk 1 3)] 0 fun y21 =>
  bnd (M_bound_Family F r18 [(Box.mk 1 ByteArray.empty 40 false 0 0 2 0 false), (Box.mk 2 ByteArray.empty 40 false 0 1 3 0 false)] [y19, y21]) fun r23 =>
  bnd (M_twistlocklaw27_tower 1) fun r25 =>
  gidx [(Group.mk 0 2), (Group.mk 1 3)] 0 fun y26 =>
  bnd (S_bound_Check F r25 [(Box.mk 1 ByteArray.empty 40 false 0 0 2 0 false), (Box.mk 2 ByteArray.empty 40 false 0 1 3 0 false)] ([[(Group.mk 0 2), (Group.mk 1 3)], [y26]])) fun r28 =>
  bnd (M_twistlocklaw27_tower 1) fun r30 =>
  bnd (M_bound_Need r30 3 1) fun r31 =>
  chk (r7.2 + r10.2) fun v33 =>
  chk (v33 + r13.2) fun v34 =>
  chk (v34 + r16.2.2) fun v35 =>
  chk (v35 + r31.2) fun v36 =>
  bnd (bif ((((((decide (v36 = 0)) && (decide (r7.1 = 1))) && (decide (r10.1 = 0))) && (decide (r13.1 = 1))) && (decide (r16.2.1 = 1))) && (decide ((r16.1.length : Int) = 1))) then gidx r16.1 0 some else some default) fun y37 =>
  bnd (bif ((((((decide (v36 = 0)) && (decide (r7.1 = 1))) && (decide (r10.1 = 0))) && (decide (r13.1 = 1))) && (decide (r16.2.1 = 1))) && (decide ((r16.1.length : Int) = 1))) then M_twistlockkit_SameGroups y37 [(Group.mk 0 2), (Group.mk 1 3)] else some default) fun r38 =>
  bnd (bif ((((((((((decide (v36 = 0)) && (decide (r7.1 = 1))) && (decide (r10.1 = 0))) && (decide (r13.1 = 1))) && (decide (r16.2.1 = 1))) && (decide ((r16.1.length : Int) = 1))) && r38) && (decide (r23.2 = 270))) && (decide (r28.2 = 271))) && (decide (r31.1 = 4))) then gidx [(Group.mk 0 2), (Group.mk 1 3)] 0 some else some default) fun y39 =>
  bnd (bif ((((((((((decide (v36 = 0)) && (decide (r7.1 = 1))) && (decide (r10.1 = 0))) && (decide (r13.1 = 1))) && (decide (r16.2.1 = 1))) && (decide ((r16.1.length : Int) = 1))) && r38) && (decide (r23.2 = 270))) && (decide (r28.2 = 271))) && (decide (r31.1 = 4))) then gidx [(Group.mk 0 2), (Group.mk 1 3)] 1 some else some default) fun y40 =>
  bnd (bif ((((((((((decide (v36 = 0)) && (decide (r7.1 = 1))) && (decide (r10.1 = 0))) && (decide (r13.1 = 1))) && (decide (r16.2.1 = 1))) && (decide ((r16.1.length : Int) = 1))) && r38) && (decide (r23.2 = 270))) && (decide (r28.2 = 271))) && (decide (r31.1 = 4))) then M_bound_Cross y39 y40 else some default) fun r41 =>
  bnd (bif (((((((((((decide (v36 = 0)) && (decide (r7.1 = 1))) && (decide (r10.1 = 0))) && (decide (r13.1 = 1))) && (decide (r16.2.1 = 1))) && (decide ((r16.1.length : Int) = 1))) && r38) && (decide (r23.2 = 270))) && (decide (r28.2 = 271))) && (decide (r31.1 = 4))) && r41) then gidx [(Group.mk 0 2), (Group.mk 1 3)] 1 some else some default) fun y42 =>
  bnd (bif (((((((((((decide (v36 = 0)) && (decide (r7.1 = 1))) && (decide (r10.1 = 0))) && (decide (r13.1 = 1))) && (decide (r16.2.1 = 1))) && (decide ((r16.1.length : Int) = 1))) && r38) && (decide (r23.2 = 270))) && (decide (r28.2 = 271))) && (decide (r31.1 = 4))) && r41) then gidx [(Group.mk 0 2), (Group.mk 1 3)] 0 some else some default) fun y43 =>
  bnd (bif (((((((((((decide (v36 = 0)) && (decide (r7.1 = 1))) && (decide (r10.1 = 0))) && (decide (r13.1 = 1))) && (decide (r16.2.1 = 1))) && (decide ((r16.1.length : Int) = 1))) && r38) && (decide (r23.2 = 270))) && (decide (r28.2 = 271))) && (decide (r31.1 = 4))) && r41) then M_bound_Cross y42 y43 else some default) fun r44 =>
  bnd (bif ((((((((((((decide (v36 = 0)) && (decide (r7.1 = 1))) && (decide (r10.1 = 0))) && (decide (r13.1 = 1))) && (decide (r16.2.1 = 1))) && (decide ((r16.1.length : Int) = 1))) && r38) && (decide (r23.2 = 270))) && (decide (r28.2 = 271))) && (decide (r31.1 = 4))) && r41) && (!r44)) then S_bound_Groups [(Box.mk 1 ByteArray.empty 20 false 0 0 2 0 false), (Box.mk 2 ByteArray.empty 20 false 0 0 2 0 false), (Box.mk 3 ByteArray.empty 20 false 0 0 2 0 false), (Box.mk 4 ByteArray.empty 20 false 0 1 3 0 false)] else some default) fun r45 =>
  some (((((((((((((decide (v36 = 0)) && (decide (r7.1 = 1))) && (decide (r10.1 = 0))) && (decide (r13.1 = 1))) && (decide (r16.2.1 = 1))) && (decide ((r16.1.length : Int) = 1))) && r38) && (decide (r23.2 = 270))) && (decide (r28.2 = 271))) && (decide (r31.1 = 4))) && r41) && (!r44)) && (decide ((r45.length : Int) = 2)))
theorem M_twistlocklaw27_awake_w (F : Nat)  (r : Bool) (h : M_twistlocklaw27_awake F  = some r) : Pure Try.prog 5 [] (· = BL r) := by
  unfold M_twistlocklaw27_awake at h
  refine Pure_ofG [.tmp 0] Try.func5 rfl rfl ?_
  refine JC_seq (fun K1 hK1 => ?_)
  refine JC_region ?_
  refine JL_go (u := BL false) (A_assign rfl rfl) ?_ rfl rfl rfl
  refine JL_nil ?_
  refine hK1 _ _ ?_
  refine JC_seq (fun K2 hK2 => ?_)
  refine JC_region ?_
  refine JL_go (u := .agg [I64 1, ST ByteArray.empty, U8 40, BL false, I64 0, I64 0, I64 2, U8 0, BL false]) (A_buildZ (cs := [I64 1, ST ByteArray.empty, U8 40, BL false, I64 0, I64 0, I64 2, U8 0, BL false]) [(0, 1), (1, 1), (2, 1), (3, 1), (4, 1), (5, 1), (6, 1), (7, 1), (8, 1)] [I64 0, ST ByteArray.empty, U8 0, BL false, I64 0, I64 0, I64 0, U8 0, BL false] [.int .i64 0, .string ByteArray.empty, .int .u8 0, .bool false, .int .i64 0, .int .i64 0, .int .i64 0, .int .u8 0, .bool false] tf_places_31 tf_zero_31 ⟨.inl rfl, .inl rfl, .inl rfl, .inl rfl, .inl rfl, .inl rfl, .inl rfl, .inl rfl, .inl rfl, trivial⟩ rfl rfl) ?_ rfl rfl rfl
  refine JL_go (u := .agg [I64 2, ST ByteArray.empty, U8 40, BL false, I64 0, I64 1, I64 3, U8 0, BL false]) (A_buildZ (cs := [I64 2, ST ByteArray.empty, U8 40, BL false, I64 0, I64 1, I64 3, U8 0, BL false]) [(0, 1), (1, 1), (2, 1), (3, 1), (4, 1), (5, 1), (6, 1), (7, 1), (8, 1)] [I64 0, ST ByteArray.empty, U8 0, BL false, I64 0, I64 0, I64 0, U8 0, BL false] [.int .i64 0, .string ByteArray.empty, .int .u8 0, .bool false, .int .i64 0, .int .i64 0, .int .i64 0, .int .u8 0, .bool false] tf_places_31 tf_zero_31 ⟨.inl rfl, .inl rfl, .inl rfl, .inl rfl, .inl rfl, .inl rfl, .inl rfl, .inl rfl, .inl rfl, trivial⟩ rfl rfl) ?_ rfl rfl rfl
  refine JL_go (u := LS 9 Box.av [(Box.mk 1 ByteArray.empty 40 false 0 0 2 0 false), (Box.mk 2 ByteArray.empty 40 false 0 1 3 0 false)]) (A_buildSlice (xs := [.agg [I64 1, ST ByteArray.empty, U8 40, BL false, I64 0, I64 0, I64 2, U8 0, BL false], .agg [I64 2, ST ByteArray.empty, U8 40, BL false, I64 0, I64 1, I64 3, U8 0, BL false]]) rfl ⟨rfl, rfl, rfl, rfl, trivial⟩ tf_slice_22 tf_zsize_31 rfl rfl rfl rfl) ?_ rfl rfl rfl
  refine JL_go (u := LS 9 Box.av [(Box.mk 1 ByteArray.empty 40 false 0 0 2 0 false), (Box.mk 2 ByteArray.empty 40 false 0 1 3 0 false)]) (A_assign rfl rfl) ?_ rfl rfl rfl
  refine JL_nil ?_
  refine hK2 _ _ ?_
  refine JC_seq (fun K3 hK3 => ?_)
  refine JC_region ?_
  refine JL_go (u := .agg [I64 0, I64 2]) (A_buildZ (cs := [I64 0, I64 2]) [(0, 1), (1, 1)] [I64 0, I64 0] [.int .i64 0, .int .i64 0] tf_places_24 tf_zero_24 ⟨.inl rfl, .inl rfl, trivial⟩ rfl rfl) ?_ rfl rfl rfl
  refine JL_go (u := .agg [I64 1, I64 3]) (A_buildZ (cs := [I64 1, I64 3]) [(0, 1), (1, 1)] [I64 0, I64 0] [.int .i64 0, .int .i64 0] tf_places_24 tf_zero_24 ⟨.inl rfl, .inl rfl, trivial⟩ rfl rfl) ?_ rfl rfl rfl
  refine JL_go (u := LS 2 Group.av [(Group.mk 0 2), (Group.mk 1 3)]) (A_buildSlice (xs := [.agg [I64 0, I64 2], .agg [I64 1, I64 3]]) rfl ⟨rfl, rfl, rfl, rfl, trivial⟩ tf_slice_56 tf_zsize_24 rfl rfl rfl rfl) ?_ rfl rfl rfl
  refine JL_go (u := LS 2 Group.av [(Group.mk 0 2), (Group.mk 1 3)]) (A_assign rfl rfl) ?_ rfl rfl rfl
  refine JL_nil ?_
  refine hK3 _ _ ?_
  refine JC_seq (fun K4 hK4 => ?_)
  refine JC_region ?_
  refine JL_go (u := .agg [I64 1, ST ByteArray.empty, U8 20, BL false, I64 0, I64 0, I64 2, U8 0, BL false]) (A_buildZ (cs := [I64 1, ST ByteArray.empty, U8 20, BL false, I64 0, I64 0, I64 2, U8 0, BL false]) [(0, 1), (1, 1), (2, 1), (3, 1), (4, 1), (5, 1), (6, 1), (7, 1), (8, 1)] [I64 0, ST ByteArray.empty, U8 0, BL false, I64 0, I64 0, I64 0, U8 0, BL false] [.int .i64 0, .string ByteArray.empty, .int .u8 0, .bool false, .int .i64 0, .int .i64 0, .int .i64 0, .int .u8 0, .bool false] tf_places_31 tf_zero_31 ⟨.inl rfl, .inl rfl, .inl rfl, .inl rfl, .inl rfl, .inl rfl, .inl rfl, .inl rfl, .inl rfl, trivial⟩ rfl rfl) ?_ rfl rfl rfl
  refine JL_go (u := .agg [I64 2, ST ByteArray.empty, U8 20, BL false, I64 0, I64 0, I64 2, U8 0, BL false]) (A_buildZ (cs := [I64 2, ST ByteArray.empty, U8 20, BL false, I64 0, I64 0, I64 2, U8 0, BL false]) [(0, 1), (1, 1), (2, 1), (3, 1), (4, 1), (5, 1), (6, 1), (7, 1), (8, 1)] [I64 0, ST ByteArray.empty, U8 0, BL false, I64 0, I64 0, I64 0, U8 0, BL false] [.int .i64 0, .string ByteArray.empty, .int .u8 0, .bool false, .int .i64 0, .int .i64 0, .int .i64 0, .int .u8 0, .bool false] tf_places_31 tf_zero_31 ⟨.inl rfl, .inl rfl, .inl rfl, .inl rfl, .inl rfl, .inl rfl, .inl rfl, .inl rfl, .inl rfl, trivial⟩ rfl rfl) ?_ rfl rfl rfl
  refine JL_go (u := .agg [I64 3, ST ByteArray.empty, U8 20, BL false, I64 0, I64 0, I64 2, U8 0, BL false]) (A_buildZ (cs := [I64 3, ST ByteArray.empty, U8 20, BL false, I64 0, I64 0, I64 2, U8 0, BL false]) [(0, 1), (1, 1), (2, 1), (3, 1), (4, 1), (5, 1), (6, 1), (7, 1), (8, 1)] [I64 0, ST ByteArray.empty, U8 0, BL false, I64 0, I64 0, I64 0, U8 0, BL false] [.int .i64 0, .string ByteArray.empty, .int .u8 0, .bool false, .int .i64 0, .int .i64 0, .int .i64 0, .int .u8 0, .bool false] tf_places_31 tf_zero_31 ⟨.inl rfl, .inl rfl, .inl rfl, .inl rfl, .inl rfl, .inl rfl, .inl rfl, .inl rfl, .inl rfl, trivial⟩ rfl rfl) ?_ rfl rfl rfl
  refine JL_go (u := .agg [I64 4, ST ByteArray.empty, U8 20, BL false, I64 0, I64 1, I64 3, U8 0, BL false]) (A_buildZ (cs := [I64 4, ST ByteArray.empty, U8 20, BL false, I64 0, I64 1, I64 3, U8 0, BL false]) [(0, 1), (1, 1), (2, 1), (3, 1), (4, 1), (5, 1), (6, 1), (7, 1), (8, 1)] [I64 0, ST ByteArray.empty, U8 0, BL false, I64 0, I64 0, I64 0, U8 0, BL false] [.int .i64 0, .string ByteArray.empty, .int .u8 0, .bool false, .int .i64 0, .int .i64 0, .int .i64 0, .int .u8 0, .bool false] tf_places_31 tf_zero_31 ⟨.inl rfl, .inl rfl, .inl rfl, .inl rfl, .inl rfl, .inl rfl, .inl rfl, .inl rfl, .inl rfl, trivial⟩ rfl rfl) ?_ rfl rfl rfl
  refine JL_go (u := LS 9 Box.av [(Box.mk 1 ByteArray.empty 20 false 0 0 2 0 false), (Box.mk 2 ByteArray.empty 20 false 0 0 2 0 false), (Box.mk 3 ByteArray.empty 20 false 0 0 2 0 false), (Box.mk 4 ByteArray.empty 20 false 0 1 3 0 false)]) (A_buildSlice (xs := [.agg [I64 1, ST ByteArray.empty, U8 20, BL false, I64 0, I64 0, I64 2, U8 0, BL false], .agg [I64 2, ST ByteArray.empty, U8 20, BL false, I64 0, I64 0, I64 2, U8 0, BL false], .agg [I64 3, ST ByteArray.empty, U8 20, BL false, I64 0, I64 0, I64 2, U8 0, BL false], .agg [I64 4, ST ByteArray.empty, U8 20, BL false, I64 0, I64 1, I64 3, U8 0, BL false]]) rfl ⟨rfl, rfl, rfl, rfl, rfl, rfl, rfl, rfl, trivial⟩ tf_slice_22 tf_zsize_31 rfl rfl rfl rfl) ?_ rfl rfl rfl
  refine JL_go (u := LS 9 Box.av [(Box.mk 1 ByteArray.empty 20 false 0 0 2 0 false), (Box.mk 2 ByteArray.empty 20 false 0 0 2 0 false), (Box.mk 3 ByteArray.empty 20 false 0 0 2 0 false), (Box.mk 4 ByteArray.empty 20 false 0 1 3 0 false)]) (A_assign rfl rfl) ?_ rfl rfl rfl
  refine JL_nil ?_
  refine hK4 _ _ ?_
  refine JC_seq (fun K5 hK5 => ?_)
  refine JC_region ?_
  obtain ⟨r6, hr6, h⟩ := bnd_out h
  refine JL_go (u := .agg (Ship.cs r6)) (A_call1 (args := [I64 1]) rfl (M_twistlocklaw27_tower_w 1 r6 hr6) tf_call_11 ⟨rfl, rfl, trivial⟩) ?_ rfl rfl rfl
  refine JL_go (u := LS 9 Box.av [(Box.mk 1 ByteArray.empty 40 false 0 0 2 0 false), (Box.mk 2 ByteArray.empty 40 false 0 1 3 0 false)]) (A_move rfl rfl) ?_ rfl rfl rfl
  refine JL_go (u := LS 2 Group.av [(Group.mk 0 2), (Group.mk 1 3)]) (A_move rfl rfl) ?_ rfl rfl rfl
  obtain ⟨r7, hr7, h⟩ := bnd_out h
  refine JL_go (u := .tup [I64 r7.1, I64 r7.2]) (A_call1 (args := [.agg (Ship.cs r6), LS 9 Box.av [(Box.mk 1 ByteArray.empty 40 false 0 0 2 0 false), (Box.mk 2 ByteArray.empty 40 false 0 1 3 0 false)], LS 2 Group.av [(Group.mk 0 2), (Group.mk 1 3)]]) rfl (M_bound_Family_w F r6 [(Box.mk 1 ByteArray.empty 40 false 0 0 2 0 false), (Box.mk 2 ByteArray.empty 40 false 0 1 3 0 false)] [(Group.mk 0 2), (Group.mk 1 3)] r7 hr7) tf_call_10 ⟨rfl, rfl, rfl, rfl, rfl, rfl, trivial⟩) ?_ rfl rfl rfl
  refine JL_go (u := .tup [I64 r7.1, I64 r7.2]) (A_move rfl rfl) ?_ rfl rfl rfl
  refine JL_go (u := I64 r7.1) (A_extract rfl rfl rfl) ?_ rfl rfl rfl
  refine JL_go (u := I64 r7.2) (A_extract rfl rfl rfl) ?_ rfl rfl rfl
  refine JL_go (u := I64 r7.1) (A_assign rfl rfl) ?_ rfl rfl rfl
  refine JL_go (u := I64 r7.2) (A_assign rfl rfl) ?_ rfl rfl rfl
  refine JL_nil ?_
  refine hK5 _ _ ?_
  refine JC_seq (fun K8 hK8 => ?_)
  refine JC_region ?_
  obtain ⟨r9, hr9, h⟩ := bnd_out h
  refine JL_go (u := .agg (Ship.cs r9)) (A_call1 (args := [I64 2]) rfl (M_twistlocklaw27_tower_w 2 r9 hr9) tf_call_11 ⟨rfl, rfl, trivial⟩) ?_ rfl rfl rfl
  refine JL_go (u := LS 9 Box.av [(Box.mk 1 ByteArray.empty 40 false 0 0 2 0 false), (Box.mk 2 ByteArray.empty 40 false 0 1 3 0 false)]) (A_move rfl rfl) ?_ rfl rfl rfl
  refine JL_go (u := LS 2 Group.av [(Group.mk 0 2), (Group.mk 1 3)]) (A_move rfl rfl) ?_ rfl rfl rfl
  obtain ⟨r10, hr10, h⟩ := bnd_out h
  refine JL_go (u := .tup [I64 r10.1, I64 r10.2]) (A_call1 (args := [.agg (Ship.cs r9), LS 9 Box.av [(Box.mk 1 ByteArray.empty 40 false 0 0 2 0 false), (Box.mk 2 ByteArray.empty 40 false 0 1 3 0 false)], LS 2 Group.av [(Group.mk 0 2), (Group.mk 1 3)]]) rfl (M_bound_Family_w F r9 [(Box.mk 1 ByteArray.empty 40 false 0 0 2 0 false), (Box.mk 2 ByteArray.empty 40 false 0 1 3 0 false)] [(Group.mk 0 2), (Group.mk 1 3)] r10 hr10) tf_call_10 ⟨rfl, rfl, rfl, rfl, rfl, rfl, trivial⟩) ?_ rfl rfl rfl
  refine JL_go (u := .tup [I64 r10.1, I64 r10.2]) (A_move rfl rfl) ?_ rfl rfl rfl
  refine JL_go (u := I64 r10.1) (A_extract rfl rfl rfl) ?_ rfl rfl rfl
  refine JL_go (u := I64 r10.2) (A_extract rfl rfl rfl) ?_ rfl rfl rfl
  refine JL_go (u := I64 r10.1) (A_assign rfl rfl) ?_ rfl rfl rfl
  refine JL_go (u := I64 r10.2) (A_assign rfl rfl) ?_ rfl rfl rfl
  refine JL_nil ?_
  refine hK8 _ _ ?_
  refine JC_seq (fun K11 hK11 => ?_)
  refine JC_region ?_
  obtain ⟨r12, hr12, h⟩ := bnd_out h
  refine JL_go (u := .agg (Ship.cs r12)) (A_call1 (args := [I64 1]) rfl (M_twistlocklaw27_tower_w 1 r12 hr12) tf_call_11 ⟨rfl, rfl, trivial⟩) ?_ rfl rfl rfl
  refine JL_go (u := LS 9 Box.av [(Box.mk 1 ByteArray.empty 20 false 0 0 2 0 false), (Box.mk 2 ByteArray.empty 20 false 0 0 2 0 false), (Box.mk 3 ByteArray.empty 20 false 0 0 2 0 false), (Box.mk 4 ByteArray.empty 20 false 0 1 3 0 false)]) (A_move rfl rfl) ?_ rfl rfl rfl
  refine JL_go (u := LS 2 Group.av [(Group.mk 0 2), (Group.mk 1 3)]) (A_move rfl rfl) ?_ rfl rfl rfl
  obtain ⟨r13, hr13, h⟩ := bnd_out h
  refine JL_go (u := .tup [I64 r13.1, I64 r13.2]) (A_call1 (args := [.agg (Ship.cs r12), LS 9 Box.av [(Box.mk 1 ByteArray.empty 20 false 0 0 2 0 false), (Box.mk 2 ByteArray.empty 20 false 0 0 2 0 false), (Box.mk 3 ByteArray.empty 20 false 0 0 2 0 false), (Box.mk 4 ByteArray.empty 20 false 0 1 3 0 false)], LS 2 Group.av [(Group.mk 0 2), (Group.mk 1 3)]]) rfl (M_bound_Family_w F r12 [(Box.mk 1 ByteArray.empty 20 false 0 0 2 0 false), (Box.mk 2 ByteArray.empty 20 false 0 0 2 0 false), (Box.mk 3 ByteArray.empty 20 false 0 0 2 0 false), (Box.mk 4 ByteArray.empty 20 false 0 1 3 0 false)] [(Group.mk 0 2), (Group.mk 1 3)] r13 hr13) tf_call_10 ⟨rfl, rfl, rfl, rfl, rfl, rfl, trivial⟩) ?_ rfl rfl rfl
  refine JL_go (u := .tup [I64 r13.1, I64 r13.2]) (A_move rfl rfl) ?_ rfl rfl rfl
  refine JL_go (u := I64 r13.1) (A_extract rfl rfl rfl) ?_ rfl rfl rfl
  refine JL_go (u := I64 r13.2) (A_extract rfl rfl rfl) ?_ rfl rfl rfl
  refine JL_go (u := I64 r13.1) (A_assign rfl rfl) ?_ rfl rfl rfl
  refine JL_go (u := I64 r13.2) (A_assign rfl rfl) ?_ rfl rfl rfl
  refine JL_nil ?_
  refine hK11 _ _ ?_
  refine JC_seq (fun K14 hK14 => ?_)
  refine JC_region ?_
  obtain ⟨r15, hr15, h⟩ := bnd_out h
  refine JL_go (u := .agg (Ship.cs r15)) (A_call1 (args := [I64 1]) rfl (M_twistlocklaw27_tower_w 1 r15 hr15) tf_call_11 ⟨rfl, rfl, trivial⟩) ?_ rfl rfl rfl
  refine JL_go (u := LS 9 Box.av [(Box.mk 1 ByteArray.empty 40 false 0 0 2 0 false), (Box.mk 2 ByteArray.empty 40 false 0 1 3 0 false)]) (A_move rfl rfl) ?_ rfl rfl rfl
  obtain ⟨r16, hr16, h⟩ := bnd_out h
  refine JL_go (u := .tup [LS 1 (LS 2 Group.av) r16.1, I64 r16.2.1, I64 r16.2.2]) (A_call1 (args := [.agg (Ship.cs r15), LS 9 Box.av [(Box.mk 1 ByteArray.empty 40 false 0 0 2 0 false), (Box.mk 2 ByteArray.empty 40 false 0 1 3 0 false)]]) rfl (M_bound_Find_w F r15 [(Box.mk 1 ByteArray.empty 40 false 0 0 2 0 false), (Box.mk 2 ByteArray.empty 40 false 0 1 3 0 false)] r16 hr16) tf_call_12 ⟨rfl, rfl, rfl, rfl, trivial⟩) ?_ rfl rfl rfl
  refine JL_go (u := .tup [LS 1 (LS 2 Group.av) r16.1, I64 r16.2.1, I64 r16.2.2]) (A_move rfl rfl) ?_ rfl rfl rfl
  refine JL_go (u := LS 1 (LS 2 Group.av) r16.1) (A_extract rfl rfl rfl) ?_ rfl rfl rfl
  refine JL_go (u := I64 r16.2.1) (A_extract rfl rfl rfl) ?_ rfl rfl rfl
  refine JL_go (u := I64 r16.2.2) (A_extract rfl rfl rfl) ?_ rfl rfl rfl
  refine JL_go (u := LS 1 (LS 2 Group.av) r16.1) (A_assign rfl rfl) ?_ rfl rfl rfl
  refine JL_go (u := I64 r16.2.1) (A_assign rfl rfl) ?_ rfl rfl rfl
  refine JL_go (u := I64 r16.2.2) (A_assign rfl rfl) ?_ rfl rfl rfl
  refine JL_nil ?_
  refine hK14 _ _ ?_
  refine JC_seq (fun K17 hK17 => ?_)
  obtain ⟨r18, hr18, h⟩ := bnd_out h
  obtain ⟨m20, y19, hm20, hy19, h⟩ := gidx_out h
  obtain ⟨m22, y21, hm22, hy21, h⟩ := gidx_out h
  obtain ⟨r23, hr23, h⟩ := bnd_out h
  refine JC_draw [] [0, 0, 0, 0, 0, 0, 0, 0, 0, 0, 0, 0, 0, 0, 0] [0, 0, 0, 0, 0, 0, 0, 0, 0, 0, 0, 0, 0, 0, 0] [[]] tf_mixed (by kernel_rfl) rfl rfl ?_
  refine D_ro (u := .agg (Ship.cs r18)) rfl rfl ⟨O_go (A_call1 (args := [I64 1]) rfl (M_twistlocklaw27_tower_w 1 r18 hr18) tf_call_11 ⟨rfl, rfl, trivial⟩) rfl, trivial⟩ ?_ rfl
  refine D_ro (u := LS 9 Box.av [(Box.mk 1 ByteArray.empty 40 false 0 0 2 0 false), (Box.mk 2 ByteArray.empty 40 false 0 1 3 0 false)]) rfl rfl ⟨O_go (A_move rfl rfl) rfl, trivial⟩ ?_ rfl
  refine D_ro (u := LS 2 Group.av [(Group.mk 0 2), (Group.mk 1 3)]) rfl rfl ⟨O_go (A_move rfl rfl) rfl, trivial⟩ ?_ rfl
  refine D_ro (u := .dptr [I64 y19.Load, I64 y19.Discharge]) rfl rfl ⟨O_go (A_indexM (f := Group.av) (xs := [(Group.mk 0 2), (Group.mk 1 3)]) (y := y19) rfl rfl rfl tf_slice_56 hy19 hm20) rfl, trivial⟩ ?_ rfl
  refine D_ro (u := .agg [I64 y19.Load, I64 y19.Discharge]) rfl rfl ⟨O_go (A_loadAgg tf_agg_24 rfl rfl rfl) rfl, trivial⟩ ?_ rfl
  refine D_ro (u := LS 2 Group.av [(Group.mk 0 2), (Group.mk 1 3)]) rfl rfl ⟨O_go (A_move rfl rfl) rfl, trivial⟩ ?_ rfl
  refine D_ro (u := .dptr [I64 y21.Load, I64 y21.Discharge]) rfl rfl ⟨O_go (A_indexM (f := Group.av) (xs := [(Group.mk 0 2), (Group.mk 1 3)]) (y := y21) rfl rfl rfl tf_slice_56 hy21 hm22) rfl, trivial⟩ ?_ rfl
  refine D_ro (u := .agg [I64 y21.Load, I64 y21.Discharge]) rfl rfl ⟨O_go (A_loadAgg tf_agg_24 rfl rfl rfl) rfl, trivial⟩ ?_ rfl
  refine D_ro (u := LS 2 Group.av [y19, y21]) rfl rfl ⟨O_go (A_buildSlice (xs := [.agg [I64 y19.Load, I64 y19.Discharge], .agg [I64 y21.Load, I64 y21.Discharge]]) rfl ⟨rfl, rfl, rfl, rfl, trivial⟩ tf_slice_56 tf_zsize_24 rfl rfl rfl rfl) rfl, trivial⟩ ?_ rfl
  refine D_ro (u := .tup [I64 r23.1, I64 r23.2]) rfl rfl ⟨O_go (A_call1 (args := [.agg (Ship.cs r18), LS 9 Box.av [(Box.mk 1 ByteArray.empty 40 false 0 0 2 0 false), (Box.mk 2 ByteArray.empty 40 false 0 1 3 0 false)], LS 2 Group.av [y19, y21]]) rfl (M_bound_Family_w F r18 [(Box.mk 1 ByteArray.empty 40 false 0 0 2 0 false), (Box.mk 2 ByteArray.empty 40 false 0 1 3 0 false)] [y19, y21] r23 hr23) tf_call_10 ⟨rfl, rfl, rfl, rfl, rfl, rfl, trivial⟩) rfl, trivial⟩ ?_ rfl
  refine D_ro (u := .tup [I64 r23.1, I64 r23.2]) rfl rfl ⟨O_go (A_move rfl rfl) rfl, trivial⟩ ?_ rfl
  refine D_ro (u := I64 r23.1) rfl rfl ⟨O_go (A_extract rfl rfl rfl) rfl, trivial⟩ ?_ rfl
  refine D_ro (u := I64 r23.2) rfl rfl ⟨O_go (A_extract rfl rfl rfl) rfl, trivial⟩ ?_ rfl
  refine D_ro (u := I64 r23.1) rfl rfl ⟨O_go (A_assign rfl rfl) rfl, trivial⟩ ?_ rfl
  refine D_ro (u := I64 r23.2) rfl rfl ⟨O_go (A_assign rfl rfl) rfl, trivial⟩ ?_ rfl
  refine D_nil ?_
  refine hK17 _ _ ?_
  refine JC_seq (fun K24 hK24 => ?_)
  obtain ⟨r25, hr25, h⟩ := bnd_out h
  obtain ⟨m27, y26, hm27, hy26, h⟩ := gidx_out h
  obtain ⟨r28, hr28, h⟩ := bnd_out h
  refine JC_draw [] [0, 0, 0, 0, 0, 0, 0, 0, 0, 0, 0, 0, 0, 0] [0, 0, 0, 0, 0, 0, 0, 0, 0, 0, 0, 0, 0, 0] [[]] tf_mixed (by kernel_rfl) rfl rfl ?_
  refine D_ro (u := .agg (Ship.cs r25)) rfl rfl ⟨O_go (A_call1 (args := [I64 1]) rfl (M_twistlocklaw27_tower_w 1 r25 hr25) tf_call_11 ⟨rfl, rfl, trivial⟩) rfl, trivial⟩ ?_ rfl
  refine D_ro (u := LS 9 Box.av [(Box.mk 1 ByteArray.empty 40 false 0 0 2 0 false), (Box.mk 2 ByteArray.empty 40 false 0 1 3 0 false)]) rfl rfl ⟨O_go (A_move rfl rfl) rfl, trivial⟩ ?_ rfl
  refine D_ro (u := LS 2 Group.av [(Group.mk 0 2), (Group.mk 1 3)]) rfl rfl ⟨O_go (A_move rfl rfl) rfl, trivial⟩ ?_ rfl
  refine D_ro (u := LS 2 Group.av [(Group.mk 0 2), (Group.mk 1 3)]) rfl rfl ⟨O_go (A_move rfl rfl) rfl, trivial⟩ ?_ rfl
  refine D_ro (u := .dptr [I64 y26.Load, I64 y26.Discharge]) rfl rfl ⟨O_go (A_indexM (f := Group.av) (xs := [(Group.mk 0 2), (Group.mk 1 3)]) (y := y26) rfl rfl rfl tf_slice_56 hy26 hm27) rfl, trivial⟩ ?_ rfl
  refine D_ro (u := .agg [I64 y26.Load, I64 y26.Discharge]) rfl rfl ⟨O_go (A_loadAgg tf_agg_24 rfl rfl rfl) rfl, trivial⟩ ?_ rfl
  refine D_ro (u := LS 2 Group.av [y26]) rfl rfl ⟨O_go (A_buildSlice (xs := [.agg [I64 y26.Load, I64 y26.Discharge]]) rfl ⟨rfl, rfl, trivial⟩ tf_slice_56 tf_zsize_24 rfl rfl rfl rfl) rfl, trivial⟩ ?_ rfl
  refine D_ro (u := LS 1 (LS 2 Group.av) ([[(Group.mk 0 2), (Group.mk 1 3)], [y26]])) rfl rfl ⟨O_go (A_buildSlice (xs := [LS 2 Group.av [(Group.mk 0 2), (Group.mk 1 3)], LS 2 Group.av [y26]]) rfl ⟨rfl, rfl, rfl, rfl, trivial⟩ tf_slice_59 tf_zsize_56 rfl rfl rfl rfl) rfl, trivial⟩ ?_ rfl
  refine D_ro (u := .tup [I64 r28.1, I64 r28.2]) rfl rfl ⟨O_go (A_call1 (args := [.agg (Ship.cs r25), LS 9 Box.av [(Box.mk 1 ByteArray.empty 40 false 0 0 2 0 false), (Box.mk 2 ByteArray.empty 40 false 0 1 3 0 false)], LS 1 (LS 2 Group.av) ([[(Group.mk 0 2), (Group.mk 1 3)], [y26]])]) rfl (S_bound_Check_w.down F r25 [(Box.mk 1 ByteArray.empty 40 false 0 0 2 0 false), (Box.mk 2 ByteArray.empty 40 false 0 1 3 0 false)] ([[(Group.mk 0 2), (Group.mk 1 3)], [y26]]) r28 hr28) tf_call_13 ⟨rfl, rfl, rfl, rfl, rfl, rfl, trivial⟩) rfl, trivial⟩ ?_ rfl
  refine D_ro (u := .tup [I64 r28.1, I64 r28.2]) rfl rfl ⟨O_go (A_move rfl rfl) rfl, trivial⟩ ?_ rfl
  refine D_ro (u := I64 r28.1) rfl rfl ⟨O_go (A_extract rfl rfl rfl) rfl, trivial⟩ ?_ rfl
  refine D_ro (u := I64 r28.2) rfl rfl ⟨O_go (A_extract rfl rfl rfl) rfl, trivial⟩ ?_ rfl
  refine D_ro (u := I64 r28.1) rfl rfl ⟨O_go (A_assign rfl rfl) rfl, trivial⟩ ?_ rfl
  refine D_ro (u := I64 r28.2) rfl rfl ⟨O_go (A_assign rfl rfl) rfl, trivial⟩ ?_ rfl
  refine D_nil ?_
  refine hK24 _ _ ?_
  refine JC_seq (fun K29 hK29 => ?_)
  refine JC_region ?_
  obtain ⟨r30, hr30, h⟩ := bnd_out h
  refine JL_go (u := .agg (Ship.cs r30)) (A_call1 (args := [I64 1]) rfl (M_twistlocklaw27_tower_w 1 r30 hr30) tf_call_11 ⟨rfl, rfl, trivial⟩) ?_ rfl rfl rfl
  obtain ⟨r31, hr31, h⟩ := bnd_out h
  refine JL_go (u := .tup [I64 r31.1, I64 r31.2]) (A_call1 (args := [.agg (Ship.cs r30), I64 3, I64 1]) rfl (M_bound_Need_w r30 3 1 r31 hr31) tf_call_9 ⟨rfl, rfl, rfl, rfl, rfl, rfl, trivial⟩) ?_ rfl rfl rfl
  refine JL_go (u := .tup [I64 r31.1, I64 r31.2]) (A_move rfl rfl) ?_ rfl rfl rfl
  refine JL_go (u := I64 r31.1) (A_extract rfl rfl rfl) ?_ rfl rfl rfl
  refine JL_go (u := I64 r31.2) (A_extract rfl rfl rfl) ?_ rfl rfl rfl
  refine JL_go (u := I64 r31.1) (A_assign rfl rfl) ?_ rfl rfl rfl
  refine JL_go (u := I64 r31.2) (A_assign rfl rfl) ?_ rfl rfl rfl
  refine JL_nil ?_
  refine hK29 _ _ ?_
  refine JC_seq (fun K32 hK32 => ?_)
  obtain ⟨v33, hv33, h⟩ := chk_out h
  obtain ⟨v34, hv34, h⟩ := chk_out h
  obtain ⟨v35, hv35, h⟩ := chk_out h
  obtain ⟨v36, hv36, h⟩ := chk_out h
  obtain ⟨y37, hy37, h⟩ := bnd_out h
  obtain ⟨r38, hr38, h⟩ := bnd_out h
  obtain ⟨y39, hy39, h⟩ := bnd_out h
  obtain ⟨y40, hy40, h⟩ := bnd_out h
  obtain ⟨r41, hr41, h⟩ := bnd_out h
  obtain ⟨y42, hy42, h⟩ := bnd_out h
  obtain ⟨y43, hy43, h⟩ := bnd_out h
  obtain ⟨r44, hr44, h⟩ := bnd_out h
  obtain ⟨r45, hr45, h⟩ := bnd_out h
  refine JC_draw [] [0, 0, 0, 0, 0, 0, 0, 0, 0, 0, 0, 0, 0, 0, 0, 0, 0, 0, 0, 0, 0, 0, 0, 0, 0, 0, 0, 0, 0, 0, 0, 0, 0, 0, 0, 0, 0, 0, 0, 0, 0, 0, 0, 0, 0, 0, 0, 0, 0, 0, 0, 0, 0, 0, 0, 0, 0, 0, 0, 0, 0, 0, 0, 0, 0, 0, 0, 0, 0, 0, 0, 0, 0, 0, 0, 0] [0, 0, 0, 0, 0, 0, 0, 0, 0, 0, 0, 0, 0, 0, 0, 0, 0, 0, 0, 0, 0, 0, 0, 0, 0, 0, 0, 0, 0, 0, 0, 0, 0, 0, 0, 0, 0, 0, 0, 0, 0, 0, 0, 0, 0, 0, 0, 0, 0, 0, 0, 0, 0, 0, 0, 0, 0, 0, 0, 0, 0, 0, 0, 0, 0, 0, 0, 0, 0, 0, 0, 0, 0, 0, 0, 0] [[]] tf_mixed (by kernel_rfl) rfl rfl ?_
  refine D_ro (u := I64 r7.2) rfl rfl ⟨O_go (A_move rfl rfl) rfl, trivial⟩ ?_ rfl
  refine D_ro (u := I64 r10.2) rfl rfl ⟨O_go (A_move rfl rfl) rfl, trivial⟩ ?_ rfl
  refine D_ro (u := I64 v33) rfl rfl ⟨O_go (A_add hv33 rfl rfl rfl) rfl, trivial⟩ ?_ rfl
  refine D_ro (u := I64 r13.2) rfl rfl ⟨O_go (A_move rfl rfl) rfl, trivial⟩ ?_ rfl
  refine D_ro (u := I64 v34) rfl rfl ⟨O_go (A_add hv34 rfl rfl rfl) rfl, trivial⟩ ?_ rfl
  refine D_ro (u := I64 r16.2.2) rfl rfl ⟨O_go (A_move rfl rfl) rfl, trivial⟩ ?_ rfl
  refine D_ro (u := I64 v35) rfl rfl ⟨O_go (A_add hv35 rfl rfl rfl) rfl, trivial⟩ ?_ rfl
  refine D_ro (u := I64 r31.2) rfl rfl ⟨O_go (A_move rfl rfl) rfl, trivial⟩ ?_ rfl
  refine D_ro (u := I64 v36) rfl rfl ⟨O_go (A_add hv36 rfl rfl rfl) rfl, trivial⟩ ?_ rfl
  refine D_ro (u := BL (decide (v36 = 0))) rfl rfl ⟨O_go (A_eql rfl rfl rfl) rfl, trivial⟩ ?_ rfl
  refine D_ro (u := BL (decide (v36 = 0))) rfl rfl ⟨O_go (A_move rfl rfl) rfl, trivial⟩ ?_ rfl
  refine D_ro (u := .opt (decide (v36 = 0)) (I64 r7.1)) rfl rfl ⟨O_opt [] rfl rfl rfl .sct trivial (fun hc => A_move rfl rfl) rfl, trivial⟩ ?_ rfl
  refine D_ro (u := .opt (decide (v36 = 0)) (BL (decide (r7.1 = 1)))) rfl rfl ⟨O_opt [(99, I64 r7.1)] rfl rfl rfl .sct ⟨.all id, trivial⟩ (fun hc => A_eql rfl rfl rfl) rfl, trivial⟩ ?_ rfl
  refine D_ro (u := BL ((decide (v36 = 0)) && (decide (r7.1 = 1)))) rfl rfl ⟨O_go (A_and rfl rfl rfl rfl) rfl, trivial⟩ ?_ rfl
  refine D_ro (u := BL ((decide (v36 = 0)) && (decide (r7.1 = 1)))) rfl rfl ⟨O_go (A_move rfl rfl) rfl, trivial⟩ ?_ rfl
  refine D_ro (u := .opt ((decide (v36 = 0)) && (decide (r7.1 = 1))) (I64 r10.1)) rfl rfl ⟨O_opt [] rfl rfl rfl .sct trivial (fun hc => A_move rfl rfl) rfl, trivial⟩ ?_ rfl
  refine D_ro (u := .opt ((decide (v36 = 0)) && (decide (r7.1 = 1))) (BL (decide (r10.1 = 0)))) rfl rfl ⟨O_opt [(103, I64 r10.1)] rfl rfl rfl .sct ⟨.all id, trivial⟩ (fun hc => A_eql rfl rfl rfl) rfl, trivial⟩ ?_ rfl
  refine D_ro (u := BL (((decide (v36 = 0)) && (decide (r7.1 = 1))) && (decide (r10.1 = 0)))) rfl rfl ⟨O_go (A_and rfl rfl rfl rfl) rfl, trivial⟩ ?_ rfl
  refine D_ro (u := BL (((decide (v36 = 0)) && (decide (r7.1 = 1))) && (decide (r10.1 = 0)))) rfl rfl ⟨O_go (A_move rfl rfl) rfl, trivial⟩ ?_ rfl
  refine D_ro (u := .opt (((decide (v36 = 0)) && (decide (r7.1 = 1))) && (decide (r10.1 = 0))) (I64 r13.1)) rfl rfl ⟨O_opt [] rfl rfl rfl .sct trivial (fun hc => A_move rfl rfl) rfl, trivial⟩ ?_ rfl
  refine D_ro (u := .opt (((decide (v36 = 0)) && (decide (r7.1 = 1))) && (decide (r10.1 = 0))) (BL (decide (r13.1 = 1)))) rfl rfl ⟨O_opt [(107, I64 r13.1)] rfl rfl rfl .sct ⟨.all id, trivial⟩ (fun hc => A_eql rfl rfl rfl) rfl, trivial⟩ ?_ rfl
  refine D_ro (u := BL ((((decide (v36 = 0)) && (decide (r7.1 = 1))) && (decide (r10.1 = 0))) && (decide (r13.1 = 1)))) rfl rfl ⟨O_go (A_and rfl rfl rfl rfl) rfl, trivial⟩ ?_ rfl
  refine D_ro (u := BL ((((decide (v36 = 0)) && (decide (r7.1 = 1))) && (decide (r10.1 = 0))) && (decide (r13.1 = 1)))) rfl rfl ⟨O_go (A_move rfl rfl) rfl, trivial⟩ ?_ rfl
  refine D_ro (u := .opt ((((decide (v36 = 0)) && (decide (r7.1 = 1))) && (decide (r10.1 = 0))) && (decide (r13.1 = 1))) (I64 r16.2.1)) rfl rfl ⟨O_opt [] rfl rfl rfl .sct trivial (fun hc => A_move rfl rfl) rfl, trivial⟩ ?_ rfl
  refine D_ro (u := .opt ((((decide (v36 = 0)) && (decide (r7.1 = 1))) && (decide (r10.1 = 0))) && (decide (r13.1 = 1))) (BL (decide (r16.2.1 = 1)))) rfl rfl ⟨O_opt [(111, I64 r16.2.1)] rfl rfl rfl .sct ⟨.all id, trivial⟩ (fun hc => A_eql rfl rfl rfl) rfl, trivial⟩ ?_ rfl
  refine D_ro (u := BL (((((decide (v36 = 0)) && (decide (r7.1 = 1))) && (decide (r10.1 = 0))) && (decide (r13.1 = 1))) && (decide (r16.2.1 = 1)))) rfl rfl ⟨O_go (A_and rfl rfl rfl rfl) rfl, trivial⟩ ?_ rfl
  refine D_ro (u := BL (((((decide (v36 = 0)) && (decide (r7.1 = 1))) && (decide (r10.1 = 0))) && (decide (r13.1 = 1))) && (decide (r16.2.1 = 1)))) rfl rfl ⟨O_go (A_move rfl rfl) rfl, trivial⟩ ?_ rfl
  refine D_ro (u := .opt (((((decide (v36 = 0)) && (decide (r7.1 = 1))) && (decide (r10.1 = 0))) && (decide (r13.1 = 1))) && (decide (r16.2.1 = 1))) (LS 1 (LS 2 Group.av) r16.1)) rfl rfl ⟨O_opt [] rfl rfl rfl .sct trivial (fun hc => A_move rfl rfl) rfl, trivial⟩ ?_ rfl
  refine D_ro (u := .opt (((((decide (v36 = 0)) && (decide (r7.1 = 1))) && (decide (r10.1 = 0))) && (decide (r13.1 = 1))) && (decide (r16.2.1 = 1))) (I64 (r16.1.length : Int))) rfl rfl ⟨O_opt [(115, LS 1 (LS 2 Group.av) r16.1)] rfl rfl rfl .sct ⟨.all id, trivial⟩ (fun hc => A_lenM (f := (LS 2 Group.av)) (xs := r16.1) tf_slice_59 rfl rfl) rfl, trivial⟩ ?_ rfl
  refine D_ro (u := .opt (((((decide (v36 = 0)) && (decide (r7.1 = 1))) && (decide (r10.1 = 0))) && (decide (r13.1 = 1))) && (decide (r16.2.1 = 1))) (BL (decide ((r16.1.length : Int) = 1)))) rfl rfl ⟨O_opt [(116, I64 (r16.1.length : Int))] rfl rfl rfl .sct ⟨.all id, trivial⟩ (fun hc => A_eql rfl rfl rfl) rfl, trivial⟩ ?_ rfl
  refine D_ro (u := BL ((((((decide (v36 = 0)) && (decide (r7.1 = 1))) && (decide (r10.1 = 0))) && (decide (r13.1 = 1))) && (decide (r16.2.1 = 1))) && (decide ((r16.1.length : Int) = 1)))) rfl rfl ⟨O_go (A_and rfl rfl rfl rfl) rfl, trivial⟩ ?_ rfl
  refine D_ro (u := BL ((((((decide (v36 = 0)) && (decide (r7.1 = 1))) && (decide (r10.1 = 0))) && (decide (r13.1 = 1))) && (decide (r16.2.1 = 1))) && (decide ((r16.1.length : Int) = 1)))) rfl rfl ⟨O_go (A_move rfl rfl) rfl, trivial⟩ ?_ rfl
  refine D_ro (u := .opt ((((((decide (v36 = 0)) && (decide (r7.1 = 1))) && (decide (r10.1 = 0))) && (decide (r13.1 = 1))) && (decide (r16.2.1 = 1))) && (decide ((r16.1.length : Int) = 1))) (LS 1 (LS 2 Group.av) r16.1)) rfl rfl ⟨O_opt [] rfl rfl rfl .sct trivial (fun hc => A_move rfl rfl) rfl, trivial⟩ ?_ rfl
  refine D_ro (u := .opt ((((((decide (v36 = 0)) && (decide (r7.1 = 1))) && (decide (r10.1 = 0))) && (decide (r13.1 = 1))) && (decide (r16.2.1 = 1))) && (decide ((r16.1.length : Int) = 1))) (.dptr [LS 2 Group.av y37])) rfl rfl ⟨O_opt [(120, LS 1 (LS 2 Group.av) r16.1)] rfl rfl rfl .sct ⟨.all id, trivial⟩ (fun hc => (match gidx_some (bif_t hc hy37) with | ⟨_, hm_, hy_⟩ => A_indexM (f := (LS 2 Group.av)) (xs := r16.1) (y := y37) rfl rfl rfl tf_slice_59 hy_ hm_)) rfl, trivial⟩ ?_ rfl
  refine D_ro (u := .opt ((((((decide (v36 = 0)) && (decide (r7.1 = 1))) && (decide (r10.1 = 0))) && (decide (r13.1 = 1))) && (decide (r16.2.1 = 1))) && (decide ((r16.1.length : Int) = 1))) (LS 2 Group.av y37)) rfl rfl ⟨O_opt [(121, .dptr [LS 2 Group.av y37])] rfl rfl rfl .sct ⟨.all id, trivial⟩ (fun hc => A_load tf_scalar_56 rfl rfl rfl) rfl, trivial⟩ ?_ rfl
  refine D_ro (u := .opt ((((((decide (v36 = 0)) && (decide (r7.1 = 1))) && (decide (r10.1 = 0))) && (decide (r13.1 = 1))) && (decide (r16.2.1 = 1))) && (decide ((r16.1.length : Int) = 1))) (LS 2 Group.av [(Group.mk 0 2), (Group.mk 1 3)])) rfl rfl ⟨O_opt [] rfl rfl rfl .sct trivial (fun hc => A_move rfl rfl) rfl, trivial⟩ ?_ rfl
  refine D_ro (u := .opt ((((((decide (v36 = 0)) && (decide (r7.1 = 1))) && (decide (r10.1 = 0))) && (decide (r13.1 = 1))) && (decide (r16.2.1 = 1))) && (decide ((r16.1.length : Int) = 1))) (BL r38)) rfl rfl ⟨O_opt [(122, LS 2 Group.av y37), (123, LS 2 Group.av [(Group.mk 0 2), (Group.mk 1 3)])] rfl rfl rfl .sct ⟨.all id, .all id, trivial⟩ (fun hc => A_call1 (args := [LS 2 Group.av y37, LS 2 Group.av [(Group.mk 0 2), (Group.mk 1 3)]]) rfl (M_twistlockkit_SameGroups_w y37 [(Group.mk 0 2), (Group.mk 1 3)] r38 (bif_t hc hr38)) tf_call_14 ⟨rfl, rfl, rfl, rfl, trivial⟩) rfl, trivial⟩ ?_ rfl
  refine D_ro (u := BL (((((((decide (v36 = 0)) && (decide (r7.1 = 1))) && (decide (r10.1 = 0))) && (decide (r13.1 = 1))) && (decide (r16.2.1 = 1))) && (decide ((r16.1.length : Int) = 1))) && r38)) rfl rfl ⟨O_go (A_and rfl rfl rfl rfl) rfl, trivial⟩ ?_ rfl
  refine D_ro (u := BL (((((((decide (v36 = 0)) && (decide (r7.1 = 1))) && (decide (r10.1 = 0))) && (decide (r13.1 = 1))) && (decide (r16.2.1 = 1))) && (decide ((r16.1.length : Int) = 1))) && r38)) rfl rfl ⟨O_go (A_move rfl rfl) rfl, trivial⟩ ?_ rfl
  refine D_ro (u := .opt (((((((decide (v36 = 0)) && (decide (r7.1 = 1))) && (decide (r10.1 = 0))) && (decide (r13.1 = 1))) && (decide (r16.2.1 = 1))) && (decide ((r16.1.length : Int) = 1))) && r38) (I64 r23.2)) rfl rfl ⟨O_opt [] rfl rfl rfl .sct trivial (fun hc => A_move rfl rfl) rfl, trivial⟩ ?_ rfl
  refine D_ro (u := .opt (((((((decide (v36 = 0)) && (decide (r7.1 = 1))) && (decide (r10.1 = 0))) && (decide (r13.1 = 1))) && (decide (r16.2.1 = 1))) && (decide ((r16.1.length : Int) = 1))) && r38) (BL (decide (r23.2 = 270)))) rfl rfl ⟨O_opt [(127, I64 r23.2)] rfl rfl rfl .sct ⟨.all id, trivial⟩ (fun hc => A_eql rfl rfl rfl) rfl, trivial⟩ ?_ rfl
  refine D_ro (u := BL ((((((((decide (v36 = 0)) && (decide (r7.1 = 1))) && (decide (r10.1 = 0))) && (decide (r13.1 = 1))) && (decide (r16.2.1 = 1))) && (decide ((r16.1.length : Int) = 1))) && r38) && (decide (r23.2 = 270)))) rfl rfl ⟨O_go (A_and rfl rfl rfl rfl) rfl, trivial⟩ ?_ rfl
  refine D_ro (u := BL ((((((((decide (v36 = 0)) && (decide (r7.1 = 1))) && (decide (r10.1 = 0))) && (decide (r13.1 = 1))) && (decide (r16.2.1 = 1))) && (decide ((r16.1.length : Int) = 1))) && r38) && (decide (r23.2 = 270)))) rfl rfl ⟨O_go (A_move rfl rfl) rfl, trivial⟩ ?_ rfl
  refine D_ro (u := .opt ((((((((decide (v36 = 0)) && (decide (r7.1 = 1))) && (decide (r10.1 = 0))) && (decide (r13.1 = 1))) && (decide (r16.2.1 = 1))) && (decide ((r16.1.length : Int) = 1))) && r38) && (decide (r23.2 = 270))) (I64 r28.2)) rfl rfl ⟨O_opt [] rfl rfl rfl .sct trivial (fun hc => A_move rfl rfl) rfl, trivial⟩ ?_ rfl
  refine D_ro (u := .opt ((((((((decide (v36 = 0)) && (decide (r7.1 = 1))) && (decide (r10.1 = 0))) && (decide (r13.1 = 1))) && (decide (r16.2.1 = 1))) && (decide ((r16.1.length : Int) = 1))) && r38) && (decide (r23.2 = 270))) (BL (decide (r28.2 = 271)))) rfl rfl ⟨O_opt [(131, I64 r28.2)] rfl rfl rfl .sct ⟨.all id, trivial⟩ (fun hc => A_eql rfl rfl rfl) rfl, trivial⟩ ?_ rfl
  refine D_ro (u := BL (((((((((decide (v36 = 0)) && (decide (r7.1 = 1))) && (decide (r10.1 = 0))) && (decide (r13.1 = 1))) && (decide (r16.2.1 = 1))) && (decide ((r16.1.length : Int) = 1))) && r38) && (decide (r23.2 = 270))) && (decide (r28.2 = 271)))) rfl rfl ⟨O_go (A_and rfl rfl rfl rfl) rfl, trivial⟩ ?_ rfl
  refine D_ro (u := BL (((((((((decide (v36 = 0)) && (decide (r7.1 = 1))) && (decide (r10.1 = 0))) && (decide (r13.1 = 1))) && (decide (r16.2.1 = 1))) && (decide ((r16.1.length : Int) = 1))) && r38) && (decide (r23.2 = 270))) && (decide (r28.2 = 271)))) rfl rfl ⟨O_go (A_move rfl rfl) rfl, trivial⟩ ?_ rfl
  refine D_ro (u := .opt (((((((((decide (v36 = 0)) && (decide (r7.1 = 1))) && (decide (r10.1 = 0))) && (decide (r13.1 = 1))) && (decide (r16.2.1 = 1))) && (decide ((r16.1.length : Int) = 1))) && r38) && (decide (r23.2 = 270))) && (decide (r28.2 = 271))) (I64 r31.1)) rfl rfl ⟨O_opt [] rfl rfl rfl .sct trivial (fun hc => A_move rfl rfl) rfl, trivial⟩ ?_ rfl
  refine D_ro (u := .opt (((((((((decide (v36 = 0)) && (decide (r7.1 = 1))) && (decide (r10.1 = 0))) && (decide (r13.1 = 1))) && (decide (r16.2.1 = 1))) && (decide ((r16.1.length : Int) = 1))) && r38) && (decide (r23.2 = 270))) && (decide (r28.2 = 271))) (BL (decide (r31.1 = 4)))) rfl rfl ⟨O_opt [(135, I64 r31.1)] rfl rfl rfl .sct ⟨.all id, trivial⟩ (fun hc => A_eql rfl rfl rfl) rfl, trivial⟩ ?_ rfl
  refine D_ro (u := BL ((((((((((decide (v36 = 0)) && (decide (r7.1 = 1))) && (decide (r10.1 = 0))) && (decide (r13.1 = 1))) && (decide (r16.2.1 = 1))) && (decide ((r16.1.length : Int) = 1))) && r38) && (decide (r23.2 = 270))) && (decide (r28.2 = 271))) && (decide (r31.1 = 4)))) rfl rfl ⟨O_go (A_and rfl rfl rfl rfl) rfl, trivial⟩ ?_ rfl
  refine D_ro (u := BL ((((((((((decide (v36 = 0)) && (decide (r7.1 = 1))) && (decide (r10.1 = 0))) && (decide (r13.1 = 1))) && (decide (r16.2.1 = 1))) && (decide ((r16.1.length : Int) = 1))) && r38) && (decide (r23.2 = 270))) && (decide (r28.2 = 271))) && (decide (r31.1 = 4)))) rfl rfl ⟨O_go (A_move rfl rfl) rfl, trivial⟩ ?_ rfl
  refine D_ro (u := .opt ((((((((((decide (v36 = 0)) && (decide (r7.1 = 1))) && (decide (r10.1 = 0))) && (decide (r13.1 = 1))) && (decide (r16.2.1 = 1))) && (decide ((r16.1.length : Int) = 1))) && r38) && (decide (r23.2 = 270))) && (decide (r28.2 = 271))) && (decide (r31.1 = 4))) (LS 2 Group.av [(Group.mk 0 2), (Group.mk 1 3)])) rfl rfl ⟨O_opt [] rfl rfl rfl .sct trivial (fun hc => A_move rfl rfl) rfl, trivial⟩ ?_ rfl
  refine D_ro (u := .opt ((((((((((decide (v36 = 0)) && (decide (r7.1 = 1))) && (decide (r10.1 = 0))) && (decide (r13.1 = 1))) && (decide (r16.2.1 = 1))) && (decide ((r16.1.length : Int) = 1))) && r38) && (decide (r23.2 = 270))) && (decide (r28.2 = 271))) && (decide (r31.1 = 4))) (.dptr [I64 y39.Load, I64 y39.Discharge])) rfl rfl ⟨O_opt [(139, LS 2 Group.av [(Group.mk 0 2), (Group.mk 1 3)])] rfl rfl rfl .sct ⟨.all id, trivial⟩ (fun hc => (match gidx_some (bif_t hc hy39) with | ⟨_, hm_, hy_⟩ => A_indexM (f := Group.av) (xs := [(Group.mk 0 2), (Group.mk 1 3)]) (y := y39) rfl rfl rfl tf_slice_56 hy_ hm_)) rfl, trivial⟩ ?_ rfl
  refine D_ro (u := .opt ((((((((((decide (v36 = 0)) && (decide (r7.1 = 1))) && (decide (r10.1 = 0))) && (decide (r13.1 = 1))) && (decide (r16.2.1 = 1))) && (decide ((r16.1.length : Int) = 1))) && r38) && (decide (r23.2 = 270))) && (decide (r28.2 = 271))) && (decide (r31.1 = 4))) (.agg [I64 y39.Load, I64 y39.Discharge])) rfl rfl ⟨O_opt [(140, .dptr [I64 y39.Load, I64 y39.Discharge])] rfl rfl rfl .sct ⟨.all id, trivial⟩ (fun hc => A_loadAgg tf_agg_24 rfl rfl rfl) rfl, trivial⟩ ?_ rfl
  refine D_ro (u := .opt ((((((((((decide (v36 = 0)) && (decide (r7.1 = 1))) && (decide (r10.1 = 0))) && (decide (r13.1 = 1))) && (decide (r16.2.1 = 1))) && (decide ((r16.1.length : Int) = 1))) && r38) && (decide (r23.2 = 270))) && (decide (r28.2 = 271))) && (decide (r31.1 = 4))) (LS 2 Group.av [(Group.mk 0 2), (Group.mk 1 3)])) rfl rfl ⟨O_opt [] rfl rfl rfl .sct trivial (fun hc => A_move rfl rfl) rfl, trivial⟩ ?_ rfl
  refine D_ro (u := .opt ((((((((((decide (v36 = 0)) && (decide (r7.1 = 1))) && (decide (r10.1 = 0))) && (decide (r13.1 = 1))) && (decide (r16.2.1 = 1))) && (decide ((r16.1.length : Int) = 1))) && r38) && (decide (r23.2 = 270))) && (decide (r28.2 = 271))) && (decide (r31.1 = 4))) (.dptr [I64 y40.Load, I64 y40.Discharge])) rfl rfl ⟨O_opt [(142, LS 2 Group.av [(Group.mk 0 2), (Group.mk 1 3)])] rfl rfl rfl .sct ⟨.all id, trivial⟩ (fun hc => (match gidx_some (bif_t hc hy40) with | ⟨_, hm_, hy_⟩ => A_indexM (f := Group.av) (xs := [(Group.mk 0 2), (Group.mk 1 3)]) (y := y40) rfl rfl rfl tf_slice_56 hy_ hm_)) rfl, trivial⟩ ?_ rfl
  refine D_ro (u := .opt ((((((((((decide (v36 = 0)) && (decide (r7.1 = 1))) && (decide (r10.1 = 0))) && (decide (r13.1 = 1))) && (decide (r16.2.1 = 1))) && (decide ((r16.1.length : Int) = 1))) && r38) && (decide (r23.2 = 270))) && (decide (r28.2 = 271))) && (decide (r31.1 = 4))) (.agg [I64 y40.Load, I64 y40.Discharge])) rfl rfl ⟨O_opt [(143, .dptr [I64 y40.Load, I64 y40.Discharge])] rfl rfl rfl .sct ⟨.all id, trivial⟩ (fun hc => A_loadAgg tf_agg_24 rfl rfl rfl) rfl, trivial⟩ ?_ rfl
  refine D_ro (u := .opt ((((((((((decide (v36 = 0)) && (decide (r7.1 = 1))) && (decide (r10.1 = 0))) && (decide (r13.1 = 1))) && (decide (r16.2.1 = 1))) && (decide ((r16.1.length : Int) = 1))) && r38) && (decide (r23.2 = 270))) && (decide (r28.2 = 271))) && (decide (r31.1 = 4))) (BL r41)) rfl rfl ⟨O_opt [(141, .agg [I64 y39.Load, I64 y39.Discharge]), (144, .agg [I64 y40.Load, I64 y40.Discharge])] rfl rfl rfl .sct ⟨.all id, .all id, trivial⟩ (fun hc => A_call1 (args := [.agg [I64 y39.Load, I64 y39.Discharge], .agg [I64 y40.Load, I64 y40.Discharge]]) rfl (M_bound_Cross_w y39 y40 r41 (bif_t hc hr41)) tf_call_7 ⟨rfl, rfl, rfl, rfl, trivial⟩) rfl, trivial⟩ ?_ rfl
  refine D_ro (u := BL (((((((((((decide (v36 = 0)) && (decide (r7.1 = 1))) && (decide (r10.1 = 0))) && (decide (r13.1 = 1))) && (decide (r16.2.1 = 1))) && (decide ((r16.1.length : Int) = 1))) && r38) && (decide (r23.2 = 270))) && (decide (r28.2 = 271))) && (decide (r31.1 = 4))) && r41)) rfl rfl ⟨O_go (A_and rfl rfl rfl rfl) rfl, trivial⟩ ?_ rfl
  refine D_ro (u := BL (((((((((((decide (v36 = 0)) && (decide (r7.1 = 1))) && (decide (r10.1 = 0))) && (decide (r13.1 = 1))) && (decide (r16.2.1 = 1))) && (decide ((r16.1.length : Int) = 1))) && r38) && (decide (r23.2 = 270))) && (decide (r28.2 = 271))) && (decide (r31.1 = 4))) && r41)) rfl rfl ⟨O_go (A_move rfl rfl) rfl, trivial⟩ ?_ rfl
  refine D_ro (u := .opt (((((((((((decide (v36 = 0)) && (decide (r7.1 = 1))) && (decide (r10.1 = 0))) && (decide (r13.1 = 1))) && (decide (r16.2.1 = 1))) && (decide ((r16.1.length : Int) = 1))) && r38) && (decide (r23.2 = 270))) && (decide (r28.2 = 271))) && (decide (r31.1 = 4))) && r41) (LS 2 Group.av [(Group.mk 0 2), (Group.mk 1 3)])) rfl rfl ⟨O_opt [] rfl rfl rfl .sct trivial (fun hc => A_move rfl rfl) rfl, trivial⟩ ?_ rfl
  refine D_ro (u := .opt (((((((((((decide (v36 = 0)) && (decide (r7.1 = 1))) && (decide (r10.1 = 0))) && (decide (r13.1 = 1))) && (decide (r16.2.1 = 1))) && (decide ((r16.1.length : Int) = 1))) && r38) && (decide (r23.2 = 270))) && (decide (r28.2 = 271))) && (decide (r31.1 = 4))) && r41) (.dptr [I64 y42.Load, I64 y42.Discharge])) rfl rfl ⟨O_opt [(148, LS 2 Group.av [(Group.mk 0 2), (Group.mk 1 3)])] rfl rfl rfl .sct ⟨.all id, trivial⟩ (fun hc => (match gidx_some (bif_t hc hy42) with | ⟨_, hm_, hy_⟩ => A_indexM (f := Group.av) (xs := [(Group.mk 0 2), (Group.mk 1 3)]) (y := y42) rfl rfl rfl tf_slice_56 hy_ hm_)) rfl, trivial⟩ ?_ rfl
  refine D_ro (u := .opt (((((((((((decide (v36 = 0)) && (decide (r7.1 = 1))) && (decide (r10.1 = 0))) && (decide (r13.1 = 1))) && (decide (r16.2.1 = 1))) && (decide ((r16.1.length : Int) = 1))) && r38) && (decide (r23.2 = 270))) && (decide (r28.2 = 271))) && (decide (r31.1 = 4))) && r41) (.agg [I64 y42.Load, I64 y42.Discharge])) rfl rfl ⟨O_opt [(149, .dptr [I64 y42.Load, I64 y42.Discharge])] rfl rfl rfl .sct ⟨.all id, trivial⟩ (fun hc => A_loadAgg tf_agg_24 rfl rfl rfl) rfl, trivial⟩ ?_ rfl
  refine D_ro (u := .opt (((((((((((decide (v36 = 0)) && (decide (r7.1 = 1))) && (decide (r10.1 = 0))) && (decide (r13.1 = 1))) && (decide (r16.2.1 = 1))) && (decide ((r16.1.length : Int) = 1))) && r38) && (decide (r23.2 = 270))) && (decide (r28.2 = 271))) && (decide (r31.1 = 4))) && r41) (LS 2 Group.av [(Group.mk 0 2), (Group.mk 1 3)])) rfl rfl ⟨O_opt [] rfl rfl rfl .sct trivial (fun hc => A_move rfl rfl) rfl, trivial⟩ ?_ rfl
  refine D_ro (u := .opt (((((((((((decide (v36 = 0)) && (decide (r7.1 = 1))) && (decide (r10.1 = 0))) && (decide (r13.1 = 1))) && (decide (r16.2.1 = 1))) && (decide ((r16.1.length : Int) = 1))) && r38) && (decide (r23.2 = 270))) && (decide (r28.2 = 271))) && (decide (r31.1 = 4))) && r41) (.dptr [I64 y43.Load, I64 y43.Discharge])) rfl rfl ⟨O_opt [(151, LS 2 Group.av [(Group.mk 0 2), (Group.mk 1 3)])] rfl rfl rfl .sct ⟨.all id, trivial⟩ (fun hc => (match gidx_some (bif_t hc hy43) with | ⟨_, hm_, hy_⟩ => A_indexM (f := Group.av) (xs := [(Group.mk 0 2), (Group.mk 1 3)]) (y := y43) rfl rfl rfl tf_slice_56 hy_ hm_)) rfl, trivial⟩ ?_ rfl
  refine D_ro (u := .opt (((((((((((decide (v36 = 0)) && (decide (r7.1 = 1))) && (decide (r10.1 = 0))) && (decide (r13.1 = 1))) && (decide (r16.2.1 = 1))) && (decide ((r16.1.length : Int) = 1))) && r38) && (decide (r23.2 = 270))) && (decide (r28.2 = 271))) && (decide (r31.1 = 4))) && r41) (.agg [I64 y43.Load, I64 y43.Discharge])) rfl rfl ⟨O_opt [(152, .dptr [I64 y43.Load, I64 y43.Discharge])] rfl rfl rfl .sct ⟨.all id, trivial⟩ (fun hc => A_loadAgg tf_agg_24 rfl rfl rfl) rfl, trivial⟩ ?_ rfl
  refine D_ro (u := .opt (((((((((((decide (v36 = 0)) && (decide (r7.1 = 1))) && (decide (r10.1 = 0))) && (decide (r13.1 = 1))) && (decide (r16.2.1 = 1))) && (decide ((r16.1.length : Int) = 1))) && r38) && (decide (r23.2 = 270))) && (decide (r28.2 = 271))) && (decide (r31.1 = 4))) && r41) (BL r44)) rfl rfl ⟨O_opt [(150, .agg [I64 y42.Load, I64 y42.Discharge]), (153, .agg [I64 y43.Load, I64 y43.Discharge])] rfl rfl rfl .sct ⟨.all id, .all id, trivial⟩ (fun hc => A_call1 (args := [.agg [I64 y42.Load, I64 y42.Discharge], .agg [I64 y43.Load, I64 y43.Discharge]]) rfl (M_bound_Cross_w y42 y43 r44 (bif_t hc hr44)) tf_call_7 ⟨rfl, rfl, rfl, rfl, trivial⟩) rfl, trivial⟩ ?_ rfl
  refine D_ro (u := .opt (((((((((((decide (v36 = 0)) && (decide (r7.1 = 1))) && (decide (r10.1 = 0))) && (decide (r13.1 = 1))) && (decide (r16.2.1 = 1))) && (decide ((r16.1.length : Int) = 1))) && r38) && (decide (r23.2 = 270))) && (decide (r28.2 = 271))) && (decide (r31.1 = 4))) && r41) (BL (!r44))) rfl rfl ⟨O_opt [(154, BL r44)] rfl rfl rfl .sct ⟨.all id, trivial⟩ (fun hc => A_not rfl rfl) rfl, trivial⟩ ?_ rfl
  refine D_ro (u := BL ((((((((((((decide (v36 = 0)) && (decide (r7.1 = 1))) && (decide (r10.1 = 0))) && (decide (r13.1 = 1))) && (decide (r16.2.1 = 1))) && (decide ((r16.1.length : Int) = 1))) && r38) && (decide (r23.2 = 270))) && (decide (r28.2 = 271))) && (decide (r31.1 = 4))) && r41) && (!r44))) rfl rfl ⟨O_go (A_and rfl rfl rfl rfl) rfl, trivial⟩ ?_ rfl
  refine D_ro (u := BL ((((((((((((decide (v36 = 0)) && (decide (r7.1 = 1))) && (decide (r10.1 = 0))) && (decide (r13.1 = 1))) && (decide (r16.2.1 = 1))) && (decide ((r16.1.length : Int) = 1))) && r38) && (decide (r23.2 = 270))) && (decide (r28.2 = 271))) && (decide (r31.1 = 4))) && r41) && (!r44))) rfl rfl ⟨O_go (A_move rfl rfl) rfl, trivial⟩ ?_ rfl
  refine D_ro (u := .opt ((((((((((((decide (v36 = 0)) && (decide (r7.1 = 1))) && (decide (r10.1 = 0))) && (decide (r13.1 = 1))) && (decide (r16.2.1 = 1))) && (decide ((r16.1.length : Int) = 1))) && r38) && (decide (r23.2 = 270))) && (decide (r28.2 = 271))) && (decide (r31.1 = 4))) && r41) && (!r44)) (LS 9 Box.av [(Box.mk 1 ByteArray.empty 20 false 0 0 2 0 false), (Box.mk 2 ByteArray.empty 20 false 0 0 2 0 false), (Box.mk 3 ByteArray.empty 20 false 0 0 2 0 false), (Box.mk 4 ByteArray.empty 20 false 0 1 3 0 false)])) rfl rfl ⟨O_opt [] rfl rfl rfl .sct trivial (fun hc => A_move rfl rfl) rfl, trivial⟩ ?_ rfl
  refine D_ro (u := .opt ((((((((((((decide (v36 = 0)) && (decide (r7.1 = 1))) && (decide (r10.1 = 0))) && (decide (r13.1 = 1))) && (decide (r16.2.1 = 1))) && (decide ((r16.1.length : Int) = 1))) && r38) && (decide (r23.2 = 270))) && (decide (r28.2 = 271))) && (decide (r31.1 = 4))) && r41) && (!r44)) (LS 4 bound_Count.av r45)) rfl rfl ⟨O_opt [(158, LS 9 Box.av [(Box.mk 1 ByteArray.empty 20 false 0 0 2 0 false), (Box.mk 2 ByteArray.empty 20 false 0 0 2 0 false), (Box.mk 3 ByteArray.empty 20 false 0 0 2 0 false), (Box.mk 4 ByteArray.empty 20 false 0 1 3 0 false)])] rfl rfl rfl .sct ⟨.all id, trivial⟩ (fun hc => A_call1 (args := [LS 9 Box.av [(Box.mk 1 ByteArray.empty 20 false 0 0 2 0 false), (Box.mk 2 ByteArray.empty 20 false 0 0 2 0 false), (Box.mk 3 ByteArray.empty 20 false 0 0 2 0 false), (Box.mk 4 ByteArray.empty 20 false 0 1 3 0 false)]]) rfl (S_bound_Groups_w.down [(Box.mk 1 ByteArray.empty 20 false 0 0 2 0 false), (Box.mk 2 ByteArray.empty 20 false 0 0 2 0 false), (Box.mk 3 ByteArray.empty 20 false 0 0 2 0 false), (Box.mk 4 ByteArray.empty 20 false 0 1 3 0 false)] r45 (bif_t hc hr45)) tf_call_6 ⟨rfl, rfl, trivial⟩) rfl, trivial⟩ ?_ rfl
  refine D_ro (u := .opt ((((((((((((decide (v36 = 0)) && (decide (r7.1 = 1))) && (decide (r10.1 = 0))) && (decide (r13.1 = 1))) && (decide (r16.2.1 = 1))) && (decide ((r16.1.length : Int) = 1))) && r38) && (decide (r23.2 = 270))) && (decide (r28.2 = 271))) && (decide (r31.1 = 4))) && r41) && (!r44)) (I64 (r45.length : Int))) rfl rfl ⟨O_opt [(159, LS 4 bound_Count.av r45)] rfl rfl rfl .sct ⟨.all id, trivial⟩ (fun hc => A_lenM (f := bound_Count.av) (xs := r45) tf_slice_26 rfl rfl) rfl, trivial⟩ ?_ rfl
  refine D_ro (u := .opt ((((((((((((decide (v36 = 0)) && (decide (r7.1 = 1))) && (decide (r10.1 = 0))) && (decide (r13.1 = 1))) && (decide (r16.2.1 = 1))) && (decide ((r16.1.length : Int) = 1))) && r38) && (decide (r23.2 = 270))) && (decide (r28.2 = 271))) && (decide (r31.1 = 4))) && r41) && (!r44)) (BL (decide ((r45.length : Int) = 2)))) rfl rfl ⟨O_opt [(160, I64 (r45.length : Int))] rfl rfl rfl .sct ⟨.all id, trivial⟩ (fun hc => A_eql rfl rfl rfl) rfl, trivial⟩ ?_ rfl
  refine D_ro (u := BL (((((((((((((decide (v36 = 0)) && (decide (r7.1 = 1))) && (decide (r10.1 = 0))) && (decide (r13.1 = 1))) && (decide (r16.2.1 = 1))) && (decide ((r16.1.length : Int) = 1))) && r38) && (decide (r23.2 = 270))) && (decide (r28.2 = 271))) && (decide (r31.1 = 4))) && r41) && (!r44)) && (decide ((r45.length : Int) = 2)))) rfl rfl ⟨O_go (A_and rfl rfl rfl rfl) rfl, trivial⟩ ?_ rfl
  refine D_ro (u := BL (((((((((((((decide (v36 = 0)) && (decide (r7.1 = 1))) && (decide (r10.1 = 0))) && (decide (r13.1 = 1))) && (decide (r16.2.1 = 1))) && (decide ((r16.1.length : Int) = 1))) && r38) && (decide (r23.2 = 270))) && (decide (r28.2 = 271))) && (decide (r31.1 = 4))) && r41) && (!r44)) && (decide ((r45.length : Int) = 2)))) rfl rfl ⟨O_go (A_assign rfl rfl) rfl, trivial⟩ ?_ rfl
  refine D_nil ?_
  refine hK32 _ _ ?_
  refine JC_ret ?_
  exact ⟨[BL (((((((((((((decide (v36 = 0)) && (decide (r7.1 = 1))) && (decide (r10.1 = 0))) && (decide (r13.1 = 1))) && (decide (r16.2.1 = 1))) && (decide ((r16.1.length : Int) = 1))) && r38) && (decide (r23.2 = 270))) && (decide (r28.2 = 271))) && (decide (r31.1 = 4))) && r41) && (!r44)) && (decide ((r45.length : Int) = 2)))], [], trivial, rfl, ⟨⟨_, rfl, .conv (.same rfl)⟩, trivial⟩, rfl, congrArg (fun r : Bool => (BL r : AV)) (Option.some.inj h)⟩

def M_twistlocklaw27_BoundGroups (F : Nat) (boxes : List Box) (a : Group) (b : Group) : Option Bool :=
  bif decide (40 < (boxes.length : Int)) then
  (bnd (M_twistlocklaw27_awake F) fun r5 =>
    some r5)
  else
  (bnd (S_bound_Groups boxes) fun r7 =>
    each (fun y11 i11 (s11 : Int × Int) nx11 =>
      each (fun y41 i41 (s41 : Int × Int) nx41 =>
        jp (fun kj44 =>
          bif ((decide (y41.Load = y11.Group.Load)) && (decide (y41.Discharge = y11.Group.Discharge))) then
          (bif decide (y41.Size = 40) then
            (chk (s41.1 + 1) fun v49 =>
              kj44 (v49, s41.2))
            else
            (bif decide (y41.Size = 20) then
              (chk (s41.2 + 1) fun v51 =>
                kj44 (s41.1, v51))
              else
              (kj44 (s41.1, s41.2))))
          else
          (kj44 (s41.1, s41.2))) fun (j44 : Int × Int) =>
        nx41 (j44.1, j44.2))
      (fun (s41 : Int × Int) =>
        bnd (bif (!((decide (s41.1 ≠ y11.Whole)) || (decide (s41.2 ≠ y11.Half)))) then chk (s41.1 + s41.2) some else some 0) fun v54 =>
        bnd (bif ((!(((decide (s41.1 ≠ y11.Whole)) || (decide (s41.2 ≠ y11.Half))) || (decide (v54 = 0)))) && (decide (0 < (i11 : Int)))) then chk ((i11 : Int) - 1) some else some 0) fun v55 =>
        bnd (bif ((!(((decide (s41.1 ≠ y11.Whole)) || (decide (s41.2 ≠ y11.Half))) || (decide (v54 = 0)))) && (decide (0 < (i11 : Int)))) then gidx r7 v55 some else some default) fun y56 =>
        bnd (bif (((!(((decide (s41.1 ≠ y11.Whole)) || (decide (s41.2 ≠ y11.Half))) || (decide (v54 = 0)))) && (decide (0 < (i11 : Int)))) && !(decide (y56.Group.Load < y11.Group.Load))) then chk ((i11 : Int) - 1) some else some 0) fun v57 =>
        bnd (bif (((!(((decide (s41.1 ≠ y11.Whole)) || (decide (s41.2 ≠ y11.Half))) || (decide (v54 = 0)))) && (decide (0 < (i11 : Int)))) && !(decide (y56.Group.Load < y11.Group.Load))) then gidx r7 v57 some else some default) fun y58 =>
        bnd (bif ((((!(((decide (s41.1 ≠ y11.Whole)) || (decide (s41.2 ≠ y11.Half))) || (decide (v54 = 0)))) && (decide (0 < (i11 : Int)))) && !(decide (y56.Group.Load < y11.Group.Load))) && (decide (y58.Group.Load = y11.Group.Load))) then chk ((i11 : Int) - 1) some else some 0) fun v59 =>
        bnd (bif ((((!(((decide (s41.1 ≠ y11.Whole)) || (decide (s41.2 ≠ y11.Half))) || (decide (v54 = 0)))) && (decide (0 < (i11 : Int)))) && !(decide (y56.Group.Load < y11.Group.Load))) && (decide (y58.Group.Load = y11.Group.Load))) then gidx r7 v59 some else some default) fun y60 =>
        bif ((((decide (s41.1 ≠ y11.Whole)) || (decide (s41.2 ≠ y11.Half))) || (decide (v54 = 0))) || ((decide (0 < (i11 : Int))) && (!((decide (y56.Group.Load < y11.Group.Load)) || ((decide (y58.Group.Load = y11.Group.Load)) && (decide (y60.Group.Discharge < y11.Group.Discharge))))))) then
        (some false)
        else
        (chk (s11.1 + s41.1) fun v62 =>
          chk (s11.2 + s41.2) fun v63 =>
          nx11 (v62, v63))) boxes 0 (0, 0))
    (fun (s11 : Int × Int) =>
      each (fun y86 i86 (s86 : Int × Int) nx86 =>
        jp (fun kj89 =>
          bif decide (y86.Size = 40) then
          (chk (s86.1 - 1) fun v93 =>
            kj89 (v93, s86.2))
          else
          (bif decide (y86.Size = 20) then
            (chk (s86.2 - 1) fun v95 =>
              kj89 (s86.1, v95))
            else
            (kj89 (s86.1, s86.2)))) fun (j89 : Int × Int) =>
        nx86 (j89.1, j89.2))
      (fun (s86 : Int × Int) =>
        bnd (bif ((decide (s86.1 = 0)) && (decide (s86.2 = 0))) then M_bound_Cross a a else some default) fun r97 =>
        bnd (bif (((decide (s86.1 = 0)) && (decide (s86.2 = 0))) && (!r97)) then M_bound_Cross a b else some default) fun r98 =>
        bnd (bif ((((decide (s86.1 = 0)) && (decide (s86.2 = 0))) && (!r97)) && r98) then M_bound_Cross b a else some default) fun r99 =>
        bnd (bif ((((decide (s86.1 = 0)) && (decide (s86.2 = 0))) && (!r97)) && (!(r98 && r99))) then M_twistlocklaw27_awake F else some default) fun r100 =>
        some (((((decide (s86.1 = 0)) && (decide (s86.2 = 0))) && (!r97)) && (!(r98 && r99))) && r100)) boxes 0 (s11.1, s11.2)) r7 0 (0, 0))
theorem M_twistlocklaw27_BoundGroups_w (F : Nat) (boxes : List Box) (a : Group) (b : Group) (r : Bool) (h : M_twistlocklaw27_BoundGroups F boxes a b = some r) : Pure Try.prog 3 [LS 9 Box.av boxes, .agg [I64 a.Load, I64 a.Discharge], .agg [I64 b.Load, I64 b.Discharge]] (· = BL r) := by
  unfold M_twistlocklaw27_BoundGroups at h
  refine Pure_ofG [.tmp 6] Try.func3 rfl rfl ?_
  refine JC_seq (fun K1 hK1 => ?_)
  refine JC_region ?_
  refine JL_go (u := .ptr 40000004 0) (A_box (u := .agg [I64 a.Load, I64 a.Discharge]) (cs := [I64 a.Load, I64 a.Discharge]) 40000004 rfl rfl rfl rfl rfl) ?_ rfl rfl rfl
  refine JL_go (u := .ptr 40000005 0) (A_box (u := .agg [I64 b.Load, I64 b.Discharge]) (cs := [I64 b.Load, I64 b.Discharge]) 40000005 rfl rfl rfl rfl rfl) ?_ rfl rfl rfl
  refine JL_go (u := BL false) (A_assign rfl rfl) ?_ rfl rfl rfl
  refine JL_nil ?_
  refine hK1 _ _ ?_
  refine JC_freeze [(0, LS 9 Box.av boxes), (4, .dptr [I64 a.Load, I64 a.Discharge]), (5, .ptr 40000005 0)] [(40000005, .box 24 [I64 b.Load, I64 b.Discharge])] 40000004 rfl rfl rfl ⟨⟨_, rfl, .boxEq rfl rfl⟩, trivial⟩ rfl (by exact ⟨.conv (.same rfl), .ptr, .conv (.same rfl), trivial⟩) ?_
  refine JC_freeze [(0, LS 9 Box.av boxes), (4, .dptr [I64 a.Load, I64 a.Discharge]), (5, .dptr [I64 b.Load, I64 b.Discharge])] [] 40000005 rfl rfl rfl trivial rfl (by exact ⟨.conv (.same rfl), .conv (.same rfl), .ptr, trivial⟩) ?_
  refine JC_seq (fun K2 hK2 => ?_)
  refine JC_seq (fun K3 hK3 => ?_)
  refine JC_region ?_
  refine JL_go (u := LS 9 Box.av boxes) (A_move rfl rfl) ?_ rfl rfl rfl
  refine JL_lenM (f := Box.av) (xs := boxes) tf_slice_22 rfl rfl (fun hm19 => ?_) rfl rfl rfl
  refine JL_go (u := BL (decide (40 < (boxes.length : Int)))) (A_gtr rfl rfl rfl) ?_ rfl rfl rfl
  refine JL_nil ?_
  refine hK3 _ _ ?_
  refine JC_cond rfl (fun hb => ?_) (fun hb => ?_)
  ·
    replace h := bif_t hb h
    refine JC_seq (fun K4 hK4 => ?_)
    refine JC_region ?_
    obtain ⟨r5, hr5, h⟩ := bnd_out h
    refine JL_go (u := BL r5) (A_call1 (args := []) rfl (M_twistlocklaw27_awake_w F r5 hr5) tf_call_5 trivial) ?_ rfl rfl rfl
    refine JL_go (u := BL r5) (A_assign rfl rfl) ?_ rfl rfl rfl
    refine JL_nil ?_
    refine hK4 _ _ ?_
    refine JC_ret ?_
    exact ⟨[BL r5], [], trivial, rfl, ⟨⟨_, rfl, .conv (.same rfl)⟩, trivial⟩, rfl, congrArg (fun r : Bool => (BL r : AV)) (Option.some.inj h)⟩
  ·
    replace h := bif_f hb h
    refine JC_skip ?_
    refine hK2 _ _ ?_
    refine JC_seq (fun K6 hK6 => ?_)
    refine JC_region ?_
    refine JL_go (u := LS 9 Box.av boxes) (A_move rfl rfl) ?_ rfl rfl rfl
    obtain ⟨r7, hr7, h⟩ := bnd_out h
    refine JL_go (u := LS 4 bound_Count.av r7) (A_call1 (args := [LS 9 Box.av boxes]) rfl (S_bound_Groups_w.down boxes r7 hr7) tf_call_6 ⟨rfl, rfl, trivial⟩) ?_ rfl rfl rfl
    refine JL_go (u := LS 4 bound_Count.av r7) (A_assign rfl rfl) ?_ rfl rfl rfl
    refine JL_nil ?_
    refine hK6 _ _ ?_
    refine JC_seq (fun K8 hK8 => ?_)
    refine JC_region ?_
    refine JL_go (u := I64 0) (A_assign rfl rfl) ?_ rfl rfl rfl
    refine JL_go (u := I64 0) (A_assign rfl rfl) ?_ rfl rfl rfl
    refine JL_nil ?_
    refine hK8 _ _ ?_
    refine JC_seq (fun K9 hK9 => ?_)
    refine JC_seq (fun K10 hK10 => ?_)
    refine JC_region ?_
    refine JL_go (u := LS 4 bound_Count.av r7) (A_move rfl rfl) ?_ rfl rfl rfl
    refine JL_lenM (f := bound_Count.av) (xs := r7) tf_slice_26 rfl rfl (fun hm25 => ?_) rfl rfl rfl
    refine JL_go (u := I64 0) (A_move rfl rfl) ?_ rfl rfl rfl
    refine JL_nil ?_
    refine hK10 _ _ ?_
    refine JC_block ?_
    obtain ⟨b11, kx11, hb11, hkx11, h⟩ := each_in h
    refine JC_loop2 (fun i11 (s11 : Int × Int) => each b11 kx11 (List.drop i11 r7) i11 s11 = some r) (fun i11 s11 => [(0, LS 9 Box.av boxes), (4, .dptr [I64 a.Load, I64 a.Discharge]), (5, .dptr [I64 b.Load, I64 b.Discharge]), (7, LS 4 bound_Count.av r7), (8, I64 s11.1), (9, I64 s11.2), (24, LS 4 bound_Count.av r7), (25, I64 (r7.length : Int)), (26, I64 (i11 : Int))]) (fun i11 s11 => []) (fun i11 => r7.length - i11) 0 (0, 0) h ⟨⟨.same rfl, .same rfl, .same rfl, .same rfl, .same rfl, .same rfl, .same rfl, .same rfl, .same rfl, trivial⟩, trivial, rfl⟩ ?_
    clear h
    intro i11 s11 hi11 K11 e11
    refine JC_seq (fun K12 hK12 => ?_)
    refine JC_region ?_
    refine JL_go (u := BL (decide ((i11 : Int) < (r7.length : Int)))) (A_lss rfl rfl rfl) ?_ rfl rfl rfl
    refine JL_nil ?_
    refine hK12 _ _ ?_
    refine JC_seq (fun K13 hK13 => ?_)
    refine JC_cond rfl (fun hb => ?_) (fun hb => ?_)
    ·
      have hk11 := lt_len hb
      obtain ⟨y11, nx11, hy11, hn11, h⟩ := each_out hi11 hk11
      replace h := app4 hb11 h
      refine JC_skip ?_
      refine hK13 _ _ ?_
      refine JC_seq (fun K14 hK14 => ?_)
      refine JC_block ?_
      refine JC_seq (fun K15 hK15 => ?_)
      refine JC_region ?_
      refine JL_go (u := I64 (i11 : Int)) (A_move rfl rfl) ?_ rfl rfl rfl
      refine JL_go (u := .dptr (bound_Count.cs y11)) (A_indexM (f := bound_Count.av) (xs := r7) (y := y11) rfl rfl rfl tf_slice_26 hy11 rfl) ?_ rfl rfl rfl
      refine JL_go (u := .agg (bound_Count.cs y11)) (A_loadAgg tf_agg_29 rfl rfl rfl) ?_ rfl rfl rfl
      refine JL_go (u := .ptr 40000011 0) (A_allocJ 40000011 4 tf_zsize_29 rfl rfl) ?_ rfl rfl rfl
      refine JL_go (u := I64 (i11 : Int)) (A_assign rfl rfl) ?_ rfl rfl rfl
      refine JL_go0 (u := .junk) (A_store (u := .agg (bound_Count.cs y11)) (ds := [I64 y11.Group.Load, I64 y11.Group.Discharge, I64 y11.Whole, I64 y11.Half]) tf_size_29 rfl rfl rfl rfl rfl rfl rfl rfl) ?_ rfl rfl
      refine JL_nil ?_
      refine hK15 _ _ ?_
      refine JC_freeze [(0, LS 9 Box.av boxes), (4, .dptr [I64 a.Load, I64 a.Discharge]), (5, .dptr [I64 b.Load, I64 b.Discharge]), (7, LS 4 bound_Count.av r7), (8, I64 s11.1), (9, I64 s11.2), (10, I64 (i11 : Int)), (11, .dptr (bound_Count.cs y11)), (24, LS 4 bound_Count.av r7), (25, I64 (r7.length : Int)), (26, I64 (i11 : Int))] [] 40000011 rfl rfl rfl trivial rfl (by exact ⟨.conv (.same rfl), .conv (.same rfl), .conv (.same rfl), .conv (.same rfl), .conv (.same rfl), .conv (.same rfl), .conv (.same rfl), .ptr, .conv (.same rfl), .conv (.same rfl), .conv (.same rfl), trivial⟩) ?_
      refine JC_seq (fun K16 hK16 => ?_)
      refine JC_region ?_
      refine JL_go (u := I64 0) (A_assign rfl rfl) ?_ rfl rfl rfl
      refine JL_go (u := I64 0) (A_assign rfl rfl) ?_ rfl rfl rfl
      refine JL_nil ?_
      refine hK16 _ _ ?_
      refine JC_seq (fun K17 hK17 => ?_)
      refine JC_seq (fun K18 hK18 => ?_)
      refine JC_region ?_
      refine JL_go (u := LS 9 Box.av boxes) (A_move rfl rfl) ?_ rfl rfl rfl
      refine JL_lenM (f := Box.av) (xs := boxes) tf_slice_22 rfl rfl (fun hm32 => ?_) rfl rfl rfl
      refine JL_go (u := I64 0) (A_move rfl rfl) ?_ rfl rfl rfl
      refine JL_nil ?_
      refine hK18 _ _ ?_
      refine JC_block ?_
      obtain ⟨b41, kx41, hb41, hkx41, h⟩ := each_in h
      refine JC_loop2 (fun i41 (s41 : Int × Int) => each b41 kx41 (List.drop i41 boxes) i41 s41 = some r) (fun i41 s41 => [(0, LS 9 Box.av boxes), (4, .dptr [I64 a.Load, I64 a.Discharge]), (5, .dptr [I64 b.Load, I64 b.Discharge]), (7, LS 4 bound_Count.av r7), (8, I64 s11.1), (9, I64 s11.2), (10, I64 (i11 : Int)), (11, .dptr (bound_Count.cs y11)), (12, I64 s41.1), (13, I64 s41.2), (24, LS 4 bound_Count.av r7), (25, I64 (r7.length : Int)), (26, I64 (i11 : Int)), (31, LS 9 Box.av boxes), (32, I64 (boxes.length : Int)), (33, I64 (i41 : Int))]) (fun i41 s41 => []) (fun i41 => boxes.length - i41) 0 (0, 0) h ⟨⟨.same rfl, .same rfl, .same rfl, .same rfl, .same rfl, .same rfl, .same rfl, .same rfl, .same rfl, .same rfl, .same rfl, .same rfl, .same rfl, .same rfl, .same rfl, .same rfl, trivial⟩, trivial, rfl⟩ ?_
      clear h
      intro i41 s41 hi41 K41 e41
      refine JC_seq (fun K42 hK42 => ?_)
      refine JC_region ?_
      refine JL_go (u := BL (decide ((i41 : Int) < (boxes.length : Int)))) (A_lss rfl rfl rfl) ?_ rfl rfl rfl
      refine JL_nil ?_
      refine hK42 _ _ ?_
      refine JC_seq (fun K43 hK43 => ?_)
      refine JC_cond rfl (fun hb => ?_) (fun hb => ?_)
      ·
        have hk41 := lt_len hb
        obtain ⟨y41, nx41, hy41, hn41, h⟩ := each_out hi41 hk41
        replace h := app4 hb41 h
        refine JC_skip ?_
        refine hK43 _ _ ?_
        obtain ⟨kj44, hkj44, h⟩ := jp_out h
        refine JC_seqJ (fun j44 : Int × Int => kj44 j44 = some r) (fun j44 => [(0, LS 9 Box.av boxes), (4, .dptr [I64 a.Load, I64 a.Discharge]), (5, .dptr [I64 b.Load, I64 b.Discharge]), (7, LS 4 bound_Count.av r7), (8, I64 s11.1), (9, I64 s11.2), (10, I64 (i11 : Int)), (11, .dptr (bound_Count.cs y11)), (12, I64 j44.1), (13, I64 j44.2), (24, LS 4 bound_Count.av r7), (25, I64 (r7.length : Int)), (26, I64 (i11 : Int)), (31, LS 9 Box.av boxes), (32, I64 (boxes.length : Int)), (33, I64 (i41 : Int))]) (fun j44 => []) (fun Kj44 ej44 => ?_) ?_
        ·
          refine JC_block ?_
          refine JC_seq (fun K45 hK45 => ?_)
          refine JC_region ?_
          refine JL_go (u := .dptr (Box.cs y41)) (A_indexM (f := Box.av) (xs := boxes) (y := y41) rfl rfl rfl tf_slice_22 hy41 rfl) ?_ rfl rfl rfl
          refine JL_go (u := .agg (Box.cs y41)) (A_loadAgg tf_agg_31 rfl rfl rfl) ?_ rfl rfl rfl
          refine JL_go (u := .ptr 40000015 0) (A_allocJ 40000015 9 tf_zsize_31 rfl rfl) ?_ rfl rfl rfl
          refine JL_go0 (u := .junk) (A_store (u := .agg (Box.cs y41)) (ds := [I64 y41.ID, ST y41.Number, U8 y41.Size, BL y41.High, I64 y41.Kilos, I64 y41.Load, I64 y41.Discharge, U8 y41.Class, BL y41.Reefer]) tf_size_31 rfl rfl rfl rfl rfl rfl rfl rfl) ?_ rfl rfl
          refine JL_nil ?_
          refine hK45 _ _ ?_
          refine JC_freeze [(0, LS 9 Box.av boxes), (4, .dptr [I64 a.Load, I64 a.Discharge]), (5, .dptr [I64 b.Load, I64 b.Discharge]), (7, LS 4 bound_Count.av r7), (8, I64 s11.1), (9, I64 s11.2), (10, I64 (i11 : Int)), (11, .dptr (bound_Count.cs y11)), (12, I64 s41.1), (13, I64 s41.2), (15, .dptr (Box.cs y41)), (24, LS 4 bound_Count.av r7), (25, I64 (r7.length : Int)), (26, I64 (i11 : Int)), (31, LS 9 Box.av boxes), (32, I64 (boxes.length : Int)), (33, I64 (i41 : Int))] [] 40000015 rfl rfl rfl trivial rfl (by exact ⟨.conv (.same rfl), .conv (.same rfl), .conv (.same rfl), .conv (.same rfl), .conv (.same rfl), .conv (.same rfl), .conv (.same rfl), .conv (.same rfl), .conv (.same rfl), .conv (.same rfl), .ptr, .conv (.same rfl), .conv (.same rfl), .conv (.same rfl), .conv (.same rfl), .conv (.same rfl), .conv (.same rfl), trivial⟩) ?_
          refine JC_seq (fun K46 hK46 => ?_)
          refine JC_region ?_
          refine JL_go (u := .dptr ((Box.cs y41).drop 5)) (A_fieldM tf_field_31_5 rfl rfl rfl) ?_ rfl rfl rfl
          refine JL_go (u := I64 y41.Load) (A_load tf_scalar_3 rfl rfl rfl) ?_ rfl rfl rfl
          refine JL_go (u := .dptr (bound_Count.cs y11)) (A_fieldM tf_field_29_0 rfl rfl rfl) ?_ rfl rfl rfl
          refine JL_go (u := .dptr (bound_Count.cs y11)) (A_fieldM tf_field_24_0 rfl rfl rfl) ?_ rfl rfl rfl
          refine JL_go (u := I64 y11.Group.Load) (A_load tf_scalar_3 rfl rfl rfl) ?_ rfl rfl rfl
          refine JL_go (u := BL (decide (y41.Load = y11.Group.Load))) (A_eql rfl rfl rfl) ?_ rfl rfl rfl
          refine JL_go (u := BL (decide (y41.Load = y11.Group.Load))) (A_move rfl rfl) ?_ rfl rfl rfl
          refine JL_opt (u := .dptr ((Box.cs y41).drop 6)) [] rfl rfl rfl .sct trivial (fun hc => A_fieldM tf_field_31_6 rfl rfl rfl) ?_ rfl rfl rfl
          refine JL_opt (u := I64 y41.Discharge) [(44, .dptr ((Box.cs y41).drop 6))] rfl rfl rfl .sct ⟨.all id, trivial⟩ (fun hc => A_load tf_scalar_3 rfl rfl rfl) ?_ rfl rfl rfl
          refine JL_opt (u := .dptr (bound_Count.cs y11)) [] rfl rfl rfl .sct trivial (fun hc => A_fieldM tf_field_29_0 rfl rfl rfl) ?_ rfl rfl rfl
          refine JL_opt (u := .dptr ((bound_Count.cs y11).drop 1)) [(46, .dptr (bound_Count.cs y11))] rfl rfl rfl .sct ⟨.all id, trivial⟩ (fun hc => A_fieldM tf_field_24_1 rfl rfl rfl) ?_ rfl rfl rfl
          refine JL_opt (u := I64 y11.Group.Discharge) [(47, .dptr ((bound_Count.cs y11).drop 1))] rfl rfl rfl .sct ⟨.all id, trivial⟩ (fun hc => A_load tf_scalar_3 rfl rfl rfl) ?_ rfl rfl rfl
          refine JL_opt (u := BL (decide (y41.Discharge = y11.Group.Discharge))) [(45, I64 y41.Discharge), (48, I64 y11.Group.Discharge)] rfl rfl rfl .sct ⟨.all id, .all id, trivial⟩ (fun hc => A_eql rfl rfl rfl) ?_ rfl rfl rfl
          refine JL_go (u := BL ((decide (y41.Load = y11.Group.Load)) && (decide (y41.Discharge = y11.Group.Discharge)))) (A_and rfl rfl rfl rfl) ?_ rfl rfl rfl
          refine JL_nil ?_
          refine hK46 _ _ ?_
          refine JC_cond rfl (fun hb => ?_) (fun hb => ?_)
          ·
            replace h := bif_t hb h
            refine JC_seq (fun K47 hK47 => ?_)
            refine JC_region ?_
            refine JL_go (u := .dptr ((Box.cs y41).drop 2)) (A_fieldM tf_field_31_2 rfl rfl rfl) ?_ rfl rfl rfl
            refine JL_go (u := U8 y41.Size) (A_load tf_scalar_5 rfl rfl rfl) ?_ rfl rfl rfl
            refine JL_nil ?_
            refine hK47 _ _ ?_
            refine JC_block ?_
            refine JC_seq (fun K48 hK48 => ?_)
            refine JC_region ?_
            refine JL_go (u := BL (decide (y41.Size = 40))) (A_eql rfl rfl rfl) ?_ rfl rfl rfl
            refine JL_go (u := BL (decide (y41.Size = 40))) (A_assign rfl rfl) ?_ rfl rfl rfl
            refine JL_nil ?_
            refine hK48 _ _ ?_
            refine JC_cond rfl (fun hb => ?_) (fun hb => ?_)
            ·
              replace h := bif_t hb h
              refine JC_region ?_
              refine JL_go (u := I64 s41.1) (A_move rfl rfl) ?_ rfl rfl rfl
              obtain ⟨v49, hv49, h⟩ := chk_out h
              refine JL_go (u := I64 v49) (A_add hv49 rfl rfl rfl) ?_ rfl rfl rfl
              refine JL_go (u := I64 v49) (A_assign rfl rfl) ?_ rfl rfl rfl
              refine JL_nil ?_
              exact ej44 _ _ (v49, s41.2) h ⟨⟨.same rfl, .same rfl, .same rfl, .same rfl, .same rfl, .same rfl, .same rfl, .same rfl, .same rfl, .same rfl, .same rfl, .same rfl, .same rfl, .same rfl, .same rfl, .same rfl, trivial⟩, trivial, rfl⟩
            ·
              replace h := bif_f hb h
              refine JC_seq (fun K50 hK50 => ?_)
              refine JC_region ?_
              refine JL_go (u := BL (decide (y41.Size = 20))) (A_eql rfl rfl rfl) ?_ rfl rfl rfl
              refine JL_go (u := BL (decide (y41.Size = 20))) (A_assign rfl rfl) ?_ rfl rfl rfl
              refine JL_nil ?_
              refine hK50 _ _ ?_
              refine JC_cond rfl (fun hb => ?_) (fun hb => ?_)
              ·
                replace h := bif_t hb h
                refine JC_region ?_
                refine JL_go (u := I64 s41.2) (A_move rfl rfl) ?_ rfl rfl rfl
                obtain ⟨v51, hv51, h⟩ := chk_out h
                refine JL_go (u := I64 v51) (A_add hv51 rfl rfl rfl) ?_ rfl rfl rfl
                refine JL_go (u := I64 v51) (A_assign rfl rfl) ?_ rfl rfl rfl
                refine JL_nil ?_
                exact ej44 _ _ (s41.1, v51) h ⟨⟨.same rfl, .same rfl, .same rfl, .same rfl, .same rfl, .same rfl, .same rfl, .same rfl, .same rfl, .same rfl, .same rfl, .same rfl, .same rfl, .same rfl, .same rfl, .same rfl, trivial⟩, trivial, rfl⟩
              ·
                replace h := bif_f hb h
                refine JC_skip ?_
                exact ej44 _ _ (s41.1, s41.2) h ⟨⟨.same rfl, .same rfl, .same rfl, .same rfl, .same rfl, .same rfl, .same rfl, .same rfl, .same rfl, .same rfl, .same rfl, .same rfl, .same rfl, .same rfl, .same rfl, .same rfl, trivial⟩, trivial, rfl⟩
          ·
            replace h := bif_f hb h
            refine JC_skip ?_
            exact ej44 _ _ (s41.1, s41.2) h ⟨⟨.same rfl, .same rfl, .same rfl, .same rfl, .same rfl, .same rfl, .same rfl, .same rfl, .same rfl, .same rfl, .same rfl, .same rfl, .same rfl, .same rfl, .same rfl, .same rfl, trivial⟩, trivial, rfl⟩
        · intro j44 h
          replace h := app1 hkj44 h
          refine JC_region ?_
          refine JL_go (u := I64 ((i41 + 1 : Nat) : Int)) (A_add (idx_succ hk41 hm32) rfl rfl rfl) ?_ rfl rfl rfl
          refine JL_go (u := I64 ((i41 + 1 : Nat) : Int)) (A_move rfl rfl) ?_ rfl rfl rfl
          refine JL_nil ?_
          exact e41 _ _ (i41 + 1) (j44.1, j44.2) (app1 hn41 h) (by omega) ⟨⟨.same rfl, .same rfl, .same rfl, .same rfl, .same rfl, .same rfl, .same rfl, .same rfl, .same rfl, .same rfl, .same rfl, .same rfl, .same rfl, .same rfl, .same rfl, .same rfl, trivial⟩, trivial, rfl⟩
      ·
        have h := app1 hkx41 (each_nil hi41 (not_lt_len hb))
        refine JC_exit ?_
        refine hK17 _ _ ?_
        refine JC_seq (fun K52 hK52 => ?_)
        refine JC_seq (fun K53 hK53 => ?_)
        obtain ⟨v54, hv54, h⟩ := bnd_out h
        obtain ⟨v55, hv55, h⟩ := bnd_out h
        obtain ⟨y56, hy56, h⟩ := bnd_out h
        obtain ⟨v57, hv57, h⟩ := bnd_out h
        obtain ⟨y58, hy58, h⟩ := bnd_out h
        obtain ⟨v59, hv59, h⟩ := bnd_out h
        obtain ⟨y60, hy60, h⟩ := bnd_out h
        refine JC_draw [] [0, 0, 0, 0, 0, 0, 0, 0, 0, 0, 0, 0, 0, 0, 0, 0, 0, 0, 0, 0, 0, 0, 0, 0, 0, 0, 0, 0, 0, 0, 0, 0, 0, 0, 0, 0, 0, 0, 0, 0, 0, 0, 0, 0, 0, 0, 0, 0, 0, 0, 0, 0, 0, 0, 0, 0, 0, 0, 0, 0] [0, 0, 0, 0, 0, 0, 0, 0, 0, 0, 0, 0, 0, 0, 0, 0, 0, 0, 0, 0, 0, 0, 0, 0, 0, 0, 0, 0, 0, 0, 0, 0, 0, 0, 0, 0, 0, 0, 0, 0, 0, 0, 0, 0, 0, 0, 0, 0, 0, 0, 0, 0, 0, 0, 0, 0, 0, 0, 0, 0] [[]] tf_mixed (by kernel_rfl) rfl rfl ?_
        refine D_ro (u := I64 s41.1) rfl rfl ⟨O_go (A_move rfl rfl) rfl, trivial⟩ ?_ rfl
        refine D_ro (u := .dptr [I64 y11.Whole, I64 y11.Half]) rfl rfl ⟨O_go (A_fieldM tf_field_29_1 rfl rfl rfl) rfl, trivial⟩ ?_ rfl
        refine D_ro (u := I64 y11.Whole) rfl rfl ⟨O_go (A_load tf_scalar_3 rfl rfl rfl) rfl, trivial⟩ ?_ rfl
        refine D_ro (u := BL (decide (s41.1 ≠ y11.Whole))) rfl rfl ⟨O_go (A_neq rfl rfl rfl) rfl, trivial⟩ ?_ rfl
        refine D_ro (u := BL (decide (s41.1 ≠ y11.Whole))) rfl rfl ⟨O_go (A_move rfl rfl) rfl, trivial⟩ ?_ rfl
        refine D_ro (u := .opt (!(decide (s41.1 ≠ y11.Whole))) (I64 s41.2)) rfl rfl ⟨O_opt [] rfl rfl rfl .scf trivial (fun hc => A_move rfl rfl) rfl, trivial⟩ ?_ rfl
        refine D_ro (u := .opt (!(decide (s41.1 ≠ y11.Whole))) (.dptr [I64 y11.Half])) rfl rfl ⟨O_opt [] rfl rfl rfl .scf trivial (fun hc => A_fieldM tf_field_29_2 rfl rfl rfl) rfl, trivial⟩ ?_ rfl
        refine D_ro (u := .opt (!(decide (s41.1 ≠ y11.Whole))) (I64 y11.Half)) rfl rfl ⟨O_opt [(68, .dptr [I64 y11.Half])] rfl rfl rfl .scf ⟨.all id, trivial⟩ (fun hc => A_load tf_scalar_3 rfl rfl rfl) rfl, trivial⟩ ?_ rfl
        refine D_ro (u := .opt (!(decide (s41.1 ≠ y11.Whole))) (BL (decide (s41.2 ≠ y11.Half)))) rfl rfl ⟨O_opt [(67, I64 s41.2), (69, I64 y11.Half)] rfl rfl rfl .scf ⟨.all id, .all id, trivial⟩ (fun hc => A_neq rfl rfl rfl) rfl, trivial⟩ ?_ rfl
        refine D_ro (u := BL ((decide (s41.1 ≠ y11.Whole)) || (decide (s41.2 ≠ y11.Half)))) rfl rfl ⟨O_go (A_or rfl rfl rfl rfl) rfl, trivial⟩ ?_ rfl
        refine D_ro (u := BL ((decide (s41.1 ≠ y11.Whole)) || (decide (s41.2 ≠ y11.Half)))) rfl rfl ⟨O_go (A_move rfl rfl) rfl, trivial⟩ ?_ rfl
        refine D_ro (u := .opt (!((decide (s41.1 ≠ y11.Whole)) || (decide (s41.2 ≠ y11.Half)))) (I64 s41.1)) rfl rfl ⟨O_opt [] rfl rfl rfl .scf trivial (fun hc => A_move rfl rfl) rfl, trivial⟩ ?_ rfl
        refine D_ro (u := .opt (!((decide (s41.1 ≠ y11.Whole)) || (decide (s41.2 ≠ y11.Half)))) (I64 s41.2)) rfl rfl ⟨O_opt [] rfl rfl rfl .scf trivial (fun hc => A_move rfl rfl) rfl, trivial⟩ ?_ rfl
        refine D_ro (u := .opt (!((decide (s41.1 ≠ y11.Whole)) || (decide (s41.2 ≠ y11.Half)))) (I64 v54)) rfl rfl ⟨O_opt [(73, I64 s41.1), (74, I64 s41.2)] rfl rfl rfl .scf ⟨.all id, .all id, trivial⟩ (fun hc => A_add (chk_some (bif_t hc hv54)) rfl rfl rfl) rfl, trivial⟩ ?_ rfl
        refine D_ro (u := .opt (!((decide (s41.1 ≠ y11.Whole)) || (decide (s41.2 ≠ y11.Half)))) (BL (decide (v54 = 0)))) rfl rfl ⟨O_opt [(75, I64 v54)] rfl rfl rfl .scf ⟨.all id, trivial⟩ (fun hc => A_eql rfl rfl rfl) rfl, trivial⟩ ?_ rfl
        refine D_ro (u := BL (((decide (s41.1 ≠ y11.Whole)) || (decide (s41.2 ≠ y11.Half))) || (decide (v54 = 0)))) rfl rfl ⟨O_go (A_or rfl rfl rfl rfl) rfl, trivial⟩ ?_ rfl
        refine D_ro (u := BL (((decide (s41.1 ≠ y11.Whole)) || (decide (s41.2 ≠ y11.Half))) || (decide (v54 = 0)))) rfl rfl ⟨O_go (A_move rfl rfl) rfl, trivial⟩ ?_ rfl
        refine D_ro (u := .opt (!(((decide (s41.1 ≠ y11.Whole)) || (decide (s41.2 ≠ y11.Half))) || (decide (v54 = 0)))) (I64 (i11 : Int))) rfl rfl ⟨O_opt [] rfl rfl rfl .scf trivial (fun hc => A_move rfl rfl) rfl, trivial⟩ ?_ rfl
        refine D_ro (u := .opt (!(((decide (s41.1 ≠ y11.Whole)) || (decide (s41.2 ≠ y11.Half))) || (decide (v54 = 0)))) (BL (decide (0 < (i11 : Int))))) rfl rfl ⟨O_opt [(79, I64 (i11 : Int))] rfl rfl rfl .scf ⟨.all id, trivial⟩ (fun hc => A_gtr rfl rfl rfl) rfl, trivial⟩ ?_ rfl
        refine D_ro (u := .opt (!(((decide (s41.1 ≠ y11.Whole)) || (decide (s41.2 ≠ y11.Half))) || (decide (v54 = 0)))) (BL (decide (0 < (i11 : Int))))) rfl rfl ⟨O_opt [(80, BL (decide (0 < (i11 : Int))))] rfl rfl rfl .scf ⟨.all id, trivial⟩ (fun hc => A_move rfl rfl) rfl, trivial⟩ ?_ rfl
        refine D_ro (u := .opt ((!(((decide (s41.1 ≠ y11.Whole)) || (decide (s41.2 ≠ y11.Half))) || (decide (v54 = 0)))) && (decide (0 < (i11 : Int)))) (LS 4 bound_Count.av r7)) rfl rfl ⟨O_opt [] rfl rfl rfl .optt trivial (fun hc => A_move rfl rfl) rfl, trivial⟩ ?_ rfl
        refine D_ro (u := .opt ((!(((decide (s41.1 ≠ y11.Whole)) || (decide (s41.2 ≠ y11.Half))) || (decide (v54 = 0)))) && (decide (0 < (i11 : Int)))) (I64 (i11 : Int))) rfl rfl ⟨O_opt [] rfl rfl rfl .optt trivial (fun hc => A_move rfl rfl) rfl, trivial⟩ ?_ rfl
        refine D_ro (u := .opt ((!(((decide (s41.1 ≠ y11.Whole)) || (decide (s41.2 ≠ y11.Half))) || (decide (v54 = 0)))) && (decide (0 < (i11 : Int)))) (I64 v55)) rfl rfl ⟨O_opt [(83, I64 (i11 : Int))] rfl rfl rfl .optt ⟨.all id, trivial⟩ (fun hc => A_sub (chk_some (bif_t hc hv55)) rfl rfl rfl) rfl, trivial⟩ ?_ rfl
        refine D_ro (u := .opt ((!(((decide (s41.1 ≠ y11.Whole)) || (decide (s41.2 ≠ y11.Half))) || (decide (v54 = 0)))) && (decide (0 < (i11 : Int)))) (.dptr (bound_Count.cs y56))) rfl rfl ⟨O_opt [(82, LS 4 bound_Count.av r7), (84, I64 v55)] rfl rfl rfl .optt ⟨.all id, .all id, trivial⟩ (fun hc => (match gidx_some (bif_t hc hy56) with | ⟨_, hm_, hy_⟩ => A_indexM (f := bound_Count.av) (xs := r7) (y := y56) rfl rfl rfl tf_slice_26 hy_ hm_)) rfl, trivial⟩ ?_ rfl
        refine D_ro (u := .opt ((!(((decide (s41.1 ≠ y11.Whole)) || (decide (s41.2 ≠ y11.Half))) || (decide (v54 = 0)))) && (decide (0 < (i11 : Int)))) (.dptr (bound_Count.cs y56))) rfl rfl ⟨O_opt [(85, .dptr (bound_Count.cs y56))] rfl rfl rfl .optt ⟨.all id, trivial⟩ (fun hc => A_fieldM tf_field_29_0 rfl rfl rfl) rfl, trivial⟩ ?_ rfl
        refine D_ro (u := .opt ((!(((decide (s41.1 ≠ y11.Whole)) || (decide (s41.2 ≠ y11.Half))) || (decide (v54 = 0)))) && (decide (0 < (i11 : Int)))) (.dptr (bound_Count.cs y56))) rfl rfl ⟨O_opt [(86, .dptr (bound_Count.cs y56))] rfl rfl rfl .optt ⟨.all id, trivial⟩ (fun hc => A_fieldM tf_field_24_0 rfl rfl rfl) rfl, trivial⟩ ?_ rfl
        refine D_ro (u := .opt ((!(((decide (s41.1 ≠ y11.Whole)) || (decide (s41.2 ≠ y11.Half))) || (decide (v54 = 0)))) && (decide (0 < (i11 : Int)))) (I64 y56.Group.Load)) rfl rfl ⟨O_opt [(87, .dptr (bound_Count.cs y56))] rfl rfl rfl .optt ⟨.all id, trivial⟩ (fun hc => A_load tf_scalar_3 rfl rfl rfl) rfl, trivial⟩ ?_ rfl
        refine D_ro (u := .opt ((!(((decide (s41.1 ≠ y11.Whole)) || (decide (s41.2 ≠ y11.Half))) || (decide (v54 = 0)))) && (decide (0 < (i11 : Int)))) (.dptr (bound_Count.cs y11))) rfl rfl ⟨O_opt [] rfl rfl rfl .optt trivial (fun hc => A_fieldM tf_field_29_0 rfl rfl rfl) rfl, trivial⟩ ?_ rfl
        refine D_ro (u := .opt ((!(((decide (s41.1 ≠ y11.Whole)) || (decide (s41.2 ≠ y11.Half))) || (decide (v54 = 0)))) && (decide (0 < (i11 : Int)))) (.dptr (bound_Count.cs y11))) rfl rfl ⟨O_opt [(89, .dptr (bound_Count.cs y11))] rfl rfl rfl .optt ⟨.all id, trivial⟩ (fun hc => A_fieldM tf_field_24_0 rfl rfl rfl) rfl, trivial⟩ ?_ rfl
        refine D_ro (u := .opt ((!(((decide (s41.1 ≠ y11.Whole)) || (decide (s41.2 ≠ y11.Half))) || (decide (v54 = 0)))) && (decide (0 < (i11 : Int)))) (I64 y11.Group.Load)) rfl rfl ⟨O_opt [(90, .dptr (bound_Count.cs y11))] rfl rfl rfl .optt ⟨.all id, trivial⟩ (fun hc => A_load tf_scalar_3 rfl rfl rfl) rfl, trivial⟩ ?_ rfl
        refine D_ro (u := .opt ((!(((decide (s41.1 ≠ y11.Whole)) || (decide (s41.2 ≠ y11.Half))) || (decide (v54 = 0)))) && (decide (0 < (i11 : Int)))) (BL (decide (y56.Group.Load < y11.Group.Load)))) rfl rfl ⟨O_opt [(88, I64 y56.Group.Load), (91, I64 y11.Group.Load)] rfl rfl rfl .optt ⟨.all id, .all id, trivial⟩ (fun hc => A_lss rfl rfl rfl) rfl, trivial⟩ ?_ rfl
        refine D_ro (u := .opt ((!(((decide (s41.1 ≠ y11.Whole)) || (decide (s41.2 ≠ y11.Half))) || (decide (v54 = 0)))) && (decide (0 < (i11 : Int)))) (BL (decide (y56.Group.Load < y11.Group.Load)))) rfl rfl ⟨O_opt [(92, BL (decide (y56.Group.Load < y11.Group.Load)))] rfl rfl rfl .optt ⟨.all id, trivial⟩ (fun hc => A_move rfl rfl) rfl, trivial⟩ ?_ rfl
        refine D_ro (u := .opt (((!(((decide (s41.1 ≠ y11.Whole)) || (decide (s41.2 ≠ y11.Half))) || (decide (v54 = 0)))) && (decide (0 < (i11 : Int)))) && !(decide (y56.Group.Load < y11.Group.Load))) (LS 4 bound_Count.av r7)) rfl rfl ⟨O_opt [] rfl rfl rfl .optf trivial (fun hc => A_move rfl rfl) rfl, trivial⟩ ?_ rfl
        refine D_ro (u := .opt (((!(((decide (s41.1 ≠ y11.Whole)) || (decide (s41.2 ≠ y11.Half))) || (decide (v54 = 0)))) && (decide (0 < (i11 : Int)))) && !(decide (y56.Group.Load < y11.Group.Load))) (I64 (i11 : Int))) rfl rfl ⟨O_opt [] rfl rfl rfl .optf trivial (fun hc => A_move rfl rfl) rfl, trivial⟩ ?_ rfl
        refine D_ro (u := .opt (((!(((decide (s41.1 ≠ y11.Whole)) || (decide (s41.2 ≠ y11.Half))) || (decide (v54 = 0)))) && (decide (0 < (i11 : Int)))) && !(decide (y56.Group.Load < y11.Group.Load))) (I64 v57)) rfl rfl ⟨O_opt [(95, I64 (i11 : Int))] rfl rfl rfl .optf ⟨.all id, trivial⟩ (fun hc => A_sub (chk_some (bif_t hc hv57)) rfl rfl rfl) rfl, trivial⟩ ?_ rfl
        refine D_ro (u := .opt (((!(((decide (s41.1 ≠ y11.Whole)) || (decide (s41.2 ≠ y11.Half))) || (decide (v54 = 0)))) && (decide (0 < (i11 : Int)))) && !(decide (y56.Group.Load < y11.Group.Load))) (.dptr (bound_Count.cs y58))) rfl rfl ⟨O_opt [(94, LS 4 bound_Count.av r7), (96, I64 v57)] rfl rfl rfl .optf ⟨.all id, .all id, trivial⟩ (fun hc => (match gidx_some (bif_t hc hy58) with | ⟨_, hm_, hy_⟩ => A_indexM (f := bound_Count.av) (xs := r7) (y := y58) rfl rfl rfl tf_slice_26 hy_ hm_)) rfl, trivial⟩ ?_ rfl
        refine D_ro (u := .opt (((!(((decide (s41.1 ≠ y11.Whole)) || (decide (s41.2 ≠ y11.Half))) || (decide (v54 = 0)))) && (decide (0 < (i11 : Int)))) && !(decide (y56.Group.Load < y11.Group.Load))) (.dptr (bound_Count.cs y58))) rfl rfl ⟨O_opt [(97, .dptr (bound_Count.cs y58))] rfl rfl rfl .optf ⟨.all id, trivial⟩ (fun hc => A_fieldM tf_field_29_0 rfl rfl rfl) rfl, trivial⟩ ?_ rfl
        refine D_ro (u := .opt (((!(((decide (s41.1 ≠ y11.Whole)) || (decide (s41.2 ≠ y11.Half))) || (decide (v54 = 0)))) && (decide (0 < (i11 : Int)))) && !(decide (y56.Group.Load < y11.Group.Load))) (.dptr (bound_Count.cs y58))) rfl rfl ⟨O_opt [(98, .dptr (bound_Count.cs y58))] rfl rfl rfl .optf ⟨.all id, trivial⟩ (fun hc => A_fieldM tf_field_24_0 rfl rfl rfl) rfl, trivial⟩ ?_ rfl
        refine D_ro (u := .opt (((!(((decide (s41.1 ≠ y11.Whole)) || (decide (s41.2 ≠ y11.Half))) || (decide (v54 = 0)))) && (decide (0 < (i11 : Int)))) && !(decide (y56.Group.Load < y11.Group.Load))) (I64 y58.Group.Load)) rfl rfl ⟨O_opt [(99, .dptr (bound_Count.cs y58))] rfl rfl rfl .optf ⟨.all id, trivial⟩ (fun hc => A_load tf_scalar_3 rfl rfl rfl) rfl, trivial⟩ ?_ rfl
        refine D_ro (u := .opt (((!(((decide (s41.1 ≠ y11.Whole)) || (decide (s41.2 ≠ y11.Half))) || (decide (v54 = 0)))) && (decide (0 < (i11 : Int)))) && !(decide (y56.Group.Load < y11.Group.Load))) (.dptr (bound_Count.cs y11))) rfl rfl ⟨O_opt [] rfl rfl rfl .optf trivial (fun hc => A_fieldM tf_field_29_0 rfl rfl rfl) rfl, trivial⟩ ?_ rfl
        refine D_ro (u := .opt (((!(((decide (s41.1 ≠ y11.Whole)) || (decide (s41.2 ≠ y11.Half))) || (decide (v54 = 0)))) && (decide (0 < (i11 : Int)))) && !(decide (y56.Group.Load < y11.Group.Load))) (.dptr (bound_Count.cs y11))) rfl rfl ⟨O_opt [(101, .dptr (bound_Count.cs y11))] rfl rfl rfl .optf ⟨.all id, trivial⟩ (fun hc => A_fieldM tf_field_24_0 rfl rfl rfl) rfl, trivial⟩ ?_ rfl
        refine D_ro (u := .opt (((!(((decide (s41.1 ≠ y11.Whole)) || (decide (s41.2 ≠ y11.Half))) || (decide (v54 = 0)))) && (decide (0 < (i11 : Int)))) && !(decide (y56.Group.Load < y11.Group.Load))) (I64 y11.Group.Load)) rfl rfl ⟨O_opt [(102, .dptr (bound_Count.cs y11))] rfl rfl rfl .optf ⟨.all id, trivial⟩ (fun hc => A_load tf_scalar_3 rfl rfl rfl) rfl, trivial⟩ ?_ rfl
        refine D_ro (u := .opt (((!(((decide (s41.1 ≠ y11.Whole)) || (decide (s41.2 ≠ y11.Half))) || (decide (v54 = 0)))) && (decide (0 < (i11 : Int)))) && !(decide (y56.Group.Load < y11.Group.Load))) (BL (decide (y58.Group.Load = y11.Group.Load)))) rfl rfl ⟨O_opt [(100, I64 y58.Group.Load), (103, I64 y11.Group.Load)] rfl rfl rfl .optf ⟨.all id, .all id, trivial⟩ (fun hc => A_eql rfl rfl rfl) rfl, trivial⟩ ?_ rfl
        refine D_ro (u := .opt (((!(((decide (s41.1 ≠ y11.Whole)) || (decide (s41.2 ≠ y11.Half))) || (decide (v54 = 0)))) && (decide (0 < (i11 : Int)))) && !(decide (y56.Group.Load < y11.Group.Load))) (BL (decide (y58.Group.Load = y11.Group.Load)))) rfl rfl ⟨O_opt [(104, BL (decide (y58.Group.Load = y11.Group.Load)))] rfl rfl rfl .optf ⟨.all id, trivial⟩ (fun hc => A_move rfl rfl) rfl, trivial⟩ ?_ rfl
        refine D_ro (u := .opt ((((!(((decide (s41.1 ≠ y11.Whole)) || (decide (s41.2 ≠ y11.Half))) || (decide (v54 = 0)))) && (decide (0 < (i11 : Int)))) && !(decide (y56.Group.Load < y11.Group.Load))) && (decide (y58.Group.Load = y11.Group.Load))) (LS 4 bound_Count.av r7)) rfl rfl ⟨O_opt [] rfl rfl rfl .optt trivial (fun hc => A_move rfl rfl) rfl, trivial⟩ ?_ rfl
        refine D_ro (u := .opt ((((!(((decide (s41.1 ≠ y11.Whole)) || (decide (s41.2 ≠ y11.Half))) || (decide (v54 = 0)))) && (decide (0 < (i11 : Int)))) && !(decide (y56.Group.Load < y11.Group.Load))) && (decide (y58.Group.Load = y11.Group.Load))) (I64 (i11 : Int))) rfl rfl ⟨O_opt [] rfl rfl rfl .optt trivial (fun hc => A_move rfl rfl) rfl, trivial⟩ ?_ rfl
        refine D_ro (u := .opt ((((!(((decide (s41.1 ≠ y11.Whole)) || (decide (s41.2 ≠ y11.Half))) || (decide (v54 = 0)))) && (decide (0 < (i11 : Int)))) && !(decide (y56.Group.Load < y11.Group.Load))) && (decide (y58.Group.Load = y11.Group.Load))) (I64 v59)) rfl rfl ⟨O_opt [(107, I64 (i11 : Int))] rfl rfl rfl .optt ⟨.all id, trivial⟩ (fun hc => A_sub (chk_some (bif_t hc hv59)) rfl rfl rfl) rfl, trivial⟩ ?_ rfl
        refine D_ro (u := .opt ((((!(((decide (s41.1 ≠ y11.Whole)) || (decide (s41.2 ≠ y11.Half))) || (decide (v54 = 0)))) && (decide (0 < (i11 : Int)))) && !(decide (y56.Group.Load < y11.Group.Load))) && (decide (y58.Group.Load = y11.Group.Load))) (.dptr (bound_Count.cs y60))) rfl rfl ⟨O_opt [(106, LS 4 bound_Count.av r7), (108, I64 v59)] rfl rfl rfl .optt ⟨.all id, .all id, trivial⟩ (fun hc => (match gidx_some (bif_t hc hy60) with | ⟨_, hm_, hy_⟩ => A_indexM (f := bound_Count.av) (xs := r7) (y := y60) rfl rfl rfl tf_slice_26 hy_ hm_)) rfl, trivial⟩ ?_ rfl
        refine D_ro (u := .opt ((((!(((decide (s41.1 ≠ y11.Whole)) || (decide (s41.2 ≠ y11.Half))) || (decide (v54 = 0)))) && (decide (0 < (i11 : Int)))) && !(decide (y56.Group.Load < y11.Group.Load))) && (decide (y58.Group.Load = y11.Group.Load))) (.dptr (bound_Count.cs y60))) rfl rfl ⟨O_opt [(109, .dptr (bound_Count.cs y60))] rfl rfl rfl .optt ⟨.all id, trivial⟩ (fun hc => A_fieldM tf_field_29_0 rfl rfl rfl) rfl, trivial⟩ ?_ rfl
        refine D_ro (u := .opt ((((!(((decide (s41.1 ≠ y11.Whole)) || (decide (s41.2 ≠ y11.Half))) || (decide (v54 = 0)))) && (decide (0 < (i11 : Int)))) && !(decide (y56.Group.Load < y11.Group.Load))) && (decide (y58.Group.Load = y11.Group.Load))) (.dptr ((bound_Count.cs y60).drop 1))) rfl rfl ⟨O_opt [(110, .dptr (bound_Count.cs y60))] rfl rfl rfl .optt ⟨.all id, trivial⟩ (fun hc => A_fieldM tf_field_24_1 rfl rfl rfl) rfl, trivial⟩ ?_ rfl
        refine D_ro (u := .opt ((((!(((decide (s41.1 ≠ y11.Whole)) || (decide (s41.2 ≠ y11.Half))) || (decide (v54 = 0)))) && (decide (0 < (i11 : Int)))) && !(decide (y56.Group.Load < y11.Group.Load))) && (decide (y58.Group.Load = y11.Group.Load))) (I64 y60.Group.Discharge)) rfl rfl ⟨O_opt [(111, .dptr ((bound_Count.cs y60).drop 1))] rfl rfl rfl .optt ⟨.all id, trivial⟩ (fun hc => A_load tf_scalar_3 rfl rfl rfl) rfl, trivial⟩ ?_ rfl
        refine D_ro (u := .opt ((((!(((decide (s41.1 ≠ y11.Whole)) || (decide (s41.2 ≠ y11.Half))) || (decide (v54 = 0)))) && (decide (0 < (i11 : Int)))) && !(decide (y56.Group.Load < y11.Group.Load))) && (decide (y58.Group.Load = y11.Group.Load))) (.dptr (bound_Count.cs y11))) rfl rfl ⟨O_opt [] rfl rfl rfl .optt trivial (fun hc => A_fieldM tf_field_29_0 rfl rfl rfl) rfl, trivial⟩ ?_ rfl
        refine D_ro (u := .opt ((((!(((decide (s41.1 ≠ y11.Whole)) || (decide (s41.2 ≠ y11.Half))) || (decide (v54 = 0)))) && (decide (0 < (i11 : Int)))) && !(decide (y56.Group.Load < y11.Group.Load))) && (decide (y58.Group.Load = y11.Group.Load))) (.dptr ((bound_Count.cs y11).drop 1))) rfl rfl ⟨O_opt [(113, .dptr (bound_Count.cs y11))] rfl rfl rfl .optt ⟨.all id, trivial⟩ (fun hc => A_fieldM tf_field_24_1 rfl rfl rfl) rfl, trivial⟩ ?_ rfl
        refine D_ro (u := .opt ((((!(((decide (s41.1 ≠ y11.Whole)) || (decide (s41.2 ≠ y11.Half))) || (decide (v54 = 0)))) && (decide (0 < (i11 : Int)))) && !(decide (y56.Group.Load < y11.Group.Load))) && (decide (y58.Group.Load = y11.Group.Load))) (I64 y11.Group.Discharge)) rfl rfl ⟨O_opt [(114, .dptr ((bound_Count.cs y11).drop 1))] rfl rfl rfl .optt ⟨.all id, trivial⟩ (fun hc => A_load tf_scalar_3 rfl rfl rfl) rfl, trivial⟩ ?_ rfl
        refine D_ro (u := .opt ((((!(((decide (s41.1 ≠ y11.Whole)) || (decide (s41.2 ≠ y11.Half))) || (decide (v54 = 0)))) && (decide (0 < (i11 : Int)))) && !(decide (y56.Group.Load < y11.Group.Load))) && (decide (y58.Group.Load = y11.Group.Load))) (BL (decide (y60.Group.Discharge < y11.Group.Discharge)))) rfl rfl ⟨O_opt [(112, I64 y60.Group.Discharge), (115, I64 y11.Group.Discharge)] rfl rfl rfl .optt ⟨.all id, .all id, trivial⟩ (fun hc => A_lss rfl rfl rfl) rfl, trivial⟩ ?_ rfl
        refine D_ro (u := .opt (((!(((decide (s41.1 ≠ y11.Whole)) || (decide (s41.2 ≠ y11.Half))) || (decide (v54 = 0)))) && (decide (0 < (i11 : Int)))) && !(decide (y56.Group.Load < y11.Group.Load))) (BL ((decide (y58.Group.Load = y11.Group.Load)) && (decide (y60.Group.Discharge < y11.Group.Discharge))))) rfl rfl ⟨O_opt [(105, BL (decide (y58.Group.Load = y11.Group.Load))), (116, _)] rfl rfl rfl .optf ⟨.all id, .part, trivial⟩ (fun hc => A_and rfl rfl rfl rfl) rfl, trivial⟩ ?_ rfl
        refine D_ro (u := .opt ((!(((decide (s41.1 ≠ y11.Whole)) || (decide (s41.2 ≠ y11.Half))) || (decide (v54 = 0)))) && (decide (0 < (i11 : Int)))) (BL ((decide (y56.Group.Load < y11.Group.Load)) || ((decide (y58.Group.Load = y11.Group.Load)) && (decide (y60.Group.Discharge < y11.Group.Discharge)))))) rfl rfl ⟨O_opt [(93, BL (decide (y56.Group.Load < y11.Group.Load))), (117, _)] rfl rfl rfl .optt ⟨.all id, .part, trivial⟩ (fun hc => A_or rfl rfl rfl rfl) rfl, trivial⟩ ?_ rfl
        refine D_ro (u := .opt ((!(((decide (s41.1 ≠ y11.Whole)) || (decide (s41.2 ≠ y11.Half))) || (decide (v54 = 0)))) && (decide (0 < (i11 : Int)))) (BL (!((decide (y56.Group.Load < y11.Group.Load)) || ((decide (y58.Group.Load = y11.Group.Load)) && (decide (y60.Group.Discharge < y11.Group.Discharge))))))) rfl rfl ⟨O_opt [(118, BL ((decide (y56.Group.Load < y11.Group.Load)) || ((decide (y58.Group.Load = y11.Group.Load)) && (decide (y60.Group.Discharge < y11.Group.Discharge)))))] rfl rfl rfl .optt ⟨.all id, trivial⟩ (fun hc => A_not rfl rfl) rfl, trivial⟩ ?_ rfl
        refine D_ro (u := .opt (!(((decide (s41.1 ≠ y11.Whole)) || (decide (s41.2 ≠ y11.Half))) || (decide (v54 = 0)))) (BL ((decide (0 < (i11 : Int))) && (!((decide (y56.Group.Load < y11.Group.Load)) || ((decide (y58.Group.Load = y11.Group.Load)) && (decide (y60.Group.Discharge < y11.Group.Discharge)))))))) rfl rfl ⟨O_opt [(81, BL (decide (0 < (i11 : Int)))), (119, _)] rfl rfl rfl .scf ⟨.all id, .part, trivial⟩ (fun hc => A_and rfl rfl rfl rfl) rfl, trivial⟩ ?_ rfl
        refine D_ro (u := BL ((((decide (s41.1 ≠ y11.Whole)) || (decide (s41.2 ≠ y11.Half))) || (decide (v54 = 0))) || ((decide (0 < (i11 : Int))) && (!((decide (y56.Group.Load < y11.Group.Load)) || ((decide (y58.Group.Load = y11.Group.Load)) && (decide (y60.Group.Discharge < y11.Group.Discharge)))))))) rfl rfl ⟨O_go (A_or rfl rfl rfl rfl) rfl, trivial⟩ ?_ rfl
        refine D_nil ?_
        refine hK53 _ _ ?_
        refine JC_cond rfl (fun hb => ?_) (fun hb => ?_)
        ·
          replace h := bif_t hb h
          refine JC_seq (fun K61 hK61 => ?_)
          refine JC_region ?_
          refine JL_go (u := BL false) (A_assign rfl rfl) ?_ rfl rfl rfl
          refine JL_nil ?_
          refine hK61 _ _ ?_
          refine JC_ret ?_
          exact ⟨[BL false], [], trivial, rfl, ⟨⟨_, rfl, .conv (.same rfl)⟩, trivial⟩, rfl, congrArg (fun r : Bool => (BL r : AV)) (Option.some.inj h)⟩
        ·
          replace h := bif_f hb h
          refine JC_skip ?_
          refine hK52 _ _ ?_
          refine JC_region ?_
          refine JL_go (u := I64 s11.1) (A_move rfl rfl) ?_ rfl rfl rfl
          refine JL_go (u := I64 s41.1) (A_move rfl rfl) ?_ rfl rfl rfl
          obtain ⟨v62, hv62, h⟩ := chk_out h
          refine JL_go (u := I64 v62) (A_add hv62 rfl rfl rfl) ?_ rfl rfl rfl
          refine JL_go (u := I64 s11.2) (A_move rfl rfl) ?_ rfl rfl rfl
          refine JL_go (u := I64 s41.2) (A_move rfl rfl) ?_ rfl rfl rfl
          obtain ⟨v63, hv63, h⟩ := chk_out h
          refine JL_go (u := I64 v63) (A_add hv63 rfl rfl rfl) ?_ rfl rfl rfl
          refine JL_go (u := I64 v62) (A_assign rfl rfl) ?_ rfl rfl rfl
          refine JL_go (u := I64 v63) (A_assign rfl rfl) ?_ rfl rfl rfl
          refine JL_nil ?_
          refine hK14 _ _ ?_
          refine JC_region ?_
          refine JL_go (u := I64 ((i11 + 1 : Nat) : Int)) (A_add (idx_succ hk11 hm25) rfl rfl rfl) ?_ rfl rfl rfl
          refine JL_go (u := I64 ((i11 + 1 : Nat) : Int)) (A_move rfl rfl) ?_ rfl rfl rfl
          refine JL_nil ?_
          exact e11 _ _ (i11 + 1) (v62, v63) (app1 hn11 h) (by omega) ⟨⟨.same rfl, .same rfl, .same rfl, .same rfl, .same rfl, .same rfl, .same rfl, .same rfl, .same rfl, trivial⟩, trivial, rfl⟩
    ·
      have h := app1 hkx11 (each_nil hi11 (not_lt_len hb))
      refine JC_exit ?_
      refine hK9 _ _ ?_
      refine JC_seq (fun K64 hK64 => ?_)
      refine JC_seq (fun K65 hK65 => ?_)
      refine JC_region ?_
      refine JL_go (u := LS 9 Box.av boxes) (A_move rfl rfl) ?_ rfl rfl rfl
      refine JL_lenM (f := Box.av) (xs := boxes) tf_slice_22 rfl rfl (fun hm130 => ?_) rfl rfl rfl
      refine JL_go (u := I64 0) (A_move rfl rfl) ?_ rfl rfl rfl
      refine JL_nil ?_
      refine hK65 _ _ ?_
      refine JC_block ?_
      obtain ⟨b86, kx86, hb86, hkx86, h⟩ := each_in h
      refine JC_loop2 (fun i86 (s86 : Int × Int) => each b86 kx86 (List.drop i86 boxes) i86 s86 = some r) (fun i86 s86 => [(4, .dptr [I64 a.Load, I64 a.Discharge]), (5, .dptr [I64 b.Load, I64 b.Discharge]), (8, I64 s86.1), (9, I64 s86.2), (129, LS 9 Box.av boxes), (130, I64 (boxes.length : Int)), (131, I64 (i86 : Int))]) (fun i86 s86 => []) (fun i86 => boxes.length - i86) 0 (s11.1, s11.2) h ⟨⟨.same rfl, .same rfl, .same rfl, .same rfl, .same rfl, .same rfl, .same rfl, trivial⟩, trivial, rfl⟩ ?_
      clear h
      intro i86 s86 hi86 K86 e86
      refine JC_seq (fun K87 hK87 => ?_)
      refine JC_region ?_
      refine JL_go (u := BL (decide ((i86 : Int) < (boxes.length : Int)))) (A_lss rfl rfl rfl) ?_ rfl rfl rfl
      refine JL_nil ?_
      refine hK87 _ _ ?_
      refine JC_seq (fun K88 hK88 => ?_)
      refine JC_cond rfl (fun hb => ?_) (fun hb => ?_)
      ·
        have hk86 := lt_len hb
        obtain ⟨y86, nx86, hy86, hn86, h⟩ := each_out hi86 hk86
        replace h := app4 hb86 h
        refine JC_skip ?_
        refine hK88 _ _ ?_
        obtain ⟨kj89, hkj89, h⟩ := jp_out h
        refine JC_seqJ (fun j89 : Int × Int => kj89 j89 = some r) (fun j89 => [(4, .dptr [I64 a.Load, I64 a.Discharge]), (5, .dptr [I64 b.Load, I64 b.Discharge]), (8, I64 j89.1), (9, I64 j89.2), (129, LS 9 Box.av boxes), (130, I64 (boxes.length : Int)), (131, I64 (i86 : Int))]) (fun j89 => []) (fun Kj89 ej89 => ?_) ?_
        ·
          refine JC_block ?_
          refine JC_seq (fun K90 hK90 => ?_)
          refine JC_region ?_
          refine JL_go (u := .dptr (Box.cs y86)) (A_indexM (f := Box.av) (xs := boxes) (y := y86) rfl rfl rfl tf_slice_22 hy86 rfl) ?_ rfl rfl rfl
          refine JL_go (u := .agg (Box.cs y86)) (A_loadAgg tf_agg_31 rfl rfl rfl) ?_ rfl rfl rfl
          refine JL_go (u := .ptr 40000017 0) (A_allocJ 40000017 9 tf_zsize_31 rfl rfl) ?_ rfl rfl rfl
          refine JL_go0 (u := .junk) (A_store (u := .agg (Box.cs y86)) (ds := [I64 y86.ID, ST y86.Number, U8 y86.Size, BL y86.High, I64 y86.Kilos, I64 y86.Load, I64 y86.Discharge, U8 y86.Class, BL y86.Reefer]) tf_size_31 rfl rfl rfl rfl rfl rfl rfl rfl) ?_ rfl rfl
          refine JL_nil ?_
          refine hK90 _ _ ?_
          refine JC_freeze [(4, .dptr [I64 a.Load, I64 a.Discharge]), (5, .dptr [I64 b.Load, I64 b.Discharge]), (8, I64 s86.1), (9, I64 s86.2), (17, .dptr (Box.cs y86)), (129, LS 9 Box.av boxes), (130, I64 (boxes.length : Int)), (131, I64 (i86 : Int))] [] 40000017 rfl rfl rfl trivial rfl (by exact ⟨.conv (.same rfl), .conv (.same rfl), .conv (.same rfl), .conv (.same rfl), .ptr, .conv (.same rfl), .conv (.same rfl), .conv (.same rfl), trivial⟩) ?_
          refine JC_seq (fun K91 hK91 => ?_)
          refine JC_region ?_
          refine JL_go (u := .dptr ((Box.cs y86).drop 2)) (A_fieldM tf_field_31_2 rfl rfl rfl) ?_ rfl rfl rfl
          refine JL_go (u := U8 y86.Size) (A_load tf_scalar_5 rfl rfl rfl) ?_ rfl rfl rfl
          refine JL_nil ?_
          refine hK91 _ _ ?_
          refine JC_block ?_
          refine JC_seq (fun K92 hK92 => ?_)
          refine JC_region ?_
          refine JL_go (u := BL (decide (y86.Size = 40))) (A_eql rfl rfl rfl) ?_ rfl rfl rfl
          refine JL_go (u := BL (decide (y86.Size = 40))) (A_assign rfl rfl) ?_ rfl rfl rfl
          refine JL_nil ?_
          refine hK92 _ _ ?_
          refine JC_cond rfl (fun hb => ?_) (fun hb => ?_)
          ·
            replace h := bif_t hb h
            refine JC_region ?_
            refine JL_go (u := I64 s86.1) (A_move rfl rfl) ?_ rfl rfl rfl
            obtain ⟨v93, hv93, h⟩ := chk_out h
            refine JL_go (u := I64 v93) (A_sub hv93 rfl rfl rfl) ?_ rfl rfl rfl
            refine JL_go (u := I64 v93) (A_assign rfl rfl) ?_ rfl rfl rfl
            refine JL_nil ?_
            exact ej89 _ _ (v93, s86.2) h ⟨⟨.same rfl, .same rfl, .same rfl, .same rfl, .same rfl, .same rfl, .same rfl, trivial⟩, trivial, rfl⟩
          ·
            replace h := bif_f hb h
            refine JC_seq (fun K94 hK94 => ?_)
            refine JC_region ?_
            refine JL_go (u := BL (decide (y86.Size = 20))) (A_eql rfl rfl rfl) ?_ rfl rfl rfl
            refine JL_go (u := BL (decide (y86.Size = 20))) (A_assign rfl rfl) ?_ rfl rfl rfl
            refine JL_nil ?_
            refine hK94 _ _ ?_
            refine JC_cond rfl (fun hb => ?_) (fun hb => ?_)
            ·
              replace h := bif_t hb h
              refine JC_region ?_
              refine JL_go (u := I64 s86.2) (A_move rfl rfl) ?_ rfl rfl rfl
              obtain ⟨v95, hv95, h⟩ := chk_out h
              refine JL_go (u := I64 v95) (A_sub hv95 rfl rfl rfl) ?_ rfl rfl rfl
              refine JL_go (u := I64 v95) (A_assign rfl rfl) ?_ rfl rfl rfl
              refine JL_nil ?_
              exact ej89 _ _ (s86.1, v95) h ⟨⟨.same rfl, .same rfl, .same rfl, .same rfl, .same rfl, .same rfl, .same rfl, trivial⟩, trivial, rfl⟩
            ·
              replace h := bif_f hb h
              refine JC_skip ?_
              exact ej89 _ _ (s86.1, s86.2) h ⟨⟨.same rfl, .same rfl, .same rfl, .same rfl, .same rfl, .same rfl, .same rfl, trivial⟩, trivial, rfl⟩
        · intro j89 h
          replace h := app1 hkj89 h
          refine JC_region ?_
          refine JL_go (u := I64 ((i86 + 1 : Nat) : Int)) (A_add (idx_succ hk86 hm130) rfl rfl rfl) ?_ rfl rfl rfl
          refine JL_go (u := I64 ((i86 + 1 : Nat) : Int)) (A_move rfl rfl) ?_ rfl rfl rfl
          refine JL_nil ?_
          exact e86 _ _ (i86 + 1) (j89.1, j89.2) (app1 hn86 h) (by omega) ⟨⟨.same rfl, .same rfl, .same rfl, .same rfl, .same rfl, .same rfl, .same rfl, trivial⟩, trivial, rfl⟩
      ·
        have h := app1 hkx86 (each_nil hi86 (not_lt_len hb))
        refine JC_exit ?_
        refine hK64 _ _ ?_
        refine JC_seq (fun K96 hK96 => ?_)
        refine JC_region ?_
        refine JL_go (u := I64 s86.1) (A_move rfl rfl) ?_ rfl rfl rfl
        refine JL_go (u := BL (decide (s86.1 = 0))) (A_eql rfl rfl rfl) ?_ rfl rfl rfl
        refine JL_go (u := BL (decide (s86.1 = 0))) (A_move rfl rfl) ?_ rfl rfl rfl
        refine JL_opt (u := I64 s86.2) [] rfl rfl rfl .sct trivial (fun hc => A_move rfl rfl) ?_ rfl rfl rfl
        refine JL_opt (u := BL (decide (s86.2 = 0))) [(149, I64 s86.2)] rfl rfl rfl .sct ⟨.all id, trivial⟩ (fun hc => A_eql rfl rfl rfl) ?_ rfl rfl rfl
        refine JL_go (u := BL ((decide (s86.1 = 0)) && (decide (s86.2 = 0)))) (A_and rfl rfl rfl rfl) ?_ rfl rfl rfl
        refine JL_go (u := BL ((decide (s86.1 = 0)) && (decide (s86.2 = 0)))) (A_move rfl rfl) ?_ rfl rfl rfl
        refine JL_opt (u := .agg [I64 a.Load, I64 a.Discharge]) [] rfl rfl rfl .sct trivial (fun hc => A_loadAgg tf_agg_24 rfl rfl rfl) ?_ rfl rfl rfl
        refine JL_opt (u := .agg [I64 a.Load, I64 a.Discharge]) [] rfl rfl rfl .sct trivial (fun hc => A_loadAgg tf_agg_24 rfl rfl rfl) ?_ rfl rfl rfl
        obtain ⟨r97, hr97, h⟩ := bnd_out h
        refine JL_opt (u := BL r97) [(153, .agg [I64 a.Load, I64 a.Discharge]), (154, .agg [I64 a.Load, I64 a.Discharge])] rfl rfl rfl .sct ⟨.all id, .all id, trivial⟩ (fun hc => A_call1 (args := [.agg [I64 a.Load, I64 a.Discharge], .agg [I64 a.Load, I64 a.Discharge]]) rfl (M_bound_Cross_w a a r97 (bif_t hc hr97)) tf_call_7 ⟨rfl, rfl, rfl, rfl, trivial⟩) ?_ rfl rfl rfl
        refine JL_opt (u := BL (!r97)) [(155, BL r97)] rfl rfl rfl .sct ⟨.all id, trivial⟩ (fun hc => A_not rfl rfl) ?_ rfl rfl rfl
        refine JL_go (u := BL (((decide (s86.1 = 0)) && (decide (s86.2 = 0))) && (!r97))) (A_and rfl rfl rfl rfl) ?_ rfl rfl rfl
        refine JL_go (u := BL (((decide (s86.1 = 0)) && (decide (s86.2 = 0))) && (!r97))) (A_move rfl rfl) ?_ rfl rfl rfl
        refine JL_opt (u := .agg [I64 a.Load, I64 a.Discharge]) [] rfl rfl rfl .sct trivial (fun hc => A_loadAgg tf_agg_24 rfl rfl rfl) ?_ rfl rfl rfl
        refine JL_opt (u := .agg [I64 b.Load, I64 b.Discharge]) [] rfl rfl rfl .sct trivial (fun hc => A_loadAgg tf_agg_24 rfl rfl rfl) ?_ rfl rfl rfl
        obtain ⟨r98, hr98, h⟩ := bnd_out h
        refine JL_opt (u := BL r98) [(159, .agg [I64 a.Load, I64 a.Discharge]), (160, .agg [I64 b.Load, I64 b.Discharge])] rfl rfl rfl .sct ⟨.all id, .all id, trivial⟩ (fun hc => A_call1 (args := [.agg [I64 a.Load, I64 a.Discharge], .agg [I64 b.Load, I64 b.Discharge]]) rfl (M_bound_Cross_w a b r98 (bif_t hc hr98)) tf_call_7 ⟨rfl, rfl, rfl, rfl, trivial⟩) ?_ rfl rfl rfl
        refine JL_opt (u := BL r98) [(161, BL r98)] rfl rfl rfl .sct ⟨.all id, trivial⟩ (fun hc => A_move rfl rfl) ?_ rfl rfl rfl
        refine JL_opt (u := .agg [I64 b.Load, I64 b.Discharge]) [] rfl rfl rfl .optt trivial (fun hc => A_loadAgg tf_agg_24 rfl rfl rfl) ?_ rfl rfl rfl
        refine JL_opt (u := .agg [I64 a.Load, I64 a.Discharge]) [] rfl rfl rfl .optt trivial (fun hc => A_loadAgg tf_agg_24 rfl rfl rfl) ?_ rfl rfl rfl
        obtain ⟨r99, hr99, h⟩ := bnd_out h
        refine JL_opt (u := BL r99) [(163, .agg [I64 b.Load, I64 b.Discharge]), (164, .agg [I64 a.Load, I64 a.Discharge])] rfl rfl rfl .optt ⟨.all id, .all id, trivial⟩ (fun hc => A_call1 (args := [.agg [I64 b.Load, I64 b.Discharge], .agg [I64 a.Load, I64 a.Discharge]]) rfl (M_bound_Cross_w b a r99 (bif_t hc hr99)) tf_call_7 ⟨rfl, rfl, rfl, rfl, trivial⟩) ?_ rfl rfl rfl
        refine JL_opt (u := BL (r98 && r99)) [(162, BL r98), (165, _)] rfl rfl rfl .sct ⟨.all id, .part, trivial⟩ (fun hc => A_and rfl rfl rfl rfl) ?_ rfl rfl rfl
        refine JL_opt (u := BL (!(r98 && r99))) [(166, BL (r98 && r99))] rfl rfl rfl .sct ⟨.all id, trivial⟩ (fun hc => A_not rfl rfl) ?_ rfl rfl rfl
        refine JL_go (u := BL ((((decide (s86.1 = 0)) && (decide (s86.2 = 0))) && (!r97)) && (!(r98 && r99)))) (A_and rfl rfl rfl rfl) ?_ rfl rfl rfl
        refine JL_go (u := BL ((((decide (s86.1 = 0)) && (decide (s86.2 = 0))) && (!r97)) && (!(r98 && r99)))) (A_move rfl rfl) ?_ rfl rfl rfl
        obtain ⟨r100, hr100, h⟩ := bnd_out h
        refine JL_opt (u := BL r100) [] rfl rfl rfl .sct trivial (fun hc => A_call1 (args := []) rfl (M_twistlocklaw27_awake_w F r100 (bif_t hc hr100)) tf_call_5 trivial) ?_ rfl rfl rfl
        refine JL_go (u := BL (((((decide (s86.1 = 0)) && (decide (s86.2 = 0))) && (!r97)) && (!(r98 && r99))) && r100)) (A_and rfl rfl rfl rfl) ?_ rfl rfl rfl
        refine JL_go (u := BL (((((decide (s86.1 = 0)) && (decide (s86.2 = 0))) && (!r97)) && (!(r98 && r99))) && r100)) (A_assign rfl rfl) ?_ rfl rfl rfl
        refine JL_nil ?_
        refine hK96 _ _ ?_
        refine JC_ret ?_
        exact ⟨[BL (((((decide (s86.1 = 0)) && (decide (s86.2 = 0))) && (!r97)) && (!(r98 && r99))) && r100)], [], trivial, rfl, ⟨⟨_, rfl, .conv (.same rfl)⟩, trivial⟩, rfl, congrArg (fun r : Bool => (BL r : AV)) (Option.some.inj h)⟩
end
end Go.Proofs.Ytpbhhakkhlfbnaa
