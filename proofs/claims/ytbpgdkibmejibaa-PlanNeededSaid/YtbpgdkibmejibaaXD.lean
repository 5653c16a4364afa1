/-
 Models of functions of the program, and that they return what the models say.
-/
import Derived.Test.YtbpgdkibmejibaaProg
import Derived.Test.YtbpgdkibmejibaaSortM
import Derived.Test.YtbpgdkibmejibaaSortLay
import Derived.Test.YtbpgdkibmejibaaRel
import Derived.Test.YtbpgdkibmejibaaLit0
import Derived.Test.YtbpgdkibmejibaaXA
import Derived.Test.YtbpgdkibmejibaaSpecA
import Derived.Test.YtbpgdkibmejibaaSpecI
import Derived.Test.YtbpgdkibmejibaaXDa
import Derived.Test.YtbpgdkibmejibaaXDb
import Derived.Test.YtbpgdkibmejibaaXDc
set_option maxRecDepth 100000
set_option linter.unusedVariables false
set_option linter.unusedSimpArgs false
namespace Go.Proofs.Ytbpgdkibmejibaa
open Go.RowKit
noncomputable section
open XAF
open XDF

def M_twistlocklaw23_awake (F : Nat)  : Option Bool :=
 bnd (M_twistlocklaw07_Example) fun r3 =>
 bnd (M_twistlocklaw23_at 1 4 0) fun r6 =>
 bnd (M_twistlocklaw23_at 2 4 1) fun r7 =>
 bnd (M_twistlocklaw23_at 2 4 1) fun r8 =>
 bnd (M_twistlocklaw23_at 3 4 0) fun r9 =>
 bnd (M_plan_Lifted F r3 [(Box.mk 1 ByteArray.empty 40 false 0 0 1 0 false), (Box.mk 2 ByteArray.empty 40 false 0 0 2 0 false), (Box.mk 3 ByteArray.empty 40 false 0 1 2 0 false)] [r6, r7] [r8, r9]) fun r10 =>
 bnd (M_twistlocklaw23_at 1 0 0) fun r12 =>
 bnd (M_twistlocklaw23_at 2 3 0) fun r13 =>
 bnd (M_twistlocklaw23_at 2 3 0) fun r14 =>
 bnd (M_plan_Lifted F r3 [(Box.mk 1 ByteArray.empty 40 false 0 0 1 0 false), (Box.mk 2 ByteArray.empty 40 false 0 0 2 0 false), (Box.mk 3 ByteArray.empty 40 false 0 1 2 0 false)] [r12, r13] [r14]) fun r15 =>
 bnd (M_twistlocklaw23_at 1 4 0) fun r17 =>
 bnd (M_twistlocklaw23_at 2 4 1) fun r18 =>
 bnd (M_twistlocklaw23_at 2 4 1) fun r19 =>
 bnd (M_twistlocklaw23_at 3 4 0) fun r20 =>
 bnd (M_plan_Restows F r3 [(Box.mk 1 ByteArray.empty 40 false 0 0 1 0 false), (Box.mk 2 ByteArray.empty 40 false 0 0 2 0 false), (Box.mk 3 ByteArray.empty 40 false 0 1 2 0 false)] 3 (Plan.mk ([[r17, r18], [r19, r20], []]) [])) fun r22 =>
 bnd (M_plan_Count F r3 [(Box.mk 1 ByteArray.empty 40 false 0 0 1 0 false), (Box.mk 2 ByteArray.empty 40 false 0 0 2 0 false), (Box.mk 3 ByteArray.empty 40 false 0 1 2 0 false)] 3 (Plan.mk ([[r17, r18], [r19, r20], []]) [])) fun r24 =>
 bnd (M_plan_Check r3 [(Box.mk 1 ByteArray.empty 40 false 0 0 1 0 false), (Box.mk 2 ByteArray.empty 40 false 0 0 2 0 false), (Box.mk 3 ByteArray.empty 40 false 0 1 2 0 false)] 4 (Plan.mk ([[r17, r18], [r19, r20], []]) [])) fun r26 =>
 chk (r10.2 + r15.2) fun v28 =>
 chk (v28 + r22.2) fun v29 =>
 chk (v29 + r24.2) fun v30 =>
 bnd (bif ((decide (v30 = 0)) && (decide (r26.2 = 231))) then M_twistlockkit_SameInts r10.1 [1, 2, 3] else some default) fun r31 =>
 bnd (bif (((decide (v30 = 0)) && (decide (r26.2 = 231))) && r31) then M_twistlockkit_SameInts r15.1 [1, 2] else some default) fun r32 =>
 bnd (bif ((((((decide (v30 = 0)) && (decide (r26.2 = 231))) && r31) && r32) && (decide (r24.1 = 1))) && (decide ((r22.1.length : Int) = 3))) then gidx r22.1 0 some else some default) fun y33 =>
 bnd (bif ((((((decide (v30 = 0)) && (decide (r26.2 = 231))) && r31) && r32) && (decide (r24.1 = 1))) && (decide ((r22.1.length : Int) = 3))) then gidx r22.1 2 some else some default) fun y34 =>
 bnd (bif ((((((decide (v30 = 0)) && (decide (r26.2 = 231))) && r31) && r32) && (decide (r24.1 = 1))) && (decide ((r22.1.length : Int) = 3))) then chk ((y33.length : Int) + (y34.length : Int)) some else some 0) fun v35 =>
 bnd (bif (((((((decide (v30 = 0)) && (decide (r26.2 = 231))) && r31) && r32) && (decide (r24.1 = 1))) && (decide ((r22.1.length : Int) = 3))) && (decide (v35 = 0))) then gidx r22.1 1 some else some default) fun y36 =>
 bnd (bif (((((((decide (v30 = 0)) && (decide (r26.2 = 231))) && r31) && r32) && (decide (r24.1 = 1))) && (decide ((r22.1.length : Int) = 3))) && (decide (v35 = 0))) then M_twistlockkit_SameInts y36 [2] else some default) fun r37 =>
 bnd (bif ((((((((decide (v30 = 0)) && (decide (r26.2 = 231))) && r31) && r32) && (decide (r24.1 = 1))) && (decide ((r22.1.length : Int) = 3))) && (decide (v35 = 0))) && r37) then M_plan_Aboard [(Box.mk 1 ByteArray.empty 40 false 0 0 1 0 false), (Box.mk 2 ByteArray.empty 40 false 0 0 2 0 false), (Box.mk 3 ByteArray.empty 40 false 0 1 2 0 false)] 1 else some default) fun r38 =>
 bnd (bif ((((((((decide (v30 = 0)) && (decide (r26.2 = 231))) && r31) && r32) && (decide (r24.1 = 1))) && (decide ((r22.1.length : Int) = 3))) && (decide (v35 = 0))) && r37) then M_twistlockkit_SameInts r38 [2, 3] else some default) fun r39 =>
 some (((((((((decide (v30 = 0)) && (decide (r26.2 = 231))) && r31) && r32) && (decide (r24.1 = 1))) && (decide ((r22.1.length : Int) = 3))) && (decide (v35 = 0))) && r37) && r39)
theorem M_twistlocklaw23_awake_w (F : Nat)  (r : Bool) (h : M_twistlocklaw23_awake F  = some r) : Pure Try.prog 12 [] (· = BL r) := by
 unfold M_twistlocklaw23_awake at h
 refine Pure_ofG [.tmp 0] Try.func12 rfl rfl ?_
 refine Js fun K1 hK1 => Jr ?_
 refine Jg (u := BL false) (Aa rfl rfl) ?_ rfl rfl rfl
 refine Jn (hK1 _ _ ?_)
 refine Js fun K2 hK2 => Jr ?_
 obtain ⟨r3, hr3, h⟩ := bnd_out h
 refine Jg (u := .agg (Ship.cs r3)) (A_call1 (args := []) rfl (M_twistlocklaw07_Example_w  r3 hr3) tf_call_23 trivial) ?_ rfl rfl rfl
 refine Jg (u := .ptr 1029 0) (A_allocJ 1029 13 tf_zsize_35 rfl rfl) ?_ rfl rfl rfl
 refine JL_go0 (u := .junk) (A_store (u := .agg (Ship.cs r3)) (ds := [LS 12 Column.av r3.Columns, LS 2 Cover.av r3.Covers, I64 r3.Light.Kilos, I64 r3.Light.X, I64 r3.Light.Y, I64 r3.Light.Z, LS 5 Row.av r3.Rows, LS 5 Frame.av r3.Frames, LS 6 Tank.av r3.Tanks, I64 r3.Limits.Tolerance, I64 r3.Limits.Trim, I64 r3.Limits.List_, I64 r3.Limits.Stability]) tf_size_35 rfl rfl rfl rfl rfl rfl rfl rfl) ?_ rfl rfl
 refine Jn (hK2 _ _ ?_)
 refine JC_freeze [(1, .dptr (Ship.cs r3))] [] 1029 rfl rfl rfl trivial rfl (by exact ⟨.ptr, trivial⟩) ?_
 refine Js fun K4 hK4 => Jr ?_
 refine Jg (u := .agg [I64 1, ST ByteArray.empty, U8 40, BL false, I64 0, I64 0, I64 1, U8 0, BL false]) (A_buildZ (cs := [I64 1, ST ByteArray.empty, U8 40, BL false, I64 0, I64 0, I64 1, U8 0, BL false]) [(0, 1), (1, 1), (2, 1), (3, 1), (4, 1), (5, 1), (6, 1), (7, 1), (8, 1)] [I64 0, ST ByteArray.empty, U8 0, BL false, I64 0, I64 0, I64 0, U8 0, BL false] [.int .i64 0, .string ByteArray.empty, .int .u8 0, .bool false, .int .i64 0, .int .i64 0, .int .i64 0, .int .u8 0, .bool false] tf_places_50 tf_zero_50 ⟨.inl rfl, .inl rfl, .inl rfl, .inl rfl, .inl rfl, .inl rfl, .inl rfl, .inl rfl, .inl rfl, trivial⟩ rfl rfl) ?_ rfl rfl rfl
 refine Jg (u := .agg [I64 2, ST ByteArray.empty, U8 40, BL false, I64 0, I64 0, I64 2, U8 0, BL false]) (A_buildZ (cs := [I64 2, ST ByteArray.empty, U8 40, BL false, I64 0, I64 0, I64 2, U8 0, BL false]) [(0, 1), (1, 1), (2, 1), (3, 1), (4, 1), (5, 1), (6, 1), (7, 1), (8, 1)] [I64 0, ST ByteArray.empty, U8 0, BL false, I64 0, I64 0, I64 0, U8 0, BL false] [.int .i64 0, .string ByteArray.empty, .int .u8 0, .bool false, .int .i64 0, .int .i64 0, .int .i64 0, .int .u8 0, .bool false] tf_places_50 tf_zero_50 ⟨.inl rfl, .inl rfl, .inl rfl, .inl rfl, .inl rfl, .inl rfl, .inl rfl, .inl rfl, .inl rfl, trivial⟩ rfl rfl) ?_ rfl rfl rfl
 refine Jg (u := .agg [I64 3, ST ByteArray.empty, U8 40, BL false, I64 0, I64 1, I64 2, U8 0, BL false]) (A_buildZ (cs := [I64 3, ST ByteArray.empty, U8 40, BL false, I64 0, I64 1, I64 2, U8 0, BL false]) [(0, 1), (1, 1), (2, 1), (3, 1), (4, 1), (5, 1), (6, 1), (7, 1), (8, 1)] [I64 0, ST ByteArray.empty, U8 0, BL false, I64 0, I64 0, I64 0, U8 0, BL false] [.int .i64 0, .string ByteArray.empty, .int .u8 0, .bool false, .int .i64 0, .int .i64 0, .int .i64 0, .int .u8 0, .bool false] tf_places_50 tf_zero_50 ⟨.inl rfl, .inl rfl, .inl rfl, .inl rfl, .inl rfl, .inl rfl, .inl rfl, .inl rfl, .inl rfl, trivial⟩ rfl rfl) ?_ rfl rfl rfl
 refine Jg (u := LS 9 Box.av [(Box.mk 1 ByteArray.empty 40 false 0 0 1 0 false), (Box.mk 2 ByteArray.empty 40 false 0 0 2 0 false), (Box.mk 3 ByteArray.empty 40 false 0 1 2 0 false)]) (A_buildSlice (xs := [.agg [I64 1, ST ByteArray.empty, U8 40, BL false, I64 0, I64 0, I64 1, U8 0, BL false], .agg [I64 2, ST ByteArray.empty, U8 40, BL false, I64 0, I64 0, I64 2, U8 0, BL false], .agg [I64 3, ST ByteArray.empty, U8 40, BL false, I64 0, I64 1, I64 2, U8 0, BL false]]) rfl ⟨rfl, rfl, rfl, rfl, rfl, rfl, trivial⟩ tf_slice_39 tf_zsize_50 rfl rfl rfl rfl) ?_ rfl rfl rfl
 refine Jg (u := LS 9 Box.av [(Box.mk 1 ByteArray.empty 40 false 0 0 1 0 false), (Box.mk 2 ByteArray.empty 40 false 0 0 2 0 false), (Box.mk 3 ByteArray.empty 40 false 0 1 2 0 false)]) (Aa rfl rfl) ?_ rfl rfl rfl
 refine Jn (hK4 _ _ ?_)
 refine Js (fun K5 hK5 => ?_)
 obtain ⟨r6, hr6, h⟩ := bnd_out h
 obtain ⟨r7, hr7, h⟩ := bnd_out h
 obtain ⟨r8, hr8, h⟩ := bnd_out h
 obtain ⟨r9, hr9, h⟩ := bnd_out h
 obtain ⟨r10, hr10, h⟩ := bnd_out h
 refine JC_draw [] [0, 0, 0, 0, 0, 0, 0, 0, 0, 0, 0, 0, 0, 0] [0, 0, 0, 0, 0, 0, 0, 0, 0, 0, 0, 0, 0, 0] [[]] tf_mixed (by kernel_rfl) rfl rfl ?_
 refine D_ro (u := .agg (Ship.cs r3)) rfl rfl ⟨O_go (A_loadAgg tf_agg_35 rfl rfl rfl) rfl, trivial⟩ ?_ rfl
 refine D_ro (u := LS 9 Box.av [(Box.mk 1 ByteArray.empty 40 false 0 0 1 0 false), (Box.mk 2 ByteArray.empty 40 false 0 0 2 0 false), (Box.mk 3 ByteArray.empty 40 false 0 1 2 0 false)]) rfl rfl ⟨O_go (Am rfl rfl) rfl, trivial⟩ ?_ rfl
 refine D_ro (u := .agg (Stowed.cs r6)) rfl rfl ⟨O_go (A_call1 (args := [I64 1, I64 4, I64 0]) rfl (M_twistlocklaw23_at_w 1 4 0 r6 hr6) tf_call_24 ⟨rfl, rfl, rfl, rfl, rfl, rfl, trivial⟩) rfl, trivial⟩ ?_ rfl
 refine D_ro (u := .agg (Stowed.cs r7)) rfl rfl ⟨O_go (A_call1 (args := [I64 2, I64 4, I64 1]) rfl (M_twistlocklaw23_at_w 2 4 1 r7 hr7) tf_call_24 ⟨rfl, rfl, rfl, rfl, rfl, rfl, trivial⟩) rfl, trivial⟩ ?_ rfl
 refine D_ro (u := LS 4 Stowed.av [r6, r7]) rfl rfl ⟨O_go (A_buildSlice (xs := [.agg (Stowed.cs r6), .agg (Stowed.cs r7)]) rfl ⟨rfl, rfl, rfl, rfl, trivial⟩ tf_slice_40 tf_zsize_82 rfl rfl rfl rfl) rfl, trivial⟩ ?_ rfl
 refine D_ro (u := .agg (Stowed.cs r8)) rfl rfl ⟨O_go (A_call1 (args := [I64 2, I64 4, I64 1]) rfl (M_twistlocklaw23_at_w 2 4 1 r8 hr8) tf_call_24 ⟨rfl, rfl, rfl, rfl, rfl, rfl, trivial⟩) rfl, trivial⟩ ?_ rfl
 refine D_ro (u := .agg (Stowed.cs r9)) rfl rfl ⟨O_go (A_call1 (args := [I64 3, I64 4, I64 0]) rfl (M_twistlocklaw23_at_w 3 4 0 r9 hr9) tf_call_24 ⟨rfl, rfl, rfl, rfl, rfl, rfl, trivial⟩) rfl, trivial⟩ ?_ rfl
 refine D_ro (u := LS 4 Stowed.av [r8, r9]) rfl rfl ⟨O_go (A_buildSlice (xs := [.agg (Stowed.cs r8), .agg (Stowed.cs r9)]) rfl ⟨rfl, rfl, rfl, rfl, trivial⟩ tf_slice_40 tf_zsize_82 rfl rfl rfl rfl) rfl, trivial⟩ ?_ rfl
 refine D_ro (u := .tup [LS 1 I64 r10.1, I64 r10.2]) rfl rfl ⟨O_go (A_call1 (args := [.agg (Ship.cs r3), LS 9 Box.av [(Box.mk 1 ByteArray.empty 40 false 0 0 1 0 false), (Box.mk 2 ByteArray.empty 40 false 0 0 2 0 false), (Box.mk 3 ByteArray.empty 40 false 0 1 2 0 false)], LS 4 Stowed.av [r6, r7], LS 4 Stowed.av [r8, r9]]) rfl (M_plan_Lifted_w F r3 [(Box.mk 1 ByteArray.empty 40 false 0 0 1 0 false), (Box.mk 2 ByteArray.empty 40 false 0 0 2 0 false), (Box.mk 3 ByteArray.empty 40 false 0 1 2 0 false)] [r6, r7] [r8, r9] r10 hr10) tf_call_7 ⟨rfl, rfl, rfl, rfl, rfl, rfl, rfl, rfl, trivial⟩) rfl, trivial⟩ ?_ rfl
 refine D_ro (u := .tup [LS 1 I64 r10.1, I64 r10.2]) rfl rfl ⟨O_go (Am rfl rfl) rfl, trivial⟩ ?_ rfl
 refine D_ro (u := LS 1 I64 r10.1) rfl rfl ⟨O_go (A_extract rfl rfl rfl) rfl, trivial⟩ ?_ rfl
 refine D_ro (u := I64 r10.2) rfl rfl ⟨O_go (A_extract rfl rfl rfl) rfl, trivial⟩ ?_ rfl
 refine D_ro (u := LS 1 I64 r10.1) rfl rfl ⟨O_go (Aa rfl rfl) rfl, trivial⟩ ?_ rfl
 refine D_ro (u := I64 r10.2) rfl rfl ⟨O_go (Aa rfl rfl) rfl, trivial⟩ ?_ rfl
 refine D_nil ?_
 refine hK5 _ _ ?_
 refine Js (fun K11 hK11 => ?_)
 obtain ⟨r12, hr12, h⟩ := bnd_out h
 obtain ⟨r13, hr13, h⟩ := bnd_out h
 obtain ⟨r14, hr14, h⟩ := bnd_out h
 obtain ⟨r15, hr15, h⟩ := bnd_out h
 refine JC_draw [] [0, 0, 0, 0, 0, 0, 0, 0, 0, 0, 0, 0, 0] [0, 0, 0, 0, 0, 0, 0, 0, 0, 0, 0, 0, 0] [[]] tf_mixed (by kernel_rfl) rfl rfl ?_
 refine D_ro (u := .agg (Ship.cs r3)) rfl rfl ⟨O_go (A_loadAgg tf_agg_35 rfl rfl rfl) rfl, trivial⟩ ?_ rfl
 refine D_ro (u := LS 9 Box.av [(Box.mk 1 ByteArray.empty 40 false 0 0 1 0 false), (Box.mk 2 ByteArray.empty 40 false 0 0 2 0 false), (Box.mk 3 ByteArray.empty 40 false 0 1 2 0 false)]) rfl rfl ⟨O_go (Am rfl rfl) rfl, trivial⟩ ?_ rfl
 refine D_ro (u := .agg (Stowed.cs r12)) rfl rfl ⟨O_go (A_call1 (args := [I64 1, I64 0, I64 0]) rfl (M_twistlocklaw23_at_w 1 0 0 r12 hr12) tf_call_24 ⟨rfl, rfl, rfl, rfl, rfl, rfl, trivial⟩) rfl, trivial⟩ ?_ rfl
 refine D_ro (u := .agg (Stowed.cs r13)) rfl rfl ⟨O_go (A_call1 (args := [I64 2, I64 3, I64 0]) rfl (M_twistlocklaw23_at_w 2 3 0 r13 hr13) tf_call_24 ⟨rfl, rfl, rfl, rfl, rfl, rfl, trivial⟩) rfl, trivial⟩ ?_ rfl
 refine D_ro (u := LS 4 Stowed.av [r12, r13]) rfl rfl ⟨O_go (A_buildSlice (xs := [.agg (Stowed.cs r12), .agg (Stowed.cs r13)]) rfl ⟨rfl, rfl, rfl, rfl, trivial⟩ tf_slice_40 tf_zsize_82 rfl rfl rfl rfl) rfl, trivial⟩ ?_ rfl
 refine D_ro (u := .agg (Stowed.cs r14)) rfl rfl ⟨O_go (A_call1 (args := [I64 2, I64 3, I64 0]) rfl (M_twistlocklaw23_at_w 2 3 0 r14 hr14) tf_call_24 ⟨rfl, rfl, rfl, rfl, rfl, rfl, trivial⟩) rfl, trivial⟩ ?_ rfl
 refine D_ro (u := LS 4 Stowed.av [r14]) rfl rfl ⟨O_go (A_buildSlice (xs := [.agg (Stowed.cs r14)]) rfl ⟨rfl, rfl, trivial⟩ tf_slice_40 tf_zsize_82 rfl rfl rfl rfl) rfl, trivial⟩ ?_ rfl
 refine D_ro (u := .tup [LS 1 I64 r15.1, I64 r15.2]) rfl rfl ⟨O_go (A_call1 (args := [.agg (Ship.cs r3), LS 9 Box.av [(Box.mk 1 ByteArray.empty 40 false 0 0 1 0 false), (Box.mk 2 ByteArray.empty 40 false 0 0 2 0 false), (Box.mk 3 ByteArray.empty 40 false 0 1 2 0 false)], LS 4 Stowed.av [r12, r13], LS 4 Stowed.av [r14]]) rfl (M_plan_Lifted_w F r3 [(Box.mk 1 ByteArray.empty 40 false 0 0 1 0 false), (Box.mk 2 ByteArray.empty 40 false 0 0 2 0 false), (Box.mk 3 ByteArray.empty 40 false 0 1 2 0 false)] [r12, r13] [r14] r15 hr15) tf_call_7 ⟨rfl, rfl, rfl, rfl, rfl, rfl, rfl, rfl, trivial⟩) rfl, trivial⟩ ?_ rfl
 refine D_ro (u := .tup [LS 1 I64 r15.1, I64 r15.2]) rfl rfl ⟨O_go (Am rfl rfl) rfl, trivial⟩ ?_ rfl
 refine D_ro (u := LS 1 I64 r15.1) rfl rfl ⟨O_go (A_extract rfl rfl rfl) rfl, trivial⟩ ?_ rfl
 refine D_ro (u := I64 r15.2) rfl rfl ⟨O_go (A_extract rfl rfl rfl) rfl, trivial⟩ ?_ rfl
 refine D_ro (u := LS 1 I64 r15.1) rfl rfl ⟨O_go (Aa rfl rfl) rfl, trivial⟩ ?_ rfl
 refine D_ro (u := I64 r15.2) rfl rfl ⟨O_go (Aa rfl rfl) rfl, trivial⟩ ?_ rfl
 refine D_nil ?_
 refine hK11 _ _ ?_
 refine Js fun K16 hK16 => Jr ?_
 obtain ⟨r17, hr17, h⟩ := bnd_out h
 refine Jg (u := .agg (Stowed.cs r17)) (A_call1 (args := [I64 1, I64 4, I64 0]) rfl (M_twistlocklaw23_at_w 1 4 0 r17 hr17) tf_call_24 ⟨rfl, rfl, rfl, rfl, rfl, rfl, trivial⟩) ?_ rfl rfl rfl
 obtain ⟨r18, hr18, h⟩ := bnd_out h
 refine Jg (u := .agg (Stowed.cs r18)) (A_call1 (args := [I64 2, I64 4, I64 1]) rfl (M_twistlocklaw23_at_w 2 4 1 r18 hr18) tf_call_24 ⟨rfl, rfl, rfl, rfl, rfl, rfl, trivial⟩) ?_ rfl rfl rfl
 refine Jg (u := LS 4 Stowed.av [r17, r18]) (A_buildSlice (xs := [.agg (Stowed.cs r17), .agg (Stowed.cs r18)]) rfl ⟨rfl, rfl, rfl, rfl, trivial⟩ tf_slice_40 tf_zsize_82 rfl rfl rfl rfl) ?_ rfl rfl rfl
 obtain ⟨r19, hr19, h⟩ := bnd_out h
 refine Jg (u := .agg (Stowed.cs r19)) (A_call1 (args := [I64 2, I64 4, I64 1]) rfl (M_twistlocklaw23_at_w 2 4 1 r19 hr19) tf_call_24 ⟨rfl, rfl, rfl, rfl, rfl, rfl, trivial⟩) ?_ rfl rfl rfl
 obtain ⟨r20, hr20, h⟩ := bnd_out h
 refine Jg (u := .agg (Stowed.cs r20)) (A_call1 (args := [I64 3, I64 4, I64 0]) rfl (M_twistlocklaw23_at_w 3 4 0 r20 hr20) tf_call_24 ⟨rfl, rfl, rfl, rfl, rfl, rfl, trivial⟩) ?_ rfl rfl rfl
 refine Jg (u := LS 4 Stowed.av [r19, r20]) (A_buildSlice (xs := [.agg (Stowed.cs r19), .agg (Stowed.cs r20)]) rfl ⟨rfl, rfl, rfl, rfl, trivial⟩ tf_slice_40 tf_zsize_82 rfl rfl rfl rfl) ?_ rfl rfl rfl
 refine Jg (u := LS 1 (LS 4 Stowed.av) ([[r17, r18], [r19, r20], []])) (A_buildSliceN (xs := [LS 4 Stowed.av [r17, r18], LS 4 Stowed.av [r19, r20], LS 4 Stowed.av ([] : List Stowed)]) rfl ⟨.inl rfl, rfl, .inl rfl, rfl, .inr ⟨_, rfl, rfl⟩, rfl, trivial⟩ tf_slice_56 tf_zsize_40 rfl rfl rfl rfl) ?_ rfl rfl rfl
 refine Jg (u := .agg [LS 1 (LS 4 Stowed.av) ([[r17, r18], [r19, r20], []]), LS 1 (LS 1 I64) ([] : List (List Int))]) (A_buildZ (cs := [LS 1 (LS 4 Stowed.av) ([[r17, r18], [r19, r20], []]), LS 1 (LS 1 I64) ([] : List (List Int))]) [(0, 1), (1, 1)] [LS 1 (LS 4 Stowed.av) ([] : List (List Stowed)), LS 1 (LS 1 I64) ([] : List (List Int))] [.slice none 0 0, .slice none 0 0] tf_places_59 tf_zero_59 ⟨.inr ⟨_, rfl, rfl⟩, .inr ⟨_, rfl, rfl⟩, trivial⟩ rfl rfl) ?_ rfl rfl rfl
 refine Jg (u := .ptr 1030 0) (A_allocJ 1030 2 tf_zsize_59 rfl rfl) ?_ rfl rfl rfl
 refine JL_go0 (u := .junk) (A_store (u := .agg [LS 1 (LS 4 Stowed.av) ([[r17, r18], [r19, r20], []]), LS 1 (LS 1 I64) ([] : List (List Int))]) (ds := [LS 1 (LS 4 Stowed.av) ([[r17, r18], [r19, r20], []]), LS 1 (LS 1 I64) ([] : List (List Int))]) tf_size_59 rfl rfl rfl rfl rfl rfl rfl rfl) ?_ rfl rfl
 refine Jn (hK16 _ _ ?_)
 refine JC_freeze [(1, .dptr (Ship.cs r3)), (2, LS 9 Box.av [(Box.mk 1 ByteArray.empty 40 false 0 0 1 0 false), (Box.mk 2 ByteArray.empty 40 false 0 0 2 0 false), (Box.mk 3 ByteArray.empty 40 false 0 1 2 0 false)]), (3, LS 1 I64 r10.1), (4, I64 r10.2), (5, LS 1 I64 r15.1), (6, I64 r15.2), (7, .dptr [LS 1 (LS 4 Stowed.av) ([[r17, r18], [r19, r20], []]), LS 1 (LS 1 I64) ([] : List (List Int))])] [] 1030 rfl rfl rfl trivial rfl (by exact ⟨.conv (.same rfl), .conv (.same rfl), .conv (.same rfl), .conv (.same rfl), .conv (.same rfl), .conv (.same rfl), .ptr, trivial⟩) ?_
 refine Js fun K21 hK21 => Jr ?_
 refine Jg (u := .agg (Ship.cs r3)) (A_loadAgg tf_agg_35 rfl rfl rfl) ?_ rfl rfl rfl
 refine Jg (u := LS 9 Box.av [(Box.mk 1 ByteArray.empty 40 false 0 0 1 0 false), (Box.mk 2 ByteArray.empty 40 false 0 0 2 0 false), (Box.mk 3 ByteArray.empty 40 false 0 1 2 0 false)]) (Am rfl rfl) ?_ rfl rfl rfl
 refine Jg (u := .agg [LS 1 (LS 4 Stowed.av) ([[r17, r18], [r19, r20], []]), LS 1 (LS 1 I64) ([] : List (List Int))]) (A_loadAgg tf_agg_59 rfl rfl rfl) ?_ rfl rfl rfl
 obtain ⟨r22, hr22, h⟩ := bnd_out h
 refine Jg (u := .tup [LS 1 (LS 1 I64) r22.1, I64 r22.2]) (A_call1 (args := [.agg (Ship.cs r3), LS 9 Box.av [(Box.mk 1 ByteArray.empty 40 false 0 0 1 0 false), (Box.mk 2 ByteArray.empty 40 false 0 0 2 0 false), (Box.mk 3 ByteArray.empty 40 false 0 1 2 0 false)], I64 3, .agg [LS 1 (LS 4 Stowed.av) ([[r17, r18], [r19, r20], []]), LS 1 (LS 1 I64) ([] : List (List Int))]]) rfl (M_plan_Restows_w F r3 [(Box.mk 1 ByteArray.empty 40 false 0 0 1 0 false), (Box.mk 2 ByteArray.empty 40 false 0 0 2 0 false), (Box.mk 3 ByteArray.empty 40 false 0 1 2 0 false)] 3 (Plan.mk ([[r17, r18], [r19, r20], []]) []) r22 hr22) tf_call_14 ⟨rfl, rfl, rfl, rfl, rfl, rfl, rfl, rfl, trivial⟩) ?_ rfl rfl rfl
 refine Jg (u := .tup [LS 1 (LS 1 I64) r22.1, I64 r22.2]) (Am rfl rfl) ?_ rfl rfl rfl
 refine Jg (u := LS 1 (LS 1 I64) r22.1) (A_extract rfl rfl rfl) ?_ rfl rfl rfl
 refine Jg (u := I64 r22.2) (A_extract rfl rfl rfl) ?_ rfl rfl rfl
 refine Jg (u := LS 1 (LS 1 I64) r22.1) (Aa rfl rfl) ?_ rfl rfl rfl
 refine Jg (u := I64 r22.2) (Aa rfl rfl) ?_ rfl rfl rfl
 refine Jn (hK21 _ _ ?_)
 refine Js fun K23 hK23 => Jr ?_
 refine Jg (u := .agg (Ship.cs r3)) (A_loadAgg tf_agg_35 rfl rfl rfl) ?_ rfl rfl rfl
 refine Jg (u := LS 9 Box.av [(Box.mk 1 ByteArray.empty 40 false 0 0 1 0 false), (Box.mk 2 ByteArray.empty 40 false 0 0 2 0 false), (Box.mk 3 ByteArray.empty 40 false 0 1 2 0 false)]) (Am rfl rfl) ?_ rfl rfl rfl
 refine Jg (u := .agg [LS 1 (LS 4 Stowed.av) ([[r17, r18], [r19, r20], []]), LS 1 (LS 1 I64) ([] : List (List Int))]) (A_loadAgg tf_agg_59 rfl rfl rfl) ?_ rfl rfl rfl
 obtain ⟨r24, hr24, h⟩ := bnd_out h
 refine Jg (u := .tup [I64 r24.1, I64 r24.2]) (A_call1 (args := [.agg (Ship.cs r3), LS 9 Box.av [(Box.mk 1 ByteArray.empty 40 false 0 0 1 0 false), (Box.mk 2 ByteArray.empty 40 false 0 0 2 0 false), (Box.mk 3 ByteArray.empty 40 false 0 1 2 0 false)], I64 3, .agg [LS 1 (LS 4 Stowed.av) ([[r17, r18], [r19, r20], []]), LS 1 (LS 1 I64) ([] : List (List Int))]]) rfl (M_plan_Count_w F r3 [(Box.mk 1 ByteArray.empty 40 false 0 0 1 0 false), (Box.mk 2 ByteArray.empty 40 false 0 0 2 0 false), (Box.mk 3 ByteArray.empty 40 false 0 1 2 0 false)] 3 (Plan.mk ([[r17, r18], [r19, r20], []]) []) r24 hr24) tf_call_15 ⟨rfl, rfl, rfl, rfl, rfl, rfl, rfl, rfl, trivial⟩) ?_ rfl rfl rfl
 refine Jg (u := .tup [I64 r24.1, I64 r24.2]) (Am rfl rfl) ?_ rfl rfl rfl
 refine Jg (u := I64 r24.1) (A_extract rfl rfl rfl) ?_ rfl rfl rfl
 refine Jg (u := I64 r24.2) (A_extract rfl rfl rfl) ?_ rfl rfl rfl
 refine Jg (u := I64 r24.1) (Aa rfl rfl) ?_ rfl rfl rfl
 refine Jg (u := I64 r24.2) (Aa rfl rfl) ?_ rfl rfl rfl
 refine Jn (hK23 _ _ ?_)
 refine Js fun K25 hK25 => Jr ?_
 refine Jg (u := .agg (Ship.cs r3)) (A_loadAgg tf_agg_35 rfl rfl rfl) ?_ rfl rfl rfl
 refine Jg (u := LS 9 Box.av [(Box.mk 1 ByteArray.empty 40 false 0 0 1 0 false), (Box.mk 2 ByteArray.empty 40 false 0 0 2 0 false), (Box.mk 3 ByteArray.empty 40 false 0 1 2 0 false)]) (Am rfl rfl) ?_ rfl rfl rfl
 refine Jg (u := .agg [LS 1 (LS 4 Stowed.av) ([[r17, r18], [r19, r20], []]), LS 1 (LS 1 I64) ([] : List (List Int))]) (A_loadAgg tf_agg_59 rfl rfl rfl) ?_ rfl rfl rfl
 obtain ⟨r26, hr26, h⟩ := bnd_out h
 refine Jg (u := .tup [I64 r26.1, I64 r26.2]) (A_call1 (args := [.agg (Ship.cs r3), LS 9 Box.av [(Box.mk 1 ByteArray.empty 40 false 0 0 1 0 false), (Box.mk 2 ByteArray.empty 40 false 0 0 2 0 false), (Box.mk 3 ByteArray.empty 40 false 0 1 2 0 false)], I64 4, .agg [LS 1 (LS 4 Stowed.av) ([[r17, r18], [r19, r20], []]), LS 1 (LS 1 I64) ([] : List (List Int))]]) rfl (M_plan_Check_w r3 [(Box.mk 1 ByteArray.empty 40 false 0 0 1 0 false), (Box.mk 2 ByteArray.empty 40 false 0 0 2 0 false), (Box.mk 3 ByteArray.empty 40 false 0 1 2 0 false)] 4 (Plan.mk ([[r17, r18], [r19, r20], []]) []) r26 hr26) tf_call_25 ⟨rfl, rfl, rfl, rfl, rfl, rfl, rfl, rfl, trivial⟩) ?_ rfl rfl rfl
 refine Jg (u := .tup [I64 r26.1, I64 r26.2]) (Am rfl rfl) ?_ rfl rfl rfl
 refine Jg (u := I64 r26.1) (A_extract rfl rfl rfl) ?_ rfl rfl rfl
 refine Jg (u := I64 r26.2) (A_extract rfl rfl rfl) ?_ rfl rfl rfl
 refine Jg (u := I64 r26.1) (Aa rfl rfl) ?_ rfl rfl rfl
 refine Jg (u := I64 r26.2) (Aa rfl rfl) ?_ rfl rfl rfl
 refine Jn (hK25 _ _ ?_)
 refine Js (fun K27 hK27 => ?_)
 obtain ⟨v28, hv28, h⟩ := chk_out h
 obtain ⟨v29, hv29, h⟩ := chk_out h
 obtain ⟨v30, hv30, h⟩ := chk_out h
 obtain ⟨r31, hr31, h⟩ := bnd_out h
 obtain ⟨r32, hr32, h⟩ := bnd_out h
 obtain ⟨y33, hy33, h⟩ := bnd_out h
 obtain ⟨y34, hy34, h⟩ := bnd_out h
 obtain ⟨v35, hv35, h⟩ := bnd_out h
 obtain ⟨y36, hy36, h⟩ := bnd_out h
 obtain ⟨r37, hr37, h⟩ := bnd_out h
 obtain ⟨r38, hr38, h⟩ := bnd_out h
 obtain ⟨r39, hr39, h⟩ := bnd_out h
 refine JC_draw [] [0, 0, 0, 0, 0, 0, 0, 0, 0, 0, 0, 0, 0, 0, 0, 0, 0, 0, 0, 0, 0, 0, 0, 0, 0, 0, 0, 0, 0, 0, 0, 0, 0, 0, 0, 0, 0, 0, 0, 0, 0, 0, 0, 0, 0, 0, 0, 0, 0, 0, 0, 0, 0, 0, 0, 0, 0] [0, 0, 0, 0, 0, 0, 0, 0, 0, 0, 0, 0, 0, 0, 0, 0, 0, 0, 0, 0, 0, 0, 0, 0, 0, 0, 0, 0, 0, 0, 0, 0, 0, 0, 0, 0, 0, 0, 0, 0, 0, 0, 0, 0, 0, 0, 0, 0, 0, 0, 0, 0, 0, 0, 0, 0, 0] [[]] tf_mixed (by kernel_rfl) rfl rfl ?_
 refine D_ro (u := I64 r10.2) rfl rfl ⟨O_go (Am rfl rfl) rfl, trivial⟩ ?_ rfl
 refine D_ro (u := I64 r15.2) rfl rfl ⟨O_go (Am rfl rfl) rfl, trivial⟩ ?_ rfl
 refine D_ro (u := I64 v28) rfl rfl ⟨O_go (A_add hv28 rfl rfl rfl) rfl, trivial⟩ ?_ rfl
 refine D_ro (u := I64 r22.2) rfl rfl ⟨O_go (Am rfl rfl) rfl, trivial⟩ ?_ rfl
 refine D_ro (u := I64 v29) rfl rfl ⟨O_go (A_add hv29 rfl rfl rfl) rfl, trivial⟩ ?_ rfl
 refine D_ro (u := I64 r24.2) rfl rfl ⟨O_go (Am rfl rfl) rfl, trivial⟩ ?_ rfl
 refine D_ro (u := I64 v30) rfl rfl ⟨O_go (A_add hv30 rfl rfl rfl) rfl, trivial⟩ ?_ rfl
 refine D_ro (u := BL (decide (v30 = 0))) rfl rfl ⟨O_go (A_eql rfl rfl rfl) rfl, trivial⟩ ?_ rfl
 refine D_ro (u := BL (decide (v30 = 0))) rfl rfl ⟨O_go (Am rfl rfl) rfl, trivial⟩ ?_ rfl
 refine D_ro (u := .opt (decide (v30 = 0)) (I64 r26.2)) rfl rfl ⟨O_opt [] rfl rfl rfl .sct trivial (fun hc => Am rfl rfl) rfl, trivial⟩ ?_ rfl
 refine D_ro (u := .opt (decide (v30 = 0)) (BL (decide (r26.2 = 231)))) rfl rfl ⟨O_opt [(80, I64 r26.2)] rfl rfl rfl .sct ⟨.all id, trivial⟩ (fun hc => A_eql rfl rfl rfl) rfl, trivial⟩ ?_ rfl
 refine D_ro (u := BL ((decide (v30 = 0)) && (decide (r26.2 = 231)))) rfl rfl ⟨O_go (A_and rfl rfl rfl rfl) rfl, trivial⟩ ?_ rfl
 refine D_ro (u := BL ((decide (v30 = 0)) && (decide (r26.2 = 231)))) rfl rfl ⟨O_go (Am rfl rfl) rfl, trivial⟩ ?_ rfl
 refine D_ro (u := .opt ((decide (v30 = 0)) && (decide (r26.2 = 231))) (LS 1 I64 r10.1)) rfl rfl ⟨O_opt [] rfl rfl rfl .sct trivial (fun hc => Am rfl rfl) rfl, trivial⟩ ?_ rfl
 refine D_ro (u := .opt ((decide (v30 = 0)) && (decide (r26.2 = 231))) (LS 1 I64 [1, 2, 3])) rfl rfl ⟨O_opt [] rfl rfl rfl .sct trivial (fun hc => A_buildSlice (xs := [I64 1, I64 2, I64 3]) rfl ⟨rfl, rfl, rfl, rfl, rfl, rfl, trivial⟩ tf_slice_43 tf_zsize_3 rfl rfl rfl rfl) rfl, trivial⟩ ?_ rfl
 refine D_ro (u := .opt ((decide (v30 = 0)) && (decide (r26.2 = 231))) (BL r31)) rfl rfl ⟨O_opt [(84, LS 1 I64 r10.1), (85, LS 1 I64 [1, 2, 3])] rfl rfl rfl .sct ⟨.all id, .all id, trivial⟩ (fun hc => A_call1 (args := [LS 1 I64 r10.1, LS 1 I64 [1, 2, 3]]) rfl (M_twistlockkit_SameInts_w r10.1 [1, 2, 3] r31 (bif_t hc hr31)) tf_call_8 ⟨rfl, rfl, rfl, rfl, trivial⟩) rfl, trivial⟩ ?_ rfl
 refine D_ro (u := BL (((decide (v30 = 0)) && (decide (r26.2 = 231))) && r31)) rfl rfl ⟨O_go (A_and rfl rfl rfl rfl) rfl, trivial⟩ ?_ rfl
 refine D_ro (u := BL (((decide (v30 = 0)) && (decide (r26.2 = 231))) && r31)) rfl rfl ⟨O_go (Am rfl rfl) rfl, trivial⟩ ?_ rfl
 refine D_ro (u := .opt (((decide (v30 = 0)) && (decide (r26.2 = 231))) && r31) (LS 1 I64 r15.1)) rfl rfl ⟨O_opt [] rfl rfl rfl .sct trivial (fun hc => Am rfl rfl) rfl, trivial⟩ ?_ rfl
 refine D_ro (u := .opt (((decide (v30 = 0)) && (decide (r26.2 = 231))) && r31) (LS 1 I64 [1, 2])) rfl rfl ⟨O_opt [] rfl rfl rfl .sct trivial (fun hc => A_buildSlice (xs := [I64 1, I64 2]) rfl ⟨rfl, rfl, rfl, rfl, trivial⟩ tf_slice_43 tf_zsize_3 rfl rfl rfl rfl) rfl, trivial⟩ ?_ rfl
 refine D_ro (u := .opt (((decide (v30 = 0)) && (decide (r26.2 = 231))) && r31) (BL r32)) rfl rfl ⟨O_opt [(89, LS 1 I64 r15.1), (90, LS 1 I64 [1, 2])] rfl rfl rfl .sct ⟨.all id, .all id, trivial⟩ (fun hc => A_call1 (args := [LS 1 I64 r15.1, LS 1 I64 [1, 2]]) rfl (M_twistlockkit_SameInts_w r15.1 [1, 2] r32 (bif_t hc hr32)) tf_call_8 ⟨rfl, rfl, rfl, rfl, trivial⟩) rfl, trivial⟩ ?_ rfl
 refine D_ro (u := BL ((((decide (v30 = 0)) && (decide (r26.2 = 231))) && r31) && r32)) rfl rfl ⟨O_go (A_and rfl rfl rfl rfl) rfl, trivial⟩ ?_ rfl
 refine D_ro (u := BL ((((decide (v30 = 0)) && (decide (r26.2 = 231))) && r31) && r32)) rfl rfl ⟨O_go (Am rfl rfl) rfl, trivial⟩ ?_ rfl
 refine D_ro (u := .opt ((((decide (v30 = 0)) && (decide (r26.2 = 231))) && r31) && r32) (I64 r24.1)) rfl rfl ⟨O_opt [] rfl rfl rfl .sct trivial (fun hc => Am rfl rfl) rfl, trivial⟩ ?_ rfl
 refine D_ro (u := .opt ((((decide (v30 = 0)) && (decide (r26.2 = 231))) && r31) && r32) (BL (decide (r24.1 = 1)))) rfl rfl ⟨O_opt [(94, I64 r24.1)] rfl rfl rfl .sct ⟨.all id, trivial⟩ (fun hc => A_eql rfl rfl rfl) rfl, trivial⟩ ?_ rfl
 refine D_ro (u := BL (((((decide (v30 = 0)) && (decide (r26.2 = 231))) && r31) && r32) && (decide (r24.1 = 1)))) rfl rfl ⟨O_go (A_and rfl rfl rfl rfl) rfl, trivial⟩ ?_ rfl
 refine D_ro (u := BL (((((decide (v30 = 0)) && (decide (r26.2 = 231))) && r31) && r32) && (decide (r24.1 = 1)))) rfl rfl ⟨O_go (Am rfl rfl) rfl, trivial⟩ ?_ rfl
 refine D_ro (u := .opt (((((decide (v30 = 0)) && (decide (r26.2 = 231))) && r31) && r32) && (decide (r24.1 = 1))) (LS 1 (LS 1 I64) r22.1)) rfl rfl ⟨O_opt [] rfl rfl rfl .sct trivial (fun hc => Am rfl rfl) rfl, trivial⟩ ?_ rfl
 refine D_ro (u := .opt (((((decide (v30 = 0)) && (decide (r26.2 = 231))) && r31) && r32) && (decide (r24.1 = 1))) (I64 (r22.1.length : Int))) rfl rfl ⟨O_opt [(98, LS 1 (LS 1 I64) r22.1)] rfl rfl rfl .sct ⟨.all id, trivial⟩ (fun hc => A_lenM (f := (LS 1 I64)) (xs := r22.1) tf_slice_57 rfl rfl) rfl, trivial⟩ ?_ rfl
 refine D_ro (u := .opt (((((decide (v30 = 0)) && (decide (r26.2 = 231))) && r31) && r32) && (decide (r24.1 = 1))) (BL (decide ((r22.1.length : Int) = 3)))) rfl rfl ⟨O_opt [(99, I64 (r22.1.length : Int))] rfl rfl rfl .sct ⟨.all id, trivial⟩ (fun hc => A_eql rfl rfl rfl) rfl, trivial⟩ ?_ rfl
 refine D_ro (u := BL ((((((decide (v30 = 0)) && (decide (r26.2 = 231))) && r31) && r32) && (decide (r24.1 = 1))) && (decide ((r22.1.length : Int) = 3)))) rfl rfl ⟨O_go (A_and rfl rfl rfl rfl) rfl, trivial⟩ ?_ rfl
 refine D_ro (u := BL ((((((decide (v30 = 0)) && (decide (r26.2 = 231))) && r31) && r32) && (decide (r24.1 = 1))) && (decide ((r22.1.length : Int) = 3)))) rfl rfl ⟨O_go (Am rfl rfl) rfl, trivial⟩ ?_ rfl
 refine D_ro (u := .opt ((((((decide (v30 = 0)) && (decide (r26.2 = 231))) && r31) && r32) && (decide (r24.1 = 1))) && (decide ((r22.1.length : Int) = 3))) (LS 1 (LS 1 I64) r22.1)) rfl rfl ⟨O_opt [] rfl rfl rfl .sct trivial (fun hc => Am rfl rfl) rfl, trivial⟩ ?_ rfl
 refine D_ro (u := .opt ((((((decide (v30 = 0)) && (decide (r26.2 = 231))) && r31) && r32) && (decide (r24.1 = 1))) && (decide ((r22.1.length : Int) = 3))) (.dptr [LS 1 I64 y33])) rfl rfl ⟨O_opt [(103, LS 1 (LS 1 I64) r22.1)] rfl rfl rfl .sct ⟨.all id, trivial⟩ (fun hc => (match gidx_some (bif_t hc hy33) with | ⟨_, hm_, hy_⟩ => A_indexM (f := (LS 1 I64)) (xs := r22.1) (y := y33) rfl rfl rfl tf_slice_57 hy_ hm_)) rfl, trivial⟩ ?_ rfl
 refine D_ro (u := .opt ((((((decide (v30 = 0)) && (decide (r26.2 = 231))) && r31) && r32) && (decide (r24.1 = 1))) && (decide ((r22.1.length : Int) = 3))) (LS 1 I64 y33)) rfl rfl ⟨O_opt [(104, .dptr [LS 1 I64 y33])] rfl rfl rfl .sct ⟨.all id, trivial⟩ (fun hc => A_load tf_scalar_43 rfl rfl rfl) rfl, trivial⟩ ?_ rfl
 refine D_ro (u := .opt ((((((decide (v30 = 0)) && (decide (r26.2 = 231))) && r31) && r32) && (decide (r24.1 = 1))) && (decide ((r22.1.length : Int) = 3))) (I64 (y33.length : Int))) rfl rfl ⟨O_opt [(105, LS 1 I64 y33)] rfl rfl rfl .sct ⟨.all id, trivial⟩ (fun hc => A_lenM (f := I64) (xs := y33) tf_slice_43 rfl rfl) rfl, trivial⟩ ?_ rfl
 refine D_ro (u := .opt ((((((decide (v30 = 0)) && (decide (r26.2 = 231))) && r31) && r32) && (decide (r24.1 = 1))) && (decide ((r22.1.length : Int) = 3))) (LS 1 (LS 1 I64) r22.1)) rfl rfl ⟨O_opt [] rfl rfl rfl .sct trivial (fun hc => Am rfl rfl) rfl, trivial⟩ ?_ rfl
 refine D_ro (u := .opt ((((((decide (v30 = 0)) && (decide (r26.2 = 231))) && r31) && r32) && (decide (r24.1 = 1))) && (decide ((r22.1.length : Int) = 3))) (.dptr [LS 1 I64 y34])) rfl rfl ⟨O_opt [(107, LS 1 (LS 1 I64) r22.1)] rfl rfl rfl .sct ⟨.all id, trivial⟩ (fun hc => (match gidx_some (bif_t hc hy34) with | ⟨_, hm_, hy_⟩ => A_indexM (f := (LS 1 I64)) (xs := r22.1) (y := y34) rfl rfl rfl tf_slice_57 hy_ hm_)) rfl, trivial⟩ ?_ rfl
 refine D_ro (u := .opt ((((((decide (v30 = 0)) && (decide (r26.2 = 231))) && r31) && r32) && (decide (r24.1 = 1))) && (decide ((r22.1.length : Int) = 3))) (LS 1 I64 y34)) rfl rfl ⟨O_opt [(108, .dptr [LS 1 I64 y34])] rfl rfl rfl .sct ⟨.all id, trivial⟩ (fun hc => A_load tf_scalar_43 rfl rfl rfl) rfl, trivial⟩ ?_ rfl
 refine D_ro (u := .opt ((((((decide (v30 = 0)) && (decide (r26.2 = 231))) && r31) && r32) && (decide (r24.1 = 1))) && (decide ((r22.1.length : Int) = 3))) (I64 (y34.length : Int))) rfl rfl ⟨O_opt [(109, LS 1 I64 y34)] rfl rfl rfl .sct ⟨.all id, trivial⟩ (fun hc => A_lenM (f := I64) (xs := y34) tf_slice_43 rfl rfl) rfl, trivial⟩ ?_ rfl
 refine D_ro (u := .opt ((((((decide (v30 = 0)) && (decide (r26.2 = 231))) && r31) && r32) && (decide (r24.1 = 1))) && (decide ((r22.1.length : Int) = 3))) (I64 v35)) rfl rfl ⟨O_opt [(106, I64 (y33.length : Int)), (110, I64 (y34.length : Int))] rfl rfl rfl .sct ⟨.all id, .all id, trivial⟩ (fun hc => A_add (chk_some (bif_t hc hv35)) rfl rfl rfl) rfl, trivial⟩ ?_ rfl
 refine D_ro (u := .opt ((((((decide (v30 = 0)) && (decide (r26.2 = 231))) && r31) && r32) && (decide (r24.1 = 1))) && (decide ((r22.1.length : Int) = 3))) (BL (decide (v35 = 0)))) rfl rfl ⟨O_opt [(111, I64 v35)] rfl rfl rfl .sct ⟨.all id, trivial⟩ (fun hc => A_eql rfl rfl rfl) rfl, trivial⟩ ?_ rfl
 refine D_ro (u := BL (((((((decide (v30 = 0)) && (decide (r26.2 = 231))) && r31) && r32) && (decide (r24.1 = 1))) && (decide ((r22.1.length : Int) = 3))) && (decide (v35 = 0)))) rfl rfl ⟨O_go (A_and rfl rfl rfl rfl) rfl, trivial⟩ ?_ rfl
 refine D_ro (u := BL (((((((decide (v30 = 0)) && (decide (r26.2 = 231))) && r31) && r32) && (decide (r24.1 = 1))) && (decide ((r22.1.length : Int) = 3))) && (decide (v35 = 0)))) rfl rfl ⟨O_go (Am rfl rfl) rfl, trivial⟩ ?_ rfl
 refine D_ro (u := .opt (((((((decide (v30 = 0)) && (decide (r26.2 = 231))) && r31) && r32) && (decide (r24.1 = 1))) && (decide ((r22.1.length : Int) = 3))) && (decide (v35 = 0))) (LS 1 (LS 1 I64) r22.1)) rfl rfl ⟨O_opt [] rfl rfl rfl .sct trivial (fun hc => Am rfl rfl) rfl, trivial⟩ ?_ rfl
 refine D_ro (u := .opt (((((((decide (v30 = 0)) && (decide (r26.2 = 231))) && r31) && r32) && (decide (r24.1 = 1))) && (decide ((r22.1.length : Int) = 3))) && (decide (v35 = 0))) (.dptr [LS 1 I64 y36])) rfl rfl ⟨O_opt [(115, LS 1 (LS 1 I64) r22.1)] rfl rfl rfl .sct ⟨.all id, trivial⟩ (fun hc => (match gidx_some (bif_t hc hy36) with | ⟨_, hm_, hy_⟩ => A_indexM (f := (LS 1 I64)) (xs := r22.1) (y := y36) rfl rfl rfl tf_slice_57 hy_ hm_)) rfl, trivial⟩ ?_ rfl
 refine D_ro (u := .opt (((((((decide (v30 = 0)) && (decide (r26.2 = 231))) && r31) && r32) && (decide (r24.1 = 1))) && (decide ((r22.1.length : Int) = 3))) && (decide (v35 = 0))) (LS 1 I64 y36)) rfl rfl ⟨O_opt [(116, .dptr [LS 1 I64 y36])] rfl rfl rfl .sct ⟨.all id, trivial⟩ (fun hc => A_load tf_scalar_43 rfl rfl rfl) rfl, trivial⟩ ?_ rfl
 refine D_ro (u := .opt (((((((decide (v30 = 0)) && (decide (r26.2 = 231))) && r31) && r32) && (decide (r24.1 = 1))) && (decide ((r22.1.length : Int) = 3))) && (decide (v35 = 0))) (LS 1 I64 [2])) rfl rfl ⟨O_opt [] rfl rfl rfl .sct trivial (fun hc => A_buildSlice (xs := [I64 2]) rfl ⟨rfl, rfl, trivial⟩ tf_slice_43 tf_zsize_3 rfl rfl rfl rfl) rfl, trivial⟩ ?_ rfl
 refine D_ro (u := .opt (((((((decide (v30 = 0)) && (decide (r26.2 = 231))) && r31) && r32) && (decide (r24.1 = 1))) && (decide ((r22.1.length : Int) = 3))) && (decide (v35 = 0))) (BL r37)) rfl rfl ⟨O_opt [(117, LS 1 I64 y36), (118, LS 1 I64 [2])] rfl rfl rfl .sct ⟨.all id, .all id, trivial⟩ (fun hc => A_call1 (args := [LS 1 I64 y36, LS 1 I64 [2]]) rfl (M_twistlockkit_SameInts_w y36 [2] r37 (bif_t hc hr37)) tf_call_8 ⟨rfl, rfl, rfl, rfl, trivial⟩) rfl, trivial⟩ ?_ rfl
 refine D_ro (u := BL ((((((((decide (v30 = 0)) && (decide (r26.2 = 231))) && r31) && r32) && (decide (r24.1 = 1))) && (decide ((r22.1.length : Int) = 3))) && (decide (v35 = 0))) && r37)) rfl rfl ⟨O_go (A_and rfl rfl rfl rfl) rfl, trivial⟩ ?_ rfl
 refine D_ro (u := BL ((((((((decide (v30 = 0)) && (decide (r26.2 = 231))) && r31) && r32) && (decide (r24.1 = 1))) && (decide ((r22.1.length : Int) = 3))) && (decide (v35 = 0))) && r37)) rfl rfl ⟨O_go (Am rfl rfl) rfl, trivial⟩ ?_ rfl
 refine D_ro (u := .opt ((((((((decide (v30 = 0)) && (decide (r26.2 = 231))) && r31) && r32) && (decide (r24.1 = 1))) && (decide ((r22.1.length : Int) = 3))) && (decide (v35 = 0))) && r37) (LS 9 Box.av [(Box.mk 1 ByteArray.empty 40 false 0 0 1 0 false), (Box.mk 2 ByteArray.empty 40 false 0 0 2 0 false), (Box.mk 3 ByteArray.empty 40 false 0 1 2 0 false)])) rfl rfl ⟨O_opt [] rfl rfl rfl .sct trivial (fun hc => Am rfl rfl) rfl, trivial⟩ ?_ rfl
 refine D_ro (u := .opt ((((((((decide (v30 = 0)) && (decide (r26.2 = 231))) && r31) && r32) && (decide (r24.1 = 1))) && (decide ((r22.1.length : Int) = 3))) && (decide (v35 = 0))) && r37) (LS 1 I64 r38)) rfl rfl ⟨O_opt [(122, LS 9 Box.av [(Box.mk 1 ByteArray.empty 40 false 0 0 1 0 false), (Box.mk 2 ByteArray.empty 40 false 0 0 2 0 false), (Box.mk 3 ByteArray.empty 40 false 0 1 2 0 false)])] rfl rfl rfl .sct ⟨.all id, trivial⟩ (fun hc => A_call1 (args := [LS 9 Box.av [(Box.mk 1 ByteArray.empty 40 false 0 0 1 0 false), (Box.mk 2 ByteArray.empty 40 false 0 0 2 0 false), (Box.mk 3 ByteArray.empty 40 false 0 1 2 0 false)], I64 1]) rfl (M_plan_Aboard_w [(Box.mk 1 ByteArray.empty 40 false 0 0 1 0 false), (Box.mk 2 ByteArray.empty 40 false 0 0 2 0 false), (Box.mk 3 ByteArray.empty 40 false 0 1 2 0 false)] 1 r38 (bif_t hc hr38)) tf_call_26 ⟨rfl, rfl, rfl, rfl, trivial⟩) rfl, trivial⟩ ?_ rfl
 refine D_ro (u := .opt ((((((((decide (v30 = 0)) && (decide (r26.2 = 231))) && r31) && r32) && (decide (r24.1 = 1))) && (decide ((r22.1.length : Int) = 3))) && (decide (v35 = 0))) && r37) (LS 1 I64 [2, 3])) rfl rfl ⟨O_opt [] rfl rfl rfl .sct trivial (fun hc => A_buildSlice (xs := [I64 2, I64 3]) rfl ⟨rfl, rfl, rfl, rfl, trivial⟩ tf_slice_43 tf_zsize_3 rfl rfl rfl rfl) rfl, trivial⟩ ?_ rfl
 refine D_ro (u := .opt ((((((((decide (v30 = 0)) && (decide (r26.2 = 231))) && r31) && r32) && (decide (r24.1 = 1))) && (decide ((r22.1.length : Int) = 3))) && (decide (v35 = 0))) && r37) (BL r39)) rfl rfl ⟨O_opt [(123, LS 1 I64 r38), (124, LS 1 I64 [2, 3])] rfl rfl rfl .sct ⟨.all id, .all id, trivial⟩ (fun hc => A_call1 (args := [LS 1 I64 r38, LS 1 I64 [2, 3]]) rfl (M_twistlockkit_SameInts_w r38 [2, 3] r39 (bif_t hc hr39)) tf_call_8 ⟨rfl, rfl, rfl, rfl, trivial⟩) rfl, trivial⟩ ?_ rfl
 refine D_ro (u := BL (((((((((decide (v30 = 0)) && (decide (r26.2 = 231))) && r31) && r32) && (decide (r24.1 = 1))) && (decide ((r22.1.length : Int) = 3))) && (decide (v35 = 0))) && r37) && r39)) rfl rfl ⟨O_go (A_and rfl rfl rfl rfl) rfl, trivial⟩ ?_ rfl
 refine D_ro (u := BL (((((((((decide (v30 = 0)) && (decide (r26.2 = 231))) && r31) && r32) && (decide (r24.1 = 1))) && (decide ((r22.1.length : Int) = 3))) && (decide (v35 = 0))) && r37) && r39)) rfl rfl ⟨O_go (Aa rfl rfl) rfl, trivial⟩ ?_ rfl
 refine D_nil ?_
 refine hK27 _ _ ?_
 refine JC_ret ?_
 exact ⟨[BL (((((((((decide (v30 = 0)) && (decide (r26.2 = 231))) && r31) && r32) && (decide (r24.1 = 1))) && (decide ((r22.1.length : Int) = 3))) && (decide (v35 = 0))) && r37) && r39)], [], trivial, rfl, ⟨⟨_, rfl, .conv (.same rfl)⟩, trivial⟩, rfl, congrArg (fun r : Bool => (BL r : AV)) (Option.some.inj h)⟩

end
end Go.Proofs.Ytbpgdkibmejibaa
