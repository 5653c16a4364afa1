/-
 Models of functions of the program, and that they return what the models say.
-/
import Derived.Test.YtbpgdkibmejibaaProg
import Derived.Test.YtbpgdkibmejibaaSortM
import Derived.Test.YtbpgdkibmejibaaSortLay
import Derived.Test.YtbpgdkibmejibaaRel
import Derived.Test.YtbpgdkibmejibaaLit0
import Derived.Test.YtbpgdkibmejibaaXA
import Derived.Test.YtbpgdkibmejibaaSpecA
import Derived.Test.YtbpgdkibmejibaaSpecI
import Derived.Test.YtbpgdkibmejibaaXDa
import Derived.Test.YtbpgdkibmejibaaXDb
import Derived.Test.YtbpgdkibmejibaaXDc
set_option maxRecDepth 100000
set_option linter.unusedVariables false
set_option linter.unusedSimpArgs false
namespace Go.Proofs.Ytbpgdkibmejibaa
open Go.RowKit
noncomputable section
open XAF
open XDF

def M_twistlocklaw23_awake (F : Nat)  : Option Bool :=
 bnd (M_twistlocklaw07_Example) fun r3 =>
 bnd (M_twistlocklaw23_at 1 4 0) fun r6 =>
 bnd (M_twistlocklaw23_at 2 4 1) fun r7 =>
 bnd (M_twistlocklaw23_at 2 4 1) fun r8 =>
 bnd (M_twistlocklaw23_at 3 4 0) fun r9 =>
 bnd (M_plan_Lifted F r3 [(Box.mk 1 ByteArray.empty 40 false 0 0 1 0 false), (Box.mk 2 ByteArray.empty 40 false 0 0 2 0 false), (Box.mk 3 ByteArray.empty 40 false 0 1 2 0 false)] [r6, r7] [r8, r9]) fun r10 =>
 bnd (M_twistlocklaw23_at 1 0 0) fun r12 =>
 bnd (M_twistlocklaw23_at 2 3 0) fun r13 =>
 bnd (M_twistlocklaw23_at 2 3 0) fun r14 =>
 bnd (M_plan_Lifted F r3 [(Box.mk 1 ByteArray.empty 40 false 0 0 1 0 false), (Box.mk 2 ByteArray.empty 40 false 0 0 2 0 false), (Box.mk 3 ByteArray.empty 40 false 0 1 2 0 false)] [r12, r13] [r14]) fun r15 =>
 bnd (M_twistlocklaw23_at 1 4 0) fun r17 =>
 bnd (M_twistlocklaw23_at 2 4 1) fun r18 =>
 bnd (M_twistlocklaw23_at 2 4 1) fun r19 =>
 bnd (M_twistlocklaw23_at 3 4 0) fun r20 =>
 bnd (M_plan_Restows F r3 [(Box.mk 1 ByteArray.empty 40 false 0 0 1 0 false), (Box.mk 2 ByteArray.empty 40 false 0 0 2 0 false), (Box.mk 3 ByteArray.empty 40 false 0 1 2 0 false)] 3 (Plan.mk ([[r17, r18], [r19, r20], []]) [])) fun r22 =>
 bnd (M_plan_Count F r3 [(Box.mk 1 ByteArray.empty 40 false 0 0 1 0 false), (Box.mk 2 ByteArray.empty 40 false 0 0 2 0 false), (Box.mk 3 ByteArray.empty 40 false 0 1 2 0 false)] 3 (Plan.mk ([[r17, r18], [r19, r20], []]) [])) fun r24 =>
 bnd (M_plan_Check r3 [(Box.mk 1 ByteArray.empty 40 false 0 0 1 0 false), (Box.mk 2 ByteArray.empty 40 false 0 0 2 0 false), (Box.mk 3 ByteArray.empty 40 false 0 1 2 0 false)] 4 (Plan.mk ([[r17, r18], [r19, r20], []]) [])) fun r26 =>
 chk (r10.2 + r15.2) fun v28 =>
 chk (v28 + r22.2) fun v29 =>
 chk (v29 + r24.2) fun v30 =>
 bnd (bif ((decide (v30 = 0)) && (decide (r26.2 = 231))) then M_twistlockkit_SameInts r10.1 [1, 2, 3] else some default) fun r31 =>
 bnd (bif (((decide (v30 = 0)) && (decide (r26.2 = 231))) && r31) then M_twistlockkit_SameInts r15.1 [1, 2] else some default) fun r32 =>
 bnd (bif ((((((decide (v30 = 0)) && (decide (r26.2 = 231))) && r31) && r32) && (decide (r24.1 = 1))) && (decide ((r22.1.length : Int) = 3))) then gidx r22.1 0 some else some default) fun y33 =>
 bnd (bif ((((((decide (v30 = 0)) && (decide (r26.2 = 231))) && r31) && r32) && (decide (r24.1 = 1))) && (decide ((r22.1.length : Int) = 3))) then gidx r22.1 2 some else some default) fun y34 =>
 bnd (bif ((((((decide (v30 = 0)) && (decide (r26.2 = 231))) && r31) && r32) && (decide (r24.1 = 1))) && (decide ((r22.1.length : Int) = 3))) then chk ((y33.length : Int) + (y34.length : Int)) some else some 0) fun v35 =>
 bnd (bif (((((((decide (v30 = 0)) && (decide (r26.2 = 231))) && r31) && r32) && (decide (r24.1 = 1))) && (decide ((r22.1.length : Int) = 3))) && (decide (v35 = 0))) then gidx r22.1 1 some else some default) fun y36 =>
 bnd (bif (((((((decide (v30 = 0)) && (decide (r26.2 = 231))) && r31) && r32) && (decide (r24.1 = 1))) && (decide ((r22.1.length : Int) = 3))) && (decide (v35 = 0))) then M_twistlockkit_SameInts y36 [2] else some default) fun r37 =>
 bnd (bif ((((((((decide (v30 = 0)) && (decide (r26.2 = 231))) && r31) && r32) && (decide (r24.1 = 1))) && (decide ((r22.1.length : Int) = 3))) && (decide (v35 = 0))) && r37) then M_plan_Aboard [(Box.mk 1 ByteArray.empty 40 false 0 0 1 0 false), (Box.mk 2 ByteArray.empty 40 false 0 0 2 0 false), (Box.mk 3 ByteArray.empty 40 false 0 1 2 0 false)] 1 else some default) fun r38 =>
 bnd (bif ((((((((decide (v30 = 0)) && (decide (r26.2 = 231))) && r31) && r32) && (decide (r24.1 = 1))) && (decide ((r22.1.length : Int) = 3))) && (decide (v35 = 0))) && r37) then M_twistlockkit_SameInts r38 [2, 3] else some default) fun r39 =>
 some (((((((((decide (v30 = 0)) && (decide (r26.2 = 231))) && r31) && r32) && (decide (r24.1 = 1))) && (decide ((r22.1.length : Int) = 3))) && (decide (v35 = 0))) && r37) && r39)
theorem M_twistlocklaw23_awake_w (F : Nat)  (r : Bool) (h : M_twistlocklaw23_awake F  = some r) : Pure Try.prog 12 [] (· = BL r) := by
 unfold M_twistlocklaw23_awake at h
 refine Pure_ofG [.tmp 0] Try.func12 rfl rfl ?_
 refine Js fun K1 hK1 => Jr ?_
 refine Jg (u := BL false) (Aa rfl rfl) ?_ rfl rfl rfl
 refine Jn (hK1 _ _ ?_)
 refine Js fun K2 hK2 => Jr ?_
 obtain ⟨r3, hr3, h⟩ := bnd_out h
 refine Jg (u := .agg (Ship.cs r3)) (A_call1 (args := []) rfl (M_twistlocklaw07_Example_w  r3 hr3) tf_call_23 trivial) ?_ rfl rfl rfl
 refine Jg (u := .ptr 1013 0) (A_allocJ 1013 13 tf_zsize_35 rfl rfl) ?_ rfl rfl rfl
 refine JL_go0 (u := .junk) (A_store (u := .agg (Ship.cs r3)) (ds := [LS 12 Column.av r3.Columns, LS 2 Cover.av r3.Covers, I64 r3.Light.Kilos, I64 r3.Light.X, I64 r3.Light.Y, I64 r3.Light.Z, LS 5 Row.av r3.Rows, LS 5 Frame.av r3.Frames, LS 6 Tank.av r3.Tanks, I64 r3.Limits.Tolerance, I64 r3.Limits.Trim, I64 r3.Limits.List_, I64 r3.Limits.Stability]) tf_size_35 rfl rfl rfl rfl rfl rfl rfl rfl) ?_ rfl rfl
 refine Jn (hK2 _ _ ?_)
 refine JC_freeze [(1, .dptr (Ship.cs r3))] [] 1013 rfl rfl rfl trivial rfl (by exact ⟨.ptr, trivial⟩) ?_
 refine Js fun K4 hK4 => Jr ?_
 refine Jg (u := .agg [I64 1, ST ByteArray.empty, U8 40, BL false, I64 0, I64 0, I64 1, U8 0, BL false]) (A_buildZ (cs := [I64 1, ST ByteArray.empty, U8 40, BL false, I64 0, I64 0, I64 1, U8 0, BL false]) [(0, 1), (1, 1), (2, 1), (3, 1), (4, 1), (5, 1), (6, 1), (7, 1), (8, 1)] [I64 0, ST ByteArray.empty, U8 0, BL false, I64 0, I64 0, I64 0, U8 0, BL false] [.int .i64 0, .string ByteArray.empty, .int .u8 0, .bool false, .int .i64 0, .int .i64 0, .int .i64 0, .int .u8 0, .bool false] tf_places_50 tf_zero_50 ⟨.inl rfl, .inl rfl, .inl rfl, .inl rfl, .inl rfl, .inl rfl, .inl rfl, .inl rfl, .inl rfl, trivial⟩ rfl rfl) ?_ rfl rfl rfl
 refine Jg (u := .agg [I64 2, ST ByteArray.empty, U8 40, BL false, I64 0, I64 0, I64 2, U8 0, BL false]) (A_buildZ (cs := [I64 2, ST ByteArray.empty, U8 40, BL false, I64 0, I64 0, I64 2, U8 0, BL false]) [(0, 1), (1, 1), (2, 1), (3, 1), (4, 1), (5, 1), (6, 1), (7, 1), (8, 1)] [I64 0, ST ByteArray.empty, U8 0, BL false, I64 0, I64 0, I64 0, U8 0, BL false] [.int .i64 0, .string ByteArray.empty, .int .u8 0, .bool false, .int .i64 0, .int .i64 0, .int .i64 0, .int .u8 0, .bool false] tf_places_50 tf_zero_50 ⟨.inl rfl, .inl rfl, .inl rfl, .inl rfl, .inl rfl, .inl rfl, .inl rfl, .inl rfl, .inl rfl, trivial⟩ rfl rfl) ?_ rfl rfl rfl
 refine Jg (u := .agg [I64 3, ST ByteArray.empty, U8 40, BL false, I64 0, I64 1, I64 2, U8 0, BL false]) (A_buildZ (cs := [I64 3, ST ByteArray.empty, U8 40, BL false, I64 0, I64 1, I64 2, U8 0, BL false]) [(0, 1), (1, 1), (2, 1), (3, 1), (4, 1), (5, 1), (6, 1), (7, 1), (8, 1)] [I64 0, ST ByteArray.empty, U8 0, BL false, I64 0, I64 0, I64 0, U8 0, BL false] [.int .i64 0, .string ByteArray.empty, .int .u8 0, .bool false, .int .i64 0, .int .i64 0, .int .i64 0, .int .u8 0, .bool false] tf_places_50 tf_zero_50 ⟨.inl rfl, .inl rfl, .inl rfl, .inl rfl, .inl rfl, .inl rfl, .inl rfl, .inl rfl, .inl rfl, trivial⟩ rfl rfl) ?_ rfl rfl rfl
 refine Jg (u := LS 9 Box.av [(Box.mk 1 ByteArray.empty 40 false 0 0 1 0 false), (Box.mk 2 ByteArray.empty 40 false 0 0 2 0 false), (Box.mk 3 ByteArray.empty 40 false 0 1 2 0 false)]) (A_buildSlice (xs := [.agg [I64 1, ST ByteArray.empty, U8 40, BL false, I64 0, I64 0, I64 1, U8 0, BL false], .agg [I64 2, ST ByteArray.empty, U8 40, BL false, I64 0, I64 0, I64 2, U8 0, BL false], .agg [I64 3, ST ByteArray.empty, U8 40, BL false, I64 0, I64 1, I64 2, U8 0, BL false]]) rfl ⟨rfl, rfl, rfl, rfl, rfl, rfl, trivial⟩ tf_slice_39 tf_zsize_50 rfl rfl rfl rfl) ?_ rfl rfl rfl
 refine Jg (u := LS 9 Box.av [(Box.mk 1 ByteArray.empty 40 false 0 0 1 0 false), (Box.mk 2 ByteArray.empty 40 false 0 0 2 0 false), (Box.mk 3 ByteArray.empty 40 false 0 1 2 0 false)]) (Aa rfl rfl) ?_ rfl rfl rfl
 refine Jn (hK4 _ _ ?_)
 refine Js (fun K5 hK5 => ?_)
 obtain ⟨r6, hr6, h⟩ := bnd_out h
 obtain ⟨r7, hr7, h⟩ := bnd_out h
 obtain ⟨r8, hr8, h⟩ := bnd_out h
 obtain ⟨r9, hr9, h⟩ := bnd_out h
 obtain ⟨r10, hr10, h⟩ := bnd_out h
 refine JC_draw [] [0, 0, 0, 0, 0, 0, 0, 0, 0, 0, 0, 0, 0, 0] [0, 0, 0, 0, 0, 0, 0, 0, 0, 0, 0, 0, 0, 0] [[]] tf_mixed (by kernel_rfl) rfl rfl ?_
 refine D_ro (u := .agg (Ship.cs r3)) rfl rfl ⟨O_go (A_loadAgg tf_agg_35 rfl rfl rfl) rfl, trivial⟩ ?_ rfl
 refine D_ro (u := LS 9 Box.av [(Box.mk 1 ByteArray.empty 40 false 0 0 1 0 false), (Box.mk 2 ByteArray.empty 40 false 0 0 2 0 false), (Box.mk 3 ByteArray.empty 40 false 0 1 2 0 false)]) rfl rfl ⟨O_go (Am rfl rfl) rfl, trivial⟩ ?_ rfl
 refine D_ro (u := .agg (Stowed.cs r6)) rfl rfl ⟨O_go (A_call1 (args := [I64 1, I64 4, I64 0]) rfl (M_twistlocklaw23_at_w 1 4 0 r6 hr6) tf_call_24 ⟨rfl, rfl, rfl, rfl, rfl, rfl, trivial⟩) rfl, trivial⟩ ?_ rfl
 refine D_ro (u := .agg (Stowed.cs r7)) rfl rfl ⟨O_go (A_call1 (args := [I64 2, I64 4, I64 1]) rfl (M_twistlocklaw23_at_w 2 4 1 r7 hr7) tf_call_24 ⟨rfl, rfl, rfl, rfl, rfl, rfl, trivial⟩) rfl, trivial⟩ ?_ rfl
 refine D_ro (u := LS 4 Stowed.av [r6, r7]) rfl rfl ⟨O_go (A_buildSlice (xs := [.agg (Stowed.cs r6), .agg (Stowed.cs r7)]) rfl ⟨rfl, rfl, rfl, rfl, trivial⟩ tf_slice_40 tf_zsize_82 rfl rfl rfl rfl) rfl, trivial⟩ ?_ rfl
 refine D_ro (u := .agg (Stowed.cs r8)) rfl rfl ⟨O_go (A_call1 (args := [I64 2, I64 4, I64 1]) rfl (M_twistlocklaw23_at_w 2 4 1 r8 hr8) tf_call_24 ⟨rfl, rfl, rfl, rfl, rfl, rfl, trivial⟩) rfl, trivial⟩ ?_ rfl
 refine D_ro (u := .agg (Stowed.cs r9)) rfl rfl ⟨O_go (A_call1 (args := [I64 3, I64 4, I64 0]) rfl (M_twistlocklaw23_at_w 3 4 0 r9 hr9) tf_call_24 ⟨rfl, rfl, rfl, rfl, rfl, rfl, trivial⟩) rfl, trivial⟩ ?_ rfl
 refine D_ro (u := LS 4 Stowed.av [r8, r9]) rfl rfl ⟨O_go (A_buildSlice (xs := [.agg (Stowed.cs r8), .agg (Stowed.cs r9)]) rfl ⟨rfl, rfl, rfl, rfl, trivial⟩ tf_slice_40 tf_zsize_82 rfl rfl rfl rfl) rfl, trivial⟩ ?_ rfl
 refine D_ro (u := .tup [LS 1 I64 r10.1, I64 r10.2]) rfl rfl ⟨O_go (A_call1 (args := [.agg (Ship.cs r3), LS 9 Box.av [(Box.mk 1 ByteArray.empty 40 false 0 0 1 0 false), (Box.mk 2 ByteArray.empty 40 false 0 0 2 0 false), (Box.mk 3 ByteArray.empty 40 false 0 1 2 0 false)], LS 4 Stowed.av [r6, r7], LS 4 Stowed.av [r8, r9]]) rfl (M_plan_Lifted_w F r3 [(Box.mk 1 ByteArray.empty 40 false 0 0 1 0 false), (Box.mk 2 ByteArray.empty 40 false 0 0 2 0 false), (Box.mk 3 ByteArray.empty 40 false 0 1 2 0 false)] [r6, r7] [r8, r9] r10 hr10) tf_call_7 ⟨rfl, rfl, rfl, rfl, rfl, rfl, rfl, rfl, trivial⟩) rfl, trivial⟩ ?_ rfl
 refine D_ro (u := .tup [LS 1 I64 r10.1, I64 r10.2]) rfl rfl ⟨O_go (Am rfl rfl) rfl, trivial⟩ ?_ rfl
 refine D_ro (u := LS 1 I64 r10.1) rfl rfl ⟨O_go (A_extract rfl rfl rfl) rfl, trivial⟩ ?_ rfl
 refine D_ro (u := I64 r10.2) rfl rfl ⟨O_go (A_extract rfl rfl rfl) rfl, trivial⟩ ?_ rfl
 refine D_ro (u := LS 1 I64 r10.1) rfl rfl ⟨O_go (Aa rfl rfl) rfl, trivial⟩ ?_ rfl
 refine D_ro (u := I64 r10.2) rfl rfl ⟨O_go (Aa rfl rfl) rfl, trivial⟩ ?_ rfl
 refine D_nil ?_
 refine hK5 _ _ ?_
 refine Js (fun K11 hK11 => ?_)
 obtain ⟨r12, hr12, h⟩ := bnd_out h
 obtain ⟨r13, hr13, h⟩ := bnd_out h
 obtain ⟨r14, hr14, h⟩ := bnd_out h
 obtain ⟨r15, hr15, h⟩ := bnd_out h
 refine JC_draw [] [0, 0, 0, 0, 0, 0, 0, 0, 0, 0, 0, 0, 0] [0, 0, 0, 0, 0, 0, 0, 0, 0, 0, 0, 0, 0] [[]] tf_mixed (by kernel_rfl) rfl rfl ?_
 refine D_ro (u := .agg (Ship.cs r3)) rfl rfl ⟨O_go (A_loadAgg tf_agg_35 rfl rfl rfl) rfl, trivial⟩ ?_ rfl
 refine D_ro (u := LS 9 Box.av [(Box.mk 1 ByteArray.empty 40 false 0 0 1 0 false), (Box.mk 2 ByteArray.empty 40 false 0 0 2 0 false), (Box.mk 3 ByteArray.empty 40 false 0 1 2 0 false)]) rfl rfl ⟨O_go (Am rfl rfl) rfl, trivial⟩ ?_ rfl
 refine D_ro (u := .agg (Stowed.cs r12)) rfl rfl ⟨O_go (A_call1 (args := [I64 1, I64 0, I64 0]) rfl (M_twistlocklaw23_at_w 1 0 0 r12 hr12) tf_call_24 ⟨rfl, rfl, rfl, rfl, rfl, rfl, trivial⟩) rfl, trivial⟩ ?_ rfl
 refine D_ro (u := .agg (Stowed.cs r13)) rfl rfl ⟨O_go (A_call1 (args := [I64 2, I64 3, I64 0]) rfl (M_twistlocklaw23_at_w 2 3 0 r13 hr13) tf_call_24 ⟨rfl, rfl, rfl, rfl, rfl, rfl, trivial⟩) rfl, trivial⟩ ?_ rfl
 refine D_ro (u := LS 4 Stowed.av [r12, r13]) rfl rfl ⟨O_go (A_buildSlice (xs := [.agg (Stowed.cs r12), .agg (Stowed.cs r13)]) rfl ⟨rfl, rfl, rfl, rfl, trivial⟩ tf_slice_40 tf_zsize_82 rfl rfl rfl rfl) rfl, trivial⟩ ?_ rfl
 refine D_ro (u := .agg (Stowed.cs r14)) rfl rfl ⟨O_go (A_call1 (args := [I64 2, I64 3, I64 0]) rfl (M_twistlocklaw23_at_w 2 3 0 r14 hr14) tf_call_24 ⟨rfl, rfl, rfl, rfl, rfl, rfl, trivial⟩) rfl, trivial⟩ ?_ rfl
 refine D_ro (u := LS 4 Stowed.av [r14]) rfl rfl ⟨O_go (A_buildSlice (xs := [.agg (Stowed.cs r14)]) rfl ⟨rfl, rfl, trivial⟩ tf_slice_40 tf_zsize_82 rfl rfl rfl rfl) rfl, trivial⟩ ?_ rfl
 refine D_ro (u := .tup [LS 1 I64 r15.1, I64 r15.2]) rfl rfl ⟨O_go (A_call1 (args := [.agg (Ship.cs r3), LS 9 Box.av [(Box.mk 1 ByteArray.empty 40 false 0 0 1 0 false), (Box.mk 2 ByteArray.empty 40 false 0 0 2 0 false), (Box.mk 3 ByteArray.empty 40 false 0 1 2 0 false)], LS 4 Stowed.av [r12, r13], LS 4 Stowed.av [r14]]) rfl (M_plan_Lifted_w F r3 [(Box.mk 1 ByteArray.empty 40 false 0 0 1 0 false), (Box.mk 2 ByteArray.empty 40 false 0 0 2 0 false), (Box.mk 3 ByteArray.empty 40 false 0 1 2 0 false)] [r12, r13] [r14] r15 hr15) tf_call_7 ⟨rfl, rfl, rfl, rfl, rfl, rfl, rfl, rfl, trivial⟩) rfl, trivial⟩ ?_ rfl
 refine D_ro (u := .tup [LS 1 I64 r15.1, I64 r15.2]) rfl rfl ⟨O_go (Am rfl rfl) rfl, trivial⟩ ?_ rfl
 refine D_ro (u := LS 1 I64 r15.1) rfl rfl ⟨O_go (A_extract rfl rfl rfl) rfl, trivial⟩ ?_ rfl
 refine D_ro (u := I64 r15.2) rfl rfl ⟨O_go (A_extract rfl rfl rfl) rfl, trivial⟩ ?_ rfl
 refine D_ro (u := LS 1 I64 r15.1) rfl rfl ⟨O_go (Aa rfl rfl) rfl, trivial⟩ ?_ rfl
 refine D_ro (u := I64 r15.2) rfl rfl ⟨O_go (Aa rfl rfl) rfl, trivial⟩ ?_ rfl
 refine D_nil ?_
 refine hK11 _ _ ?_
 refine Js fun K16 hK16 => Jr ?_
 obtain ⟨r17, hr17, h⟩ := bnd_out h
 refine Jg (u := .agg (Stowed.cs r17)) (A_call1 (args := [I64 1, I64 4, I64 0]) rfl (M_twistlocklaw23_at_w 1 4 0 r17 hr17) tf_call_24 ⟨rfl, rfl, rfl, rfl, rfl, rfl, trivial⟩) ?_ rfl rfl rfl
 obtain ⟨r18, hr18, h⟩ := bnd_out h
 refine Jg (u := .agg (Stowed.cs r18)) (A_call1 (args := [I64 2, I64 4, I64 1]) rfl (M_twistlocklaw23_at_w 2 4 1 r18 hr18) tf_call_24 ⟨rfl, rfl, rfl, rfl, rfl, rfl, trivial⟩) ?_ rfl rfl rfl
 refine Jg (u := LS 4 Stowed.av [r17, r18]) (A_buildSlice (xs := [.agg (Stowed.cs r17), .agg (Stowed.cs r18)]) rfl ⟨rfl, rfl, rfl, rfl, trivial⟩ tf_slice_40 tf_zsize_82 rfl rfl rfl rfl) ?_ rfl rfl rfl
 obtain ⟨r19, hr19, h⟩ := bnd_out h
 refine Jg (u := .agg (Stowed.cs r19)) (A_call1 (args := [I64 2, I64 4, I64 1]) rfl (M_twistlocklaw23_at_w 2 4 1 r19 hr19) tf_call_24 ⟨rfl, rfl, rfl, rfl, rfl, rfl, trivial⟩) ?_ rfl rfl rfl
 obtain ⟨r20, hr20, h⟩ := bnd_out h
 refine Jg (u := .agg (Stowed.cs r20)) (A_call1 (args := [I64 3, I64 4, I64 0]) rfl (M_twistlocklaw23_at_w 3 4 0 r20 hr20) tf_call_24 ⟨rfl, rfl, rfl, rfl, rfl, rfl, trivial⟩) ?_ rfl rfl rfl
 refine Jg (u := LS 4 Stowed.av [r19, r20]) (A_buildSlice (xs := [.agg (Stowed.cs r19), .agg (Stowed.cs r20)]) rfl ⟨rfl, rfl, rfl, rfl, trivial⟩ tf_slice_40 tf_zsize_82 rfl rfl rfl rfl) ?_ rfl rfl rfl
 refine Jg (u := LS 1 (LS 4 Stowed.av) ([[r17, r18], [r19, r20], []])) (A_buildSliceN (xs := [LS 4 Stowed.av [r17, r18], LS 4 Stowed.av [r19, r20], LS 4 Stowed.av ([] : List Stowed)]) rfl ⟨.inl rfl, rfl, .inl rfl, rfl, .inr ⟨_, rfl, rfl⟩, rfl, trivial⟩ tf_slice_56 tf_zsize_40 rfl rfl rfl rfl) ?_ rfl rfl rfl
 refine Jg (u := .agg [LS 1 (LS 4 Stowed.av) ([[r17, r18], [r19, r20], []]), LS 1 (LS 1 I64) ([] : List (List Int))]) (A_buildZ (cs := [LS 1 (LS 4 Stowed.av) ([[r17, r18], [r19, r20], []]), LS 1 (LS 1 I64) ([] : List (List Int))]) [(0, 1), (1, 1)] [LS 1 (LS 4 Stowed.av) ([] : List (List Stowed)), LS 1 (LS 1 I64) ([] : List (List Int))] [.slice none 0 0, .slice none 0 0] tf_places_59 tf_zero_59 ⟨.inr ⟨_, rfl, rfl⟩, .inr ⟨_, rfl, rfl⟩, trivial⟩ rfl rfl) ?_ rfl rfl rfl
 refine Jg (u := .ptr 1014 0) (A_allocJ 1014 2 tf_zsize_59 rfl rfl) ?_ rfl rfl rfl
 refine JL_go0 (u := .junk) (A_store (u := .agg [LS 1 (LS 4 Stowed.av) ([[r17, r18], [r19, r20], []]), LS 1 (LS 1 I64) ([] : List (List Int))]) (ds := [LS 1 (LS 4 Stowed.av) ([[r17, r18], [r19, r20], []]), LS 1 (LS 1 I64) ([] : List (List Int))]) tf_size_59 rfl rfl rfl rfl rfl rfl rfl rfl) ?_ rfl rfl
 refine Jn (hK16 _ _ ?_)
 refine JC_freeze [(1, .dptr (Ship.cs r3)), (2, LS 9 Box.av [(Box.mk 1 ByteArray.empty 40 false 0 0 1 0 false), (Box.mk 2 ByteArray.empty 40 false 0 0 2 0 false), (Box.mk 3 ByteArray.empty 40 false 0 1 2 0 false)]), (3, LS 1 I64 r10.1), (4, I64 r10.2), (5, LS 1 I64 r15.1), (6, I64 r15.2), (7, .dptr [LS 1 (LS 4 Stowed.av) ([[r17, r18], [r19, r20], []]), LS 1 (LS 1 I64) ([] : List (List Int))])] [] 1014 rfl rfl rfl trivial rfl (by exact ⟨.conv (.same rfl), .conv (.same rfl), .conv (.same rfl), .conv (.same rfl), .conv (.same rfl), .conv (.same rfl), .ptr, trivial⟩) ?_
 refine Js fun K21 hK21 => Jr ?_
 refine Jg (u := .agg (Ship.cs r3)) (A_loadAgg tf_agg_35 rfl rfl rfl) ?_ rfl rfl rfl
 refine Jg (u := LS 9 Box.av [(Box.mk 1 ByteArray.empty 40 false 0 0 1 0 false), (Box.mk 2 ByteArray.empty 40 false 0 0 2 0 false), (Box.mk 3 ByteArray.empty 40 false 0 1 2 0 false)]) (Am rfl rfl) ?_ rfl rfl rfl
 refine Jg (u := .agg [LS 1 (LS 4 Stowed.av) ([[r17, r18], [r19, r20], []]), LS 1 (LS 1 I64) ([] : List (List Int))]) (A_loadAgg tf_agg_59 rfl rfl rfl) ?_ rfl rfl rfl
 obtain ⟨r22, hr22, h⟩ := bnd_out h
 refine Jg (u := .tup [LS 1 (LS 1 I64) r22.1, I64 r22.2]) (A_call1 (args := [.agg (Ship.cs r3), LS 9 Box.av [(Box.mk 1 ByteArray.empty 40 false 0 0 1 0 false), (Box.mk 2 ByteArray.empty 40 false 0 0 2 0 false), (Box.mk 3 ByteArray.empty 40 false 0 1 2 0 false)], I64 3, .agg [LS 1 (LS 4 Stowed.av) ([[r17, r18], [r19, r20], []]), LS 1 (LS 1 I64) ([] : List (List Int))]]) rfl (M_plan_Restows_w F r3 [(Box.mk 1 ByteArray.empty 40 false 0 0 1 0 false), (Box.mk 2 ByteArray.empty 40 false 0 0 2 0 false), (Box.mk 3 ByteArray.empty 40 false 0 1 2 0 false)] 3 (Plan.mk ([[r17, r18], [r19, r20], []]) []) r22 hr22) tf_call_14 ⟨rfl, rfl, rfl, rfl, rfl, rfl, rfl, rfl, trivial⟩) ?_ rfl rfl rfl
 refine Jg (u := .tup [LS 1 (LS 1 I64) r22.1, I64 r22.2]) (Am rfl rfl) ?_ rfl rfl rfl
 refine Jg (u := LS 1 (LS 1 I64) r22.1) (A_extract rfl rfl rfl) ?_ rfl rfl rfl
 refine Jg (u := I64 r22.2) (A_extract rfl rfl rfl) ?_ rfl rfl rfl
 refine Jg (u := LS 1 (LS 1 I64) r22.1) (Aa rfl rfl) ?_ rfl rfl rfl
 refine Jg (u := I64 r22.2) (Aa rfl rfl) ?_ rfl rfl rfl
 refine Jn (hK21 _ _ ?_)
 refine Js fun K23 hK23 => Jr ?_
 refine Jg (u := .agg (Ship.cs r3)) (A_loadAgg tf_agg_35 rfl rfl rfl) ?_ rfl rfl rfl
 refine Jg (u := LS 9 Box.av [(Box.mk 1 ByteArray.empty 40 false 0 0 1 0 false), (Box.mk 2 ByteArray.empty 40 false 0 0 2 0 false), (Box.mk 3 ByteArray.empty 40 false 0 1 2 0 false)]) (Am rfl rfl) ?_ rfl rfl rfl
 refine Jg (u := .agg [LS 1 (LS 4 Stowed.av) ([[r17, r18], [r19, r20], []]), LS 1 (LS 1 I64) ([] : List (List Int))]) (A_loadAgg tf_agg_59 rfl rfl rfl) ?_ rfl rfl rfl
 obtain ⟨r24, hr24, h⟩ := bnd_out h
 refine Jg (u := .tup [I64 r24.1, I64 r24.2]) (A_call1 (args := [.agg (Ship.cs r3), LS 9 Box.av [(Box.mk 1 ByteArray.empty 40 false 0 0 1 0 false), (Box.mk 2 ByteArray.empty 40 false 0 0 2 0 false), (Box.mk 3 ByteArray.empty 40 false 0 1 2 0 false)], I64 3, .agg [LS 1 (LS 4 Stowed.av) ([[r17, r18], [r19, r20], []]), LS 1 (LS 1 I64) ([] : List (List Int))]]) rfl (M_plan_Count_w F r3 [(Box.mk 1 ByteArray.empty 40 false 0 0 1 0 false), (Box.mk 2 ByteArray.empty 40 false 0 0 2 0 false), (Box.mk 3 ByteArray.empty 40 false 0 1 2 0 false)] 3 (Plan.mk ([[r17, r18], [r19, r20], []]) []) r24 hr24) tf_call_15 ⟨rfl, rfl, rfl, rfl, rfl, rfl, rfl, rfl, trivial⟩) ?_ rfl rfl rfl
 refine Jg (u := .tup [I64 r24.1, I64 r24.2]) (Am rfl rfl) ?_ rfl rfl rfl
 refine Jg (u := I64 r24.1) (A_extract rfl rfl rfl) ?_ rfl rfl rfl
 refine Jg (u := I64 r24.2) (A_extract rfl rfl rfl) ?_ rfl rfl rfl
 refine Jg (u := I64 r24.1) (Aa rfl rfl) ?_ rfl rfl rfl
 refine Jg (u := I64 r24.2) (Aa rfl rfl) ?_ rfl rfl rfl
 refine Jn (hK23 _ _ ?_)
 refine Js fun K25 hK25 => Jr ?_
 refine Jg (u := .agg (Ship.cs r3)) (A_loadAgg tf_agg_35 rfl rfl rfl) ?_ rfl rfl rfl
 refine Jg (u := LS 9 Box.av [(Box.mk 1 ByteArray.empty 40 false 0 0 1 0 false), (Box.mk 2 ByteArray.empty 40 false 0 0 2 0 false), (Box.mk 3 ByteArray.empty 40 false 0 1 2 0 false)]) (Am rfl rfl) ?_ rfl rfl rfl
 refine Jg (u := .agg [LS 1 (LS 4 Stowed.av) ([[r17, r18], [r19, r20], []]), LS 1 (LS 1 I64) ([] : List (List Int))]) (A_loadAgg tf_agg_59 rfl rfl rfl) ?_ rfl rfl rfl
 obtain ⟨r26, hr26, h⟩ := bnd_out h
 refine Jg (u := .tup [I64 r26.1, I64 r26.2]) (A_call1 (args := [.agg (Ship.cs r3), LS 9 Box.av [(Box.mk 1 ByteArray.empty 40 false 0 0 1 0 false), (Box.mk 2 ByteArray.empty 40 false 0 0 2 0 false), (Box.mk 3 ByteArray.empty 40 false 0 1 2 0 false)], I64 4, .agg [LS 1 (LS 4 Stowed.av) ([[r17, r18], [r19, r20], []]), LS 1 (LS 1 I64) ([] : List (List Int))]]) rfl (M_plan_Check_w r3 [(Box.mk 1 ByteArray.empty 40 false 0 0 1 0 false), (Box.mk 2 ByteArray.empty 40 false 0 0 2 0 false), (Box.mk 3 ByteArray.empty 40 false 0 1 2 0 false)] 4 (Plan.mk ([[r17, r18], [r19, r20], []]) []) r26 hr26) tf_call_25 ⟨rfl, rfl, rfl, rfl, rfl, rfl, rfl, rfl, trivial⟩) ?_ rfl rfl rfl
 refine Jg (u := .tup [I64 r26.1, I64 r26.2]) (Am rfl rfl) ?_ rfl rfl rfl
 refine Jg (u := I64 r26.1) (A_extract rfl rfl rfl) ?_ rfl rfl rfl
 refine Jg (u := I64 r26.2) (A_extract rfl rfl rfl) ?_ rfl rfl rfl
 refine Jg (u := I64 r26.1) (Aa rfl rfl) ?_ rfl rfl rfl
 refine Jg (u := I64 r26.2) (Aa rfl rfl) ?_ rfl rfl rfl
 refine Jn (hK25 _ _ ?_)
 refine Js (fun K27 hK27 => ?_)
 obtain ⟨v28, hv28, h⟩ := chk_out h
 obtain ⟨v29, hv29, h⟩ := chk_out h
 obtain ⟨v30, hv30, h⟩ := chk_out h
 obtain ⟨r31, hr31, h⟩ := bnd_out h
 obtain ⟨r32, hr32, h⟩ := bnd_out h
 obtain ⟨y33, hy33, h⟩ := bnd_out h
 obtain ⟨y34, hy34, h⟩ := bnd_out h
 obtain ⟨v35, hv35, h⟩ := bnd_out h
 obtain ⟨y36, hy36, h⟩ := bnd_out h
 obtain ⟨r37, hr37, h⟩ := bnd_out h
 obtain ⟨r38, hr38, h⟩ := bnd_out h
 obtain ⟨r39, hr39, h⟩ := bnd_out h
 refine JC_draw [] [0, 0, 0, 0, 0, 0, 0, 0, 0, 0, 0, 0, 0, 0, 0, 0, 0, 0, 0, 0, 0, 0, 0, 0, 0, 0, 0, 0, 0, 0, 0, 0, 0, 0, 0, 0, 0, 0, 0, 0, 0, 0, 0, 0, 0, 0, 0, 0, 0, 0, 0, 0, 0, 0, 0, 0, 0] [0, 0, 0, 0, 0, 0, 0, 0, 0, 0, 0, 0, 0, 0, 0, 0, 0, 0, 0, 0, 0, 0, 0, 0, 0, 0, 0, 0, 0, 0, 0, 0, 0, 0, 0, 0, 0, 0, 0, 0, 0, 0, 0, 0, 0, 0, 0, 0, 0, 0, 0, 0, 0, 0, 0, 0, 0] [[]] tf_mixed (by kernel_rfl) rfl rfl ?_
 refine D_ro (u := I64 r10.2) rfl rfl ⟨O_go (Am rfl rfl) rfl, trivial⟩ ?_ rfl
 refine D_ro (u := I64 r15.2) rfl rfl ⟨O_go (Am rfl rfl) rfl, trivial⟩ ?_ rfl
 refine D_ro (u := I64 v28) rfl rfl ⟨O_go (A_add hv28 rfl rfl rfl) rfl, trivial⟩ ?_ rfl
 refine D_ro (u := I64 r22.2) rfl rfl ⟨O_go (Am rfl rfl) rfl, trivial⟩ ?_ rfl
 refine D_ro (u := I64 v29) rfl rfl ⟨O_go (A_add hv29 rfl rfl rfl) rfl, trivial⟩ ?_ rfl
 refine D_ro (u := I64 r24.2) rfl rfl ⟨O_go (Am rfl rfl) rfl, trivial⟩ ?_ rfl
 refine D_ro (u := I64 v30) rfl rfl ⟨O_go (A_add hv30 rfl rfl rfl) rfl, trivial⟩ ?_ rfl
 refine D_ro (u := BL (decide (v30 = 0))) rfl rfl ⟨O_go (A_eql rfl rfl rfl) rfl, trivial⟩ ?_ rfl
 refine D_ro (u := BL (decide (v30 = 0))) rfl rfl ⟨O_go (Am rfl rfl) rfl, trivial⟩ ?_ rfl
 refine D_ro (u := .opt (decide (v30 = 0)) (I64 r26.2)) rfl rfl ⟨O_opt [] rfl rfl rfl .sct trivial (fun hc => Am rfl rfl) rfl, trivial⟩ ?_ rfl
 refine D_ro (u := .opt (decide (v30 = 0)) (BL (decide (r26.2 = 231)))) rfl rfl ⟨O_opt [(80, I64 r26.2)] rfl rfl rfl .sct ⟨.all id, trivial⟩ (fun hc => A_eql rfl rfl rfl) rfl, trivial⟩ ?_ rfl
 refine D_ro (u := BL ((decide (v30 = 0)) && (decide (r26.2 = 231)))) rfl rfl ⟨O_go (A_and rfl rfl rfl rfl) rfl, trivial⟩ ?_ rfl
 refine D_ro (u := BL ((decide (v30 = 0)) && (decide (r26.2 = 231)))) rfl rfl ⟨O_go (Am rfl rfl) rfl, trivial⟩ ?_ rfl
 refine D_ro (u := .opt ((decide (v30 = 0)) && (decide (r26.2 = 231))) (LS 1 I64 r10.1)) rfl rfl ⟨O_opt [] rfl rfl rfl .sct trivial (fun hc => Am rfl rfl) rfl, trivial⟩ ?_ rfl
 refine D_ro (u := .opt ((decide (v30 = 0)) && (decide (r26.2 = 231))) (LS 1 I64 [1, 2, 3])) rfl rfl ⟨O_opt [] rfl rfl rfl .sct trivial (fun hc => A_buildSlice (xs := [I64 1, I64 2, I64 3]) rfl ⟨rfl, rfl, rfl, rfl, rfl, rfl, trivial⟩ tf_slice_43 tf_zsize_3 rfl rfl rfl rfl) rfl, trivial⟩ ?_ rfl
 refine D_ro (u := .opt ((decide (v30 = 0)) && (decide (r26.2 = 231))) (BL r31)) rfl rfl ⟨O_opt [(84, LS 1 I64 r10.1), (85, LS 1 I64 [1, 2, 3])] rfl rfl rfl .sct ⟨.all id, .all id, trivial⟩ (fun hc => A_call1 (args := [LS 1 I64 r10.1, LS 1 I64 [1, 2, 3]]) rfl (M_twistlockkit_SameInts_w r10.1 [1, 2, 3] r31 (bif_t hc hr31)) tf_call_8 ⟨rfl, rfl, rfl, rfl, trivial⟩) rfl, trivial⟩ ?_ rfl
 refine D_ro (u := BL (((decide (v30 = 0)) && (decide (r26.2 = 231))) && r31)) rfl rfl ⟨O_go (A_and rfl rfl rfl rfl) rfl, trivial⟩ ?_ rfl
 refine D_ro (u := BL (((decide (v30 = 0)) && (decide (r26.2 = 231))) && r31)) rfl rfl ⟨O_go (Am rfl rfl) rfl, trivial⟩ ?_ rfl
 refine D_ro (u := .opt (((decide (v30 = 0)) && (decide (r26.2 = 231))) && r31) (LS 1 I64 r15.1)) rfl rfl ⟨O_opt [] rfl rfl rfl .sct trivial (fun hc => Am rfl rfl) rfl, trivial⟩ ?_ rfl
 refine D_ro (u := .opt (((decide (v30 = 0)) && (decide (r26.2 = 231))) && r31) (LS 1 I64 [1, 2])) rfl rfl ⟨O_opt [] rfl rfl rfl .sct trivial (fun hc => A_buildSlice (xs := [I64 1, I64 2]) rfl ⟨rfl, rfl, rfl, rfl, trivial⟩ tf_slice_43 tf_zsize_3 rfl rfl rfl rfl) rfl, trivial⟩ ?_ rfl
 refine D_ro (u := .opt (((decide (v30 = 0)) && (decide (r26.2 = 231))) && r31) (BL r32)) rfl rfl ⟨O_opt [(89, LS 1 I64 r15.1), (90, LS 1 I64 [1, 2])] rfl rfl rfl .sct ⟨.all id, .all id, trivial⟩ (fun hc => A_call1 (args := [LS 1 I64 r15.1, LS 1 I64 [1, 2]]) rfl (M_twistlockkit_SameInts_w r15.1 [1, 2] r32 (bif_t hc hr32)) tf_call_8 ⟨rfl, rfl, rfl, rfl, trivial⟩) rfl, trivial⟩ ?_ rfl
 refine D_ro (u := BL ((((decide (v30 = 0)) && (decide (r26.2 = 231))) && r31) && r32)) rfl rfl ⟨O_go (A_and rfl rfl rfl rfl) rfl, trivial⟩ ?_ rfl
 refine D_ro (u := BL ((((decide (v30 = 0)) && (decide (r26.2 = 231))) && r31) && r32)) rfl rfl ⟨O_go (Am rfl rfl) rfl, trivial⟩ ?_ rfl
 refine D_ro (u := .opt ((((decide (v30 = 0)) && (decide (r26.2 = 231))) && r31) && r32) (I64 r24.1)) rfl rfl ⟨O_opt [] rfl rfl rfl .sct trivial (fun hc => Am rfl rfl) rfl, trivial⟩ ?_ rfl
 refine D_ro (u := .opt ((((decide (v30 = 0)) && (decide (r26.2 = 231))) && r31) && r32) (BL (decide (r24.1 = 1)))) rfl rfl ⟨O_opt [(94, I64 r24.1)] rfl rfl rfl .sct ⟨.all id, trivial⟩ (fun hc => A_eql rfl rfl rfl) rfl, trivial⟩ ?_ rfl
 refine D_ro (u := BL (((((decide (v30 = 0)) && (decide (r26.2 = 231))) && r31) && r32) && (decide (r24.1 = 1)))) rfl rfl ⟨O_go (A_and rfl rfl rfl rfl) rfl, trivial⟩ ?_ rfl
 refine D_ro (u := BL (((((decide (v30 = 0)) && (decide (r26.2 = 231))) && r31) && r32) && (decide (r24.1 = 1)))) rfl rfl ⟨O_go (Am rfl rfl) rfl, trivial⟩ ?_ rfl
 refine D_ro (u := .opt (((((decide (v30 = 0)) && (decide (r26.2 = 231))) && r31) && r32) && (decide (r24.1 = 1))) (LS 1 (LS 1 I64) r22.1)) rfl rfl ⟨O_opt [] rfl rfl rfl .sct trivial (fun hc => Am rfl rfl) rfl, trivial⟩ ?_ rfl
 refine D_ro (u := .opt (((((decide (v30 = 0)) && (decide (r26.2 = 231))) && r31) && r32) && (decide (r24.1 = 1))) (I64 (r22.1.length : Int))) rfl rfl ⟨O_opt [(98, LS 1 (LS 1 I64) r22.1)] rfl rfl rfl .sct ⟨.all id, trivial⟩ (fun hc => A_lenM (f := (LS 1 I64)) (xs := r22.1) tf_slice_57 rfl rfl) rfl, trivial⟩ ?_ rfl
 refine D_ro (u := .opt (((((decide (v30 = 0)) && (decide (r26.2 = 231))) && r31) && r32) && (decide (r24.1 = 1))) (BL (decide ((r22.1.length : Int) = 3)))) rfl rfl ⟨O_opt [(99, I64 (r22.1.length : Int))] rfl rfl rfl .sct ⟨.all id, trivial⟩ (fun hc => A_eql rfl rfl rfl) rfl, trivial⟩ ?_ rfl
 refine D_ro (u := BL ((((((decide (v30 = 0)) && (decide (r26.2 = 231))) && r31) && r32) && (decide (r24.1 = 1))) && (decide ((r22.1.length : Int) = 3)))) rfl rfl ⟨O_go (A_and rfl rfl rfl rfl) rfl, trivial⟩ ?_ rfl
 refine D_ro (u := BL ((((((decide (v30 = 0)) && (decide (r26.2 = 231))) && r31) && r32) && (decide (r24.1 = 1))) && (decide ((r22.1.length : Int) = 3)))) rfl rfl ⟨O_go (Am rfl rfl) rfl, trivial⟩ ?_ rfl
 refine D_ro (u := .opt ((((((decide (v30 = 0)) && (decide (r26.2 = 231))) && r31) && r32) && (decide (r24.1 = 1))) && (decide ((r22.1.length : Int) = 3))) (LS 1 (LS 1 I64) r22.1)) rfl rfl ⟨O_opt [] rfl rfl rfl .sct trivial (fun hc => Am rfl rfl) rfl, trivial⟩ ?_ rfl
 refine D_ro (u := .opt ((((((decide (v30 = 0)) && (decide (r26.2 = 231))) && r31) && r32) && (decide (r24.1 = 1))) && (decide ((r22.1.length : Int) = 3))) (.dptr [LS 1 I64 y33])) rfl rfl ⟨O_opt [(103, LS 1 (LS 1 I64) r22.1)] rfl rfl rfl .sct ⟨.all id, trivial⟩ (fun hc => (match gidx_some (bif_t hc hy33) with | ⟨_, hm_, hy_⟩ => A_indexM (f := (LS 1 I64)) (xs := r22.1) (y := y33) rfl rfl rfl tf_slice_57 hy_ hm_)) rfl, trivial⟩ ?_ rfl
 refine D_ro (u := .opt ((((((decide (v30 = 0)) && (decide (r26.2 = 231))) && r31) && r32) && (decide (r24.1 = 1))) && (decide ((r22.1.length : Int) = 3))) (LS 1 I64 y33)) rfl rfl ⟨O_opt [(104, .dptr [LS 1 I64 y33])] rfl rfl rfl .sct ⟨.all id, trivial⟩ (fun hc => A_load tf_scalar_43 rfl rfl rfl) rfl, trivial⟩ ?_ rfl
 refine D_ro (u := .opt ((((((decide (v30 = 0)) && (decide (r26.2 = 231))) && r31) && r32) && (decide (r24.1 = 1))) && (decide ((r22.1.length : Int) = 3))) (I64 (y33.length : Int))) rfl rfl ⟨O_opt [(105, LS 1 I64 y33)] rfl rfl rfl .sct ⟨.all id, trivial⟩ (fun hc => A_lenM (f := I64) (xs := y33) tf_slice_43 rfl rfl) rfl, trivial⟩ ?_ rfl
 refine D_ro (u := .opt ((((((decide (v30 = 0)) && (decide (r26.2 = 231))) && r31) && r32) && (decide (r24.1 = 1))) && (decide ((r22.1.length : Int) = 3))) (LS 1 (LS 1 I64) r22.1)) rfl rfl ⟨O_opt [] rfl rfl rfl .sct trivial (fun hc => Am rfl rfl) rfl, trivial⟩ ?_ rfl
 refine D_ro (u := .opt ((((((decide (v30 = 0)) && (decide (r26.2 = 231))) && r31) && r32) && (decide (r24.1 = 1))) && (decide ((r22.1.length : Int) = 3))) (.dptr [LS 1 I64 y34])) rfl rfl ⟨O_opt [(107, LS 1 (LS 1 I64) r22.1)] rfl rfl rfl .sct ⟨.all id, trivial⟩ (fun hc => (match gidx_some (bif_t hc hy34) with | ⟨_, hm_, hy_⟩ => A_indexM (f := (LS 1 I64)) (xs := r22.1) (y := y34) rfl rfl rfl tf_slice_57 hy_ hm_)) rfl, trivial⟩ ?_ rfl
 refine D_ro (u := .opt ((((((decide (v30 = 0)) && (decide (r26.2 = 231))) && r31) && r32) && (decide (r24.1 = 1))) && (decide ((r22.1.length : Int) = 3))) (LS 1 I64 y34)) rfl rfl ⟨O_opt [(108, .dptr [LS 1 I64 y34])] rfl rfl rfl .sct ⟨.all id, trivial⟩ (fun hc => A_load tf_scalar_43 rfl rfl rfl) rfl, trivial⟩ ?_ rfl
 refine D_ro (u := .opt ((((((decide (v30 = 0)) && (decide (r26.2 = 231))) && r31) && r32) && (decide (r24.1 = 1))) && (decide ((r22.1.length : Int) = 3))) (I64 (y34.length : Int))) rfl rfl ⟨O_opt [(109, LS 1 I64 y34)] rfl rfl rfl .sct ⟨.all id, trivial⟩ (fun hc => A_lenM (f := I64) (xs := y34) tf_slice_43 rfl rfl) rfl, trivial⟩ ?_ rfl
 refine D_ro (u := .opt ((((((decide (v30 = 0)) && (decide (r26.2 = 231))) && r31) && r32) && (decide (r24.1 = 1))) && (decide ((r22.1.length : Int) = 3))) (I64 v35)) rfl rfl ⟨O_opt [(106, I64 (y33.length : Int)), (110, I64 (y34.length : Int))] rfl rfl rfl .sct ⟨.all id, .all id, trivial⟩ (fun hc => A_add (chk_some (bif_t hc hv35)) rfl rfl rfl) rfl, trivial⟩ ?_ rfl
 refine D_ro (u := .opt ((((((decide (v30 = 0)) && (decide (r26.2 = 231))) && r31) && r32) && (decide (r24.1 = 1))) && (decide ((r22.1.length : Int) = 3))) (BL (decide (v35 = 0)))) rfl rfl ⟨O_opt [(111, I64 v35)] rfl rfl rfl .sct ⟨.all id, trivial⟩ (fun hc => A_eql rfl rfl rfl) rfl, trivial⟩ ?_ rfl
 refine D_ro (u := BL (((((((decide (v30 = 0)) && (decide (r26.2 = 231))) && r31) && r32) && (decide (r24.1 = 1))) && (decide ((r22.1.length : Int) = 3))) && (decide (v35 = 0)))) rfl rfl ⟨O_go (A_and rfl rfl rfl rfl) rfl, trivial⟩ ?_ rfl
 refine D_ro (u := BL (((((((decide (v30 = 0)) && (decide (r26.2 = 231))) && r31) && r32) && (decide (r24.1 = 1))) && (decide ((r22.1.length : Int) = 3))) && (decide (v35 = 0)))) rfl rfl ⟨O_go (Am rfl rfl) rfl, trivial⟩ ?_ rfl
 refine D_ro (u := .opt (((((((decide (v30 = 0)) && (decide (r26.2 = 231))) && r31) && r32) && (decide (r24.1 = 1))) && (decide ((r22.1.length : Int) = 3))) && (decide (v35 = 0))) (LS 1 (LS 1 I64) r22.1)) rfl rfl ⟨O_opt [] rfl rfl rfl .sct trivial (fun hc => Am rfl rfl) rfl, trivial⟩ ?_ rfl
 refine D_ro (u := .opt (((((((decide (v30 = 0)) && (decide (r26.2 = 231))) && r31) && r32) && (decide (r24.1 = 1))) && (decide ((r22.1.length : Int) = 3))) && (decide (v35 = 0))) (.dptr [LS 1 I64 y36])) rfl rfl ⟨O_opt [(115, LS 1 (LS 1 I64) r22.1)] rfl rfl rfl .sct ⟨.all id, trivial⟩ (fun hc => (match gidx_some (bif_t hc hy36) with | ⟨_, hm_, hy_⟩ => A_indexM (f := (LS 1 I64)) (xs := r22.1) (y := y36) rfl rfl rfl tf_slice_57 hy_ hm_)) rfl, trivial⟩ ?_ rfl
 refine D_ro (u := .opt (((((((decide (v30 = 0)) && (decide (r26.2 = 231))) && r31) && r32) && (decide (r24.1 = 1))) && (decide ((r22.1.length : Int) = 3))) && (decide (v35 = 0))) (LS 1 I64 y36)) rfl rfl ⟨O_opt [(116, .dptr [LS 1 I64 y36])] rfl rfl rfl .sct ⟨.all id, trivial⟩ (fun hc => A_load tf_scalar_43 rfl rfl rfl) rfl, trivial⟩ ?_ rfl
 refine D_ro (u := .opt (((((((decide (v30 = 0)) && (decide (r26.2 = 231))) && r31) && r32) && (decide (r24.1 = 1))) && (decide ((r22.1.length : Int) = 3))) && (decide (v35 = 0))) (LS 1 I64 [2])) rfl rfl ⟨O_opt [] rfl rfl rfl .sct trivial (fun hc => A_buildSlice (xs := [I64 2]) rfl ⟨rfl, rfl, trivial⟩ tf_slice_43 tf_zsize_3 rfl rfl rfl rfl) rfl, trivial⟩ ?_ rfl
 refine D_ro (u := .opt (((((((decide (v30 = 0)) && (decide (r26.2 = 231))) && r31) && r32) && (decide (r24.1 = 1))) && (decide ((r22.1.length : Int) = 3))) && (decide (v35 = 0))) (BL r37)) rfl rfl ⟨O_opt [(117, LS 1 I64 y36), (118, LS 1 I64 [2])] rfl rfl rfl .sct ⟨.all id, .all id, trivial⟩ (fun hc => A_call1 (args := [LS 1 I64 y36, LS 1 I64 [2]]) rfl (M_twistlockkit_SameInts_w y36 [2] r37 (bif_t hc hr37)) tf_call_8 ⟨rfl, rfl, rfl, rfl, trivial⟩) rfl, trivial⟩ ?_ rfl
 refine D_ro (u := BL ((((((((decide (v30 = 0)) && (decide (r26.2 = 231))) && r31) && r32) && (decide (r24.1 = 1))) && (decide ((r22.1.length : Int) = 3))) && (decide (v35 = 0))) && r37)) rfl rfl ⟨O_go (A_and rfl rfl rfl rfl) rfl, trivial⟩ ?_ rfl
 refine D_ro (u := BL ((((((((decide (v30 = 0)) && (decide (r26.2 = 231))) && r31) && r32) && (decide (r24.1 = 1))) && (decide ((r22.1.length : Int) = 3))) && (decide (v35 = 0))) && r37)) rfl rfl ⟨O_go (Am rfl rfl) rfl, trivial⟩ ?_ rfl
 refine D_ro (u := .opt ((((((((decide (v30 = 0)) && (decide (r26.2 = 231))) && r31) && r32) && (decide (r24.1 = 1))) && (decide ((r22.1.length : Int) = 3))) && (decide (v35 = 0))) && r37) (LS 9 Box.av [(Box.mk 1 ByteArray.empty 40 false 0 0 1 0 false), (Box.mk 2 ByteArray.empty 40 false 0 0 2 0 false), (Box.mk 3 ByteArray.empty 40 false 0 1 2 0 false)])) rfl rfl ⟨O_opt [] rfl rfl rfl .sct trivial (fun hc => Am rfl rfl) rfl, trivial⟩ ?_ rfl
 refine D_ro (u := .opt ((((((((decide (v30 = 0)) && (decide (r26.2 = 231))) && r31) && r32) && (decide (r24.1 = 1))) && (decide ((r22.1.length : Int) = 3))) && (decide (v35 = 0))) && r37) (LS 1 I64 r38)) rfl rfl ⟨O_opt [(122, LS 9 Box.av [(Box.mk 1 ByteArray.empty 40 false 0 0 1 0 false), (Box.mk 2 ByteArray.empty 40 false 0 0 2 0 false), (Box.mk 3 ByteArray.empty 40 false 0 1 2 0 false)])] rfl rfl rfl .sct ⟨.all id, trivial⟩ (fun hc => A_call1 (args := [LS 9 Box.av [(Box.mk 1 ByteArray.empty 40 false 0 0 1 0 false), (Box.mk 2 ByteArray.empty 40 false 0 0 2 0 false), (Box.mk 3 ByteArray.empty 40 false 0 1 2 0 false)], I64 1]) rfl (M_plan_Aboard_w [(Box.mk 1 ByteArray.empty 40 false 0 0 1 0 false), (Box.mk 2 ByteArray.empty 40 false 0 0 2 0 false), (Box.mk 3 ByteArray.empty 40 false 0 1 2 0 false)] 1 r38 (bif_t hc hr38)) tf_call_26 ⟨rfl, rfl, rfl, rfl, trivial⟩) rfl, trivial⟩ ?_ rfl
 refine D_ro (u := .opt ((((((((decide (v30 = 0)) && (decide (r26.2 = 231))) && r31) && r32) && (decide (r24.1 = 1))) && (decide ((r22.1.length : Int) = 3))) && (decide (v35 = 0))) && r37) (LS 1 I64 [2, 3])) rfl rfl ⟨O_opt [] rfl rfl rfl .sct trivial (fun hc => A_buildSlice (xs := [I64 2, I64 3]) rfl ⟨rfl, rfl, rfl, rfl, trivial⟩ tf_slice_43 tf_zsize_3 rfl rfl rfl rfl) rfl, trivial⟩ ?_ rfl
 refine D_ro (u := .opt ((((((((decide (v30 = 0)) && (decide (r26.2 = 231))) && r31) && r32) && (decide (r24.1 = 1))) && (decide ((r22.1.length : Int) = 3))) && (decide (v35 = 0))) && r37) (BL r39)) rfl rfl ⟨O_opt [(123, LS 1 I64 r38), (124, LS 1 I64 [2, 3])] rfl rfl rfl .sct ⟨.all id, .all id, trivial⟩ (fun hc => A_call1 (args := [LS 1 I64 r38, LS 1 I64 [2, 3]]) rfl (M_twistlockkit_SameInts_w r38 [2, 3] r39 (bif_t hc hr39)) tf_call_8 ⟨rfl, rfl, rfl, rfl, trivial⟩) rfl, trivial⟩ ?_ rfl
 refine D_ro (u := BL (((((((((decide (v30 = 0)) && (decide (r26.2 = 231))) && r31) && r32) && (decide (r24.1 = 1))) && (decide ((r22.1.length : Int) = 3))) && (decide (v35 = 0))) && r37) && r39)) rfl rfl ⟨O_go (A_and rfl rfl rfl rfl) rfl, trivial⟩ ?_ rfl
 refine D_ro (u := BL (((((((((decide (v30 = 0)) && (decide (r26.2 = 231))) && r31) && r32) && (decide (r24.1 = 1))) && (decide ((r22.1.length : Int) = 3))) && (decide (v35 = 0))) && r37) && r39)) rfl rfl ⟨O_go (Aa rfl rfl) rfl, trivial⟩ ?_ rfl
 refine D_nil ?_
 refine hK27 _ _ ?_
 refine JC_ret ?_
 exact ⟨[BL (((((((((decide (v30 = 0)) && (decide (r26.2 = 231))) && r31) && r32) && (decide (r24.1 = 1))) && (decide ((r22.1.length : Int) = 3))) && (decide (v35 = 0))) && r37) && r39)], [], trivial, rfl, ⟨⟨_, rfl, .conv (.same rfl)⟩, trivial⟩, rfl, congrArg (fun r : Bool => (BL r : AV)) (Option.some.inj h)⟩

def M_twistlocklaw23_PlanKept (F : Nat) (l : List law07_Place) (covers : Int) (items : List law23_Item) (n : Int) : Option Bool :=
 bnd (M_twistlocklaw07_Built l covers) fun r3 =>
 chk (n) fun v4 =>
 bnd (rem64 v4 5) fun v5 =>
 chk (2 + v5) fun v6 =>
 bnd (M_twistlocklaw23_Voyage F r3 items v6 8) fun r8 =>
 bnd (M_plan_Restows F r3 r8.1 v6 r8.2) fun r10 =>
 bnd (M_plan_Count F r3 r8.1 v6 r8.2) fun r12 =>
 chk (r10.2 + r12.2) fun v15 =>
 bif (((decide (v15 ≠ 0)) || (decide ((r10.1.length : Int) ≠ v6))) || (decide ((r8.2.States.length : Int) ≠ v6))) then
 (some false)
 else
 (each (fun y20 i20 (s20 : Int × (AMap Int Int)) nx20 =>
   bnd (bif decide (0 < (i20 : Int)) then chk ((i20 : Int) - 1) some else some 0) fun v27 =>
   bnd (bif decide (0 < (i20 : Int)) then gidx r8.2.States v27 some else some default) fun y28 =>
   bnd (bif decide (0 < (i20 : Int)) then gidx r8.2.States (i20 : Int) some else some default) fun y29 =>
   bnd (bif decide (0 < (i20 : Int)) then M_twistlockkit_SameStoweds y28 y29 else some default) fun r30 =>
   bif ((((decide (0 < (i20 : Int))) && r30) && (decide (0 < (y20.length : Int)))) || ((decide ((i20 : Int) = 0)) && (decide (0 < (y20.length : Int))))) then
   (some false)
   else
   (chk (s20.1 - (y20.length : Int)) fun v33 =>
    each (fun y63 i63 (s63 : (AMap Int Int)) nx63 =>
     bnd (some (AMap.get s63 y63 0)) fun v68 =>
     chk (v68 + 1) fun v69 =>
     nx63 (AMap.put s63 y63 v69))
    (fun (s63 : (AMap Int Int)) =>
     nx20 (v33, s63)) y20 0 s20.2))
  (fun (s20 : Int × (AMap Int Int)) =>
   each (fun y92 i92 (s92 : Unit) nx92 =>
    bnd (some (AMap.get s20.2 y92.ID 0)) fun v98 =>
    chk (y92.Discharge - y92.Load) fun v99 =>
    chk (v99 - 1) fun v100 =>
    bif decide (v100 < v98) then
    (some false)
    else
    (nx92 ()))
   (fun (s92 : Unit) =>
    bnd (bif decide (s20.1 = 0) then M_twistlocklaw23_awake F else some default) fun r103 =>
    some ((decide (s20.1 = 0)) && r103)) r8.1 0 ()) r10.1 0 (r12.1, (AMap.empty : AMap Int Int)))
theorem M_twistlocklaw23_PlanKept_w (F : Nat) (l : List law07_Place) (covers : Int) (items : List law23_Item) (n : Int) (r : Bool) (h : M_twistlocklaw23_PlanKept F l covers items n = some r) : Pure Try.prog 4 [LS 4 law07_Place.av l, .sc (.int .u32 covers), LS 6 law23_Item.av items, U8 n] (· = BL r) := by
 unfold M_twistlocklaw23_PlanKept at h
 refine Pure_ofG [.tmp 8] Try.func4 rfl rfl ?_
 refine Js fun K1 hK1 => Jr ?_
 refine Jg (u := BL false) (Aa rfl rfl) ?_ rfl rfl rfl
 refine Jn (hK1 _ _ ?_)
 refine Js fun K2 hK2 => Jr ?_
 refine Jg (u := LS 4 law07_Place.av l) (Am rfl rfl) ?_ rfl rfl rfl
 refine Jg (u := .sc (.int .u32 covers)) (Am rfl rfl) ?_ rfl rfl rfl
 obtain ⟨r3, hr3, h⟩ := bnd_out h
 refine Jg (u := .agg (Ship.cs r3)) (A_call1 (args := [LS 4 law07_Place.av l, .sc (.int .u32 covers)]) rfl (M_twistlocklaw07_Built_w l covers r3 hr3) tf_call_5 ⟨rfl, rfl, rfl, rfl, trivial⟩) ?_ rfl rfl rfl
 refine Jg (u := U8 n) (Am rfl rfl) ?_ rfl rfl rfl
 obtain ⟨v4, hv4, h⟩ := chk_out h
 refine Jg (u := I64 v4) (A_conv tf_int_3 tf_int_5 hv4 rfl rfl) ?_ rfl rfl rfl
 obtain ⟨v5, hv5, h⟩ := bnd_out h
 refine Jg (u := I64 v5) (A_rem (rem64_out hv5).1 (rem64_out hv5).2 rfl rfl rfl) ?_ rfl rfl rfl
 obtain ⟨v6, hv6, h⟩ := chk_out h
 refine Jg (u := I64 v6) (A_add hv6 rfl rfl rfl) ?_ rfl rfl rfl
 refine Jg (u := .ptr 1001 0) (A_allocJ 1001 13 tf_zsize_35 rfl rfl) ?_ rfl rfl rfl
 refine JL_go0 (u := .junk) (A_store (u := .agg (Ship.cs r3)) (ds := [LS 12 Column.av r3.Columns, LS 2 Cover.av r3.Covers, I64 r3.Light.Kilos, I64 r3.Light.X, I64 r3.Light.Y, I64 r3.Light.Z, LS 5 Row.av r3.Rows, LS 5 Frame.av r3.Frames, LS 6 Tank.av r3.Tanks, I64 r3.Limits.Tolerance, I64 r3.Limits.Trim, I64 r3.Limits.List_, I64 r3.Limits.Stability]) tf_size_35 rfl rfl rfl rfl rfl rfl rfl rfl) ?_ rfl rfl
 refine Jg (u := I64 v6) (Aa rfl rfl) ?_ rfl rfl rfl
 refine Jn (hK2 _ _ ?_)
 refine JC_freeze [(2, LS 6 law23_Item.av items), (9, .dptr (Ship.cs r3)), (10, I64 v6)] [] 1001 rfl rfl rfl trivial rfl (by exact ⟨.conv (.same rfl), .ptr, .conv (.same rfl), trivial⟩) ?_
 refine Js fun K7 hK7 => Jr ?_
 refine Jg (u := .agg (Ship.cs r3)) (A_loadAgg tf_agg_35 rfl rfl rfl) ?_ rfl rfl rfl
 refine Jg (u := LS 6 law23_Item.av items) (Am rfl rfl) ?_ rfl rfl rfl
 refine Jg (u := I64 v6) (Am rfl rfl) ?_ rfl rfl rfl
 obtain ⟨r8, hr8, h⟩ := bnd_out h
 refine Jg (u := .tup [LS 9 Box.av r8.1, .agg [LS 1 (LS 4 Stowed.av) r8.2.States, LS 1 (LS 1 I64) r8.2.Water]]) (A_call1 (args := [.agg (Ship.cs r3), LS 6 law23_Item.av items, I64 v6, I64 8]) rfl (M_twistlocklaw23_Voyage_w F r3 items v6 8 r8 hr8) tf_call_13 ⟨rfl, rfl, rfl, rfl, rfl, rfl, rfl, rfl, trivial⟩) ?_ rfl rfl rfl
 refine Jg (u := .tup [LS 9 Box.av r8.1, .agg [LS 1 (LS 4 Stowed.av) r8.2.States, LS 1 (LS 1 I64) r8.2.Water]]) (Am rfl rfl) ?_ rfl rfl rfl
 refine Jg (u := LS 9 Box.av r8.1) (A_extract rfl rfl rfl) ?_ rfl rfl rfl
 refine Jg (u := .agg [LS 1 (LS 4 Stowed.av) r8.2.States, LS 1 (LS 1 I64) r8.2.Water]) (A_extract rfl rfl rfl) ?_ rfl rfl rfl
 refine Jg (u := .ptr 1002 0) (A_allocJ 1002 2 tf_zsize_59 rfl rfl) ?_ rfl rfl rfl
 refine Jg (u := LS 9 Box.av r8.1) (Aa rfl rfl) ?_ rfl rfl rfl
 refine JL_go0 (u := .junk) (A_store (u := .agg [LS 1 (LS 4 Stowed.av) r8.2.States, LS 1 (LS 1 I64) r8.2.Water]) (ds := [LS 1 (LS 4 Stowed.av) r8.2.States, LS 1 (LS 1 I64) r8.2.Water]) tf_size_59 rfl rfl rfl rfl rfl rfl rfl rfl) ?_ rfl rfl
 refine Jn (hK7 _ _ ?_)
 refine JC_freeze [(9, .dptr (Ship.cs r3)), (10, I64 v6), (11, LS 9 Box.av r8.1), (12, .dptr [LS 1 (LS 4 Stowed.av) r8.2.States, LS 1 (LS 1 I64) r8.2.Water])] [] 1002 rfl rfl rfl trivial rfl (by exact ⟨.conv (.same rfl), .conv (.same rfl), .conv (.same rfl), .ptr, trivial⟩) ?_
 refine Js fun K9 hK9 => Jr ?_
 refine Jg (u := .agg (Ship.cs r3)) (A_loadAgg tf_agg_35 rfl rfl rfl) ?_ rfl rfl rfl
 refine Jg (u := LS 9 Box.av r8.1) (Am rfl rfl) ?_ rfl rfl rfl
 refine Jg (u := I64 v6) (Am rfl rfl) ?_ rfl rfl rfl
 refine Jg (u := .agg [LS 1 (LS 4 Stowed.av) r8.2.States, LS 1 (LS 1 I64) r8.2.Water]) (A_loadAgg tf_agg_59 rfl rfl rfl) ?_ rfl rfl rfl
 obtain ⟨r10, hr10, h⟩ := bnd_out h
 refine Jg (u := .tup [LS 1 (LS 1 I64) r10.1, I64 r10.2]) (A_call1 (args := [.agg (Ship.cs r3), LS 9 Box.av r8.1, I64 v6, .agg [LS 1 (LS 4 Stowed.av) r8.2.States, LS 1 (LS 1 I64) r8.2.Water]]) rfl (M_plan_Restows_w F r3 r8.1 v6 r8.2 r10 hr10) tf_call_14 ⟨rfl, rfl, rfl, rfl, rfl, rfl, rfl, rfl, trivial⟩) ?_ rfl rfl rfl
 refine Jg (u := .tup [LS 1 (LS 1 I64) r10.1, I64 r10.2]) (Am rfl rfl) ?_ rfl rfl rfl
 refine Jg (u := LS 1 (LS 1 I64) r10.1) (A_extract rfl rfl rfl) ?_ rfl rfl rfl
 refine Jg (u := I64 r10.2) (A_extract rfl rfl rfl) ?_ rfl rfl rfl
 refine Jg (u := LS 1 (LS 1 I64) r10.1) (Aa rfl rfl) ?_ rfl rfl rfl
 refine Jg (u := I64 r10.2) (Aa rfl rfl) ?_ rfl rfl rfl
 refine Jn (hK9 _ _ ?_)
 refine Js fun K11 hK11 => Jr ?_
 refine Jg (u := .agg (Ship.cs r3)) (A_loadAgg tf_agg_35 rfl rfl rfl) ?_ rfl rfl rfl
 refine Jg (u := LS 9 Box.av r8.1) (Am rfl rfl) ?_ rfl rfl rfl
 refine Jg (u := I64 v6) (Am rfl rfl) ?_ rfl rfl rfl
 refine Jg (u := .agg [LS 1 (LS 4 Stowed.av) r8.2.States, LS 1 (LS 1 I64) r8.2.Water]) (A_loadAgg tf_agg_59 rfl rfl rfl) ?_ rfl rfl rfl
 obtain ⟨r12, hr12, h⟩ := bnd_out h
 refine Jg (u := .tup [I64 r12.1, I64 r12.2]) (A_call1 (args := [.agg (Ship.cs r3), LS 9 Box.av r8.1, I64 v6, .agg [LS 1 (LS 4 Stowed.av) r8.2.States, LS 1 (LS 1 I64) r8.2.Water]]) rfl (M_plan_Count_w F r3 r8.1 v6 r8.2 r12 hr12) tf_call_15 ⟨rfl, rfl, rfl, rfl, rfl, rfl, rfl, rfl, trivial⟩) ?_ rfl rfl rfl
 refine Jg (u := .tup [I64 r12.1, I64 r12.2]) (Am rfl rfl) ?_ rfl rfl rfl
 refine Jg (u := I64 r12.1) (A_extract rfl rfl rfl) ?_ rfl rfl rfl
 refine Jg (u := I64 r12.2) (A_extract rfl rfl rfl) ?_ rfl rfl rfl
 refine Jg (u := I64 r12.1) (Aa rfl rfl) ?_ rfl rfl rfl
 refine Jg (u := I64 r12.2) (Aa rfl rfl) ?_ rfl rfl rfl
 refine Jn (hK11 _ _ ?_)
 refine Js (fun K13 hK13 => ?_)
 refine Js fun K14 hK14 => Jr ?_
 refine Jg (u := I64 r10.2) (Am rfl rfl) ?_ rfl rfl rfl
 refine Jg (u := I64 r12.2) (Am rfl rfl) ?_ rfl rfl rfl
 obtain ⟨v15, hv15, h⟩ := chk_out h
 refine Jg (u := I64 v15) (A_add hv15 rfl rfl rfl) ?_ rfl rfl rfl
 refine Jg (u := BL (decide (v15 ≠ 0))) (A_neq rfl rfl rfl) ?_ rfl rfl rfl
 refine Jg (u := BL (decide (v15 ≠ 0))) (Am rfl rfl) ?_ rfl rfl rfl
 refine JL_opt (u := LS 1 (LS 1 I64) r10.1) [] rfl rfl rfl .scf trivial (fun hc => Am rfl rfl) ?_ rfl rfl rfl
 refine JL_opt (u := I64 (r10.1.length : Int)) [(59, LS 1 (LS 1 I64) r10.1)] rfl rfl rfl .scf ⟨.all id, trivial⟩ (fun hc => A_lenM (f := (LS 1 I64)) (xs := r10.1) tf_slice_57 rfl rfl) ?_ rfl rfl rfl
 refine JL_opt (u := I64 v6) [] rfl rfl rfl .scf trivial (fun hc => Am rfl rfl) ?_ rfl rfl rfl
 refine JL_opt (u := BL (decide ((r10.1.length : Int) ≠ v6))) [(60, I64 (r10.1.length : Int)), (61, I64 v6)] rfl rfl rfl .scf ⟨.all id, .all id, trivial⟩ (fun hc => A_neq rfl rfl rfl) ?_ rfl rfl rfl
 refine Jg (u := BL ((decide (v15 ≠ 0)) || (decide ((r10.1.length : Int) ≠ v6)))) (A_or rfl rfl rfl rfl) ?_ rfl rfl rfl
 refine Jg (u := BL ((decide (v15 ≠ 0)) || (decide ((r10.1.length : Int) ≠ v6)))) (Am rfl rfl) ?_ rfl rfl rfl
 refine JL_opt (u := .dptr [LS 1 (LS 4 Stowed.av) r8.2.States, LS 1 (LS 1 I64) r8.2.Water]) [] rfl rfl rfl .scf trivial (fun hc => A_fieldM tf_field_59_0 rfl rfl rfl) ?_ rfl rfl rfl
 refine JL_opt (u := LS 1 (LS 4 Stowed.av) r8.2.States) [(65, .dptr [LS 1 (LS 4 Stowed.av) r8.2.States, LS 1 (LS 1 I64) r8.2.Water])] rfl rfl rfl .scf ⟨.all id, trivial⟩ (fun hc => A_load tf_scalar_56 rfl rfl rfl) ?_ rfl rfl rfl
 refine JL_opt (u := I64 (r8.2.States.length : Int)) [(66, LS 1 (LS 4 Stowed.av) r8.2.States)] rfl rfl rfl .scf ⟨.all id, trivial⟩ (fun hc => A_lenM (f := (LS 4 Stowed.av)) (xs := r8.2.States) tf_slice_56 rfl rfl) ?_ rfl rfl rfl
 refine JL_opt (u := I64 v6) [] rfl rfl rfl .scf trivial (fun hc => Am rfl rfl) ?_ rfl rfl rfl
 refine JL_opt (u := BL (decide ((r8.2.States.length : Int) ≠ v6))) [(67, I64 (r8.2.States.length : Int)), (68, I64 v6)] rfl rfl rfl .scf ⟨.all id, .all id, trivial⟩ (fun hc => A_neq rfl rfl rfl) ?_ rfl rfl rfl
 refine Jg (u := BL (((decide (v15 ≠ 0)) || (decide ((r10.1.length : Int) ≠ v6))) || (decide ((r8.2.States.length : Int) ≠ v6)))) (A_or rfl rfl rfl rfl) ?_ rfl rfl rfl
 refine Jn (hK14 _ _ ?_)
 refine JC_cond rfl (fun hb => ?_) (fun hb => ?_)
 ·
  replace h := bif_t hb h
  refine Js fun K16 hK16 => Jr ?_
  refine Jg (u := BL false) (Aa rfl rfl) ?_ rfl rfl rfl
  refine Jn (hK16 _ _ ?_)
  refine JC_ret ?_
  exact ⟨[BL false], [], trivial, rfl, ⟨⟨_, rfl, .conv (.same rfl)⟩, trivial⟩, rfl, congrArg (fun r : Bool => (BL r : AV)) (Option.some.inj h)⟩
 ·
  replace h := bif_f hb h
  refine JC_skip ?_
  refine hK13 _ _ ?_
  refine Js fun K17 hK17 => Jr ?_
  refine Jg (u := .mp 1004) (A_makeMapM 1004 (fun n : Int => Value.int .i64 n) I64 rfl rfl) ?_ rfl rfl rfl
  refine Jg (u := .mp 1004) (Aa rfl rfl) ?_ rfl rfl rfl
  refine Jn (hK17 _ _ ?_)
  refine Js (fun K18 hK18 => ?_)
  refine Js fun K19 hK19 => Jr ?_
  refine Jg (u := LS 1 (LS 1 I64) r10.1) (Am rfl rfl) ?_ rfl rfl rfl
  refine JL_lenM (f := (LS 1 I64)) (xs := r10.1) tf_slice_57 rfl rfl (fun hm73 => ?_) rfl rfl rfl
  refine Jg (u := I64 0) (Am rfl rfl) ?_ rfl rfl rfl
  refine Jn (hK19 _ _ ?_)
  refine JC_block ?_
  obtain ⟨b20, kx20, hb20, hkx20, h⟩ := each_in h
  refine JC_loop2 (fun i20 (s20 : Int × (AMap Int Int)) => each b20 kx20 (List.drop i20 r10.1) i20 s20 = some r) (fun i20 s20 => [(11, LS 9 Box.av r8.1), (12, .dptr [LS 1 (LS 4 Stowed.av) r8.2.States, LS 1 (LS 1 I64) r8.2.Water]), (15, I64 s20.1), (17, .mp 1004), (72, LS 1 (LS 1 I64) r10.1), (73, I64 (r10.1.length : Int)), (74, I64 (i20 : Int))]) (fun i20 s20 => [(1004, MP 66 (fun n : Int => Value.int .i64 n) I64 s20.2)]) (fun i20 => r10.1.length - i20) 0 (r12.1, (AMap.empty : AMap Int Int)) h ⟨⟨.same rfl, .same rfl, .same rfl, .same rfl, .same rfl, .same rfl, .same rfl, trivial⟩, ⟨⟨_, rfl, .map⟩, trivial⟩, rfl⟩ ?_
  clear h
  intro i20 s20 hi20 K20 e20
  refine Js fun K21 hK21 => Jr ?_
  refine Jg (u := BL (decide ((i20 : Int) < (r10.1.length : Int)))) (A_lss rfl rfl rfl) ?_ rfl rfl rfl
  refine Jn (hK21 _ _ ?_)
  refine Js (fun K22 hK22 => ?_)
  refine JC_cond rfl (fun hb => ?_) (fun hb => ?_)
  ·
   have hk20 := lt_len hb
   obtain ⟨y20, nx20, hy20, hn20, h⟩ := each_out hi20 hk20
   replace h := app4 hb20 h
   refine JC_skip ?_
   refine hK22 _ _ ?_
   refine Js (fun K23 hK23 => ?_)
   refine JC_block ?_
   refine Js fun K24 hK24 => Jr ?_
   refine Jg (u := I64 (i20 : Int)) (Am rfl rfl) ?_ rfl rfl rfl
   refine Jg (u := .dptr [LS 1 I64 y20]) (A_indexM (f := (LS 1 I64)) (xs := r10.1) (y := y20) rfl rfl rfl tf_slice_57 hy20 rfl) ?_ rfl rfl rfl
   refine Jg (u := LS 1 I64 y20) (A_load tf_scalar_43 rfl rfl rfl) ?_ rfl rfl rfl
   refine Jg (u := I64 (i20 : Int)) (Aa rfl rfl) ?_ rfl rfl rfl
   refine Jg (u := LS 1 I64 y20) (Aa rfl rfl) ?_ rfl rfl rfl
   refine Jn (hK24 _ _ ?_)
   refine Js (fun K25 hK25 => ?_)
   refine Js (fun K26 hK26 => ?_)
   refine JC_fits (l' := [(11, LS 9 Box.av r8.1), (12, .dptr [LS 1 (LS 4 Stowed.av) r8.2.States, LS 1 (LS 1 I64) r8.2.Water]), (15, I64 s20.1), (17, .mp 1004), (18, I64 (i20 : Int)), (19, LS 1 I64 y20), (72, LS 1 (LS 1 I64) r10.1), (73, I64 (r10.1.length : Int)), (74, I64 (i20 : Int))]) (L' := [(1004, MP 66 (fun n : Int => Value.int .i64 n) I64 s20.2)]) ⟨⟨.same rfl, .same rfl, .same rfl, .same rfl, .same rfl, .same rfl, .same rfl, .same rfl, .same rfl, trivial⟩, ⟨⟨_, rfl, .map⟩, trivial⟩, rfl⟩ ?_
   obtain ⟨v27, hv27, h⟩ := bnd_out h
   obtain ⟨y28, hy28, h⟩ := bnd_out h
   obtain ⟨y29, hy29, h⟩ := bnd_out h
   obtain ⟨r30, hr30, h⟩ := bnd_out h
   refine JC_draw [] [0, 0, 0, 0, 0, 0, 0, 0, 0, 0, 0, 0, 0, 0, 0, 0, 0, 0, 0, 0, 0, 0, 0, 0, 0, 0, 0, 0, 0, 0] [0, 0, 0, 0, 0, 0, 0, 0, 0, 0, 0, 0, 0, 0, 0, 0, 0, 0, 0, 0, 0, 0, 0, 0, 0, 0, 0, 0, 0, 0] [[(1004, MP 66 (fun n : Int => Value.int .i64 n) I64 s20.2)]] tf_mixed (by kernel_rfl) rfl rfl ?_
   refine D_ro (u := I64 (i20 : Int)) rfl rfl ⟨O_go (Am rfl rfl) rfl, trivial⟩ ?_ rfl
   refine D_ro (u := BL (decide (0 < (i20 : Int)))) rfl rfl ⟨O_go (A_gtr rfl rfl rfl) rfl, trivial⟩ ?_ rfl
   refine D_ro (u := BL (decide (0 < (i20 : Int)))) rfl rfl ⟨O_go (Am rfl rfl) rfl, trivial⟩ ?_ rfl
   refine D_ro (u := .opt (decide (0 < (i20 : Int))) (.dptr [LS 1 (LS 4 Stowed.av) r8.2.States, LS 1 (LS 1 I64) r8.2.Water])) rfl rfl ⟨O_opt [] rfl rfl rfl .sct trivial (fun hc => A_fieldM tf_field_59_0 rfl rfl rfl) rfl, trivial⟩ ?_ rfl
   refine D_ro (u := .opt (decide (0 < (i20 : Int))) (LS 1 (LS 4 Stowed.av) r8.2.States)) rfl rfl ⟨O_opt [(82, .dptr [LS 1 (LS 4 Stowed.av) r8.2.States, LS 1 (LS 1 I64) r8.2.Water])] rfl rfl rfl .sct ⟨.all id, trivial⟩ (fun hc => A_load tf_scalar_56 rfl rfl rfl) rfl, trivial⟩ ?_ rfl
   refine D_ro (u := .opt (decide (0 < (i20 : Int))) (I64 (i20 : Int))) rfl rfl ⟨O_opt [] rfl rfl rfl .sct trivial (fun hc => Am rfl rfl) rfl, trivial⟩ ?_ rfl
   refine D_ro (u := .opt (decide (0 < (i20 : Int))) (I64 v27)) rfl rfl ⟨O_opt [(84, I64 (i20 : Int))] rfl rfl rfl .sct ⟨.all id, trivial⟩ (fun hc => A_sub (chk_some (bif_t hc hv27)) rfl rfl rfl) rfl, trivial⟩ ?_ rfl
   refine D_ro (u := .opt (decide (0 < (i20 : Int))) (.dptr [LS 4 Stowed.av y28])) rfl rfl ⟨O_opt [(83, LS 1 (LS 4 Stowed.av) r8.2.States), (85, I64 v27)] rfl rfl rfl .sct ⟨.all id, .all id, trivial⟩ (fun hc => (match gidx_some (bif_t hc hy28) with | ⟨_, hm_, hy_⟩ => A_indexM (f := (LS 4 Stowed.av)) (xs := r8.2.States) (y := y28) rfl rfl rfl tf_slice_56 hy_ hm_)) rfl, trivial⟩ ?_ rfl
   refine D_ro (u := .opt (decide (0 < (i20 : Int))) (LS 4 Stowed.av y28)) rfl rfl ⟨O_opt [(86, .dptr [LS 4 Stowed.av y28])] rfl rfl rfl .sct ⟨.all id, trivial⟩ (fun hc => A_load tf_scalar_40 rfl rfl rfl) rfl, trivial⟩ ?_ rfl
   refine D_ro (u := .opt (decide (0 < (i20 : Int))) (.dptr [LS 1 (LS 4 Stowed.av) r8.2.States, LS 1 (LS 1 I64) r8.2.Water])) rfl rfl ⟨O_opt [] rfl rfl rfl .sct trivial (fun hc => A_fieldM tf_field_59_0 rfl rfl rfl) rfl, trivial⟩ ?_ rfl
   refine D_ro (u := .opt (decide (0 < (i20 : Int))) (LS 1 (LS 4 Stowed.av) r8.2.States)) rfl rfl ⟨O_opt [(88, .dptr [LS 1 (LS 4 Stowed.av) r8.2.States, LS 1 (LS 1 I64) r8.2.Water])] rfl rfl rfl .sct ⟨.all id, trivial⟩ (fun hc => A_load tf_scalar_56 rfl rfl rfl) rfl, trivial⟩ ?_ rfl
   refine D_ro (u := .opt (decide (0 < (i20 : Int))) (I64 (i20 : Int))) rfl rfl ⟨O_opt [] rfl rfl rfl .sct trivial (fun hc => Am rfl rfl) rfl, trivial⟩ ?_ rfl
   refine D_ro (u := .opt (decide (0 < (i20 : Int))) (.dptr [LS 4 Stowed.av y29])) rfl rfl ⟨O_opt [(89, LS 1 (LS 4 Stowed.av) r8.2.States), (90, I64 (i20 : Int))] rfl rfl rfl .sct ⟨.all id, .all id, trivial⟩ (fun hc => (match gidx_some (bif_t hc hy29) with | ⟨_, hm_, hy_⟩ => A_indexM (f := (LS 4 Stowed.av)) (xs := r8.2.States) (y := y29) rfl rfl rfl tf_slice_56 hy_ hm_)) rfl, trivial⟩ ?_ rfl
   refine D_ro (u := .opt (decide (0 < (i20 : Int))) (LS 4 Stowed.av y29)) rfl rfl ⟨O_opt [(91, .dptr [LS 4 Stowed.av y29])] rfl rfl rfl .sct ⟨.all id, trivial⟩ (fun hc => A_load tf_scalar_40 rfl rfl rfl) rfl, trivial⟩ ?_ rfl
   refine D_ro (u := .opt (decide (0 < (i20 : Int))) (BL r30)) rfl rfl ⟨O_opt [(87, LS 4 Stowed.av y28), (92, LS 4 Stowed.av y29)] rfl rfl rfl .sct ⟨.all id, .all id, trivial⟩ (fun hc => A_call1 (args := [LS 4 Stowed.av y28, LS 4 Stowed.av y29]) rfl (M_twistlockkit_SameStoweds_w y28 y29 r30 (bif_t hc hr30)) tf_call_16 ⟨rfl, rfl, rfl, rfl, trivial⟩) rfl, trivial⟩ ?_ rfl
   refine D_ro (u := BL ((decide (0 < (i20 : Int))) && r30)) rfl rfl ⟨O_go (A_and rfl rfl rfl rfl) rfl, trivial⟩ ?_ rfl
   refine D_ro (u := BL ((decide (0 < (i20 : Int))) && r30)) rfl rfl ⟨O_go (Am rfl rfl) rfl, trivial⟩ ?_ rfl
   refine D_ro (u := .opt ((decide (0 < (i20 : Int))) && r30) (LS 1 I64 y20)) rfl rfl ⟨O_opt [] rfl rfl rfl .sct trivial (fun hc => Am rfl rfl) rfl, trivial⟩ ?_ rfl
   refine D_ro (u := .opt ((decide (0 < (i20 : Int))) && r30) (I64 (y20.length : Int))) rfl rfl ⟨O_opt [(96, LS 1 I64 y20)] rfl rfl rfl .sct ⟨.all id, trivial⟩ (fun hc => A_lenM (f := I64) (xs := y20) tf_slice_43 rfl rfl) rfl, trivial⟩ ?_ rfl
   refine D_ro (u := .opt ((decide (0 < (i20 : Int))) && r30) (BL (decide (0 < (y20.length : Int))))) rfl rfl ⟨O_opt [(97, I64 (y20.length : Int))] rfl rfl rfl .sct ⟨.all id, trivial⟩ (fun hc => A_gtr rfl rfl rfl) rfl, trivial⟩ ?_ rfl
   refine D_ro (u := BL (((decide (0 < (i20 : Int))) && r30) && (decide (0 < (y20.length : Int))))) rfl rfl ⟨O_go (A_and rfl rfl rfl rfl) rfl, trivial⟩ ?_ rfl
   refine D_ro (u := BL (((decide (0 < (i20 : Int))) && r30) && (decide (0 < (y20.length : Int))))) rfl rfl ⟨O_go (Am rfl rfl) rfl, trivial⟩ ?_ rfl
   refine D_ro (u := .opt (!(((decide (0 < (i20 : Int))) && r30) && (decide (0 < (y20.length : Int))))) (I64 (i20 : Int))) rfl rfl ⟨O_opt [] rfl rfl rfl .scf trivial (fun hc => Am rfl rfl) rfl, trivial⟩ ?_ rfl
   refine D_ro (u := .opt (!(((decide (0 < (i20 : Int))) && r30) && (decide (0 < (y20.length : Int))))) (BL (decide ((i20 : Int) = 0)))) rfl rfl ⟨O_opt [(101, I64 (i20 : Int))] rfl rfl rfl .scf ⟨.all id, trivial⟩ (fun hc => A_eql rfl rfl rfl) rfl, trivial⟩ ?_ rfl
   refine D_ro (u := .opt (!(((decide (0 < (i20 : Int))) && r30) && (decide (0 < (y20.length : Int))))) (BL (decide ((i20 : Int) = 0)))) rfl rfl ⟨O_opt [(102, BL (decide ((i20 : Int) = 0)))] rfl rfl rfl .scf ⟨.all id, trivial⟩ (fun hc => Am rfl rfl) rfl, trivial⟩ ?_ rfl
   refine D_ro (u := .opt ((!(((decide (0 < (i20 : Int))) && r30) && (decide (0 < (y20.length : Int))))) && (decide ((i20 : Int) = 0))) (LS 1 I64 y20)) rfl rfl ⟨O_opt [] rfl rfl rfl .optt trivial (fun hc => Am rfl rfl) rfl, trivial⟩ ?_ rfl
   refine D_ro (u := .opt ((!(((decide (0 < (i20 : Int))) && r30) && (decide (0 < (y20.length : Int))))) && (decide ((i20 : Int) = 0))) (I64 (y20.length : Int))) rfl rfl ⟨O_opt [(104, LS 1 I64 y20)] rfl rfl rfl .optt ⟨.all id, trivial⟩ (fun hc => A_lenM (f := I64) (xs := y20) tf_slice_43 rfl rfl) rfl, trivial⟩ ?_ rfl
   refine D_ro (u := .opt ((!(((decide (0 < (i20 : Int))) && r30) && (decide (0 < (y20.length : Int))))) && (decide ((i20 : Int) = 0))) (BL (decide (0 < (y20.length : Int))))) rfl rfl ⟨O_opt [(105, I64 (y20.length : Int))] rfl rfl rfl .optt ⟨.all id, trivial⟩ (fun hc => A_gtr rfl rfl rfl) rfl, trivial⟩ ?_ rfl
   refine D_ro (u := .opt (!(((decide (0 < (i20 : Int))) && r30) && (decide (0 < (y20.length : Int))))) (BL ((decide ((i20 : Int) = 0)) && (decide (0 < (y20.length : Int)))))) rfl rfl ⟨O_opt [(103, BL (decide ((i20 : Int) = 0))), (106, _)] rfl rfl rfl .scf ⟨.all id, .part, trivial⟩ (fun hc => A_and rfl rfl rfl rfl) rfl, trivial⟩ ?_ rfl
   refine D_ro (u := BL ((((decide (0 < (i20 : Int))) && r30) && (decide (0 < (y20.length : Int)))) || ((decide ((i20 : Int) = 0)) && (decide (0 < (y20.length : Int)))))) rfl rfl ⟨O_go (A_or rfl rfl rfl rfl) rfl, trivial⟩ ?_ rfl
   refine D_nil ?_
   refine hK26 _ _ ?_
   refine JC_cond rfl (fun hb => ?_) (fun hb => ?_)
   ·
    replace h := bif_t hb h
    refine Js fun K31 hK31 => Jr ?_
    refine Jg (u := BL false) (Aa rfl rfl) ?_ rfl rfl rfl
    refine Jn (hK31 _ _ ?_)
    refine JC_ret ?_
    exact ⟨[BL false], [], trivial, rfl, ⟨⟨_, rfl, .conv (.same rfl)⟩, trivial⟩, rfl, congrArg (fun r : Bool => (BL r : AV)) (Option.some.inj h)⟩
   ·
    replace h := bif_f hb h
    refine JC_skip ?_
    refine hK25 _ _ ?_
    refine Js fun K32 hK32 => Jr ?_
    refine Jg (u := I64 s20.1) (Am rfl rfl) ?_ rfl rfl rfl
    refine Jg (u := LS 1 I64 y20) (Am rfl rfl) ?_ rfl rfl rfl
    refine JL_lenM (f := I64) (xs := y20) tf_slice_43 rfl rfl (fun hm111 => ?_) rfl rfl rfl
    obtain ⟨v33, hv33, h⟩ := chk_out h
    refine Jg (u := I64 v33) (A_sub hv33 rfl rfl rfl) ?_ rfl rfl rfl
    refine Jg (u := I64 v33) (Aa rfl rfl) ?_ rfl rfl rfl
    refine Jn (hK32 _ _ ?_)
    refine Js fun K34 hK34 => Jr ?_
    refine Jg (u := LS 1 I64 y20) (Am rfl rfl) ?_ rfl rfl rfl
    refine JL_lenM (f := I64) (xs := y20) tf_slice_43 rfl rfl (fun hm114 => ?_) rfl rfl rfl
    refine Jg (u := I64 0) (Am rfl rfl) ?_ rfl rfl rfl
    refine Jn (hK34 _ _ ?_)
    refine JC_block ?_
    obtain ⟨b63, kx63, hb63, hkx63, h⟩ := each_in h
    refine JC_loop2 (fun i63 (s63 : (AMap Int Int)) => each b63 kx63 (List.drop i63 y20) i63 s63 = some r) (fun i63 s63 => [(11, LS 9 Box.av r8.1), (12, .dptr [LS 1 (LS 4 Stowed.av) r8.2.States, LS 1 (LS 1 I64) r8.2.Water]), (15, I64 v33), (17, .mp 1004), (72, LS 1 (LS 1 I64) r10.1), (73, I64 (r10.1.length : Int)), (74, I64 (i20 : Int)), (113, LS 1 I64 y20), (114, I64 (y20.length : Int)), (115, I64 (i63 : Int))]) (fun i63 s63 => [(1004, MP 66 (fun n : Int => Value.int .i64 n) I64 s63)]) (fun i63 => y20.length - i63) 0 s20.2 h ⟨⟨.same rfl, .same rfl, .same rfl, .same rfl, .same rfl, .same rfl, .same rfl, .same rfl, .same rfl, .same rfl, trivial⟩, ⟨⟨_, rfl, .map⟩, trivial⟩, rfl⟩ ?_
    clear h
    intro i63 s63 hi63 K63 e63
    refine Js fun K64 hK64 => Jr ?_
    refine Jg (u := BL (decide ((i63 : Int) < (y20.length : Int)))) (A_lss rfl rfl rfl) ?_ rfl rfl rfl
    refine Jn (hK64 _ _ ?_)
    refine Js (fun K65 hK65 => ?_)
    refine JC_cond rfl (fun hb => ?_) (fun hb => ?_)
    ·
     have hk63 := lt_len hb
     obtain ⟨y63, nx63, hy63, hn63, h⟩ := each_out hi63 hk63
     replace h := app4 hb63 h
     refine JC_skip ?_
     refine hK65 _ _ ?_
     refine Js (fun K66 hK66 => ?_)
     refine JC_block ?_
     refine Js fun K67 hK67 => Jr ?_
     refine Jg (u := .dptr [I64 y63]) (A_indexM (f := I64) (xs := y20) (y := y63) rfl rfl rfl tf_slice_43 hy63 rfl) ?_ rfl rfl rfl
     refine Jg (u := I64 y63) (A_load tf_scalar_3 rfl rfl rfl) ?_ rfl rfl rfl
     refine Jg (u := I64 y63) (Aa rfl rfl) ?_ rfl rfl rfl
     refine Jn (hK67 _ _ ?_)
     refine Jr ?_
     refine Jg (u := .mp 1004) (Am rfl rfl) ?_ rfl rfl rfl
     refine Jg (u := I64 y63) (Am rfl rfl) ?_ rfl rfl rfl
     obtain ⟨v68, hv68, h⟩ := bnd_out h
     refine Jg (u := I64 v68) (((Option.some.inj hv68) ▸ A_lookupM0 (av := I64) (m := s63) (a := y63) 0 (.int .i64 0) rfl rfl rfl rfl tk_3 tf_map_66 tf_zv_3 rfl)) ?_ rfl rfl rfl
     obtain ⟨v69, hv69, h⟩ := chk_out h
     refine Jg (u := I64 v69) (A_add hv69 rfl rfl rfl) ?_ rfl rfl rfl
     refine JL_go0 (u := .junk) (A_mapUpdateM (m := s63) (a := y63) (v := v69) rfl rfl rfl rfl rfl rfl tk_3 tf_map_66) ?_ rfl rfl
     refine Jn (hK66 _ _ ?_)
     refine Jr ?_
     refine Jg (u := I64 ((i63 + 1 : Nat) : Int)) (A_add (idx_succ hk63 hm114) rfl rfl rfl) ?_ rfl rfl rfl
     refine Jg (u := I64 ((i63 + 1 : Nat) : Int)) (Am rfl rfl) ?_ rfl rfl rfl
     refine Jn ?_
     exact e63 _ _ (i63 + 1) (AMap.put s63 y63 v69) (app1 hn63 h) (by omega) ⟨⟨.same rfl, .same rfl, .same rfl, .same rfl, .same rfl, .same rfl, .same rfl, .same rfl, .same rfl, .same rfl, trivial⟩, ⟨⟨_, rfl, .map⟩, trivial⟩, rfl⟩
    ·
     have h := app1 hkx63 (each_nil hi63 (not_lt_len hb))
     refine JC_exit ?_
     refine hK23 _ _ ?_
     refine Jr ?_
     refine Jg (u := I64 ((i20 + 1 : Nat) : Int)) (A_add (idx_succ hk20 hm73) rfl rfl rfl) ?_ rfl rfl rfl
     refine Jg (u := I64 ((i20 + 1 : Nat) : Int)) (Am rfl rfl) ?_ rfl rfl rfl
     refine Jn ?_
     exact e20 _ _ (i20 + 1) (v33, s63) (app1 hn20 h) (by omega) ⟨⟨.same rfl, .same rfl, .same rfl, .same rfl, .same rfl, .same rfl, .same rfl, trivial⟩, ⟨⟨_, rfl, .map⟩, trivial⟩, rfl⟩
  ·
   have h := app1 hkx20 (each_nil hi20 (not_lt_len hb))
   refine JC_exit ?_
   refine hK18 _ _ ?_
   refine Js (fun K70 hK70 => ?_)
   refine Js fun K71 hK71 => Jr ?_
   refine Jg (u := LS 9 Box.av r8.1) (Am rfl rfl) ?_ rfl rfl rfl
   refine JL_lenM (f := Box.av) (xs := r8.1) tf_slice_39 rfl rfl (fun hm126 => ?_) rfl rfl rfl
   refine Jg (u := I64 0) (Am rfl rfl) ?_ rfl rfl rfl
   refine Jn (hK71 _ _ ?_)
   refine JC_block ?_
   obtain ⟨b92, kx92, hb92, hkx92, h⟩ := each_in h
   refine JC_loop2 (fun i92 (s92 : Unit) => each b92 kx92 (List.drop i92 r8.1) i92 s92 = some r) (fun i92 s92 => [(15, I64 s20.1), (17, .mp 1004), (125, LS 9 Box.av r8.1), (126, I64 (r8.1.length : Int)), (127, I64 (i92 : Int))]) (fun i92 s92 => [(1004, MP 66 (fun n : Int => Value.int .i64 n) I64 s20.2)]) (fun i92 => r8.1.length - i92) 0 () h ⟨⟨.same rfl, .same rfl, .same rfl, .same rfl, .same rfl, trivial⟩, ⟨⟨_, rfl, .map⟩, trivial⟩, rfl⟩ ?_
   clear h
   intro i92 s92 hi92 K92 e92
   refine Js fun K93 hK93 => Jr ?_
   refine Jg (u := BL (decide ((i92 : Int) < (r8.1.length : Int)))) (A_lss rfl rfl rfl) ?_ rfl rfl rfl
   refine Jn (hK93 _ _ ?_)
   refine Js (fun K94 hK94 => ?_)
   refine JC_cond rfl (fun hb => ?_) (fun hb => ?_)
   ·
    have hk92 := lt_len hb
    obtain ⟨y92, nx92, hy92, hn92, h⟩ := each_out hi92 hk92
    replace h := app4 hb92 h
    refine JC_skip ?_
    refine hK94 _ _ ?_
    refine Js (fun K95 hK95 => ?_)
    refine JC_block ?_
    refine Js fun K96 hK96 => Jr ?_
    refine Jg (u := .dptr (Box.cs y92)) (A_indexM (f := Box.av) (xs := r8.1) (y := y92) rfl rfl rfl tf_slice_39 hy92 rfl) ?_ rfl rfl rfl
    refine Jg (u := .agg (Box.cs y92)) (A_loadAgg tf_agg_50 rfl rfl rfl) ?_ rfl rfl rfl
    refine Jg (u := .ptr 1003 0) (A_allocJ 1003 9 tf_zsize_50 rfl rfl) ?_ rfl rfl rfl
    refine JL_go0 (u := .junk) (A_store (u := .agg (Box.cs y92)) (ds := [I64 y92.ID, ST y92.Number, U8 y92.Size, BL y92.High, I64 y92.Kilos, I64 y92.Load, I64 y92.Discharge, U8 y92.Class, BL y92.Reefer]) tf_size_50 rfl rfl rfl rfl rfl rfl rfl rfl) ?_ rfl rfl
    refine Jn (hK96 _ _ ?_)
    refine JC_freeze [(15, I64 s20.1), (17, .mp 1004), (23, .dptr (Box.cs y92)), (125, LS 9 Box.av r8.1), (126, I64 (r8.1.length : Int)), (127, I64 (i92 : Int))] [(1004, MP 66 (fun n : Int => Value.int .i64 n) I64 s20.2)] 1003 rfl rfl rfl ⟨⟨_, rfl, .map⟩, trivial⟩ rfl (by exact ⟨.conv (.same rfl), .conv (.same rfl), .ptr, .conv (.same rfl), .conv (.same rfl), .conv (.same rfl), trivial⟩) ?_
    refine Js fun K97 hK97 => Jr ?_
    refine Jg (u := .mp 1004) (Am rfl rfl) ?_ rfl rfl rfl
    refine Jg (u := .dptr (Box.cs y92)) (A_fieldM tf_field_50_0 rfl rfl rfl) ?_ rfl rfl rfl
    refine Jg (u := I64 y92.ID) (A_load tf_scalar_3 rfl rfl rfl) ?_ rfl rfl rfl
    obtain ⟨v98, hv98, h⟩ := bnd_out h
    refine Jg (u := I64 v98) (((Option.some.inj hv98) ▸ A_lookupM0 (av := I64) (m := s20.2) (a := y92.ID) 0 (.int .i64 0) rfl rfl rfl rfl tk_3 tf_map_66 tf_zv_3 rfl)) ?_ rfl rfl rfl
    refine Jg (u := .dptr ((Box.cs y92).drop 6)) (A_fieldM tf_field_50_6 rfl rfl rfl) ?_ rfl rfl rfl
    refine Jg (u := I64 y92.Discharge) (A_load tf_scalar_3 rfl rfl rfl) ?_ rfl rfl rfl
    refine Jg (u := .dptr ((Box.cs y92).drop 5)) (A_fieldM tf_field_50_5 rfl rfl rfl) ?_ rfl rfl rfl
    refine Jg (u := I64 y92.Load) (A_load tf_scalar_3 rfl rfl rfl) ?_ rfl rfl rfl
    obtain ⟨v99, hv99, h⟩ := chk_out h
    refine Jg (u := I64 v99) (A_sub hv99 rfl rfl rfl) ?_ rfl rfl rfl
    obtain ⟨v100, hv100, h⟩ := chk_out h
    refine Jg (u := I64 v100) (A_sub hv100 rfl rfl rfl) ?_ rfl rfl rfl
    refine Jg (u := BL (decide (v100 < v98))) (A_gtr rfl rfl rfl) ?_ rfl rfl rfl
    refine Jn (hK97 _ _ ?_)
    refine JC_cond rfl (fun hb => ?_) (fun hb => ?_)
    ·
     replace h := bif_t hb h
     refine Js fun K101 hK101 => Jr ?_
     refine Jg (u := BL false) (Aa rfl rfl) ?_ rfl rfl rfl
     refine Jn (hK101 _ _ ?_)
     refine JC_ret ?_
     exact ⟨[BL false], [], trivial, rfl, ⟨⟨_, rfl, .conv (.same rfl)⟩, trivial⟩, rfl, congrArg (fun r : Bool => (BL r : AV)) (Option.some.inj h)⟩
    ·
     replace h := bif_f hb h
     refine JC_skip ?_
     refine hK95 _ _ ?_
     refine Jr ?_
     refine Jg (u := I64 ((i92 + 1 : Nat) : Int)) (A_add (idx_succ hk92 hm126) rfl rfl rfl) ?_ rfl rfl rfl
     refine Jg (u := I64 ((i92 + 1 : Nat) : Int)) (Am rfl rfl) ?_ rfl rfl rfl
     refine Jn ?_
     exact e92 _ _ (i92 + 1) () (app1 hn92 h) (by omega) ⟨⟨.same rfl, .same rfl, .same rfl, .same rfl, .same rfl, trivial⟩, ⟨⟨_, rfl, .map⟩, trivial⟩, rfl⟩
   ·
    have h := app1 hkx92 (each_nil hi92 (not_lt_len hb))
    refine JC_exit ?_
    refine hK70 _ _ ?_
    refine Js fun K102 hK102 => Jr ?_
    refine Jg (u := I64 s20.1) (Am rfl rfl) ?_ rfl rfl rfl
    refine Jg (u := BL (decide (s20.1 = 0))) (A_eql rfl rfl rfl) ?_ rfl rfl rfl
    refine Jg (u := BL (decide (s20.1 = 0))) (Am rfl rfl) ?_ rfl rfl rfl
    obtain ⟨r103, hr103, h⟩ := bnd_out h
    refine JL_opt (u := BL r103) [] rfl rfl rfl .sct trivial (fun hc => A_call1 (args := []) rfl (M_twistlocklaw23_awake_w F r103 (bif_t hc hr103)) tf_call_12 trivial) ?_ rfl rfl rfl
    refine Jg (u := BL ((decide (s20.1 = 0)) && r103)) (A_and rfl rfl rfl rfl) ?_ rfl rfl rfl
    refine Jg (u := BL ((decide (s20.1 = 0)) && r103)) (Aa rfl rfl) ?_ rfl rfl rfl
    refine Jn (hK102 _ _ ?_)
    refine JC_ret ?_
    exact ⟨[BL ((decide (s20.1 = 0)) && r103)], [], trivial, rfl, ⟨⟨_, rfl, .conv (.same rfl)⟩, trivial⟩, rfl, congrArg (fun r : Bool => (BL r : AV)) (Option.some.inj h)⟩
end
end Go.Proofs.Ytbpgdkibmejibaa
