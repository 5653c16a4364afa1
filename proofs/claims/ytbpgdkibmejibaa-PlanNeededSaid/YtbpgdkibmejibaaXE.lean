/-
 Models of functions of the program, and that they return what the models say.
-/
import Derived.Test.YtbpgdkibmejibaaProg
import Derived.Test.YtbpgdkibmejibaaSortM
import Derived.Test.YtbpgdkibmejibaaSortLay
import Derived.Test.YtbpgdkibmejibaaRel
import Derived.Test.YtbpgdkibmejibaaLit0
import Derived.Test.YtbpgdkibmejibaaXA
import Derived.Test.YtbpgdkibmejibaaSpecA
import Derived.Test.YtbpgdkibmejibaaSpecI
import Derived.Test.YtbpgdkibmejibaaXDa
import Derived.Test.YtbpgdkibmejibaaXDb
import Derived.Test.YtbpgdkibmejibaaXDc
import Derived.Test.YtbpgdkibmejibaaXD
set_option maxRecDepth 100000
set_option linter.unusedVariables false
set_option linter.unusedSimpArgs false
namespace Go.Proofs.Ytbpgdkibmejibaa
open Go.RowKit
noncomputable section
structure law09_Drop where
 Column : Int
 Kilos : Int
 Small : Bool
 High : Bool
 deriving DecidableEq, Inhabited
def law09_Drop.cs (x : law09_Drop) : List AV := [U8 x.Column, U8 x.Kilos, BL x.Small, BL x.High]
def law09_Drop.av (x : law09_Drop) : AV := .agg x.cs
namespace XEF
open XAF
open XDF
theorem tf_agg_38 : aggB Try.prog 38 4 = true := by kernel_rfl
theorem tf_call_10 : callB Try.prog 10 = true := by kernel_rfl
theorem tf_call_21 : callB Try.prog 21 = true := by kernel_rfl
theorem tf_call_6 : callB Try.prog 6 = true := by kernel_rfl
theorem tf_call_9 : callB Try.prog 9 = true := by kernel_rfl
theorem tf_elem_38 : elemB Try.prog 38 4 4 = true := by kernel_rfl
theorem tf_field_38_0 : fieldB Try.prog 38 0 0 = true := by kernel_rfl
theorem tf_field_38_1 : fieldB Try.prog 38 1 1 = true := by kernel_rfl
theorem tf_field_38_2 : fieldB Try.prog 38 2 2 = true := by kernel_rfl
theorem tf_field_38_3 : fieldB Try.prog 38 3 3 = true := by kernel_rfl
theorem tf_size_38 : sizeB Try.prog 38 4 = true := by kernel_rfl
theorem tf_slice_24 : sliceB Try.prog 24 38 4 = true := by kernel_rfl
theorem tf_zsize_38 : zsizeB Try.prog 38 4 = true := by kernel_rfl
end XEF
open XAF
open XDF
open XEF

def M_twistlocklaw09_Loaded (s : Ship) (l : List law09_Drop) (most : Int) : Option ((List Box) × (List Stowed)) :=
 bnd (natIn (min (l.length : Int) most) l.length) fun m6 =>
 each (fun y7 i7 (s7 : (List Box) × (List Stowed)) nx7 =>
  jp (fun kj10 =>
   chk (5 * ((i7 + 1 : Nat) : Int)) fun v13 =>
   chk (y7.Kilos) fun v14 =>
   chk (100 * v14) fun v15 =>
   chk (1000 + v15) fun v16 =>
   jp (fun kj17 =>
    bif y7.Small then
    (kj17 (20, false))
    else
    (kj17 (40, y7.High))) fun (j17 : Int × Bool) =>
   need (decide ((s7.1.length + [(Box.mk v13 ByteArray.empty j17.1 j17.2 v16 0 1 0 false)].length) * 64 ≤ 140737488355328 ∧ s7.1.length + [(Box.mk v13 ByteArray.empty j17.1 j17.2 v16 0 1 0 false)].length ≤ maxLen)) <|
   bnd (M_slot_All s j17.1) fun r22 =>
   each (fun y49 i49 (s49 : (List Stowed)) nx49 =>
    need (decide ((([] : List Stowed).length + s49.length) * 32 ≤ 140737488355328 ∧ ([] : List Stowed).length + s49.length ≤ maxLen)) <|
    need (decide (((([] : List Stowed) ++ s49).length + [(Stowed.mk v13 y49)].length) * 32 ≤ 140737488355328 ∧ (([] : List Stowed) ++ s49).length + [(Stowed.mk v13 y49)].length ≤ maxLen)) <|
    chk (y7.Column) fun v58 =>
    bnd (rem64 v58 (s.Columns.length : Int)) fun v59 =>
    bnd (bif decide (y49.Column = v59) then M_stow_Right s (s7.1 ++ [(Box.mk v13 ByteArray.empty j17.1 j17.2 v16 0 1 0 false)]) ((([] : List Stowed) ++ s49) ++ [(Stowed.mk v13 y49)]) else some default) fun r60 =>
    bif ((decide (y49.Column = v59)) && r60) then
    (kj10 ((s7.1 ++ [(Box.mk v13 ByteArray.empty j17.1 j17.2 v16 0 1 0 false)]), ((([] : List Stowed) ++ s49) ++ [(Stowed.mk v13 y49)])))
    else
    (nx49 s49))
   (fun (s49 : (List Stowed)) =>
    kj10 ((s7.1 ++ [(Box.mk v13 ByteArray.empty j17.1 j17.2 v16 0 1 0 false)]), s49)) r22 0 s7.2) fun (j10 : (List Box) × (List Stowed)) =>
  nx7 (j10.1, j10.2))
 (fun (s7 : (List Box) × (List Stowed)) =>
  some (s7.1, s7.2)) (l.take m6) 0 ([], [])
theorem M_twistlocklaw09_Loaded_w (s : Ship) (l : List law09_Drop) (most : Int) (r : (List Box) × (List Stowed)) (h : M_twistlocklaw09_Loaded s l most = some r) : Pure Try.prog 6 [.agg [LS 12 Column.av s.Columns, LS 2 Cover.av s.Covers, I64 s.Light.Kilos, I64 s.Light.X, I64 s.Light.Y, I64 s.Light.Z, LS 5 Row.av s.Rows, LS 5 Frame.av s.Frames, LS 6 Tank.av s.Tanks, I64 s.Limits.Tolerance, I64 s.Limits.Trim, I64 s.Limits.List_, I64 s.Limits.Stability], LS 4 law09_Drop.av l, I64 most] (· = .tup [LS 9 Box.av r.1, LS 4 Stowed.av r.2]) := by
 unfold M_twistlocklaw09_Loaded at h
 refine Pure_ofG [.tmp 6, .tmp 7] Try.func6 rfl rfl ?_
 refine Js fun K1 hK1 => Jr ?_
 refine Jg (u := .ptr 1014 0) (A_box (u := .agg [LS 12 Column.av s.Columns, LS 2 Cover.av s.Covers, I64 s.Light.Kilos, I64 s.Light.X, I64 s.Light.Y, I64 s.Light.Z, LS 5 Row.av s.Rows, LS 5 Frame.av s.Frames, LS 6 Tank.av s.Tanks, I64 s.Limits.Tolerance, I64 s.Limits.Trim, I64 s.Limits.List_, I64 s.Limits.Stability]) (cs := [LS 12 Column.av s.Columns, LS 2 Cover.av s.Covers, I64 s.Light.Kilos, I64 s.Light.X, I64 s.Light.Y, I64 s.Light.Z, LS 5 Row.av s.Rows, LS 5 Frame.av s.Frames, LS 6 Tank.av s.Tanks, I64 s.Limits.Tolerance, I64 s.Limits.Trim, I64 s.Limits.List_, I64 s.Limits.Stability]) 1014 rfl rfl rfl rfl rfl) ?_ rfl rfl rfl
 refine Jg (u := LS 9 Box.av ([] : List Box)) (A_nilList 9 rfl rfl) ?_ rfl rfl rfl
 refine Jg (u := LS 4 Stowed.av ([] : List Stowed)) (A_nilList 4 rfl rfl) ?_ rfl rfl rfl
 refine Jn (hK1 _ _ ?_)
 refine JC_freeze [(1, LS 4 law09_Drop.av l), (2, I64 most), (3, .dptr [LS 12 Column.av s.Columns, LS 2 Cover.av s.Covers, I64 s.Light.Kilos, I64 s.Light.X, I64 s.Light.Y, I64 s.Light.Z, LS 5 Row.av s.Rows, LS 5 Frame.av s.Frames, LS 6 Tank.av s.Tanks, I64 s.Limits.Tolerance, I64 s.Limits.Trim, I64 s.Limits.List_, I64 s.Limits.Stability])] [] 1014 rfl rfl rfl trivial rfl (by exact ⟨.conv (.same rfl), .conv (.same rfl), .ptr, trivial⟩) ?_
 refine Js fun K2 hK2 => Jr ?_
 refine Jg (u := OW 1015 9 Box.av ([] : List Box)) (A_nilOwn 1015 50 9 rfl rfl rfl) ?_ rfl rfl rfl
 refine Jn (hK2 _ _ ?_)
 refine Js fun K3 hK3 => Jr ?_
 refine Jg (u := LS 4 Stowed.av ([] : List Stowed)) (A_nilList 4 rfl rfl) ?_ rfl rfl rfl
 refine Jn (hK3 _ _ ?_)
 refine Js (fun K4 hK4 => ?_)
 refine Js fun K5 hK5 => Jr ?_
 refine Jg (u := LS 4 law09_Drop.av l) (Am rfl rfl) ?_ rfl rfl rfl
 refine Jg (u := LS 4 law09_Drop.av l) (Am rfl rfl) ?_ rfl rfl rfl
 refine JL_lenM (f := law09_Drop.av) (xs := l) tf_slice_24 rfl rfl (fun hm18 => ?_) rfl rfl rfl
 refine Jg (u := I64 most) (Am rfl rfl) ?_ rfl rfl rfl
 refine Jg (u := I64 (min (l.length : Int) most)) (A_min rfl rfl rfl) ?_ rfl rfl rfl
 obtain ⟨m6, hm6, h⟩ := bnd_out h
 refine Jg (u := LS 4 law09_Drop.av (l.take m6)) (A_sliceHiM (f := law09_Drop.av) (xs := l) rfl rfl rfl tf_slice_24 (natIn_out hm6)) ?_ rfl rfl rfl
 refine JL_lenM (f := law09_Drop.av) (xs := (l.take m6)) tf_slice_24 rfl rfl (fun hm22 => ?_) rfl rfl rfl
 refine Jg (u := I64 0) (Am rfl rfl) ?_ rfl rfl rfl
 refine Jn (hK5 _ _ ?_)
 refine JC_block ?_
 obtain ⟨b7, kx7, hb7, hkx7, h⟩ := each_in h
 refine JC_loop2 (fun i7 (s7 : (List Box) × (List Stowed)) => each b7 kx7 (List.drop i7 (l.take m6)) i7 s7 = some r) (fun i7 s7 => [(3, .dptr [LS 12 Column.av s.Columns, LS 2 Cover.av s.Covers, I64 s.Light.Kilos, I64 s.Light.X, I64 s.Light.Y, I64 s.Light.Z, LS 5 Row.av s.Rows, LS 5 Frame.av s.Frames, LS 6 Tank.av s.Tanks, I64 s.Limits.Tolerance, I64 s.Limits.Trim, I64 s.Limits.List_, I64 s.Limits.Stability]), (8, OW 1015 9 Box.av s7.1), (9, LS 4 Stowed.av s7.2), (21, LS 4 law09_Drop.av (l.take m6)), (22, I64 ((l.take m6).length : Int)), (23, I64 (i7 : Int))]) (fun i7 s7 => [(1015, .spare 50 9 s7.1.length s7.1.length)]) (fun i7 => (l.take m6).length - i7) 0 ([], []) h ⟨⟨.same rfl, .same rfl, .same rfl, .same rfl, .same rfl, .same rfl, trivial⟩, ⟨⟨_, rfl, .same⟩, trivial⟩, rfl⟩ ?_
 clear h
 intro i7 s7 hi7 K7 e7
 refine Js fun K8 hK8 => Jr ?_
 refine Jg (u := BL (decide ((i7 : Int) < ((l.take m6).length : Int)))) (A_lss rfl rfl rfl) ?_ rfl rfl rfl
 refine Jn (hK8 _ _ ?_)
 refine Js (fun K9 hK9 => ?_)
 refine JC_cond rfl (fun hb => ?_) (fun hb => ?_)
 ·
  have hk7 := lt_len hb
  obtain ⟨y7, nx7, hy7, hn7, h⟩ := each_out hi7 hk7
  replace h := app4 hb7 h
  refine JC_skip ?_
  refine hK9 _ _ ?_
  obtain ⟨kj10, hkj10, h⟩ := jp_out h
  refine JC_seqJ (fun j10 : (List Box) × (List Stowed) => kj10 j10 = some r) (fun j10 => [(3, .dptr [LS 12 Column.av s.Columns, LS 2 Cover.av s.Covers, I64 s.Light.Kilos, I64 s.Light.X, I64 s.Light.Y, I64 s.Light.Z, LS 5 Row.av s.Rows, LS 5 Frame.av s.Frames, LS 6 Tank.av s.Tanks, I64 s.Limits.Tolerance, I64 s.Limits.Trim, I64 s.Limits.List_, I64 s.Limits.Stability]), (8, OW 1015 9 Box.av j10.1), (9, LS 4 Stowed.av j10.2), (21, LS 4 law09_Drop.av (l.take m6)), (22, I64 ((l.take m6).length : Int)), (23, I64 (i7 : Int))]) (fun j10 => [(1015, .spare 50 9 j10.1.length j10.1.length)]) (fun Kj10 ej10 => ?_) ?_
  ·
   refine JC_block ?_
   refine Js fun K11 hK11 => Jr ?_
   refine Jg (u := I64 (i7 : Int)) (Am rfl rfl) ?_ rfl rfl rfl
   refine Jg (u := .dptr (law09_Drop.cs y7)) (A_indexM (f := law09_Drop.av) (xs := (l.take m6)) (y := y7) rfl rfl rfl tf_slice_24 hy7 rfl) ?_ rfl rfl rfl
   refine Jg (u := .agg (law09_Drop.cs y7)) (A_loadAgg tf_agg_38 rfl rfl rfl) ?_ rfl rfl rfl
   refine Jg (u := .ptr 1016 0) (A_allocJ 1016 4 tf_zsize_38 rfl rfl) ?_ rfl rfl rfl
   refine Jg (u := I64 (i7 : Int)) (Aa rfl rfl) ?_ rfl rfl rfl
   refine JL_go0 (u := .junk) (A_store (u := .agg (law09_Drop.cs y7)) (ds := [U8 y7.Column, U8 y7.Kilos, BL y7.Small, BL y7.High]) tf_size_38 rfl rfl rfl rfl rfl rfl rfl rfl) ?_ rfl rfl
   refine Jn (hK11 _ _ ?_)
   refine JC_freeze [(3, .dptr [LS 12 Column.av s.Columns, LS 2 Cover.av s.Covers, I64 s.Light.Kilos, I64 s.Light.X, I64 s.Light.Y, I64 s.Light.Z, LS 5 Row.av s.Rows, LS 5 Frame.av s.Frames, LS 6 Tank.av s.Tanks, I64 s.Limits.Tolerance, I64 s.Limits.Trim, I64 s.Limits.List_, I64 s.Limits.Stability]), (8, OW 1015 9 Box.av s7.1), (9, LS 4 Stowed.av s7.2), (10, I64 (i7 : Int)), (11, .dptr (law09_Drop.cs y7)), (21, LS 4 law09_Drop.av (l.take m6)), (22, I64 ((l.take m6).length : Int)), (23, I64 (i7 : Int))] [(1015, .spare 50 9 s7.1.length s7.1.length)] 1016 rfl rfl rfl ⟨⟨_, rfl, .same⟩, trivial⟩ rfl (by exact ⟨.conv (.same rfl), .conv (.same rfl), .conv (.same rfl), .conv (.same rfl), .ptr, .conv (.same rfl), .conv (.same rfl), .conv (.same rfl), trivial⟩) ?_
   refine Js fun K12 hK12 => Jr ?_
   refine Jg (u := I64 (i7 : Int)) (Am rfl rfl) ?_ rfl rfl rfl
   refine Jg (u := I64 ((i7 + 1 : Nat) : Int)) (A_add (idx_succ hk7 hm22) rfl rfl rfl) ?_ rfl rfl rfl
   obtain ⟨v13, hv13, h⟩ := chk_out h
   refine Jg (u := I64 v13) (A_mul hv13 rfl rfl rfl) ?_ rfl rfl rfl
   refine Jg (u := .dptr [BL y7.High]) (A_fieldM tf_field_38_3 rfl rfl rfl) ?_ rfl rfl rfl
   refine Jg (u := BL y7.High) (A_load tf_scalar_4 rfl rfl rfl) ?_ rfl rfl rfl
   refine Jg (u := .dptr [U8 y7.Kilos, BL y7.Small, BL y7.High]) (A_fieldM tf_field_38_1 rfl rfl rfl) ?_ rfl rfl rfl
   refine Jg (u := U8 y7.Kilos) (A_load tf_scalar_5 rfl rfl rfl) ?_ rfl rfl rfl
   obtain ⟨v14, hv14, h⟩ := chk_out h
   refine Jg (u := I64 v14) (A_conv tf_int_3 tf_int_5 hv14 rfl rfl) ?_ rfl rfl rfl
   obtain ⟨v15, hv15, h⟩ := chk_out h
   refine Jg (u := I64 v15) (A_mul hv15 rfl rfl rfl) ?_ rfl rfl rfl
   obtain ⟨v16, hv16, h⟩ := chk_out h
   refine Jg (u := I64 v16) (A_add hv16 rfl rfl rfl) ?_ rfl rfl rfl
   refine Jg (u := .agg [I64 v13, ST ByteArray.empty, U8 40, BL y7.High, I64 v16, I64 0, I64 1, U8 0, BL false]) (A_buildZ (cs := [I64 v13, ST ByteArray.empty, U8 40, BL y7.High, I64 v16, I64 0, I64 1, U8 0, BL false]) [(0, 1), (1, 1), (2, 1), (3, 1), (4, 1), (5, 1), (6, 1), (7, 1), (8, 1)] [I64 0, ST ByteArray.empty, U8 0, BL false, I64 0, I64 0, I64 0, U8 0, BL false] [.int .i64 0, .string ByteArray.empty, .int .u8 0, .bool false, .int .i64 0, .int .i64 0, .int .i64 0, .int .u8 0, .bool false] tf_places_50 tf_zero_50 ⟨.inl rfl, .inl rfl, .inl rfl, .inl rfl, .inl rfl, .inl rfl, .inl rfl, .inl rfl, .inl rfl, trivial⟩ rfl rfl) ?_ rfl rfl rfl
   refine Jg (u := .ptr 1017 0) (A_allocJ 1017 9 tf_zsize_50 rfl rfl) ?_ rfl rfl rfl
   refine JL_go0 (u := .junk) (A_store (u := .agg [I64 v13, ST ByteArray.empty, U8 40, BL y7.High, I64 v16, I64 0, I64 1, U8 0, BL false]) (ds := [I64 v13, ST ByteArray.empty, U8 40, BL y7.High, I64 v16, I64 0, I64 1, U8 0, BL false]) tf_size_50 rfl rfl rfl rfl rfl rfl rfl rfl) ?_ rfl rfl
   refine Jn (hK12 _ _ ?_)
   obtain ⟨kj17, hkj17, h⟩ := jp_out h
   refine JC_seqJ (fun j17 : Int × Bool => kj17 j17 = some r) (fun j17 => [(3, .dptr [LS 12 Column.av s.Columns, LS 2 Cover.av s.Covers, I64 s.Light.Kilos, I64 s.Light.X, I64 s.Light.Y, I64 s.Light.Z, LS 5 Row.av s.Rows, LS 5 Frame.av s.Frames, LS 6 Tank.av s.Tanks, I64 s.Limits.Tolerance, I64 s.Limits.Trim, I64 s.Limits.List_, I64 s.Limits.Stability]), (8, OW 1015 9 Box.av s7.1), (9, LS 4 Stowed.av s7.2), (11, .dptr (law09_Drop.cs y7)), (12, .ptr 1017 0), (21, LS 4 law09_Drop.av (l.take m6)), (22, I64 ((l.take m6).length : Int)), (23, I64 (i7 : Int))]) (fun j17 => [(1015, .spare 50 9 s7.1.length s7.1.length), (1017, .box 50 [I64 v13, ST ByteArray.empty, U8 j17.1, BL j17.2, I64 v16, I64 0, I64 1, U8 0, BL false])]) (fun Kj17 ej17 => ?_) ?_
   ·
    refine Js fun K18 hK18 => Jr ?_
    refine Jg (u := .dptr [BL y7.Small, BL y7.High]) (A_fieldM tf_field_38_2 rfl rfl rfl) ?_ rfl rfl rfl
    refine Jg (u := BL y7.Small) (A_load tf_scalar_4 rfl rfl rfl) ?_ rfl rfl rfl
    refine Jn (hK18 _ _ ?_)
    refine JC_cond rfl (fun hb => ?_) (fun hb => ?_)
    ·
     replace h := bif_t hb h
     refine Jr ?_
     refine Jg (u := .ptr 1017 2) (A_fieldL tf_field_50_2 rfl rfl) ?_ rfl rfl rfl
     refine JL_go0 (u := .junk) (A_store (u := U8 20) (ds := [I64 v13, ST ByteArray.empty, U8 20, BL y7.High, I64 v16, I64 0, I64 1, U8 0, BL false]) tf_size_5 rfl rfl rfl rfl rfl rfl rfl rfl) ?_ rfl rfl
     refine Jg (u := .ptr 1017 3) (A_fieldL tf_field_50_3 rfl rfl) ?_ rfl rfl rfl
     refine JL_go0 (u := .junk) (A_store (u := BL false) (ds := [I64 v13, ST ByteArray.empty, U8 20, BL false, I64 v16, I64 0, I64 1, U8 0, BL false]) tf_size_4 rfl rfl rfl rfl rfl rfl rfl rfl) ?_ rfl rfl
     refine Jn ?_
     exact ej17 _ _ (20, false) h ⟨⟨.same rfl, .same rfl, .same rfl, .same rfl, .same rfl, .same rfl, .same rfl, .same rfl, trivial⟩, ⟨⟨_, rfl, .same⟩, ⟨_, rfl, .boxL rfl ⟨.same rfl, .same rfl, .same rfl, .same rfl, .same rfl, .same rfl, .same rfl, .same rfl, .same rfl, trivial⟩⟩, trivial⟩, rfl⟩
    ·
     replace h := bif_f hb h
     refine JC_skip ?_
     exact ej17 _ _ (40, y7.High) h ⟨⟨.same rfl, .same rfl, .same rfl, .same rfl, .same rfl, .same rfl, .same rfl, .same rfl, trivial⟩, ⟨⟨_, rfl, .same⟩, ⟨_, rfl, .boxL rfl ⟨.same rfl, .same rfl, .same rfl, .same rfl, .same rfl, .same rfl, .same rfl, .same rfl, .same rfl, trivial⟩⟩, trivial⟩, rfl⟩
   ·intro j17 h
    replace h := app1 hkj17 h
    refine Js fun K19 hK19 => Jr ?_
    refine Jg (u := OW 1015 9 Box.av s7.1) (Am rfl rfl) ?_ rfl rfl rfl
    refine Jg (u := .agg [I64 v13, ST ByteArray.empty, U8 j17.1, BL j17.2, I64 v16, I64 0, I64 1, U8 0, BL false]) (A_loadAggL tf_agg_50 rfl rfl rfl rfl) ?_ rfl rfl rfl
    refine Jg (u := LS 9 Box.av [(Box.mk v13 ByteArray.empty j17.1 j17.2 v16 0 1 0 false)]) (A_buildSlice (xs := [.agg [I64 v13, ST ByteArray.empty, U8 j17.1, BL j17.2, I64 v16, I64 0, I64 1, U8 0, BL false]]) rfl ⟨rfl, rfl, trivial⟩ tf_slice_39 tf_zsize_50 rfl rfl rfl rfl) ?_ rfl rfl rfl
    obtain ⟨ha20, h⟩ := need_out h
    refine Jg (u := OW 1015 9 Box.av (s7.1 ++ [(Box.mk v13 ByteArray.empty j17.1 j17.2 v16 0 1 0 false)])) (A_appendM (f := Box.av) (xs := s7.1) (ys := [(Box.mk v13 ByteArray.empty j17.1 j17.2 v16 0 1 0 false)]) rfl rfl rfl rfl tf_slice_39 tf_elem_50 ha20 (fun _ => rfl) (.inl rfl) rfl) ?_ rfl rfl rfl
    refine Jg (u := OW 1015 9 Box.av (s7.1 ++ [(Box.mk v13 ByteArray.empty j17.1 j17.2 v16 0 1 0 false)])) (Aa rfl rfl) ?_ rfl rfl rfl
    refine Jn (hK19 _ _ ?_)
    refine JC_freeze [(3, .dptr [LS 12 Column.av s.Columns, LS 2 Cover.av s.Covers, I64 s.Light.Kilos, I64 s.Light.X, I64 s.Light.Y, I64 s.Light.Z, LS 5 Row.av s.Rows, LS 5 Frame.av s.Frames, LS 6 Tank.av s.Tanks, I64 s.Limits.Tolerance, I64 s.Limits.Trim, I64 s.Limits.List_, I64 s.Limits.Stability]), (8, OW 1015 9 Box.av (s7.1 ++ [(Box.mk v13 ByteArray.empty j17.1 j17.2 v16 0 1 0 false)])), (9, LS 4 Stowed.av s7.2), (11, .dptr (law09_Drop.cs y7)), (12, .dptr [I64 v13, ST ByteArray.empty, U8 j17.1, BL j17.2, I64 v16, I64 0, I64 1, U8 0, BL false]), (21, LS 4 law09_Drop.av (l.take m6)), (22, I64 ((l.take m6).length : Int)), (23, I64 (i7 : Int))] [(1015, .spare 50 9 (s7.1 ++ [(Box.mk v13 ByteArray.empty j17.1 j17.2 v16 0 1 0 false)]).length (s7.1 ++ [(Box.mk v13 ByteArray.empty j17.1 j17.2 v16 0 1 0 false)]).length)] 1017 rfl rfl rfl ⟨⟨_, rfl, .same⟩, trivial⟩ rfl (by exact ⟨.conv (.same rfl), .conv (.same rfl), .conv (.same rfl), .conv (.same rfl), .ptr, .conv (.same rfl), .conv (.same rfl), .conv (.same rfl), trivial⟩) ?_
    refine Js fun K21 hK21 => Jr ?_
    refine Jg (u := .agg [LS 12 Column.av s.Columns, LS 2 Cover.av s.Covers, I64 s.Light.Kilos, I64 s.Light.X, I64 s.Light.Y, I64 s.Light.Z, LS 5 Row.av s.Rows, LS 5 Frame.av s.Frames, LS 6 Tank.av s.Tanks, I64 s.Limits.Tolerance, I64 s.Limits.Trim, I64 s.Limits.List_, I64 s.Limits.Stability]) (A_loadAgg tf_agg_35 rfl rfl rfl) ?_ rfl rfl rfl
    refine Jg (u := .dptr [U8 j17.1, BL j17.2, I64 v16, I64 0, I64 1, U8 0, BL false]) (A_fieldM tf_field_50_2 rfl rfl rfl) ?_ rfl rfl rfl
    refine Jg (u := U8 j17.1) (A_load tf_scalar_5 rfl rfl rfl) ?_ rfl rfl rfl
    obtain ⟨r22, hr22, h⟩ := bnd_out h
    refine Jg (u := LS 3 Slot.av r22) (A_call1 (args := [.agg [LS 12 Column.av s.Columns, LS 2 Cover.av s.Covers, I64 s.Light.Kilos, I64 s.Light.X, I64 s.Light.Y, I64 s.Light.Z, LS 5 Row.av s.Rows, LS 5 Frame.av s.Frames, LS 6 Tank.av s.Tanks, I64 s.Limits.Tolerance, I64 s.Limits.Trim, I64 s.Limits.List_, I64 s.Limits.Stability], U8 j17.1]) rfl (M_slot_All_w s j17.1 r22 hr22) tf_call_18 ⟨rfl, rfl, rfl, rfl, trivial⟩) ?_ rfl rfl rfl
    refine JL_lenM (f := Slot.av) (xs := r22) tf_slice_77 rfl rfl (fun hm51 => ?_) rfl rfl rfl
    refine Jg (u := I64 0) (Am rfl rfl) ?_ rfl rfl rfl
    refine Jn (hK21 _ _ ?_)
    refine JC_block ?_
    obtain ⟨b49, kx49, hb49, hkx49, h⟩ := each_in h
    refine JC_loop2 (fun i49 (s49 : (List Stowed)) => each b49 kx49 (List.drop i49 r22) i49 s49 = some r) (fun i49 s49 => [(3, .dptr [LS 12 Column.av s.Columns, LS 2 Cover.av s.Covers, I64 s.Light.Kilos, I64 s.Light.X, I64 s.Light.Y, I64 s.Light.Z, LS 5 Row.av s.Rows, LS 5 Frame.av s.Frames, LS 6 Tank.av s.Tanks, I64 s.Limits.Tolerance, I64 s.Limits.Trim, I64 s.Limits.List_, I64 s.Limits.Stability]), (8, OW 1015 9 Box.av (s7.1 ++ [(Box.mk v13 ByteArray.empty j17.1 j17.2 v16 0 1 0 false)])), (9, LS 4 Stowed.av s49), (11, .dptr (law09_Drop.cs y7)), (12, .dptr [I64 v13, ST ByteArray.empty, U8 j17.1, BL j17.2, I64 v16, I64 0, I64 1, U8 0, BL false]), (21, LS 4 law09_Drop.av (l.take m6)), (22, I64 ((l.take m6).length : Int)), (23, I64 (i7 : Int)), (50, LS 3 Slot.av r22), (51, I64 (r22.length : Int)), (52, I64 (i49 : Int))]) (fun i49 s49 => [(1015, .spare 50 9 (s7.1 ++ [(Box.mk v13 ByteArray.empty j17.1 j17.2 v16 0 1 0 false)]).length (s7.1 ++ [(Box.mk v13 ByteArray.empty j17.1 j17.2 v16 0 1 0 false)]).length)]) (fun i49 => r22.length - i49) 0 s7.2 h ⟨⟨.same rfl, .same rfl, .same rfl, .same rfl, .same rfl, .same rfl, .same rfl, .same rfl, .same rfl, .same rfl, .same rfl, trivial⟩, ⟨⟨_, rfl, .same⟩, trivial⟩, rfl⟩ ?_
    clear h
    intro i49 s49 hi49 K49 e49
    refine Js fun K50 hK50 => Jr ?_
    refine Jg (u := BL (decide ((i49 : Int) < (r22.length : Int)))) (A_lss rfl rfl rfl) ?_ rfl rfl rfl
    refine Jn (hK50 _ _ ?_)
    refine Js (fun K51 hK51 => ?_)
    refine JC_cond rfl (fun hb => ?_) (fun hb => ?_)
    ·
     have hk49 := lt_len hb
     obtain ⟨y49, nx49, hy49, hn49, h⟩ := each_out hi49 hk49
     replace h := app4 hb49 h
     refine JC_skip ?_
     refine hK51 _ _ ?_
     refine Js (fun K52 hK52 => ?_)
     refine JC_block ?_
     refine Js fun K53 hK53 => Jr ?_
     refine Jg (u := .dptr (Slot.cs y49)) (A_indexM (f := Slot.av) (xs := r22) (y := y49) rfl rfl rfl tf_slice_77 hy49 rfl) ?_ rfl rfl rfl
     refine Jg (u := .agg (Slot.cs y49)) (A_loadAgg tf_agg_80 rfl rfl rfl) ?_ rfl rfl rfl
     refine Jg (u := .ptr 1018 0) (A_allocJ 1018 3 tf_zsize_80 rfl rfl) ?_ rfl rfl rfl
     refine JL_go0 (u := .junk) (A_store (u := .agg (Slot.cs y49)) (ds := [I64 y49.Column, I64 y49.Tier, U8 y49.Half]) tf_size_80 rfl rfl rfl rfl rfl rfl rfl rfl) ?_ rfl rfl
     refine Jn (hK53 _ _ ?_)
     refine JC_freeze [(3, .dptr [LS 12 Column.av s.Columns, LS 2 Cover.av s.Covers, I64 s.Light.Kilos, I64 s.Light.X, I64 s.Light.Y, I64 s.Light.Z, LS 5 Row.av s.Rows, LS 5 Frame.av s.Frames, LS 6 Tank.av s.Tanks, I64 s.Limits.Tolerance, I64 s.Limits.Trim, I64 s.Limits.List_, I64 s.Limits.Stability]), (8, OW 1015 9 Box.av (s7.1 ++ [(Box.mk v13 ByteArray.empty j17.1 j17.2 v16 0 1 0 false)])), (9, LS 4 Stowed.av s49), (11, .dptr (law09_Drop.cs y7)), (12, .dptr [I64 v13, ST ByteArray.empty, U8 j17.1, BL j17.2, I64 v16, I64 0, I64 1, U8 0, BL false]), (14, .dptr (Slot.cs y49)), (21, LS 4 law09_Drop.av (l.take m6)), (22, I64 ((l.take m6).length : Int)), (23, I64 (i7 : Int)), (50, LS 3 Slot.av r22), (51, I64 (r22.length : Int)), (52, I64 (i49 : Int))] [(1015, .spare 50 9 (s7.1 ++ [(Box.mk v13 ByteArray.empty j17.1 j17.2 v16 0 1 0 false)]).length (s7.1 ++ [(Box.mk v13 ByteArray.empty j17.1 j17.2 v16 0 1 0 false)]).length)] 1018 rfl rfl rfl ⟨⟨_, rfl, .same⟩, trivial⟩ rfl (by exact ⟨.conv (.same rfl), .conv (.same rfl), .conv (.same rfl), .conv (.same rfl), .conv (.same rfl), .ptr, .conv (.same rfl), .conv (.same rfl), .conv (.same rfl), .conv (.same rfl), .conv (.same rfl), .conv (.same rfl), trivial⟩) ?_
     refine Js (fun K54 hK54 => ?_)
     refine JC_fits (l' := [(3, .dptr [LS 12 Column.av s.Columns, LS 2 Cover.av s.Covers, I64 s.Light.Kilos, I64 s.Light.X, I64 s.Light.Y, I64 s.Light.Z, LS 5 Row.av s.Rows, LS 5 Frame.av s.Frames, LS 6 Tank.av s.Tanks, I64 s.Limits.Tolerance, I64 s.Limits.Trim, I64 s.Limits.List_, I64 s.Limits.Stability]), (8, OW 1015 9 Box.av (s7.1 ++ [(Box.mk v13 ByteArray.empty j17.1 j17.2 v16 0 1 0 false)])), (9, LS 4 Stowed.av s49), (11, .dptr (law09_Drop.cs y7)), (12, .dptr [I64 v13, ST ByteArray.empty, U8 j17.1, BL j17.2, I64 v16, I64 0, I64 1, U8 0, BL false]), (14, .dptr (Slot.cs y49)), (21, LS 4 law09_Drop.av (l.take m6)), (22, I64 ((l.take m6).length : Int)), (23, I64 (i7 : Int)), (50, LS 3 Slot.av r22), (51, I64 (r22.length : Int)), (52, I64 (i49 : Int))]) (L' := [(1015, .spare 50 9 (s7.1 ++ [(Box.mk v13 ByteArray.empty j17.1 j17.2 v16 0 1 0 false)]).length (s7.1 ++ [(Box.mk v13 ByteArray.empty j17.1 j17.2 v16 0 1 0 false)]).length)]) ⟨⟨.same rfl, .same rfl, .same rfl, .same rfl, .same rfl, .same rfl, .same rfl, .same rfl, .same rfl, .same rfl, .same rfl, .same rfl, trivial⟩, ⟨⟨_, rfl, .same⟩, trivial⟩, rfl⟩ ?_
     obtain ⟨ha55, h⟩ := need_out h
     obtain ⟨ha56, h⟩ := need_out h
     refine JC_draw [0, 2, 8] [0, 0, 0, 0, 0, 0, 0, 0, 0, 3] [0, 1, 0, 2, 2, 2, 2, 2, 0, 3] [[(1015, .spare 50 9 (s7.1 ++ [(Box.mk v13 ByteArray.empty j17.1 j17.2 v16 0 1 0 false)]).length (s7.1 ++ [(Box.mk v13 ByteArray.empty j17.1 j17.2 v16 0 1 0 false)]).length)], ((1019, .spare 82 4 ([] : List Stowed).length ([] : List Stowed).length) :: [(1015, .spare 50 9 (s7.1 ++ [(Box.mk v13 ByteArray.empty j17.1 j17.2 v16 0 1 0 false)]).length (s7.1 ++ [(Box.mk v13 ByteArray.empty j17.1 j17.2 v16 0 1 0 false)]).length)]), ((1019, .spare 82 4 (([] : List Stowed) ++ s49).length (([] : List Stowed) ++ s49).length) :: ((1019, .spare 82 4 ([] : List Stowed).length ([] : List Stowed).length) :: [(1015, .spare 50 9 (s7.1 ++ [(Box.mk v13 ByteArray.empty j17.1 j17.2 v16 0 1 0 false)]).length (s7.1 ++ [(Box.mk v13 ByteArray.empty j17.1 j17.2 v16 0 1 0 false)]).length)])), ((1019, .spare 82 4 ((([] : List Stowed) ++ s49) ++ [(Stowed.mk v13 y49)]).length ((([] : List Stowed) ++ s49) ++ [(Stowed.mk v13 y49)]).length) :: ((1019, .spare 82 4 (([] : List Stowed) ++ s49).length (([] : List Stowed) ++ s49).length) :: ((1019, .spare 82 4 ([] : List Stowed).length ([] : List Stowed).length) :: [(1015, .spare 50 9 (s7.1 ++ [(Box.mk v13 ByteArray.empty j17.1 j17.2 v16 0 1 0 false)]).length (s7.1 ++ [(Box.mk v13 ByteArray.empty j17.1 j17.2 v16 0 1 0 false)]).length)])))] tf_mixed (by kernel_rfl) rfl rfl ?_
     refine D_w (u := OW 1019 4 Stowed.av ([] : List Stowed)) rfl rfl rfl rfl (O_go (A_ownLit 1019 82 4 rfl rfl tf_slice_40) rfl) ?_ rfl
     refine D_ro (u := LS 4 Stowed.av s49) rfl rfl ⟨O_go (Am rfl rfl) rfl, O_go (Am rfl rfl) rfl, trivial⟩ ?_ rfl
     refine D_w (u := OW 1019 4 Stowed.av (([] : List Stowed) ++ s49)) rfl rfl rfl rfl (O_go (A_appendS (f := Stowed.av) (xs := ([] : List Stowed)) (ys := s49) rfl rfl rfl rfl tf_slice_40 tf_elem_82 ha55 (fun _ => rfl) (.inl rfl)) rfl) ?_ rfl
     refine D_ro (u := .dptr [I64 v13, ST ByteArray.empty, U8 j17.1, BL j17.2, I64 v16, I64 0, I64 1, U8 0, BL false]) rfl rfl ⟨O_go (A_fieldM tf_field_50_0 rfl rfl rfl) rfl, O_go (A_fieldM tf_field_50_0 rfl rfl rfl) rfl, O_go (A_fieldM tf_field_50_0 rfl rfl rfl) rfl, trivial⟩ ?_ rfl
     refine D_ro (u := I64 v13) rfl rfl ⟨O_go (A_load tf_scalar_3 rfl rfl rfl) rfl, O_go (A_load tf_scalar_3 rfl rfl rfl) rfl, O_go (A_load tf_scalar_3 rfl rfl rfl) rfl, trivial⟩ ?_ rfl
     refine D_ro (u := .agg (Slot.cs y49)) rfl rfl ⟨O_go (A_loadAgg tf_agg_80 rfl rfl rfl) rfl, O_go (A_loadAgg tf_agg_80 rfl rfl rfl) rfl, O_go (A_loadAgg tf_agg_80 rfl rfl rfl) rfl, trivial⟩ ?_ rfl
     refine D_ro (u := .agg [I64 v13, I64 y49.Column, I64 y49.Tier, U8 y49.Half]) rfl rfl ⟨O_go (A_buildZ (cs := [I64 v13, I64 y49.Column, I64 y49.Tier, U8 y49.Half]) [(0, 1), (1, 3)] [I64 0, I64 0, I64 0, U8 0] [.int .i64 0, .int .i64 0, .int .i64 0, .int .u8 0] tf_places_82 tf_zero_82 ⟨.inl rfl, .inl rfl, .inl rfl, .inl rfl, trivial⟩ rfl rfl) rfl, O_go (A_buildZ (cs := [I64 v13, I64 y49.Column, I64 y49.Tier, U8 y49.Half]) [(0, 1), (1, 3)] [I64 0, I64 0, I64 0, U8 0] [.int .i64 0, .int .i64 0, .int .i64 0, .int .u8 0] tf_places_82 tf_zero_82 ⟨.inl rfl, .inl rfl, .inl rfl, .inl rfl, trivial⟩ rfl rfl) rfl, O_go (A_buildZ (cs := [I64 v13, I64 y49.Column, I64 y49.Tier, U8 y49.Half]) [(0, 1), (1, 3)] [I64 0, I64 0, I64 0, U8 0] [.int .i64 0, .int .i64 0, .int .i64 0, .int .u8 0] tf_places_82 tf_zero_82 ⟨.inl rfl, .inl rfl, .inl rfl, .inl rfl, trivial⟩ rfl rfl) rfl, trivial⟩ ?_ rfl
     refine D_ro (u := LS 4 Stowed.av [(Stowed.mk v13 y49)]) rfl rfl ⟨O_go (A_buildSlice (xs := [.agg [I64 v13, I64 y49.Column, I64 y49.Tier, U8 y49.Half]]) rfl ⟨rfl, rfl, trivial⟩ tf_slice_40 tf_zsize_82 rfl rfl rfl rfl) rfl, O_go (A_buildSlice (xs := [.agg [I64 v13, I64 y49.Column, I64 y49.Tier, U8 y49.Half]]) rfl ⟨rfl, rfl, trivial⟩ tf_slice_40 tf_zsize_82 rfl rfl rfl rfl) rfl, O_go (A_buildSlice (xs := [.agg [I64 v13, I64 y49.Column, I64 y49.Tier, U8 y49.Half]]) rfl ⟨rfl, rfl, trivial⟩ tf_slice_40 tf_zsize_82 rfl rfl rfl rfl) rfl, trivial⟩ ?_ rfl
     refine D_w (u := OW 1019 4 Stowed.av ((([] : List Stowed) ++ s49) ++ [(Stowed.mk v13 y49)])) rfl rfl rfl rfl (O_go (A_appendM (f := Stowed.av) (xs := (([] : List Stowed) ++ s49)) (ys := [(Stowed.mk v13 y49)]) rfl rfl rfl rfl tf_slice_40 tf_elem_82 ha56 (fun _ => rfl) (.inl rfl) rfl) rfl) ?_ rfl
     refine D_ro (u := OW 1019 4 Stowed.av ((([] : List Stowed) ++ s49) ++ [(Stowed.mk v13 y49)])) rfl rfl ⟨O_go (Aa rfl rfl) rfl, trivial⟩ ?_ rfl
     refine D_nil ?_
     refine hK54 _ _ ?_
     refine Js (fun K57 hK57 => ?_)
     refine JC_fits (l' := [(3, .dptr [LS 12 Column.av s.Columns, LS 2 Cover.av s.Covers, I64 s.Light.Kilos, I64 s.Light.X, I64 s.Light.Y, I64 s.Light.Z, LS 5 Row.av s.Rows, LS 5 Frame.av s.Frames, LS 6 Tank.av s.Tanks, I64 s.Limits.Tolerance, I64 s.Limits.Trim, I64 s.Limits.List_, I64 s.Limits.Stability]), (8, OW 1015 9 Box.av (s7.1 ++ [(Box.mk v13 ByteArray.empty j17.1 j17.2 v16 0 1 0 false)])), (9, LS 4 Stowed.av s49), (11, .dptr (law09_Drop.cs y7)), (12, .dptr [I64 v13, ST ByteArray.empty, U8 j17.1, BL j17.2, I64 v16, I64 0, I64 1, U8 0, BL false]), (14, .dptr (Slot.cs y49)), (15, OW 1019 4 Stowed.av ((([] : List Stowed) ++ s49) ++ [(Stowed.mk v13 y49)])), (21, LS 4 law09_Drop.av (l.take m6)), (22, I64 ((l.take m6).length : Int)), (23, I64 (i7 : Int)), (50, LS 3 Slot.av r22), (51, I64 (r22.length : Int)), (52, I64 (i49 : Int))]) (L' := [(1015, .spare 50 9 (s7.1 ++ [(Box.mk v13 ByteArray.empty j17.1 j17.2 v16 0 1 0 false)]).length (s7.1 ++ [(Box.mk v13 ByteArray.empty j17.1 j17.2 v16 0 1 0 false)]).length), (1019, .spare 82 4 ((([] : List Stowed) ++ s49) ++ [(Stowed.mk v13 y49)]).length ((([] : List Stowed) ++ s49) ++ [(Stowed.mk v13 y49)]).length)]) ⟨⟨.same rfl, .same rfl, .same rfl, .same rfl, .same rfl, .same rfl, .same rfl, .same rfl, .same rfl, .same rfl, .same rfl, .same rfl, .same rfl, trivial⟩, ⟨⟨_, rfl, .same⟩, ⟨_, rfl, .same⟩, trivial⟩, rfl⟩ ?_
     obtain ⟨v58, hv58, h⟩ := chk_out h
     obtain ⟨v59, hv59, h⟩ := bnd_out h
     obtain ⟨r60, hr60, h⟩ := bnd_out h
     refine JC_draw [] [0, 0, 0, 0, 0, 0, 0, 0, 0, 0, 0, 0, 0, 0, 0, 0] [0, 0, 0, 0, 0, 0, 0, 0, 0, 0, 0, 0, 0, 0, 0, 0] [[(1015, .spare 50 9 (s7.1 ++ [(Box.mk v13 ByteArray.empty j17.1 j17.2 v16 0 1 0 false)]).length (s7.1 ++ [(Box.mk v13 ByteArray.empty j17.1 j17.2 v16 0 1 0 false)]).length), (1019, .spare 82 4 ((([] : List Stowed) ++ s49) ++ [(Stowed.mk v13 y49)]).length ((([] : List Stowed) ++ s49) ++ [(Stowed.mk v13 y49)]).length)]] tf_mixed (by kernel_rfl) rfl rfl ?_
     refine D_ro (u := .dptr (Slot.cs y49)) rfl rfl ⟨O_go (A_fieldM tf_field_80_0 rfl rfl rfl) rfl, trivial⟩ ?_ rfl
     refine D_ro (u := I64 y49.Column) rfl rfl ⟨O_go (A_load tf_scalar_3 rfl rfl rfl) rfl, trivial⟩ ?_ rfl
     refine D_ro (u := .dptr (law09_Drop.cs y7)) rfl rfl ⟨O_go (A_fieldM tf_field_38_0 rfl rfl rfl) rfl, trivial⟩ ?_ rfl
     refine D_ro (u := U8 y7.Column) rfl rfl ⟨O_go (A_load tf_scalar_5 rfl rfl rfl) rfl, trivial⟩ ?_ rfl
     refine D_ro (u := I64 v58) rfl rfl ⟨O_go (A_conv tf_int_3 tf_int_5 hv58 rfl rfl) rfl, trivial⟩ ?_ rfl
     refine D_ro (u := .dptr [LS 12 Column.av s.Columns, LS 2 Cover.av s.Covers, I64 s.Light.Kilos, I64 s.Light.X, I64 s.Light.Y, I64 s.Light.Z, LS 5 Row.av s.Rows, LS 5 Frame.av s.Frames, LS 6 Tank.av s.Tanks, I64 s.Limits.Tolerance, I64 s.Limits.Trim, I64 s.Limits.List_, I64 s.Limits.Stability]) rfl rfl ⟨O_go (A_fieldM tf_field_35_0 rfl rfl rfl) rfl, trivial⟩ ?_ rfl
     refine D_ro (u := LS 12 Column.av s.Columns) rfl rfl ⟨O_go (A_load tf_scalar_25 rfl rfl rfl) rfl, trivial⟩ ?_ rfl
     refine D_ro (u := I64 (s.Columns.length : Int)) rfl rfl ⟨O_go (A_lenM (f := Column.av) (xs := s.Columns) tf_slice_25 rfl rfl) rfl, trivial⟩ ?_ rfl
     refine D_ro (u := I64 v59) rfl rfl ⟨O_go (A_rem (rem64_out hv59).1 (rem64_out hv59).2 rfl rfl rfl) rfl, trivial⟩ ?_ rfl
     refine D_ro (u := BL (decide (y49.Column = v59))) rfl rfl ⟨O_go (A_eql rfl rfl rfl) rfl, trivial⟩ ?_ rfl
     refine D_ro (u := BL (decide (y49.Column = v59))) rfl rfl ⟨O_go (Am rfl rfl) rfl, trivial⟩ ?_ rfl
     refine D_ro (u := .opt (decide (y49.Column = v59)) (.agg [LS 12 Column.av s.Columns, LS 2 Cover.av s.Covers, I64 s.Light.Kilos, I64 s.Light.X, I64 s.Light.Y, I64 s.Light.Z, LS 5 Row.av s.Rows, LS 5 Frame.av s.Frames, LS 6 Tank.av s.Tanks, I64 s.Limits.Tolerance, I64 s.Limits.Trim, I64 s.Limits.List_, I64 s.Limits.Stability])) rfl rfl ⟨O_opt [] rfl rfl rfl .sct trivial (fun hc => A_loadAgg tf_agg_35 rfl rfl rfl) rfl, trivial⟩ ?_ rfl
     refine D_ro (u := .opt (decide (y49.Column = v59)) (OW 1015 9 Box.av (s7.1 ++ [(Box.mk v13 ByteArray.empty j17.1 j17.2 v16 0 1 0 false)]))) rfl rfl ⟨O_opt [] rfl rfl rfl .sct trivial (fun hc => Am rfl rfl) rfl, trivial⟩ ?_ rfl
     refine D_ro (u := .opt (decide (y49.Column = v59)) (OW 1019 4 Stowed.av ((([] : List Stowed) ++ s49) ++ [(Stowed.mk v13 y49)]))) rfl rfl ⟨O_opt [] rfl rfl rfl .sct trivial (fun hc => Am rfl rfl) rfl, trivial⟩ ?_ rfl
     refine D_ro (u := .opt (decide (y49.Column = v59)) (BL r60)) rfl rfl ⟨O_opt [(76, .agg [LS 12 Column.av s.Columns, LS 2 Cover.av s.Covers, I64 s.Light.Kilos, I64 s.Light.X, I64 s.Light.Y, I64 s.Light.Z, LS 5 Row.av s.Rows, LS 5 Frame.av s.Frames, LS 6 Tank.av s.Tanks, I64 s.Limits.Tolerance, I64 s.Limits.Trim, I64 s.Limits.List_, I64 s.Limits.Stability]), (77, OW 1015 9 Box.av (s7.1 ++ [(Box.mk v13 ByteArray.empty j17.1 j17.2 v16 0 1 0 false)])), (78, OW 1019 4 Stowed.av ((([] : List Stowed) ++ s49) ++ [(Stowed.mk v13 y49)]))] rfl rfl rfl .sct ⟨.all id, .all id, .all id, trivial⟩ (fun hc => A_call1 (args := [.agg [LS 12 Column.av s.Columns, LS 2 Cover.av s.Covers, I64 s.Light.Kilos, I64 s.Light.X, I64 s.Light.Y, I64 s.Light.Z, LS 5 Row.av s.Rows, LS 5 Frame.av s.Frames, LS 6 Tank.av s.Tanks, I64 s.Limits.Tolerance, I64 s.Limits.Trim, I64 s.Limits.List_, I64 s.Limits.Stability], LS 9 Box.av (s7.1 ++ [(Box.mk v13 ByteArray.empty j17.1 j17.2 v16 0 1 0 false)]), LS 4 Stowed.av ((([] : List Stowed) ++ s49) ++ [(Stowed.mk v13 y49)])]) rfl (M_stow_Right_w s (s7.1 ++ [(Box.mk v13 ByteArray.empty j17.1 j17.2 v16 0 1 0 false)]) ((([] : List Stowed) ++ s49) ++ [(Stowed.mk v13 y49)]) r60 (bif_t hc hr60)) tf_call_19 ⟨rfl, rfl, rfl, rfl, rfl, rfl, trivial⟩) rfl, trivial⟩ ?_ rfl
     refine D_ro (u := BL ((decide (y49.Column = v59)) && r60)) rfl rfl ⟨O_go (A_and rfl rfl rfl rfl) rfl, trivial⟩ ?_ rfl
     refine D_nil ?_
     refine hK57 _ _ ?_
     refine JC_cond rfl (fun hb => ?_) (fun hb => ?_)
     ·
      replace h := bif_t hb h
      refine Js fun K61 hK61 => Jr ?_
      refine Jg (u := OW 1019 4 Stowed.av ((([] : List Stowed) ++ s49) ++ [(Stowed.mk v13 y49)])) (Am rfl rfl) ?_ rfl rfl rfl
      refine Jg (u := OW 1019 4 Stowed.av ((([] : List Stowed) ++ s49) ++ [(Stowed.mk v13 y49)])) (Aa rfl rfl) ?_ rfl rfl rfl
      refine Jn (hK61 _ _ ?_)
      refine JC_exit ?_
      exact ej10 _ _ ((s7.1 ++ [(Box.mk v13 ByteArray.empty j17.1 j17.2 v16 0 1 0 false)]), ((([] : List Stowed) ++ s49) ++ [(Stowed.mk v13 y49)])) h ⟨⟨.same rfl, .same rfl, .list rfl, .same rfl, .same rfl, .same rfl, trivial⟩, ⟨⟨_, rfl, .same⟩, trivial⟩, rfl⟩
     ·
      replace h := bif_f hb h
      refine JC_skip ?_
      refine hK52 _ _ ?_
      refine Jr ?_
      refine Jg (u := I64 ((i49 + 1 : Nat) : Int)) (A_add (idx_succ hk49 hm51) rfl rfl rfl) ?_ rfl rfl rfl
      refine Jg (u := I64 ((i49 + 1 : Nat) : Int)) (Am rfl rfl) ?_ rfl rfl rfl
      refine Jn ?_
      exact e49 _ _ (i49 + 1) s49 (app1 hn49 h) (by omega) ⟨⟨.same rfl, .same rfl, .same rfl, .same rfl, .same rfl, .same rfl, .same rfl, .same rfl, .same rfl, .same rfl, .same rfl, trivial⟩, ⟨⟨_, rfl, .same⟩, trivial⟩, rfl⟩
    ·
     have h := app1 hkx49 (each_nil hi49 (not_lt_len hb))
     refine JC_exit ?_
     exact ej10 _ _ ((s7.1 ++ [(Box.mk v13 ByteArray.empty j17.1 j17.2 v16 0 1 0 false)]), s49) h ⟨⟨.same rfl, .same rfl, .same rfl, .same rfl, .same rfl, .same rfl, trivial⟩, ⟨⟨_, rfl, .same⟩, trivial⟩, rfl⟩
  ·intro j10 h
   replace h := app1 hkj10 h
   refine Jr ?_
   refine Jg (u := I64 ((i7 + 1 : Nat) : Int)) (A_add (idx_succ hk7 hm22) rfl rfl rfl) ?_ rfl rfl rfl
   refine Jg (u := I64 ((i7 + 1 : Nat) : Int)) (Am rfl rfl) ?_ rfl rfl rfl
   refine Jn ?_
   exact e7 _ _ (i7 + 1) (j10.1, j10.2) (app1 hn7 h) (by omega) ⟨⟨.same rfl, .same rfl, .same rfl, .same rfl, .same rfl, .same rfl, trivial⟩, ⟨⟨_, rfl, .same⟩, trivial⟩, rfl⟩
 ·
  have h := app1 hkx7 (each_nil hi7 (not_lt_len hb))
  refine JC_exit ?_
  refine hK4 _ _ ?_
  refine Js fun K62 hK62 => Jr ?_
  refine Jg (u := OW 1015 9 Box.av s7.1) (Am rfl rfl) ?_ rfl rfl rfl
  refine Jg (u := LS 4 Stowed.av s7.2) (Am rfl rfl) ?_ rfl rfl rfl
  refine Jg (u := OW 1015 9 Box.av s7.1) (Aa rfl rfl) ?_ rfl rfl rfl
  refine Jg (u := LS 4 Stowed.av s7.2) (Aa rfl rfl) ?_ rfl rfl rfl
  refine Jn (hK62 _ _ ?_)
  refine JC_ret ?_
  exact ⟨[LS 9 Box.av s7.1, LS 4 Stowed.av s7.2], [], trivial, rfl, ⟨⟨_, rfl, .conv (.list rfl)⟩, ⟨_, rfl, .conv (.same rfl)⟩, trivial⟩, rfl, congrArg (fun r : (List Box) × (List Stowed) => (.tup [LS 9 Box.av r.1, LS 4 Stowed.av r.2] : AV)) (Option.some.inj h)⟩

def M_twistlocklaw23_reason_1 (l : List Stowed) (id_ : Int) : Option (Slot × Bool) :=
 each (fun y18 i18 (s18 : Unit) nx18 =>
  bif decide (y18.Box = id_) then
  (some (y18.Slot, true))
  else
  (nx18 ()))
 (fun (s18 : Unit) =>
  some ((Slot.mk 0 0 0), false)) l 0 ()
theorem M_twistlocklaw23_reason_1_w (l : List Stowed) (id_ : Int) (r : Slot × Bool) (h : M_twistlocklaw23_reason_1 l id_ = some r) : Pure Try.prog 21 [LS 4 Stowed.av l, I64 id_] (· = .tup [.agg (Slot.cs r.1), BL r.2]) := by
 unfold M_twistlocklaw23_reason_1 at h
 refine Pure_ofG [.cell 4 80, .tmp 5] Try.func21 rfl rfl ?_
 refine Js fun K1 hK1 => Jr ?_
 refine Jg (u := .ptr 1071 0) (A_allocZ 1071 [I64 0, I64 0, U8 0] [.int .i64 0, .int .i64 0, .int .u8 0] tf_zero_80 ⟨.inl rfl, .inl rfl, .inl rfl, trivial⟩ rfl rfl) ?_ rfl rfl rfl
 refine Jg (u := BL false) (Aa rfl rfl) ?_ rfl rfl rfl
 refine Jn (hK1 _ _ ?_)
 refine Js (fun K2 hK2 => ?_)
 refine Js fun K3 hK3 => Jr ?_
 refine Jg (u := LS 4 Stowed.av l) (Am rfl rfl) ?_ rfl rfl rfl
 refine JL_lenM (f := Stowed.av) (xs := l) tf_slice_40 rfl rfl (fun hm9 => ?_) rfl rfl rfl
 refine Jg (u := I64 0) (Am rfl rfl) ?_ rfl rfl rfl
 refine Jn (hK3 _ _ ?_)
 refine JC_block ?_
 obtain ⟨b18, kx18, hb18, hkx18, h⟩ := each_in h
 refine JC_loop2 (fun i18 (s18 : Unit) => each b18 kx18 (List.drop i18 l) i18 s18 = some r) (fun i18 s18 => [(1, I64 id_), (4, .ptr 1071 0), (8, LS 4 Stowed.av l), (9, I64 (l.length : Int)), (10, I64 (i18 : Int))]) (fun i18 s18 => [(1071, .box 80 [I64 0, I64 0, U8 0])]) (fun i18 => l.length - i18) 0 () h ⟨⟨.same rfl, .same rfl, .same rfl, .same rfl, .same rfl, trivial⟩, ⟨⟨_, rfl, .boxL rfl ⟨.same rfl, .same rfl, .same rfl, trivial⟩⟩, trivial⟩, rfl⟩ ?_
 clear h
 intro i18 s18 hi18 K18 e18
 refine Js fun K19 hK19 => Jr ?_
 refine Jg (u := BL (decide ((i18 : Int) < (l.length : Int)))) (A_lss rfl rfl rfl) ?_ rfl rfl rfl
 refine Jn (hK19 _ _ ?_)
 refine Js (fun K20 hK20 => ?_)
 refine JC_cond rfl (fun hb => ?_) (fun hb => ?_)
 ·
  have hk18 := lt_len hb
  obtain ⟨y18, nx18, hy18, hn18, h⟩ := each_out hi18 hk18
  replace h := app4 hb18 h
  refine JC_skip ?_
  refine hK20 _ _ ?_
  refine Js (fun K21 hK21 => ?_)
  refine JC_block ?_
  refine Js fun K22 hK22 => Jr ?_
  refine Jg (u := .dptr (Stowed.cs y18)) (A_indexM (f := Stowed.av) (xs := l) (y := y18) rfl rfl rfl tf_slice_40 hy18 rfl) ?_ rfl rfl rfl
  refine Jg (u := .agg (Stowed.cs y18)) (A_loadAgg tf_agg_82 rfl rfl rfl) ?_ rfl rfl rfl
  refine Jg (u := .ptr 1072 0) (A_allocJ 1072 4 tf_zsize_82 rfl rfl) ?_ rfl rfl rfl
  refine JL_go0 (u := .junk) (A_store (u := .agg (Stowed.cs y18)) (ds := [I64 y18.Box, I64 y18.Slot.Column, I64 y18.Slot.Tier, U8 y18.Slot.Half]) tf_size_82 rfl rfl rfl rfl rfl rfl rfl rfl) ?_ rfl rfl
  refine Jn (hK22 _ _ ?_)
  refine JC_freeze [(1, I64 id_), (4, .ptr 1071 0), (7, .dptr (Stowed.cs y18)), (8, LS 4 Stowed.av l), (9, I64 (l.length : Int)), (10, I64 (i18 : Int))] [(1071, .box 80 [I64 0, I64 0, U8 0])] 1072 rfl rfl rfl ⟨⟨_, rfl, .boxEq rfl rfl⟩, trivial⟩ rfl (by exact ⟨.conv (.same rfl), .conv (.same rfl), .ptr, .conv (.same rfl), .conv (.same rfl), .conv (.same rfl), trivial⟩) ?_
  refine Js fun K23 hK23 => Jr ?_
  refine Jg (u := .dptr (Stowed.cs y18)) (A_fieldM tf_field_82_0 rfl rfl rfl) ?_ rfl rfl rfl
  refine Jg (u := I64 y18.Box) (A_load tf_scalar_3 rfl rfl rfl) ?_ rfl rfl rfl
  refine Jg (u := I64 id_) (Am rfl rfl) ?_ rfl rfl rfl
  refine Jg (u := BL (decide (y18.Box = id_))) (A_eql rfl rfl rfl) ?_ rfl rfl rfl
  refine Jn (hK23 _ _ ?_)
  refine JC_cond rfl (fun hb => ?_) (fun hb => ?_)
  ·
   replace h := bif_t hb h
   refine Js fun K24 hK24 => Jr ?_
   refine Jg (u := .dptr (Slot.cs y18.Slot)) (A_fieldM tf_field_82_1 rfl rfl rfl) ?_ rfl rfl rfl
   refine Jg (u := .agg (Slot.cs y18.Slot)) (A_loadAgg tf_agg_80 rfl rfl rfl) ?_ rfl rfl rfl
   refine JL_go0 (u := .junk) (A_store (u := .agg (Slot.cs y18.Slot)) (ds := [I64 y18.Slot.Column, I64 y18.Slot.Tier, U8 y18.Slot.Half]) tf_size_80 rfl rfl rfl rfl rfl rfl rfl rfl) ?_ rfl rfl
   refine Jg (u := BL true) (Aa rfl rfl) ?_ rfl rfl rfl
   refine Jn (hK24 _ _ ?_)
   refine JC_ret ?_
   exact ⟨[.agg (Slot.cs y18.Slot), BL true], [], trivial, rfl, ⟨⟨_, ⟨_, _, _, _, rfl, rfl, rfl, .inl ⟨tf_agg_80, rfl⟩⟩, .conv (.same rfl)⟩, ⟨_, rfl, .conv (.same rfl)⟩, trivial⟩, rfl, congrArg (fun r : Slot × Bool => (.tup [.agg (Slot.cs r.1), BL r.2] : AV)) (Option.some.inj h)⟩
  ·
   replace h := bif_f hb h
   refine JC_skip ?_
   refine hK21 _ _ ?_
   refine Jr ?_
   refine Jg (u := I64 ((i18 + 1 : Nat) : Int)) (A_add (idx_succ hk18 hm9) rfl rfl rfl) ?_ rfl rfl rfl
   refine Jg (u := I64 ((i18 + 1 : Nat) : Int)) (Am rfl rfl) ?_ rfl rfl rfl
   refine Jn ?_
   exact e18 _ _ (i18 + 1) () (app1 hn18 h) (by omega) ⟨⟨.same rfl, .same rfl, .same rfl, .same rfl, .same rfl, trivial⟩, ⟨⟨_, rfl, .boxL rfl ⟨.same rfl, .same rfl, .same rfl, trivial⟩⟩, trivial⟩, rfl⟩
 ·
  have h := app1 hkx18 (each_nil hi18 (not_lt_len hb))
  refine JC_exit ?_
  refine hK2 _ _ ?_
  refine Js fun K25 hK25 => Jr ?_
  refine Jg (u := .agg [I64 0, I64 0, U8 0]) (A_buildZ (cs := [I64 0, I64 0, U8 0]) [(0, 1), (1, 1), (2, 1)] [I64 0, I64 0, U8 0] [.int .i64 0, .int .i64 0, .int .u8 0] tf_places_80 tf_zero_80 ⟨.inl rfl, .inl rfl, .inl rfl, trivial⟩ rfl rfl) ?_ rfl rfl rfl
  refine JL_go0 (u := .junk) (A_store (u := .agg [I64 0, I64 0, U8 0]) (ds := [I64 0, I64 0, U8 0]) tf_size_80 rfl rfl rfl rfl rfl rfl rfl rfl) ?_ rfl rfl
  refine Jg (u := BL false) (Aa rfl rfl) ?_ rfl rfl rfl
  refine Jn (hK25 _ _ ?_)
  refine JC_ret ?_
  exact ⟨[.agg [I64 0, I64 0, U8 0], BL false], [], trivial, rfl, ⟨⟨_, ⟨_, _, _, _, rfl, rfl, rfl, .inl ⟨tf_agg_80, rfl⟩⟩, .conv (.same rfl)⟩, ⟨_, rfl, .conv (.same rfl)⟩, trivial⟩, rfl, congrArg (fun r : Slot × Bool => (.tup [.agg (Slot.cs r.1), BL r.2] : AV)) (Option.some.inj h)⟩

def M_twistlocklaw23_has (l : List Int) (n : Int) : Option Bool :=
 each (fun y18 i18 (s18 : Unit) nx18 =>
  bif decide (y18 = n) then
  (some true)
  else
  (nx18 ()))
 (fun (s18 : Unit) =>
  some false) l 0 ()
theorem M_twistlocklaw23_has_w (l : List Int) (n : Int) (r : Bool) (h : M_twistlocklaw23_has l n = some r) : Pure Try.prog 10 [LS 1 I64 l, I64 n] (· = BL r) := by
 unfold M_twistlocklaw23_has at h
 refine Pure_ofG [.tmp 4] Try.func10 rfl rfl ?_
 refine Js fun K1 hK1 => Jr ?_
 refine Jg (u := BL false) (Aa rfl rfl) ?_ rfl rfl rfl
 refine Jn (hK1 _ _ ?_)
 refine Js (fun K2 hK2 => ?_)
 refine Js fun K3 hK3 => Jr ?_
 refine Jg (u := LS 1 I64 l) (Am rfl rfl) ?_ rfl rfl rfl
 refine JL_lenM (f := I64) (xs := l) tf_slice_43 rfl rfl (fun hm8 => ?_) rfl rfl rfl
 refine Jg (u := I64 0) (Am rfl rfl) ?_ rfl rfl rfl
 refine Jn (hK3 _ _ ?_)
 refine JC_block ?_
 obtain ⟨b18, kx18, hb18, hkx18, h⟩ := each_in h
 refine JC_loop2 (fun i18 (s18 : Unit) => each b18 kx18 (List.drop i18 l) i18 s18 = some r) (fun i18 s18 => [(1, I64 n), (7, LS 1 I64 l), (8, I64 (l.length : Int)), (9, I64 (i18 : Int))]) (fun i18 s18 => []) (fun i18 => l.length - i18) 0 () h ⟨⟨.same rfl, .same rfl, .same rfl, .same rfl, trivial⟩, trivial, rfl⟩ ?_
 clear h
 intro i18 s18 hi18 K18 e18
 refine Js fun K19 hK19 => Jr ?_
 refine Jg (u := BL (decide ((i18 : Int) < (l.length : Int)))) (A_lss rfl rfl rfl) ?_ rfl rfl rfl
 refine Jn (hK19 _ _ ?_)
 refine Js (fun K20 hK20 => ?_)
 refine JC_cond rfl (fun hb => ?_) (fun hb => ?_)
 ·
  have hk18 := lt_len hb
  obtain ⟨y18, nx18, hy18, hn18, h⟩ := each_out hi18 hk18
  replace h := app4 hb18 h
  refine JC_skip ?_
  refine hK20 _ _ ?_
  refine Js (fun K21 hK21 => ?_)
  refine JC_block ?_
  refine Js fun K22 hK22 => Jr ?_
  refine Jg (u := .dptr [I64 y18]) (A_indexM (f := I64) (xs := l) (y := y18) rfl rfl rfl tf_slice_43 hy18 rfl) ?_ rfl rfl rfl
  refine Jg (u := I64 y18) (A_load tf_scalar_3 rfl rfl rfl) ?_ rfl rfl rfl
  refine Jg (u := I64 y18) (Aa rfl rfl) ?_ rfl rfl rfl
  refine Jn (hK22 _ _ ?_)
  refine Js fun K23 hK23 => Jr ?_
  refine Jg (u := I64 y18) (Am rfl rfl) ?_ rfl rfl rfl
  refine Jg (u := I64 n) (Am rfl rfl) ?_ rfl rfl rfl
  refine Jg (u := BL (decide (y18 = n))) (A_eql rfl rfl rfl) ?_ rfl rfl rfl
  refine Jn (hK23 _ _ ?_)
  refine JC_cond rfl (fun hb => ?_) (fun hb => ?_)
  ·
   replace h := bif_t hb h
   refine Js fun K24 hK24 => Jr ?_
   refine Jg (u := BL true) (Aa rfl rfl) ?_ rfl rfl rfl
   refine Jn (hK24 _ _ ?_)
   refine JC_ret ?_
   exact ⟨[BL true], [], trivial, rfl, ⟨⟨_, rfl, .conv (.same rfl)⟩, trivial⟩, rfl, congrArg (fun r : Bool => (BL r : AV)) (Option.some.inj h)⟩
  ·
   replace h := bif_f hb h
   refine JC_skip ?_
   refine hK21 _ _ ?_
   refine Jr ?_
   refine Jg (u := I64 ((i18 + 1 : Nat) : Int)) (A_add (idx_succ hk18 hm8) rfl rfl rfl) ?_ rfl rfl rfl
   refine Jg (u := I64 ((i18 + 1 : Nat) : Int)) (Am rfl rfl) ?_ rfl rfl rfl
   refine Jn ?_
   exact e18 _ _ (i18 + 1) () (app1 hn18 h) (by omega) ⟨⟨.same rfl, .same rfl, .same rfl, .same rfl, trivial⟩, trivial, rfl⟩
 ·
  have h := app1 hkx18 (each_nil hi18 (not_lt_len hb))
  refine JC_exit ?_
  refine hK2 _ _ ?_
  refine Js fun K25 hK25 => Jr ?_
  refine Jg (u := BL false) (Aa rfl rfl) ?_ rfl rfl rfl
  refine Jn (hK25 _ _ ?_)
  refine JC_ret ?_
  exact ⟨[BL false], [], trivial, rfl, ⟨⟨_, rfl, .conv (.same rfl)⟩, trivial⟩, rfl, congrArg (fun r : Bool => (BL r : AV)) (Option.some.inj h)⟩

def M_twistlocklaw23_reason (s : Ship) (before : List Stowed) (after : List Stowed) (set : List Int) (id_ : Int) : Option Bool :=
 bnd (M_twistlocklaw23_reason_1 before id_) fun r4 =>
 bnd (M_twistlocklaw23_reason_1 after id_) fun r6 =>
 bif ((!(r4.2 == r6.2)) || (!decide (r4.1 = r6.1))) then
 (some true)
 else
 (each (fun y12 i12 (s12 : Unit) nx12 =>
   each (fun y18 i18 (s18 : Unit) nx18 =>
    jp (fun kj21 =>
     bnd (bif (!(decide (y18.Box = id_))) then M_twistlocklaw23_has set y18.Box else some default) fun r25 =>
     bif ((decide (y18.Box = id_)) || (!r25)) then
     (kj21 ())
     else
     (gidx s.Columns y18.Slot.Column fun y27 =>
      gidx s.Columns r4.1.Column fun y29 =>
      each (fun y48 i48 (s48 : Bool) nx48 =>
       bnd (bif ((!s48) && ((decide (y48.Bay = y27.Bay)) && (decide (y48.Bay = y29.Bay)))) then M_twistlocklaw23_has y48.Rows y27.Row else some default) fun r53 =>
       bnd (bif ((!s48) && (((decide (y48.Bay = y27.Bay)) && (decide (y48.Bay = y29.Bay))) && r53)) then M_twistlocklaw23_has y48.Rows y29.Row else some default) fun r54 =>
       nx48 (s48 || ((((decide (y48.Bay = y27.Bay)) && (decide (y48.Bay = y29.Bay))) && r53) && r54)))
      (fun (s48 : Bool) =>
       bnd (M_slot_Over r4.1 y18.Slot) fun r56 =>
       bif (r56 || ((s48 && (!y27.Deck)) && y29.Deck)) then
       (some true)
       else
       (kj21 ())) s.Covers 0 false)) fun (j21 : Unit) =>
    nx18 ())
   (fun (s18 : Unit) =>
    nx12 ()) y12 0 ())
  (fun (s12 : Unit) =>
   some false) [before, after] 0 ())
theorem M_twistlocklaw23_reason_w (s : Ship) (before : List Stowed) (after : List Stowed) (set : List Int) (id_ : Int) (r : Bool) (h : M_twistlocklaw23_reason s before after set id_ = some r) : Pure Try.prog 9 [.agg [LS 12 Column.av s.Columns, LS 2 Cover.av s.Covers, I64 s.Light.Kilos, I64 s.Light.X, I64 s.Light.Y, I64 s.Light.Z, LS 5 Row.av s.Rows, LS 5 Frame.av s.Frames, LS 6 Tank.av s.Tanks, I64 s.Limits.Tolerance, I64 s.Limits.Trim, I64 s.Limits.List_, I64 s.Limits.Stability], LS 4 Stowed.av before, LS 4 Stowed.av after, LS 1 I64 set, I64 id_] (· = BL r) := by
 unfold M_twistlocklaw23_reason at h
 refine Pure_ofG [.tmp 10] Try.func9 rfl rfl ?_
 refine Js fun K1 hK1 => Jr ?_
 refine Jg (u := .ptr 1021 0) (A_box (u := .agg [LS 12 Column.av s.Columns, LS 2 Cover.av s.Covers, I64 s.Light.Kilos, I64 s.Light.X, I64 s.Light.Y, I64 s.Light.Z, LS 5 Row.av s.Rows, LS 5 Frame.av s.Frames, LS 6 Tank.av s.Tanks, I64 s.Limits.Tolerance, I64 s.Limits.Trim, I64 s.Limits.List_, I64 s.Limits.Stability]) (cs := [LS 12 Column.av s.Columns, LS 2 Cover.av s.Covers, I64 s.Light.Kilos, I64 s.Light.X, I64 s.Light.Y, I64 s.Light.Z, LS 5 Row.av s.Rows, LS 5 Frame.av s.Frames, LS 6 Tank.av s.Tanks, I64 s.Limits.Tolerance, I64 s.Limits.Trim, I64 s.Limits.List_, I64 s.Limits.Stability]) 1021 rfl rfl rfl rfl rfl) ?_ rfl rfl rfl
 refine Jg (u := BL false) (Aa rfl rfl) ?_ rfl rfl rfl
 refine Jn (hK1 _ _ ?_)
 refine JC_freeze [(1, LS 4 Stowed.av before), (2, LS 4 Stowed.av after), (3, LS 1 I64 set), (4, I64 id_), (5, .dptr [LS 12 Column.av s.Columns, LS 2 Cover.av s.Covers, I64 s.Light.Kilos, I64 s.Light.X, I64 s.Light.Y, I64 s.Light.Z, LS 5 Row.av s.Rows, LS 5 Frame.av s.Frames, LS 6 Tank.av s.Tanks, I64 s.Limits.Tolerance, I64 s.Limits.Trim, I64 s.Limits.List_, I64 s.Limits.Stability])] [] 1021 rfl rfl rfl trivial rfl (by exact ⟨.conv (.same rfl), .conv (.same rfl), .conv (.same rfl), .conv (.same rfl), .ptr, trivial⟩) ?_
 refine Js fun K2 hK2 => Jr ?_
 refine Jg (u := .fn 21 []) (Aa rfl rfl) ?_ rfl rfl rfl
 refine Jn (hK2 _ _ ?_)
 refine Js fun K3 hK3 => Jr ?_
 refine Jg (u := .fn 21 []) (Am rfl rfl) ?_ rfl rfl rfl
 refine Jg (u := LS 4 Stowed.av before) (Am rfl rfl) ?_ rfl rfl rfl
 refine Jg (u := I64 id_) (Am rfl rfl) ?_ rfl rfl rfl
 obtain ⟨r4, hr4, h⟩ := bnd_out h
 refine Jg (u := .tup [.agg (Slot.cs r4.1), BL r4.2]) (A_callV1 (args := [LS 4 Stowed.av before, I64 id_]) (caps := []) rfl rfl (M_twistlocklaw23_reason_1_w before id_ r4 hr4) tf_call_21 ⟨rfl, rfl, rfl, rfl, trivial⟩ rfl) ?_ rfl rfl rfl
 refine Jg (u := .tup [.agg (Slot.cs r4.1), BL r4.2]) (Am rfl rfl) ?_ rfl rfl rfl
 refine Jg (u := .agg (Slot.cs r4.1)) (A_extract rfl rfl rfl) ?_ rfl rfl rfl
 refine Jg (u := BL r4.2) (A_extract rfl rfl rfl) ?_ rfl rfl rfl
 refine Jg (u := .ptr 1022 0) (A_allocJ 1022 3 tf_zsize_80 rfl rfl) ?_ rfl rfl rfl
 refine JL_go0 (u := .junk) (A_store (u := .agg (Slot.cs r4.1)) (ds := [I64 r4.1.Column, I64 r4.1.Tier, U8 r4.1.Half]) tf_size_80 rfl rfl rfl rfl rfl rfl rfl rfl) ?_ rfl rfl
 refine Jg (u := BL r4.2) (Aa rfl rfl) ?_ rfl rfl rfl
 refine Jn (hK3 _ _ ?_)
 refine JC_freeze [(1, LS 4 Stowed.av before), (2, LS 4 Stowed.av after), (3, LS 1 I64 set), (4, I64 id_), (5, .dptr [LS 12 Column.av s.Columns, LS 2 Cover.av s.Covers, I64 s.Light.Kilos, I64 s.Light.X, I64 s.Light.Y, I64 s.Light.Z, LS 5 Row.av s.Rows, LS 5 Frame.av s.Frames, LS 6 Tank.av s.Tanks, I64 s.Limits.Tolerance, I64 s.Limits.Trim, I64 s.Limits.List_, I64 s.Limits.Stability]), (11, .fn 21 []), (12, .dptr (Slot.cs r4.1)), (13, BL r4.2)] [] 1022 rfl rfl rfl trivial rfl (by exact ⟨.conv (.same rfl), .conv (.same rfl), .conv (.same rfl), .conv (.same rfl), .conv (.same rfl), .conv (.same rfl), .ptr, .conv (.same rfl), trivial⟩) ?_
 refine Js fun K5 hK5 => Jr ?_
 refine Jg (u := .fn 21 []) (Am rfl rfl) ?_ rfl rfl rfl
 refine Jg (u := LS 4 Stowed.av after) (Am rfl rfl) ?_ rfl rfl rfl
 refine Jg (u := I64 id_) (Am rfl rfl) ?_ rfl rfl rfl
 obtain ⟨r6, hr6, h⟩ := bnd_out h
 refine Jg (u := .tup [.agg (Slot.cs r6.1), BL r6.2]) (A_callV1 (args := [LS 4 Stowed.av after, I64 id_]) (caps := []) rfl rfl (M_twistlocklaw23_reason_1_w after id_ r6 hr6) tf_call_21 ⟨rfl, rfl, rfl, rfl, trivial⟩ rfl) ?_ rfl rfl rfl
 refine Jg (u := .tup [.agg (Slot.cs r6.1), BL r6.2]) (Am rfl rfl) ?_ rfl rfl rfl
 refine Jg (u := .agg (Slot.cs r6.1)) (A_extract rfl rfl rfl) ?_ rfl rfl rfl
 refine Jg (u := BL r6.2) (A_extract rfl rfl rfl) ?_ rfl rfl rfl
 refine Jg (u := .ptr 1023 0) (A_allocJ 1023 3 tf_zsize_80 rfl rfl) ?_ rfl rfl rfl
 refine JL_go0 (u := .junk) (A_store (u := .agg (Slot.cs r6.1)) (ds := [I64 r6.1.Column, I64 r6.1.Tier, U8 r6.1.Half]) tf_size_80 rfl rfl rfl rfl rfl rfl rfl rfl) ?_ rfl rfl
 refine Jg (u := BL r6.2) (Aa rfl rfl) ?_ rfl rfl rfl
 refine Jn (hK5 _ _ ?_)
 refine JC_freeze [(1, LS 4 Stowed.av before), (2, LS 4 Stowed.av after), (3, LS 1 I64 set), (4, I64 id_), (5, .dptr [LS 12 Column.av s.Columns, LS 2 Cover.av s.Covers, I64 s.Light.Kilos, I64 s.Light.X, I64 s.Light.Y, I64 s.Light.Z, LS 5 Row.av s.Rows, LS 5 Frame.av s.Frames, LS 6 Tank.av s.Tanks, I64 s.Limits.Tolerance, I64 s.Limits.Trim, I64 s.Limits.List_, I64 s.Limits.Stability]), (12, .dptr (Slot.cs r4.1)), (13, BL r4.2), (14, .dptr (Slot.cs r6.1)), (15, BL r6.2)] [] 1023 rfl rfl rfl trivial rfl (by exact ⟨.conv (.same rfl), .conv (.same rfl), .conv (.same rfl), .conv (.same rfl), .conv (.same rfl), .conv (.same rfl), .conv (.same rfl), .ptr, .conv (.same rfl), trivial⟩) ?_
 refine Js (fun K7 hK7 => ?_)
 refine Js fun K8 hK8 => Jr ?_
 refine Jg (u := BL r4.2) (Am rfl rfl) ?_ rfl rfl rfl
 refine Jg (u := BL r6.2) (Am rfl rfl) ?_ rfl rfl rfl
 refine Jg (u := BL (!(r4.2 == r6.2))) (A_neBool tf_bool_4 rfl rfl rfl) ?_ rfl rfl rfl
 refine Jg (u := BL (!(r4.2 == r6.2))) (Am rfl rfl) ?_ rfl rfl rfl
 refine JL_opt (u := .agg (Slot.cs r4.1)) [] rfl rfl rfl .scf trivial (fun hc => A_loadAgg tf_agg_80 rfl rfl rfl) ?_ rfl rfl rfl
 refine JL_opt (u := .agg (Slot.cs r6.1)) [] rfl rfl rfl .scf trivial (fun hc => A_loadAgg tf_agg_80 rfl rfl rfl) ?_ rfl rfl rfl
 refine JL_opt (u := BL (!decide (r4.1 = r6.1))) [(43, .agg (Slot.cs r4.1)), (44, .agg (Slot.cs r6.1))] rfl rfl rfl .scf ⟨.all id, .all id, trivial⟩ (fun hc => A_neAgg (vs := [.int .i64 r4.1.Column, .int .i64 r4.1.Tier, .int .u8 r4.1.Half]) (us := [.int .i64 r6.1.Column, .int .i64 r6.1.Tier, .int .u8 r6.1.Half]) 4 rfl (tq_80 r4.1 r6.1) tf_aggof_80 tf_eqg_80 rfl rfl rfl) ?_ rfl rfl rfl
 refine Jg (u := BL ((!(r4.2 == r6.2)) || (!decide (r4.1 = r6.1)))) (A_or rfl rfl rfl rfl) ?_ rfl rfl rfl
 refine Jn (hK8 _ _ ?_)
 refine JC_cond rfl (fun hb => ?_) (fun hb => ?_)
 ·
  replace h := bif_t hb h
  refine Js fun K9 hK9 => Jr ?_
  refine Jg (u := BL true) (Aa rfl rfl) ?_ rfl rfl rfl
  refine Jn (hK9 _ _ ?_)
  refine JC_ret ?_
  exact ⟨[BL true], [], trivial, rfl, ⟨⟨_, rfl, .conv (.same rfl)⟩, trivial⟩, rfl, congrArg (fun r : Bool => (BL r : AV)) (Option.some.inj h)⟩
 ·
  replace h := bif_f hb h
  refine JC_skip ?_
  refine hK7 _ _ ?_
  refine Js (fun K10 hK10 => ?_)
  refine Js fun K11 hK11 => Jr ?_
  refine Jg (u := LS 4 Stowed.av before) (Am rfl rfl) ?_ rfl rfl rfl
  refine Jg (u := LS 4 Stowed.av after) (Am rfl rfl) ?_ rfl rfl rfl
  refine Jg (u := LS 1 (LS 4 Stowed.av) [before, after]) (A_buildSlice (xs := [LS 4 Stowed.av before, LS 4 Stowed.av after]) rfl ⟨rfl, rfl, rfl, rfl, trivial⟩ tf_slice_56 tf_zsize_40 rfl rfl rfl rfl) ?_ rfl rfl rfl
  refine JL_lenM (f := (LS 4 Stowed.av)) (xs := [before, after]) tf_slice_56 rfl rfl (fun hm50 => ?_) rfl rfl rfl
  refine Jg (u := I64 0) (Am rfl rfl) ?_ rfl rfl rfl
  refine Jn (hK11 _ _ ?_)
  refine JC_block ?_
  obtain ⟨b12, kx12, hb12, hkx12, h⟩ := each_in h
  refine JC_loop2 (fun i12 (s12 : Unit) => each b12 kx12 (List.drop i12 [before, after]) i12 s12 = some r) (fun i12 s12 => [(3, LS 1 I64 set), (4, I64 id_), (5, .dptr [LS 12 Column.av s.Columns, LS 2 Cover.av s.Covers, I64 s.Light.Kilos, I64 s.Light.X, I64 s.Light.Y, I64 s.Light.Z, LS 5 Row.av s.Rows, LS 5 Frame.av s.Frames, LS 6 Tank.av s.Tanks, I64 s.Limits.Tolerance, I64 s.Limits.Trim, I64 s.Limits.List_, I64 s.Limits.Stability]), (12, .dptr (Slot.cs r4.1)), (49, LS 1 (LS 4 Stowed.av) [before, after]), (50, I64 ([before, after].length : Int)), (51, I64 (i12 : Int))]) (fun i12 s12 => []) (fun i12 => [before, after].length - i12) 0 () h ⟨⟨.same rfl, .same rfl, .same rfl, .same rfl, .same rfl, .same rfl, .same rfl, trivial⟩, trivial, rfl⟩ ?_
  clear h
  intro i12 s12 hi12 K12 e12
  refine Js fun K13 hK13 => Jr ?_
  refine Jg (u := BL (decide ((i12 : Int) < ([before, after].length : Int)))) (A_lss rfl rfl rfl) ?_ rfl rfl rfl
  refine Jn (hK13 _ _ ?_)
  refine Js (fun K14 hK14 => ?_)
  refine JC_cond rfl (fun hb => ?_) (fun hb => ?_)
  ·
   have hk12 := lt_len hb
   obtain ⟨y12, nx12, hy12, hn12, h⟩ := each_out hi12 hk12
   replace h := app4 hb12 h
   refine JC_skip ?_
   refine hK14 _ _ ?_
   refine Js (fun K15 hK15 => ?_)
   refine JC_block ?_
   refine Js fun K16 hK16 => Jr ?_
   refine Jg (u := .dptr [LS 4 Stowed.av y12]) (A_indexM (f := (LS 4 Stowed.av)) (xs := [before, after]) (y := y12) rfl rfl rfl tf_slice_56 hy12 rfl) ?_ rfl rfl rfl
   refine Jg (u := LS 4 Stowed.av y12) (A_load tf_scalar_40 rfl rfl rfl) ?_ rfl rfl rfl
   refine Jg (u := LS 4 Stowed.av y12) (Aa rfl rfl) ?_ rfl rfl rfl
   refine Jn (hK16 _ _ ?_)
   refine Js fun K17 hK17 => Jr ?_
   refine Jg (u := LS 4 Stowed.av y12) (Am rfl rfl) ?_ rfl rfl rfl
   refine JL_lenM (f := Stowed.av) (xs := y12) tf_slice_40 rfl rfl (fun hm56 => ?_) rfl rfl rfl
   refine Jg (u := I64 0) (Am rfl rfl) ?_ rfl rfl rfl
   refine Jn (hK17 _ _ ?_)
   refine JC_block ?_
   obtain ⟨b18, kx18, hb18, hkx18, h⟩ := each_in h
   refine JC_loop2 (fun i18 (s18 : Unit) => each b18 kx18 (List.drop i18 y12) i18 s18 = some r) (fun i18 s18 => [(3, LS 1 I64 set), (4, I64 id_), (5, .dptr [LS 12 Column.av s.Columns, LS 2 Cover.av s.Covers, I64 s.Light.Kilos, I64 s.Light.X, I64 s.Light.Y, I64 s.Light.Z, LS 5 Row.av s.Rows, LS 5 Frame.av s.Frames, LS 6 Tank.av s.Tanks, I64 s.Limits.Tolerance, I64 s.Limits.Trim, I64 s.Limits.List_, I64 s.Limits.Stability]), (12, .dptr (Slot.cs r4.1)), (49, LS 1 (LS 4 Stowed.av) [before, after]), (50, I64 ([before, after].length : Int)), (51, I64 (i12 : Int)), (55, LS 4 Stowed.av y12), (56, I64 (y12.length : Int)), (57, I64 (i18 : Int))]) (fun i18 s18 => []) (fun i18 => y12.length - i18) 0 () h ⟨⟨.same rfl, .same rfl, .same rfl, .same rfl, .same rfl, .same rfl, .same rfl, .same rfl, .same rfl, .same rfl, trivial⟩, trivial, rfl⟩ ?_
   clear h
   intro i18 s18 hi18 K18 e18
   refine Js fun K19 hK19 => Jr ?_
   refine Jg (u := BL (decide ((i18 : Int) < (y12.length : Int)))) (A_lss rfl rfl rfl) ?_ rfl rfl rfl
   refine Jn (hK19 _ _ ?_)
   refine Js (fun K20 hK20 => ?_)
   refine JC_cond rfl (fun hb => ?_) (fun hb => ?_)
   ·
    have hk18 := lt_len hb
    obtain ⟨y18, nx18, hy18, hn18, h⟩ := each_out hi18 hk18
    replace h := app4 hb18 h
    refine JC_skip ?_
    refine hK20 _ _ ?_
    obtain ⟨kj21, hkj21, h⟩ := jp_out h
    refine JC_seqJ (fun j21 : Unit => kj21 j21 = some r) (fun j21 => [(3, LS 1 I64 set), (4, I64 id_), (5, .dptr [LS 12 Column.av s.Columns, LS 2 Cover.av s.Covers, I64 s.Light.Kilos, I64 s.Light.X, I64 s.Light.Y, I64 s.Light.Z, LS 5 Row.av s.Rows, LS 5 Frame.av s.Frames, LS 6 Tank.av s.Tanks, I64 s.Limits.Tolerance, I64 s.Limits.Trim, I64 s.Limits.List_, I64 s.Limits.Stability]), (12, .dptr (Slot.cs r4.1)), (49, LS 1 (LS 4 Stowed.av) [before, after]), (50, I64 ([before, after].length : Int)), (51, I64 (i12 : Int)), (55, LS 4 Stowed.av y12), (56, I64 (y12.length : Int)), (57, I64 (i18 : Int))]) (fun j21 => []) (fun Kj21 ej21 => ?_) ?_
    ·
     refine JC_block ?_
     refine Js fun K22 hK22 => Jr ?_
     refine Jg (u := .dptr (Stowed.cs y18)) (A_indexM (f := Stowed.av) (xs := y12) (y := y18) rfl rfl rfl tf_slice_40 hy18 rfl) ?_ rfl rfl rfl
     refine Jg (u := .agg (Stowed.cs y18)) (A_loadAgg tf_agg_82 rfl rfl rfl) ?_ rfl rfl rfl
     refine Jg (u := .ptr 1024 0) (A_allocJ 1024 4 tf_zsize_82 rfl rfl) ?_ rfl rfl rfl
     refine JL_go0 (u := .junk) (A_store (u := .agg (Stowed.cs y18)) (ds := [I64 y18.Box, I64 y18.Slot.Column, I64 y18.Slot.Tier, U8 y18.Slot.Half]) tf_size_82 rfl rfl rfl rfl rfl rfl rfl rfl) ?_ rfl rfl
     refine Jn (hK22 _ _ ?_)
     refine JC_freeze [(3, LS 1 I64 set), (4, I64 id_), (5, .dptr [LS 12 Column.av s.Columns, LS 2 Cover.av s.Covers, I64 s.Light.Kilos, I64 s.Light.X, I64 s.Light.Y, I64 s.Light.Z, LS 5 Row.av s.Rows, LS 5 Frame.av s.Frames, LS 6 Tank.av s.Tanks, I64 s.Limits.Tolerance, I64 s.Limits.Trim, I64 s.Limits.List_, I64 s.Limits.Stability]), (12, .dptr (Slot.cs r4.1)), (19, .dptr (Stowed.cs y18)), (49, LS 1 (LS 4 Stowed.av) [before, after]), (50, I64 ([before, after].length : Int)), (51, I64 (i12 : Int)), (55, LS 4 Stowed.av y12), (56, I64 (y12.length : Int)), (57, I64 (i18 : Int))] [] 1024 rfl rfl rfl trivial rfl (by exact ⟨.conv (.same rfl), .conv (.same rfl), .conv (.same rfl), .conv (.same rfl), .ptr, .conv (.same rfl), .conv (.same rfl), .conv (.same rfl), .conv (.same rfl), .conv (.same rfl), .conv (.same rfl), trivial⟩) ?_
     refine Js (fun K23 hK23 => ?_)
     refine Js fun K24 hK24 => Jr ?_
     refine Jg (u := .dptr (Stowed.cs y18)) (A_fieldM tf_field_82_0 rfl rfl rfl) ?_ rfl rfl rfl
     refine Jg (u := I64 y18.Box) (A_load tf_scalar_3 rfl rfl rfl) ?_ rfl rfl rfl
     refine Jg (u := I64 id_) (Am rfl rfl) ?_ rfl rfl rfl
     refine Jg (u := BL (decide (y18.Box = id_))) (A_eql rfl rfl rfl) ?_ rfl rfl rfl
     refine Jg (u := BL (decide (y18.Box = id_))) (Am rfl rfl) ?_ rfl rfl rfl
     refine JL_opt (u := LS 1 I64 set) [] rfl rfl rfl .scf trivial (fun hc => Am rfl rfl) ?_ rfl rfl rfl
     refine JL_opt (u := .dptr (Stowed.cs y18)) [] rfl rfl rfl .scf trivial (fun hc => A_fieldM tf_field_82_0 rfl rfl rfl) ?_ rfl rfl rfl
     refine JL_opt (u := I64 y18.Box) [(67, .dptr (Stowed.cs y18))] rfl rfl rfl .scf ⟨.all id, trivial⟩ (fun hc => A_load tf_scalar_3 rfl rfl rfl) ?_ rfl rfl rfl
     obtain ⟨r25, hr25, h⟩ := bnd_out h
     refine JL_opt (u := BL r25) [(66, LS 1 I64 set), (68, I64 y18.Box)] rfl rfl rfl .scf ⟨.all id, .all id, trivial⟩ (fun hc => A_call1 (args := [LS 1 I64 set, I64 y18.Box]) rfl (M_twistlocklaw23_has_w set y18.Box r25 (bif_t hc hr25)) tf_call_10 ⟨rfl, rfl, rfl, rfl, trivial⟩) ?_ rfl rfl rfl
     refine JL_opt (u := BL (!r25)) [(69, BL r25)] rfl rfl rfl .scf ⟨.all id, trivial⟩ (fun hc => A_not (b := r25) rfl rfl) ?_ rfl rfl rfl
     refine Jg (u := BL ((decide (y18.Box = id_)) || (!r25))) (A_or rfl rfl rfl rfl) ?_ rfl rfl rfl
     refine Jn (hK24 _ _ ?_)
     refine JC_cond rfl (fun hb => ?_) (fun hb => ?_)
     ·
      replace h := bif_t hb h
      refine JC_exit ?_
      exact ej21 _ _ () h ⟨⟨.same rfl, .same rfl, .same rfl, .same rfl, .same rfl, .same rfl, .same rfl, .same rfl, .same rfl, .same rfl, trivial⟩, trivial, rfl⟩
     ·
      replace h := bif_f hb h
      refine JC_skip ?_
      refine hK23 _ _ ?_
      refine Js (fun K26 hK26 => ?_)
      obtain ⟨m28, y27, hm28, hy27, h⟩ := gidx_out h
      obtain ⟨m30, y29, hm30, hy29, h⟩ := gidx_out h
      refine JC_draw2 [13, 14, 15, 16] [[[false, false, false, false], [true, false, false, false], [false, true, false, false], [true, true, false, false]], [[false, false, false, false], [true, false, false, false], [false, true, false, false], [true, true, false, false]], [[false, false, false, false], [true, false, false, false], [false, true, false, false], [true, true, false, false]], [[false, false, false, false], [true, false, false, false], [false, true, false, false], [true, true, false, false]], [[false, false, false, false], [true, false, false, false], [false, true, false, false], [true, true, false, false]], [[false, false, false, false], [true, false, false, false], [false, true, false, false], [true, true, false, false]], [[false, false, false, false], [true, false, false, false], [false, true, false, false], [true, true, false, false]], [[false, false, false, false], [true, false, false, false], [false, true, false, false], [true, true, false, false], [true, true, true, false]], [[false, false, false, false], [true, false, false, false], [false, true, false, false], [true, true, false, false], [true, true, true, false]], [[false, false, false, false], [true, false, false, false], [false, true, false, false], [true, true, false, false], [true, true, true, false]], [[false, false, false, false], [true, false, false, false], [false, true, false, false], [true, true, false, false], [true, true, true, false]], [[false, false, false, false], [true, false, false, false], [false, true, false, false], [true, true, false, false], [true, true, true, false]], [[false, false, false, false], [true, false, false, false], [false, true, false, false], [true, true, false, false], [true, true, true, false]], [[false, false, false, false], [false, true, false, false]], [[false, false, false, false], [true, false, false, false]], [[true, true, false, false]], [[true, true, true, false]]] [([false, false, false, false], []), ([true, false, false, false], [(1025, .box 72 [.junk, .junk, .junk, .junk, .junk, .junk, .junk, .junk, .junk, .junk, .junk, .junk])]), ([false, true, false, false], [(1026, .box 72 [.junk, .junk, .junk, .junk, .junk, .junk, .junk, .junk, .junk, .junk, .junk, .junk])]), ([true, true, false, false], [(1025, .box 72 [.junk, .junk, .junk, .junk, .junk, .junk, .junk, .junk, .junk, .junk, .junk, .junk]), (1026, .box 72 [.junk, .junk, .junk, .junk, .junk, .junk, .junk, .junk, .junk, .junk, .junk, .junk])]), ([true, true, true, false], [(1025, .box 72 [I64 y27.Bay, I64 y27.Row, BL y27.Deck, I64 y27.Tiers, I64 y27.Height, I64 y27.Kilos20, I64 y27.Kilos40, I64 y27.Lash, LS 1 I64 y27.Plugs, I64 y27.X, I64 y27.Y, I64 y27.Z]), (1026, .box 72 [.junk, .junk, .junk, .junk, .junk, .junk, .junk, .junk, .junk, .junk, .junk, .junk])]), ([true, true, true, true], [(1025, .box 72 [I64 y27.Bay, I64 y27.Row, BL y27.Deck, I64 y27.Tiers, I64 y27.Height, I64 y27.Kilos20, I64 y27.Kilos40, I64 y27.Lash, LS 1 I64 y27.Plugs, I64 y27.X, I64 y27.Y, I64 y27.Z]), (1026, .box 72 [I64 y29.Bay, I64 y29.Row, BL y29.Deck, I64 y29.Tiers, I64 y29.Height, I64 y29.Kilos20, I64 y29.Kilos40, I64 y29.Lash, LS 1 I64 y29.Plugs, I64 y29.X, I64 y29.Y, I64 y29.Z])])] tf_mixed (by kernel_rfl) rfl rfl ?_
      refine D2_go (u := .dptr [LS 12 Column.av s.Columns, LS 2 Cover.av s.Covers, I64 s.Light.Kilos, I64 s.Light.X, I64 s.Light.Y, I64 s.Light.Z, LS 5 Row.av s.Rows, LS 5 Frame.av s.Frames, LS 6 Tank.av s.Tanks, I64 s.Limits.Tolerance, I64 s.Limits.Trim, I64 s.Limits.List_, I64 s.Limits.Stability]) rfl ⟨.ro rfl rfl (O_go (A_fieldM tf_field_35_0 rfl rfl rfl) rfl), .ro rfl rfl (O_go (A_fieldM tf_field_35_0 rfl rfl rfl) rfl), .ro rfl rfl (O_go (A_fieldM tf_field_35_0 rfl rfl rfl) rfl), .ro rfl rfl (O_go (A_fieldM tf_field_35_0 rfl rfl rfl) rfl), trivial⟩ ?_ rfl
      refine D2_go (u := LS 12 Column.av s.Columns) rfl ⟨.ro rfl rfl (O_go (A_load tf_scalar_25 rfl rfl rfl) rfl), .ro rfl rfl (O_go (A_load tf_scalar_25 rfl rfl rfl) rfl), .ro rfl rfl (O_go (A_load tf_scalar_25 rfl rfl rfl) rfl), .ro rfl rfl (O_go (A_load tf_scalar_25 rfl rfl rfl) rfl), trivial⟩ ?_ rfl
      refine D2_go (u := .dptr (Slot.cs y18.Slot)) rfl ⟨.ro rfl rfl (O_go (A_fieldM tf_field_82_1 rfl rfl rfl) rfl), .ro rfl rfl (O_go (A_fieldM tf_field_82_1 rfl rfl rfl) rfl), .ro rfl rfl (O_go (A_fieldM tf_field_82_1 rfl rfl rfl) rfl), .ro rfl rfl (O_go (A_fieldM tf_field_82_1 rfl rfl rfl) rfl), trivial⟩ ?_ rfl
      refine D2_go (u := .dptr (Slot.cs y18.Slot)) rfl ⟨.ro rfl rfl (O_go (A_fieldM tf_field_80_0 rfl rfl rfl) rfl), .ro rfl rfl (O_go (A_fieldM tf_field_80_0 rfl rfl rfl) rfl), .ro rfl rfl (O_go (A_fieldM tf_field_80_0 rfl rfl rfl) rfl), .ro rfl rfl (O_go (A_fieldM tf_field_80_0 rfl rfl rfl) rfl), trivial⟩ ?_ rfl
      refine D2_go (u := I64 y18.Slot.Column) rfl ⟨.ro rfl rfl (O_go (A_load tf_scalar_3 rfl rfl rfl) rfl), .ro rfl rfl (O_go (A_load tf_scalar_3 rfl rfl rfl) rfl), .ro rfl rfl (O_go (A_load tf_scalar_3 rfl rfl rfl) rfl), .ro rfl rfl (O_go (A_load tf_scalar_3 rfl rfl rfl) rfl), trivial⟩ ?_ rfl
      refine D2_go (u := .dptr (Column.cs y27)) rfl ⟨.ro rfl rfl (O_go (A_indexM (f := Column.av) (xs := s.Columns) (y := y27) rfl rfl rfl tf_slice_25 hy27 hm28) rfl), .ro rfl rfl (O_go (A_indexM (f := Column.av) (xs := s.Columns) (y := y27) rfl rfl rfl tf_slice_25 hy27 hm28) rfl), .ro rfl rfl (O_go (A_indexM (f := Column.av) (xs := s.Columns) (y := y27) rfl rfl rfl tf_slice_25 hy27 hm28) rfl), .ro rfl rfl (O_go (A_indexM (f := Column.av) (xs := s.Columns) (y := y27) rfl rfl rfl tf_slice_25 hy27 hm28) rfl), trivial⟩ ?_ rfl
      refine D2_go (u := .agg (Column.cs y27)) rfl ⟨.ro rfl rfl (O_go (A_loadAgg tf_agg_72 rfl rfl rfl) rfl), .ro rfl rfl (O_go (A_loadAgg tf_agg_72 rfl rfl rfl) rfl), .ro rfl rfl (O_go (A_loadAgg tf_agg_72 rfl rfl rfl) rfl), .ro rfl rfl (O_go (A_loadAgg tf_agg_72 rfl rfl rfl) rfl), trivial⟩ ?_ rfl
      refine D2_go (u := .dptr [LS 12 Column.av s.Columns, LS 2 Cover.av s.Covers, I64 s.Light.Kilos, I64 s.Light.X, I64 s.Light.Y, I64 s.Light.Z, LS 5 Row.av s.Rows, LS 5 Frame.av s.Frames, LS 6 Tank.av s.Tanks, I64 s.Limits.Tolerance, I64 s.Limits.Trim, I64 s.Limits.List_, I64 s.Limits.Stability]) rfl ⟨.ro rfl rfl (O_go (A_fieldM tf_field_35_0 rfl rfl rfl) rfl), .ro rfl rfl (O_go (A_fieldM tf_field_35_0 rfl rfl rfl) rfl), .ro rfl rfl (O_go (A_fieldM tf_field_35_0 rfl rfl rfl) rfl), .ro rfl rfl (O_go (A_fieldM tf_field_35_0 rfl rfl rfl) rfl), .ro rfl rfl (O_go (A_fieldM tf_field_35_0 rfl rfl rfl) rfl), trivial⟩ ?_ rfl
      refine D2_go (u := LS 12 Column.av s.Columns) rfl ⟨.ro rfl rfl (O_go (A_load tf_scalar_25 rfl rfl rfl) rfl), .ro rfl rfl (O_go (A_load tf_scalar_25 rfl rfl rfl) rfl), .ro rfl rfl (O_go (A_load tf_scalar_25 rfl rfl rfl) rfl), .ro rfl rfl (O_go (A_load tf_scalar_25 rfl rfl rfl) rfl), .ro rfl rfl (O_go (A_load tf_scalar_25 rfl rfl rfl) rfl), trivial⟩ ?_ rfl
      refine D2_go (u := .dptr (Slot.cs r4.1)) rfl ⟨.ro rfl rfl (O_go (A_fieldM tf_field_80_0 rfl rfl rfl) rfl), .ro rfl rfl (O_go (A_fieldM tf_field_80_0 rfl rfl rfl) rfl), .ro rfl rfl (O_go (A_fieldM tf_field_80_0 rfl rfl rfl) rfl), .ro rfl rfl (O_go (A_fieldM tf_field_80_0 rfl rfl rfl) rfl), .ro rfl rfl (O_go (A_fieldM tf_field_80_0 rfl rfl rfl) rfl), trivial⟩ ?_ rfl
      refine D2_go (u := I64 r4.1.Column) rfl ⟨.ro rfl rfl (O_go (A_load tf_scalar_3 rfl rfl rfl) rfl), .ro rfl rfl (O_go (A_load tf_scalar_3 rfl rfl rfl) rfl), .ro rfl rfl (O_go (A_load tf_scalar_3 rfl rfl rfl) rfl), .ro rfl rfl (O_go (A_load tf_scalar_3 rfl rfl rfl) rfl), .ro rfl rfl (O_go (A_load tf_scalar_3 rfl rfl rfl) rfl), trivial⟩ ?_ rfl
      refine D2_go (u := .dptr (Column.cs y29)) rfl ⟨.ro rfl rfl (O_go (A_indexM (f := Column.av) (xs := s.Columns) (y := y29) rfl rfl rfl tf_slice_25 hy29 hm30) rfl), .ro rfl rfl (O_go (A_indexM (f := Column.av) (xs := s.Columns) (y := y29) rfl rfl rfl tf_slice_25 hy29 hm30) rfl), .ro rfl rfl (O_go (A_indexM (f := Column.av) (xs := s.Columns) (y := y29) rfl rfl rfl tf_slice_25 hy29 hm30) rfl), .ro rfl rfl (O_go (A_indexM (f := Column.av) (xs := s.Columns) (y := y29) rfl rfl rfl tf_slice_25 hy29 hm30) rfl), .ro rfl rfl (O_go (A_indexM (f := Column.av) (xs := s.Columns) (y := y29) rfl rfl rfl tf_slice_25 hy29 hm30) rfl), trivial⟩ ?_ rfl
      refine D2_go (u := .agg (Column.cs y29)) rfl ⟨.ro rfl rfl (O_go (A_loadAgg tf_agg_72 rfl rfl rfl) rfl), .ro rfl rfl (O_go (A_loadAgg tf_agg_72 rfl rfl rfl) rfl), .ro rfl rfl (O_go (A_loadAgg tf_agg_72 rfl rfl rfl) rfl), .ro rfl rfl (O_go (A_loadAgg tf_agg_72 rfl rfl rfl) rfl), .ro rfl rfl (O_go (A_loadAgg tf_agg_72 rfl rfl rfl) rfl), trivial⟩ ?_ rfl
      refine D2_go (u := .ptr 1025 0) rfl ⟨.w [1025] rfl rfl (O_go (A_allocJ 1025 12 tf_zsize_72 rfl rfl) rfl) rfl rfl ⟨rfl, trivial⟩, .w [1026, 1025] rfl rfl (O_go (A_allocJ 1025 12 tf_zsize_72 rfl rfl) rfl) rfl rfl ⟨rfl, rfl, trivial⟩, trivial⟩ ?_ rfl
      refine D2_go (u := .ptr 1026 0) rfl ⟨.w [1026] rfl rfl (O_go (A_allocJ 1026 12 tf_zsize_72 rfl rfl) rfl) rfl rfl ⟨rfl, trivial⟩, .w [1025, 1026] rfl rfl (O_go (A_allocJ 1026 12 tf_zsize_72 rfl rfl) rfl) rfl rfl ⟨rfl, rfl, trivial⟩, trivial⟩ ?_ rfl
      refine D2_go0 (u := .junk) rfl ⟨.w [1025, 1026] rfl rfl (O_go (A_store (u := .agg (Column.cs y27)) (ds := [I64 y27.Bay, I64 y27.Row, BL y27.Deck, I64 y27.Tiers, I64 y27.Height, I64 y27.Kilos20, I64 y27.Kilos40, I64 y27.Lash, LS 1 I64 y27.Plugs, I64 y27.X, I64 y27.Y, I64 y27.Z]) tf_size_72 rfl rfl rfl rfl rfl rfl rfl rfl) rfl) rfl rfl ⟨rfl, rfl, trivial⟩, trivial⟩ ?_
      refine D2_go0 (u := .junk) rfl ⟨.w [1025, 1026] rfl rfl (O_go (A_store (u := .agg (Column.cs y29)) (ds := [I64 y29.Bay, I64 y29.Row, BL y29.Deck, I64 y29.Tiers, I64 y29.Height, I64 y29.Kilos20, I64 y29.Kilos40, I64 y29.Lash, LS 1 I64 y29.Plugs, I64 y29.X, I64 y29.Y, I64 y29.Z]) tf_size_72 rfl rfl rfl rfl rfl rfl rfl rfl) rfl) rfl rfl ⟨rfl, rfl, trivial⟩, trivial⟩ ?_
      refine D2_nil ?_
      refine hK26 _ _ ?_
      refine JC_freeze [(3, LS 1 I64 set), (4, I64 id_), (5, .dptr [LS 12 Column.av s.Columns, LS 2 Cover.av s.Covers, I64 s.Light.Kilos, I64 s.Light.X, I64 s.Light.Y, I64 s.Light.Z, LS 5 Row.av s.Rows, LS 5 Frame.av s.Frames, LS 6 Tank.av s.Tanks, I64 s.Limits.Tolerance, I64 s.Limits.Trim, I64 s.Limits.List_, I64 s.Limits.Stability]), (12, .dptr (Slot.cs r4.1)), (19, .dptr (Stowed.cs y18)), (20, .dptr (Column.cs y27)), (21, .ptr 1026 0), (49, LS 1 (LS 4 Stowed.av) [before, after]), (50, I64 ([before, after].length : Int)), (51, I64 (i12 : Int)), (55, LS 4 Stowed.av y12), (56, I64 (y12.length : Int)), (57, I64 (i18 : Int))] [(1026, .box 72 [I64 y29.Bay, I64 y29.Row, BL y29.Deck, I64 y29.Tiers, I64 y29.Height, I64 y29.Kilos20, I64 y29.Kilos40, I64 y29.Lash, LS 1 I64 y29.Plugs, I64 y29.X, I64 y29.Y, I64 y29.Z])] 1025 rfl rfl rfl ⟨⟨_, rfl, .boxEq rfl rfl⟩, trivial⟩ rfl (by exact ⟨.conv (.same rfl), .conv (.same rfl), .conv (.same rfl), .conv (.same rfl), .conv (.same rfl), .ptr, .conv (.same rfl), .conv (.same rfl), .conv (.same rfl), .conv (.same rfl), .conv (.same rfl), .conv (.same rfl), .conv (.same rfl), trivial⟩) ?_
      refine JC_freeze [(3, LS 1 I64 set), (4, I64 id_), (5, .dptr [LS 12 Column.av s.Columns, LS 2 Cover.av s.Covers, I64 s.Light.Kilos, I64 s.Light.X, I64 s.Light.Y, I64 s.Light.Z, LS 5 Row.av s.Rows, LS 5 Frame.av s.Frames, LS 6 Tank.av s.Tanks, I64 s.Limits.Tolerance, I64 s.Limits.Trim, I64 s.Limits.List_, I64 s.Limits.Stability]), (12, .dptr (Slot.cs r4.1)), (19, .dptr (Stowed.cs y18)), (20, .dptr (Column.cs y27)), (21, .dptr (Column.cs y29)), (49, LS 1 (LS 4 Stowed.av) [before, after]), (50, I64 ([before, after].length : Int)), (51, I64 (i12 : Int)), (55, LS 4 Stowed.av y12), (56, I64 (y12.length : Int)), (57, I64 (i18 : Int))] [] 1026 rfl rfl rfl trivial rfl (by exact ⟨.conv (.same rfl), .conv (.same rfl), .conv (.same rfl), .conv (.same rfl), .conv (.same rfl), .conv (.same rfl), .ptr, .conv (.same rfl), .conv (.same rfl), .conv (.same rfl), .conv (.same rfl), .conv (.same rfl), .conv (.same rfl), trivial⟩) ?_
      refine Js fun K31 hK31 => Jr ?_
      refine Jg (u := BL false) (Aa rfl rfl) ?_ rfl rfl rfl
      refine Jn (hK31 _ _ ?_)
      refine Js (fun K32 hK32 => ?_)
      refine Js fun K33 hK33 => Jr ?_
      refine Jg (u := .dptr [LS 2 Cover.av s.Covers, I64 s.Light.Kilos, I64 s.Light.X, I64 s.Light.Y, I64 s.Light.Z, LS 5 Row.av s.Rows, LS 5 Frame.av s.Frames, LS 6 Tank.av s.Tanks, I64 s.Limits.Tolerance, I64 s.Limits.Trim, I64 s.Limits.List_, I64 s.Limits.Stability]) (A_fieldM tf_field_35_1 rfl rfl rfl) ?_ rfl rfl rfl
      refine Jg (u := LS 2 Cover.av s.Covers) (A_load tf_scalar_26 rfl rfl rfl) ?_ rfl rfl rfl
      refine JL_lenM (f := Cover.av) (xs := s.Covers) tf_slice_26 rfl rfl (fun hm87 => ?_) rfl rfl rfl
      refine Jg (u := I64 0) (Am rfl rfl) ?_ rfl rfl rfl
      refine Jn (hK33 _ _ ?_)
      refine JC_block ?_
      obtain ⟨b48, kx48, hb48, hkx48, h⟩ := each_in h
      refine JC_loop2 (fun i48 (s48 : Bool) => each b48 kx48 (List.drop i48 s.Covers) i48 s48 = some r) (fun i48 s48 => [(3, LS 1 I64 set), (4, I64 id_), (5, .dptr [LS 12 Column.av s.Columns, LS 2 Cover.av s.Covers, I64 s.Light.Kilos, I64 s.Light.X, I64 s.Light.Y, I64 s.Light.Z, LS 5 Row.av s.Rows, LS 5 Frame.av s.Frames, LS 6 Tank.av s.Tanks, I64 s.Limits.Tolerance, I64 s.Limits.Trim, I64 s.Limits.List_, I64 s.Limits.Stability]), (12, .dptr (Slot.cs r4.1)), (19, .dptr (Stowed.cs y18)), (20, .dptr (Column.cs y27)), (21, .dptr (Column.cs y29)), (22, BL s48), (49, LS 1 (LS 4 Stowed.av) [before, after]), (50, I64 ([before, after].length : Int)), (51, I64 (i12 : Int)), (55, LS 4 Stowed.av y12), (56, I64 (y12.length : Int)), (57, I64 (i18 : Int)), (86, LS 2 Cover.av s.Covers), (87, I64 (s.Covers.length : Int)), (88, I64 (i48 : Int))]) (fun i48 s48 => []) (fun i48 => s.Covers.length - i48) 0 false h ⟨⟨.same rfl, .same rfl, .same rfl, .same rfl, .same rfl, .same rfl, .same rfl, .same rfl, .same rfl, .same rfl, .same rfl, .same rfl, .same rfl, .same rfl, .same rfl, .same rfl, .same rfl, trivial⟩, trivial, rfl⟩ ?_
      clear h
      intro i48 s48 hi48 K48 e48
      refine Js fun K49 hK49 => Jr ?_
      refine Jg (u := BL (decide ((i48 : Int) < (s.Covers.length : Int)))) (A_lss rfl rfl rfl) ?_ rfl rfl rfl
      refine Jn (hK49 _ _ ?_)
      refine Js (fun K50 hK50 => ?_)
      refine JC_cond rfl (fun hb => ?_) (fun hb => ?_)
      ·
       have hk48 := lt_len hb
       obtain ⟨y48, nx48, hy48, hn48, h⟩ := each_out hi48 hk48
       replace h := app4 hb48 h
       refine JC_skip ?_
       refine hK50 _ _ ?_
       refine Js (fun K51 hK51 => ?_)
       refine JC_block ?_
       refine Js fun K52 hK52 => Jr ?_
       refine Jg (u := .dptr [I64 y48.Bay, LS 1 I64 y48.Rows]) (A_indexM (f := Cover.av) (xs := s.Covers) (y := y48) rfl rfl rfl tf_slice_26 hy48 rfl) ?_ rfl rfl rfl
       refine Jg (u := .agg [I64 y48.Bay, LS 1 I64 y48.Rows]) (A_loadAgg tf_agg_76 rfl rfl rfl) ?_ rfl rfl rfl
       refine Jg (u := .ptr 1027 0) (A_allocJ 1027 2 tf_zsize_76 rfl rfl) ?_ rfl rfl rfl
       refine JL_go0 (u := .junk) (A_store (u := .agg [I64 y48.Bay, LS 1 I64 y48.Rows]) (ds := [I64 y48.Bay, LS 1 I64 y48.Rows]) tf_size_76 rfl rfl rfl rfl rfl rfl rfl rfl) ?_ rfl rfl
       refine Jn (hK52 _ _ ?_)
       refine JC_freeze [(3, LS 1 I64 set), (4, I64 id_), (5, .dptr [LS 12 Column.av s.Columns, LS 2 Cover.av s.Covers, I64 s.Light.Kilos, I64 s.Light.X, I64 s.Light.Y, I64 s.Light.Z, LS 5 Row.av s.Rows, LS 5 Frame.av s.Frames, LS 6 Tank.av s.Tanks, I64 s.Limits.Tolerance, I64 s.Limits.Trim, I64 s.Limits.List_, I64 s.Limits.Stability]), (12, .dptr (Slot.cs r4.1)), (19, .dptr (Stowed.cs y18)), (20, .dptr (Column.cs y27)), (21, .dptr (Column.cs y29)), (22, BL s48), (24, .dptr [I64 y48.Bay, LS 1 I64 y48.Rows]), (49, LS 1 (LS 4 Stowed.av) [before, after]), (50, I64 ([before, after].length : Int)), (51, I64 (i12 : Int)), (55, LS 4 Stowed.av y12), (56, I64 (y12.length : Int)), (57, I64 (i18 : Int)), (86, LS 2 Cover.av s.Covers), (87, I64 (s.Covers.length : Int)), (88, I64 (i48 : Int))] [] 1027 rfl rfl rfl trivial rfl (by exact ⟨.conv (.same rfl), .conv (.same rfl), .conv (.same rfl), .conv (.same rfl), .conv (.same rfl), .conv (.same rfl), .conv (.same rfl), .conv (.same rfl), .ptr, .conv (.same rfl), .conv (.same rfl), .conv (.same rfl), .conv (.same rfl), .conv (.same rfl), .conv (.same rfl), .conv (.same rfl), .conv (.same rfl), .conv (.same rfl), trivial⟩) ?_
       refine Jr ?_
       refine Jg (u := BL s48) (Am rfl rfl) ?_ rfl rfl rfl
       refine Jg (u := BL s48) (Am rfl rfl) ?_ rfl rfl rfl
       refine JL_opt (u := .dptr [I64 y48.Bay, LS 1 I64 y48.Rows]) [] rfl rfl rfl .scf trivial (fun hc => A_fieldM tf_field_76_0 rfl rfl rfl) ?_ rfl rfl rfl
       refine JL_opt (u := I64 y48.Bay) [(94, .dptr [I64 y48.Bay, LS 1 I64 y48.Rows])] rfl rfl rfl .scf ⟨.all id, trivial⟩ (fun hc => A_load tf_scalar_3 rfl rfl rfl) ?_ rfl rfl rfl
       refine JL_opt (u := .dptr (Column.cs y27)) [] rfl rfl rfl .scf trivial (fun hc => A_fieldM tf_field_72_0 rfl rfl rfl) ?_ rfl rfl rfl
       refine JL_opt (u := I64 y27.Bay) [(96, .dptr (Column.cs y27))] rfl rfl rfl .scf ⟨.all id, trivial⟩ (fun hc => A_load tf_scalar_3 rfl rfl rfl) ?_ rfl rfl rfl
       refine JL_opt (u := BL (decide (y48.Bay = y27.Bay))) [(95, I64 y48.Bay), (97, I64 y27.Bay)] rfl rfl rfl .scf ⟨.all id, .all id, trivial⟩ (fun hc => A_eql rfl rfl rfl) ?_ rfl rfl rfl
       refine JL_opt (u := BL (decide (y48.Bay = y27.Bay))) [(98, BL (decide (y48.Bay = y27.Bay)))] rfl rfl rfl .scf ⟨.all id, trivial⟩ (fun hc => Am rfl rfl) ?_ rfl rfl rfl
       refine JL_opt (u := .dptr [I64 y48.Bay, LS 1 I64 y48.Rows]) [] rfl rfl rfl .optt trivial (fun hc => A_fieldM tf_field_76_0 rfl rfl rfl) ?_ rfl rfl rfl
       refine JL_opt (u := I64 y48.Bay) [(100, .dptr [I64 y48.Bay, LS 1 I64 y48.Rows])] rfl rfl rfl .optt ⟨.all id, trivial⟩ (fun hc => A_load tf_scalar_3 rfl rfl rfl) ?_ rfl rfl rfl
       refine JL_opt (u := .dptr (Column.cs y29)) [] rfl rfl rfl .optt trivial (fun hc => A_fieldM tf_field_72_0 rfl rfl rfl) ?_ rfl rfl rfl
       refine JL_opt (u := I64 y29.Bay) [(102, .dptr (Column.cs y29))] rfl rfl rfl .optt ⟨.all id, trivial⟩ (fun hc => A_load tf_scalar_3 rfl rfl rfl) ?_ rfl rfl rfl
       refine JL_opt (u := BL (decide (y48.Bay = y29.Bay))) [(101, I64 y48.Bay), (103, I64 y29.Bay)] rfl rfl rfl .optt ⟨.all id, .all id, trivial⟩ (fun hc => A_eql rfl rfl rfl) ?_ rfl rfl rfl
       refine JL_opt (u := BL ((decide (y48.Bay = y27.Bay)) && (decide (y48.Bay = y29.Bay)))) [(99, BL (decide (y48.Bay = y27.Bay))), (104, _)] rfl rfl rfl .scf ⟨.all id, .part, trivial⟩ (fun hc => A_and rfl rfl rfl rfl) ?_ rfl rfl rfl
       refine JL_opt (u := BL ((decide (y48.Bay = y27.Bay)) && (decide (y48.Bay = y29.Bay)))) [(105, BL ((decide (y48.Bay = y27.Bay)) && (decide (y48.Bay = y29.Bay))))] rfl rfl rfl .scf ⟨.all id, trivial⟩ (fun hc => Am rfl rfl) ?_ rfl rfl rfl
       refine JL_opt (u := .dptr [LS 1 I64 y48.Rows]) [] rfl rfl rfl .optt trivial (fun hc => A_fieldM tf_field_76_1 rfl rfl rfl) ?_ rfl rfl rfl
       refine JL_opt (u := LS 1 I64 y48.Rows) [(107, .dptr [LS 1 I64 y48.Rows])] rfl rfl rfl .optt ⟨.all id, trivial⟩ (fun hc => A_load tf_scalar_43 rfl rfl rfl) ?_ rfl rfl rfl
       refine JL_opt (u := .dptr ((Column.cs y27).drop 1)) [] rfl rfl rfl .optt trivial (fun hc => A_fieldM tf_field_72_1 rfl rfl rfl) ?_ rfl rfl rfl
       refine JL_opt (u := I64 y27.Row) [(109, .dptr ((Column.cs y27).drop 1))] rfl rfl rfl .optt ⟨.all id, trivial⟩ (fun hc => A_load tf_scalar_3 rfl rfl rfl) ?_ rfl rfl rfl
       obtain ⟨r53, hr53, h⟩ := bnd_out h
       refine JL_opt (u := BL r53) [(108, LS 1 I64 y48.Rows), (110, I64 y27.Row)] rfl rfl rfl .optt ⟨.all id, .all id, trivial⟩ (fun hc => A_call1 (args := [LS 1 I64 y48.Rows, I64 y27.Row]) rfl (M_twistlocklaw23_has_w y48.Rows y27.Row r53 (bif_t hc hr53)) tf_call_10 ⟨rfl, rfl, rfl, rfl, trivial⟩) ?_ rfl rfl rfl
       refine JL_opt (u := BL (((decide (y48.Bay = y27.Bay)) && (decide (y48.Bay = y29.Bay))) && r53)) [(106, BL ((decide (y48.Bay = y27.Bay)) && (decide (y48.Bay = y29.Bay)))), (111, _)] rfl rfl rfl .scf ⟨.all id, .part, trivial⟩ (fun hc => A_and rfl rfl rfl rfl) ?_ rfl rfl rfl
       refine JL_opt (u := BL (((decide (y48.Bay = y27.Bay)) && (decide (y48.Bay = y29.Bay))) && r53)) [(112, BL (((decide (y48.Bay = y27.Bay)) && (decide (y48.Bay = y29.Bay))) && r53))] rfl rfl rfl .scf ⟨.all id, trivial⟩ (fun hc => Am rfl rfl) ?_ rfl rfl rfl
       refine JL_opt (u := .dptr [LS 1 I64 y48.Rows]) [] rfl rfl rfl .optt trivial (fun hc => A_fieldM tf_field_76_1 rfl rfl rfl) ?_ rfl rfl rfl
       refine JL_opt (u := LS 1 I64 y48.Rows) [(114, .dptr [LS 1 I64 y48.Rows])] rfl rfl rfl .optt ⟨.all id, trivial⟩ (fun hc => A_load tf_scalar_43 rfl rfl rfl) ?_ rfl rfl rfl
       refine JL_opt (u := .dptr ((Column.cs y29).drop 1)) [] rfl rfl rfl .optt trivial (fun hc => A_fieldM tf_field_72_1 rfl rfl rfl) ?_ rfl rfl rfl
       refine JL_opt (u := I64 y29.Row) [(116, .dptr ((Column.cs y29).drop 1))] rfl rfl rfl .optt ⟨.all id, trivial⟩ (fun hc => A_load tf_scalar_3 rfl rfl rfl) ?_ rfl rfl rfl
       obtain ⟨r54, hr54, h⟩ := bnd_out h
       refine JL_opt (u := BL r54) [(115, LS 1 I64 y48.Rows), (117, I64 y29.Row)] rfl rfl rfl .optt ⟨.all id, .all id, trivial⟩ (fun hc => A_call1 (args := [LS 1 I64 y48.Rows, I64 y29.Row]) rfl (M_twistlocklaw23_has_w y48.Rows y29.Row r54 (bif_t hc hr54)) tf_call_10 ⟨rfl, rfl, rfl, rfl, trivial⟩) ?_ rfl rfl rfl
       refine JL_opt (u := BL ((((decide (y48.Bay = y27.Bay)) && (decide (y48.Bay = y29.Bay))) && r53) && r54)) [(113, BL (((decide (y48.Bay = y27.Bay)) && (decide (y48.Bay = y29.Bay))) && r53)), (118, _)] rfl rfl rfl .scf ⟨.all id, .part, trivial⟩ (fun hc => A_and rfl rfl rfl rfl) ?_ rfl rfl rfl
       refine Jg (u := BL (s48 || ((((decide (y48.Bay = y27.Bay)) && (decide (y48.Bay = y29.Bay))) && r53) && r54))) (A_or rfl rfl rfl rfl) ?_ rfl rfl rfl
       refine Jg (u := BL (s48 || ((((decide (y48.Bay = y27.Bay)) && (decide (y48.Bay = y29.Bay))) && r53) && r54))) (Aa rfl rfl) ?_ rfl rfl rfl
       refine Jn (hK51 _ _ ?_)
       refine Jr ?_
       refine Jg (u := I64 ((i48 + 1 : Nat) : Int)) (A_add (idx_succ hk48 hm87) rfl rfl rfl) ?_ rfl rfl rfl
       refine Jg (u := I64 ((i48 + 1 : Nat) : Int)) (Am rfl rfl) ?_ rfl rfl rfl
       refine Jn ?_
       exact e48 _ _ (i48 + 1) (s48 || ((((decide (y48.Bay = y27.Bay)) && (decide (y48.Bay = y29.Bay))) && r53) && r54)) (app1 hn48 h) (by omega) ⟨⟨.same rfl, .same rfl, .same rfl, .same rfl, .same rfl, .same rfl, .same rfl, .same rfl, .same rfl, .same rfl, .same rfl, .same rfl, .same rfl, .same rfl, .same rfl, .same rfl, .same rfl, trivial⟩, trivial, rfl⟩
      ·
       have h := app1 hkx48 (each_nil hi48 (not_lt_len hb))
       refine JC_exit ?_
       refine hK32 _ _ ?_
       refine Js fun K55 hK55 => Jr ?_
       refine Jg (u := .agg (Slot.cs r4.1)) (A_loadAgg tf_agg_80 rfl rfl rfl) ?_ rfl rfl rfl
       refine Jg (u := .dptr (Slot.cs y18.Slot)) (A_fieldM tf_field_82_1 rfl rfl rfl) ?_ rfl rfl rfl
       refine Jg (u := .agg (Slot.cs y18.Slot)) (A_loadAgg tf_agg_80 rfl rfl rfl) ?_ rfl rfl rfl
       obtain ⟨r56, hr56, h⟩ := bnd_out h
       refine Jg (u := BL r56) (A_call1 (args := [.agg (Slot.cs r4.1), .agg (Slot.cs y18.Slot)]) rfl (M_slot_Over_w r4.1 y18.Slot r56 hr56) tf_call_22 ⟨rfl, rfl, rfl, rfl, trivial⟩) ?_ rfl rfl rfl
       refine Jg (u := BL r56) (Am rfl rfl) ?_ rfl rfl rfl
       refine JL_opt (u := BL s48) [] rfl rfl rfl .scf trivial (fun hc => Am rfl rfl) ?_ rfl rfl rfl
       refine JL_opt (u := BL s48) [(127, BL s48)] rfl rfl rfl .scf ⟨.all id, trivial⟩ (fun hc => Am rfl rfl) ?_ rfl rfl rfl
       refine JL_opt (u := .dptr ((Column.cs y27).drop 2)) [] rfl rfl rfl .optt trivial (fun hc => A_fieldM tf_field_72_2 rfl rfl rfl) ?_ rfl rfl rfl
       refine JL_opt (u := BL y27.Deck) [(129, .dptr ((Column.cs y27).drop 2))] rfl rfl rfl .optt ⟨.all id, trivial⟩ (fun hc => A_load tf_scalar_4 rfl rfl rfl) ?_ rfl rfl rfl
       refine JL_opt (u := BL (!y27.Deck)) [(130, BL y27.Deck)] rfl rfl rfl .optt ⟨.all id, trivial⟩ (fun hc => A_not (b := y27.Deck) rfl rfl) ?_ rfl rfl rfl
       refine JL_opt (u := BL (s48 && (!y27.Deck))) [(128, BL s48), (131, _)] rfl rfl rfl .scf ⟨.all id, .part, trivial⟩ (fun hc => A_and rfl rfl rfl rfl) ?_ rfl rfl rfl
       refine JL_opt (u := BL (s48 && (!y27.Deck))) [(132, BL (s48 && (!y27.Deck)))] rfl rfl rfl .scf ⟨.all id, trivial⟩ (fun hc => Am rfl rfl) ?_ rfl rfl rfl
       refine JL_opt (u := .dptr ((Column.cs y29).drop 2)) [] rfl rfl rfl .optt trivial (fun hc => A_fieldM tf_field_72_2 rfl rfl rfl) ?_ rfl rfl rfl
       refine JL_opt (u := BL y29.Deck) [(134, .dptr ((Column.cs y29).drop 2))] rfl rfl rfl .optt ⟨.all id, trivial⟩ (fun hc => A_load tf_scalar_4 rfl rfl rfl) ?_ rfl rfl rfl
       refine JL_opt (u := BL ((s48 && (!y27.Deck)) && y29.Deck)) [(133, BL (s48 && (!y27.Deck))), (135, _)] rfl rfl rfl .scf ⟨.all id, .part, trivial⟩ (fun hc => A_and rfl rfl rfl rfl) ?_ rfl rfl rfl
       refine Jg (u := BL (r56 || ((s48 && (!y27.Deck)) && y29.Deck))) (A_or rfl rfl rfl rfl) ?_ rfl rfl rfl
       refine Jn (hK55 _ _ ?_)
       refine JC_cond rfl (fun hb => ?_) (fun hb => ?_)
       ·
        replace h := bif_t hb h
        refine Js fun K57 hK57 => Jr ?_
        refine Jg (u := BL true) (Aa rfl rfl) ?_ rfl rfl rfl
        refine Jn (hK57 _ _ ?_)
        refine JC_ret ?_
        exact ⟨[BL true], [], trivial, rfl, ⟨⟨_, rfl, .conv (.same rfl)⟩, trivial⟩, rfl, congrArg (fun r : Bool => (BL r : AV)) (Option.some.inj h)⟩
       ·
        replace h := bif_f hb h
        refine JC_skip ?_
        exact ej21 _ _ () h ⟨⟨.same rfl, .same rfl, .same rfl, .same rfl, .same rfl, .same rfl, .same rfl, .same rfl, .same rfl, .same rfl, trivial⟩, trivial, rfl⟩
    ·intro j21 h
     replace h := app1 hkj21 h
     refine Jr ?_
     refine Jg (u := I64 ((i18 + 1 : Nat) : Int)) (A_add (idx_succ hk18 hm56) rfl rfl rfl) ?_ rfl rfl rfl
     refine Jg (u := I64 ((i18 + 1 : Nat) : Int)) (Am rfl rfl) ?_ rfl rfl rfl
     refine Jn ?_
     exact e18 _ _ (i18 + 1) () (app1 hn18 h) (by omega) ⟨⟨.same rfl, .same rfl, .same rfl, .same rfl, .same rfl, .same rfl, .same rfl, .same rfl, .same rfl, .same rfl, trivial⟩, trivial, rfl⟩
   ·
    have h := app1 hkx18 (each_nil hi18 (not_lt_len hb))
    refine JC_exit ?_
    refine hK15 _ _ ?_
    refine Jr ?_
    refine Jg (u := I64 ((i12 + 1 : Nat) : Int)) (A_add (idx_succ hk12 hm50) rfl rfl rfl) ?_ rfl rfl rfl
    refine Jg (u := I64 ((i12 + 1 : Nat) : Int)) (Am rfl rfl) ?_ rfl rfl rfl
    refine Jn ?_
    exact e12 _ _ (i12 + 1) () (app1 hn12 h) (by omega) ⟨⟨.same rfl, .same rfl, .same rfl, .same rfl, .same rfl, .same rfl, .same rfl, trivial⟩, trivial, rfl⟩
  ·
   have h := app1 hkx12 (each_nil hi12 (not_lt_len hb))
   refine JC_exit ?_
   refine hK10 _ _ ?_
   refine Js fun K58 hK58 => Jr ?_
   refine Jg (u := BL false) (Aa rfl rfl) ?_ rfl rfl rfl
   refine Jn (hK58 _ _ ?_)
   refine JC_ret ?_
   exact ⟨[BL false], [], trivial, rfl, ⟨⟨_, rfl, .conv (.same rfl)⟩, trivial⟩, rfl, congrArg (fun r : Bool => (BL r : AV)) (Option.some.inj h)⟩

def M_twistlocklaw23_PlanNeeded (F : Nat) (l : List law07_Place) (covers : Int) (a : List law09_Drop) (b : List law09_Drop) : Option Bool :=
 bnd (M_twistlocklaw07_Built l covers) fun r3 =>
 bnd (natIn (min (min (a.length : Int) (b.length : Int)) 9) a.length) fun m6 =>
 need (decide ((([] : List law09_Drop).length + (a.take m6).length) * 4 ≤ 140737488355328 ∧ ([] : List law09_Drop).length + (a.take m6).length ≤ maxLen)) <|
 each (fun y34 i34 (s34 : (List law09_Drop)) nx34 =>
  gidx b (i34 : Int) fun y39 =>
  gidx s34 (i34 : Int) fun y41 =>
  nx34 (s34.set (i34 : Int).toNat (law09_Drop.mk y39.Column y41.Kilos y41.Small y41.High)))
 (fun (s34 : (List law09_Drop)) =>
  bnd (natIn (min (min (a.length : Int) (b.length : Int)) 9) a.length) fun m43 =>
  bnd (M_twistlocklaw09_Loaded r3 (a.take m43) 9) fun r44 =>
  bnd (M_twistlocklaw09_Loaded r3 s34 9) fun r46 =>
  bnd (M_plan_Lifted F r3 r44.1 r44.2 r46.2) fun r48 =>
  bnd (M_plan_Lifted F r3 r44.1 r46.2 r44.2) fun r50 =>
  bnd (M_plan_Lifted F r3 r44.1 r44.2 r44.2) fun r52 =>
  chk (r48.2 + r50.2) fun v55 =>
  chk (v55 + r52.2) fun v56 =>
  bnd (bif (!((decide (v56 ≠ 0)) || (decide ((r52.1.length : Int) ≠ 0)))) then M_twistlockkit_SameInts r48.1 r50.1 else some default) fun r57 =>
  bif (((decide (v56 ≠ 0)) || (decide ((r52.1.length : Int) ≠ 0))) || (!r57)) then
  (some false)
  else
  (each (fun y81 i81 (s81 : Unit) nx81 =>
    bnd (bif decide (0 < (i81 : Int)) then chk ((i81 : Int) - 1) some else some 0) fun v87 =>
    bnd (bif decide (0 < (i81 : Int)) then gidx r48.1 v87 some else some default) fun y88 =>
    bnd (bif (!((decide (0 < (i81 : Int))) && (decide (y81 ≤ y88)))) then M_twistlocklaw23_reason r3 r44.2 r46.2 r48.1 y81 else some default) fun r89 =>
    bif (((decide (0 < (i81 : Int))) && (decide (y81 ≤ y88))) || (!r89)) then
    (some false)
    else
    (nx81 ()))
   (fun (s81 : Unit) =>
    each (fun y115 i115 (s115 : Unit) nx115 =>
     bnd (M_twistlocklaw23_has r48.1 y115.ID) fun r121 =>
     bnd (bif (!r121) then M_twistlocklaw23_holds r44.2 y115.ID else some default) fun r122 =>
     bnd (bif ((!r121) && !r122) then M_twistlocklaw23_holds r46.2 y115.ID else some default) fun r123 =>
     bnd (bif ((!r121) && (r122 || r123)) then M_twistlocklaw23_reason r3 r44.2 r46.2 r48.1 y115.ID else some default) fun r124 =>
     bif (((!r121) && (r122 || r123)) && r124) then
     (some false)
     else
     (nx115 ()))
    (fun (s115 : Unit) =>
     bnd (M_twistlocklaw23_awake F) fun r127 =>
     some r127) r44.1 0 ()) r48.1 0 ())) (([] : List law09_Drop) ++ (a.take m6)) 0 (([] : List law09_Drop) ++ (a.take m6))
theorem M_twistlocklaw23_PlanNeeded_w (F : Nat) (l : List law07_Place) (covers : Int) (a : List law09_Drop) (b : List law09_Drop) (r : Bool) (h : M_twistlocklaw23_PlanNeeded F l covers a b = some r) : Pure Try.prog 3 [LS 4 law07_Place.av l, .sc (.int .u32 covers), LS 4 law09_Drop.av a, LS 4 law09_Drop.av b] (· = BL r) := by
 unfold M_twistlocklaw23_PlanNeeded at h
 refine Pure_ofG [.tmp 8] Try.func3 rfl rfl ?_
 refine Js fun K1 hK1 => Jr ?_
 refine Jg (u := BL false) (Aa rfl rfl) ?_ rfl rfl rfl
 refine Jn (hK1 _ _ ?_)
 refine Js fun K2 hK2 => Jr ?_
 refine Jg (u := LS 4 law07_Place.av l) (Am rfl rfl) ?_ rfl rfl rfl
 refine Jg (u := .sc (.int .u32 covers)) (Am rfl rfl) ?_ rfl rfl rfl
 obtain ⟨r3, hr3, h⟩ := bnd_out h
 refine Jg (u := .agg (Ship.cs r3)) (A_call1 (args := [LS 4 law07_Place.av l, .sc (.int .u32 covers)]) rfl (M_twistlocklaw07_Built_w l covers r3 hr3) tf_call_5 ⟨rfl, rfl, rfl, rfl, trivial⟩) ?_ rfl rfl rfl
 refine Jg (u := .ptr 1001 0) (A_allocJ 1001 13 tf_zsize_35 rfl rfl) ?_ rfl rfl rfl
 refine JL_go0 (u := .junk) (A_store (u := .agg (Ship.cs r3)) (ds := [LS 12 Column.av r3.Columns, LS 2 Cover.av r3.Covers, I64 r3.Light.Kilos, I64 r3.Light.X, I64 r3.Light.Y, I64 r3.Light.Z, LS 5 Row.av r3.Rows, LS 5 Frame.av r3.Frames, LS 6 Tank.av r3.Tanks, I64 r3.Limits.Tolerance, I64 r3.Limits.Trim, I64 r3.Limits.List_, I64 r3.Limits.Stability]) tf_size_35 rfl rfl rfl rfl rfl rfl rfl rfl) ?_ rfl rfl
 refine Jn (hK2 _ _ ?_)
 refine JC_freeze [(2, LS 4 law09_Drop.av a), (3, LS 4 law09_Drop.av b), (9, .dptr (Ship.cs r3))] [] 1001 rfl rfl rfl trivial rfl (by exact ⟨.conv (.same rfl), .conv (.same rfl), .ptr, trivial⟩) ?_
 refine Js fun K4 hK4 => Jr ?_
 refine Jg (u := LS 4 law09_Drop.av a) (Am rfl rfl) ?_ rfl rfl rfl
 refine JL_lenM (f := law09_Drop.av) (xs := a) tf_slice_24 rfl rfl (fun hm31 => ?_) rfl rfl rfl
 refine Jg (u := LS 4 law09_Drop.av b) (Am rfl rfl) ?_ rfl rfl rfl
 refine JL_lenM (f := law09_Drop.av) (xs := b) tf_slice_24 rfl rfl (fun hm33 => ?_) rfl rfl rfl
 refine Jg (u := I64 (min (min (a.length : Int) (b.length : Int)) 9)) (A_min3 rfl rfl rfl rfl) ?_ rfl rfl rfl
 refine Jg (u := I64 (min (min (a.length : Int) (b.length : Int)) 9)) (Aa rfl rfl) ?_ rfl rfl rfl
 refine Jn (hK4 _ _ ?_)
 refine Js fun K5 hK5 => Jr ?_
 refine Jg (u := .vec 1003 (([] : List law09_Drop).length) 4 (([] : List law09_Drop).length)) (A_vlit 1003 38 4 rfl rfl tf_slice_24) ?_ rfl rfl rfl
 refine Jg (u := LS 4 law09_Drop.av a) (Am rfl rfl) ?_ rfl rfl rfl
 refine Jg (u := I64 (min (min (a.length : Int) (b.length : Int)) 9)) (Am rfl rfl) ?_ rfl rfl rfl
 obtain ⟨m6, hm6, h⟩ := bnd_out h
 refine Jg (u := LS 4 law09_Drop.av (a.take m6)) (A_sliceHiM (f := law09_Drop.av) (xs := a) rfl rfl rfl tf_slice_24 (natIn_out hm6)) ?_ rfl rfl rfl
 obtain ⟨ha7, h⟩ := need_out h
 refine Jg (u := .vec 1003 ((([] : List law09_Drop) ++ (a.take m6)).length + 1) 4 ((([] : List law09_Drop) ++ (a.take m6)).length)) (A_vappendM (f := law09_Drop.av) (xs := ([] : List law09_Drop)) (ys := (a.take m6)) (ver := (([] : List law09_Drop).length)) (ver1 := ((([] : List law09_Drop) ++ (a.take m6)).length + 1)) rfl rfl rfl rfl tf_slice_24 tf_elem_38 ha7 (fun _ => rfl) (.inl rfl) (by simp)) ?_ rfl rfl rfl
 refine Jg (u := .vec 1003 ((([] : List law09_Drop) ++ (a.take m6)).length + 1) 4 ((([] : List law09_Drop) ++ (a.take m6)).length)) (Aa rfl rfl) ?_ rfl rfl rfl
 refine Jn (hK5 _ _ ?_)
 refine Js (fun K8 hK8 => ?_)
 refine Js fun K9 hK9 => Jr ?_
 refine Jg (u := .vec 1003 ((([] : List law09_Drop) ++ (a.take m6)).length + 1) 4 ((([] : List law09_Drop) ++ (a.take m6)).length)) (Am rfl rfl) ?_ rfl rfl rfl
 refine JL_vlenM (f := law09_Drop.av) (xs := (([] : List law09_Drop) ++ (a.take m6))) tf_slice_24 rfl rfl rfl (fun hm41 => ?_) rfl rfl rfl
 refine Jg (u := I64 0) (Am rfl rfl) ?_ rfl rfl rfl
 refine Jn (hK9 _ _ ?_)
 refine JC_block ?_
 obtain ⟨b34, kx34, hb34, hkx34, h⟩ := each_in h
 refine JC_loop2 (fun i34 (s34 : (List law09_Drop)) => each b34 kx34 (List.drop i34 (([] : List law09_Drop) ++ (a.take m6))) i34 s34 = some r) (fun i34 s34 => [(2, LS 4 law09_Drop.av a), (3, LS 4 law09_Drop.av b), (9, .dptr (Ship.cs r3)), (10, I64 (min (min (a.length : Int) (b.length : Int)) 9)), (11, .vec 1003 ((([] : List law09_Drop) ++ (a.take m6)).length + 1) 4 ((([] : List law09_Drop) ++ (a.take m6)).length)), (41, I64 ((([] : List law09_Drop) ++ (a.take m6)).length : Int)), (42, I64 (i34 : Int))]) (fun i34 s34 => [(1003, .vec 38 4 ((([] : List law09_Drop) ++ (a.take m6)).length + 1) (s34.map law09_Drop.av))]) (fun i34 => (([] : List law09_Drop) ++ (a.take m6)).length - i34) 0 (([] : List law09_Drop) ++ (a.take m6)) h ⟨⟨.same rfl, .same rfl, .same rfl, .same rfl, .same rfl, .same rfl, .same rfl, trivial⟩, ⟨⟨_, rfl, .vec⟩, trivial⟩, rfl⟩ ?_
 clear h
 intro i34 s34 hi34 K34 e34
 refine Js fun K35 hK35 => Jr ?_
 refine Jg (u := BL (decide ((i34 : Int) < ((([] : List law09_Drop) ++ (a.take m6)).length : Int)))) (A_lss rfl rfl rfl) ?_ rfl rfl rfl
 refine Jn (hK35 _ _ ?_)
 refine Js (fun K36 hK36 => ?_)
 refine JC_cond rfl (fun hb => ?_) (fun hb => ?_)
 ·
  have hk34 := lt_len hb
  obtain ⟨y34, nx34, hy34, hn34, h⟩ := each_out hi34 hk34
  replace h := app4 hb34 h
  refine JC_skip ?_
  refine hK36 _ _ ?_
  refine Js (fun K37 hK37 => ?_)
  refine JC_block ?_
  refine Js fun K38 hK38 => Jr ?_
  refine Jg (u := I64 (i34 : Int)) (Am rfl rfl) ?_ rfl rfl rfl
  refine Jg (u := I64 (i34 : Int)) (Aa rfl rfl) ?_ rfl rfl rfl
  refine Jn (hK38 _ _ ?_)
  refine Jr ?_
  refine Jg (u := .vec 1003 ((([] : List law09_Drop) ++ (a.take m6)).length + 1) 4 ((([] : List law09_Drop) ++ (a.take m6)).length)) (Am rfl rfl) ?_ rfl rfl rfl
  refine Jg (u := I64 (i34 : Int)) (Am rfl rfl) ?_ rfl rfl rfl
  refine Jg (u := LS 4 law09_Drop.av b) (Am rfl rfl) ?_ rfl rfl rfl
  refine Jg (u := I64 (i34 : Int)) (Am rfl rfl) ?_ rfl rfl rfl
  obtain ⟨m40, y39, hm40, hy39, h⟩ := gidx_out h
  refine Jg (u := .dptr (law09_Drop.cs y39)) (A_indexM (f := law09_Drop.av) (xs := b) (y := y39) rfl rfl rfl tf_slice_24 hy39 hm40) ?_ rfl rfl rfl
  refine Jg (u := .dptr (law09_Drop.cs y39)) (A_fieldM tf_field_38_0 rfl rfl rfl) ?_ rfl rfl rfl
  refine Jg (u := U8 y39.Column) (A_load tf_scalar_5 rfl rfl rfl) ?_ rfl rfl rfl
  obtain ⟨y41, hmy41, hy41, h⟩ := gidx_outT h
  refine Jg (u := .vptr 1003 ((([] : List law09_Drop) ++ (a.take m6)).length + 1) ((i34 : Int).toNat) 0) (A_vidxM (f := law09_Drop.av) (xs := s34) (y := y41) rfl rfl rfl rfl tf_slice_24 hy41 hmy41) ?_ rfl rfl rfl
  refine Jg (u := .vptr 1003 ((([] : List law09_Drop) ++ (a.take m6)).length + 1) ((i34 : Int).toNat) 0) (A_vfield tf_field_38_0 rfl rfl rfl) ?_ rfl rfl rfl
  refine JL_go0 (u := .junk) (A_vstoreF (f := law09_Drop.av) (xs := s34) (e := y41) (z := (law09_Drop.mk y39.Column y41.Kilos y41.Small y41.High)) (u := U8 y39.Column) tf_size_5 rfl rfl rfl rfl hy41 rfl rfl rfl rfl rfl) ?_ rfl rfl
  refine Jn (hK37 _ _ ?_)
  refine Jr ?_
  refine Jg (u := I64 ((i34 + 1 : Nat) : Int)) (A_add (idx_succ hk34 hm41) rfl rfl rfl) ?_ rfl rfl rfl
  refine Jg (u := I64 ((i34 + 1 : Nat) : Int)) (Am rfl rfl) ?_ rfl rfl rfl
  refine Jn ?_
  exact e34 _ _ (i34 + 1) (s34.set (i34 : Int).toNat (law09_Drop.mk y39.Column y41.Kilos y41.Small y41.High)) (app1 hn34 h) (by omega) ⟨⟨.same rfl, .same rfl, .same rfl, .same rfl, .same rfl, .same rfl, .same rfl, trivial⟩, ⟨⟨_, rfl, .vec⟩, trivial⟩, rfl⟩
 ·
  have h := app1 hkx34 (each_nil hi34 (not_lt_len hb))
  refine JC_exit ?_
  refine hK8 _ _ ?_
  refine Js (fun K42 hK42 => ?_)
  refine JC_fits (l' := [(2, LS 4 law09_Drop.av a), (9, .dptr (Ship.cs r3)), (10, I64 (min (min (a.length : Int) (b.length : Int)) 9)), (11, .vec 1003 ((([] : List law09_Drop) ++ (a.take m6)).length + 1) 4 ((([] : List law09_Drop) ++ (a.take m6)).length))]) (L' := [(1003, .vec 38 4 ((([] : List law09_Drop) ++ (a.take m6)).length + 1) (s34.map law09_Drop.av))]) ⟨⟨.same rfl, .same rfl, .same rfl, .same rfl, trivial⟩, ⟨⟨_, rfl, .vec⟩, trivial⟩, rfl⟩ ?_
  obtain ⟨m43, hm43, h⟩ := bnd_out h
  obtain ⟨r44, hr44, h⟩ := bnd_out h
  refine JC_draw [] [0, 0, 0, 0, 0, 0, 0, 0, 0, 0] [0, 0, 0, 0, 0, 0, 0, 0, 0, 0] [[(1003, .vec 38 4 ((([] : List law09_Drop) ++ (a.take m6)).length + 1) (s34.map law09_Drop.av))]] tf_mixed (by kernel_rfl) rfl rfl ?_
  refine D_ro (u := .agg (Ship.cs r3)) rfl rfl ⟨O_go (A_loadAgg tf_agg_35 rfl rfl rfl) rfl, trivial⟩ ?_ rfl
  refine D_ro (u := LS 4 law09_Drop.av a) rfl rfl ⟨O_go (Am rfl rfl) rfl, trivial⟩ ?_ rfl
  refine D_ro (u := I64 (min (min (a.length : Int) (b.length : Int)) 9)) rfl rfl ⟨O_go (Am rfl rfl) rfl, trivial⟩ ?_ rfl
  refine D_ro (u := LS 4 law09_Drop.av (a.take m43)) rfl rfl ⟨O_go (A_sliceHiM (f := law09_Drop.av) (xs := a) rfl rfl rfl tf_slice_24 (natIn_out hm43)) rfl, trivial⟩ ?_ rfl
  refine D_ro (u := .tup [LS 9 Box.av r44.1, LS 4 Stowed.av r44.2]) rfl rfl ⟨O_go (A_call1 (args := [.agg (Ship.cs r3), LS 4 law09_Drop.av (a.take m43), I64 9]) rfl (M_twistlocklaw09_Loaded_w r3 (a.take m43) 9 r44 hr44) tf_call_6 ⟨rfl, rfl, rfl, rfl, rfl, rfl, trivial⟩) rfl, trivial⟩ ?_ rfl
  refine D_ro (u := .tup [LS 9 Box.av r44.1, LS 4 Stowed.av r44.2]) rfl rfl ⟨O_go (Am rfl rfl) rfl, trivial⟩ ?_ rfl
  refine D_ro (u := LS 9 Box.av r44.1) rfl rfl ⟨O_go (A_extract rfl rfl rfl) rfl, trivial⟩ ?_ rfl
  refine D_ro (u := LS 4 Stowed.av r44.2) rfl rfl ⟨O_go (A_extract rfl rfl rfl) rfl, trivial⟩ ?_ rfl
  refine D_ro (u := LS 9 Box.av r44.1) rfl rfl ⟨O_go (Aa rfl rfl) rfl, trivial⟩ ?_ rfl
  refine D_ro (u := LS 4 Stowed.av r44.2) rfl rfl ⟨O_go (Aa rfl rfl) rfl, trivial⟩ ?_ rfl
  refine D_nil ?_
  refine hK42 _ _ ?_
  refine Js fun K45 hK45 => Jr ?_
  refine Jg (u := .agg (Ship.cs r3)) (A_loadAgg tf_agg_35 rfl rfl rfl) ?_ rfl rfl rfl
  refine Jg (u := .vec 1003 ((([] : List law09_Drop) ++ (a.take m6)).length + 1) 4 ((([] : List law09_Drop) ++ (a.take m6)).length)) (Am rfl rfl) ?_ rfl rfl rfl
  refine JL_vfreeze [(2, LS 4 law09_Drop.av a), (9, .dptr (Ship.cs r3)), (10, I64 (min (min (a.length : Int) (b.length : Int)) 9)), (11, LS 4 law09_Drop.av s34), (13, LS 9 Box.av r44.1), (14, LS 4 Stowed.av r44.2), (55, .tup [LS 9 Box.av r44.1, LS 4 Stowed.av r44.2]), (56, .agg (Ship.cs r3)), (57, LS 4 law09_Drop.av a), (58, I64 (min (min (a.length : Int) (b.length : Int)) 9)), (59, LS 4 law09_Drop.av (a.take m43)), (60, .tup [LS 9 Box.av r44.1, LS 4 Stowed.av r44.2]), (61, LS 9 Box.av r44.1), (62, LS 4 Stowed.av r44.2), (64, .agg (Ship.cs r3)), (65, LS 4 law09_Drop.av s34)] [] 1003 rfl rfl trivial rfl (by exact ⟨.conv (.same rfl), .conv (.same rfl), .conv (.same rfl), .vec, .conv (.same rfl), .conv (.same rfl), .conv (.same rfl), .conv (.same rfl), .conv (.same rfl), .conv (.same rfl), .conv (.same rfl), .conv (.same rfl), .conv (.same rfl), .conv (.same rfl), .conv (.same rfl), .vec, trivial⟩) ?_
  obtain ⟨r46, hr46, h⟩ := bnd_out h
  refine Jg (u := .tup [LS 9 Box.av r46.1, LS 4 Stowed.av r46.2]) (A_call1 (args := [.agg (Ship.cs r3), LS 4 law09_Drop.av s34, I64 9]) rfl (M_twistlocklaw09_Loaded_w r3 s34 9 r46 hr46) tf_call_6 ⟨rfl, rfl, rfl, rfl, rfl, rfl, trivial⟩) ?_ rfl rfl rfl
  refine Jg (u := .tup [LS 9 Box.av r46.1, LS 4 Stowed.av r46.2]) (Am rfl rfl) ?_ rfl rfl rfl
  refine Jg (u := LS 9 Box.av r46.1) (A_extract rfl rfl rfl) ?_ rfl rfl rfl
  refine Jg (u := LS 4 Stowed.av r46.2) (A_extract rfl rfl rfl) ?_ rfl rfl rfl
  refine Jg (u := LS 9 Box.av r46.1) (Aa rfl rfl) ?_ rfl rfl rfl
  refine Jg (u := LS 4 Stowed.av r46.2) (Aa rfl rfl) ?_ rfl rfl rfl
  refine Jn (hK45 _ _ ?_)
  refine Js fun K47 hK47 => Jr ?_
  refine Jg (u := .agg (Ship.cs r3)) (A_loadAgg tf_agg_35 rfl rfl rfl) ?_ rfl rfl rfl
  refine Jg (u := LS 9 Box.av r44.1) (Am rfl rfl) ?_ rfl rfl rfl
  refine Jg (u := LS 4 Stowed.av r44.2) (Am rfl rfl) ?_ rfl rfl rfl
  refine Jg (u := LS 4 Stowed.av r46.2) (Am rfl rfl) ?_ rfl rfl rfl
  obtain ⟨r48, hr48, h⟩ := bnd_out h
  refine Jg (u := .tup [LS 1 I64 r48.1, I64 r48.2]) (A_call1 (args := [.agg (Ship.cs r3), LS 9 Box.av r44.1, LS 4 Stowed.av r44.2, LS 4 Stowed.av r46.2]) rfl (M_plan_Lifted_w F r3 r44.1 r44.2 r46.2 r48 hr48) tf_call_7 ⟨rfl, rfl, rfl, rfl, rfl, rfl, rfl, rfl, trivial⟩) ?_ rfl rfl rfl
  refine Jg (u := .tup [LS 1 I64 r48.1, I64 r48.2]) (Am rfl rfl) ?_ rfl rfl rfl
  refine Jg (u := LS 1 I64 r48.1) (A_extract rfl rfl rfl) ?_ rfl rfl rfl
  refine Jg (u := I64 r48.2) (A_extract rfl rfl rfl) ?_ rfl rfl rfl
  refine Jg (u := LS 1 I64 r48.1) (Aa rfl rfl) ?_ rfl rfl rfl
  refine Jg (u := I64 r48.2) (Aa rfl rfl) ?_ rfl rfl rfl
  refine Jn (hK47 _ _ ?_)
  refine Js fun K49 hK49 => Jr ?_
  refine Jg (u := .agg (Ship.cs r3)) (A_loadAgg tf_agg_35 rfl rfl rfl) ?_ rfl rfl rfl
  refine Jg (u := LS 9 Box.av r44.1) (Am rfl rfl) ?_ rfl rfl rfl
  refine Jg (u := LS 4 Stowed.av r46.2) (Am rfl rfl) ?_ rfl rfl rfl
  refine Jg (u := LS 4 Stowed.av r44.2) (Am rfl rfl) ?_ rfl rfl rfl
  obtain ⟨r50, hr50, h⟩ := bnd_out h
  refine Jg (u := .tup [LS 1 I64 r50.1, I64 r50.2]) (A_call1 (args := [.agg (Ship.cs r3), LS 9 Box.av r44.1, LS 4 Stowed.av r46.2, LS 4 Stowed.av r44.2]) rfl (M_plan_Lifted_w F r3 r44.1 r46.2 r44.2 r50 hr50) tf_call_7 ⟨rfl, rfl, rfl, rfl, rfl, rfl, rfl, rfl, trivial⟩) ?_ rfl rfl rfl
  refine Jg (u := .tup [LS 1 I64 r50.1, I64 r50.2]) (Am rfl rfl) ?_ rfl rfl rfl
  refine Jg (u := LS 1 I64 r50.1) (A_extract rfl rfl rfl) ?_ rfl rfl rfl
  refine Jg (u := I64 r50.2) (A_extract rfl rfl rfl) ?_ rfl rfl rfl
  refine Jg (u := LS 1 I64 r50.1) (Aa rfl rfl) ?_ rfl rfl rfl
  refine Jg (u := I64 r50.2) (Aa rfl rfl) ?_ rfl rfl rfl
  refine Jn (hK49 _ _ ?_)
  refine Js fun K51 hK51 => Jr ?_
  refine Jg (u := .agg (Ship.cs r3)) (A_loadAgg tf_agg_35 rfl rfl rfl) ?_ rfl rfl rfl
  refine Jg (u := LS 9 Box.av r44.1) (Am rfl rfl) ?_ rfl rfl rfl
  refine Jg (u := LS 4 Stowed.av r44.2) (Am rfl rfl) ?_ rfl rfl rfl
  refine Jg (u := LS 4 Stowed.av r44.2) (Am rfl rfl) ?_ rfl rfl rfl
  obtain ⟨r52, hr52, h⟩ := bnd_out h
  refine Jg (u := .tup [LS 1 I64 r52.1, I64 r52.2]) (A_call1 (args := [.agg (Ship.cs r3), LS 9 Box.av r44.1, LS 4 Stowed.av r44.2, LS 4 Stowed.av r44.2]) rfl (M_plan_Lifted_w F r3 r44.1 r44.2 r44.2 r52 hr52) tf_call_7 ⟨rfl, rfl, rfl, rfl, rfl, rfl, rfl, rfl, trivial⟩) ?_ rfl rfl rfl
  refine Jg (u := .tup [LS 1 I64 r52.1, I64 r52.2]) (Am rfl rfl) ?_ rfl rfl rfl
  refine Jg (u := LS 1 I64 r52.1) (A_extract rfl rfl rfl) ?_ rfl rfl rfl
  refine Jg (u := I64 r52.2) (A_extract rfl rfl rfl) ?_ rfl rfl rfl
  refine Jg (u := LS 1 I64 r52.1) (Aa rfl rfl) ?_ rfl rfl rfl
  refine Jg (u := I64 r52.2) (Aa rfl rfl) ?_ rfl rfl rfl
  refine Jn (hK51 _ _ ?_)
  refine Js (fun K53 hK53 => ?_)
  refine Js fun K54 hK54 => Jr ?_
  refine Jg (u := I64 r48.2) (Am rfl rfl) ?_ rfl rfl rfl
  refine Jg (u := I64 r50.2) (Am rfl rfl) ?_ rfl rfl rfl
  obtain ⟨v55, hv55, h⟩ := chk_out h
  refine Jg (u := I64 v55) (A_add hv55 rfl rfl rfl) ?_ rfl rfl rfl
  refine Jg (u := I64 r52.2) (Am rfl rfl) ?_ rfl rfl rfl
  obtain ⟨v56, hv56, h⟩ := chk_out h
  refine Jg (u := I64 v56) (A_add hv56 rfl rfl rfl) ?_ rfl rfl rfl
  refine Jg (u := BL (decide (v56 ≠ 0))) (A_neq rfl rfl rfl) ?_ rfl rfl rfl
  refine Jg (u := BL (decide (v56 ≠ 0))) (Am rfl rfl) ?_ rfl rfl rfl
  refine JL_opt (u := LS 1 I64 r52.1) [] rfl rfl rfl .scf trivial (fun hc => Am rfl rfl) ?_ rfl rfl rfl
  refine JL_opt (u := I64 (r52.1.length : Int)) [(100, LS 1 I64 r52.1)] rfl rfl rfl .scf ⟨.all id, trivial⟩ (fun hc => A_lenM (f := I64) (xs := r52.1) tf_slice_43 rfl rfl) ?_ rfl rfl rfl
  refine JL_opt (u := BL (decide ((r52.1.length : Int) ≠ 0))) [(101, I64 (r52.1.length : Int))] rfl rfl rfl .scf ⟨.all id, trivial⟩ (fun hc => A_neq rfl rfl rfl) ?_ rfl rfl rfl
  refine Jg (u := BL ((decide (v56 ≠ 0)) || (decide ((r52.1.length : Int) ≠ 0)))) (A_or rfl rfl rfl rfl) ?_ rfl rfl rfl
  refine Jg (u := BL ((decide (v56 ≠ 0)) || (decide ((r52.1.length : Int) ≠ 0)))) (Am rfl rfl) ?_ rfl rfl rfl
  refine JL_opt (u := LS 1 I64 r48.1) [] rfl rfl rfl .scf trivial (fun hc => Am rfl rfl) ?_ rfl rfl rfl
  refine JL_opt (u := LS 1 I64 r50.1) [] rfl rfl rfl .scf trivial (fun hc => Am rfl rfl) ?_ rfl rfl rfl
  obtain ⟨r57, hr57, h⟩ := bnd_out h
  refine JL_opt (u := BL r57) [(105, LS 1 I64 r48.1), (106, LS 1 I64 r50.1)] rfl rfl rfl .scf ⟨.all id, .all id, trivial⟩ (fun hc => A_call1 (args := [LS 1 I64 r48.1, LS 1 I64 r50.1]) rfl (M_twistlockkit_SameInts_w r48.1 r50.1 r57 (bif_t hc hr57)) tf_call_8 ⟨rfl, rfl, rfl, rfl, trivial⟩) ?_ rfl rfl rfl
  refine JL_opt (u := BL (!r57)) [(107, BL r57)] rfl rfl rfl .scf ⟨.all id, trivial⟩ (fun hc => A_not (b := r57) rfl rfl) ?_ rfl rfl rfl
  refine Jg (u := BL (((decide (v56 ≠ 0)) || (decide ((r52.1.length : Int) ≠ 0))) || (!r57))) (A_or rfl rfl rfl rfl) ?_ rfl rfl rfl
  refine Jn (hK54 _ _ ?_)
  refine JC_cond rfl (fun hb => ?_) (fun hb => ?_)
  ·
   replace h := bif_t hb h
   refine Js fun K58 hK58 => Jr ?_
   refine Jg (u := BL false) (Aa rfl rfl) ?_ rfl rfl rfl
   refine Jn (hK58 _ _ ?_)
   refine JC_ret ?_
   exact ⟨[BL false], [], trivial, rfl, ⟨⟨_, rfl, .conv (.same rfl)⟩, trivial⟩, rfl, congrArg (fun r : Bool => (BL r : AV)) (Option.some.inj h)⟩
  ·
   replace h := bif_f hb h
   refine JC_skip ?_
   refine hK53 _ _ ?_
   refine Js (fun K59 hK59 => ?_)
   refine Js fun K60 hK60 => Jr ?_
   refine Jg (u := LS 1 I64 r48.1) (Am rfl rfl) ?_ rfl rfl rfl
   refine JL_lenM (f := I64) (xs := r48.1) tf_slice_43 rfl rfl (fun hm111 => ?_) rfl rfl rfl
   refine Jg (u := I64 0) (Am rfl rfl) ?_ rfl rfl rfl
   refine Jn (hK60 _ _ ?_)
   refine JC_block ?_
   obtain ⟨b81, kx81, hb81, hkx81, h⟩ := each_in h
   refine JC_loop2 (fun i81 (s81 : Unit) => each b81 kx81 (List.drop i81 r48.1) i81 s81 = some r) (fun i81 s81 => [(9, .dptr (Ship.cs r3)), (13, LS 9 Box.av r44.1), (14, LS 4 Stowed.av r44.2), (16, LS 4 Stowed.av r46.2), (17, LS 1 I64 r48.1), (110, LS 1 I64 r48.1), (111, I64 (r48.1.length : Int)), (112, I64 (i81 : Int))]) (fun i81 s81 => []) (fun i81 => r48.1.length - i81) 0 () h ⟨⟨.same rfl, .same rfl, .same rfl, .same rfl, .same rfl, .same rfl, .same rfl, .same rfl, trivial⟩, trivial, rfl⟩ ?_
   clear h
   intro i81 s81 hi81 K81 e81
   refine Js fun K82 hK82 => Jr ?_
   refine Jg (u := BL (decide ((i81 : Int) < (r48.1.length : Int)))) (A_lss rfl rfl rfl) ?_ rfl rfl rfl
   refine Jn (hK82 _ _ ?_)
   refine Js (fun K83 hK83 => ?_)
   refine JC_cond rfl (fun hb => ?_) (fun hb => ?_)
   ·
    have hk81 := lt_len hb
    obtain ⟨y81, nx81, hy81, hn81, h⟩ := each_out hi81 hk81
    replace h := app4 hb81 h
    refine JC_skip ?_
    refine hK83 _ _ ?_
    refine Js (fun K84 hK84 => ?_)
    refine JC_block ?_
    refine Js fun K85 hK85 => Jr ?_
    refine Jg (u := I64 (i81 : Int)) (Am rfl rfl) ?_ rfl rfl rfl
    refine Jg (u := .dptr [I64 y81]) (A_indexM (f := I64) (xs := r48.1) (y := y81) rfl rfl rfl tf_slice_43 hy81 rfl) ?_ rfl rfl rfl
    refine Jg (u := I64 y81) (A_load tf_scalar_3 rfl rfl rfl) ?_ rfl rfl rfl
    refine Jg (u := I64 (i81 : Int)) (Aa rfl rfl) ?_ rfl rfl rfl
    refine Jg (u := I64 y81) (Aa rfl rfl) ?_ rfl rfl rfl
    refine Jn (hK85 _ _ ?_)
    refine Js fun K86 hK86 => Jr ?_
    refine Jg (u := I64 (i81 : Int)) (Am rfl rfl) ?_ rfl rfl rfl
    refine Jg (u := BL (decide (0 < (i81 : Int)))) (A_gtr rfl rfl rfl) ?_ rfl rfl rfl
    refine Jg (u := BL (decide (0 < (i81 : Int)))) (Am rfl rfl) ?_ rfl rfl rfl
    refine JL_opt (u := I64 y81) [] rfl rfl rfl .sct trivial (fun hc => Am rfl rfl) ?_ rfl rfl rfl
    refine JL_opt (u := LS 1 I64 r48.1) [] rfl rfl rfl .sct trivial (fun hc => Am rfl rfl) ?_ rfl rfl rfl
    refine JL_opt (u := I64 (i81 : Int)) [] rfl rfl rfl .sct trivial (fun hc => Am rfl rfl) ?_ rfl rfl rfl
    obtain ⟨v87, hv87, h⟩ := bnd_out h
    refine JL_opt (u := I64 v87) [(122, I64 (i81 : Int))] rfl rfl rfl .sct ⟨.all id, trivial⟩ (fun hc => A_sub (chk_some (bif_t hc hv87)) rfl rfl rfl) ?_ rfl rfl rfl
    obtain ⟨y88, hy88, h⟩ := bnd_out h
    refine JL_opt (u := .dptr [I64 y88]) [(121, LS 1 I64 r48.1), (123, I64 v87)] rfl rfl rfl .sct ⟨.all id, .all id, trivial⟩ (fun hc => (match gidx_some (bif_t hc hy88) with | ⟨_, hm_, hy_⟩ => A_indexM (f := I64) (xs := r48.1) (y := y88) rfl rfl rfl tf_slice_43 hy_ hm_)) ?_ rfl rfl rfl
    refine JL_opt (u := I64 y88) [(124, .dptr [I64 y88])] rfl rfl rfl .sct ⟨.all id, trivial⟩ (fun hc => A_load tf_scalar_3 rfl rfl rfl) ?_ rfl rfl rfl
    refine JL_opt (u := BL (decide (y81 ≤ y88))) [(120, I64 y81), (125, I64 y88)] rfl rfl rfl .sct ⟨.all id, .all id, trivial⟩ (fun hc => A_leq rfl rfl rfl) ?_ rfl rfl rfl
    refine Jg (u := BL ((decide (0 < (i81 : Int))) && (decide (y81 ≤ y88)))) (A_and rfl rfl rfl rfl) ?_ rfl rfl rfl
    refine Jg (u := BL ((decide (0 < (i81 : Int))) && (decide (y81 ≤ y88)))) (Am rfl rfl) ?_ rfl rfl rfl
    refine JL_opt (u := .agg (Ship.cs r3)) [] rfl rfl rfl .scf trivial (fun hc => A_loadAgg tf_agg_35 rfl rfl rfl) ?_ rfl rfl rfl
    refine JL_opt (u := LS 4 Stowed.av r44.2) [] rfl rfl rfl .scf trivial (fun hc => Am rfl rfl) ?_ rfl rfl rfl
    refine JL_opt (u := LS 4 Stowed.av r46.2) [] rfl rfl rfl .scf trivial (fun hc => Am rfl rfl) ?_ rfl rfl rfl
    refine JL_opt (u := LS 1 I64 r48.1) [] rfl rfl rfl .scf trivial (fun hc => Am rfl rfl) ?_ rfl rfl rfl
    refine JL_opt (u := I64 y81) [] rfl rfl rfl .scf trivial (fun hc => Am rfl rfl) ?_ rfl rfl rfl
    obtain ⟨r89, hr89, h⟩ := bnd_out h
    refine JL_opt (u := BL r89) [(129, .agg (Ship.cs r3)), (130, LS 4 Stowed.av r44.2), (131, LS 4 Stowed.av r46.2), (132, LS 1 I64 r48.1), (133, I64 y81)] rfl rfl rfl .scf ⟨.all id, .all id, .all id, .all id, .all id, trivial⟩ (fun hc => A_call1 (args := [.agg (Ship.cs r3), LS 4 Stowed.av r44.2, LS 4 Stowed.av r46.2, LS 1 I64 r48.1, I64 y81]) rfl (M_twistlocklaw23_reason_w r3 r44.2 r46.2 r48.1 y81 r89 (bif_t hc hr89)) tf_call_9 ⟨rfl, rfl, rfl, rfl, rfl, rfl, rfl, rfl, rfl, rfl, trivial⟩) ?_ rfl rfl rfl
    refine JL_opt (u := BL (!r89)) [(134, BL r89)] rfl rfl rfl .scf ⟨.all id, trivial⟩ (fun hc => A_not (b := r89) rfl rfl) ?_ rfl rfl rfl
    refine Jg (u := BL (((decide (0 < (i81 : Int))) && (decide (y81 ≤ y88))) || (!r89))) (A_or rfl rfl rfl rfl) ?_ rfl rfl rfl
    refine Jn (hK86 _ _ ?_)
    refine JC_cond rfl (fun hb => ?_) (fun hb => ?_)
    ·
     replace h := bif_t hb h
     refine Js fun K90 hK90 => Jr ?_
     refine Jg (u := BL false) (Aa rfl rfl) ?_ rfl rfl rfl
     refine Jn (hK90 _ _ ?_)
     refine JC_ret ?_
     exact ⟨[BL false], [], trivial, rfl, ⟨⟨_, rfl, .conv (.same rfl)⟩, trivial⟩, rfl, congrArg (fun r : Bool => (BL r : AV)) (Option.some.inj h)⟩
    ·
     replace h := bif_f hb h
     refine JC_skip ?_
     refine hK84 _ _ ?_
     refine Jr ?_
     refine Jg (u := I64 ((i81 + 1 : Nat) : Int)) (A_add (idx_succ hk81 hm111) rfl rfl rfl) ?_ rfl rfl rfl
     refine Jg (u := I64 ((i81 + 1 : Nat) : Int)) (Am rfl rfl) ?_ rfl rfl rfl
     refine Jn ?_
     exact e81 _ _ (i81 + 1) () (app1 hn81 h) (by omega) ⟨⟨.same rfl, .same rfl, .same rfl, .same rfl, .same rfl, .same rfl, .same rfl, .same rfl, trivial⟩, trivial, rfl⟩
   ·
    have h := app1 hkx81 (each_nil hi81 (not_lt_len hb))
    refine JC_exit ?_
    refine hK59 _ _ ?_
    refine Js (fun K91 hK91 => ?_)
    refine Js fun K92 hK92 => Jr ?_
    refine Jg (u := LS 9 Box.av r44.1) (Am rfl rfl) ?_ rfl rfl rfl
    refine JL_lenM (f := Box.av) (xs := r44.1) tf_slice_39 rfl rfl (fun hm139 => ?_) rfl rfl rfl
    refine Jg (u := I64 0) (Am rfl rfl) ?_ rfl rfl rfl
    refine Jn (hK92 _ _ ?_)
    refine JC_block ?_
    obtain ⟨b115, kx115, hb115, hkx115, h⟩ := each_in h
    refine JC_loop2 (fun i115 (s115 : Unit) => each b115 kx115 (List.drop i115 r44.1) i115 s115 = some r) (fun i115 s115 => [(9, .dptr (Ship.cs r3)), (14, LS 4 Stowed.av r44.2), (16, LS 4 Stowed.av r46.2), (17, LS 1 I64 r48.1), (138, LS 9 Box.av r44.1), (139, I64 (r44.1.length : Int)), (140, I64 (i115 : Int))]) (fun i115 s115 => []) (fun i115 => r44.1.length - i115) 0 () h ⟨⟨.same rfl, .same rfl, .same rfl, .same rfl, .same rfl, .same rfl, .same rfl, trivial⟩, trivial, rfl⟩ ?_
    clear h
    intro i115 s115 hi115 K115 e115
    refine Js fun K116 hK116 => Jr ?_
    refine Jg (u := BL (decide ((i115 : Int) < (r44.1.length : Int)))) (A_lss rfl rfl rfl) ?_ rfl rfl rfl
    refine Jn (hK116 _ _ ?_)
    refine Js (fun K117 hK117 => ?_)
    refine JC_cond rfl (fun hb => ?_) (fun hb => ?_)
    ·
     have hk115 := lt_len hb
     obtain ⟨y115, nx115, hy115, hn115, h⟩ := each_out hi115 hk115
     replace h := app4 hb115 h
     refine JC_skip ?_
     refine hK117 _ _ ?_
     refine Js (fun K118 hK118 => ?_)
     refine JC_block ?_
     refine Js fun K119 hK119 => Jr ?_
     refine Jg (u := .dptr (Box.cs y115)) (A_indexM (f := Box.av) (xs := r44.1) (y := y115) rfl rfl rfl tf_slice_39 hy115 rfl) ?_ rfl rfl rfl
     refine Jg (u := .agg (Box.cs y115)) (A_loadAgg tf_agg_50 rfl rfl rfl) ?_ rfl rfl rfl
     refine Jg (u := .ptr 1002 0) (A_allocJ 1002 9 tf_zsize_50 rfl rfl) ?_ rfl rfl rfl
     refine JL_go0 (u := .junk) (A_store (u := .agg (Box.cs y115)) (ds := [I64 y115.ID, ST y115.Number, U8 y115.Size, BL y115.High, I64 y115.Kilos, I64 y115.Load, I64 y115.Discharge, U8 y115.Class, BL y115.Reefer]) tf_size_50 rfl rfl rfl rfl rfl rfl rfl rfl) ?_ rfl rfl
     refine Jn (hK119 _ _ ?_)
     refine JC_freeze [(9, .dptr (Ship.cs r3)), (14, LS 4 Stowed.av r44.2), (16, LS 4 Stowed.av r46.2), (17, LS 1 I64 r48.1), (26, .dptr (Box.cs y115)), (138, LS 9 Box.av r44.1), (139, I64 (r44.1.length : Int)), (140, I64 (i115 : Int))] [] 1002 rfl rfl rfl trivial rfl (by exact ⟨.conv (.same rfl), .conv (.same rfl), .conv (.same rfl), .conv (.same rfl), .ptr, .conv (.same rfl), .conv (.same rfl), .conv (.same rfl), trivial⟩) ?_
     refine Js fun K120 hK120 => Jr ?_
     refine Jg (u := LS 1 I64 r48.1) (Am rfl rfl) ?_ rfl rfl rfl
     refine Jg (u := .dptr (Box.cs y115)) (A_fieldM tf_field_50_0 rfl rfl rfl) ?_ rfl rfl rfl
     refine Jg (u := I64 y115.ID) (A_load tf_scalar_3 rfl rfl rfl) ?_ rfl rfl rfl
     obtain ⟨r121, hr121, h⟩ := bnd_out h
     refine Jg (u := BL r121) (A_call1 (args := [LS 1 I64 r48.1, I64 y115.ID]) rfl (M_twistlocklaw23_has_w r48.1 y115.ID r121 hr121) tf_call_10 ⟨rfl, rfl, rfl, rfl, trivial⟩) ?_ rfl rfl rfl
     refine Jg (u := BL (!r121)) (A_not (b := r121) rfl rfl) ?_ rfl rfl rfl
     refine Jg (u := BL (!r121)) (Am rfl rfl) ?_ rfl rfl rfl
     refine JL_opt (u := LS 4 Stowed.av r44.2) [] rfl rfl rfl .sct trivial (fun hc => Am rfl rfl) ?_ rfl rfl rfl
     refine JL_opt (u := .dptr (Box.cs y115)) [] rfl rfl rfl .sct trivial (fun hc => A_fieldM tf_field_50_0 rfl rfl rfl) ?_ rfl rfl rfl
     refine JL_opt (u := I64 y115.ID) [(151, .dptr (Box.cs y115))] rfl rfl rfl .sct ⟨.all id, trivial⟩ (fun hc => A_load tf_scalar_3 rfl rfl rfl) ?_ rfl rfl rfl
     obtain ⟨r122, hr122, h⟩ := bnd_out h
     refine JL_opt (u := BL r122) [(150, LS 4 Stowed.av r44.2), (152, I64 y115.ID)] rfl rfl rfl .sct ⟨.all id, .all id, trivial⟩ (fun hc => A_call1 (args := [LS 4 Stowed.av r44.2, I64 y115.ID]) rfl (M_twistlocklaw23_holds_w r44.2 y115.ID r122 (bif_t hc hr122)) tf_call_11 ⟨rfl, rfl, rfl, rfl, trivial⟩) ?_ rfl rfl rfl
     refine JL_opt (u := BL r122) [(153, BL r122)] rfl rfl rfl .sct ⟨.all id, trivial⟩ (fun hc => Am rfl rfl) ?_ rfl rfl rfl
     refine JL_opt (u := LS 4 Stowed.av r46.2) [] rfl rfl rfl .optf trivial (fun hc => Am rfl rfl) ?_ rfl rfl rfl
     refine JL_opt (u := .dptr (Box.cs y115)) [] rfl rfl rfl .optf trivial (fun hc => A_fieldM tf_field_50_0 rfl rfl rfl) ?_ rfl rfl rfl
     refine JL_opt (u := I64 y115.ID) [(156, .dptr (Box.cs y115))] rfl rfl rfl .optf ⟨.all id, trivial⟩ (fun hc => A_load tf_scalar_3 rfl rfl rfl) ?_ rfl rfl rfl
     obtain ⟨r123, hr123, h⟩ := bnd_out h
     refine JL_opt (u := BL r123) [(155, LS 4 Stowed.av r46.2), (157, I64 y115.ID)] rfl rfl rfl .optf ⟨.all id, .all id, trivial⟩ (fun hc => A_call1 (args := [LS 4 Stowed.av r46.2, I64 y115.ID]) rfl (M_twistlocklaw23_holds_w r46.2 y115.ID r123 (bif_t hc hr123)) tf_call_11 ⟨rfl, rfl, rfl, rfl, trivial⟩) ?_ rfl rfl rfl
     refine JL_opt (u := BL (r122 || r123)) [(154, BL r122), (158, _)] rfl rfl rfl .sct ⟨.all id, .part, trivial⟩ (fun hc => A_or rfl rfl rfl rfl) ?_ rfl rfl rfl
     refine Jg (u := BL ((!r121) && (r122 || r123))) (A_and rfl rfl rfl rfl) ?_ rfl rfl rfl
     refine Jg (u := BL ((!r121) && (r122 || r123))) (Am rfl rfl) ?_ rfl rfl rfl
     refine JL_opt (u := .agg (Ship.cs r3)) [] rfl rfl rfl .sct trivial (fun hc => A_loadAgg tf_agg_35 rfl rfl rfl) ?_ rfl rfl rfl
     refine JL_opt (u := LS 4 Stowed.av r44.2) [] rfl rfl rfl .sct trivial (fun hc => Am rfl rfl) ?_ rfl rfl rfl
     refine JL_opt (u := LS 4 Stowed.av r46.2) [] rfl rfl rfl .sct trivial (fun hc => Am rfl rfl) ?_ rfl rfl rfl
     refine JL_opt (u := LS 1 I64 r48.1) [] rfl rfl rfl .sct trivial (fun hc => Am rfl rfl) ?_ rfl rfl rfl
     refine JL_opt (u := .dptr (Box.cs y115)) [] rfl rfl rfl .sct trivial (fun hc => A_fieldM tf_field_50_0 rfl rfl rfl) ?_ rfl rfl rfl
     refine JL_opt (u := I64 y115.ID) [(166, .dptr (Box.cs y115))] rfl rfl rfl .sct ⟨.all id, trivial⟩ (fun hc => A_load tf_scalar_3 rfl rfl rfl) ?_ rfl rfl rfl
     obtain ⟨r124, hr124, h⟩ := bnd_out h
     refine JL_opt (u := BL r124) [(162, .agg (Ship.cs r3)), (163, LS 4 Stowed.av r44.2), (164, LS 4 Stowed.av r46.2), (165, LS 1 I64 r48.1), (167, I64 y115.ID)] rfl rfl rfl .sct ⟨.all id, .all id, .all id, .all id, .all id, trivial⟩ (fun hc => A_call1 (args := [.agg (Ship.cs r3), LS 4 Stowed.av r44.2, LS 4 Stowed.av r46.2, LS 1 I64 r48.1, I64 y115.ID]) rfl (M_twistlocklaw23_reason_w r3 r44.2 r46.2 r48.1 y115.ID r124 (bif_t hc hr124)) tf_call_9 ⟨rfl, rfl, rfl, rfl, rfl, rfl, rfl, rfl, rfl, rfl, trivial⟩) ?_ rfl rfl rfl
     refine Jg (u := BL (((!r121) && (r122 || r123)) && r124)) (A_and rfl rfl rfl rfl) ?_ rfl rfl rfl
     refine Jn (hK120 _ _ ?_)
     refine JC_cond rfl (fun hb => ?_) (fun hb => ?_)
     ·
      replace h := bif_t hb h
      refine Js fun K125 hK125 => Jr ?_
      refine Jg (u := BL false) (Aa rfl rfl) ?_ rfl rfl rfl
      refine Jn (hK125 _ _ ?_)
      refine JC_ret ?_
      exact ⟨[BL false], [], trivial, rfl, ⟨⟨_, rfl, .conv (.same rfl)⟩, trivial⟩, rfl, congrArg (fun r : Bool => (BL r : AV)) (Option.some.inj h)⟩
     ·
      replace h := bif_f hb h
      refine JC_skip ?_
      refine hK118 _ _ ?_
      refine Jr ?_
      refine Jg (u := I64 ((i115 + 1 : Nat) : Int)) (A_add (idx_succ hk115 hm139) rfl rfl rfl) ?_ rfl rfl rfl
      refine Jg (u := I64 ((i115 + 1 : Nat) : Int)) (Am rfl rfl) ?_ rfl rfl rfl
      refine Jn ?_
      exact e115 _ _ (i115 + 1) () (app1 hn115 h) (by omega) ⟨⟨.same rfl, .same rfl, .same rfl, .same rfl, .same rfl, .same rfl, .same rfl, trivial⟩, trivial, rfl⟩
    ·
     have h := app1 hkx115 (each_nil hi115 (not_lt_len hb))
     refine JC_exit ?_
     refine hK91 _ _ ?_
     refine Js fun K126 hK126 => Jr ?_
     obtain ⟨r127, hr127, h⟩ := bnd_out h
     refine Jg (u := BL r127) (A_call1 (args := []) rfl (M_twistlocklaw23_awake_w F r127 hr127) tf_call_12 trivial) ?_ rfl rfl rfl
     refine Jg (u := BL r127) (Aa rfl rfl) ?_ rfl rfl rfl
     refine Jn (hK126 _ _ ?_)
     refine JC_ret ?_
     exact ⟨[BL r127], [], trivial, rfl, ⟨⟨_, rfl, .conv (.same rfl)⟩, trivial⟩, rfl, congrArg (fun r : Bool => (BL r : AV)) (Option.some.inj h)⟩
end
end Go.Proofs.Ytbpgdkibmejibaa
