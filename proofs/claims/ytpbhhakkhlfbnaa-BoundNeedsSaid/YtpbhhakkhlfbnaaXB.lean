/-
  Models of functions of the program, and that they return what the models say.
-/
import Derived.Test.YtpbhhakkhlfbnaaProg
import Derived.Test.YtpbhhakkhlfbnaaSortM
import Derived.Test.YtpbhhakkhlfbnaaSortLay
import Derived.Test.YtpbhhakkhlfbnaaRel
import Derived.Test.YtpbhhakkhlfbnaaXAa
import Derived.Test.YtpbhhakkhlfbnaaXA
import Derived.Test.YtpbhhakkhlfbnaaSpecA
import Derived.Test.YtpbhhakkhlfbnaaSpecG
set_option maxRecDepth 100000
set_option linter.unusedVariables false
set_option linter.unusedSimpArgs false
namespace Go.Proofs.Ytpbhhakkhlfbnaa
open Go.RowKit
noncomputable section

namespace XBF
open XAF
theorem tf_call_10 : callB Try.prog 10 = true := by kernel_rfl
theorem tf_call_12 : callB Try.prog 12 = true := by kernel_rfl
theorem tf_call_19 : callB Try.prog 19 = true := by kernel_rfl
theorem tf_call_21 : callB Try.prog 21 = true := by kernel_rfl
theorem tf_call_22 : callB Try.prog 22 = true := by kernel_rfl
theorem tf_call_23 : callB Try.prog 23 = true := by kernel_rfl
theorem tf_call_25 : callB Try.prog 25 = true := by kernel_rfl
theorem tf_call_26 : callB Try.prog 26 = true := by kernel_rfl
theorem tf_call_27 : callB Try.prog 27 = true := by kernel_rfl
theorem tf_call_28 : callB Try.prog 28 = true := by kernel_rfl
theorem tf_call_29 : callB Try.prog 29 = true := by kernel_rfl
theorem tf_call_38 : callB Try.prog 38 = true := by kernel_rfl
theorem tf_call_6 : callB Try.prog 6 = true := by kernel_rfl
theorem tf_elem_24 : elemB Try.prog 24 2 16 = true := by kernel_rfl
theorem tf_elem_26 : elemB Try.prog 26 1 24 = true := by kernel_rfl
theorem tf_elem_56 : elemB Try.prog 56 1 24 = true := by kernel_rfl
theorem tf_map_89 : mapB Try.prog 89 24 3 = true := by kernel_rfl
theorem tf_size_56 : sizeB Try.prog 56 1 = true := by kernel_rfl
theorem tf_slice_59 : sliceB Try.prog 59 56 1 = true := by kernel_rfl
theorem tf_zero_29 : (Try.prog.info? 29).bind (fun i => i.zero.map Value.cells) = some (List.toArray [.int .i64 0, .int .i64 0, .int .i64 0, .int .i64 0]) := by kernel_rfl
theorem tf_zero_56 : (Try.prog.info? 56).bind (fun i => i.zero.map Value.cells) = some (List.toArray [.slice none 0 0]) := by kernel_rfl
theorem tf_zsize_26 : zsizeB Try.prog 26 1 = true := by kernel_rfl
theorem tf_zsize_56 : zsizeB Try.prog 56 1 = true := by kernel_rfl
end XBF
open XAF
open XBF

def M_bound_right (s : Ship) (boxes : List Box) : Option Bool :=
  bnd (S_ship_Right s) fun r3 =>
  bnd (bif r3 then M_plan_Boxes boxes 20 else some default) fun r4 =>
  some (r3 && r4)
theorem M_bound_right_w (s : Ship) (boxes : List Box) (r : Bool) (h : M_bound_right s boxes = some r) : Pure Try.prog 22 [.agg (Ship.cs s), LS 9 Box.av boxes] (· = BL r) := by
  unfold M_bound_right at h
  refine Pure_ofG [.tmp 4] Try.func22 rfl rfl ?_
  refine JC_seq (fun K1 hK1 => ?_)
  refine JC_region ?_
  refine JL_go (u := .ptr 230000002 0) (A_box (u := .agg (Ship.cs s)) (cs := [LS 12 Column.av s.Columns, LS 2 Cover.av s.Covers, I64 s.Light.Kilos, I64 s.Light.X, I64 s.Light.Y, I64 s.Light.Z, LS 5 Row.av s.Rows, LS 5 Frame.av s.Frames, LS 6 Tank.av s.Tanks, I64 s.Limits.Tolerance, I64 s.Limits.Trim, I64 s.Limits.List_, I64 s.Limits.Stability]) 230000002 rfl rfl rfl rfl rfl) ?_ rfl rfl rfl
  refine JL_go (u := BL false) (A_assign rfl rfl) ?_ rfl rfl rfl
  refine JL_nil ?_
  refine hK1 _ _ ?_
  refine JC_freeze [(1, LS 9 Box.av boxes), (2, .dptr (Ship.cs s))] [] 230000002 rfl rfl rfl trivial rfl (by exact ⟨.conv (.same rfl), .ptr, trivial⟩) ?_
  refine JC_seq (fun K2 hK2 => ?_)
  refine JC_region ?_
  refine JL_go (u := .agg (Ship.cs s)) (A_loadAgg tf_agg_47 rfl rfl rfl) ?_ rfl rfl rfl
  obtain ⟨r3, hr3, h⟩ := bnd_out h
  refine JL_go (u := BL r3) (A_call1 (args := [.agg (Ship.cs s)]) rfl (S_ship_Right_w.down s r3 hr3) tf_call_19 ⟨rfl, rfl, trivial⟩) ?_ rfl rfl rfl
  refine JL_go (u := BL r3) (A_move rfl rfl) ?_ rfl rfl rfl
  refine JL_opt (u := LS 9 Box.av boxes) [] rfl rfl rfl .sct trivial (fun hc => A_move rfl rfl) ?_ rfl rfl rfl
  obtain ⟨r4, hr4, h⟩ := bnd_out h
  refine JL_opt (u := BL r4) [(8, LS 9 Box.av boxes)] rfl rfl rfl .sct ⟨.all id, trivial⟩ (fun hc => A_call1 (args := [LS 9 Box.av boxes, I64 20]) rfl (M_plan_Boxes_w boxes 20 r4 (bif_t hc hr4)) tf_call_38 ⟨rfl, rfl, rfl, rfl, trivial⟩) ?_ rfl rfl rfl
  refine JL_go (u := BL (r3 && r4)) (A_and rfl rfl rfl rfl) ?_ rfl rfl rfl
  refine JL_go (u := BL (r3 && r4)) (A_assign rfl rfl) ?_ rfl rfl rfl
  refine JL_nil ?_
  refine hK2 _ _ ?_
  refine JC_ret ?_
  exact ⟨[BL (r3 && r4)], [], trivial, rfl, ⟨⟨_, rfl, .conv (.same rfl)⟩, trivial⟩, rfl, congrArg (fun r : Bool => (BL r : AV)) (Option.some.inj h)⟩

def M_bound_Family (F : Nat) (s : Ship) (boxes : List Box) (l : List Group) : Option (Int × Int) :=
  bnd (M_bound_right s boxes) fun r4 =>
  bif (!r4) then
  (some (0, 2))
  else
  (bnd (S_bound_Groups boxes) fun r7 =>
    bnd (M_bound_family r7 l) fun r8 =>
    bif decide (r8.2 ≠ 0) then
    (some (0, r8.2))
    else
    (bnd (M_bound_bound F s r8.1) fun r13 =>
      some (r13, 0)))
theorem M_bound_Family_w (F : Nat) (s : Ship) (boxes : List Box) (l : List Group) (r : Int × Int) (h : M_bound_Family F s boxes l = some r) : Pure Try.prog 10 [.agg (Ship.cs s), LS 9 Box.av boxes, LS 2 Group.av l] (· = .tup [I64 r.1, I64 r.2]) := by
  unfold M_bound_Family at h
  refine Pure_ofG [.tmp 6, .tmp 7] Try.func10 rfl rfl ?_
  refine JC_seq (fun K1 hK1 => ?_)
  refine JC_region ?_
  refine JL_go (u := .ptr 110000003 0) (A_box (u := .agg (Ship.cs s)) (cs := [LS 12 Column.av s.Columns, LS 2 Cover.av s.Covers, I64 s.Light.Kilos, I64 s.Light.X, I64 s.Light.Y, I64 s.Light.Z, LS 5 Row.av s.Rows, LS 5 Frame.av s.Frames, LS 6 Tank.av s.Tanks, I64 s.Limits.Tolerance, I64 s.Limits.Trim, I64 s.Limits.List_, I64 s.Limits.Stability]) 110000003 rfl rfl rfl rfl rfl) ?_ rfl rfl rfl
  refine JL_go (u := I64 0) (A_assign rfl rfl) ?_ rfl rfl rfl
  refine JL_go (u := I64 0) (A_assign rfl rfl) ?_ rfl rfl rfl
  refine JL_nil ?_
  refine hK1 _ _ ?_
  refine JC_freeze [(1, LS 9 Box.av boxes), (2, LS 2 Group.av l), (3, .dptr (Ship.cs s))] [] 110000003 rfl rfl rfl trivial rfl (by exact ⟨.conv (.same rfl), .conv (.same rfl), .ptr, trivial⟩) ?_
  refine JC_seq (fun K2 hK2 => ?_)
  refine JC_seq (fun K3 hK3 => ?_)
  refine JC_region ?_
  refine JL_go (u := .agg (Ship.cs s)) (A_loadAgg tf_agg_47 rfl rfl rfl) ?_ rfl rfl rfl
  refine JL_go (u := LS 9 Box.av boxes) (A_move rfl rfl) ?_ rfl rfl rfl
  obtain ⟨r4, hr4, h⟩ := bnd_out h
  refine JL_go (u := BL r4) (A_call1 (args := [.agg (Ship.cs s), LS 9 Box.av boxes]) rfl (M_bound_right_w s boxes r4 hr4) tf_call_22 ⟨rfl, rfl, rfl, rfl, trivial⟩) ?_ rfl rfl rfl
  refine JL_go (u := BL (!r4)) (A_not rfl rfl) ?_ rfl rfl rfl
  refine JL_nil ?_
  refine hK3 _ _ ?_
  refine JC_cond rfl (fun hb => ?_) (fun hb => ?_)
  ·
    replace h := bif_t hb h
    refine JC_seq (fun K5 hK5 => ?_)
    refine JC_region ?_
    refine JL_go (u := I64 0) (A_assign rfl rfl) ?_ rfl rfl rfl
    refine JL_go (u := I64 2) (A_assign rfl rfl) ?_ rfl rfl rfl
    refine JL_nil ?_
    refine hK5 _ _ ?_
    refine JC_ret ?_
    exact ⟨[I64 0, I64 2], [], trivial, rfl, ⟨⟨_, rfl, .conv (.same rfl)⟩, ⟨_, rfl, .conv (.same rfl)⟩, trivial⟩, rfl, congrArg (fun r : Int × Int => (.tup [I64 r.1, I64 r.2] : AV)) (Option.some.inj h)⟩
  ·
    replace h := bif_f hb h
    refine JC_skip ?_
    refine hK2 _ _ ?_
    refine JC_seq (fun K6 hK6 => ?_)
    refine JC_region ?_
    refine JL_go (u := LS 9 Box.av boxes) (A_move rfl rfl) ?_ rfl rfl rfl
    obtain ⟨r7, hr7, h⟩ := bnd_out h
    refine JL_go (u := LS 4 bound_Count.av r7) (A_call1 (args := [LS 9 Box.av boxes]) rfl (S_bound_Groups_w.down boxes r7 hr7) tf_call_6 ⟨rfl, rfl, trivial⟩) ?_ rfl rfl rfl
    refine JL_go (u := LS 2 Group.av l) (A_move rfl rfl) ?_ rfl rfl rfl
    obtain ⟨r8, hr8, h⟩ := bnd_out h
    refine JL_go (u := .tup [LS 4 bound_Count.av r8.1, I64 r8.2]) (A_call1 (args := [LS 4 bound_Count.av r7, LS 2 Group.av l]) rfl (M_bound_family_w r7 l r8 hr8) tf_call_23 ⟨rfl, rfl, rfl, rfl, trivial⟩) ?_ rfl rfl rfl
    refine JL_go (u := .tup [LS 4 bound_Count.av r8.1, I64 r8.2]) (A_move rfl rfl) ?_ rfl rfl rfl
    refine JL_go (u := LS 4 bound_Count.av r8.1) (A_extract rfl rfl rfl) ?_ rfl rfl rfl
    refine JL_go (u := I64 r8.2) (A_extract rfl rfl rfl) ?_ rfl rfl rfl
    refine JL_go (u := LS 4 bound_Count.av r8.1) (A_assign rfl rfl) ?_ rfl rfl rfl
    refine JL_go (u := I64 r8.2) (A_assign rfl rfl) ?_ rfl rfl rfl
    refine JL_nil ?_
    refine hK6 _ _ ?_
    refine JC_seq (fun K9 hK9 => ?_)
    refine JC_seq (fun K10 hK10 => ?_)
    refine JC_region ?_
    refine JL_go (u := I64 r8.2) (A_move rfl rfl) ?_ rfl rfl rfl
    refine JL_go (u := BL (decide (r8.2 ≠ 0))) (A_neq rfl rfl rfl) ?_ rfl rfl rfl
    refine JL_nil ?_
    refine hK10 _ _ ?_
    refine JC_cond rfl (fun hb => ?_) (fun hb => ?_)
    ·
      replace h := bif_t hb h
      refine JC_seq (fun K11 hK11 => ?_)
      refine JC_region ?_
      refine JL_go (u := I64 r8.2) (A_move rfl rfl) ?_ rfl rfl rfl
      refine JL_go (u := I64 0) (A_assign rfl rfl) ?_ rfl rfl rfl
      refine JL_go (u := I64 r8.2) (A_assign rfl rfl) ?_ rfl rfl rfl
      refine JL_nil ?_
      refine hK11 _ _ ?_
      refine JC_ret ?_
      exact ⟨[I64 0, I64 r8.2], [], trivial, rfl, ⟨⟨_, rfl, .conv (.same rfl)⟩, ⟨_, rfl, .conv (.same rfl)⟩, trivial⟩, rfl, congrArg (fun r : Int × Int => (.tup [I64 r.1, I64 r.2] : AV)) (Option.some.inj h)⟩
    ·
      replace h := bif_f hb h
      refine JC_skip ?_
      refine hK9 _ _ ?_
      refine JC_seq (fun K12 hK12 => ?_)
      refine JC_region ?_
      refine JL_go (u := .agg (Ship.cs s)) (A_loadAgg tf_agg_47 rfl rfl rfl) ?_ rfl rfl rfl
      refine JL_go (u := LS 4 bound_Count.av r8.1) (A_move rfl rfl) ?_ rfl rfl rfl
      obtain ⟨r13, hr13, h⟩ := bnd_out h
      refine JL_go (u := I64 r13) (A_call1 (args := [.agg (Ship.cs s), LS 4 bound_Count.av r8.1]) rfl (M_bound_bound_w F s r8.1 r13 hr13) tf_call_24 ⟨rfl, rfl, rfl, rfl, trivial⟩) ?_ rfl rfl rfl
      refine JL_go (u := I64 r13) (A_assign rfl rfl) ?_ rfl rfl rfl
      refine JL_go (u := I64 0) (A_assign rfl rfl) ?_ rfl rfl rfl
      refine JL_nil ?_
      refine hK12 _ _ ?_
      refine JC_ret ?_
      exact ⟨[I64 r13, I64 0], [], trivial, rfl, ⟨⟨_, rfl, .conv (.same rfl)⟩, ⟨_, rfl, .conv (.same rfl)⟩, trivial⟩, rfl, congrArg (fun r : Int × Int => (.tup [I64 r.1, I64 r.2] : AV)) (Option.some.inj h)⟩


theorem M_bound_chain_p70000008 (F : Nat) (counts : List bound_Count) (counts_q : Nat) (call : Int) (r : (List bound_Count)) (h : M_bound_chain F counts call = some r) : ACalls Try.prog 25 [.vec 70000008 counts_q 4 counts.length, I64 call] [(70000008, .vec 29 4 counts_q (counts.map bound_Count.av))] (fun av L' => av = LS 4 bound_Count.av r ∧ L' = [(70000008, .vec 29 4 counts_q (counts.map bound_Count.av))]) := by
  unfold M_bound_chain at h
  refine ACalls_ofG [70000008] [.tmp 4] Try.func25 rfl rfl (inAll rfl) ?_
  refine JC_seq (fun K1 hK1 => ?_)
  refine JC_region ?_
  refine JL_go (u := LS 4 bound_Count.av ([] : List bound_Count)) (A_nilList 4 rfl rfl) ?_ rfl rfl rfl
  refine JL_nil ?_
  refine hK1 _ _ ?_
  refine JC_seq (fun K2 hK2 => ?_)
  refine JC_region ?_
  refine JL_go (u := OW 260000005 4 bound_Count.av ([] : List bound_Count)) (A_nilOwn 260000005 29 4 rfl rfl rfl) ?_ rfl rfl rfl
  refine JL_nil ?_
  refine hK2 _ _ ?_
  refine JC_seq (fun K3 hK3 => ?_)
  refine JC_seq (fun K4 hK4 => ?_)
  refine JC_region ?_
  refine JL_go (u := .vec 70000008 counts_q 4 counts.length) (A_move rfl rfl) ?_ rfl rfl rfl
  refine JL_vlenM (f := bound_Count.av) (xs := counts) tf_slice_26 rfl rfl rfl (fun hm16 => ?_) rfl rfl rfl
  refine JL_go (u := I64 0) (A_move rfl rfl) ?_ rfl rfl rfl
  refine JL_nil ?_
  refine hK4 _ _ ?_
  refine JC_block ?_
  obtain ⟨b17, kx17, hb17, hkx17, h⟩ := each_in h
  refine JC_loop2 (fun i17 (s17 : (List bound_Count)) => each b17 kx17 (List.drop i17 counts) i17 s17 = some r) (fun i17 s17 => [(1, I64 call), (5, OW 260000005 4 bound_Count.av s17), (15, .vec 70000008 counts_q 4 counts.length), (16, I64 (counts.length : Int)), (17, I64 (i17 : Int))]) (fun i17 s17 => [(70000008, .vec 29 4 counts_q (counts.map bound_Count.av)), (260000005, .spare 29 4 s17.length s17.length)]) (fun i17 => counts.length - i17) 0 [] h ⟨⟨.same rfl, .same rfl, .same rfl, .same rfl, .same rfl, trivial⟩, ⟨⟨_, rfl, .vec⟩, ⟨_, rfl, .same⟩, trivial⟩, rfl⟩ ?_
  clear h
  intro i17 s17 hi17 K17 e17
  refine JC_seq (fun K18 hK18 => ?_)
  refine JC_region ?_
  refine JL_go (u := BL (decide ((i17 : Int) < (counts.length : Int)))) (A_lss rfl rfl rfl) ?_ rfl rfl rfl
  refine JL_nil ?_
  refine hK18 _ _ ?_
  refine JC_seq (fun K19 hK19 => ?_)
  refine JC_cond rfl (fun hb => ?_) (fun hb => ?_)
  ·
    have hk17 := lt_len hb
    obtain ⟨y17, nx17, hy17, hn17, h⟩ := each_out hi17 hk17
    replace h := app4 hb17 h
    refine JC_skip ?_
    refine hK19 _ _ ?_
    obtain ⟨kj20, hkj20, h⟩ := jp_out h
    refine JC_seqJ (fun j20 : (List bound_Count) => kj20 j20 = some r) (fun j20 => [(1, I64 call), (5, OW 260000005 4 bound_Count.av j20), (15, .vec 70000008 counts_q 4 counts.length), (16, I64 (counts.length : Int)), (17, I64 (i17 : Int))]) (fun j20 => [(70000008, .vec 29 4 counts_q (counts.map bound_Count.av)), (260000005, .spare 29 4 j20.length j20.length)]) (fun Kj20 ej20 => ?_) ?_
    ·
      refine JC_block ?_
      refine JC_seq (fun K21 hK21 => ?_)
      refine JC_region ?_
      refine JL_go (u := .vptr 70000008 counts_q i17 0) (A_vidxM (f := bound_Count.av) (xs := counts) (y := y17) rfl rfl rfl rfl tf_slice_26 hy17 rfl) ?_ rfl rfl rfl
      refine JL_go (u := .agg (bound_Count.cs y17)) (A_vloadAggM (f := bound_Count.av) (xs := counts) (y := y17) tf_agg_29 rfl rfl rfl hy17 rfl rfl) ?_ rfl rfl rfl
      refine JL_go (u := .ptr 260000007 0) (A_allocJ 260000007 4 tf_zsize_29 rfl rfl) ?_ rfl rfl rfl
      refine JL_go0 (u := .junk) (A_store (u := .agg (bound_Count.cs y17)) (ds := [I64 y17.Group.Load, I64 y17.Group.Discharge, I64 y17.Whole, I64 y17.Half]) tf_size_29 rfl rfl rfl rfl rfl rfl rfl rfl) ?_ rfl rfl
      refine JL_nil ?_
      refine hK21 _ _ ?_
      refine JC_freeze [(1, I64 call), (5, OW 260000005 4 bound_Count.av s17), (7, .dptr (bound_Count.cs y17)), (15, .vec 70000008 counts_q 4 counts.length), (16, I64 (counts.length : Int)), (17, I64 (i17 : Int))] [(70000008, .vec 29 4 counts_q (counts.map bound_Count.av)), (260000005, .spare 29 4 s17.length s17.length)] 260000007 rfl rfl rfl ⟨⟨_, rfl, .vec⟩, ⟨_, rfl, .same⟩, trivial⟩ rfl (by exact ⟨.conv (.same rfl), .conv (.same rfl), .ptr, .conv (.same rfl), .conv (.same rfl), .conv (.same rfl), trivial⟩) ?_
      refine JC_seq (fun K22 hK22 => ?_)
      refine JC_region ?_
      refine JL_go (u := .dptr (bound_Count.cs y17)) (A_fieldM tf_field_29_0 rfl rfl rfl) ?_ rfl rfl rfl
      refine JL_go (u := .dptr (bound_Count.cs y17)) (A_fieldM tf_field_24_0 rfl rfl rfl) ?_ rfl rfl rfl
      refine JL_go (u := I64 y17.Group.Load) (A_load tf_scalar_3 rfl rfl rfl) ?_ rfl rfl rfl
      refine JL_go (u := I64 call) (A_move rfl rfl) ?_ rfl rfl rfl
      refine JL_go (u := BL (decide (y17.Group.Load ≤ call))) (A_leq rfl rfl rfl) ?_ rfl rfl rfl
      refine JL_go (u := BL (decide (y17.Group.Load ≤ call))) (A_move rfl rfl) ?_ rfl rfl rfl
      refine JL_opt (u := I64 call) [] rfl rfl rfl .sct trivial (fun hc => A_move rfl rfl) ?_ rfl rfl rfl
      refine JL_opt (u := .dptr (bound_Count.cs y17)) [] rfl rfl rfl .sct trivial (fun hc => A_fieldM tf_field_29_0 rfl rfl rfl) ?_ rfl rfl rfl
      refine JL_opt (u := .dptr ((bound_Count.cs y17).drop 1)) [(28, .dptr (bound_Count.cs y17))] rfl rfl rfl .sct ⟨.all id, trivial⟩ (fun hc => A_fieldM tf_field_24_1 rfl rfl rfl) ?_ rfl rfl rfl
      refine JL_opt (u := I64 y17.Group.Discharge) [(29, .dptr ((bound_Count.cs y17).drop 1))] rfl rfl rfl .sct ⟨.all id, trivial⟩ (fun hc => A_load tf_scalar_3 rfl rfl rfl) ?_ rfl rfl rfl
      refine JL_opt (u := BL (decide (call < y17.Group.Discharge))) [(27, I64 call), (30, I64 y17.Group.Discharge)] rfl rfl rfl .sct ⟨.all id, .all id, trivial⟩ (fun hc => A_lss rfl rfl rfl) ?_ rfl rfl rfl
      refine JL_go (u := BL ((decide (y17.Group.Load ≤ call)) && (decide (call < y17.Group.Discharge)))) (A_and rfl rfl rfl rfl) ?_ rfl rfl rfl
      refine JL_nil ?_
      refine hK22 _ _ ?_
      refine JC_cond rfl (fun hb => ?_) (fun hb => ?_)
      ·
        replace h := bif_t hb h
        refine JC_region ?_
        refine JL_go (u := OW 260000005 4 bound_Count.av s17) (A_move rfl rfl) ?_ rfl rfl rfl
        refine JL_go (u := .agg (bound_Count.cs y17)) (A_loadAgg tf_agg_29 rfl rfl rfl) ?_ rfl rfl rfl
        refine JL_go (u := LS 4 bound_Count.av [y17]) (A_buildSlice (xs := [.agg (bound_Count.cs y17)]) rfl ⟨rfl, rfl, trivial⟩ tf_slice_26 tf_zsize_29 rfl rfl rfl rfl) ?_ rfl rfl rfl
        obtain ⟨ha23, h⟩ := need_out h
        refine JL_go (u := OW 260000005 4 bound_Count.av (s17 ++ [y17])) (A_appendM (f := bound_Count.av) (xs := s17) (ys := [y17]) rfl rfl rfl rfl tf_slice_26 tf_elem_29 ha23 (fun _ => rfl) (.inl rfl) rfl) ?_ rfl rfl rfl
        refine JL_go (u := OW 260000005 4 bound_Count.av (s17 ++ [y17])) (A_assign rfl rfl) ?_ rfl rfl rfl
        refine JL_nil ?_
        exact ej20 _ _ (s17 ++ [y17]) h ⟨⟨.same rfl, .same rfl, .same rfl, .same rfl, .same rfl, trivial⟩, ⟨⟨_, rfl, .vec⟩, ⟨_, rfl, .same⟩, trivial⟩, rfl⟩
      ·
        replace h := bif_f hb h
        refine JC_skip ?_
        exact ej20 _ _ s17 h ⟨⟨.same rfl, .same rfl, .same rfl, .same rfl, .same rfl, trivial⟩, ⟨⟨_, rfl, .vec⟩, ⟨_, rfl, .same⟩, trivial⟩, rfl⟩
    · intro j20 h
      replace h := app1 hkj20 h
      refine JC_region ?_
      refine JL_go (u := I64 ((i17 + 1 : Nat) : Int)) (A_add (idx_succ hk17 hm16) rfl rfl rfl) ?_ rfl rfl rfl
      refine JL_go (u := I64 ((i17 + 1 : Nat) : Int)) (A_move rfl rfl) ?_ rfl rfl rfl
      refine JL_nil ?_
      exact e17 _ _ (i17 + 1) j20 (app1 hn17 h) (by omega) ⟨⟨.same rfl, .same rfl, .same rfl, .same rfl, .same rfl, trivial⟩, ⟨⟨_, rfl, .vec⟩, ⟨_, rfl, .same⟩, trivial⟩, rfl⟩
  ·
    have h := app1 hkx17 (each_nil hi17 (not_lt_len hb))
    refine JC_exit ?_
    refine hK3 _ _ ?_
    refine JC_seq (fun K24 hK24 => ?_)
    refine JC_fits (l' := [(5, OW 260000005 4 bound_Count.av s17)]) (L' := [(70000008, .vec 29 4 counts_q (counts.map bound_Count.av)), (260000005, .spare 29 4 s17.length s17.length)]) ⟨⟨.same rfl, trivial⟩, ⟨⟨_, rfl, .vec⟩, ⟨_, rfl, .same⟩, trivial⟩, rfl⟩ ?_
    obtain ⟨m25, hm25, h⟩ := bnd_out h
    obtain ⟨ha26, h⟩ := need_out h
    obtain ⟨m27, hm27, h⟩ := bnd_out h
    obtain ⟨ha28, h⟩ := need_out h
    refine JC_draw2 [2, 5] [[[false, false], [false, true]], [[false, false], [false, true]], [[false, false], [false, true]], [[false, false], [true, false]], [[false, false], [true, false]], [[false, false], [true, false]], [[true, false], [true, true]], [[true, true]]] [([false, false], [(70000008, .vec 29 4 counts_q (counts.map bound_Count.av)), (260000005, .spare 29 4 s17.length s17.length)]), ([false, true], [(70000008, .vec 29 4 counts_q (counts.map bound_Count.av)), (260000005, .spare 29 4 s17.length s17.length), (260000043, .vec 3 1 0 ((List.replicate m27 (0 : Int)).map I64))]), ([true, false], [(70000008, .vec 29 4 counts_q (counts.map bound_Count.av)), (260000005, .spare 29 4 s17.length s17.length), (260000040, .vec 3 1 0 ((List.replicate m25 (0 : Int)).map I64))]), ([true, true], [(70000008, .vec 29 4 counts_q (counts.map bound_Count.av)), (260000005, .spare 29 4 s17.length s17.length), (260000040, .vec 3 1 0 ((List.replicate m25 (0 : Int)).map I64)), (260000043, .vec 3 1 0 ((List.replicate m27 (0 : Int)).map I64))])] tf_mixed (by kernel_rfl) rfl rfl ?_
    refine D2_go (u := OW 260000005 4 bound_Count.av s17) rfl ⟨.ro rfl rfl (O_go (A_move rfl rfl) rfl), .ro rfl rfl (O_go (A_move rfl rfl) rfl), trivial⟩ ?_ rfl
    refine D2_go (u := I64 (s17.length : Int)) rfl ⟨.ro rfl rfl (O_go (A_lenM (f := bound_Count.av) (xs := s17) tf_slice_26 rfl rfl) rfl), .ro rfl rfl (O_go (A_lenM (f := bound_Count.av) (xs := s17) tf_slice_26 rfl rfl) rfl), trivial⟩ ?_ rfl
    refine D2_go (u := .vec 260000040 0 1 ((List.replicate m25 (0 : Int)).length)) rfl ⟨.w [70000008, 260000005, 260000040] rfl rfl (O_go (A_vmakeM 260000040 (f := I64) (n := m25) 0 [.int .i64 0] rfl rfl rfl rfl tf_slice_52 tf_elem_3 tf_zero_3 (natOf_out hm25) (natOf_out hm25) ha26 ⟨.inl rfl, trivial⟩ rfl) rfl) rfl rfl ⟨rfl, rfl, rfl, trivial⟩, .w [70000008, 260000005, 260000043, 260000040] rfl rfl (O_go (A_vmakeM 260000040 (f := I64) (n := m25) 0 [.int .i64 0] rfl rfl rfl rfl tf_slice_52 tf_elem_3 tf_zero_3 (natOf_out hm25) (natOf_out hm25) ha26 ⟨.inl rfl, trivial⟩ rfl) rfl) rfl rfl ⟨rfl, rfl, rfl, rfl, trivial⟩, trivial⟩ ?_ rfl
    refine D2_go (u := OW 260000005 4 bound_Count.av s17) rfl ⟨.ro rfl rfl (O_go (A_move rfl rfl) rfl), .ro rfl rfl (O_go (A_move rfl rfl) rfl), trivial⟩ ?_ rfl
    refine D2_go (u := I64 (s17.length : Int)) rfl ⟨.ro rfl rfl (O_go (A_lenM (f := bound_Count.av) (xs := s17) tf_slice_26 rfl rfl) rfl), .ro rfl rfl (O_go (A_lenM (f := bound_Count.av) (xs := s17) tf_slice_26 rfl rfl) rfl), trivial⟩ ?_ rfl
    refine D2_go (u := .vec 260000043 0 1 ((List.replicate m27 (0 : Int)).length)) rfl ⟨.w [70000008, 260000005, 260000043] rfl rfl (O_go (A_vmakeM 260000043 (f := I64) (n := m27) 0 [.int .i64 0] rfl rfl rfl rfl tf_slice_52 tf_elem_3 tf_zero_3 (natOf_out hm27) (natOf_out hm27) ha28 ⟨.inl rfl, trivial⟩ rfl) rfl) rfl rfl ⟨rfl, rfl, rfl, trivial⟩, .w [70000008, 260000005, 260000040, 260000043] rfl rfl (O_go (A_vmakeM 260000043 (f := I64) (n := m27) 0 [.int .i64 0] rfl rfl rfl rfl tf_slice_52 tf_elem_3 tf_zero_3 (natOf_out hm27) (natOf_out hm27) ha28 ⟨.inl rfl, trivial⟩ rfl) rfl) rfl rfl ⟨rfl, rfl, rfl, rfl, trivial⟩, trivial⟩ ?_ rfl
    refine D2_go (u := .vec 260000040 0 1 ((List.replicate m25 (0 : Int)).length)) rfl ⟨.ro rfl rfl (O_go (A_assign rfl rfl) rfl), .ro rfl rfl (O_go (A_assign rfl rfl) rfl), trivial⟩ ?_ rfl
    refine D2_go (u := .vec 260000043 0 1 ((List.replicate m27 (0 : Int)).length)) rfl ⟨.ro rfl rfl (O_go (A_assign rfl rfl) rfl), trivial⟩ ?_ rfl
    refine D2_nil ?_
    refine hK24 _ _ ?_
    refine JC_seq (fun K29 hK29 => ?_)
    refine JC_region ?_
    refine JL_go (u := I64 (-1)) (A_assign rfl rfl) ?_ rfl rfl rfl
    refine JL_nil ?_
    refine hK29 _ _ ?_
    refine JC_seq (fun K30 hK30 => ?_)
    refine JC_seq (fun K31 hK31 => ?_)
    refine JC_region ?_
    refine JL_go (u := OW 260000005 4 bound_Count.av s17) (A_move rfl rfl) ?_ rfl rfl rfl
    refine JL_lenM (f := bound_Count.av) (xs := s17) tf_slice_26 rfl rfl (fun hm45 => ?_) rfl rfl rfl
    obtain ⟨v32, hv32, h⟩ := chk_out h
    refine JL_go (u := I64 v32) (A_sub hv32 rfl rfl rfl) ?_ rfl rfl rfl
    refine JL_go (u := I64 v32) (A_assign rfl rfl) ?_ rfl rfl rfl
    refine JL_nil ?_
    refine hK31 _ _ ?_
    refine JC_block ?_
    obtain ⟨b33, hb33, h⟩ := loop_in h
    refine JC_loop2 (fun i33 (s33 : Int × Int × (List Int) × (List Int)) => loop b33 i33 s33 = some r) (fun i33 s33 => [(5, OW 260000005 4 bound_Count.av s17), (8, .vec 260000040 0 1 ((List.replicate m25 (0 : Int)).length)), (9, .vec 260000043 0 1 ((List.replicate m27 (0 : Int)).length)), (10, I64 s33.1), (11, I64 s33.2.1)]) (fun i33 s33 => [(70000008, .vec 29 4 counts_q (counts.map bound_Count.av)), (260000005, .spare 29 4 s17.length s17.length), (260000040, .vec 3 1 0 (s33.2.2.1.map I64)), (260000043, .vec 3 1 0 (s33.2.2.2.map I64))]) (fun i33 => i33) F ((-1), v32, (List.replicate m25 (0 : Int)), (List.replicate m27 (0 : Int))) h ⟨⟨.same rfl, .same rfl, .same rfl, .same rfl, .same rfl, trivial⟩, ⟨⟨_, rfl, .vec⟩, ⟨_, rfl, .same⟩, ⟨_, rfl, .vec⟩, ⟨_, rfl, .vec⟩, trivial⟩, rfl⟩ ?_
    clear h
    intro i33 s33 hi33 K33 e33
    obtain ⟨m33, nx33, hm_33, hn33, h⟩ := loop_out hi33
    replace h := app2 hb33 h
    refine JC_seq (fun K34 hK34 => ?_)
    refine JC_seq (fun K35 hK35 => ?_)
    refine JC_region ?_
    refine JL_go (u := I64 s33.2.1) (A_move rfl rfl) ?_ rfl rfl rfl
    refine JL_go (u := BL (decide (0 ≤ s33.2.1))) (A_geq rfl rfl rfl) ?_ rfl rfl rfl
    refine JL_nil ?_
    refine hK35 _ _ ?_
    refine JC_cond rfl (fun hb => ?_) (fun hb => ?_)
    ·
      replace h := bif_t hb h
      refine JC_skip ?_
      refine hK34 _ _ ?_
      obtain ⟨kj36, hkj36, h⟩ := jp_out h
      refine JC_seqJ (fun j36 : Int × (List Int) × (List Int) => kj36 j36 = some r) (fun j36 => [(5, OW 260000005 4 bound_Count.av s17), (8, .vec 260000040 0 1 ((List.replicate m25 (0 : Int)).length)), (9, .vec 260000043 0 1 ((List.replicate m27 (0 : Int)).length)), (10, I64 j36.1), (11, I64 s33.2.1)]) (fun j36 => [(70000008, .vec 29 4 counts_q (counts.map bound_Count.av)), (260000005, .spare 29 4 s17.length s17.length), (260000040, .vec 3 1 0 (j36.2.1.map I64)), (260000043, .vec 3 1 0 (j36.2.2.map I64))]) (fun Kj36 ej36 => ?_) ?_
      ·
        refine JC_block ?_
        refine JC_seq (fun K37 hK37 => ?_)
        refine JC_region ?_
        refine JL_go (u := .vec 260000043 0 1 ((List.replicate m27 (0 : Int)).length)) (A_move rfl rfl) ?_ rfl rfl rfl
        refine JL_go (u := I64 s33.2.1) (A_move rfl rfl) ?_ rfl rfl rfl
        obtain ⟨y38, hmy38, hy38, h⟩ := gidx_outT h
        refine JL_go (u := .vptr 260000043 0 s33.2.1.toNat 0) (A_vidxM (f := I64) (xs := s33.2.2.2) (y := y38) rfl rfl rfl rfl tf_slice_52 hy38 hmy38) ?_ rfl rfl rfl
        refine JL_go0 (u := .junk) (A_vstoreM (f := I64) (xs := s33.2.2.2) (z := (-1)) tf_size_3 rfl rfl rfl rfl (List.getElem?_eq_some_iff.1 hy38).1 rfl rfl rfl rfl) ?_ rfl rfl
        refine JL_nil ?_
        refine hK37 _ _ ?_
        refine JC_seq (fun K39 hK39 => ?_)
        refine JC_seq (fun K40 hK40 => ?_)
        refine JC_region ?_
        refine JL_go (u := OW 260000005 4 bound_Count.av s17) (A_move rfl rfl) ?_ rfl rfl rfl
        refine JL_lenM (f := bound_Count.av) (xs := s17) tf_slice_26 rfl rfl (fun hm55 => ?_) rfl rfl rfl
        obtain ⟨v41, hv41, h⟩ := chk_out h
        refine JL_go (u := I64 v41) (A_sub hv41 rfl rfl rfl) ?_ rfl rfl rfl
        refine JL_go (u := I64 v41) (A_assign rfl rfl) ?_ rfl rfl rfl
        refine JL_nil ?_
        refine hK40 _ _ ?_
        refine JC_block ?_
        obtain ⟨b100, hb100, h⟩ := loop_in h
        refine JC_loop2 (fun i100 (s100 : Int × (List Int) × (List Int)) => loop b100 i100 s100 = some r) (fun i100 s100 => [(5, OW 260000005 4 bound_Count.av s17), (8, .vec 260000040 0 1 ((List.replicate m25 (0 : Int)).length)), (9, .vec 260000043 0 1 ((List.replicate m27 (0 : Int)).length)), (10, I64 s33.1), (11, I64 s33.2.1), (12, I64 s100.1)]) (fun i100 s100 => [(70000008, .vec 29 4 counts_q (counts.map bound_Count.av)), (260000005, .spare 29 4 s17.length s17.length), (260000040, .vec 3 1 0 (s100.2.1.map I64)), (260000043, .vec 3 1 0 (s100.2.2.map I64))]) (fun i100 => i100) F (v41, s33.2.2.1, (s33.2.2.2.set s33.2.1.toNat (-1))) h ⟨⟨.same rfl, .same rfl, .same rfl, .same rfl, .same rfl, .same rfl, trivial⟩, ⟨⟨_, rfl, .vec⟩, ⟨_, rfl, .same⟩, ⟨_, rfl, .vec⟩, ⟨_, rfl, .vec⟩, trivial⟩, rfl⟩ ?_
        clear h
        intro i100 s100 hi100 K100 e100
        obtain ⟨m100, nx100, hm_100, hn100, h⟩ := loop_out hi100
        replace h := app2 hb100 h
        refine JC_seq (fun K101 hK101 => ?_)
        refine JC_seq (fun K102 hK102 => ?_)
        refine JC_region ?_
        refine JL_go (u := I64 s100.1) (A_move rfl rfl) ?_ rfl rfl rfl
        refine JL_go (u := I64 s33.2.1) (A_move rfl rfl) ?_ rfl rfl rfl
        refine JL_go (u := BL (decide (s33.2.1 < s100.1))) (A_gtr rfl rfl rfl) ?_ rfl rfl rfl
        refine JL_nil ?_
        refine hK102 _ _ ?_
        refine JC_cond rfl (fun hb => ?_) (fun hb => ?_)
        ·
          replace h := bif_t hb h
          refine JC_skip ?_
          refine hK101 _ _ ?_
          obtain ⟨kj103, hkj103, h⟩ := jp_out h
          refine JC_seqJ (fun j103 : (List Int) × (List Int) => kj103 j103 = some r) (fun j103 => [(5, OW 260000005 4 bound_Count.av s17), (8, .vec 260000040 0 1 ((List.replicate m25 (0 : Int)).length)), (9, .vec 260000043 0 1 ((List.replicate m27 (0 : Int)).length)), (10, I64 s33.1), (11, I64 s33.2.1), (12, I64 s100.1)]) (fun j103 => [(70000008, .vec 29 4 counts_q (counts.map bound_Count.av)), (260000005, .spare 29 4 s17.length s17.length), (260000040, .vec 3 1 0 (j103.1.map I64)), (260000043, .vec 3 1 0 (j103.2.map I64))]) (fun Kj103 ej103 => ?_) ?_
          ·
            refine JC_block ?_
            refine JC_seq (fun K104 hK104 => ?_)
            refine JC_fits (l' := [(5, OW 260000005 4 bound_Count.av s17), (8, .vec 260000040 0 1 ((List.replicate m25 (0 : Int)).length)), (9, .vec 260000043 0 1 ((List.replicate m27 (0 : Int)).length)), (10, I64 s33.1), (11, I64 s33.2.1), (12, I64 s100.1)]) (L' := [(70000008, .vec 29 4 counts_q (counts.map bound_Count.av)), (260000005, .spare 29 4 s17.length s17.length), (260000040, .vec 3 1 0 (s100.2.1.map I64)), (260000043, .vec 3 1 0 (s100.2.2.map I64))]) ⟨⟨.same rfl, .same rfl, .same rfl, .same rfl, .same rfl, .same rfl, trivial⟩, ⟨⟨_, rfl, .vec⟩, ⟨_, rfl, .same⟩, ⟨_, rfl, .vec⟩, ⟨_, rfl, .vec⟩, trivial⟩, rfl⟩ ?_
            obtain ⟨m106, y105, hm106, hy105, h⟩ := gidx_out h
            obtain ⟨m108, y107, hm108, hy107, h⟩ := gidx_out h
            obtain ⟨y109, hy109, h⟩ := bnd_out h
            obtain ⟨y110, hy110, h⟩ := bnd_out h
            obtain ⟨y111, hy111, h⟩ := bnd_out h
            obtain ⟨y112, hy112, h⟩ := bnd_out h
            refine JC_draw [] [0, 0, 0, 0, 0, 0, 0, 0, 0, 0, 0, 0, 0, 0, 0, 0, 0, 0, 0, 0, 0, 0, 0, 0, 0, 0, 0, 0, 0, 0, 0, 0, 0, 0, 0, 0, 0, 0, 0] [0, 0, 0, 0, 0, 0, 0, 0, 0, 0, 0, 0, 0, 0, 0, 0, 0, 0, 0, 0, 0, 0, 0, 0, 0, 0, 0, 0, 0, 0, 0, 0, 0, 0, 0, 0, 0, 0, 0] [[(70000008, .vec 29 4 counts_q (counts.map bound_Count.av)), (260000005, .spare 29 4 s17.length s17.length), (260000040, .vec 3 1 0 (s100.2.1.map I64)), (260000043, .vec 3 1 0 (s100.2.2.map I64))]] tf_mixed (by kernel_rfl) rfl rfl ?_
            refine D_ro (u := OW 260000005 4 bound_Count.av s17) rfl rfl ⟨O_go (A_move rfl rfl) rfl, trivial⟩ ?_ rfl
            refine D_ro (u := I64 s100.1) rfl rfl ⟨O_go (A_move rfl rfl) rfl, trivial⟩ ?_ rfl
            refine D_ro (u := .dptr (bound_Count.cs y105)) rfl rfl ⟨O_go (A_indexM (f := bound_Count.av) (xs := s17) (y := y105) rfl rfl rfl tf_slice_26 hy105 hm106) rfl, trivial⟩ ?_ rfl
            refine D_ro (u := .dptr (bound_Count.cs y105)) rfl rfl ⟨O_go (A_fieldM tf_field_29_0 rfl rfl rfl) rfl, trivial⟩ ?_ rfl
            refine D_ro (u := .dptr (bound_Count.cs y105)) rfl rfl ⟨O_go (A_fieldM tf_field_24_0 rfl rfl rfl) rfl, trivial⟩ ?_ rfl
            refine D_ro (u := I64 y105.Group.Load) rfl rfl ⟨O_go (A_load tf_scalar_3 rfl rfl rfl) rfl, trivial⟩ ?_ rfl
            refine D_ro (u := OW 260000005 4 bound_Count.av s17) rfl rfl ⟨O_go (A_move rfl rfl) rfl, trivial⟩ ?_ rfl
            refine D_ro (u := I64 s33.2.1) rfl rfl ⟨O_go (A_move rfl rfl) rfl, trivial⟩ ?_ rfl
            refine D_ro (u := .dptr (bound_Count.cs y107)) rfl rfl ⟨O_go (A_indexM (f := bound_Count.av) (xs := s17) (y := y107) rfl rfl rfl tf_slice_26 hy107 hm108) rfl, trivial⟩ ?_ rfl
            refine D_ro (u := .dptr (bound_Count.cs y107)) rfl rfl ⟨O_go (A_fieldM tf_field_29_0 rfl rfl rfl) rfl, trivial⟩ ?_ rfl
            refine D_ro (u := .dptr (bound_Count.cs y107)) rfl rfl ⟨O_go (A_fieldM tf_field_24_0 rfl rfl rfl) rfl, trivial⟩ ?_ rfl
            refine D_ro (u := I64 y107.Group.Load) rfl rfl ⟨O_go (A_load tf_scalar_3 rfl rfl rfl) rfl, trivial⟩ ?_ rfl
            refine D_ro (u := BL (decide (y107.Group.Load < y105.Group.Load))) rfl rfl ⟨O_go (A_gtr rfl rfl rfl) rfl, trivial⟩ ?_ rfl
            refine D_ro (u := BL (decide (y107.Group.Load < y105.Group.Load))) rfl rfl ⟨O_go (A_move rfl rfl) rfl, trivial⟩ ?_ rfl
            refine D_ro (u := .opt (decide (y107.Group.Load < y105.Group.Load)) (OW 260000005 4 bound_Count.av s17)) rfl rfl ⟨O_opt [] rfl rfl rfl .sct trivial (fun hc => A_move rfl rfl) rfl, trivial⟩ ?_ rfl
            refine D_ro (u := .opt (decide (y107.Group.Load < y105.Group.Load)) (I64 s100.1)) rfl rfl ⟨O_opt [] rfl rfl rfl .sct trivial (fun hc => A_move rfl rfl) rfl, trivial⟩ ?_ rfl
            refine D_ro (u := .opt (decide (y107.Group.Load < y105.Group.Load)) (.dptr (bound_Count.cs y109))) rfl rfl ⟨O_opt [(76, OW 260000005 4 bound_Count.av s17), (77, I64 s100.1)] rfl rfl rfl .sct ⟨.all id, .all id, trivial⟩ (fun hc => (match gidx_some (bif_t hc hy109) with | ⟨_, hm_, hy_⟩ => A_indexM (f := bound_Count.av) (xs := s17) (y := y109) rfl rfl rfl tf_slice_26 hy_ hm_)) rfl, trivial⟩ ?_ rfl
            refine D_ro (u := .opt (decide (y107.Group.Load < y105.Group.Load)) (.dptr (bound_Count.cs y109))) rfl rfl ⟨O_opt [(78, .dptr (bound_Count.cs y109))] rfl rfl rfl .sct ⟨.all id, trivial⟩ (fun hc => A_fieldM tf_field_29_0 rfl rfl rfl) rfl, trivial⟩ ?_ rfl
            refine D_ro (u := .opt (decide (y107.Group.Load < y105.Group.Load)) (.dptr ((bound_Count.cs y109).drop 1))) rfl rfl ⟨O_opt [(79, .dptr (bound_Count.cs y109))] rfl rfl rfl .sct ⟨.all id, trivial⟩ (fun hc => A_fieldM tf_field_24_1 rfl rfl rfl) rfl, trivial⟩ ?_ rfl
            refine D_ro (u := .opt (decide (y107.Group.Load < y105.Group.Load)) (I64 y109.Group.Discharge)) rfl rfl ⟨O_opt [(80, .dptr ((bound_Count.cs y109).drop 1))] rfl rfl rfl .sct ⟨.all id, trivial⟩ (fun hc => A_load tf_scalar_3 rfl rfl rfl) rfl, trivial⟩ ?_ rfl
            refine D_ro (u := .opt (decide (y107.Group.Load < y105.Group.Load)) (OW 260000005 4 bound_Count.av s17)) rfl rfl ⟨O_opt [] rfl rfl rfl .sct trivial (fun hc => A_move rfl rfl) rfl, trivial⟩ ?_ rfl
            refine D_ro (u := .opt (decide (y107.Group.Load < y105.Group.Load)) (I64 s33.2.1)) rfl rfl ⟨O_opt [] rfl rfl rfl .sct trivial (fun hc => A_move rfl rfl) rfl, trivial⟩ ?_ rfl
            refine D_ro (u := .opt (decide (y107.Group.Load < y105.Group.Load)) (.dptr (bound_Count.cs y110))) rfl rfl ⟨O_opt [(82, OW 260000005 4 bound_Count.av s17), (83, I64 s33.2.1)] rfl rfl rfl .sct ⟨.all id, .all id, trivial⟩ (fun hc => (match gidx_some (bif_t hc hy110) with | ⟨_, hm_, hy_⟩ => A_indexM (f := bound_Count.av) (xs := s17) (y := y110) rfl rfl rfl tf_slice_26 hy_ hm_)) rfl, trivial⟩ ?_ rfl
            refine D_ro (u := .opt (decide (y107.Group.Load < y105.Group.Load)) (.dptr (bound_Count.cs y110))) rfl rfl ⟨O_opt [(84, .dptr (bound_Count.cs y110))] rfl rfl rfl .sct ⟨.all id, trivial⟩ (fun hc => A_fieldM tf_field_29_0 rfl rfl rfl) rfl, trivial⟩ ?_ rfl
            refine D_ro (u := .opt (decide (y107.Group.Load < y105.Group.Load)) (.dptr ((bound_Count.cs y110).drop 1))) rfl rfl ⟨O_opt [(85, .dptr (bound_Count.cs y110))] rfl rfl rfl .sct ⟨.all id, trivial⟩ (fun hc => A_fieldM tf_field_24_1 rfl rfl rfl) rfl, trivial⟩ ?_ rfl
            refine D_ro (u := .opt (decide (y107.Group.Load < y105.Group.Load)) (I64 y110.Group.Discharge)) rfl rfl ⟨O_opt [(86, .dptr ((bound_Count.cs y110).drop 1))] rfl rfl rfl .sct ⟨.all id, trivial⟩ (fun hc => A_load tf_scalar_3 rfl rfl rfl) rfl, trivial⟩ ?_ rfl
            refine D_ro (u := .opt (decide (y107.Group.Load < y105.Group.Load)) (BL (decide (y110.Group.Discharge < y109.Group.Discharge)))) rfl rfl ⟨O_opt [(81, I64 y109.Group.Discharge), (87, I64 y110.Group.Discharge)] rfl rfl rfl .sct ⟨.all id, .all id, trivial⟩ (fun hc => A_gtr rfl rfl rfl) rfl, trivial⟩ ?_ rfl
            refine D_ro (u := BL ((decide (y107.Group.Load < y105.Group.Load)) && (decide (y110.Group.Discharge < y109.Group.Discharge)))) rfl rfl ⟨O_go (A_and rfl rfl rfl rfl) rfl, trivial⟩ ?_ rfl
            refine D_ro (u := BL ((decide (y107.Group.Load < y105.Group.Load)) && (decide (y110.Group.Discharge < y109.Group.Discharge)))) rfl rfl ⟨O_go (A_move rfl rfl) rfl, trivial⟩ ?_ rfl
            refine D_ro (u := .opt ((decide (y107.Group.Load < y105.Group.Load)) && (decide (y110.Group.Discharge < y109.Group.Discharge))) (.vec 260000040 0 1 ((List.replicate m25 (0 : Int)).length))) rfl rfl ⟨O_opt [] rfl rfl rfl .sct trivial (fun hc => A_move rfl rfl) rfl, trivial⟩ ?_ rfl
            refine D_ro (u := .opt ((decide (y107.Group.Load < y105.Group.Load)) && (decide (y110.Group.Discharge < y109.Group.Discharge))) (I64 s100.1)) rfl rfl ⟨O_opt [] rfl rfl rfl .sct trivial (fun hc => A_move rfl rfl) rfl, trivial⟩ ?_ rfl
            refine D_ro (u := .opt ((decide (y107.Group.Load < y105.Group.Load)) && (decide (y110.Group.Discharge < y109.Group.Discharge))) (.vptr 260000040 0 s100.1.toNat 0)) rfl rfl ⟨O_opt [(91, .vec 260000040 0 1 ((List.replicate m25 (0 : Int)).length)), (92, I64 s100.1)] rfl rfl rfl .sct ⟨.all id, .all id, trivial⟩ (fun hc => A_vidxM (f := I64) (xs := s100.2.1) (y := y111) rfl rfl rfl rfl tf_slice_52 (gidx_some2 (bif_t hc hy111)) (gidx_some1 (bif_t hc hy111))) rfl, trivial⟩ ?_ rfl
            refine D_ro (u := .opt ((decide (y107.Group.Load < y105.Group.Load)) && (decide (y110.Group.Discharge < y109.Group.Discharge))) (I64 y111)) rfl rfl ⟨O_opt [(93, .vptr 260000040 0 s100.1.toNat 0)] rfl rfl rfl .sct ⟨.all id, trivial⟩ (fun hc => A_vloadM (f := I64) (xs := s100.2.1) (y := y111) tf_scalar_3 rfl rfl rfl (gidx_some2 (bif_t hc hy111)) rfl rfl) rfl, trivial⟩ ?_ rfl
            refine D_ro (u := .opt ((decide (y107.Group.Load < y105.Group.Load)) && (decide (y110.Group.Discharge < y109.Group.Discharge))) (.vec 260000040 0 1 ((List.replicate m25 (0 : Int)).length))) rfl rfl ⟨O_opt [] rfl rfl rfl .sct trivial (fun hc => A_move rfl rfl) rfl, trivial⟩ ?_ rfl
            refine D_ro (u := .opt ((decide (y107.Group.Load < y105.Group.Load)) && (decide (y110.Group.Discharge < y109.Group.Discharge))) (I64 s33.2.1)) rfl rfl ⟨O_opt [] rfl rfl rfl .sct trivial (fun hc => A_move rfl rfl) rfl, trivial⟩ ?_ rfl
            refine D_ro (u := .opt ((decide (y107.Group.Load < y105.Group.Load)) && (decide (y110.Group.Discharge < y109.Group.Discharge))) (.vptr 260000040 0 s33.2.1.toNat 0)) rfl rfl ⟨O_opt [(95, .vec 260000040 0 1 ((List.replicate m25 (0 : Int)).length)), (96, I64 s33.2.1)] rfl rfl rfl .sct ⟨.all id, .all id, trivial⟩ (fun hc => A_vidxM (f := I64) (xs := s100.2.1) (y := y112) rfl rfl rfl rfl tf_slice_52 (gidx_some2 (bif_t hc hy112)) (gidx_some1 (bif_t hc hy112))) rfl, trivial⟩ ?_ rfl
            refine D_ro (u := .opt ((decide (y107.Group.Load < y105.Group.Load)) && (decide (y110.Group.Discharge < y109.Group.Discharge))) (I64 y112)) rfl rfl ⟨O_opt [(97, .vptr 260000040 0 s33.2.1.toNat 0)] rfl rfl rfl .sct ⟨.all id, trivial⟩ (fun hc => A_vloadM (f := I64) (xs := s100.2.1) (y := y112) tf_scalar_3 rfl rfl rfl (gidx_some2 (bif_t hc hy112)) rfl rfl) rfl, trivial⟩ ?_ rfl
            refine D_ro (u := .opt ((decide (y107.Group.Load < y105.Group.Load)) && (decide (y110.Group.Discharge < y109.Group.Discharge))) (BL (decide (y112 ≤ y111)))) rfl rfl ⟨O_opt [(94, I64 y111), (98, I64 y112)] rfl rfl rfl .sct ⟨.all id, .all id, trivial⟩ (fun hc => A_geq rfl rfl rfl) rfl, trivial⟩ ?_ rfl
            refine D_ro (u := BL (((decide (y107.Group.Load < y105.Group.Load)) && (decide (y110.Group.Discharge < y109.Group.Discharge))) && (decide (y112 ≤ y111)))) rfl rfl ⟨O_go (A_and rfl rfl rfl rfl) rfl, trivial⟩ ?_ rfl
            refine D_nil ?_
            refine hK104 _ _ ?_
            refine JC_cond rfl (fun hb => ?_) (fun hb => ?_)
            ·
              replace h := bif_t hb h
              refine JC_region ?_
              refine JL_go (u := .vec 260000040 0 1 ((List.replicate m25 (0 : Int)).length)) (A_move rfl rfl) ?_ rfl rfl rfl
              refine JL_go (u := I64 s33.2.1) (A_move rfl rfl) ?_ rfl rfl rfl
              refine JL_go (u := .vec 260000043 0 1 ((List.replicate m27 (0 : Int)).length)) (A_move rfl rfl) ?_ rfl rfl rfl
              refine JL_go (u := I64 s33.2.1) (A_move rfl rfl) ?_ rfl rfl rfl
              refine JL_go (u := .vec 260000040 0 1 ((List.replicate m25 (0 : Int)).length)) (A_move rfl rfl) ?_ rfl rfl rfl
              refine JL_go (u := I64 s100.1) (A_move rfl rfl) ?_ rfl rfl rfl
              obtain ⟨y113, hmy113, hy113, h⟩ := gidx_outT h
              refine JL_go (u := .vptr 260000040 0 s100.1.toNat 0) (A_vidxM (f := I64) (xs := s100.2.1) (y := y113) rfl rfl rfl rfl tf_slice_52 hy113 hmy113) ?_ rfl rfl rfl
              refine JL_go (u := I64 y113) (A_vloadM (f := I64) (xs := s100.2.1) (y := y113) tf_scalar_3 rfl rfl rfl hy113 rfl rfl) ?_ rfl rfl rfl
              refine JL_go (u := I64 s100.1) (A_move rfl rfl) ?_ rfl rfl rfl
              obtain ⟨y114, hmy114, hy114, h⟩ := gidx_outT h
              refine JL_go (u := .vptr 260000040 0 s33.2.1.toNat 0) (A_vidxM (f := I64) (xs := s100.2.1) (y := y114) rfl rfl rfl rfl tf_slice_52 hy114 hmy114) ?_ rfl rfl rfl
              refine JL_go0 (u := .junk) (A_vstoreM (f := I64) (xs := s100.2.1) (z := y113) tf_size_3 rfl rfl rfl rfl (List.getElem?_eq_some_iff.1 hy114).1 rfl rfl rfl rfl) ?_ rfl rfl
              obtain ⟨y115, hmy115, hy115, h⟩ := gidx_outT h
              refine JL_go (u := .vptr 260000043 0 s33.2.1.toNat 0) (A_vidxM (f := I64) (xs := s100.2.2) (y := y115) rfl rfl rfl rfl tf_slice_52 hy115 hmy115) ?_ rfl rfl rfl
              refine JL_go0 (u := .junk) (A_vstoreM (f := I64) (xs := s100.2.2) (z := s100.1) tf_size_3 rfl rfl rfl rfl (List.getElem?_eq_some_iff.1 hy115).1 rfl rfl rfl rfl) ?_ rfl rfl
              refine JL_nil ?_
              exact ej103 _ _ ((s100.2.1.set s33.2.1.toNat y113), (s100.2.2.set s33.2.1.toNat s100.1)) h ⟨⟨.same rfl, .same rfl, .same rfl, .same rfl, .same rfl, .same rfl, trivial⟩, ⟨⟨_, rfl, .vec⟩, ⟨_, rfl, .same⟩, ⟨_, rfl, .vec⟩, ⟨_, rfl, .vec⟩, trivial⟩, rfl⟩
            ·
              replace h := bif_f hb h
              refine JC_skip ?_
              exact ej103 _ _ (s100.2.1, s100.2.2) h ⟨⟨.same rfl, .same rfl, .same rfl, .same rfl, .same rfl, .same rfl, trivial⟩, ⟨⟨_, rfl, .vec⟩, ⟨_, rfl, .same⟩, ⟨_, rfl, .vec⟩, ⟨_, rfl, .vec⟩, trivial⟩, rfl⟩
          · intro j103 h
            replace h := app1 hkj103 h
            refine JC_region ?_
            refine JL_go (u := I64 s100.1) (A_move rfl rfl) ?_ rfl rfl rfl
            obtain ⟨v116, hv116, h⟩ := chk_out h
            refine JL_go (u := I64 v116) (A_sub hv116 rfl rfl rfl) ?_ rfl rfl rfl
            refine JL_go (u := I64 v116) (A_assign rfl rfl) ?_ rfl rfl rfl
            refine JL_nil ?_
            exact e100 _ _ m100 (v116, j103.1, j103.2) (app1 hn100 h) (by omega) ⟨⟨.same rfl, .same rfl, .same rfl, .same rfl, .same rfl, .same rfl, trivial⟩, ⟨⟨_, rfl, .vec⟩, ⟨_, rfl, .same⟩, ⟨_, rfl, .vec⟩, ⟨_, rfl, .vec⟩, trivial⟩, rfl⟩
        ·
          replace h := bif_f hb h
          refine JC_exit ?_
          refine hK39 _ _ ?_
          refine JC_seq (fun K117 hK117 => ?_)
          refine JC_fits (l' := [(5, OW 260000005 4 bound_Count.av s17), (8, .vec 260000040 0 1 ((List.replicate m25 (0 : Int)).length)), (9, .vec 260000043 0 1 ((List.replicate m27 (0 : Int)).length)), (10, I64 s33.1), (11, I64 s33.2.1)]) (L' := [(70000008, .vec 29 4 counts_q (counts.map bound_Count.av)), (260000005, .spare 29 4 s17.length s17.length), (260000040, .vec 3 1 0 (s100.2.1.map I64)), (260000043, .vec 3 1 0 (s100.2.2.map I64))]) ⟨⟨.same rfl, .same rfl, .same rfl, .same rfl, .same rfl, trivial⟩, ⟨⟨_, rfl, .vec⟩, ⟨_, rfl, .same⟩, ⟨_, rfl, .vec⟩, ⟨_, rfl, .vec⟩, trivial⟩, rfl⟩ ?_
          obtain ⟨y118, hmy118, hy118, h⟩ := gidx_outT h
          obtain ⟨m120, y119, hm120, hy119, h⟩ := gidx_out h
          obtain ⟨r121, hr121, h⟩ := bnd_out h
          obtain ⟨v122, hv122, h⟩ := chk_out h
          obtain ⟨y123, hmy123, hy123, h⟩ := gidx_outT h
          refine JC_draw [11] [0, 0, 0, 0, 0, 0, 0, 0, 0, 0, 0, 0] [0, 0, 0, 0, 0, 0, 0, 0, 0, 0, 0, 0] [[(70000008, .vec 29 4 counts_q (counts.map bound_Count.av)), (260000005, .spare 29 4 s17.length s17.length), (260000040, .vec 3 1 0 (s100.2.1.map I64)), (260000043, .vec 3 1 0 (s100.2.2.map I64))], ((260000040, .vec 3 1 0 ((s100.2.1.set s33.2.1.toNat v122).map I64)) :: [(70000008, .vec 29 4 counts_q (counts.map bound_Count.av)), (260000005, .spare 29 4 s17.length s17.length), (260000040, .vec 3 1 0 (s100.2.1.map I64)), (260000043, .vec 3 1 0 (s100.2.2.map I64))])] tf_mixed (by kernel_rfl) rfl rfl ?_
          refine D_ro (u := .vec 260000040 0 1 ((List.replicate m25 (0 : Int)).length)) rfl rfl ⟨O_go (A_move rfl rfl) rfl, trivial⟩ ?_ rfl
          refine D_ro (u := I64 s33.2.1) rfl rfl ⟨O_go (A_move rfl rfl) rfl, trivial⟩ ?_ rfl
          refine D_ro (u := .vptr 260000040 0 s33.2.1.toNat 0) rfl rfl ⟨O_go (A_vidxM (f := I64) (xs := s100.2.1) (y := y118) rfl rfl rfl rfl tf_slice_52 hy118 hmy118) rfl, trivial⟩ ?_ rfl
          refine D_ro (u := I64 y118) rfl rfl ⟨O_go (A_vloadM (f := I64) (xs := s100.2.1) (y := y118) tf_scalar_3 rfl rfl rfl hy118 rfl rfl) rfl, trivial⟩ ?_ rfl
          refine D_ro (u := OW 260000005 4 bound_Count.av s17) rfl rfl ⟨O_go (A_move rfl rfl) rfl, trivial⟩ ?_ rfl
          refine D_ro (u := I64 s33.2.1) rfl rfl ⟨O_go (A_move rfl rfl) rfl, trivial⟩ ?_ rfl
          refine D_ro (u := .dptr (bound_Count.cs y119)) rfl rfl ⟨O_go (A_indexM (f := bound_Count.av) (xs := s17) (y := y119) rfl rfl rfl tf_slice_26 hy119 hm120) rfl, trivial⟩ ?_ rfl
          refine D_ro (u := .agg (bound_Count.cs y119)) rfl rfl ⟨O_go (A_loadAgg tf_agg_29 rfl rfl rfl) rfl, trivial⟩ ?_ rfl
          refine D_ro (u := I64 r121) rfl rfl ⟨O_go (A_call1 (args := [.agg (bound_Count.cs y119)]) rfl (M_bound_places_w y119 r121 hr121) tf_call_46 ⟨rfl, rfl, trivial⟩) rfl, trivial⟩ ?_ rfl
          refine D_ro (u := I64 v122) rfl rfl ⟨O_go (A_add hv122 rfl rfl rfl) rfl, trivial⟩ ?_ rfl
          refine D_ro (u := .vptr 260000040 0 s33.2.1.toNat 0) rfl rfl ⟨O_go (A_vidxM (f := I64) (xs := s100.2.1) (y := y123) rfl rfl rfl rfl tf_slice_52 hy123 hmy123) rfl, trivial⟩ ?_ rfl
          refine D_w0 (u := .junk) rfl rfl rfl rfl (O_go (A_vstoreM (f := I64) (xs := s100.2.1) (z := v122) tf_size_3 rfl rfl rfl rfl (List.getElem?_eq_some_iff.1 hy123).1 rfl rfl rfl rfl) rfl) ?_
          refine D_nil ?_
          refine hK117 _ _ ?_
          refine JC_seq (fun K124 hK124 => ?_)
          refine JC_fits (l' := [(5, OW 260000005 4 bound_Count.av s17), (8, .vec 260000040 0 1 ((List.replicate m25 (0 : Int)).length)), (9, .vec 260000043 0 1 ((List.replicate m27 (0 : Int)).length)), (10, I64 s33.1), (11, I64 s33.2.1)]) (L' := [(70000008, .vec 29 4 counts_q (counts.map bound_Count.av)), (260000005, .spare 29 4 s17.length s17.length), (260000040, .vec 3 1 0 ((s100.2.1.set s33.2.1.toNat v122).map I64)), (260000043, .vec 3 1 0 (s100.2.2.map I64))]) ⟨⟨.same rfl, .same rfl, .same rfl, .same rfl, .same rfl, trivial⟩, ⟨⟨_, rfl, .vec⟩, ⟨_, rfl, .same⟩, ⟨_, rfl, .vec⟩, ⟨_, rfl, .vec⟩, trivial⟩, rfl⟩ ?_
          obtain ⟨y125, hy125, h⟩ := bnd_out h
          obtain ⟨y126, hy126, h⟩ := bnd_out h
          refine JC_draw [] [0, 0, 0, 0, 0, 0, 0, 0, 0, 0, 0, 0, 0] [0, 0, 0, 0, 0, 0, 0, 0, 0, 0, 0, 0, 0] [[(70000008, .vec 29 4 counts_q (counts.map bound_Count.av)), (260000005, .spare 29 4 s17.length s17.length), (260000040, .vec 3 1 0 ((s100.2.1.set s33.2.1.toNat v122).map I64)), (260000043, .vec 3 1 0 (s100.2.2.map I64))]] tf_mixed (by kernel_rfl) rfl rfl ?_
          refine D_ro (u := I64 s33.1) rfl rfl ⟨O_go (A_move rfl rfl) rfl, trivial⟩ ?_ rfl
          refine D_ro (u := BL (decide (s33.1 < 0))) rfl rfl ⟨O_go (A_lss rfl rfl rfl) rfl, trivial⟩ ?_ rfl
          refine D_ro (u := BL (decide (s33.1 < 0))) rfl rfl ⟨O_go (A_move rfl rfl) rfl, trivial⟩ ?_ rfl
          refine D_ro (u := .opt (!(decide (s33.1 < 0))) (.vec 260000040 0 1 ((List.replicate m25 (0 : Int)).length))) rfl rfl ⟨O_opt [] rfl rfl rfl .scf trivial (fun hc => A_move rfl rfl) rfl, trivial⟩ ?_ rfl
          refine D_ro (u := .opt (!(decide (s33.1 < 0))) (I64 s33.2.1)) rfl rfl ⟨O_opt [] rfl rfl rfl .scf trivial (fun hc => A_move rfl rfl) rfl, trivial⟩ ?_ rfl
          refine D_ro (u := .opt (!(decide (s33.1 < 0))) (.vptr 260000040 0 s33.2.1.toNat 0)) rfl rfl ⟨O_opt [(126, .vec 260000040 0 1 ((List.replicate m25 (0 : Int)).length)), (127, I64 s33.2.1)] rfl rfl rfl .scf ⟨.all id, .all id, trivial⟩ (fun hc => A_vidxM (f := I64) (xs := (s100.2.1.set s33.2.1.toNat v122)) (y := y125) rfl rfl rfl rfl tf_slice_52 (gidx_some2 (bif_t hc hy125)) (gidx_some1 (bif_t hc hy125))) rfl, trivial⟩ ?_ rfl
          refine D_ro (u := .opt (!(decide (s33.1 < 0))) (I64 y125)) rfl rfl ⟨O_opt [(128, .vptr 260000040 0 s33.2.1.toNat 0)] rfl rfl rfl .scf ⟨.all id, trivial⟩ (fun hc => A_vloadM (f := I64) (xs := (s100.2.1.set s33.2.1.toNat v122)) (y := y125) tf_scalar_3 rfl rfl rfl (gidx_some2 (bif_t hc hy125)) rfl rfl) rfl, trivial⟩ ?_ rfl
          refine D_ro (u := .opt (!(decide (s33.1 < 0))) (.vec 260000040 0 1 ((List.replicate m25 (0 : Int)).length))) rfl rfl ⟨O_opt [] rfl rfl rfl .scf trivial (fun hc => A_move rfl rfl) rfl, trivial⟩ ?_ rfl
          refine D_ro (u := .opt (!(decide (s33.1 < 0))) (I64 s33.1)) rfl rfl ⟨O_opt [] rfl rfl rfl .scf trivial (fun hc => A_move rfl rfl) rfl, trivial⟩ ?_ rfl
          refine D_ro (u := .opt (!(decide (s33.1 < 0))) (.vptr 260000040 0 s33.1.toNat 0)) rfl rfl ⟨O_opt [(130, .vec 260000040 0 1 ((List.replicate m25 (0 : Int)).length)), (131, I64 s33.1)] rfl rfl rfl .scf ⟨.all id, .all id, trivial⟩ (fun hc => A_vidxM (f := I64) (xs := (s100.2.1.set s33.2.1.toNat v122)) (y := y126) rfl rfl rfl rfl tf_slice_52 (gidx_some2 (bif_t hc hy126)) (gidx_some1 (bif_t hc hy126))) rfl, trivial⟩ ?_ rfl
          refine D_ro (u := .opt (!(decide (s33.1 < 0))) (I64 y126)) rfl rfl ⟨O_opt [(132, .vptr 260000040 0 s33.1.toNat 0)] rfl rfl rfl .scf ⟨.all id, trivial⟩ (fun hc => A_vloadM (f := I64) (xs := (s100.2.1.set s33.2.1.toNat v122)) (y := y126) tf_scalar_3 rfl rfl rfl (gidx_some2 (bif_t hc hy126)) rfl rfl) rfl, trivial⟩ ?_ rfl
          refine D_ro (u := .opt (!(decide (s33.1 < 0))) (BL (decide (y126 ≤ y125)))) rfl rfl ⟨O_opt [(129, I64 y125), (133, I64 y126)] rfl rfl rfl .scf ⟨.all id, .all id, trivial⟩ (fun hc => A_geq rfl rfl rfl) rfl, trivial⟩ ?_ rfl
          refine D_ro (u := BL ((decide (s33.1 < 0)) || (decide (y126 ≤ y125)))) rfl rfl ⟨O_go (A_or rfl rfl rfl rfl) rfl, trivial⟩ ?_ rfl
          refine D_nil ?_
          refine hK124 _ _ ?_
          refine JC_cond rfl (fun hb => ?_) (fun hb => ?_)
          ·
            replace h := bif_t hb h
            refine JC_region ?_
            refine JL_go (u := I64 s33.2.1) (A_move rfl rfl) ?_ rfl rfl rfl
            refine JL_go (u := I64 s33.2.1) (A_assign rfl rfl) ?_ rfl rfl rfl
            refine JL_nil ?_
            exact ej36 _ _ (s33.2.1, (s100.2.1.set s33.2.1.toNat v122), s100.2.2) h ⟨⟨.same rfl, .same rfl, .same rfl, .same rfl, .same rfl, trivial⟩, ⟨⟨_, rfl, .vec⟩, ⟨_, rfl, .same⟩, ⟨_, rfl, .vec⟩, ⟨_, rfl, .vec⟩, trivial⟩, rfl⟩
          ·
            replace h := bif_f hb h
            refine JC_skip ?_
            exact ej36 _ _ (s33.1, (s100.2.1.set s33.2.1.toNat v122), s100.2.2) h ⟨⟨.same rfl, .same rfl, .same rfl, .same rfl, .same rfl, trivial⟩, ⟨⟨_, rfl, .vec⟩, ⟨_, rfl, .same⟩, ⟨_, rfl, .vec⟩, ⟨_, rfl, .vec⟩, trivial⟩, rfl⟩
      · intro j36 h
        replace h := app1 hkj36 h
        refine JC_region ?_
        refine JL_go (u := I64 s33.2.1) (A_move rfl rfl) ?_ rfl rfl rfl
        obtain ⟨v127, hv127, h⟩ := chk_out h
        refine JL_go (u := I64 v127) (A_sub hv127 rfl rfl rfl) ?_ rfl rfl rfl
        refine JL_go (u := I64 v127) (A_assign rfl rfl) ?_ rfl rfl rfl
        refine JL_nil ?_
        exact e33 _ _ m33 (j36.1, v127, j36.2.1, j36.2.2) (app1 hn33 h) (by omega) ⟨⟨.same rfl, .same rfl, .same rfl, .same rfl, .same rfl, trivial⟩, ⟨⟨_, rfl, .vec⟩, ⟨_, rfl, .same⟩, ⟨_, rfl, .vec⟩, ⟨_, rfl, .vec⟩, trivial⟩, rfl⟩
    ·
      replace h := bif_f hb h
      refine JC_exit ?_
      refine hK30 _ _ ?_
      refine JC_seq (fun K128 hK128 => ?_)
      refine JC_region ?_
      refine JL_go (u := OW 260000013 4 bound_Count.av ([] : List bound_Count)) (A_nilOwn 260000013 29 4 rfl rfl rfl) ?_ rfl rfl rfl
      refine JL_nil ?_
      refine hK128 _ _ ?_
      refine JC_seq (fun K129 hK129 => ?_)
      refine JC_seq (fun K130 hK130 => ?_)
      refine JC_region ?_
      refine JL_go (u := I64 s33.1) (A_move rfl rfl) ?_ rfl rfl rfl
      refine JL_go (u := I64 s33.1) (A_assign rfl rfl) ?_ rfl rfl rfl
      refine JL_nil ?_
      refine hK130 _ _ ?_
      refine JC_block ?_
      obtain ⟨b142, hb142, h⟩ := loop_in h
      refine JC_loop2 (fun i142 (s142 : (List bound_Count) × Int) => loop b142 i142 s142 = some r) (fun i142 s142 => [(5, OW 260000005 4 bound_Count.av s17), (9, .vec 260000043 0 1 ((List.replicate m27 (0 : Int)).length)), (13, OW 260000013 4 bound_Count.av s142.1), (14, I64 s142.2)]) (fun i142 s142 => [(70000008, .vec 29 4 counts_q (counts.map bound_Count.av)), (260000005, .spare 29 4 s17.length s17.length), (260000040, .vec 3 1 0 (s33.2.2.1.map I64)), (260000043, .vec 3 1 0 (s33.2.2.2.map I64)), (260000013, .spare 29 4 s142.1.length s142.1.length)]) (fun i142 => i142) F ([], s33.1) h ⟨⟨.same rfl, .same rfl, .same rfl, .same rfl, trivial⟩, ⟨⟨_, rfl, .vec⟩, ⟨_, rfl, .same⟩, ⟨_, rfl, .vec⟩, ⟨_, rfl, .vec⟩, ⟨_, rfl, .same⟩, trivial⟩, rfl⟩ ?_
      clear h
      intro i142 s142 hi142 K142 e142
      obtain ⟨m142, nx142, hm_142, hn142, h⟩ := loop_out hi142
      replace h := app2 hb142 h
      refine JC_seq (fun K143 hK143 => ?_)
      refine JC_seq (fun K144 hK144 => ?_)
      refine JC_region ?_
      refine JL_go (u := I64 s142.2) (A_move rfl rfl) ?_ rfl rfl rfl
      refine JL_go (u := BL (decide (0 ≤ s142.2))) (A_geq rfl rfl rfl) ?_ rfl rfl rfl
      refine JL_nil ?_
      refine hK144 _ _ ?_
      refine JC_cond rfl (fun hb => ?_) (fun hb => ?_)
      ·
        replace h := bif_t hb h
        refine JC_skip ?_
        refine hK143 _ _ ?_
        refine JC_seq (fun K145 hK145 => ?_)
        refine JC_block ?_
        refine JC_region ?_
        refine JL_go (u := OW 260000013 4 bound_Count.av s142.1) (A_move rfl rfl) ?_ rfl rfl rfl
        refine JL_go (u := OW 260000005 4 bound_Count.av s17) (A_move rfl rfl) ?_ rfl rfl rfl
        refine JL_go (u := I64 s142.2) (A_move rfl rfl) ?_ rfl rfl rfl
        obtain ⟨m147, y146, hm147, hy146, h⟩ := gidx_out h
        refine JL_go (u := .dptr (bound_Count.cs y146)) (A_indexM (f := bound_Count.av) (xs := s17) (y := y146) rfl rfl rfl tf_slice_26 hy146 hm147) ?_ rfl rfl rfl
        refine JL_go (u := .agg (bound_Count.cs y146)) (A_loadAgg tf_agg_29 rfl rfl rfl) ?_ rfl rfl rfl
        refine JL_go (u := LS 4 bound_Count.av [y146]) (A_buildSlice (xs := [.agg (bound_Count.cs y146)]) rfl ⟨rfl, rfl, trivial⟩ tf_slice_26 tf_zsize_29 rfl rfl rfl rfl) ?_ rfl rfl rfl
        obtain ⟨ha148, h⟩ := need_out h
        refine JL_go (u := OW 260000013 4 bound_Count.av (s142.1 ++ [y146])) (A_appendM (f := bound_Count.av) (xs := s142.1) (ys := [y146]) rfl rfl rfl rfl tf_slice_26 tf_elem_29 ha148 (fun _ => rfl) (.inl rfl) rfl) ?_ rfl rfl rfl
        refine JL_go (u := OW 260000013 4 bound_Count.av (s142.1 ++ [y146])) (A_assign rfl rfl) ?_ rfl rfl rfl
        refine JL_nil ?_
        refine hK145 _ _ ?_
        refine JC_region ?_
        refine JL_go (u := .vec 260000043 0 1 ((List.replicate m27 (0 : Int)).length)) (A_move rfl rfl) ?_ rfl rfl rfl
        refine JL_go (u := I64 s142.2) (A_move rfl rfl) ?_ rfl rfl rfl
        obtain ⟨y149, hmy149, hy149, h⟩ := gidx_outT h
        refine JL_go (u := .vptr 260000043 0 s142.2.toNat 0) (A_vidxM (f := I64) (xs := s33.2.2.2) (y := y149) rfl rfl rfl rfl tf_slice_52 hy149 hmy149) ?_ rfl rfl rfl
        refine JL_go (u := I64 y149) (A_vloadM (f := I64) (xs := s33.2.2.2) (y := y149) tf_scalar_3 rfl rfl rfl hy149 rfl rfl) ?_ rfl rfl rfl
        refine JL_go (u := I64 y149) (A_assign rfl rfl) ?_ rfl rfl rfl
        refine JL_nil ?_
        exact e142 _ _ m142 ((s142.1 ++ [y146]), y149) (app1 hn142 h) (by omega) ⟨⟨.same rfl, .same rfl, .same rfl, .same rfl, trivial⟩, ⟨⟨_, rfl, .vec⟩, ⟨_, rfl, .same⟩, ⟨_, rfl, .vec⟩, ⟨_, rfl, .vec⟩, ⟨_, rfl, .same⟩, trivial⟩, rfl⟩
      ·
        replace h := bif_f hb h
        refine JC_exit ?_
        refine hK129 _ _ ?_
        refine JC_seq (fun K150 hK150 => ?_)
        refine JC_region ?_
        refine JL_go (u := OW 260000013 4 bound_Count.av s142.1) (A_move rfl rfl) ?_ rfl rfl rfl
        refine JL_go (u := OW 260000013 4 bound_Count.av s142.1) (A_assign rfl rfl) ?_ rfl rfl rfl
        refine JL_nil ?_
        refine hK150 _ _ ?_
        refine JC_ret ?_
        obtain rfl := Option.some.inj h
        exact ⟨[LS 4 bound_Count.av s142.1], [(70000008, .vec 29 4 counts_q (counts.map bound_Count.av))], ⟨⟨_, rfl, .vec⟩, trivial⟩, rfl, ⟨⟨_, rfl, .conv (.list rfl)⟩, trivial⟩, rfl, rfl⟩

def M_slices_DeleteFunc_boundCount (F : Nat) (s : List bound_Count) (del : bound_Count → Option Bool) : Option (List bound_Count) :=
  bnd (M_slices_IndexFunc_boundCount s del) fun r3 =>
  bif decide (r3 = (-1)) then
  (some s)
  else
  (chk (r3 + 1) fun v9 =>
    loop (fun nx48 (s48 : Int × Int × (List bound_Count)) =>
      bif decide (s48.2.1 < (s48.2.2.length : Int)) then
      (jp (fun kj51 =>
          gidx s48.2.2 s48.2.1 fun y53 =>
          bnd (del y53) fun r55 =>
          bif (!r55) then
          (gidx s48.2.2 s48.1 fun y57 =>
            chk (s48.1 + 1) fun v58 =>
            kj51 (v58, (s48.2.2.set s48.1.toNat y53)))
          else
          (kj51 (s48.1, s48.2.2))) fun (j51 : Int × (List bound_Count)) =>
        chk (s48.2.1 + 1) fun v59 =>
        nx48 (j51.1, v59, j51.2))
      else
      (bnd (natIn s48.1 s48.2.2.length) fun m61 =>
        bnd (natIn s48.1 (blank s48.2.2 m61 (s48.2.2.length - m61) (bound_Count.mk (Group.mk 0 0) 0 0)).length) fun m63 =>
        some ((blank s48.2.2 m61 (s48.2.2.length - m61) (bound_Count.mk (Group.mk 0 0) 0 0)).take m63))) F (r3, v9, s))
theorem M_slices_DeleteFunc_boundCount_p70000008 (F : Nat) (s : List bound_Count) (s_q : Nat) (del : bound_Count → Option Bool) (del_f : FuncId) (del_c : List AV) (del_B : callB Try.prog del_f = true) (del_d : refsL (fun _ => false) del_c = true) (del_w : ∀ a0 q, del a0 = some q → Pure Try.prog del_f ([.agg (bound_Count.cs a0)] ++ del_c) (· = BL q)) (r : (List bound_Count)) (h : M_slices_DeleteFunc_boundCount F s del = some r) : ACalls Try.prog 28 [.vec 70000008 s_q 4 s.length, .fn del_f del_c] [(70000008, .vec 29 4 s_q (s.map bound_Count.av))] (fun av L' => ∃ p : Nat, av = .vec 70000008 p 4 r.length ∧ L' = [(70000008, .vec 29 4 p (r.map bound_Count.av))]) := by
  unfold M_slices_DeleteFunc_boundCount at h
  refine ACalls_ofG [70000008] [.tmp 4] Try.func28 rfl rfl (inAll rfl) ?_
  refine JC_seq (fun K1 hK1 => ?_)
  refine JC_region ?_
  refine JL_go (u := .vec 290000004 (([] : List bound_Count).length) 4 (([] : List bound_Count).length)) (A_vnil 290000004 29 4 rfl rfl rfl) ?_ rfl rfl rfl
  refine JL_nil ?_
  refine hK1 _ _ ?_
  refine JC_seq (fun K2 hK2 => ?_)
  refine JC_region ?_
  refine JL_go (u := .vec 70000008 s_q 4 s.length) (A_move rfl rfl) ?_ rfl rfl rfl
  refine JL_go (u := .fn del_f del_c) (A_move rfl rfl) ?_ rfl rfl rfl
  obtain ⟨r3, hr3, h⟩ := bnd_out h
  refine JL_go (u := I64 r3) (A_callLend (args := [LS 4 bound_Count.av s, .fn del_f del_c]) rfl (M_slices_IndexFunc_boundCount_w s del del_f del_c del_B del_d del_w r3 hr3) tf_call_39 ⟨.vec rfl, .data rfl del_d, trivial⟩ rfl) ?_ rfl rfl rfl
  refine JL_go (u := I64 r3) (A_assign rfl rfl) ?_ rfl rfl rfl
  refine JL_nil ?_
  refine hK2 _ _ ?_
  refine JC_seq (fun K4 hK4 => ?_)
  refine JC_seq (fun K5 hK5 => ?_)
  refine JC_region ?_
  refine JL_go (u := I64 r3) (A_move rfl rfl) ?_ rfl rfl rfl
  refine JL_go (u := BL (decide (r3 = (-1)))) (A_eql rfl rfl rfl) ?_ rfl rfl rfl
  refine JL_nil ?_
  refine hK5 _ _ ?_
  refine JC_cond rfl (fun hb => ?_) (fun hb => ?_)
  ·
    replace h := bif_t hb h
    refine JC_seq (fun K6 hK6 => ?_)
    refine JC_region ?_
    refine JL_go (u := .vec 70000008 s_q 4 s.length) (A_move rfl rfl) ?_ rfl rfl rfl
    refine JL_go (u := .vec 70000008 s_q 4 s.length) (A_assign rfl rfl) ?_ rfl rfl rfl
    refine JL_nil ?_
    refine hK6 _ _ ?_
    refine JC_vlen 4 rfl rfl (fun hn_ => ?_)
    refine JC_ret ?_
    obtain rfl := Option.some.inj h
    exact ⟨[.vec 70000008 s_q 4 s.length], [(70000008, .vec 29 4 s_q (s.map bound_Count.av))], ⟨⟨_, rfl, .vec⟩, trivial⟩, rfl, ⟨⟨_, rfl, .conv (.same rfl)⟩, trivial⟩, s_q, congrArg (fun n_ : Nat => (.vec 70000008 s_q 4 n_ : AV)) (hn_.trans (List.length_map _)), rfl⟩
  ·
    replace h := bif_f hb h
    refine JC_skip ?_
    refine hK4 _ _ ?_
    refine JC_seq (fun K7 hK7 => ?_)
    refine JC_seq (fun K8 hK8 => ?_)
    refine JC_region ?_
    refine JL_go (u := I64 r3) (A_move rfl rfl) ?_ rfl rfl rfl
    obtain ⟨v9, hv9, h⟩ := chk_out h
    refine JL_go (u := I64 v9) (A_add hv9 rfl rfl rfl) ?_ rfl rfl rfl
    refine JL_go (u := I64 v9) (A_assign rfl rfl) ?_ rfl rfl rfl
    refine JL_nil ?_
    refine hK8 _ _ ?_
    refine JC_block ?_
    obtain ⟨b48, hb48, h⟩ := loop_in h
    refine JC_loop2 (fun i48 (s48 : Int × Int × (List bound_Count)) => loop b48 i48 s48 = some r) (fun i48 s48 => [(0, .vec 70000008 s_q 4 s.length), (1, .fn del_f del_c), (5, I64 s48.1), (6, I64 s48.2.1)]) (fun i48 s48 => [(70000008, .vec 29 4 s_q (s48.2.2.map bound_Count.av)), (290000004, .vec 29 4 (([] : List bound_Count).length) (([] : List bound_Count).map bound_Count.av))]) (fun i48 => i48) F (r3, v9, s) h ⟨⟨.same rfl, .same (refsL_any _ _ del_d), .same rfl, .same rfl, trivial⟩, ⟨⟨_, rfl, .vec⟩, ⟨_, rfl, .vec⟩, trivial⟩, rfl⟩ ?_
    clear h
    intro i48 s48 hi48 K48 e48
    obtain ⟨m48, nx48, hm_48, hn48, h⟩ := loop_out hi48
    replace h := app2 hb48 h
    refine JC_seq (fun K49 hK49 => ?_)
    refine JC_seq (fun K50 hK50 => ?_)
    refine JC_region ?_
    refine JL_go (u := I64 s48.2.1) (A_move rfl rfl) ?_ rfl rfl rfl
    refine JL_go (u := .vec 70000008 s_q 4 s.length) (A_move rfl rfl) ?_ rfl rfl rfl
    refine JL_vlenM (f := bound_Count.av) (xs := s48.2.2) tf_slice_26 rfl rfl rfl (fun hm18 => ?_) rfl rfl rfl
    refine JL_go (u := BL (decide (s48.2.1 < (s48.2.2.length : Int)))) (A_lss rfl rfl rfl) ?_ rfl rfl rfl
    refine JL_nil ?_
    refine hK50 _ _ ?_
    refine JC_cond rfl (fun hb => ?_) (fun hb => ?_)
    ·
      replace h := bif_t hb h
      refine JC_skip ?_
      refine hK49 _ _ ?_
      obtain ⟨kj51, hkj51, h⟩ := jp_out h
      refine JC_seqJ (fun j51 : Int × (List bound_Count) => kj51 j51 = some r) (fun j51 => [(0, .vec 70000008 s_q 4 s.length), (1, .fn del_f del_c), (5, I64 j51.1), (6, I64 s48.2.1)]) (fun j51 => [(70000008, .vec 29 4 s_q (j51.2.map bound_Count.av)), (290000004, .vec 29 4 (([] : List bound_Count).length) (([] : List bound_Count).map bound_Count.av))]) (fun Kj51 ej51 => ?_) ?_
      ·
        refine JC_block ?_
        refine JC_seq (fun K52 hK52 => ?_)
        refine JC_region ?_
        refine JL_go (u := .vec 70000008 s_q 4 s.length) (A_move rfl rfl) ?_ rfl rfl rfl
        refine JL_go (u := I64 s48.2.1) (A_move rfl rfl) ?_ rfl rfl rfl
        obtain ⟨y53, hmy53, hy53, h⟩ := gidx_outT h
        refine JL_go (u := .vptr 70000008 s_q s48.2.1.toNat 0) (A_vidxM (f := bound_Count.av) (xs := s48.2.2) (y := y53) rfl rfl rfl rfl tf_slice_26 hy53 hmy53) ?_ rfl rfl rfl
        refine JL_go (u := .agg (bound_Count.cs y53)) (A_vloadAggM (f := bound_Count.av) (xs := s48.2.2) (y := y53) tf_agg_29 rfl rfl rfl hy53 rfl rfl) ?_ rfl rfl rfl
        refine JL_go (u := .ptr 290000007 0) (A_allocJ 290000007 4 tf_zsize_29 rfl rfl) ?_ rfl rfl rfl
        refine JL_go0 (u := .junk) (A_store (u := .agg (bound_Count.cs y53)) (ds := [I64 y53.Group.Load, I64 y53.Group.Discharge, I64 y53.Whole, I64 y53.Half]) tf_size_29 rfl rfl rfl rfl rfl rfl rfl rfl) ?_ rfl rfl
        refine JL_nil ?_
        refine hK52 _ _ ?_
        refine JC_freeze [(0, .vec 70000008 s_q 4 s.length), (1, .fn del_f del_c), (5, I64 s48.1), (6, I64 s48.2.1), (7, .dptr (bound_Count.cs y53))] [(70000008, .vec 29 4 s_q (s48.2.2.map bound_Count.av)), (290000004, .vec 29 4 (([] : List bound_Count).length) (([] : List bound_Count).map bound_Count.av))] 290000007 rfl rfl rfl ⟨⟨_, rfl, .vec⟩, ⟨_, rfl, .vec⟩, trivial⟩ rfl (by exact ⟨.conv (.same rfl), .conv (.same (refsL_any _ _ del_d)), .conv (.same rfl), .conv (.same rfl), .ptr, trivial⟩) ?_
        refine JC_seq (fun K54 hK54 => ?_)
        refine JC_region ?_
        refine JL_go (u := .fn del_f del_c) (A_move rfl rfl) ?_ rfl rfl rfl
        refine JL_go (u := .agg (bound_Count.cs y53)) (A_loadAgg tf_agg_29 rfl rfl rfl) ?_ rfl rfl rfl
        obtain ⟨r55, hr55, h⟩ := bnd_out h
        refine JL_go (u := BL r55) (A_callV1 (args := [.agg (bound_Count.cs y53)]) (caps := del_c) rfl rfl (del_w y53 _ hr55) del_B ⟨rfl, rfl, trivial⟩ del_d) ?_ rfl rfl rfl
        refine JL_go (u := BL (!r55)) (A_not rfl rfl) ?_ rfl rfl rfl
        refine JL_nil ?_
        refine hK54 _ _ ?_
        refine JC_cond rfl (fun hb => ?_) (fun hb => ?_)
        ·
          replace h := bif_t hb h
          refine JC_seq (fun K56 hK56 => ?_)
          refine JC_region ?_
          refine JL_go (u := .vec 70000008 s_q 4 s.length) (A_move rfl rfl) ?_ rfl rfl rfl
          refine JL_go (u := I64 s48.1) (A_move rfl rfl) ?_ rfl rfl rfl
          refine JL_go (u := .agg (bound_Count.cs y53)) (A_loadAgg tf_agg_29 rfl rfl rfl) ?_ rfl rfl rfl
          obtain ⟨y57, hmy57, hy57, h⟩ := gidx_outT h
          refine JL_go (u := .vptr 70000008 s_q s48.1.toNat 0) (A_vidxM (f := bound_Count.av) (xs := s48.2.2) (y := y57) rfl rfl rfl rfl tf_slice_26 hy57 hmy57) ?_ rfl rfl rfl
          refine JL_go0 (u := .junk) (A_vstoreM (f := bound_Count.av) (xs := s48.2.2) (z := y53) tf_size_29 rfl rfl rfl rfl (List.getElem?_eq_some_iff.1 hy57).1 rfl rfl rfl rfl) ?_ rfl rfl
          refine JL_nil ?_
          refine hK56 _ _ ?_
          refine JC_region ?_
          refine JL_go (u := I64 s48.1) (A_move rfl rfl) ?_ rfl rfl rfl
          obtain ⟨v58, hv58, h⟩ := chk_out h
          refine JL_go (u := I64 v58) (A_add hv58 rfl rfl rfl) ?_ rfl rfl rfl
          refine JL_go (u := I64 v58) (A_assign rfl rfl) ?_ rfl rfl rfl
          refine JL_nil ?_
          exact ej51 _ _ (v58, (s48.2.2.set s48.1.toNat y53)) h ⟨⟨.same rfl, .same (refsL_any _ _ del_d), .same rfl, .same rfl, trivial⟩, ⟨⟨_, rfl, .vec⟩, ⟨_, rfl, .vec⟩, trivial⟩, rfl⟩
        ·
          replace h := bif_f hb h
          refine JC_skip ?_
          exact ej51 _ _ (s48.1, s48.2.2) h ⟨⟨.same rfl, .same (refsL_any _ _ del_d), .same rfl, .same rfl, trivial⟩, ⟨⟨_, rfl, .vec⟩, ⟨_, rfl, .vec⟩, trivial⟩, rfl⟩
      · intro j51 h
        replace h := app1 hkj51 h
        refine JC_region ?_
        refine JL_go (u := I64 s48.2.1) (A_move rfl rfl) ?_ rfl rfl rfl
        obtain ⟨v59, hv59, h⟩ := chk_out h
        refine JL_go (u := I64 v59) (A_add hv59 rfl rfl rfl) ?_ rfl rfl rfl
        refine JL_go (u := I64 v59) (A_assign rfl rfl) ?_ rfl rfl rfl
        refine JL_nil ?_
        exact e48 _ _ m48 (j51.1, v59, j51.2) (app1 hn48 h) (by omega) ⟨⟨.same rfl, .same (refsL_any _ _ del_d), .same rfl, .same rfl, trivial⟩, ⟨⟨_, rfl, .vec⟩, ⟨_, rfl, .vec⟩, trivial⟩, rfl⟩
    ·
      replace h := bif_f hb h
      refine JC_exit ?_
      refine hK7 _ _ ?_
      refine JC_seq (fun K60 hK60 => ?_)
      refine JC_region ?_
      refine JL_go (u := .vec 70000008 s_q 4 s.length) (A_move rfl rfl) ?_ rfl rfl rfl
      refine JL_go (u := I64 s48.1) (A_move rfl rfl) ?_ rfl rfl rfl
      obtain ⟨m61, hm61, h⟩ := bnd_out h
      refine JL_go (u := .vsl 70000008 s_q 4 m61 (s48.2.2.length - m61)) (A_vsubLoM (f := bound_Count.av) (xs := s48.2.2) rfl rfl rfl rfl tf_slice_26 (natIn_out hm61)) ?_ rfl rfl rfl
      refine JL_go0 (u := .tup []) (A_clearM (f := bound_Count.av) (xs := s48.2.2) (off := m61) (n := (s48.2.2.length - m61)) (bound_Count.mk (Group.mk 0 0) 0 0) [.int .i64 0, .int .i64 0, .int .i64 0, .int .i64 0] rfl tf_slice_26 (.inr rfl) rfl tf_zero_29 rfl rfl rfl ⟨.inl rfl, .inl rfl, .inl rfl, .inl rfl, trivial⟩) ?_ rfl rfl
      refine JL_nil ?_
      refine hK60 _ _ ?_
      refine JC_seq (fun K62 hK62 => ?_)
      refine JC_region ?_
      refine JL_go (u := .vec 70000008 s_q 4 s.length) (A_move rfl rfl) ?_ rfl rfl rfl
      refine JL_go (u := I64 s48.1) (A_move rfl rfl) ?_ rfl rfl rfl
      obtain ⟨m63, hm63, h⟩ := bnd_out h
      refine JL_go (u := .vec 70000008 (s_q + 1) 4 (((blank s48.2.2 m61 (s48.2.2.length - m61) (bound_Count.mk (Group.mk 0 0) 0 0)).take m63).length)) (A_vtakeM (f := bound_Count.av) (xs := (blank s48.2.2 m61 (s48.2.2.length - m61) (bound_Count.mk (Group.mk 0 0) 0 0))) rfl rfl rfl rfl tf_slice_26 (natIn_out hm63)) ?_ rfl rfl rfl
      refine JL_go (u := .vec 70000008 (s_q + 1) 4 (((blank s48.2.2 m61 (s48.2.2.length - m61) (bound_Count.mk (Group.mk 0 0) 0 0)).take m63).length)) (A_assign rfl rfl) ?_ rfl rfl rfl
      refine JL_nil ?_
      refine hK62 _ _ ?_
      refine JC_vlen 4 rfl rfl (fun hn_ => ?_)
      refine JC_ret ?_
      obtain rfl := Option.some.inj h
      exact ⟨[.vec 70000008 (s_q + 1) 4 (((blank s48.2.2 m61 (s48.2.2.length - m61) (bound_Count.mk (Group.mk 0 0) 0 0)).take m63).length)], [(70000008, .vec 29 4 (s_q + 1) (((blank s48.2.2 m61 (s48.2.2.length - m61) (bound_Count.mk (Group.mk 0 0) 0 0)).take m63).map bound_Count.av))], ⟨⟨_, rfl, .vec⟩, trivial⟩, rfl, ⟨⟨_, rfl, .conv (.same rfl)⟩, trivial⟩, (s_q + 1), congrArg (fun n_ : Nat => (.vec 70000008 (s_q + 1) 4 n_ : AV)) (hn_.trans (List.length_map _)), rfl⟩

def M_bound_Find (F : Nat) (s : Ship) (boxes : List Box) : Option ((List (List Group)) × Int × Int) :=
  bnd (M_bound_right s boxes) fun r4 =>
  bif (!r4) then
  (some ([], 0, 2))
  else
  (bnd (S_bound_Groups boxes) fun r8 =>
    loop (fun nx10 (s10 : (List (List Group)) × Int × (List bound_Count)) =>
      need (decide (20 ≤ 9223372036854775807)) <|
      upto (fun i24 (s24 : (List (List bound_Count))) nx24 =>
        bnd (M_bound_chain F s10.2.2 (i24 : Int)) fun r29 =>
        need (decide ((s24.length + [r29].length) * 24 ≤ 140737488355328 ∧ s24.length + [r29].length ≤ maxLen)) <|
        nx24 (s24 ++ [r29]))
      (fun (s24 : (List (List bound_Count))) =>
        bnd (M_bound_greatest_boundCount s24 (fun z0 => M_bound_Find_1 F z0 s)) fun r32 =>
        bif decide (r32.2 = 0) then
        (some (s10.1, s10.2.1, 0))
        else
        (each (fun y63 i63 (s63 : (List Group)) nx63 =>
            need (decide ((s63.length + [y63.Group].length) * 16 ≤ 140737488355328 ∧ s63.length + [y63.Group].length ≤ maxLen)) <|
            nx63 (s63 ++ [y63.Group]))
          (fun (s63 : (List Group)) =>
            need (decide ((s10.1.length + [s63].length) * 24 ≤ 140737488355328 ∧ s10.1.length + [s63].length ≤ maxLen)) <|
            chk (s10.2.1 + r32.2) fun v71 =>
            bnd (M_slices_DeleteFunc_boundCount F s10.2.2 (fun z0 => M_bound_Find_2 z0 s63)) fun r72 =>
            nx10 ((s10.1 ++ [s63]), v71, r72)) r32.1 0 [])) (20 : Int).toNat 0 []) F ([], 0, r8))
theorem M_bound_Find_w (F : Nat) (s : Ship) (boxes : List Box) (r : (List (List Group)) × Int × Int) (h : M_bound_Find F s boxes = some r) : Pure Try.prog 12 [.agg (Ship.cs s), LS 9 Box.av boxes] (· = .tup [LS 1 (LS 2 Group.av) r.1, I64 r.2.1, I64 r.2.2]) := by
  unfold M_bound_Find at h
  refine Pure_ofG [.tmp 4, .tmp 5, .tmp 6] Try.func12 rfl rfl ?_
  refine JC_seq (fun K1 hK1 => ?_)
  refine JC_region ?_
  refine JL_go (u := .ptr 130000002 0) (A_box (u := .agg (Ship.cs s)) (cs := [LS 12 Column.av s.Columns, LS 2 Cover.av s.Covers, I64 s.Light.Kilos, I64 s.Light.X, I64 s.Light.Y, I64 s.Light.Z, LS 5 Row.av s.Rows, LS 5 Frame.av s.Frames, LS 6 Tank.av s.Tanks, I64 s.Limits.Tolerance, I64 s.Limits.Trim, I64 s.Limits.List_, I64 s.Limits.Stability]) 130000002 rfl rfl rfl rfl rfl) ?_ rfl rfl rfl
  refine JL_go (u := LS 1 (LS 2 Group.av) ([] : List (List Group))) (A_nilList 1 rfl rfl) ?_ rfl rfl rfl
  refine JL_go (u := I64 0) (A_assign rfl rfl) ?_ rfl rfl rfl
  refine JL_go (u := I64 0) (A_assign rfl rfl) ?_ rfl rfl rfl
  refine JL_nil ?_
  refine hK1 _ _ ?_
  refine JC_freeze [(1, LS 9 Box.av boxes), (2, .dptr (Ship.cs s))] [] 130000002 rfl rfl rfl trivial rfl (by exact ⟨.conv (.same rfl), .ptr, trivial⟩) ?_
  refine JC_seq (fun K2 hK2 => ?_)
  refine JC_seq (fun K3 hK3 => ?_)
  refine JC_region ?_
  refine JL_go (u := .agg (Ship.cs s)) (A_loadAgg tf_agg_47 rfl rfl rfl) ?_ rfl rfl rfl
  refine JL_go (u := LS 9 Box.av boxes) (A_move rfl rfl) ?_ rfl rfl rfl
  obtain ⟨r4, hr4, h⟩ := bnd_out h
  refine JL_go (u := BL r4) (A_call1 (args := [.agg (Ship.cs s), LS 9 Box.av boxes]) rfl (M_bound_right_w s boxes r4 hr4) tf_call_22 ⟨rfl, rfl, rfl, rfl, trivial⟩) ?_ rfl rfl rfl
  refine JL_go (u := BL (!r4)) (A_not rfl rfl) ?_ rfl rfl rfl
  refine JL_nil ?_
  refine hK3 _ _ ?_
  refine JC_cond rfl (fun hb => ?_) (fun hb => ?_)
  ·
    replace h := bif_t hb h
    refine JC_seq (fun K5 hK5 => ?_)
    refine JC_region ?_
    refine JL_go (u := LS 1 (LS 2 Group.av) ([] : List (List Group))) (A_nilList 1 rfl rfl) ?_ rfl rfl rfl
    refine JL_go (u := I64 0) (A_assign rfl rfl) ?_ rfl rfl rfl
    refine JL_go (u := I64 2) (A_assign rfl rfl) ?_ rfl rfl rfl
    refine JL_nil ?_
    refine hK5 _ _ ?_
    refine JC_ret ?_
    exact ⟨[LS 1 (LS 2 Group.av) ([] : List (List Group)), I64 0, I64 2], [], trivial, rfl, ⟨⟨_, rfl, .conv (.same rfl)⟩, ⟨_, rfl, .conv (.same rfl)⟩, ⟨_, rfl, .conv (.same rfl)⟩, trivial⟩, rfl, congrArg (fun r : (List (List Group)) × Int × Int => (.tup [LS 1 (LS 2 Group.av) r.1, I64 r.2.1, I64 r.2.2] : AV)) (Option.some.inj h)⟩
  ·
    replace h := bif_f hb h
    refine JC_skip ?_
    refine hK2 _ _ ?_
    refine JC_seq (fun K6 hK6 => ?_)
    refine JC_region ?_
    refine JL_go (u := OW 130000007 1 (LS 2 Group.av) ([] : List (List Group))) (A_nilOwn 130000007 56 1 rfl rfl rfl) ?_ rfl rfl rfl
    refine JL_nil ?_
    refine hK6 _ _ ?_
    refine JC_seq (fun K7 hK7 => ?_)
    refine JC_region ?_
    refine JL_go (u := LS 9 Box.av boxes) (A_move rfl rfl) ?_ rfl rfl rfl
    obtain ⟨r8, hr8, h⟩ := bnd_out h
    refine JL_step rfl rfl rfl (A_callLE (args := [LS 9 Box.av boxes]) (L0 := []) (u := fun p => .vec 70000008 p 4 r8.length) (Lr := fun p => [(70000008, .vec 29 4 p (r8.map bound_Count.av))]) rfl (S_bound_Groups_n.down boxes r8 hr8) tf_call_6 ⟨.inl rfl, rfl, trivial⟩ trivial rfl (fun _ => rfl)) ?_
    rintro u_ L_ ⟨v9, rfl, rfl⟩
    refine JL_go (u := I64 0) (A_assign rfl rfl) ?_ rfl rfl rfl
    refine JL_go (u := .vec 70000008 v9 4 r8.length) (A_assign rfl rfl) ?_ rfl rfl rfl
    refine JL_nil ?_
    refine hK7 _ _ ?_
    refine JC_block ?_
    obtain ⟨b10, hb10, h⟩ := loop_in h
    refine JC_loop2 (fun i10 (q10 : ((List (List Group)) × Int × (List bound_Count)) × Nat) => (fun (s10 : (List (List Group)) × Int × (List bound_Count)) => loop b10 i10 s10 = some r) q10.1) (fun i10 q10 => (fun (s10 : (List (List Group)) × Int × (List bound_Count)) (gv10 : Nat) => [(2, .dptr (Ship.cs s)), (7, OW 130000007 1 (LS 2 Group.av) s10.1), (8, I64 s10.2.1), (9, .vec 70000008 gv10 4 s10.2.2.length)]) q10.1 q10.2) (fun i10 q10 => (fun (s10 : (List (List Group)) × Int × (List bound_Count)) (gv10 : Nat) => [(130000007, .spare 56 1 s10.1.length s10.1.length), (70000008, .vec 29 4 gv10 (s10.2.2.map bound_Count.av))]) q10.1 q10.2) (fun i10 => i10) F (([], 0, r8), v9) h ⟨⟨.same rfl, .same rfl, .same rfl, .same rfl, trivial⟩, ⟨⟨_, rfl, .same⟩, ⟨_, rfl, .vec⟩, trivial⟩, rfl⟩ ?_
    clear h
    rintro i10 ⟨s10, gv10⟩ hi10 K10 e10
    replace hi10 : loop b10 i10 s10 = some r := hi10
    change JC _ _ _ _ [(2, .dptr (Ship.cs s)), (7, OW 130000007 1 (LS 2 Group.av) s10.1), (8, I64 s10.2.1), (9, .vec 70000008 gv10 4 s10.2.2.length)] [(130000007, .spare 56 1 s10.1.length s10.1.length), (70000008, .vec 29 4 gv10 (s10.2.2.map bound_Count.av))]
    obtain ⟨m10, nx10, hm_10, hn10, h⟩ := loop_out hi10
    replace h := app2 hb10 h
    refine JC_block ?_
    refine JC_seq (fun K11 hK11 => ?_)
    refine JC_region ?_
    refine JL_go (u := OW 130000010 1 (LS 4 bound_Count.av) ([] : List (List bound_Count))) (A_nilOwn 130000010 26 1 rfl rfl rfl) ?_ rfl rfl rfl
    refine JL_nil ?_
    refine hK11 _ _ ?_
    refine JC_seq (fun K12 hK12 => ?_)
    refine JC_seq (fun K13 hK13 => ?_)
    refine JC_region ?_
    refine JL_go (u := I64 0) (A_move rfl rfl) ?_ rfl rfl rfl
    refine JL_nil ?_
    refine hK13 _ _ ?_
    refine JC_block ?_
    obtain ⟨hx24, h⟩ := need_out h
    obtain ⟨b24, kx24, hb24, hkx24, h⟩ := upto_in h
    refine JC_loop2 (fun i24 (s24 : (List (List bound_Count))) => upto b24 kx24 ((20 : Int).toNat - i24) i24 s24 = some r) (fun i24 s24 => [(2, .dptr (Ship.cs s)), (7, OW 130000007 1 (LS 2 Group.av) s10.1), (8, I64 s10.2.1), (9, .vec 70000008 gv10 4 s10.2.2.length), (10, OW 130000010 1 (LS 4 bound_Count.av) s24), (23, I64 (i24 : Int))]) (fun i24 s24 => [(130000007, .spare 56 1 s10.1.length s10.1.length), (70000008, .vec 29 4 gv10 (s10.2.2.map bound_Count.av)), (130000010, .spare 26 1 s24.length s24.length)]) (fun i24 => (20 : Int).toNat - i24) 0 [] h ⟨⟨.same rfl, .same rfl, .same rfl, .same rfl, .same rfl, .same rfl, trivial⟩, ⟨⟨_, rfl, .same⟩, ⟨_, rfl, .vec⟩, ⟨_, rfl, .same⟩, trivial⟩, rfl⟩ ?_
    clear h
    intro i24 s24 hi24 K24 e24
    refine JC_seq (fun K25 hK25 => ?_)
    refine JC_region ?_
    refine JL_go (u := BL (decide ((i24 : Int) < 20))) (A_lss rfl rfl rfl) ?_ rfl rfl rfl
    refine JL_nil ?_
    refine hK25 _ _ ?_
    refine JC_seq (fun K26 hK26 => ?_)
    refine JC_cond rfl (fun hb => ?_) (fun hb => ?_)
    ·
      have hk24 := lt_toNat hb
      obtain ⟨nx24, hn24, h⟩ := upto_out hi24 hk24
      replace h := app3 hb24 h
      refine JC_skip ?_
      refine hK26 _ _ ?_
      refine JC_seq (fun K27 hK27 => ?_)
      refine JC_block ?_
      refine JC_seq (fun K28 hK28 => ?_)
      refine JC_region ?_
      refine JL_go (u := I64 (i24 : Int)) (A_move rfl rfl) ?_ rfl rfl rfl
      refine JL_go (u := I64 (i24 : Int)) (A_assign rfl rfl) ?_ rfl rfl rfl
      refine JL_nil ?_
      refine hK28 _ _ ?_
      refine JC_region ?_
      refine JL_go (u := OW 130000010 1 (LS 4 bound_Count.av) s24) (A_move rfl rfl) ?_ rfl rfl rfl
      refine JL_go (u := .vec 70000008 gv10 4 s10.2.2.length) (A_move rfl rfl) ?_ rfl rfl rfl
      refine JL_go (u := I64 (i24 : Int)) (A_move rfl rfl) ?_ rfl rfl rfl
      obtain ⟨r29, hr29, h⟩ := bnd_out h
      refine JL_go (u := LS 4 bound_Count.av r29) (A_callL (args := [.vec 70000008 gv10 4 s10.2.2.length, I64 (i24 : Int)]) (L0 := [(70000008, .vec 29 4 gv10 (s10.2.2.map bound_Count.av))]) (Lr := [(70000008, .vec 29 4 gv10 (s10.2.2.map bound_Count.av))]) rfl (M_bound_chain_p70000008 F s10.2.2 gv10 (i24 : Int) r29 hr29) tf_call_25 ⟨.inl rfl, rfl, .inl rfl, rfl, trivial⟩ ⟨rfl, trivial⟩ rfl rfl rfl) ?_ rfl rfl rfl
      refine JL_go (u := LS 1 (LS 4 bound_Count.av) [r29]) (A_buildSlice (xs := [LS 4 bound_Count.av r29]) rfl ⟨rfl, rfl, trivial⟩ tf_slice_81 tf_zsize_26 rfl rfl rfl rfl) ?_ rfl rfl rfl
      obtain ⟨ha30, h⟩ := need_out h
      refine JL_go (u := OW 130000010 1 (LS 4 bound_Count.av) (s24 ++ [r29])) (A_appendM (f := (LS 4 bound_Count.av)) (xs := s24) (ys := [r29]) rfl rfl rfl rfl tf_slice_81 tf_elem_26 ha30 (fun _ => rfl) (.inl rfl) rfl) ?_ rfl rfl rfl
      refine JL_go (u := OW 130000010 1 (LS 4 bound_Count.av) (s24 ++ [r29])) (A_assign rfl rfl) ?_ rfl rfl rfl
      refine JL_nil ?_
      refine hK27 _ _ ?_
      refine JC_region ?_
      refine JL_go (u := I64 ((i24 + 1 : Nat) : Int)) (A_add (idx_succ hk24 (toNat_max hx24)) rfl rfl rfl) ?_ rfl rfl rfl
      refine JL_go (u := I64 ((i24 + 1 : Nat) : Int)) (A_move rfl rfl) ?_ rfl rfl rfl
      refine JL_nil ?_
      exact e24 _ _ (i24 + 1) (s24 ++ [r29]) (app1 hn24 h) (by omega) ⟨⟨.same rfl, .same rfl, .same rfl, .same rfl, .same rfl, .same rfl, trivial⟩, ⟨⟨_, rfl, .same⟩, ⟨_, rfl, .vec⟩, ⟨_, rfl, .same⟩, trivial⟩, rfl⟩
    ·
      have h := app1 hkx24 (upto_nil hi24 (not_lt_toNat hb))
      refine JC_exit ?_
      refine hK12 _ _ ?_
      refine JC_seq (fun K31 hK31 => ?_)
      refine JC_region ?_
      refine JL_go (u := OW 130000010 1 (LS 4 bound_Count.av) s24) (A_move rfl rfl) ?_ rfl rfl rfl
      refine JL_go (u := .fn 27 [.dptr (Ship.cs s)]) (A_makeFunc (cs := [.dptr (Ship.cs s)]) rfl rfl) ?_ rfl rfl rfl
      obtain ⟨r32, hr32, h⟩ := bnd_out h
      refine JL_go (u := .tup [LS 4 bound_Count.av r32.1, I64 r32.2]) (A_call1 (args := [LS 1 (LS 4 bound_Count.av) s24, .fn 27 [.dptr (Ship.cs s)]]) rfl (M_bound_greatest_boundCount_w s24 (fun z0 => M_bound_Find_1 F z0 s) 27 [.dptr (Ship.cs s)] tf_call_27 rfl (fun z0 q hq => M_bound_Find_1_w F z0 s q hq) r32 hr32) tf_call_26 ⟨rfl, rfl, rfl, rfl, trivial⟩) ?_ rfl rfl rfl
      refine JL_go (u := .tup [LS 4 bound_Count.av r32.1, I64 r32.2]) (A_move rfl rfl) ?_ rfl rfl rfl
      refine JL_go (u := LS 4 bound_Count.av r32.1) (A_extract rfl rfl rfl) ?_ rfl rfl rfl
      refine JL_go (u := I64 r32.2) (A_extract rfl rfl rfl) ?_ rfl rfl rfl
      refine JL_go (u := LS 4 bound_Count.av r32.1) (A_assign rfl rfl) ?_ rfl rfl rfl
      refine JL_go (u := I64 r32.2) (A_assign rfl rfl) ?_ rfl rfl rfl
      refine JL_nil ?_
      refine hK31 _ _ ?_
      refine JC_seq (fun K33 hK33 => ?_)
      refine JC_seq (fun K34 hK34 => ?_)
      refine JC_region ?_
      refine JL_go (u := I64 r32.2) (A_move rfl rfl) ?_ rfl rfl rfl
      refine JL_go (u := BL (decide (r32.2 = 0))) (A_eql rfl rfl rfl) ?_ rfl rfl rfl
      refine JL_nil ?_
      refine hK34 _ _ ?_
      refine JC_cond rfl (fun hb => ?_) (fun hb => ?_)
      ·
        replace h := bif_t hb h
        refine JC_seq (fun K35 hK35 => ?_)
        refine JC_region ?_
        refine JL_go (u := OW 130000007 1 (LS 2 Group.av) s10.1) (A_move rfl rfl) ?_ rfl rfl rfl
        refine JL_go (u := I64 s10.2.1) (A_move rfl rfl) ?_ rfl rfl rfl
        refine JL_go (u := OW 130000007 1 (LS 2 Group.av) s10.1) (A_assign rfl rfl) ?_ rfl rfl rfl
        refine JL_go (u := I64 s10.2.1) (A_assign rfl rfl) ?_ rfl rfl rfl
        refine JL_go (u := I64 0) (A_assign rfl rfl) ?_ rfl rfl rfl
        refine JL_nil ?_
        refine hK35 _ _ ?_
        refine JC_ret ?_
        exact ⟨[LS 1 (LS 2 Group.av) s10.1, I64 s10.2.1, I64 0], [], trivial, rfl, ⟨⟨_, rfl, .conv (.list rfl)⟩, ⟨_, rfl, .conv (.same rfl)⟩, ⟨_, rfl, .conv (.same rfl)⟩, trivial⟩, rfl, congrArg (fun r : (List (List Group)) × Int × Int => (.tup [LS 1 (LS 2 Group.av) r.1, I64 r.2.1, I64 r.2.2] : AV)) (Option.some.inj h)⟩
      ·
        replace h := bif_f hb h
        refine JC_skip ?_
        refine hK33 _ _ ?_
        refine JC_seq (fun K36 hK36 => ?_)
        refine JC_region ?_
        refine JL_go (u := .ptr 130000014 0) (A_allocZ 130000014 [.sc (.slice none 0 0)] [.slice none 0 0] tf_zero_56 ⟨.inl rfl, trivial⟩ rfl rfl) ?_ rfl rfl rfl
        refine JL_ownCell 130000014 0 130015000 24 2 rfl rfl rfl (cs' := [OW 130015000 2 Group.av ([] : List Group)]) rfl ?_
        refine JL_nil ?_
        refine hK36 _ _ ?_
        refine JC_seq (fun K37 hK37 => ?_)
        refine JC_seq (fun K38 hK38 => ?_)
        refine JC_region ?_
        refine JL_go (u := LS 4 bound_Count.av r32.1) (A_move rfl rfl) ?_ rfl rfl rfl
        refine JL_lenM (f := bound_Count.av) (xs := r32.1) tf_slice_26 rfl rfl (fun hm44 => ?_) rfl rfl rfl
        refine JL_go (u := I64 0) (A_move rfl rfl) ?_ rfl rfl rfl
        refine JL_nil ?_
        refine hK38 _ _ ?_
        refine JC_block ?_
        obtain ⟨b63, kx63, hb63, hkx63, h⟩ := each_in h
        refine JC_loop2 (fun i63 (s63 : (List Group)) => each b63 kx63 (List.drop i63 r32.1) i63 s63 = some r) (fun i63 s63 => [(2, .dptr (Ship.cs s)), (7, OW 130000007 1 (LS 2 Group.av) s10.1), (8, I64 s10.2.1), (9, .vec 70000008 gv10 4 s10.2.2.length), (13, I64 r32.2), (14, .ptr 130000014 0), (43, LS 4 bound_Count.av r32.1), (44, I64 (r32.1.length : Int)), (45, I64 (i63 : Int))]) (fun i63 s63 => [(130000007, .spare 56 1 s10.1.length s10.1.length), (70000008, .vec 29 4 gv10 (s10.2.2.map bound_Count.av)), (130015000, .spare 24 2 s63.length s63.length), (130000014, .box 56 [OW 130015000 2 Group.av s63])]) (fun i63 => r32.1.length - i63) 0 [] h ⟨⟨.same rfl, .same rfl, .same rfl, .same rfl, .same rfl, .same rfl, .same rfl, .same rfl, .same rfl, trivial⟩, ⟨⟨_, rfl, .same⟩, ⟨_, rfl, .vec⟩, ⟨_, rfl, .same⟩, ⟨_, rfl, .boxL rfl ⟨.same rfl, trivial⟩⟩, trivial⟩, rfl⟩ ?_
        clear h
        intro i63 s63 hi63 K63 e63
        refine JC_seq (fun K64 hK64 => ?_)
        refine JC_region ?_
        refine JL_go (u := BL (decide ((i63 : Int) < (r32.1.length : Int)))) (A_lss rfl rfl rfl) ?_ rfl rfl rfl
        refine JL_nil ?_
        refine hK64 _ _ ?_
        refine JC_seq (fun K65 hK65 => ?_)
        refine JC_cond rfl (fun hb => ?_) (fun hb => ?_)
        ·
          have hk63 := lt_len hb
          obtain ⟨y63, nx63, hy63, hn63, h⟩ := each_out hi63 hk63
          replace h := app4 hb63 h
          refine JC_skip ?_
          refine hK65 _ _ ?_
          refine JC_seq (fun K66 hK66 => ?_)
          refine JC_block ?_
          refine JC_seq (fun K67 hK67 => ?_)
          refine JC_region ?_
          refine JL_go (u := .dptr (bound_Count.cs y63)) (A_indexM (f := bound_Count.av) (xs := r32.1) (y := y63) rfl rfl rfl tf_slice_26 hy63 rfl) ?_ rfl rfl rfl
          refine JL_go (u := .agg (bound_Count.cs y63)) (A_loadAgg tf_agg_29 rfl rfl rfl) ?_ rfl rfl rfl
          refine JL_go (u := .ptr 130000016 0) (A_allocJ 130000016 4 tf_zsize_29 rfl rfl) ?_ rfl rfl rfl
          refine JL_go0 (u := .junk) (A_store (u := .agg (bound_Count.cs y63)) (ds := [I64 y63.Group.Load, I64 y63.Group.Discharge, I64 y63.Whole, I64 y63.Half]) tf_size_29 rfl rfl rfl rfl rfl rfl rfl rfl) ?_ rfl rfl
          refine JL_nil ?_
          refine hK67 _ _ ?_
          refine JC_freeze [(2, .dptr (Ship.cs s)), (7, OW 130000007 1 (LS 2 Group.av) s10.1), (8, I64 s10.2.1), (9, .vec 70000008 gv10 4 s10.2.2.length), (13, I64 r32.2), (14, .ptr 130000014 0), (16, .dptr (bound_Count.cs y63)), (43, LS 4 bound_Count.av r32.1), (44, I64 (r32.1.length : Int)), (45, I64 (i63 : Int))] [(130000007, .spare 56 1 s10.1.length s10.1.length), (70000008, .vec 29 4 gv10 (s10.2.2.map bound_Count.av)), (130015000, .spare 24 2 s63.length s63.length), (130000014, .box 56 [OW 130015000 2 Group.av s63])] 130000016 rfl rfl rfl ⟨⟨_, rfl, .same⟩, ⟨_, rfl, .vec⟩, ⟨_, rfl, .same⟩, ⟨_, rfl, .boxEq rfl rfl⟩, trivial⟩ rfl (by exact ⟨.conv (.same rfl), .conv (.same rfl), .conv (.same rfl), .conv (.same rfl), .conv (.same rfl), .conv (.same rfl), .ptr, .conv (.same rfl), .conv (.same rfl), .conv (.same rfl), trivial⟩) ?_
          refine JC_region ?_
          refine JL_go (u := OW 130015000 2 Group.av s63) (A_loadL tf_scalar_56 rfl rfl rfl rfl) ?_ rfl rfl rfl
          refine JL_go (u := .dptr (bound_Count.cs y63)) (A_fieldM tf_field_29_0 rfl rfl rfl) ?_ rfl rfl rfl
          refine JL_go (u := .agg [I64 y63.Group.Load, I64 y63.Group.Discharge]) (A_loadAgg tf_agg_24 rfl rfl rfl) ?_ rfl rfl rfl
          refine JL_go (u := LS 2 Group.av [y63.Group]) (A_buildSlice (xs := [.agg [I64 y63.Group.Load, I64 y63.Group.Discharge]]) rfl ⟨rfl, rfl, trivial⟩ tf_slice_56 tf_zsize_24 rfl rfl rfl rfl) ?_ rfl rfl rfl
          obtain ⟨ha68, h⟩ := need_out h
          refine JL_go (u := OW 130015000 2 Group.av (s63 ++ [y63.Group])) (A_appendM (f := Group.av) (xs := s63) (ys := [y63.Group]) rfl rfl rfl rfl tf_slice_56 tf_elem_24 ha68 (fun _ => rfl) (.inl rfl) rfl) ?_ rfl rfl rfl
          refine JL_go0 (u := .junk) (A_store (u := OW 130015000 2 Group.av (s63 ++ [y63.Group])) (ds := [OW 130015000 2 Group.av (s63 ++ [y63.Group])]) tf_size_56 rfl rfl rfl rfl rfl rfl rfl rfl) ?_ rfl rfl
          refine JL_nil ?_
          refine hK66 _ _ ?_
          refine JC_region ?_
          refine JL_go (u := I64 ((i63 + 1 : Nat) : Int)) (A_add (idx_succ hk63 hm44) rfl rfl rfl) ?_ rfl rfl rfl
          refine JL_go (u := I64 ((i63 + 1 : Nat) : Int)) (A_move rfl rfl) ?_ rfl rfl rfl
          refine JL_nil ?_
          exact e63 _ _ (i63 + 1) (s63 ++ [y63.Group]) (app1 hn63 h) (by omega) ⟨⟨.same rfl, .same rfl, .same rfl, .same rfl, .same rfl, .same rfl, .same rfl, .same rfl, .same rfl, trivial⟩, ⟨⟨_, rfl, .same⟩, ⟨_, rfl, .vec⟩, ⟨_, rfl, .same⟩, ⟨_, rfl, .boxL rfl ⟨.same rfl, trivial⟩⟩, trivial⟩, rfl⟩
        ·
          have h := app1 hkx63 (each_nil hi63 (not_lt_len hb))
          refine JC_exit ?_
          refine hK37 _ _ ?_
          refine JC_seq (fun K69 hK69 => ?_)
          refine JC_region ?_
          refine JL_go (u := OW 130000007 1 (LS 2 Group.av) s10.1) (A_move rfl rfl) ?_ rfl rfl rfl
          refine JL_go (u := OW 130015000 2 Group.av s63) (A_loadL tf_scalar_56 rfl rfl rfl rfl) ?_ rfl rfl rfl
          refine JL_go (u := LS 1 (LS 2 Group.av) [s63]) (A_buildSlice (xs := [LS 2 Group.av s63]) rfl ⟨rfl, rfl, trivial⟩ tf_slice_59 tf_zsize_56 rfl rfl rfl rfl) ?_ rfl rfl rfl
          obtain ⟨ha70, h⟩ := need_out h
          refine JL_go (u := OW 130000007 1 (LS 2 Group.av) (s10.1 ++ [s63])) (A_appendM (f := (LS 2 Group.av)) (xs := s10.1) (ys := [s63]) rfl rfl rfl rfl tf_slice_59 tf_elem_56 ha70 (fun _ => rfl) (.inl rfl) rfl) ?_ rfl rfl rfl
          refine JL_go (u := I64 s10.2.1) (A_move rfl rfl) ?_ rfl rfl rfl
          refine JL_go (u := I64 r32.2) (A_move rfl rfl) ?_ rfl rfl rfl
          obtain ⟨v71, hv71, h⟩ := chk_out h
          refine JL_go (u := I64 v71) (A_add hv71 rfl rfl rfl) ?_ rfl rfl rfl
          refine JL_go (u := OW 130000007 1 (LS 2 Group.av) (s10.1 ++ [s63])) (A_assign rfl rfl) ?_ rfl rfl rfl
          refine JL_go (u := I64 v71) (A_assign rfl rfl) ?_ rfl rfl rfl
          refine JL_nil ?_
          refine hK69 _ _ ?_
          refine JC_fits (l' := [(2, .dptr (Ship.cs s)), (7, OW 130000007 1 (LS 2 Group.av) (s10.1 ++ [s63])), (8, I64 v71), (9, .vec 70000008 gv10 4 s10.2.2.length), (14, .ptr 130000014 0)]) (L' := [(130000007, .spare 56 1 (s10.1 ++ [s63]).length (s10.1 ++ [s63]).length), (70000008, .vec 29 4 gv10 (s10.2.2.map bound_Count.av)), (130000014, .box 56 [LS 2 Group.av s63])]) ⟨⟨.same rfl, .same rfl, .same rfl, .same rfl, .same rfl, trivial⟩, ⟨⟨_, rfl, .same⟩, ⟨_, rfl, .vec⟩, ⟨_, rfl, .boxL rfl ⟨.list rfl, trivial⟩⟩, trivial⟩, rfl⟩ ?_
          refine JC_freeze [(2, .dptr (Ship.cs s)), (7, OW 130000007 1 (LS 2 Group.av) (s10.1 ++ [s63])), (8, I64 v71), (9, .vec 70000008 gv10 4 s10.2.2.length), (14, .dptr [LS 2 Group.av s63])] [(130000007, .spare 56 1 (s10.1 ++ [s63]).length (s10.1 ++ [s63]).length), (70000008, .vec 29 4 gv10 (s10.2.2.map bound_Count.av))] 130000014 rfl rfl rfl ⟨⟨_, rfl, .same⟩, ⟨_, rfl, .vec⟩, trivial⟩ rfl (by exact ⟨.conv (.same rfl), .conv (.same rfl), .conv (.same rfl), .conv (.same rfl), .ptr, trivial⟩) ?_
          refine JC_region ?_
          refine JL_go (u := .vec 70000008 gv10 4 s10.2.2.length) (A_move rfl rfl) ?_ rfl rfl rfl
          refine JL_go (u := .fn 29 [.dptr [LS 2 Group.av s63]]) (A_makeFunc (cs := [.dptr [LS 2 Group.av s63]]) rfl rfl) ?_ rfl rfl rfl
          obtain ⟨r72, hr72, h⟩ := bnd_out h
          refine JL_step rfl rfl rfl (A_callLE (args := [.vec 70000008 gv10 4 s10.2.2.length, .fn 29 [.dptr [LS 2 Group.av s63]]]) (L0 := [(70000008, .vec 29 4 gv10 (s10.2.2.map bound_Count.av))]) (u := fun p => .vec 70000008 p 4 r72.length) (Lr := fun p => [(70000008, .vec 29 4 p (r72.map bound_Count.av))]) rfl (M_slices_DeleteFunc_boundCount_p70000008 F s10.2.2 gv10 (fun z0 => M_bound_Find_2 z0 s63) 29 [.dptr [LS 2 Group.av s63]] tf_call_29 rfl (fun z0 q hq => M_bound_Find_2_w z0 s63 q hq) r72 hr72) tf_call_28 ⟨.inl rfl, rfl, .inl rfl, rfl, trivial⟩ ⟨rfl, trivial⟩ rfl (fun _ => rfl)) ?_
          rintro u_ L_ ⟨v73, rfl, rfl⟩
          refine JL_go (u := .vec 70000008 v73 4 r72.length) (A_assign rfl rfl) ?_ rfl rfl rfl
          refine JL_nil ?_
          exact e10 _ _ m10 (((s10.1 ++ [s63]), v71, r72), v73) (app1 hn10 h) (by omega) ⟨⟨.same rfl, .same rfl, .same rfl, .same rfl, trivial⟩, ⟨⟨_, rfl, .same⟩, ⟨_, rfl, .vec⟩, trivial⟩, rfl⟩

def M_bound_Check (F : Nat) (s : Ship) (boxes : List Box) (families : List (List Group)) (Rp : (Int × Int) → Prop) : Option Prop :=
  bnd (M_bound_right s boxes) fun r4 =>
  bif (!r4) then
  (some (Rp (0, 2)))
  else
  (bnd (S_bound_Groups boxes) fun r7 =>
    each (fun y11 i11 (s11 : Int × (AMap Group Int)) nx11 =>
      bnd (M_bound_family r7 y11) fun r17 =>
      bif decide (r17.2 ≠ 0) then
      (some (Rp (0, r17.2)))
      else
      (bnd (M_bound_bound F s r17.1) fun r22 =>
        chk (s11.1 + r22) fun v23 =>
        each (fun y53 i53 (s53 : (AMap Group Int)) nx53 =>
          bnd (some (AMap.get s53 y53 0)) fun v58 =>
          chk (v58 + 1) fun v59 =>
          nx53 (AMap.put s53 y53 v59))
        (fun (s53 : (AMap Group Int)) =>
          nx11 (v23, s53)) y11 0 s11.2))
    (fun (s11 : Int × (AMap Group Int)) =>
      eachM (fun (x67 : Group × Int) (s67 : Unit) nx67 =>
        bif decide (1 < x67.2) then
        (lft (some (Rp (0, 271))))
        else
        (nx67 ()))
      (fun (s67 : Unit) =>
        some (Rp (s11.1, 0))) (AMap.l s11.2) ()) families 0 (0, (AMap.empty : AMap Group Int)))
def D_bound_Check (F : Nat) (s : Ship) (boxes : List Box) (families : List (List Group)) : Option (Int × Int) :=
  bnd (M_bound_right s boxes) fun r4 =>
  bif (!r4) then
  (some (id (0, 2)))
  else
  (bnd (S_bound_Groups boxes) fun r7 =>
    each (fun y11 i11 (s11 : Int × (AMap Group Int)) nx11 =>
      bnd (M_bound_family r7 y11) fun r17 =>
      bif decide (r17.2 ≠ 0) then
      (some (id (0, r17.2)))
      else
      (bnd (M_bound_bound F s r17.1) fun r22 =>
        chk (s11.1 + r22) fun v23 =>
        each (fun y53 i53 (s53 : (AMap Group Int)) nx53 =>
          bnd (some (AMap.get s53 y53 0)) fun v58 =>
          chk (v58 + 1) fun v59 =>
          nx53 (AMap.put s53 y53 v59))
        (fun (s53 : (AMap Group Int)) =>
          nx11 (v23, s53)) y11 0 s11.2))
    (fun (s11 : Int × (AMap Group Int)) =>
      runM (fun (x67 : Group × Int) (s67 : Unit) nx67 =>
        bif decide (1 < x67.2) then
        (lft (some (id (0, 271))))
        else
        (nx67 ()))
      (fun (s67 : Unit) =>
        some (id (s11.1, 0))) (AMap.l s11.2) ()) families 0 (0, (AMap.empty : AMap Group Int)))
theorem M_bound_Check_w (F : Nat) (s : Ship) (boxes : List Box) (families : List (List Group)) (Rp : (Int × Int) → Prop) (p : Prop) (h : M_bound_Check F s boxes families Rp = some p) (hp : p) : Pure Try.prog 13 [.agg (Ship.cs s), LS 9 Box.av boxes, LS 1 (LS 2 Group.av) families] (fun av => ∃ r, Rp r ∧ av = .tup [I64 r.1, I64 r.2]) := by
  unfold M_bound_Check at h
  refine Pure_ofG [.tmp 6, .tmp 7] Try.func13 rfl rfl ?_
  refine JC_seq (fun K1 hK1 => ?_)
  refine JC_region ?_
  refine JL_go (u := .ptr 140000003 0) (A_box (u := .agg (Ship.cs s)) (cs := [LS 12 Column.av s.Columns, LS 2 Cover.av s.Covers, I64 s.Light.Kilos, I64 s.Light.X, I64 s.Light.Y, I64 s.Light.Z, LS 5 Row.av s.Rows, LS 5 Frame.av s.Frames, LS 6 Tank.av s.Tanks, I64 s.Limits.Tolerance, I64 s.Limits.Trim, I64 s.Limits.List_, I64 s.Limits.Stability]) 140000003 rfl rfl rfl rfl rfl) ?_ rfl rfl rfl
  refine JL_go (u := I64 0) (A_assign rfl rfl) ?_ rfl rfl rfl
  refine JL_go (u := I64 0) (A_assign rfl rfl) ?_ rfl rfl rfl
  refine JL_nil ?_
  refine hK1 _ _ ?_
  refine JC_freeze [(1, LS 9 Box.av boxes), (2, LS 1 (LS 2 Group.av) families), (3, .dptr (Ship.cs s))] [] 140000003 rfl rfl rfl trivial rfl (by exact ⟨.conv (.same rfl), .conv (.same rfl), .ptr, trivial⟩) ?_
  refine JC_seq (fun K2 hK2 => ?_)
  refine JC_seq (fun K3 hK3 => ?_)
  refine JC_region ?_
  refine JL_go (u := .agg (Ship.cs s)) (A_loadAgg tf_agg_47 rfl rfl rfl) ?_ rfl rfl rfl
  refine JL_go (u := LS 9 Box.av boxes) (A_move rfl rfl) ?_ rfl rfl rfl
  obtain ⟨r4, hr4, h⟩ := bnd_out h
  refine JL_go (u := BL r4) (A_call1 (args := [.agg (Ship.cs s), LS 9 Box.av boxes]) rfl (M_bound_right_w s boxes r4 hr4) tf_call_22 ⟨rfl, rfl, rfl, rfl, trivial⟩) ?_ rfl rfl rfl
  refine JL_go (u := BL (!r4)) (A_not rfl rfl) ?_ rfl rfl rfl
  refine JL_nil ?_
  refine hK3 _ _ ?_
  refine JC_cond rfl (fun hb => ?_) (fun hb => ?_)
  ·
    replace h := bif_t hb h
    refine JC_seq (fun K5 hK5 => ?_)
    refine JC_region ?_
    refine JL_go (u := I64 0) (A_assign rfl rfl) ?_ rfl rfl rfl
    refine JL_go (u := I64 2) (A_assign rfl rfl) ?_ rfl rfl rfl
    refine JL_nil ?_
    refine hK5 _ _ ?_
    refine JC_ret ?_
    exact ⟨[I64 0, I64 2], [], trivial, rfl, ⟨⟨_, rfl, .conv (.same rfl)⟩, ⟨_, rfl, .conv (.same rfl)⟩, trivial⟩, rfl, (0, 2), Eq.mpr (Option.some.inj h) hp, rfl⟩
  ·
    replace h := bif_f hb h
    refine JC_skip ?_
    refine hK2 _ _ ?_
    refine JC_seq (fun K6 hK6 => ?_)
    refine JC_region ?_
    refine JL_go (u := LS 9 Box.av boxes) (A_move rfl rfl) ?_ rfl rfl rfl
    obtain ⟨r7, hr7, h⟩ := bnd_out h
    refine JL_go (u := LS 4 bound_Count.av r7) (A_call1 (args := [LS 9 Box.av boxes]) rfl (S_bound_Groups_w.down boxes r7 hr7) tf_call_6 ⟨rfl, rfl, trivial⟩) ?_ rfl rfl rfl
    refine JL_go (u := I64 0) (A_assign rfl rfl) ?_ rfl rfl rfl
    refine JL_go (u := LS 4 bound_Count.av r7) (A_assign rfl rfl) ?_ rfl rfl rfl
    refine JL_nil ?_
    refine hK6 _ _ ?_
    refine JC_seq (fun K8 hK8 => ?_)
    refine JC_region ?_
    refine JL_go (u := .mp 140000025) (A_makeMapM 140000025 Group.kv I64 rfl rfl) ?_ rfl rfl rfl
    refine JL_go (u := .mp 140000025) (A_assign rfl rfl) ?_ rfl rfl rfl
    refine JL_nil ?_
    refine hK8 _ _ ?_
    refine JC_seq (fun K9 hK9 => ?_)
    refine JC_seq (fun K10 hK10 => ?_)
    refine JC_region ?_
    refine JL_go (u := LS 1 (LS 2 Group.av) families) (A_move rfl rfl) ?_ rfl rfl rfl
    refine JL_lenM (f := (LS 2 Group.av)) (xs := families) tf_slice_59 rfl rfl (fun hm27 => ?_) rfl rfl rfl
    refine JL_go (u := I64 0) (A_move rfl rfl) ?_ rfl rfl rfl
    refine JL_nil ?_
    refine hK10 _ _ ?_
    refine JC_block ?_
    obtain ⟨b11, kx11, hb11, hkx11, h⟩ := each_in h
    refine JC_loop2 (fun i11 (s11 : Int × (AMap Group Int)) => each b11 kx11 (List.drop i11 families) i11 s11 = some p) (fun i11 s11 => [(3, .dptr (Ship.cs s)), (8, I64 s11.1), (9, LS 4 bound_Count.av r7), (10, .mp 140000025), (26, LS 1 (LS 2 Group.av) families), (27, I64 (families.length : Int)), (28, I64 (i11 : Int))]) (fun i11 s11 => [(140000025, MP 89 Group.kv I64 s11.2)]) (fun i11 => families.length - i11) 0 (0, (AMap.empty : AMap Group Int)) h ⟨⟨.same rfl, .same rfl, .same rfl, .same rfl, .same rfl, .same rfl, .same rfl, trivial⟩, ⟨⟨_, rfl, .map⟩, trivial⟩, rfl⟩ ?_
    clear h
    intro i11 s11 hi11 K11 e11
    refine JC_seq (fun K12 hK12 => ?_)
    refine JC_region ?_
    refine JL_go (u := BL (decide ((i11 : Int) < (families.length : Int)))) (A_lss rfl rfl rfl) ?_ rfl rfl rfl
    refine JL_nil ?_
    refine hK12 _ _ ?_
    refine JC_seq (fun K13 hK13 => ?_)
    refine JC_cond rfl (fun hb => ?_) (fun hb => ?_)
    ·
      have hk11 := lt_len hb
      obtain ⟨y11, nx11, hy11, hn11, h⟩ := each_out hi11 hk11
      replace h := app4 hb11 h
      refine JC_skip ?_
      refine hK13 _ _ ?_
      refine JC_seq (fun K14 hK14 => ?_)
      refine JC_block ?_
      refine JC_seq (fun K15 hK15 => ?_)
      refine JC_region ?_
      refine JL_go (u := .dptr [LS 2 Group.av y11]) (A_indexM (f := (LS 2 Group.av)) (xs := families) (y := y11) rfl rfl rfl tf_slice_59 hy11 rfl) ?_ rfl rfl rfl
      refine JL_go (u := LS 2 Group.av y11) (A_load tf_scalar_56 rfl rfl rfl) ?_ rfl rfl rfl
      refine JL_go (u := LS 2 Group.av y11) (A_assign rfl rfl) ?_ rfl rfl rfl
      refine JL_nil ?_
      refine hK15 _ _ ?_
      refine JC_seq (fun K16 hK16 => ?_)
      refine JC_region ?_
      refine JL_go (u := LS 4 bound_Count.av r7) (A_move rfl rfl) ?_ rfl rfl rfl
      refine JL_go (u := LS 2 Group.av y11) (A_move rfl rfl) ?_ rfl rfl rfl
      obtain ⟨r17, hr17, h⟩ := bnd_out h
      refine JL_go (u := .tup [LS 4 bound_Count.av r17.1, I64 r17.2]) (A_call1 (args := [LS 4 bound_Count.av r7, LS 2 Group.av y11]) rfl (M_bound_family_w r7 y11 r17 hr17) tf_call_23 ⟨rfl, rfl, rfl, rfl, trivial⟩) ?_ rfl rfl rfl
      refine JL_go (u := .tup [LS 4 bound_Count.av r17.1, I64 r17.2]) (A_move rfl rfl) ?_ rfl rfl rfl
      refine JL_go (u := LS 4 bound_Count.av r17.1) (A_extract rfl rfl rfl) ?_ rfl rfl rfl
      refine JL_go (u := I64 r17.2) (A_extract rfl rfl rfl) ?_ rfl rfl rfl
      refine JL_go (u := LS 4 bound_Count.av r17.1) (A_assign rfl rfl) ?_ rfl rfl rfl
      refine JL_go (u := I64 r17.2) (A_assign rfl rfl) ?_ rfl rfl rfl
      refine JL_nil ?_
      refine hK16 _ _ ?_
      refine JC_seq (fun K18 hK18 => ?_)
      refine JC_seq (fun K19 hK19 => ?_)
      refine JC_region ?_
      refine JL_go (u := I64 r17.2) (A_move rfl rfl) ?_ rfl rfl rfl
      refine JL_go (u := BL (decide (r17.2 ≠ 0))) (A_neq rfl rfl rfl) ?_ rfl rfl rfl
      refine JL_nil ?_
      refine hK19 _ _ ?_
      refine JC_cond rfl (fun hb => ?_) (fun hb => ?_)
      ·
        replace h := bif_t hb h
        refine JC_seq (fun K20 hK20 => ?_)
        refine JC_region ?_
        refine JL_go (u := I64 r17.2) (A_move rfl rfl) ?_ rfl rfl rfl
        refine JL_go (u := I64 0) (A_assign rfl rfl) ?_ rfl rfl rfl
        refine JL_go (u := I64 r17.2) (A_assign rfl rfl) ?_ rfl rfl rfl
        refine JL_nil ?_
        refine hK20 _ _ ?_
        refine JC_ret ?_
        exact ⟨[I64 0, I64 r17.2], [], trivial, rfl, ⟨⟨_, rfl, .conv (.same rfl)⟩, ⟨_, rfl, .conv (.same rfl)⟩, trivial⟩, rfl, (0, r17.2), Eq.mpr (Option.some.inj h) hp, rfl⟩
      ·
        replace h := bif_f hb h
        refine JC_skip ?_
        refine hK18 _ _ ?_
        refine JC_seq (fun K21 hK21 => ?_)
        refine JC_region ?_
        refine JL_go (u := I64 s11.1) (A_move rfl rfl) ?_ rfl rfl rfl
        refine JL_go (u := .agg (Ship.cs s)) (A_loadAgg tf_agg_47 rfl rfl rfl) ?_ rfl rfl rfl
        refine JL_go (u := LS 4 bound_Count.av r17.1) (A_move rfl rfl) ?_ rfl rfl rfl
        obtain ⟨r22, hr22, h⟩ := bnd_out h
        refine JL_go (u := I64 r22) (A_call1 (args := [.agg (Ship.cs s), LS 4 bound_Count.av r17.1]) rfl (M_bound_bound_w F s r17.1 r22 hr22) tf_call_24 ⟨rfl, rfl, rfl, rfl, trivial⟩) ?_ rfl rfl rfl
        obtain ⟨v23, hv23, h⟩ := chk_out h
        refine JL_go (u := I64 v23) (A_add hv23 rfl rfl rfl) ?_ rfl rfl rfl
        refine JL_go (u := I64 v23) (A_assign rfl rfl) ?_ rfl rfl rfl
        refine JL_nil ?_
        refine hK21 _ _ ?_
        refine JC_seq (fun K24 hK24 => ?_)
        refine JC_region ?_
        refine JL_go (u := LS 2 Group.av y11) (A_move rfl rfl) ?_ rfl rfl rfl
        refine JL_lenM (f := Group.av) (xs := y11) tf_slice_56 rfl rfl (fun hm47 => ?_) rfl rfl rfl
        refine JL_go (u := I64 0) (A_move rfl rfl) ?_ rfl rfl rfl
        refine JL_nil ?_
        refine hK24 _ _ ?_
        refine JC_block ?_
        obtain ⟨b53, kx53, hb53, hkx53, h⟩ := each_in h
        refine JC_loop2 (fun i53 (s53 : (AMap Group Int)) => each b53 kx53 (List.drop i53 y11) i53 s53 = some p) (fun i53 s53 => [(3, .dptr (Ship.cs s)), (8, I64 v23), (9, LS 4 bound_Count.av r7), (10, .mp 140000025), (26, LS 1 (LS 2 Group.av) families), (27, I64 (families.length : Int)), (28, I64 (i11 : Int)), (46, LS 2 Group.av y11), (47, I64 (y11.length : Int)), (48, I64 (i53 : Int))]) (fun i53 s53 => [(140000025, MP 89 Group.kv I64 s53)]) (fun i53 => y11.length - i53) 0 s11.2 h ⟨⟨.same rfl, .same rfl, .same rfl, .same rfl, .same rfl, .same rfl, .same rfl, .same rfl, .same rfl, .same rfl, trivial⟩, ⟨⟨_, rfl, .map⟩, trivial⟩, rfl⟩ ?_
        clear h
        intro i53 s53 hi53 K53 e53
        refine JC_seq (fun K54 hK54 => ?_)
        refine JC_region ?_
        refine JL_go (u := BL (decide ((i53 : Int) < (y11.length : Int)))) (A_lss rfl rfl rfl) ?_ rfl rfl rfl
        refine JL_nil ?_
        refine hK54 _ _ ?_
        refine JC_seq (fun K55 hK55 => ?_)
        refine JC_cond rfl (fun hb => ?_) (fun hb => ?_)
        ·
          have hk53 := lt_len hb
          obtain ⟨y53, nx53, hy53, hn53, h⟩ := each_out hi53 hk53
          replace h := app4 hb53 h
          refine JC_skip ?_
          refine hK55 _ _ ?_
          refine JC_seq (fun K56 hK56 => ?_)
          refine JC_block ?_
          refine JC_seq (fun K57 hK57 => ?_)
          refine JC_region ?_
          refine JL_go (u := .dptr [I64 y53.Load, I64 y53.Discharge]) (A_indexM (f := Group.av) (xs := y11) (y := y53) rfl rfl rfl tf_slice_56 hy53 rfl) ?_ rfl rfl rfl
          refine JL_go (u := .agg [I64 y53.Load, I64 y53.Discharge]) (A_loadAgg tf_agg_24 rfl rfl rfl) ?_ rfl rfl rfl
          refine JL_go (u := .ptr 140000016 0) (A_allocJ 140000016 2 tf_zsize_24 rfl rfl) ?_ rfl rfl rfl
          refine JL_go0 (u := .junk) (A_store (u := .agg [I64 y53.Load, I64 y53.Discharge]) (ds := [I64 y53.Load, I64 y53.Discharge]) tf_size_24 rfl rfl rfl rfl rfl rfl rfl rfl) ?_ rfl rfl
          refine JL_nil ?_
          refine hK57 _ _ ?_
          refine JC_freeze [(3, .dptr (Ship.cs s)), (8, I64 v23), (9, LS 4 bound_Count.av r7), (10, .mp 140000025), (16, .dptr [I64 y53.Load, I64 y53.Discharge]), (26, LS 1 (LS 2 Group.av) families), (27, I64 (families.length : Int)), (28, I64 (i11 : Int)), (46, LS 2 Group.av y11), (47, I64 (y11.length : Int)), (48, I64 (i53 : Int))] [(140000025, MP 89 Group.kv I64 s53)] 140000016 rfl rfl rfl ⟨⟨_, rfl, .map⟩, trivial⟩ rfl (by exact ⟨.conv (.same rfl), .conv (.same rfl), .conv (.same rfl), .conv (.same rfl), .ptr, .conv (.same rfl), .conv (.same rfl), .conv (.same rfl), .conv (.same rfl), .conv (.same rfl), .conv (.same rfl), trivial⟩) ?_
          refine JC_fits (l' := [(3, .dptr (Ship.cs s)), (8, I64 v23), (9, LS 4 bound_Count.av r7), (10, .mp 140000025), (16, .dptr [I64 y53.Load, I64 y53.Discharge]), (26, LS 1 (LS 2 Group.av) families), (27, I64 (families.length : Int)), (28, I64 (i11 : Int)), (46, LS 2 Group.av y11), (47, I64 (y11.length : Int)), (48, I64 (i53 : Int))]) (L' := [(140000025, MP 89 Group.kv I64 s53)]) ⟨⟨.same rfl, .same rfl, .same rfl, .same rfl, .same rfl, .same rfl, .same rfl, .same rfl, .same rfl, .same rfl, .same rfl, trivial⟩, ⟨⟨_, rfl, .map⟩, trivial⟩, rfl⟩ ?_
          obtain ⟨v58, hv58, h⟩ := bnd_out h
          obtain ⟨v59, hv59, h⟩ := chk_out h
          refine JC_draw [4, 6] [0, 0, 0, 0, 0, 1, 0] [0, 0, 1, 1, 0, 1, 0] [[(140000025, MP 89 Group.kv I64 s53)], ((140000025, MI 89 Group.kv I64 s53 y53 0) :: [(140000025, MP 89 Group.kv I64 s53)]), ((140000025, MP 89 Group.kv I64 (AMap.put s53 y53 v59)) :: ((140000025, MI 89 Group.kv I64 s53 y53 0) :: [(140000025, MP 89 Group.kv I64 s53)]))] tf_mixed (by kernel_rfl) rfl rfl ?_
          refine D_ro (u := .mp 140000025) rfl rfl ⟨O_go (A_move rfl rfl) rfl, trivial⟩ ?_ rfl
          refine D_ro (u := .agg [I64 y53.Load, I64 y53.Discharge]) rfl rfl ⟨O_go (A_loadAgg tf_agg_24 rfl rfl rfl) rfl, trivial⟩ ?_ rfl
          refine D_ro (u := I64 v58) rfl rfl ⟨O_go (((Option.some.inj hv58) ▸ A_lookupM0 (av := I64) (m := s53) (a := y53) 0 (.int .i64 0) rfl rfl rfl rfl tk_24 tf_map_89 tf_zv_3 rfl)) rfl, O_go (((Option.some.inj hv58) ▸ A_lookupMI (av := I64) (m := s53) (a := y53) 0 (.int .i64 0) rfl rfl rfl rfl tk_24 tf_map_89 tf_zv_3 rfl)) rfl, trivial⟩ ?_ rfl
          refine D_ro (u := I64 v59) rfl rfl ⟨O_go (A_add hv59 rfl rfl rfl) rfl, O_go (A_add hv59 rfl rfl rfl) rfl, trivial⟩ ?_ rfl
          refine D_w (u := .tup [.junk, I64 (midx (AMap.l s53) y53 : Int)]) rfl rfl rfl rfl (O_go (A_mapEntryM (m := s53) (a := y53) 0 (.int .i64 0) rfl rfl rfl rfl tk_24 tf_map_89 tf_zv_3 rfl) rfl) ?_ rfl
          refine D_ro (u := I64 (midx (AMap.l s53) y53 : Int)) rfl rfl ⟨O_go (A_extract rfl rfl rfl) rfl, trivial⟩ ?_ rfl
          refine D_w0 (u := .junk) rfl rfl rfl rfl (O_go (A_entryStoreM (m := s53) (a := y53) (v := v59) 0 rfl rfl rfl rfl rfl rfl) rfl) ?_
          refine D_nil ?_
          refine hK56 _ _ ?_
          refine JC_region ?_
          refine JL_go (u := I64 ((i53 + 1 : Nat) : Int)) (A_add (idx_succ hk53 hm47) rfl rfl rfl) ?_ rfl rfl rfl
          refine JL_go (u := I64 ((i53 + 1 : Nat) : Int)) (A_move rfl rfl) ?_ rfl rfl rfl
          refine JL_nil ?_
          exact e53 _ _ (i53 + 1) (AMap.put s53 y53 v59) (app1 hn53 h) (by omega) ⟨⟨.same rfl, .same rfl, .same rfl, .same rfl, .same rfl, .same rfl, .same rfl, .same rfl, .same rfl, .same rfl, trivial⟩, ⟨⟨_, rfl, .map⟩, trivial⟩, rfl⟩
        ·
          have h := app1 hkx53 (each_nil hi53 (not_lt_len hb))
          refine JC_exit ?_
          refine hK14 _ _ ?_
          refine JC_region ?_
          refine JL_go (u := I64 ((i11 + 1 : Nat) : Int)) (A_add (idx_succ hk11 hm27) rfl rfl rfl) ?_ rfl rfl rfl
          refine JL_go (u := I64 ((i11 + 1 : Nat) : Int)) (A_move rfl rfl) ?_ rfl rfl rfl
          refine JL_nil ?_
          exact e11 _ _ (i11 + 1) (v23, s53) (app1 hn11 h) (by omega) ⟨⟨.same rfl, .same rfl, .same rfl, .same rfl, .same rfl, .same rfl, .same rfl, trivial⟩, ⟨⟨_, rfl, .map⟩, trivial⟩, rfl⟩
    ·
      have h := app1 hkx11 (each_nil hi11 (not_lt_len hb))
      refine JC_exit ?_
      refine hK9 _ _ ?_
      refine JC_seq (fun K60 hK60 => ?_)
      refine JC_seq (fun K61 hK61 => ?_)
      refine JC_region ?_
      refine JL_go (u := .mp 140000025) (A_move rfl rfl) ?_ rfl rfl rfl
      refine JL_go (u := .it 140000061) (A_rangeM 140000061 (m := s11.2) rfl rfl rfl rfl tf_map_89) ?_ rfl rfl rfl
      refine JL_nil ?_
      refine hK61 _ _ ?_
      refine JC_block ?_
      obtain ⟨b67, kx67, hb67, hkx67, h⟩ := eachM_in h
      refine JC_loopM (AMap.size s11.2) (fun i67 (s67 : Unit) => MInv b67 kx67 (AMap.l s11.2) i67 s67) (fun i67 s67 => [(8, I64 s11.1), (61, .it 140000061)]) (fun i67 s67 => [(140000025, MP 89 Group.kv I64 s11.2), (140000061, .iter 140000025 (AMap.size s11.2) i67)]) () (MInv.start h hp) ⟨⟨.same rfl, .same rfl, trivial⟩, ⟨⟨_, rfl, .map⟩, ⟨_, rfl, .iter rfl⟩, trivial⟩, rfl⟩ ?_
      clear h hp
      intro i67 s67 hi67 K67 e67
      refine JC_seq (fun K68 hK68 => ?_)
      refine JC_region ?_
      refine JL_step rfl rfl rfl (A_nextM (m := s11.2) rfl rfl rfl rfl) ?_
      intro u_ L_ hn_
      rcases hn_ with ⟨q67, x67, he67, hs67, rfl, rfl⟩ | ⟨ha67, rfl, rfl⟩
      ·
        obtain ⟨o67, h, ho1_67, ho2_67⟩ := hi67.step he67 hs67
        replace h := app3 hb67 h
        refine JL_go (u := BL true) (A_extract rfl rfl rfl) ?_ rfl rfl rfl
        refine JL_nil ?_
        refine hK68 _ _ ?_
        refine JC_seq (fun K69 hK69 => ?_)
        refine JC_condT rfl ?_
        refine JC_skip ?_
        refine hK69 _ _ ?_
        refine JC_block ?_
        refine JC_seq (fun K70 hK70 => ?_)
        refine JC_region ?_
        refine JL_go (u := .tup [.agg [I64 x67.1.Load, I64 x67.1.Discharge], I64 x67.2]) (A_entryM (kv := Group.kv) (av := I64) (m := s11.2) (q := q67) (seen := i67) (e := x67) rfl rfl rfl rfl he67) ?_ rfl rfl rfl
        refine JL_go (u := I64 x67.2) (A_extract rfl rfl rfl) ?_ rfl rfl rfl
        refine JL_go (u := I64 x67.2) (A_assign rfl rfl) ?_ rfl rfl rfl
        refine JL_nil ?_
        refine hK70 _ _ ?_
        refine JC_seq (fun K71 hK71 => ?_)
        refine JC_region ?_
        refine JL_go (u := I64 x67.2) (A_move rfl rfl) ?_ rfl rfl rfl
        refine JL_go (u := BL (decide (1 < x67.2))) (A_gtr rfl rfl rfl) ?_ rfl rfl rfl
        refine JL_nil ?_
        refine hK71 _ _ ?_
        refine JC_cond rfl (fun hb => ?_) (fun hb => ?_)
        ·
          replace h := bif_t hb h
          refine JC_seq (fun K72 hK72 => ?_)
          refine JC_region ?_
          refine JL_go (u := I64 0) (A_assign rfl rfl) ?_ rfl rfl rfl
          refine JL_go (u := I64 271) (A_assign rfl rfl) ?_ rfl rfl rfl
          refine JL_nil ?_
          refine hK72 _ _ ?_
          refine JC_ret ?_
          obtain ⟨y_, hy_, hl_⟩ := lft_out h
          exact ⟨[I64 0, I64 271], [], trivial, rfl, ⟨⟨_, rfl, .conv (.same rfl)⟩, ⟨_, rfl, .conv (.same rfl)⟩, trivial⟩, rfl, (0, 271), Eq.mpr (Option.some.inj hl_) (ho1_67 y_ hy_), rfl⟩
        ·
          replace h := bif_f hb h
          refine JC_skip ?_
          exact e67 _ _ (i67 ++ [q67]) () (ho2_67 _ (Option.some.inj h).symm) (unseen_lt (List.getElem?_eq_some_iff.1 he67).1 hs67) ⟨⟨.same rfl, .same rfl, trivial⟩, ⟨⟨_, rfl, .map⟩, ⟨_, rfl, .iter rfl⟩, trivial⟩, rfl⟩
      ·
        obtain ⟨p_, h, hp⟩ := hi67.done ha67
        replace h := app1 hkx67 h
        refine JL_go (u := BL false) (A_extract rfl rfl rfl) ?_ rfl rfl rfl
        refine JL_nil ?_
        refine hK68 _ _ ?_
        refine JC_seq (fun K73 hK73 => ?_)
        refine JC_condF rfl ?_
        refine JC_exit ?_
        refine hK60 _ _ ?_
        refine JC_seq (fun K74 hK74 => ?_)
        refine JC_region ?_
        refine JL_go (u := I64 s11.1) (A_move rfl rfl) ?_ rfl rfl rfl
        refine JL_go (u := I64 s11.1) (A_assign rfl rfl) ?_ rfl rfl rfl
        refine JL_go (u := I64 0) (A_assign rfl rfl) ?_ rfl rfl rfl
        refine JL_nil ?_
        refine hK74 _ _ ?_
        refine JC_ret ?_
        exact ⟨[I64 s11.1, I64 0], [], trivial, rfl, ⟨⟨_, rfl, .conv (.same rfl)⟩, ⟨_, rfl, .conv (.same rfl)⟩, trivial⟩, rfl, (s11.1, 0), Eq.mpr (Option.some.inj h) hp, rfl⟩
theorem M_bound_Check_s (S_ : Nat → (Ship) → (List Box) → (List (List Group)) → Option (Int × Int)) (hS_ : ∀ F s boxes families r, S_ F s boxes families = some r → ∃ p : Prop, M_bound_Check F s boxes families (fun r_ => r_ = r) = some p ∧ p) (F : Nat) (s : Ship) (boxes : List Box) (families : List (List Group)) (r : Int × Int) (h : S_ F s boxes families = some r) : Pure Try.prog 13 [.agg (Ship.cs s), LS 9 Box.av boxes, LS 1 (LS 2 Group.av) families] (· = .tup [I64 r.1, I64 r.2]) := by
  obtain ⟨p, h1, h2⟩ := hS_ F s boxes families r h
  exact (M_bound_Check_w F s boxes families _ p h1 h2).monoP (fun av hh => by obtain ⟨r_, rfl, ha⟩ := hh; exact ha)

def M_bound_Need (s : Ship) (whole : Int) (half : Int) : Option (Int × Int) :=
  bnd (S_ship_Right s) fun r4 =>
  bif (((!r4) || (decide ((min whole half) < 0))) || (decide (2000 < (max whole half)))) then
  (some (0, 2))
  else
  (bnd (M_ship_Tallest s) fun r7 =>
    bnd (M_bound_up whole r7) fun r9 =>
    chk (2 * r9) fun v10 =>
    chk (2 * whole) fun v11 =>
    chk (v11 + half) fun v12 =>
    bnd (M_bound_up v12 r7) fun r13 =>
    some ((max v10 r13), 0))
theorem M_bound_Need_w (s : Ship) (whole : Int) (half : Int) (r : Int × Int) (h : M_bound_Need s whole half = some r) : Pure Try.prog 9 [.agg (Ship.cs s), I64 whole, I64 half] (· = .tup [I64 r.1, I64 r.2]) := by
  unfold M_bound_Need at h
  refine Pure_ofG [.tmp 6, .tmp 7] Try.func9 rfl rfl ?_
  refine JC_seq (fun K1 hK1 => ?_)
  refine JC_region ?_
  refine JL_go (u := .ptr 100000003 0) (A_box (u := .agg (Ship.cs s)) (cs := [LS 12 Column.av s.Columns, LS 2 Cover.av s.Covers, I64 s.Light.Kilos, I64 s.Light.X, I64 s.Light.Y, I64 s.Light.Z, LS 5 Row.av s.Rows, LS 5 Frame.av s.Frames, LS 6 Tank.av s.Tanks, I64 s.Limits.Tolerance, I64 s.Limits.Trim, I64 s.Limits.List_, I64 s.Limits.Stability]) 100000003 rfl rfl rfl rfl rfl) ?_ rfl rfl rfl
  refine JL_go (u := I64 0) (A_assign rfl rfl) ?_ rfl rfl rfl
  refine JL_go (u := I64 0) (A_assign rfl rfl) ?_ rfl rfl rfl
  refine JL_nil ?_
  refine hK1 _ _ ?_
  refine JC_freeze [(1, I64 whole), (2, I64 half), (3, .dptr (Ship.cs s))] [] 100000003 rfl rfl rfl trivial rfl (by exact ⟨.conv (.same rfl), .conv (.same rfl), .ptr, trivial⟩) ?_
  refine JC_seq (fun K2 hK2 => ?_)
  refine JC_seq (fun K3 hK3 => ?_)
  refine JC_region ?_
  refine JL_go (u := .agg (Ship.cs s)) (A_loadAgg tf_agg_47 rfl rfl rfl) ?_ rfl rfl rfl
  obtain ⟨r4, hr4, h⟩ := bnd_out h
  refine JL_go (u := BL r4) (A_call1 (args := [.agg (Ship.cs s)]) rfl (S_ship_Right_w.down s r4 hr4) tf_call_19 ⟨rfl, rfl, trivial⟩) ?_ rfl rfl rfl
  refine JL_go (u := BL (!r4)) (A_not rfl rfl) ?_ rfl rfl rfl
  refine JL_go (u := BL (!r4)) (A_move rfl rfl) ?_ rfl rfl rfl
  refine JL_opt (u := I64 whole) [] rfl rfl rfl .scf trivial (fun hc => A_move rfl rfl) ?_ rfl rfl rfl
  refine JL_opt (u := I64 half) [] rfl rfl rfl .scf trivial (fun hc => A_move rfl rfl) ?_ rfl rfl rfl
  refine JL_opt (u := I64 (min whole half)) [(13, I64 whole), (14, I64 half)] rfl rfl rfl .scf ⟨.all id, .all id, trivial⟩ (fun hc => A_min rfl rfl rfl) ?_ rfl rfl rfl
  refine JL_opt (u := BL (decide ((min whole half) < 0))) [(15, I64 (min whole half))] rfl rfl rfl .scf ⟨.all id, trivial⟩ (fun hc => A_lss rfl rfl rfl) ?_ rfl rfl rfl
  refine JL_go (u := BL ((!r4) || (decide ((min whole half) < 0)))) (A_or rfl rfl rfl rfl) ?_ rfl rfl rfl
  refine JL_go (u := BL ((!r4) || (decide ((min whole half) < 0)))) (A_move rfl rfl) ?_ rfl rfl rfl
  refine JL_opt (u := I64 whole) [] rfl rfl rfl .scf trivial (fun hc => A_move rfl rfl) ?_ rfl rfl rfl
  refine JL_opt (u := I64 half) [] rfl rfl rfl .scf trivial (fun hc => A_move rfl rfl) ?_ rfl rfl rfl
  refine JL_opt (u := I64 (max whole half)) [(19, I64 whole), (20, I64 half)] rfl rfl rfl .scf ⟨.all id, .all id, trivial⟩ (fun hc => A_max rfl rfl rfl) ?_ rfl rfl rfl
  refine JL_opt (u := BL (decide (2000 < (max whole half)))) [(21, I64 (max whole half))] rfl rfl rfl .scf ⟨.all id, trivial⟩ (fun hc => A_gtr rfl rfl rfl) ?_ rfl rfl rfl
  refine JL_go (u := BL (((!r4) || (decide ((min whole half) < 0))) || (decide (2000 < (max whole half))))) (A_or rfl rfl rfl rfl) ?_ rfl rfl rfl
  refine JL_nil ?_
  refine hK3 _ _ ?_
  refine JC_cond rfl (fun hb => ?_) (fun hb => ?_)
  ·
    replace h := bif_t hb h
    refine JC_seq (fun K5 hK5 => ?_)
    refine JC_region ?_
    refine JL_go (u := I64 0) (A_assign rfl rfl) ?_ rfl rfl rfl
    refine JL_go (u := I64 2) (A_assign rfl rfl) ?_ rfl rfl rfl
    refine JL_nil ?_
    refine hK5 _ _ ?_
    refine JC_ret ?_
    exact ⟨[I64 0, I64 2], [], trivial, rfl, ⟨⟨_, rfl, .conv (.same rfl)⟩, ⟨_, rfl, .conv (.same rfl)⟩, trivial⟩, rfl, congrArg (fun r : Int × Int => (.tup [I64 r.1, I64 r.2] : AV)) (Option.some.inj h)⟩
  ·
    replace h := bif_f hb h
    refine JC_skip ?_
    refine hK2 _ _ ?_
    refine JC_seq (fun K6 hK6 => ?_)
    refine JC_region ?_
    refine JL_go (u := .agg (Ship.cs s)) (A_loadAgg tf_agg_47 rfl rfl rfl) ?_ rfl rfl rfl
    obtain ⟨r7, hr7, h⟩ := bnd_out h
    refine JL_go (u := I64 r7) (A_call1 (args := [.agg (Ship.cs s)]) rfl (M_ship_Tallest_w s r7 hr7) tf_call_20 ⟨rfl, rfl, trivial⟩) ?_ rfl rfl rfl
    refine JL_go (u := I64 r7) (A_assign rfl rfl) ?_ rfl rfl rfl
    refine JL_nil ?_
    refine hK6 _ _ ?_
    refine JC_seq (fun K8 hK8 => ?_)
    refine JC_region ?_
    refine JL_go (u := I64 whole) (A_move rfl rfl) ?_ rfl rfl rfl
    refine JL_go (u := I64 r7) (A_move rfl rfl) ?_ rfl rfl rfl
    obtain ⟨r9, hr9, h⟩ := bnd_out h
    refine JL_go (u := I64 r9) (A_call1 (args := [I64 whole, I64 r7]) rfl (M_bound_up_w whole r7 r9 hr9) tf_call_21 ⟨rfl, rfl, rfl, rfl, trivial⟩) ?_ rfl rfl rfl
    obtain ⟨v10, hv10, h⟩ := chk_out h
    refine JL_go (u := I64 v10) (A_mul hv10 rfl rfl rfl) ?_ rfl rfl rfl
    refine JL_go (u := I64 whole) (A_move rfl rfl) ?_ rfl rfl rfl
    obtain ⟨v11, hv11, h⟩ := chk_out h
    refine JL_go (u := I64 v11) (A_mul hv11 rfl rfl rfl) ?_ rfl rfl rfl
    refine JL_go (u := I64 half) (A_move rfl rfl) ?_ rfl rfl rfl
    obtain ⟨v12, hv12, h⟩ := chk_out h
    refine JL_go (u := I64 v12) (A_add hv12 rfl rfl rfl) ?_ rfl rfl rfl
    refine JL_go (u := I64 r7) (A_move rfl rfl) ?_ rfl rfl rfl
    obtain ⟨r13, hr13, h⟩ := bnd_out h
    refine JL_go (u := I64 r13) (A_call1 (args := [I64 v12, I64 r7]) rfl (M_bound_up_w v12 r7 r13 hr13) tf_call_21 ⟨rfl, rfl, rfl, rfl, trivial⟩) ?_ rfl rfl rfl
    refine JL_go (u := I64 (max v10 r13)) (A_max rfl rfl rfl) ?_ rfl rfl rfl
    refine JL_go (u := I64 (max v10 r13)) (A_assign rfl rfl) ?_ rfl rfl rfl
    refine JL_go (u := I64 0) (A_assign rfl rfl) ?_ rfl rfl rfl
    refine JL_nil ?_
    refine hK8 _ _ ?_
    refine JC_ret ?_
    exact ⟨[I64 (max v10 r13), I64 0], [], trivial, rfl, ⟨⟨_, rfl, .conv (.same rfl)⟩, ⟨_, rfl, .conv (.same rfl)⟩, trivial⟩, rfl, congrArg (fun r : Int × Int => (.tup [I64 r.1, I64 r.2] : AV)) (Option.some.inj h)⟩
end
end Go.Proofs.Ytpbhhakkhlfbnaa
