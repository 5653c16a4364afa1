/-
 Models of functions of the program, and that they return what the models say.
-/
import Derived.Test.YtbpgdkibmejibaaProg
import Derived.Test.YtbpgdkibmejibaaSortM
import Derived.Test.YtbpgdkibmejibaaSortLay
import Derived.Test.YtbpgdkibmejibaaRel
import Derived.Test.YtbpgdkibmejibaaLit0
import Derived.Test.YtbpgdkibmejibaaXA
import Derived.Test.YtbpgdkibmejibaaSpecA
import Derived.Test.YtbpgdkibmejibaaSpecI
import Derived.Test.YtbpgdkibmejibaaXDa
set_option maxRecDepth 100000
set_option linter.unusedVariables false
set_option linter.unusedSimpArgs false
namespace Go.Proofs.Ytbpgdkibmejibaa
open Go.RowKit
noncomputable section
open XAF
open XDF

def M_slot_All (s : Ship) (size : Int) : Option (List Slot) :=
 bnd (M_slot_slots s size) fun r5 =>
 bnd (S_slot_slots_1 s size) fun ys8 =>
 each (fun y8 i8 (s8 : (List Slot)) nx8 =>
  need (decide ((s8.length + [y8].length) * 24 ≤ 140737488355328 ∧ s8.length + [y8].length ≤ maxLen)) <|
  nx8 (s8 ++ [y8]))
 (fun (s8 : (List Slot)) =>
  some s8) ys8 0 []
theorem M_slot_All_w (s : Ship) (size : Int) (r : (List Slot)) (h : M_slot_All s size = some r) : Pure Try.prog 18 [.agg [LS 12 Column.av s.Columns, LS 2 Cover.av s.Covers, I64 s.Light.Kilos, I64 s.Light.X, I64 s.Light.Y, I64 s.Light.Z, LS 5 Row.av s.Rows, LS 5 Frame.av s.Frames, LS 6 Tank.av s.Tanks, I64 s.Limits.Tolerance, I64 s.Limits.Trim, I64 s.Limits.List_, I64 s.Limits.Stability], U8 size] (· = LS 3 Slot.av r) := by
 unfold M_slot_All at h
 refine Pure_ofG [.tmp 4] Try.func18 rfl rfl ?_
 refine Js fun K1 hK1 => Jr ?_
 refine Jg (u := .ptr 1052 0) (A_box (u := .agg [LS 12 Column.av s.Columns, LS 2 Cover.av s.Covers, I64 s.Light.Kilos, I64 s.Light.X, I64 s.Light.Y, I64 s.Light.Z, LS 5 Row.av s.Rows, LS 5 Frame.av s.Frames, LS 6 Tank.av s.Tanks, I64 s.Limits.Tolerance, I64 s.Limits.Trim, I64 s.Limits.List_, I64 s.Limits.Stability]) (cs := [LS 12 Column.av s.Columns, LS 2 Cover.av s.Covers, I64 s.Light.Kilos, I64 s.Light.X, I64 s.Light.Y, I64 s.Light.Z, LS 5 Row.av s.Rows, LS 5 Frame.av s.Frames, LS 6 Tank.av s.Tanks, I64 s.Limits.Tolerance, I64 s.Limits.Trim, I64 s.Limits.List_, I64 s.Limits.Stability]) 1052 rfl rfl rfl rfl rfl) ?_ rfl rfl rfl
 refine Jg (u := LS 3 Slot.av ([] : List Slot)) (A_nilList 3 rfl rfl) ?_ rfl rfl rfl
 refine Jn (hK1 _ _ ?_)
 refine JC_freeze [(1, U8 size), (2, .dptr [LS 12 Column.av s.Columns, LS 2 Cover.av s.Covers, I64 s.Light.Kilos, I64 s.Light.X, I64 s.Light.Y, I64 s.Light.Z, LS 5 Row.av s.Rows, LS 5 Frame.av s.Frames, LS 6 Tank.av s.Tanks, I64 s.Limits.Tolerance, I64 s.Limits.Trim, I64 s.Limits.List_, I64 s.Limits.Stability])] [] 1052 rfl rfl rfl trivial rfl (by exact ⟨.conv (.same rfl), .ptr, trivial⟩) ?_
 refine Js fun K2 hK2 => Jr ?_
 refine Jg (u := .ptr 1053 0) (A_allocZ 1053 [.sc (.slice none 0 0)] [.slice none 0 0] tf_zero_77 ⟨.inl rfl, trivial⟩ rfl rfl) ?_ rfl rfl rfl
 refine JL_ownCell 1053 0 1055 80 3 rfl rfl rfl (cs' := [OW 1055 3 Slot.av ([] : List Slot)]) rfl ?_
 refine Jn (hK2 _ _ ?_)
 refine Js (fun K3 hK3 => ?_)
 refine Js fun K4 hK4 => Jr ?_
 refine Jg (u := .agg [LS 12 Column.av s.Columns, LS 2 Cover.av s.Covers, I64 s.Light.Kilos, I64 s.Light.X, I64 s.Light.Y, I64 s.Light.Z, LS 5 Row.av s.Rows, LS 5 Frame.av s.Frames, LS 6 Tank.av s.Tanks, I64 s.Limits.Tolerance, I64 s.Limits.Trim, I64 s.Limits.List_, I64 s.Limits.Stability]) (A_loadAgg tf_agg_35 rfl rfl rfl) ?_ rfl rfl rfl
 refine Jg (u := U8 size) (Am rfl rfl) ?_ rfl rfl rfl
 obtain ⟨r5, hr5, h⟩ := bnd_out h
 refine Jg (u := .fn 55 [.dptr [LS 12 Column.av s.Columns, LS 2 Cover.av s.Covers, I64 s.Light.Kilos, I64 s.Light.X, I64 s.Light.Y, I64 s.Light.Z, LS 5 Row.av s.Rows, LS 5 Frame.av s.Frames, LS 6 Tank.av s.Tanks, I64 s.Limits.Tolerance, I64 s.Limits.Trim, I64 s.Limits.List_, I64 s.Limits.Stability], .dptr [U8 size]]) (A_call1 (args := [.agg [LS 12 Column.av s.Columns, LS 2 Cover.av s.Covers, I64 s.Light.Kilos, I64 s.Light.X, I64 s.Light.Y, I64 s.Light.Z, LS 5 Row.av s.Rows, LS 5 Frame.av s.Frames, LS 6 Tank.av s.Tanks, I64 s.Limits.Tolerance, I64 s.Limits.Trim, I64 s.Limits.List_, I64 s.Limits.Stability], U8 size]) rfl (M_slot_slots_w s size r5 hr5) tf_call_34 ⟨rfl, rfl, rfl, rfl, trivial⟩) ?_ rfl rfl rfl
 refine Jn (hK4 _ _ ?_)
 refine JC_block ?_
 obtain ⟨ys8, hy_8, h⟩ := bnd_out h
 obtain ⟨b8, kx8, hb8, hkx8, h⟩ := each_in h
 refine JC_rangeFunc (ps := [10]) [(5, .ptr 1053 0), (9, .fn 55 [.dptr [LS 12 Column.av s.Columns, LS 2 Cover.av s.Covers, I64 s.Light.Kilos, I64 s.Light.X, I64 s.Light.Y, I64 s.Light.Z, LS 5 Row.av s.Rows, LS 5 Frame.av s.Frames, LS 6 Tank.av s.Tanks, I64 s.Limits.Tolerance, I64 s.Limits.Trim, I64 s.Limits.List_, I64 s.Limits.Stability], .dptr [U8 size]])] (ys8.map (fun y : Slot => [.agg [I64 y.Column, I64 y.Tier, U8 y.Half]])) (fun i8 (s8 : (List Slot)) => each b8 kx8 (List.drop i8 ys8) i8 s8 = some r) (fun s8 => [(1055, .spare 80 3 s8.length s8.length), (1053, .box 77 [OW 1055 3 Slot.av s8])]) [] rfl rfl rfl tf_call_55 (S_slot_slots_1_w.down s size ys8 hy_8) h ⟨⟨.same rfl, .same rfl, trivial⟩, ⟨⟨_, rfl, .same⟩, ⟨_, rfl, .boxL rfl ⟨.same rfl, trivial⟩⟩, trivial⟩, rfl⟩ rfl (fun us_ hus_ => by obtain ⟨_, _, rfl⟩ := List.mem_map.1 hus_; rfl) (fun p_ hp_ => Nat.blt_eq.mp (by revert p_; decide)) (fun _ => ⟨.same rfl, .same rfl, trivial⟩) (fun _ => rfl) ?_ ?_
 ·
  intro i8 us_ s8 hu_ hi8 lr_ K8 e8
  obtain ⟨hk8, rfl⟩ := mapf_at hu_
  obtain ⟨y8, nx8, hy8, hn8, h⟩ := each_out hi8 hk8
  replace h := app4 hb8 h
  obtain ⟨_, rfl⟩ := List.getElem?_eq_some_iff.1 hy8
  generalize ys8[i8] = y8 at h ⊢
  change JC _ _ _ _ [(10, .agg [I64 y8.Column, I64 y8.Tier, U8 y8.Half]), (5, .ptr 1053 0), (9, .fn 55 [.dptr [LS 12 Column.av s.Columns, LS 2 Cover.av s.Covers, I64 s.Light.Kilos, I64 s.Light.X, I64 s.Light.Y, I64 s.Light.Z, LS 5 Row.av s.Rows, LS 5 Frame.av s.Frames, LS 6 Tank.av s.Tanks, I64 s.Limits.Tolerance, I64 s.Limits.Trim, I64 s.Limits.List_, I64 s.Limits.Stability], .dptr [U8 size]])] [(1055, .spare 80 3 s8.length s8.length), (1053, .box 77 [OW 1055 3 Slot.av s8])]
  refine Jr ?_
  refine Jg (u := .ptr 1054 0) (A_allocJ 1054 3 tf_zsize_80 rfl rfl) ?_ rfl rfl rfl
  refine JL_go0 (u := .junk) (A_store (u := .agg [I64 y8.Column, I64 y8.Tier, U8 y8.Half]) (ds := [I64 y8.Column, I64 y8.Tier, U8 y8.Half]) tf_size_80 rfl rfl rfl rfl rfl rfl rfl rfl) ?_ rfl rfl
  refine Jn ?_
  refine Mid_freeze [(5, .ptr 1053 0), (6, .dptr [I64 y8.Column, I64 y8.Tier, U8 y8.Half])] [(1055, .spare 80 3 s8.length s8.length), (1053, .box 77 [OW 1055 3 Slot.av s8])] 1054 rfl rfl rfl ⟨⟨_, rfl, .same⟩, ⟨_, rfl, .boxEq rfl rfl⟩, trivial⟩ rfl (by exact ⟨.conv (.same rfl), .ptr, trivial⟩) ?_
  refine Mid_go ?_
  refine JC_block ?_
  refine Jr ?_
  refine Jg (u := OW 1055 3 Slot.av s8) (A_loadL tf_scalar_77 rfl rfl rfl rfl) ?_ rfl rfl rfl
  refine Jg (u := .agg [I64 y8.Column, I64 y8.Tier, U8 y8.Half]) (A_loadAgg tf_agg_80 rfl rfl rfl) ?_ rfl rfl rfl
  refine Jg (u := LS 3 Slot.av [y8]) (A_buildSlice (xs := [.agg [I64 y8.Column, I64 y8.Tier, U8 y8.Half]]) rfl ⟨rfl, rfl, trivial⟩ tf_slice_77 tf_zsize_80 rfl rfl rfl rfl) ?_ rfl rfl rfl
  obtain ⟨ha9, h⟩ := need_out h
  refine Jg (u := OW 1055 3 Slot.av (s8 ++ [y8])) (A_appendM (f := Slot.av) (xs := s8) (ys := [y8]) rfl rfl rfl rfl tf_slice_77 tf_elem_80 ha9 (fun _ => rfl) (.inl rfl) rfl) ?_ rfl rfl rfl
  refine JL_go0 (u := .junk) (A_store (u := OW 1055 3 Slot.av (s8 ++ [y8])) (ds := [OW 1055 3 Slot.av (s8 ++ [y8])]) tf_size_77 rfl rfl rfl rfl rfl rfl rfl rfl) ?_ rfl rfl
  refine Jn ?_
  exact e8 _ _ (s8 ++ [y8]) (app1 hn8 h) ⟨trivial, ⟨⟨_, rfl, .same⟩, ⟨_, rfl, .boxL rfl ⟨.same rfl, trivial⟩⟩, trivial⟩, rfl⟩
 ·
  intro s8 h
  rw [List.length_map] at h
  replace h := app1 hkx8 (each_nil h (Nat.lt_irrefl _))
  refine hK3 _ _ ?_
  refine Js fun K10 hK10 => Jr ?_
  refine Jg (u := OW 1055 3 Slot.av s8) (A_loadL tf_scalar_77 rfl rfl rfl rfl) ?_ rfl rfl rfl
  refine Jg (u := OW 1055 3 Slot.av s8) (Aa rfl rfl) ?_ rfl rfl rfl
  refine Jn (hK10 _ _ ?_)
  refine JC_fits (l' := [(4, LS 3 Slot.av s8)]) (L' := [(1053, .box 77 [LS 3 Slot.av s8])]) ⟨⟨.list rfl, trivial⟩, ⟨⟨_, rfl, .boxL rfl ⟨.list rfl, trivial⟩⟩, trivial⟩, rfl⟩ ?_
  refine JC_freeze [(4, LS 3 Slot.av s8)] [] 1053 rfl rfl rfl trivial rfl (by exact ⟨.conv (.same rfl), trivial⟩) ?_
  refine JC_ret ?_
  exact ⟨[LS 3 Slot.av s8], [], trivial, rfl, ⟨⟨_, rfl, .conv (.same rfl)⟩, trivial⟩, rfl, congrArg (fun r : (List Slot) => (LS 3 Slot.av r : AV)) (Option.some.inj h)⟩

def M_plan_Boxes (boxes : List Box) (calls : Int) : Option Bool :=
 bif (((decide (calls < 1)) || (decide (20 < calls))) || (decide (2000 < (boxes.length : Int)))) then
 (some false)
 else
 (each (fun y28 i28 (s28 : Int) nx28 =>
   bif ((((((decide (y28.ID ≤ s28)) || (decide (999999 < y28.ID))) || ((decide (y28.Size ≠ 40)) && ((decide (y28.Size ≠ 20)) || y28.High))) || (decide (y28.Load < 0))) || (decide (y28.Discharge ≤ y28.Load))) || (decide (calls ≤ y28.Discharge))) then
   (some false)
   else
   (nx28 y28.ID))
  (fun (s28 : Int) =>
   some true) boxes 0 0)
theorem M_plan_Boxes_w (boxes : List Box) (calls : Int) (r : Bool) (h : M_plan_Boxes boxes calls = some r) : Pure Try.prog 47 [LS 9 Box.av boxes, I64 calls] (· = BL r) := by
 unfold M_plan_Boxes at h
 refine Pure_ofG [.tmp 4] Try.func47 rfl rfl ?_
 refine Js fun K1 hK1 => Jr ?_
 refine Jg (u := BL false) (Aa rfl rfl) ?_ rfl rfl rfl
 refine Jn (hK1 _ _ ?_)
 refine Js (fun K2 hK2 => ?_)
 refine Js fun K3 hK3 => Jr ?_
 refine Jg (u := I64 calls) (Am rfl rfl) ?_ rfl rfl rfl
 refine Jg (u := BL (decide (calls < 1))) (A_lss rfl rfl rfl) ?_ rfl rfl rfl
 refine Jg (u := BL (decide (calls < 1))) (Am rfl rfl) ?_ rfl rfl rfl
 refine JL_opt (u := I64 calls) [] rfl rfl rfl .scf trivial (fun hc => Am rfl rfl) ?_ rfl rfl rfl
 refine JL_opt (u := BL (decide (20 < calls))) [(11, I64 calls)] rfl rfl rfl .scf ⟨.all id, trivial⟩ (fun hc => A_gtr rfl rfl rfl) ?_ rfl rfl rfl
 refine Jg (u := BL ((decide (calls < 1)) || (decide (20 < calls)))) (A_or rfl rfl rfl rfl) ?_ rfl rfl rfl
 refine Jg (u := BL ((decide (calls < 1)) || (decide (20 < calls)))) (Am rfl rfl) ?_ rfl rfl rfl
 refine JL_opt (u := LS 9 Box.av boxes) [] rfl rfl rfl .scf trivial (fun hc => Am rfl rfl) ?_ rfl rfl rfl
 refine JL_opt (u := I64 (boxes.length : Int)) [(15, LS 9 Box.av boxes)] rfl rfl rfl .scf ⟨.all id, trivial⟩ (fun hc => A_lenM (f := Box.av) (xs := boxes) tf_slice_39 rfl rfl) ?_ rfl rfl rfl
 refine JL_opt (u := BL (decide (2000 < (boxes.length : Int)))) [(16, I64 (boxes.length : Int))] rfl rfl rfl .scf ⟨.all id, trivial⟩ (fun hc => A_gtr rfl rfl rfl) ?_ rfl rfl rfl
 refine Jg (u := BL (((decide (calls < 1)) || (decide (20 < calls))) || (decide (2000 < (boxes.length : Int))))) (A_or rfl rfl rfl rfl) ?_ rfl rfl rfl
 refine Jn (hK3 _ _ ?_)
 refine JC_cond rfl (fun hb => ?_) (fun hb => ?_)
 ·
  replace h := bif_t hb h
  refine Js fun K4 hK4 => Jr ?_
  refine Jg (u := BL false) (Aa rfl rfl) ?_ rfl rfl rfl
  refine Jn (hK4 _ _ ?_)
  refine JC_ret ?_
  exact ⟨[BL false], [], trivial, rfl, ⟨⟨_, rfl, .conv (.same rfl)⟩, trivial⟩, rfl, congrArg (fun r : Bool => (BL r : AV)) (Option.some.inj h)⟩
 ·
  replace h := bif_f hb h
  refine JC_skip ?_
  refine hK2 _ _ ?_
  refine Js fun K5 hK5 => Jr ?_
  refine Jg (u := I64 0) (Aa rfl rfl) ?_ rfl rfl rfl
  refine Jn (hK5 _ _ ?_)
  refine Js (fun K6 hK6 => ?_)
  refine Js fun K7 hK7 => Jr ?_
  refine Jg (u := LS 9 Box.av boxes) (Am rfl rfl) ?_ rfl rfl rfl
  refine JL_lenM (f := Box.av) (xs := boxes) tf_slice_39 rfl rfl (fun hm20 => ?_) rfl rfl rfl
  refine Jg (u := I64 0) (Am rfl rfl) ?_ rfl rfl rfl
  refine Jn (hK7 _ _ ?_)
  refine JC_block ?_
  obtain ⟨b28, kx28, hb28, hkx28, h⟩ := each_in h
  refine JC_loop2 (fun i28 (s28 : Int) => each b28 kx28 (List.drop i28 boxes) i28 s28 = some r) (fun i28 s28 => [(1, I64 calls), (5, I64 s28), (19, LS 9 Box.av boxes), (20, I64 (boxes.length : Int)), (21, I64 (i28 : Int))]) (fun i28 s28 => []) (fun i28 => boxes.length - i28) 0 0 h ⟨⟨.same rfl, .same rfl, .same rfl, .same rfl, .same rfl, trivial⟩, trivial, rfl⟩ ?_
  clear h
  intro i28 s28 hi28 K28 e28
  refine Js fun K29 hK29 => Jr ?_
  refine Jg (u := BL (decide ((i28 : Int) < (boxes.length : Int)))) (A_lss rfl rfl rfl) ?_ rfl rfl rfl
  refine Jn (hK29 _ _ ?_)
  refine Js (fun K30 hK30 => ?_)
  refine JC_cond rfl (fun hb => ?_) (fun hb => ?_)
  ·
   have hk28 := lt_len hb
   obtain ⟨y28, nx28, hy28, hn28, h⟩ := each_out hi28 hk28
   replace h := app4 hb28 h
   refine JC_skip ?_
   refine hK30 _ _ ?_
   refine Js (fun K31 hK31 => ?_)
   refine JC_block ?_
   refine Js fun K32 hK32 => Jr ?_
   refine Jg (u := .dptr (Box.cs y28)) (A_indexM (f := Box.av) (xs := boxes) (y := y28) rfl rfl rfl tf_slice_39 hy28 rfl) ?_ rfl rfl rfl
   refine Jg (u := .agg (Box.cs y28)) (A_loadAgg tf_agg_50 rfl rfl rfl) ?_ rfl rfl rfl
   refine Jg (u := .ptr 1125 0) (A_allocJ 1125 9 tf_zsize_50 rfl rfl) ?_ rfl rfl rfl
   refine JL_go0 (u := .junk) (A_store (u := .agg (Box.cs y28)) (ds := [I64 y28.ID, ST y28.Number, U8 y28.Size, BL y28.High, I64 y28.Kilos, I64 y28.Load, I64 y28.Discharge, U8 y28.Class, BL y28.Reefer]) tf_size_50 rfl rfl rfl rfl rfl rfl rfl rfl) ?_ rfl rfl
   refine Jn (hK32 _ _ ?_)
   refine JC_freeze [(1, I64 calls), (5, I64 s28), (7, .dptr (Box.cs y28)), (19, LS 9 Box.av boxes), (20, I64 (boxes.length : Int)), (21, I64 (i28 : Int))] [] 1125 rfl rfl rfl trivial rfl (by exact ⟨.conv (.same rfl), .conv (.same rfl), .ptr, .conv (.same rfl), .conv (.same rfl), .conv (.same rfl), trivial⟩) ?_
   refine Js (fun K33 hK33 => ?_)
   refine Js fun K34 hK34 => Jr ?_
   refine Jg (u := .dptr (Box.cs y28)) (A_fieldM tf_field_50_0 rfl rfl rfl) ?_ rfl rfl rfl
   refine Jg (u := I64 y28.ID) (A_load tf_scalar_3 rfl rfl rfl) ?_ rfl rfl rfl
   refine Jg (u := I64 s28) (Am rfl rfl) ?_ rfl rfl rfl
   refine Jg (u := BL (decide (y28.ID ≤ s28))) (A_leq rfl rfl rfl) ?_ rfl rfl rfl
   refine Jg (u := BL (decide (y28.ID ≤ s28))) (Am rfl rfl) ?_ rfl rfl rfl
   refine JL_opt (u := .dptr (Box.cs y28)) [] rfl rfl rfl .scf trivial (fun hc => A_fieldM tf_field_50_0 rfl rfl rfl) ?_ rfl rfl rfl
   refine JL_opt (u := I64 y28.ID) [(30, .dptr (Box.cs y28))] rfl rfl rfl .scf ⟨.all id, trivial⟩ (fun hc => A_load tf_scalar_3 rfl rfl rfl) ?_ rfl rfl rfl
   refine JL_opt (u := BL (decide (999999 < y28.ID))) [(31, I64 y28.ID)] rfl rfl rfl .scf ⟨.all id, trivial⟩ (fun hc => A_gtr rfl rfl rfl) ?_ rfl rfl rfl
   refine Jg (u := BL ((decide (y28.ID ≤ s28)) || (decide (999999 < y28.ID)))) (A_or rfl rfl rfl rfl) ?_ rfl rfl rfl
   refine Jg (u := BL ((decide (y28.ID ≤ s28)) || (decide (999999 < y28.ID)))) (Am rfl rfl) ?_ rfl rfl rfl
   refine JL_opt (u := .dptr ((Box.cs y28).drop 2)) [] rfl rfl rfl .scf trivial (fun hc => A_fieldM tf_field_50_2 rfl rfl rfl) ?_ rfl rfl rfl
   refine JL_opt (u := U8 y28.Size) [(35, .dptr ((Box.cs y28).drop 2))] rfl rfl rfl .scf ⟨.all id, trivial⟩ (fun hc => A_load tf_scalar_5 rfl rfl rfl) ?_ rfl rfl rfl
   refine JL_opt (u := BL (decide (y28.Size ≠ 40))) [(36, U8 y28.Size)] rfl rfl rfl .scf ⟨.all id, trivial⟩ (fun hc => A_neq rfl rfl rfl) ?_ rfl rfl rfl
   refine JL_opt (u := BL (decide (y28.Size ≠ 40))) [(37, BL (decide (y28.Size ≠ 40)))] rfl rfl rfl .scf ⟨.all id, trivial⟩ (fun hc => Am rfl rfl) ?_ rfl rfl rfl
   refine JL_opt (u := .dptr ((Box.cs y28).drop 2)) [] rfl rfl rfl .optt trivial (fun hc => A_fieldM tf_field_50_2 rfl rfl rfl) ?_ rfl rfl rfl
   refine JL_opt (u := U8 y28.Size) [(39, .dptr ((Box.cs y28).drop 2))] rfl rfl rfl .optt ⟨.all id, trivial⟩ (fun hc => A_load tf_scalar_5 rfl rfl rfl) ?_ rfl rfl rfl
   refine JL_opt (u := BL (decide (y28.Size ≠ 20))) [(40, U8 y28.Size)] rfl rfl rfl .optt ⟨.all id, trivial⟩ (fun hc => A_neq rfl rfl rfl) ?_ rfl rfl rfl
   refine JL_opt (u := BL (decide (y28.Size ≠ 20))) [(41, BL (decide (y28.Size ≠ 20)))] rfl rfl rfl .optt ⟨.all id, trivial⟩ (fun hc => Am rfl rfl) ?_ rfl rfl rfl
   refine JL_opt (u := .dptr ((Box.cs y28).drop 3)) [] rfl rfl rfl .optf trivial (fun hc => A_fieldM tf_field_50_3 rfl rfl rfl) ?_ rfl rfl rfl
   refine JL_opt (u := BL y28.High) [(43, .dptr ((Box.cs y28).drop 3))] rfl rfl rfl .optf ⟨.all id, trivial⟩ (fun hc => A_load tf_scalar_4 rfl rfl rfl) ?_ rfl rfl rfl
   refine JL_opt (u := BL ((decide (y28.Size ≠ 20)) || y28.High)) [(42, BL (decide (y28.Size ≠ 20))), (44, _)] rfl rfl rfl .optt ⟨.all id, .part, trivial⟩ (fun hc => A_or rfl rfl rfl rfl) ?_ rfl rfl rfl
   refine JL_opt (u := BL ((decide (y28.Size ≠ 40)) && ((decide (y28.Size ≠ 20)) || y28.High))) [(38, BL (decide (y28.Size ≠ 40))), (45, _)] rfl rfl rfl .scf ⟨.all id, .part, trivial⟩ (fun hc => A_and rfl rfl rfl rfl) ?_ rfl rfl rfl
   refine Jg (u := BL (((decide (y28.ID ≤ s28)) || (decide (999999 < y28.ID))) || ((decide (y28.Size ≠ 40)) && ((decide (y28.Size ≠ 20)) || y28.High)))) (A_or rfl rfl rfl rfl) ?_ rfl rfl rfl
   refine Jg (u := BL (((decide (y28.ID ≤ s28)) || (decide (999999 < y28.ID))) || ((decide (y28.Size ≠ 40)) && ((decide (y28.Size ≠ 20)) || y28.High)))) (Am rfl rfl) ?_ rfl rfl rfl
   refine JL_opt (u := .dptr ((Box.cs y28).drop 5)) [] rfl rfl rfl .scf trivial (fun hc => A_fieldM tf_field_50_5 rfl rfl rfl) ?_ rfl rfl rfl
   refine JL_opt (u := I64 y28.Load) [(49, .dptr ((Box.cs y28).drop 5))] rfl rfl rfl .scf ⟨.all id, trivial⟩ (fun hc => A_load tf_scalar_3 rfl rfl rfl) ?_ rfl rfl rfl
   refine JL_opt (u := BL (decide (y28.Load < 0))) [(50, I64 y28.Load)] rfl rfl rfl .scf ⟨.all id, trivial⟩ (fun hc => A_lss rfl rfl rfl) ?_ rfl rfl rfl
   refine Jg (u := BL ((((decide (y28.ID ≤ s28)) || (decide (999999 < y28.ID))) || ((decide (y28.Size ≠ 40)) && ((decide (y28.Size ≠ 20)) || y28.High))) || (decide (y28.Load < 0)))) (A_or rfl rfl rfl rfl) ?_ rfl rfl rfl
   refine Jg (u := BL ((((decide (y28.ID ≤ s28)) || (decide (999999 < y28.ID))) || ((decide (y28.Size ≠ 40)) && ((decide (y28.Size ≠ 20)) || y28.High))) || (decide (y28.Load < 0)))) (Am rfl rfl) ?_ rfl rfl rfl
   refine JL_opt (u := .dptr ((Box.cs y28).drop 5)) [] rfl rfl rfl .scf trivial (fun hc => A_fieldM tf_field_50_5 rfl rfl rfl) ?_ rfl rfl rfl
   refine JL_opt (u := I64 y28.Load) [(54, .dptr ((Box.cs y28).drop 5))] rfl rfl rfl .scf ⟨.all id, trivial⟩ (fun hc => A_load tf_scalar_3 rfl rfl rfl) ?_ rfl rfl rfl
   refine JL_opt (u := .dptr ((Box.cs y28).drop 6)) [] rfl rfl rfl .scf trivial (fun hc => A_fieldM tf_field_50_6 rfl rfl rfl) ?_ rfl rfl rfl
   refine JL_opt (u := I64 y28.Discharge) [(56, .dptr ((Box.cs y28).drop 6))] rfl rfl rfl .scf ⟨.all id, trivial⟩ (fun hc => A_load tf_scalar_3 rfl rfl rfl) ?_ rfl rfl rfl
   refine JL_opt (u := BL (decide (y28.Discharge ≤ y28.Load))) [(55, I64 y28.Load), (57, I64 y28.Discharge)] rfl rfl rfl .scf ⟨.all id, .all id, trivial⟩ (fun hc => A_geq rfl rfl rfl) ?_ rfl rfl rfl
   refine Jg (u := BL (((((decide (y28.ID ≤ s28)) || (decide (999999 < y28.ID))) || ((decide (y28.Size ≠ 40)) && ((decide (y28.Size ≠ 20)) || y28.High))) || (decide (y28.Load < 0))) || (decide (y28.Discharge ≤ y28.Load)))) (A_or rfl rfl rfl rfl) ?_ rfl rfl rfl
   refine Jg (u := BL (((((decide (y28.ID ≤ s28)) || (decide (999999 < y28.ID))) || ((decide (y28.Size ≠ 40)) && ((decide (y28.Size ≠ 20)) || y28.High))) || (decide (y28.Load < 0))) || (decide (y28.Discharge ≤ y28.Load)))) (Am rfl rfl) ?_ rfl rfl rfl
   refine JL_opt (u := .dptr ((Box.cs y28).drop 6)) [] rfl rfl rfl .scf trivial (fun hc => A_fieldM tf_field_50_6 rfl rfl rfl) ?_ rfl rfl rfl
   refine JL_opt (u := I64 y28.Discharge) [(61, .dptr ((Box.cs y28).drop 6))] rfl rfl rfl .scf ⟨.all id, trivial⟩ (fun hc => A_load tf_scalar_3 rfl rfl rfl) ?_ rfl rfl rfl
   refine JL_opt (u := I64 calls) [] rfl rfl rfl .scf trivial (fun hc => Am rfl rfl) ?_ rfl rfl rfl
   refine JL_opt (u := BL (decide (calls ≤ y28.Discharge))) [(62, I64 y28.Discharge), (63, I64 calls)] rfl rfl rfl .scf ⟨.all id, .all id, trivial⟩ (fun hc => A_geq rfl rfl rfl) ?_ rfl rfl rfl
   refine Jg (u := BL ((((((decide (y28.ID ≤ s28)) || (decide (999999 < y28.ID))) || ((decide (y28.Size ≠ 40)) && ((decide (y28.Size ≠ 20)) || y28.High))) || (decide (y28.Load < 0))) || (decide (y28.Discharge ≤ y28.Load))) || (decide (calls ≤ y28.Discharge)))) (A_or rfl rfl rfl rfl) ?_ rfl rfl rfl
   refine Jn (hK34 _ _ ?_)
   refine JC_cond rfl (fun hb => ?_) (fun hb => ?_)
   ·
    replace h := bif_t hb h
    refine Js fun K35 hK35 => Jr ?_
    refine Jg (u := BL false) (Aa rfl rfl) ?_ rfl rfl rfl
    refine Jn (hK35 _ _ ?_)
    refine JC_ret ?_
    exact ⟨[BL false], [], trivial, rfl, ⟨⟨_, rfl, .conv (.same rfl)⟩, trivial⟩, rfl, congrArg (fun r : Bool => (BL r : AV)) (Option.some.inj h)⟩
   ·
    replace h := bif_f hb h
    refine JC_skip ?_
    refine hK33 _ _ ?_
    refine Jr ?_
    refine Jg (u := .dptr (Box.cs y28)) (A_fieldM tf_field_50_0 rfl rfl rfl) ?_ rfl rfl rfl
    refine Jg (u := I64 y28.ID) (A_load tf_scalar_3 rfl rfl rfl) ?_ rfl rfl rfl
    refine Jg (u := I64 y28.ID) (Aa rfl rfl) ?_ rfl rfl rfl
    refine Jn (hK31 _ _ ?_)
    refine Jr ?_
    refine Jg (u := I64 ((i28 + 1 : Nat) : Int)) (A_add (idx_succ hk28 hm20) rfl rfl rfl) ?_ rfl rfl rfl
    refine Jg (u := I64 ((i28 + 1 : Nat) : Int)) (Am rfl rfl) ?_ rfl rfl rfl
    refine Jn ?_
    exact e28 _ _ (i28 + 1) y28.ID (app1 hn28 h) (by omega) ⟨⟨.same rfl, .same rfl, .same rfl, .same rfl, .same rfl, trivial⟩, trivial, rfl⟩
  ·
   have h := app1 hkx28 (each_nil hi28 (not_lt_len hb))
   refine JC_exit ?_
   refine hK6 _ _ ?_
   refine Js fun K36 hK36 => Jr ?_
   refine Jg (u := BL true) (Aa rfl rfl) ?_ rfl rfl rfl
   refine Jn (hK36 _ _ ?_)
   refine JC_ret ?_
   exact ⟨[BL true], [], trivial, rfl, ⟨⟨_, rfl, .conv (.same rfl)⟩, trivial⟩, rfl, congrArg (fun r : Bool => (BL r : AV)) (Option.some.inj h)⟩

def M_plan_Aboard (boxes : List Box) (call : Int) : Option (List Int) :=
 each (fun y19 i19 (s19 : (List Int)) nx19 =>
  jp (fun kj22 =>
   bif ((decide (y19.Load ≤ call)) && (decide (call < y19.Discharge))) then
   (need (decide ((s19.length + [y19.ID].length) * 8 ≤ 140737488355328 ∧ s19.length + [y19.ID].length ≤ maxLen)) <|
    kj22 (s19 ++ [y19.ID]))
   else
   (kj22 s19)) fun (j22 : (List Int)) =>
  nx19 j22)
 (fun (s19 : (List Int)) =>
  some s19) boxes 0 []
theorem M_plan_Aboard_w (boxes : List Box) (call : Int) (r : (List Int)) (h : M_plan_Aboard boxes call = some r) : Pure Try.prog 26 [LS 9 Box.av boxes, I64 call] (· = LS 1 I64 r) := by
 unfold M_plan_Aboard at h
 refine Pure_ofG [.tmp 4] Try.func26 rfl rfl ?_
 refine Js fun K1 hK1 => Jr ?_
 refine Jg (u := LS 1 I64 ([] : List Int)) (A_nilList 1 rfl rfl) ?_ rfl rfl rfl
 refine Jn (hK1 _ _ ?_)
 refine Js fun K2 hK2 => Jr ?_
 refine Jg (u := OW 1079 1 I64 ([] : List Int)) (A_nilOwn 1079 3 1 rfl rfl rfl) ?_ rfl rfl rfl
 refine Jn (hK2 _ _ ?_)
 refine Js (fun K3 hK3 => ?_)
 refine Js fun K4 hK4 => Jr ?_
 refine Jg (u := LS 9 Box.av boxes) (Am rfl rfl) ?_ rfl rfl rfl
 refine JL_lenM (f := Box.av) (xs := boxes) tf_slice_39 rfl rfl (fun hm9 => ?_) rfl rfl rfl
 refine Jg (u := I64 0) (Am rfl rfl) ?_ rfl rfl rfl
 refine Jn (hK4 _ _ ?_)
 refine JC_block ?_
 obtain ⟨b19, kx19, hb19, hkx19, h⟩ := each_in h
 refine JC_loop2 (fun i19 (s19 : (List Int)) => each b19 kx19 (List.drop i19 boxes) i19 s19 = some r) (fun i19 s19 => [(1, I64 call), (5, OW 1079 1 I64 s19), (8, LS 9 Box.av boxes), (9, I64 (boxes.length : Int)), (10, I64 (i19 : Int))]) (fun i19 s19 => [(1079, .spare 3 1 s19.length s19.length)]) (fun i19 => boxes.length - i19) 0 [] h ⟨⟨.same rfl, .same rfl, .same rfl, .same rfl, .same rfl, trivial⟩, ⟨⟨_, rfl, .same⟩, trivial⟩, rfl⟩ ?_
 clear h
 intro i19 s19 hi19 K19 e19
 refine Js fun K20 hK20 => Jr ?_
 refine Jg (u := BL (decide ((i19 : Int) < (boxes.length : Int)))) (A_lss rfl rfl rfl) ?_ rfl rfl rfl
 refine Jn (hK20 _ _ ?_)
 refine Js (fun K21 hK21 => ?_)
 refine JC_cond rfl (fun hb => ?_) (fun hb => ?_)
 ·
  have hk19 := lt_len hb
  obtain ⟨y19, nx19, hy19, hn19, h⟩ := each_out hi19 hk19
  replace h := app4 hb19 h
  refine JC_skip ?_
  refine hK21 _ _ ?_
  obtain ⟨kj22, hkj22, h⟩ := jp_out h
  refine JC_seqJ (fun j22 : (List Int) => kj22 j22 = some r) (fun j22 => [(1, I64 call), (5, OW 1079 1 I64 j22), (8, LS 9 Box.av boxes), (9, I64 (boxes.length : Int)), (10, I64 (i19 : Int))]) (fun j22 => [(1079, .spare 3 1 j22.length j22.length)]) (fun Kj22 ej22 => ?_) ?_
  ·
   refine JC_block ?_
   refine Js fun K23 hK23 => Jr ?_
   refine Jg (u := .dptr (Box.cs y19)) (A_indexM (f := Box.av) (xs := boxes) (y := y19) rfl rfl rfl tf_slice_39 hy19 rfl) ?_ rfl rfl rfl
   refine Jg (u := .agg (Box.cs y19)) (A_loadAgg tf_agg_50 rfl rfl rfl) ?_ rfl rfl rfl
   refine Jg (u := .ptr 1080 0) (A_allocJ 1080 9 tf_zsize_50 rfl rfl) ?_ rfl rfl rfl
   refine JL_go0 (u := .junk) (A_store (u := .agg (Box.cs y19)) (ds := [I64 y19.ID, ST y19.Number, U8 y19.Size, BL y19.High, I64 y19.Kilos, I64 y19.Load, I64 y19.Discharge, U8 y19.Class, BL y19.Reefer]) tf_size_50 rfl rfl rfl rfl rfl rfl rfl rfl) ?_ rfl rfl
   refine Jn (hK23 _ _ ?_)
   refine JC_freeze [(1, I64 call), (5, OW 1079 1 I64 s19), (7, .dptr (Box.cs y19)), (8, LS 9 Box.av boxes), (9, I64 (boxes.length : Int)), (10, I64 (i19 : Int))] [(1079, .spare 3 1 s19.length s19.length)] 1080 rfl rfl rfl ⟨⟨_, rfl, .same⟩, trivial⟩ rfl (by exact ⟨.conv (.same rfl), .conv (.same rfl), .ptr, .conv (.same rfl), .conv (.same rfl), .conv (.same rfl), trivial⟩) ?_
   refine Js fun K24 hK24 => Jr ?_
   refine Jg (u := .dptr ((Box.cs y19).drop 5)) (A_fieldM tf_field_50_5 rfl rfl rfl) ?_ rfl rfl rfl
   refine Jg (u := I64 y19.Load) (A_load tf_scalar_3 rfl rfl rfl) ?_ rfl rfl rfl
   refine Jg (u := I64 call) (Am rfl rfl) ?_ rfl rfl rfl
   refine Jg (u := BL (decide (y19.Load ≤ call))) (A_leq rfl rfl rfl) ?_ rfl rfl rfl
   refine Jg (u := BL (decide (y19.Load ≤ call))) (Am rfl rfl) ?_ rfl rfl rfl
   refine JL_opt (u := I64 call) [] rfl rfl rfl .sct trivial (fun hc => Am rfl rfl) ?_ rfl rfl rfl
   refine JL_opt (u := .dptr ((Box.cs y19).drop 6)) [] rfl rfl rfl .sct trivial (fun hc => A_fieldM tf_field_50_6 rfl rfl rfl) ?_ rfl rfl rfl
   refine JL_opt (u := I64 y19.Discharge) [(20, .dptr ((Box.cs y19).drop 6))] rfl rfl rfl .sct ⟨.all id, trivial⟩ (fun hc => A_load tf_scalar_3 rfl rfl rfl) ?_ rfl rfl rfl
   refine JL_opt (u := BL (decide (call < y19.Discharge))) [(19, I64 call), (21, I64 y19.Discharge)] rfl rfl rfl .sct ⟨.all id, .all id, trivial⟩ (fun hc => A_lss rfl rfl rfl) ?_ rfl rfl rfl
   refine Jg (u := BL ((decide (y19.Load ≤ call)) && (decide (call < y19.Discharge)))) (A_and rfl rfl rfl rfl) ?_ rfl rfl rfl
   refine Jn (hK24 _ _ ?_)
   refine JC_cond rfl (fun hb => ?_) (fun hb => ?_)
   ·
    replace h := bif_t hb h
    refine Jr ?_
    refine Jg (u := OW 1079 1 I64 s19) (Am rfl rfl) ?_ rfl rfl rfl
    refine Jg (u := .dptr (Box.cs y19)) (A_fieldM tf_field_50_0 rfl rfl rfl) ?_ rfl rfl rfl
    refine Jg (u := I64 y19.ID) (A_load tf_scalar_3 rfl rfl rfl) ?_ rfl rfl rfl
    refine Jg (u := LS 1 I64 [y19.ID]) (A_buildSlice (xs := [I64 y19.ID]) rfl ⟨rfl, rfl, trivial⟩ tf_slice_43 tf_zsize_3 rfl rfl rfl rfl) ?_ rfl rfl rfl
    obtain ⟨ha25, h⟩ := need_out h
    refine Jg (u := OW 1079 1 I64 (s19 ++ [y19.ID])) (A_appendM (f := I64) (xs := s19) (ys := [y19.ID]) rfl rfl rfl rfl tf_slice_43 tf_elem_3 ha25 (fun _ => rfl) (.inl rfl) rfl) ?_ rfl rfl rfl
    refine Jg (u := OW 1079 1 I64 (s19 ++ [y19.ID])) (Aa rfl rfl) ?_ rfl rfl rfl
    refine Jn ?_
    exact ej22 _ _ (s19 ++ [y19.ID]) h ⟨⟨.same rfl, .same rfl, .same rfl, .same rfl, .same rfl, trivial⟩, ⟨⟨_, rfl, .same⟩, trivial⟩, rfl⟩
   ·
    replace h := bif_f hb h
    refine JC_skip ?_
    exact ej22 _ _ s19 h ⟨⟨.same rfl, .same rfl, .same rfl, .same rfl, .same rfl, trivial⟩, ⟨⟨_, rfl, .same⟩, trivial⟩, rfl⟩
  ·intro j22 h
   replace h := app1 hkj22 h
   refine Jr ?_
   refine Jg (u := I64 ((i19 + 1 : Nat) : Int)) (A_add (idx_succ hk19 hm9) rfl rfl rfl) ?_ rfl rfl rfl
   refine Jg (u := I64 ((i19 + 1 : Nat) : Int)) (Am rfl rfl) ?_ rfl rfl rfl
   refine Jn ?_
   exact e19 _ _ (i19 + 1) j22 (app1 hn19 h) (by omega) ⟨⟨.same rfl, .same rfl, .same rfl, .same rfl, .same rfl, trivial⟩, ⟨⟨_, rfl, .same⟩, trivial⟩, rfl⟩
 ·
  have h := app1 hkx19 (each_nil hi19 (not_lt_len hb))
  refine JC_exit ?_
  refine hK3 _ _ ?_
  refine Js fun K26 hK26 => Jr ?_
  refine Jg (u := OW 1079 1 I64 s19) (Am rfl rfl) ?_ rfl rfl rfl
  refine Jg (u := OW 1079 1 I64 s19) (Aa rfl rfl) ?_ rfl rfl rfl
  refine Jn (hK26 _ _ ?_)
  refine JC_ret ?_
  exact ⟨[LS 1 I64 s19], [], trivial, rfl, ⟨⟨_, rfl, .conv (.list rfl)⟩, trivial⟩, rfl, congrArg (fun r : (List Int) => (LS 1 I64 r : AV)) (Option.some.inj h)⟩

def M_slices_EqualFunc_int (s1_ : List Stowed) (s2_ : List Int) (eq : Stowed → Int → Option Bool) : Option Bool :=
 bif decide ((s1_.length : Int) ≠ (s2_.length : Int)) then
 (some false)
 else
 (each (fun y29 i29 (s29 : Unit) nx29 =>
   gidx s2_ (i29 : Int) fun y35 =>
   bnd (eq y29 y35) fun r38 =>
   bif (!r38) then
   (some false)
   else
   (nx29 ()))
  (fun (s29 : Unit) =>
   some true) s1_ 0 ())
theorem M_slices_EqualFunc_int_w (s1_ : List Stowed) (s2_ : List Int) (eq : Stowed → Int → Option Bool) (eq_f : FuncId) (eq_c : List AV) (eq_B : callB Try.prog eq_f = true) (eq_d : refsL (fun _ => false) eq_c = true) (eq_w : ∀ a0 a1 q, eq a0 a1 = some q → Pure Try.prog eq_f ([.agg (Stowed.cs a0), I64 a1] ++ eq_c) (· = BL q)) (r : Bool) (h : M_slices_EqualFunc_int s1_ s2_ eq = some r) : Pure Try.prog 48 [LS 4 Stowed.av s1_, LS 1 I64 s2_, .fn eq_f eq_c] (· = BL r) := by
 unfold M_slices_EqualFunc_int at h
 refine Pure_ofG [.tmp 6] Try.func48 rfl rfl ?_
 refine Js fun K1 hK1 => Jr ?_
 refine Jg (u := BL false) (Aa rfl rfl) ?_ rfl rfl rfl
 refine Jn (hK1 _ _ ?_)
 refine Js (fun K2 hK2 => ?_)
 refine Js fun K3 hK3 => Jr ?_
 refine Jg (u := LS 4 Stowed.av s1_) (Am rfl rfl) ?_ rfl rfl rfl
 refine JL_lenM (f := Stowed.av) (xs := s1_) tf_slice_40 rfl rfl (fun hm11 => ?_) rfl rfl rfl
 refine Jg (u := LS 1 I64 s2_) (Am rfl rfl) ?_ rfl rfl rfl
 refine JL_lenM (f := I64) (xs := s2_) tf_slice_43 rfl rfl (fun hm13 => ?_) rfl rfl rfl
 refine Jg (u := BL (decide ((s1_.length : Int) ≠ (s2_.length : Int)))) (A_neq rfl rfl rfl) ?_ rfl rfl rfl
 refine Jn (hK3 _ _ ?_)
 refine JC_cond rfl (fun hb => ?_) (fun hb => ?_)
 ·
  replace h := bif_t hb h
  refine Js fun K4 hK4 => Jr ?_
  refine Jg (u := BL false) (Aa rfl rfl) ?_ rfl rfl rfl
  refine Jn (hK4 _ _ ?_)
  refine JC_ret ?_
  exact ⟨[BL false], [], trivial, rfl, ⟨⟨_, rfl, .conv (.same rfl)⟩, trivial⟩, rfl, congrArg (fun r : Bool => (BL r : AV)) (Option.some.inj h)⟩
 ·
  replace h := bif_f hb h
  refine JC_skip ?_
  refine hK2 _ _ ?_
  refine Js (fun K5 hK5 => ?_)
  refine Js fun K6 hK6 => Jr ?_
  refine Jg (u := LS 4 Stowed.av s1_) (Am rfl rfl) ?_ rfl rfl rfl
  refine JL_lenM (f := Stowed.av) (xs := s1_) tf_slice_40 rfl rfl (fun hm16 => ?_) rfl rfl rfl
  refine Jg (u := I64 0) (Am rfl rfl) ?_ rfl rfl rfl
  refine Jn (hK6 _ _ ?_)
  refine JC_block ?_
  obtain ⟨b29, kx29, hb29, hkx29, h⟩ := each_in h
  refine JC_loop2 (fun i29 (s29 : Unit) => each b29 kx29 (List.drop i29 s1_) i29 s29 = some r) (fun i29 s29 => [(1, LS 1 I64 s2_), (2, .fn eq_f eq_c), (15, LS 4 Stowed.av s1_), (16, I64 (s1_.length : Int)), (17, I64 (i29 : Int))]) (fun i29 s29 => []) (fun i29 => s1_.length - i29) 0 () h ⟨⟨.same rfl, .same (refsL_any _ _ eq_d), .same rfl, .same rfl, .same rfl, trivial⟩, trivial, rfl⟩ ?_
  clear h
  intro i29 s29 hi29 K29 e29
  refine Js fun K30 hK30 => Jr ?_
  refine Jg (u := BL (decide ((i29 : Int) < (s1_.length : Int)))) (A_lss rfl rfl rfl) ?_ rfl rfl rfl
  refine Jn (hK30 _ _ ?_)
  refine Js (fun K31 hK31 => ?_)
  refine JC_cond rfl (fun hb => ?_) (fun hb => ?_)
  ·
   have hk29 := lt_len hb
   obtain ⟨y29, nx29, hy29, hn29, h⟩ := each_out hi29 hk29
   replace h := app4 hb29 h
   refine JC_skip ?_
   refine hK31 _ _ ?_
   refine Js (fun K32 hK32 => ?_)
   refine JC_block ?_
   refine Js fun K33 hK33 => Jr ?_
   refine Jg (u := I64 (i29 : Int)) (Am rfl rfl) ?_ rfl rfl rfl
   refine Jg (u := .dptr (Stowed.cs y29)) (A_indexM (f := Stowed.av) (xs := s1_) (y := y29) rfl rfl rfl tf_slice_40 hy29 rfl) ?_ rfl rfl rfl
   refine Jg (u := .agg (Stowed.cs y29)) (A_loadAgg tf_agg_82 rfl rfl rfl) ?_ rfl rfl rfl
   refine Jg (u := .ptr 1126 0) (A_allocJ 1126 4 tf_zsize_82 rfl rfl) ?_ rfl rfl rfl
   refine Jg (u := I64 (i29 : Int)) (Aa rfl rfl) ?_ rfl rfl rfl
   refine JL_go0 (u := .junk) (A_store (u := .agg (Stowed.cs y29)) (ds := [I64 y29.Box, I64 y29.Slot.Column, I64 y29.Slot.Tier, U8 y29.Slot.Half]) tf_size_82 rfl rfl rfl rfl rfl rfl rfl rfl) ?_ rfl rfl
   refine Jn (hK33 _ _ ?_)
   refine JC_freeze [(1, LS 1 I64 s2_), (2, .fn eq_f eq_c), (7, I64 (i29 : Int)), (8, .dptr (Stowed.cs y29)), (15, LS 4 Stowed.av s1_), (16, I64 (s1_.length : Int)), (17, I64 (i29 : Int))] [] 1126 rfl rfl rfl trivial rfl (by exact ⟨.conv (.same rfl), .conv (.same (refsL_any _ _ eq_d)), .conv (.same rfl), .ptr, .conv (.same rfl), .conv (.same rfl), .conv (.same rfl), trivial⟩) ?_
   refine Js fun K34 hK34 => Jr ?_
   refine Jg (u := LS 1 I64 s2_) (Am rfl rfl) ?_ rfl rfl rfl
   refine Jg (u := I64 (i29 : Int)) (Am rfl rfl) ?_ rfl rfl rfl
   obtain ⟨m36, y35, hm36, hy35, h⟩ := gidx_out h
   refine Jg (u := .dptr [I64 y35]) (A_indexM (f := I64) (xs := s2_) (y := y35) rfl rfl rfl tf_slice_43 hy35 hm36) ?_ rfl rfl rfl
   refine Jg (u := I64 y35) (A_load tf_scalar_3 rfl rfl rfl) ?_ rfl rfl rfl
   refine Jg (u := I64 y35) (Aa rfl rfl) ?_ rfl rfl rfl
   refine Jn (hK34 _ _ ?_)
   refine Js fun K37 hK37 => Jr ?_
   refine Jg (u := .fn eq_f eq_c) (Am rfl rfl) ?_ rfl rfl rfl
   refine Jg (u := .agg (Stowed.cs y29)) (A_loadAgg tf_agg_82 rfl rfl rfl) ?_ rfl rfl rfl
   refine Jg (u := I64 y35) (Am rfl rfl) ?_ rfl rfl rfl
   obtain ⟨r38, hr38, h⟩ := bnd_out h
   refine Jg (u := BL r38) (A_callV1 (args := [.agg (Stowed.cs y29), I64 y35]) (caps := eq_c) rfl rfl (eq_w y29 y35 _ hr38) eq_B ⟨rfl, rfl, rfl, rfl, trivial⟩ eq_d) ?_ rfl rfl rfl
   refine Jg (u := BL (!r38)) (A_not (b := r38) rfl rfl) ?_ rfl rfl rfl
   refine Jn (hK37 _ _ ?_)
   refine JC_cond rfl (fun hb => ?_) (fun hb => ?_)
   ·
    replace h := bif_t hb h
    refine Js fun K39 hK39 => Jr ?_
    refine Jg (u := BL false) (Aa rfl rfl) ?_ rfl rfl rfl
    refine Jn (hK39 _ _ ?_)
    refine JC_ret ?_
    exact ⟨[BL false], [], trivial, rfl, ⟨⟨_, rfl, .conv (.same rfl)⟩, trivial⟩, rfl, congrArg (fun r : Bool => (BL r : AV)) (Option.some.inj h)⟩
   ·
    replace h := bif_f hb h
    refine JC_skip ?_
    refine hK32 _ _ ?_
    refine Jr ?_
    refine Jg (u := I64 ((i29 + 1 : Nat) : Int)) (A_add (idx_succ hk29 hm16) rfl rfl rfl) ?_ rfl rfl rfl
    refine Jg (u := I64 ((i29 + 1 : Nat) : Int)) (Am rfl rfl) ?_ rfl rfl rfl
    refine Jn ?_
    exact e29 _ _ (i29 + 1) () (app1 hn29 h) (by omega) ⟨⟨.same rfl, .same (refsL_any _ _ eq_d), .same rfl, .same rfl, .same rfl, trivial⟩, trivial, rfl⟩
  ·
   have h := app1 hkx29 (each_nil hi29 (not_lt_len hb))
   refine JC_exit ?_
   refine hK5 _ _ ?_
   refine Js fun K40 hK40 => Jr ?_
   refine Jg (u := BL true) (Aa rfl rfl) ?_ rfl rfl rfl
   refine Jn (hK40 _ _ ?_)
   refine JC_ret ?_
   exact ⟨[BL true], [], trivial, rfl, ⟨⟨_, rfl, .conv (.same rfl)⟩, trivial⟩, rfl, congrArg (fun r : Bool => (BL r : AV)) (Option.some.inj h)⟩

def M_plan_Check_1 (x : Stowed) (id_ : Int) : Option Bool :=
 some (decide (x.Box = id_))
theorem M_plan_Check_1_w (x : Stowed) (id_ : Int) (r : Bool) (h : M_plan_Check_1 x id_ = some r) : Pure Try.prog 49 [.agg (Stowed.cs x), I64 id_] (· = BL r) := by
 unfold M_plan_Check_1 at h
 refine Pure_ofG [.tmp 4] Try.func49 rfl rfl ?_
 refine Js fun K1 hK1 => Jr ?_
 refine Jg (u := .ptr 1127 0) (A_box (u := .agg (Stowed.cs x)) (cs := [I64 x.Box, I64 x.Slot.Column, I64 x.Slot.Tier, U8 x.Slot.Half]) 1127 rfl rfl rfl rfl rfl) ?_ rfl rfl rfl
 refine Jg (u := BL false) (Aa rfl rfl) ?_ rfl rfl rfl
 refine Jn (hK1 _ _ ?_)
 refine JC_freeze [(1, I64 id_), (2, .dptr (Stowed.cs x))] [] 1127 rfl rfl rfl trivial rfl (by exact ⟨.conv (.same rfl), .ptr, trivial⟩) ?_
 refine Js fun K2 hK2 => Jr ?_
 refine Jg (u := .dptr (Stowed.cs x)) (A_fieldM tf_field_82_0 rfl rfl rfl) ?_ rfl rfl rfl
 refine Jg (u := I64 x.Box) (A_load tf_scalar_3 rfl rfl rfl) ?_ rfl rfl rfl
 refine Jg (u := I64 id_) (Am rfl rfl) ?_ rfl rfl rfl
 refine Jg (u := BL (decide (x.Box = id_))) (A_eql rfl rfl rfl) ?_ rfl rfl rfl
 refine Jg (u := BL (decide (x.Box = id_))) (Aa rfl rfl) ?_ rfl rfl rfl
 refine Jn (hK2 _ _ ?_)
 refine JC_ret ?_
 exact ⟨[BL (decide (x.Box = id_))], [], trivial, rfl, ⟨⟨_, rfl, .conv (.same rfl)⟩, trivial⟩, rfl, congrArg (fun r : Bool => (BL r : AV)) (Option.some.inj h)⟩

def M_plan_Check (s : Ship) (boxes : List Box) (calls : Int) (p : Plan) : Option (Int × Int) :=
 bnd (S_ship_Right s) fun r4 =>
 bif (!r4) then
 (some (0, 2))
 else
 (bnd (M_plan_Boxes boxes calls) fun r7 =>
  bif (!r7) then
  (some (0, 230))
  else
  (bif decide ((p.States.length : Int) ≠ calls) then
   (some (0, 231))
   else
   (each (fun y45 i45 (s45 : Unit) nx45 =>
     bnd (M_stow_Right s boxes y45) fun r52 =>
     bif (!r52) then
     (some ((i45 : Int), 232))
     else
     (bnd (M_plan_Aboard boxes (i45 : Int)) fun r55 =>
      bnd (M_slices_EqualFunc_int y45 r55 (fun z0 z1 => M_plan_Check_1 z0 z1)) fun r56 =>
      bif (!r56) then
      (some ((i45 : Int), 233))
      else
      (nx45 ())))
    (fun (s45 : Unit) =>
     some (0, 0)) p.States 0 ())))
theorem M_plan_Check_w (s : Ship) (boxes : List Box) (calls : Int) (p : Plan) (r : Int × Int) (h : M_plan_Check s boxes calls p = some r) : Pure Try.prog 25 [.agg [LS 12 Column.av s.Columns, LS 2 Cover.av s.Covers, I64 s.Light.Kilos, I64 s.Light.X, I64 s.Light.Y, I64 s.Light.Z, LS 5 Row.av s.Rows, LS 5 Frame.av s.Frames, LS 6 Tank.av s.Tanks, I64 s.Limits.Tolerance, I64 s.Limits.Trim, I64 s.Limits.List_, I64 s.Limits.Stability], LS 9 Box.av boxes, I64 calls, .agg [LS 1 (LS 4 Stowed.av) p.States, LS 1 (LS 1 I64) p.Water]] (· = .tup [I64 r.1, I64 r.2]) := by
 unfold M_plan_Check at h
 refine Pure_ofG [.tmp 8, .tmp 9] Try.func25 rfl rfl ?_
 refine Js fun K1 hK1 => Jr ?_
 refine Jg (u := .ptr 1077 0) (A_box (u := .agg [LS 12 Column.av s.Columns, LS 2 Cover.av s.Covers, I64 s.Light.Kilos, I64 s.Light.X, I64 s.Light.Y, I64 s.Light.Z, LS 5 Row.av s.Rows, LS 5 Frame.av s.Frames, LS 6 Tank.av s.Tanks, I64 s.Limits.Tolerance, I64 s.Limits.Trim, I64 s.Limits.List_, I64 s.Limits.Stability]) (cs := [LS 12 Column.av s.Columns, LS 2 Cover.av s.Covers, I64 s.Light.Kilos, I64 s.Light.X, I64 s.Light.Y, I64 s.Light.Z, LS 5 Row.av s.Rows, LS 5 Frame.av s.Frames, LS 6 Tank.av s.Tanks, I64 s.Limits.Tolerance, I64 s.Limits.Trim, I64 s.Limits.List_, I64 s.Limits.Stability]) 1077 rfl rfl rfl rfl rfl) ?_ rfl rfl rfl
 refine Jg (u := .ptr 1078 0) (A_box (u := .agg [LS 1 (LS 4 Stowed.av) p.States, LS 1 (LS 1 I64) p.Water]) (cs := [LS 1 (LS 4 Stowed.av) p.States, LS 1 (LS 1 I64) p.Water]) 1078 rfl rfl rfl rfl rfl) ?_ rfl rfl rfl
 refine Jg (u := I64 0) (Aa rfl rfl) ?_ rfl rfl rfl
 refine Jg (u := I64 0) (Aa rfl rfl) ?_ rfl rfl rfl
 refine Jn (hK1 _ _ ?_)
 refine JC_freeze [(1, LS 9 Box.av boxes), (2, I64 calls), (4, .dptr [LS 12 Column.av s.Columns, LS 2 Cover.av s.Covers, I64 s.Light.Kilos, I64 s.Light.X, I64 s.Light.Y, I64 s.Light.Z, LS 5 Row.av s.Rows, LS 5 Frame.av s.Frames, LS 6 Tank.av s.Tanks, I64 s.Limits.Tolerance, I64 s.Limits.Trim, I64 s.Limits.List_, I64 s.Limits.Stability]), (7, .ptr 1078 0)] [(1078, .box 59 [LS 1 (LS 4 Stowed.av) p.States, LS 1 (LS 1 I64) p.Water])] 1077 rfl rfl rfl ⟨⟨_, rfl, .boxEq rfl rfl⟩, trivial⟩ rfl (by exact ⟨.conv (.same rfl), .conv (.same rfl), .ptr, .conv (.same rfl), trivial⟩) ?_
 refine JC_freeze [(1, LS 9 Box.av boxes), (2, I64 calls), (4, .dptr [LS 12 Column.av s.Columns, LS 2 Cover.av s.Covers, I64 s.Light.Kilos, I64 s.Light.X, I64 s.Light.Y, I64 s.Light.Z, LS 5 Row.av s.Rows, LS 5 Frame.av s.Frames, LS 6 Tank.av s.Tanks, I64 s.Limits.Tolerance, I64 s.Limits.Trim, I64 s.Limits.List_, I64 s.Limits.Stability]), (7, .dptr [LS 1 (LS 4 Stowed.av) p.States, LS 1 (LS 1 I64) p.Water])] [] 1078 rfl rfl rfl trivial rfl (by exact ⟨.conv (.same rfl), .conv (.same rfl), .conv (.same rfl), .ptr, trivial⟩) ?_
 refine Js (fun K2 hK2 => ?_)
 refine JC_block ?_
 refine Js fun K3 hK3 => Jr ?_
 refine Jg (u := .agg [LS 12 Column.av s.Columns, LS 2 Cover.av s.Covers, I64 s.Light.Kilos, I64 s.Light.X, I64 s.Light.Y, I64 s.Light.Z, LS 5 Row.av s.Rows, LS 5 Frame.av s.Frames, LS 6 Tank.av s.Tanks, I64 s.Limits.Tolerance, I64 s.Limits.Trim, I64 s.Limits.List_, I64 s.Limits.Stability]) (A_loadAgg tf_agg_35 rfl rfl rfl) ?_ rfl rfl rfl
 obtain ⟨r4, hr4, h⟩ := bnd_out h
 refine Jg (u := BL r4) (A_call1 (args := [.agg [LS 12 Column.av s.Columns, LS 2 Cover.av s.Covers, I64 s.Light.Kilos, I64 s.Light.X, I64 s.Light.Y, I64 s.Light.Z, LS 5 Row.av s.Rows, LS 5 Frame.av s.Frames, LS 6 Tank.av s.Tanks, I64 s.Limits.Tolerance, I64 s.Limits.Trim, I64 s.Limits.List_, I64 s.Limits.Stability]]) rfl (S_ship_Right_w.down s r4 hr4) tf_call_35 ⟨rfl, rfl, trivial⟩) ?_ rfl rfl rfl
 refine Jg (u := BL (!r4)) (A_not (b := r4) rfl rfl) ?_ rfl rfl rfl
 refine Jg (u := BL (!r4)) (Aa rfl rfl) ?_ rfl rfl rfl
 refine Jn (hK3 _ _ ?_)
 refine JC_cond rfl (fun hb => ?_) (fun hb => ?_)
 ·
  replace h := bif_t hb h
  refine Js fun K5 hK5 => Jr ?_
  refine Jg (u := I64 0) (Aa rfl rfl) ?_ rfl rfl rfl
  refine Jg (u := I64 2) (Aa rfl rfl) ?_ rfl rfl rfl
  refine Jn (hK5 _ _ ?_)
  refine JC_ret ?_
  exact ⟨[I64 0, I64 2], [], trivial, rfl, ⟨⟨_, rfl, .conv (.same rfl)⟩, ⟨_, rfl, .conv (.same rfl)⟩, trivial⟩, rfl, congrArg (fun r : Int × Int => (.tup [I64 r.1, I64 r.2] : AV)) (Option.some.inj h)⟩
 ·
  replace h := bif_f hb h
  refine Js fun K6 hK6 => Jr ?_
  refine Jg (u := LS 9 Box.av boxes) (Am rfl rfl) ?_ rfl rfl rfl
  refine Jg (u := I64 calls) (Am rfl rfl) ?_ rfl rfl rfl
  obtain ⟨r7, hr7, h⟩ := bnd_out h
  refine Jg (u := BL r7) (A_call1 (args := [LS 9 Box.av boxes, I64 calls]) rfl (M_plan_Boxes_w boxes calls r7 hr7) tf_call_47 ⟨rfl, rfl, rfl, rfl, trivial⟩) ?_ rfl rfl rfl
  refine Jg (u := BL (!r7)) (A_not (b := r7) rfl rfl) ?_ rfl rfl rfl
  refine Jg (u := BL (!r7)) (Aa rfl rfl) ?_ rfl rfl rfl
  refine Jn (hK6 _ _ ?_)
  refine JC_cond rfl (fun hb => ?_) (fun hb => ?_)
  ·
   replace h := bif_t hb h
   refine Js fun K8 hK8 => Jr ?_
   refine Jg (u := I64 0) (Aa rfl rfl) ?_ rfl rfl rfl
   refine Jg (u := I64 230) (Aa rfl rfl) ?_ rfl rfl rfl
   refine Jn (hK8 _ _ ?_)
   refine JC_ret ?_
   exact ⟨[I64 0, I64 230], [], trivial, rfl, ⟨⟨_, rfl, .conv (.same rfl)⟩, ⟨_, rfl, .conv (.same rfl)⟩, trivial⟩, rfl, congrArg (fun r : Int × Int => (.tup [I64 r.1, I64 r.2] : AV)) (Option.some.inj h)⟩
  ·
   replace h := bif_f hb h
   refine Js fun K9 hK9 => Jr ?_
   refine Jg (u := .dptr [LS 1 (LS 4 Stowed.av) p.States, LS 1 (LS 1 I64) p.Water]) (A_fieldM tf_field_59_0 rfl rfl rfl) ?_ rfl rfl rfl
   refine Jg (u := LS 1 (LS 4 Stowed.av) p.States) (A_load tf_scalar_56 rfl rfl rfl) ?_ rfl rfl rfl
   refine JL_lenM (f := (LS 4 Stowed.av)) (xs := p.States) tf_slice_56 rfl rfl (fun hm24 => ?_) rfl rfl rfl
   refine Jg (u := I64 calls) (Am rfl rfl) ?_ rfl rfl rfl
   refine Jg (u := BL (decide ((p.States.length : Int) ≠ calls))) (A_neq rfl rfl rfl) ?_ rfl rfl rfl
   refine Jg (u := BL (decide ((p.States.length : Int) ≠ calls))) (Aa rfl rfl) ?_ rfl rfl rfl
   refine Jn (hK9 _ _ ?_)
   refine JC_cond rfl (fun hb => ?_) (fun hb => ?_)
   ·
    replace h := bif_t hb h
    refine Js fun K10 hK10 => Jr ?_
    refine Jg (u := I64 0) (Aa rfl rfl) ?_ rfl rfl rfl
    refine Jg (u := I64 231) (Aa rfl rfl) ?_ rfl rfl rfl
    refine Jn (hK10 _ _ ?_)
    refine JC_ret ?_
    exact ⟨[I64 0, I64 231], [], trivial, rfl, ⟨⟨_, rfl, .conv (.same rfl)⟩, ⟨_, rfl, .conv (.same rfl)⟩, trivial⟩, rfl, congrArg (fun r : Int × Int => (.tup [I64 r.1, I64 r.2] : AV)) (Option.some.inj h)⟩
   ·
    replace h := bif_f hb h
    refine JC_skip ?_
    refine hK2 _ _ ?_
    refine Js (fun K11 hK11 => ?_)
    refine Js fun K12 hK12 => Jr ?_
    refine Jg (u := .dptr [LS 1 (LS 4 Stowed.av) p.States, LS 1 (LS 1 I64) p.Water]) (A_fieldM tf_field_59_0 rfl rfl rfl) ?_ rfl rfl rfl
    refine Jg (u := LS 1 (LS 4 Stowed.av) p.States) (A_load tf_scalar_56 rfl rfl rfl) ?_ rfl rfl rfl
    refine JL_lenM (f := (LS 4 Stowed.av)) (xs := p.States) tf_slice_56 rfl rfl (fun hm29 => ?_) rfl rfl rfl
    refine Jg (u := I64 0) (Am rfl rfl) ?_ rfl rfl rfl
    refine Jn (hK12 _ _ ?_)
    refine JC_block ?_
    obtain ⟨b45, kx45, hb45, hkx45, h⟩ := each_in h
    refine JC_loop2 (fun i45 (s45 : Unit) => each b45 kx45 (List.drop i45 p.States) i45 s45 = some r) (fun i45 s45 => [(1, LS 9 Box.av boxes), (4, .dptr [LS 12 Column.av s.Columns, LS 2 Cover.av s.Covers, I64 s.Light.Kilos, I64 s.Light.X, I64 s.Light.Y, I64 s.Light.Z, LS 5 Row.av s.Rows, LS 5 Frame.av s.Frames, LS 6 Tank.av s.Tanks, I64 s.Limits.Tolerance, I64 s.Limits.Trim, I64 s.Limits.List_, I64 s.Limits.Stability]), (28, LS 1 (LS 4 Stowed.av) p.States), (29, I64 (p.States.length : Int)), (30, I64 (i45 : Int))]) (fun i45 s45 => []) (fun i45 => p.States.length - i45) 0 () h ⟨⟨.same rfl, .same rfl, .same rfl, .same rfl, .same rfl, trivial⟩, trivial, rfl⟩ ?_
    clear h
    intro i45 s45 hi45 K45 e45
    refine Js fun K46 hK46 => Jr ?_
    refine Jg (u := BL (decide ((i45 : Int) < (p.States.length : Int)))) (A_lss rfl rfl rfl) ?_ rfl rfl rfl
    refine Jn (hK46 _ _ ?_)
    refine Js (fun K47 hK47 => ?_)
    refine JC_cond rfl (fun hb => ?_) (fun hb => ?_)
    ·
     have hk45 := lt_len hb
     obtain ⟨y45, nx45, hy45, hn45, h⟩ := each_out hi45 hk45
     replace h := app4 hb45 h
     refine JC_skip ?_
     refine hK47 _ _ ?_
     refine Js (fun K48 hK48 => ?_)
     refine JC_block ?_
     refine Js fun K49 hK49 => Jr ?_
     refine Jg (u := I64 (i45 : Int)) (Am rfl rfl) ?_ rfl rfl rfl
     refine Jg (u := .dptr [LS 4 Stowed.av y45]) (A_indexM (f := (LS 4 Stowed.av)) (xs := p.States) (y := y45) rfl rfl rfl tf_slice_56 hy45 rfl) ?_ rfl rfl rfl
     refine Jg (u := LS 4 Stowed.av y45) (A_load tf_scalar_40 rfl rfl rfl) ?_ rfl rfl rfl
     refine Jg (u := I64 (i45 : Int)) (Aa rfl rfl) ?_ rfl rfl rfl
     refine Jg (u := LS 4 Stowed.av y45) (Aa rfl rfl) ?_ rfl rfl rfl
     refine Jn (hK49 _ _ ?_)
     refine Js (fun K50 hK50 => ?_)
     refine Js fun K51 hK51 => Jr ?_
     refine Jg (u := .agg [LS 12 Column.av s.Columns, LS 2 Cover.av s.Covers, I64 s.Light.Kilos, I64 s.Light.X, I64 s.Light.Y, I64 s.Light.Z, LS 5 Row.av s.Rows, LS 5 Frame.av s.Frames, LS 6 Tank.av s.Tanks, I64 s.Limits.Tolerance, I64 s.Limits.Trim, I64 s.Limits.List_, I64 s.Limits.Stability]) (A_loadAgg tf_agg_35 rfl rfl rfl) ?_ rfl rfl rfl
     refine Jg (u := LS 9 Box.av boxes) (Am rfl rfl) ?_ rfl rfl rfl
     refine Jg (u := LS 4 Stowed.av y45) (Am rfl rfl) ?_ rfl rfl rfl
     obtain ⟨r52, hr52, h⟩ := bnd_out h
     refine Jg (u := BL r52) (A_call1 (args := [.agg [LS 12 Column.av s.Columns, LS 2 Cover.av s.Covers, I64 s.Light.Kilos, I64 s.Light.X, I64 s.Light.Y, I64 s.Light.Z, LS 5 Row.av s.Rows, LS 5 Frame.av s.Frames, LS 6 Tank.av s.Tanks, I64 s.Limits.Tolerance, I64 s.Limits.Trim, I64 s.Limits.List_, I64 s.Limits.Stability], LS 9 Box.av boxes, LS 4 Stowed.av y45]) rfl (M_stow_Right_w s boxes y45 r52 hr52) tf_call_19 ⟨rfl, rfl, rfl, rfl, rfl, rfl, trivial⟩) ?_ rfl rfl rfl
     refine Jg (u := BL (!r52)) (A_not (b := r52) rfl rfl) ?_ rfl rfl rfl
     refine Jn (hK51 _ _ ?_)
     refine JC_cond rfl (fun hb => ?_) (fun hb => ?_)
     ·
      replace h := bif_t hb h
      refine Js fun K53 hK53 => Jr ?_
      refine Jg (u := I64 (i45 : Int)) (Am rfl rfl) ?_ rfl rfl rfl
      refine Jg (u := I64 (i45 : Int)) (Aa rfl rfl) ?_ rfl rfl rfl
      refine Jg (u := I64 232) (Aa rfl rfl) ?_ rfl rfl rfl
      refine Jn (hK53 _ _ ?_)
      refine JC_ret ?_
      exact ⟨[I64 (i45 : Int), I64 232], [], trivial, rfl, ⟨⟨_, rfl, .conv (.same rfl)⟩, ⟨_, rfl, .conv (.same rfl)⟩, trivial⟩, rfl, congrArg (fun r : Int × Int => (.tup [I64 r.1, I64 r.2] : AV)) (Option.some.inj h)⟩
     ·
      replace h := bif_f hb h
      refine JC_skip ?_
      refine hK50 _ _ ?_
      refine Js fun K54 hK54 => Jr ?_
      refine Jg (u := LS 4 Stowed.av y45) (Am rfl rfl) ?_ rfl rfl rfl
      refine Jg (u := LS 9 Box.av boxes) (Am rfl rfl) ?_ rfl rfl rfl
      refine Jg (u := I64 (i45 : Int)) (Am rfl rfl) ?_ rfl rfl rfl
      obtain ⟨r55, hr55, h⟩ := bnd_out h
      refine Jg (u := LS 1 I64 r55) (A_call1 (args := [LS 9 Box.av boxes, I64 (i45 : Int)]) rfl (M_plan_Aboard_w boxes (i45 : Int) r55 hr55) tf_call_26 ⟨rfl, rfl, rfl, rfl, trivial⟩) ?_ rfl rfl rfl
      obtain ⟨r56, hr56, h⟩ := bnd_out h
      refine Jg (u := BL r56) (A_call1 (args := [LS 4 Stowed.av y45, LS 1 I64 r55, .fn 49 []]) rfl (M_slices_EqualFunc_int_w y45 r55 (fun z0 z1 => M_plan_Check_1 z0 z1) 49 [] tf_call_49 rfl (fun z0 z1 q hq => M_plan_Check_1_w z0 z1 q hq) r56 hr56) tf_call_48 ⟨rfl, rfl, rfl, rfl, rfl, rfl, trivial⟩) ?_ rfl rfl rfl
      refine Jg (u := BL (!r56)) (A_not (b := r56) rfl rfl) ?_ rfl rfl rfl
      refine Jn (hK54 _ _ ?_)
      refine JC_cond rfl (fun hb => ?_) (fun hb => ?_)
      ·
       replace h := bif_t hb h
       refine Js fun K57 hK57 => Jr ?_
       refine Jg (u := I64 (i45 : Int)) (Am rfl rfl) ?_ rfl rfl rfl
       refine Jg (u := I64 (i45 : Int)) (Aa rfl rfl) ?_ rfl rfl rfl
       refine Jg (u := I64 233) (Aa rfl rfl) ?_ rfl rfl rfl
       refine Jn (hK57 _ _ ?_)
       refine JC_ret ?_
       exact ⟨[I64 (i45 : Int), I64 233], [], trivial, rfl, ⟨⟨_, rfl, .conv (.same rfl)⟩, ⟨_, rfl, .conv (.same rfl)⟩, trivial⟩, rfl, congrArg (fun r : Int × Int => (.tup [I64 r.1, I64 r.2] : AV)) (Option.some.inj h)⟩
      ·
       replace h := bif_f hb h
       refine JC_skip ?_
       refine hK48 _ _ ?_
       refine Jr ?_
       refine Jg (u := I64 ((i45 + 1 : Nat) : Int)) (A_add (idx_succ hk45 hm29) rfl rfl rfl) ?_ rfl rfl rfl
       refine Jg (u := I64 ((i45 + 1 : Nat) : Int)) (Am rfl rfl) ?_ rfl rfl rfl
       refine Jn ?_
       exact e45 _ _ (i45 + 1) () (app1 hn45 h) (by omega) ⟨⟨.same rfl, .same rfl, .same rfl, .same rfl, .same rfl, trivial⟩, trivial, rfl⟩
    ·
     have h := app1 hkx45 (each_nil hi45 (not_lt_len hb))
     refine JC_exit ?_
     refine hK11 _ _ ?_
     refine Js fun K58 hK58 => Jr ?_
     refine Jg (u := I64 0) (Aa rfl rfl) ?_ rfl rfl rfl
     refine Jg (u := I64 0) (Aa rfl rfl) ?_ rfl rfl rfl
     refine Jn (hK58 _ _ ?_)
     refine JC_ret ?_
     exact ⟨[I64 0, I64 0], [], trivial, rfl, ⟨⟨_, rfl, .conv (.same rfl)⟩, ⟨_, rfl, .conv (.same rfl)⟩, trivial⟩, rfl, congrArg (fun r : Int × Int => (.tup [I64 r.1, I64 r.2] : AV)) (Option.some.inj h)⟩

def M_plan_steps (p : Plan) : Option Unit :=
 some ()
theorem M_plan_steps_w (p : Plan) (r : Unit) (h : M_plan_steps p = some r) : Pure Try.prog 28 [.agg [LS 1 (LS 4 Stowed.av) p.States, LS 1 (LS 1 I64) p.Water]] (· = .fn 51 [.dptr [LS 1 (LS 4 Stowed.av) p.States, LS 1 (LS 1 I64) p.Water]]) := by
 unfold M_plan_steps at h
 refine Pure_ofG [.tmp 2] Try.func28 rfl rfl ?_
 refine Js fun K1 hK1 => Jr ?_
 refine Jg (u := .ptr 1092 0) (A_box (u := .agg [LS 1 (LS 4 Stowed.av) p.States, LS 1 (LS 1 I64) p.Water]) (cs := [LS 1 (LS 4 Stowed.av) p.States, LS 1 (LS 1 I64) p.Water]) 1092 rfl rfl rfl rfl rfl) ?_ rfl rfl rfl
 refine Jg (u := .sc .nilFunc) (Aa rfl rfl) ?_ rfl rfl rfl
 refine Jn (hK1 _ _ ?_)
 refine JC_freeze [(1, .dptr [LS 1 (LS 4 Stowed.av) p.States, LS 1 (LS 1 I64) p.Water])] [] 1092 rfl rfl rfl trivial rfl (by exact ⟨.ptr, trivial⟩) ?_
 refine Js fun K2 hK2 => Jr ?_
 refine Jg (u := .fn 51 [.dptr [LS 1 (LS 4 Stowed.av) p.States, LS 1 (LS 1 I64) p.Water]]) (A_makeFunc (cs := [.dptr [LS 1 (LS 4 Stowed.av) p.States, LS 1 (LS 1 I64) p.Water]]) rfl rfl) ?_ rfl rfl rfl
 refine Jg (u := .fn 51 [.dptr [LS 1 (LS 4 Stowed.av) p.States, LS 1 (LS 1 I64) p.Water]]) (Aa rfl rfl) ?_ rfl rfl rfl
 refine Jn (hK2 _ _ ?_)
 refine JC_ret ?_
 exact ⟨[.fn 51 [.dptr [LS 1 (LS 4 Stowed.av) p.States, LS 1 (LS 1 I64) p.Water]]], [], trivial, rfl, ⟨⟨_, rfl, .conv (.same rfl)⟩, trivial⟩, rfl, congrArg (fun _ : Unit => (.fn 51 [.dptr [LS 1 (LS 4 Stowed.av) p.States, LS 1 (LS 1 I64) p.Water]] : AV)) (Option.some.inj h)⟩

def M_plan_find_1 (x : Stowed) (p1 : Int) : Option Bool :=
 some (decide (x.Box = p1))
theorem M_plan_find_1_w (x : Stowed) (p1 : Int) (r : Bool) (h : M_plan_find_1 x p1 = some r) : Pure Try.prog 54 [.agg (Stowed.cs x), .dptr [I64 p1]] (· = BL r) := by
 unfold M_plan_find_1 at h
 refine Pure_ofG [.tmp 3] Try.func54 rfl rfl ?_
 refine Js fun K1 hK1 => Jr ?_
 refine Jg (u := .ptr 1132 0) (A_box (u := .agg (Stowed.cs x)) (cs := [I64 x.Box, I64 x.Slot.Column, I64 x.Slot.Tier, U8 x.Slot.Half]) 1132 rfl rfl rfl rfl rfl) ?_ rfl rfl rfl
 refine Jg (u := BL false) (Aa rfl rfl) ?_ rfl rfl rfl
 refine Jn (hK1 _ _ ?_)
 refine JC_freeze [(1, .dptr [I64 p1]), (2, .dptr (Stowed.cs x))] [] 1132 rfl rfl rfl trivial rfl (by exact ⟨.conv (.same rfl), .ptr, trivial⟩) ?_
 refine Js fun K2 hK2 => Jr ?_
 refine Jg (u := .dptr (Stowed.cs x)) (A_fieldM tf_field_82_0 rfl rfl rfl) ?_ rfl rfl rfl
 refine Jg (u := I64 x.Box) (A_load tf_scalar_3 rfl rfl rfl) ?_ rfl rfl rfl
 refine Jg (u := I64 p1) (A_load tf_scalar_3 rfl rfl rfl) ?_ rfl rfl rfl
 refine Jg (u := BL (decide (x.Box = p1))) (A_eql rfl rfl rfl) ?_ rfl rfl rfl
 refine Jg (u := BL (decide (x.Box = p1))) (Aa rfl rfl) ?_ rfl rfl rfl
 refine Jn (hK2 _ _ ?_)
 refine JC_ret ?_
 exact ⟨[BL (decide (x.Box = p1))], [], trivial, rfl, ⟨⟨_, rfl, .conv (.same rfl)⟩, trivial⟩, rfl, congrArg (fun r : Bool => (BL r : AV)) (Option.some.inj h)⟩

def M_slices_IndexFunc_apiStowed (s : List Stowed) (f : Stowed → Option Bool) : Option Int :=
 each (fun y20 i20 (s20 : Unit) nx20 =>
  bnd (f y20) fun r26 =>
  bif r26 then
  (some (i20 : Int))
  else
  (nx20 ()))
 (fun (s20 : Unit) =>
  some (-1)) s 0 ()
theorem M_slices_IndexFunc_apiStowed_w (s : List Stowed) (f : Stowed → Option Bool) (f_f : FuncId) (f_c : List AV) (f_B : callB Try.prog f_f = true) (f_d : refsL (fun _ => false) f_c = true) (f_w : ∀ a0 q, f a0 = some q → Pure Try.prog f_f ([.agg (Stowed.cs a0)] ++ f_c) (· = BL q)) (r : Int) (h : M_slices_IndexFunc_apiStowed s f = some r) : Pure Try.prog 53 [LS 4 Stowed.av s, .fn f_f f_c] (· = I64 r) := by
 unfold M_slices_IndexFunc_apiStowed at h
 refine Pure_ofG [.tmp 4] Try.func53 rfl rfl ?_
 refine Js fun K1 hK1 => Jr ?_
 refine Jg (u := I64 0) (Aa rfl rfl) ?_ rfl rfl rfl
 refine Jn (hK1 _ _ ?_)
 refine Js (fun K2 hK2 => ?_)
 refine Js fun K3 hK3 => Jr ?_
 refine Jg (u := LS 4 Stowed.av s) (Am rfl rfl) ?_ rfl rfl rfl
 refine JL_lenM (f := Stowed.av) (xs := s) tf_slice_40 rfl rfl (fun hm7 => ?_) rfl rfl rfl
 refine Jg (u := I64 0) (Am rfl rfl) ?_ rfl rfl rfl
 refine Jn (hK3 _ _ ?_)
 refine JC_block ?_
 obtain ⟨b20, kx20, hb20, hkx20, h⟩ := each_in h
 refine JC_loop2 (fun i20 (s20 : Unit) => each b20 kx20 (List.drop i20 s) i20 s20 = some r) (fun i20 s20 => [(0, LS 4 Stowed.av s), (1, .fn f_f f_c), (7, I64 (s.length : Int)), (8, I64 (i20 : Int))]) (fun i20 s20 => []) (fun i20 => s.length - i20) 0 () h ⟨⟨.same rfl, .same (refsL_any _ _ f_d), .same rfl, .same rfl, trivial⟩, trivial, rfl⟩ ?_
 clear h
 intro i20 s20 hi20 K20 e20
 refine Js fun K21 hK21 => Jr ?_
 refine Jg (u := BL (decide ((i20 : Int) < (s.length : Int)))) (A_lss rfl rfl rfl) ?_ rfl rfl rfl
 refine Jn (hK21 _ _ ?_)
 refine Js (fun K22 hK22 => ?_)
 refine JC_cond rfl (fun hb => ?_) (fun hb => ?_)
 ·
  have hk20 := lt_len hb
  obtain ⟨y20, nx20, hy20, hn20, h⟩ := each_out hi20 hk20
  replace h := app4 hb20 h
  refine JC_skip ?_
  refine hK22 _ _ ?_
  refine Js (fun K23 hK23 => ?_)
  refine JC_block ?_
  refine Js fun K24 hK24 => Jr ?_
  refine Jg (u := I64 (i20 : Int)) (Am rfl rfl) ?_ rfl rfl rfl
  refine Jg (u := I64 (i20 : Int)) (Aa rfl rfl) ?_ rfl rfl rfl
  refine Jn (hK24 _ _ ?_)
  refine Js fun K25 hK25 => Jr ?_
  refine Jg (u := .fn f_f f_c) (Am rfl rfl) ?_ rfl rfl rfl
  refine Jg (u := LS 4 Stowed.av s) (Am rfl rfl) ?_ rfl rfl rfl
  refine Jg (u := I64 (i20 : Int)) (Am rfl rfl) ?_ rfl rfl rfl
  refine Jg (u := .dptr (Stowed.cs y20)) (A_indexM (f := Stowed.av) (xs := s) (y := y20) rfl rfl rfl tf_slice_40 hy20 rfl) ?_ rfl rfl rfl
  refine Jg (u := .agg (Stowed.cs y20)) (A_loadAgg tf_agg_82 rfl rfl rfl) ?_ rfl rfl rfl
  obtain ⟨r26, hr26, h⟩ := bnd_out h
  refine Jg (u := BL r26) (A_callV1 (args := [.agg (Stowed.cs y20)]) (caps := f_c) rfl rfl (f_w y20 _ hr26) f_B ⟨rfl, rfl, trivial⟩ f_d) ?_ rfl rfl rfl
  refine Jn (hK25 _ _ ?_)
  refine JC_cond rfl (fun hb => ?_) (fun hb => ?_)
  ·
   replace h := bif_t hb h
   refine Js fun K27 hK27 => Jr ?_
   refine Jg (u := I64 (i20 : Int)) (Am rfl rfl) ?_ rfl rfl rfl
   refine Jg (u := I64 (i20 : Int)) (Aa rfl rfl) ?_ rfl rfl rfl
   refine Jn (hK27 _ _ ?_)
   refine JC_ret ?_
   exact ⟨[I64 (i20 : Int)], [], trivial, rfl, ⟨⟨_, rfl, .conv (.same rfl)⟩, trivial⟩, rfl, congrArg (fun r : Int => (I64 r : AV)) (Option.some.inj h)⟩
  ·
   replace h := bif_f hb h
   refine JC_skip ?_
   refine hK23 _ _ ?_
   refine Jr ?_
   refine Jg (u := I64 ((i20 + 1 : Nat) : Int)) (A_add (idx_succ hk20 hm7) rfl rfl rfl) ?_ rfl rfl rfl
   refine Jg (u := I64 ((i20 + 1 : Nat) : Int)) (Am rfl rfl) ?_ rfl rfl rfl
   refine Jn ?_
   exact e20 _ _ (i20 + 1) () (app1 hn20 h) (by omega) ⟨⟨.same rfl, .same (refsL_any _ _ f_d), .same rfl, .same rfl, trivial⟩, trivial, rfl⟩
 ·
  have h := app1 hkx20 (each_nil hi20 (not_lt_len hb))
  refine JC_exit ?_
  refine hK2 _ _ ?_
  refine Js fun K28 hK28 => Jr ?_
  refine Jg (u := I64 (-1)) (Aa rfl rfl) ?_ rfl rfl rfl
  refine Jn (hK28 _ _ ?_)
  refine JC_ret ?_
  exact ⟨[I64 (-1)], [], trivial, rfl, ⟨⟨_, rfl, .conv (.same rfl)⟩, trivial⟩, rfl, congrArg (fun r : Int => (I64 r : AV)) (Option.some.inj h)⟩

def M_plan_find (l : List Stowed) (id_ : Int) : Option (Slot × Bool) :=
 bnd (M_slices_IndexFunc_apiStowed l (fun z0 => M_plan_find_1 z0 id_)) fun r3 =>
 bif decide (r3 < 0) then
 (some ((Slot.mk 0 0 0), false))
 else
 (gidx l r3 fun y8 =>
  some (y8.Slot, true))
theorem M_plan_find_w (l : List Stowed) (id_ : Int) (r : Slot × Bool) (h : M_plan_find l id_ = some r) : Pure Try.prog 31 [LS 4 Stowed.av l, I64 id_] (· = .tup [.agg (Slot.cs r.1), BL r.2]) := by
 unfold M_plan_find at h
 refine Pure_ofG [.cell 4 80, .tmp 5] Try.func31 rfl rfl ?_
 refine Js fun K1 hK1 => Jr ?_
 refine Jg (u := .ptr 1096 0) (A_box (u := I64 id_) (cs := [I64 id_]) 1096 rfl rfl rfl rfl rfl) ?_ rfl rfl rfl
 refine Jg (u := .ptr 1097 0) (A_allocZ 1097 [I64 0, I64 0, U8 0] [.int .i64 0, .int .i64 0, .int .u8 0] tf_zero_80 ⟨.inl rfl, .inl rfl, .inl rfl, trivial⟩ rfl rfl) ?_ rfl rfl rfl
 refine Jg (u := BL false) (Aa rfl rfl) ?_ rfl rfl rfl
 refine Jn (hK1 _ _ ?_)
 refine JC_freeze [(0, LS 4 Stowed.av l), (3, .dptr [I64 id_]), (4, .ptr 1097 0)] [(1097, .box 80 [I64 0, I64 0, U8 0])] 1096 rfl rfl rfl ⟨⟨_, rfl, .boxEq rfl rfl⟩, trivial⟩ rfl (by exact ⟨.conv (.same rfl), .ptr, .conv (.same rfl), trivial⟩) ?_
 refine Js fun K2 hK2 => Jr ?_
 refine Jg (u := LS 4 Stowed.av l) (Am rfl rfl) ?_ rfl rfl rfl
 refine Jg (u := .fn 54 [.dptr [I64 id_]]) (A_makeFunc (cs := [.dptr [I64 id_]]) rfl rfl) ?_ rfl rfl rfl
 obtain ⟨r3, hr3, h⟩ := bnd_out h
 refine Jg (u := I64 r3) (A_call1 (args := [LS 4 Stowed.av l, .fn 54 [.dptr [I64 id_]]]) rfl (M_slices_IndexFunc_apiStowed_w l (fun z0 => M_plan_find_1 z0 id_) 54 [.dptr [I64 id_]] tf_call_54 rfl (fun z0 q hq => M_plan_find_1_w z0 id_ q hq) r3 hr3) tf_call_53 ⟨rfl, rfl, rfl, rfl, trivial⟩) ?_ rfl rfl rfl
 refine Jg (u := I64 r3) (Aa rfl rfl) ?_ rfl rfl rfl
 refine Jn (hK2 _ _ ?_)
 refine Js (fun K4 hK4 => ?_)
 refine Js fun K5 hK5 => Jr ?_
 refine Jg (u := I64 r3) (Am rfl rfl) ?_ rfl rfl rfl
 refine Jg (u := BL (decide (r3 < 0))) (A_lss rfl rfl rfl) ?_ rfl rfl rfl
 refine Jn (hK5 _ _ ?_)
 refine JC_cond rfl (fun hb => ?_) (fun hb => ?_)
 ·
  replace h := bif_t hb h
  refine Js fun K6 hK6 => Jr ?_
  refine Jg (u := .agg [I64 0, I64 0, U8 0]) (A_buildZ (cs := [I64 0, I64 0, U8 0]) [(0, 1), (1, 1), (2, 1)] [I64 0, I64 0, U8 0] [.int .i64 0, .int .i64 0, .int .u8 0] tf_places_80 tf_zero_80 ⟨.inl rfl, .inl rfl, .inl rfl, trivial⟩ rfl rfl) ?_ rfl rfl rfl
  refine JL_go0 (u := .junk) (A_store (u := .agg [I64 0, I64 0, U8 0]) (ds := [I64 0, I64 0, U8 0]) tf_size_80 rfl rfl rfl rfl rfl rfl rfl rfl) ?_ rfl rfl
  refine Jg (u := BL false) (Aa rfl rfl) ?_ rfl rfl rfl
  refine Jn (hK6 _ _ ?_)
  refine JC_ret ?_
  exact ⟨[.agg [I64 0, I64 0, U8 0], BL false], [], trivial, rfl, ⟨⟨_, ⟨_, _, _, _, rfl, rfl, rfl, .inl ⟨tf_agg_80, rfl⟩⟩, .conv (.same rfl)⟩, ⟨_, rfl, .conv (.same rfl)⟩, trivial⟩, rfl, congrArg (fun r : Slot × Bool => (.tup [.agg (Slot.cs r.1), BL r.2] : AV)) (Option.some.inj h)⟩
 ·
  replace h := bif_f hb h
  refine JC_skip ?_
  refine hK4 _ _ ?_
  refine Js fun K7 hK7 => Jr ?_
  refine Jg (u := LS 4 Stowed.av l) (Am rfl rfl) ?_ rfl rfl rfl
  refine Jg (u := I64 r3) (Am rfl rfl) ?_ rfl rfl rfl
  obtain ⟨m9, y8, hm9, hy8, h⟩ := gidx_out h
  refine Jg (u := .dptr (Stowed.cs y8)) (A_indexM (f := Stowed.av) (xs := l) (y := y8) rfl rfl rfl tf_slice_40 hy8 hm9) ?_ rfl rfl rfl
  refine Jg (u := .dptr (Slot.cs y8.Slot)) (A_fieldM tf_field_82_1 rfl rfl rfl) ?_ rfl rfl rfl
  refine Jg (u := .agg (Slot.cs y8.Slot)) (A_loadAgg tf_agg_80 rfl rfl rfl) ?_ rfl rfl rfl
  refine JL_go0 (u := .junk) (A_store (u := .agg (Slot.cs y8.Slot)) (ds := [I64 y8.Slot.Column, I64 y8.Slot.Tier, U8 y8.Slot.Half]) tf_size_80 rfl rfl rfl rfl rfl rfl rfl rfl) ?_ rfl rfl
  refine Jg (u := BL true) (Aa rfl rfl) ?_ rfl rfl rfl
  refine Jn (hK7 _ _ ?_)
  refine JC_ret ?_
  exact ⟨[.agg (Slot.cs y8.Slot), BL true], [], trivial, rfl, ⟨⟨_, ⟨_, _, _, _, rfl, rfl, rfl, .inl ⟨tf_agg_80, rfl⟩⟩, .conv (.same rfl)⟩, ⟨_, rfl, .conv (.same rfl)⟩, trivial⟩, rfl, congrArg (fun r : Slot × Bool => (.tup [.agg (Slot.cs r.1), BL r.2] : AV)) (Option.some.inj h)⟩

def M_ship_covers_1 (r_ : Int) (p1 : Column) : Option Bool :=
 some (decide (r_ = p1.Row))
theorem M_ship_covers_1_w (r_ : Int) (p1 : Column) (r : Bool) (h : M_ship_covers_1 r_ p1 = some r) : Pure Try.prog 74 [I64 r_, .dptr (Column.cs p1)] (· = BL r) := by
 unfold M_ship_covers_1 at h
 refine Pure_ofG [.tmp 3] Try.func74 rfl rfl ?_
 refine Js fun K1 hK1 => Jr ?_
 refine Jg (u := BL false) (Aa rfl rfl) ?_ rfl rfl rfl
 refine Jn (hK1 _ _ ?_)
 refine Js fun K2 hK2 => Jr ?_
 refine Jg (u := I64 r_) (Am rfl rfl) ?_ rfl rfl rfl
 refine Jg (u := .dptr ((Column.cs p1).drop 1)) (A_fieldM tf_field_72_1 rfl rfl rfl) ?_ rfl rfl rfl
 refine Jg (u := I64 p1.Row) (A_load tf_scalar_3 rfl rfl rfl) ?_ rfl rfl rfl
 refine Jg (u := BL (decide (r_ = p1.Row))) (A_eql rfl rfl rfl) ?_ rfl rfl rfl
 refine Jg (u := BL (decide (r_ = p1.Row))) (Aa rfl rfl) ?_ rfl rfl rfl
 refine Jn (hK2 _ _ ?_)
 refine JC_ret ?_
 exact ⟨[BL (decide (r_ = p1.Row))], [], trivial, rfl, ⟨⟨_, rfl, .conv (.same rfl)⟩, trivial⟩, rfl, congrArg (fun r : Bool => (BL r : AV)) (Option.some.inj h)⟩

def M_ship_chosen_int (l : List Int) (wanted : Int → Option Bool) : Option (List Int) :=
 each (fun y21 i21 (s21 : (List Int)) nx21 =>
  jp (fun kj24 =>
   bnd (wanted y21) fun r27 =>
   bif r27 then
   (need (decide ((s21.length + [(i21 : Int)].length) * 8 ≤ 140737488355328 ∧ s21.length + [(i21 : Int)].length ≤ maxLen)) <|
    kj24 (s21 ++ [(i21 : Int)]))
   else
   (kj24 s21)) fun (j24 : (List Int)) =>
  nx21 j24)
 (fun (s21 : (List Int)) =>
  some s21) l 0 []
theorem M_ship_chosen_int_w (l : List Int) (wanted : Int → Option Bool) (wanted_f : FuncId) (wanted_c : List AV) (wanted_B : callB Try.prog wanted_f = true) (wanted_d : refsL (fun _ => false) wanted_c = true) (wanted_w : ∀ a0 q, wanted a0 = some q → Pure Try.prog wanted_f ([I64 a0] ++ wanted_c) (· = BL q)) (r : (List Int)) (h : M_ship_chosen_int l wanted = some r) : Pure Try.prog 73 [LS 1 I64 l, .fn wanted_f wanted_c] (· = LS 1 I64 r) := by
 unfold M_ship_chosen_int at h
 refine Pure_ofG [.tmp 4] Try.func73 rfl rfl ?_
 refine Js fun K1 hK1 => Jr ?_
 refine Jg (u := LS 1 I64 ([] : List Int)) (A_nilList 1 rfl rfl) ?_ rfl rfl rfl
 refine Jn (hK1 _ _ ?_)
 refine Js fun K2 hK2 => Jr ?_
 refine Jg (u := OW 1147 1 I64 ([] : List Int)) (A_nilOwn 1147 3 1 rfl rfl rfl) ?_ rfl rfl rfl
 refine Jn (hK2 _ _ ?_)
 refine Js (fun K3 hK3 => ?_)
 refine Js fun K4 hK4 => Jr ?_
 refine Jg (u := LS 1 I64 l) (Am rfl rfl) ?_ rfl rfl rfl
 refine JL_lenM (f := I64) (xs := l) tf_slice_43 rfl rfl (fun hm9 => ?_) rfl rfl rfl
 refine Jg (u := I64 0) (Am rfl rfl) ?_ rfl rfl rfl
 refine Jn (hK4 _ _ ?_)
 refine JC_block ?_
 obtain ⟨b21, kx21, hb21, hkx21, h⟩ := each_in h
 refine JC_loop2 (fun i21 (s21 : (List Int)) => each b21 kx21 (List.drop i21 l) i21 s21 = some r) (fun i21 s21 => [(1, .fn wanted_f wanted_c), (5, OW 1147 1 I64 s21), (8, LS 1 I64 l), (9, I64 (l.length : Int)), (10, I64 (i21 : Int))]) (fun i21 s21 => [(1147, .spare 3 1 s21.length s21.length)]) (fun i21 => l.length - i21) 0 [] h ⟨⟨.same (refsL_any _ _ wanted_d), .same rfl, .same rfl, .same rfl, .same rfl, trivial⟩, ⟨⟨_, rfl, .same⟩, trivial⟩, rfl⟩ ?_
 clear h
 intro i21 s21 hi21 K21 e21
 refine Js fun K22 hK22 => Jr ?_
 refine Jg (u := BL (decide ((i21 : Int) < (l.length : Int)))) (A_lss rfl rfl rfl) ?_ rfl rfl rfl
 refine Jn (hK22 _ _ ?_)
 refine Js (fun K23 hK23 => ?_)
 refine JC_cond rfl (fun hb => ?_) (fun hb => ?_)
 ·
  have hk21 := lt_len hb
  obtain ⟨y21, nx21, hy21, hn21, h⟩ := each_out hi21 hk21
  replace h := app4 hb21 h
  refine JC_skip ?_
  refine hK23 _ _ ?_
  obtain ⟨kj24, hkj24, h⟩ := jp_out h
  refine JC_seqJ (fun j24 : (List Int) => kj24 j24 = some r) (fun j24 => [(1, .fn wanted_f wanted_c), (5, OW 1147 1 I64 j24), (8, LS 1 I64 l), (9, I64 (l.length : Int)), (10, I64 (i21 : Int))]) (fun j24 => [(1147, .spare 3 1 j24.length j24.length)]) (fun Kj24 ej24 => ?_) ?_
  ·
   refine JC_block ?_
   refine Js fun K25 hK25 => Jr ?_
   refine Jg (u := I64 (i21 : Int)) (Am rfl rfl) ?_ rfl rfl rfl
   refine Jg (u := .dptr [I64 y21]) (A_indexM (f := I64) (xs := l) (y := y21) rfl rfl rfl tf_slice_43 hy21 rfl) ?_ rfl rfl rfl
   refine Jg (u := I64 y21) (A_load tf_scalar_3 rfl rfl rfl) ?_ rfl rfl rfl
   refine Jg (u := I64 (i21 : Int)) (Aa rfl rfl) ?_ rfl rfl rfl
   refine Jg (u := I64 y21) (Aa rfl rfl) ?_ rfl rfl rfl
   refine Jn (hK25 _ _ ?_)
   refine Js fun K26 hK26 => Jr ?_
   refine Jg (u := .fn wanted_f wanted_c) (Am rfl rfl) ?_ rfl rfl rfl
   refine Jg (u := I64 y21) (Am rfl rfl) ?_ rfl rfl rfl
   obtain ⟨r27, hr27, h⟩ := bnd_out h
   refine Jg (u := BL r27) (A_callV1 (args := [I64 y21]) (caps := wanted_c) rfl rfl (wanted_w y21 _ hr27) wanted_B ⟨rfl, rfl, trivial⟩ wanted_d) ?_ rfl rfl rfl
   refine Jn (hK26 _ _ ?_)
   refine JC_cond rfl (fun hb => ?_) (fun hb => ?_)
   ·
    replace h := bif_t hb h
    refine Jr ?_
    refine Jg (u := OW 1147 1 I64 s21) (Am rfl rfl) ?_ rfl rfl rfl
    refine Jg (u := I64 (i21 : Int)) (Am rfl rfl) ?_ rfl rfl rfl
    refine Jg (u := LS 1 I64 [(i21 : Int)]) (A_buildSlice (xs := [I64 (i21 : Int)]) rfl ⟨rfl, rfl, trivial⟩ tf_slice_43 tf_zsize_3 rfl rfl rfl rfl) ?_ rfl rfl rfl
    obtain ⟨ha28, h⟩ := need_out h
    refine Jg (u := OW 1147 1 I64 (s21 ++ [(i21 : Int)])) (A_appendM (f := I64) (xs := s21) (ys := [(i21 : Int)]) rfl rfl rfl rfl tf_slice_43 tf_elem_3 ha28 (fun _ => rfl) (.inl rfl) rfl) ?_ rfl rfl rfl
    refine Jg (u := OW 1147 1 I64 (s21 ++ [(i21 : Int)])) (Aa rfl rfl) ?_ rfl rfl rfl
    refine Jn ?_
    exact ej24 _ _ (s21 ++ [(i21 : Int)]) h ⟨⟨.same (refsL_any _ _ wanted_d), .same rfl, .same rfl, .same rfl, .same rfl, trivial⟩, ⟨⟨_, rfl, .same⟩, trivial⟩, rfl⟩
   ·
    replace h := bif_f hb h
    refine JC_skip ?_
    exact ej24 _ _ s21 h ⟨⟨.same (refsL_any _ _ wanted_d), .same rfl, .same rfl, .same rfl, .same rfl, trivial⟩, ⟨⟨_, rfl, .same⟩, trivial⟩, rfl⟩
  ·intro j24 h
   replace h := app1 hkj24 h
   refine Jr ?_
   refine Jg (u := I64 ((i21 + 1 : Nat) : Int)) (A_add (idx_succ hk21 hm9) rfl rfl rfl) ?_ rfl rfl rfl
   refine Jg (u := I64 ((i21 + 1 : Nat) : Int)) (Am rfl rfl) ?_ rfl rfl rfl
   refine Jn ?_
   exact e21 _ _ (i21 + 1) j24 (app1 hn21 h) (by omega) ⟨⟨.same (refsL_any _ _ wanted_d), .same rfl, .same rfl, .same rfl, .same rfl, trivial⟩, ⟨⟨_, rfl, .same⟩, trivial⟩, rfl⟩
 ·
  have h := app1 hkx21 (each_nil hi21 (not_lt_len hb))
  refine JC_exit ?_
  refine hK3 _ _ ?_
  refine Js fun K29 hK29 => Jr ?_
  refine Jg (u := OW 1147 1 I64 s21) (Am rfl rfl) ?_ rfl rfl rfl
  refine Jg (u := OW 1147 1 I64 s21) (Aa rfl rfl) ?_ rfl rfl rfl
  refine Jn (hK29 _ _ ?_)
  refine JC_ret ?_
  exact ⟨[LS 1 I64 s21], [], trivial, rfl, ⟨⟨_, rfl, .conv (.list rfl)⟩, trivial⟩, rfl, congrArg (fun r : (List Int) => (LS 1 I64 r : AV)) (Option.some.inj h)⟩

def M_ship_covers (x : Cover) (c : Column) : Option Bool :=
 bnd (bif decide (x.Bay = c.Bay) then M_ship_chosen_int x.Rows (fun z0 => M_ship_covers_1 z0 c) else some default) fun r3 =>
 some ((decide (x.Bay = c.Bay)) && (decide (0 < (r3.length : Int))))
theorem M_ship_covers_w (x : Cover) (c : Column) (r : Bool) (h : M_ship_covers x c = some r) : Pure Try.prog 66 [.agg [I64 x.Bay, LS 1 I64 x.Rows], .agg [I64 c.Bay, I64 c.Row, BL c.Deck, I64 c.Tiers, I64 c.Height, I64 c.Kilos20, I64 c.Kilos40, I64 c.Lash, LS 1 I64 c.Plugs, I64 c.X, I64 c.Y, I64 c.Z]] (· = BL r) := by
 unfold M_ship_covers at h
 refine Pure_ofG [.tmp 4] Try.func66 rfl rfl ?_
 refine Js fun K1 hK1 => Jr ?_
 refine Jg (u := .ptr 1142 0) (A_box (u := .agg [I64 x.Bay, LS 1 I64 x.Rows]) (cs := [I64 x.Bay, LS 1 I64 x.Rows]) 1142 rfl rfl rfl rfl rfl) ?_ rfl rfl rfl
 refine Jg (u := .ptr 1143 0) (A_box (u := .agg [I64 c.Bay, I64 c.Row, BL c.Deck, I64 c.Tiers, I64 c.Height, I64 c.Kilos20, I64 c.Kilos40, I64 c.Lash, LS 1 I64 c.Plugs, I64 c.X, I64 c.Y, I64 c.Z]) (cs := [I64 c.Bay, I64 c.Row, BL c.Deck, I64 c.Tiers, I64 c.Height, I64 c.Kilos20, I64 c.Kilos40, I64 c.Lash, LS 1 I64 c.Plugs, I64 c.X, I64 c.Y, I64 c.Z]) 1143 rfl rfl rfl rfl rfl) ?_ rfl rfl rfl
 refine Jg (u := BL false) (Aa rfl rfl) ?_ rfl rfl rfl
 refine Jn (hK1 _ _ ?_)
 refine JC_freeze [(2, .dptr [I64 x.Bay, LS 1 I64 x.Rows]), (3, .ptr 1143 0)] [(1143, .box 72 [I64 c.Bay, I64 c.Row, BL c.Deck, I64 c.Tiers, I64 c.Height, I64 c.Kilos20, I64 c.Kilos40, I64 c.Lash, LS 1 I64 c.Plugs, I64 c.X, I64 c.Y, I64 c.Z])] 1142 rfl rfl rfl ⟨⟨_, rfl, .boxEq rfl rfl⟩, trivial⟩ rfl (by exact ⟨.ptr, .conv (.same rfl), trivial⟩) ?_
 refine JC_freeze [(2, .dptr [I64 x.Bay, LS 1 I64 x.Rows]), (3, .dptr [I64 c.Bay, I64 c.Row, BL c.Deck, I64 c.Tiers, I64 c.Height, I64 c.Kilos20, I64 c.Kilos40, I64 c.Lash, LS 1 I64 c.Plugs, I64 c.X, I64 c.Y, I64 c.Z])] [] 1143 rfl rfl rfl trivial rfl (by exact ⟨.conv (.same rfl), .ptr, trivial⟩) ?_
 refine Js fun K2 hK2 => Jr ?_
 refine Jg (u := .dptr [I64 x.Bay, LS 1 I64 x.Rows]) (A_fieldM tf_field_76_0 rfl rfl rfl) ?_ rfl rfl rfl
 refine Jg (u := I64 x.Bay) (A_load tf_scalar_3 rfl rfl rfl) ?_ rfl rfl rfl
 refine Jg (u := .dptr [I64 c.Bay, I64 c.Row, BL c.Deck, I64 c.Tiers, I64 c.Height, I64 c.Kilos20, I64 c.Kilos40, I64 c.Lash, LS 1 I64 c.Plugs, I64 c.X, I64 c.Y, I64 c.Z]) (A_fieldM tf_field_72_0 rfl rfl rfl) ?_ rfl rfl rfl
 refine Jg (u := I64 c.Bay) (A_load tf_scalar_3 rfl rfl rfl) ?_ rfl rfl rfl
 refine Jg (u := BL (decide (x.Bay = c.Bay))) (A_eql rfl rfl rfl) ?_ rfl rfl rfl
 refine Jg (u := BL (decide (x.Bay = c.Bay))) (Am rfl rfl) ?_ rfl rfl rfl
 refine JL_opt (u := .dptr [LS 1 I64 x.Rows]) [] rfl rfl rfl .sct trivial (fun hc => A_fieldM tf_field_76_1 rfl rfl rfl) ?_ rfl rfl rfl
 refine JL_opt (u := LS 1 I64 x.Rows) [(11, .dptr [LS 1 I64 x.Rows])] rfl rfl rfl .sct ⟨.all id, trivial⟩ (fun hc => A_load tf_scalar_43 rfl rfl rfl) ?_ rfl rfl rfl
 refine JL_opt (u := .fn 74 [.dptr [I64 c.Bay, I64 c.Row, BL c.Deck, I64 c.Tiers, I64 c.Height, I64 c.Kilos20, I64 c.Kilos40, I64 c.Lash, LS 1 I64 c.Plugs, I64 c.X, I64 c.Y, I64 c.Z]]) [] rfl rfl rfl .sct trivial (fun hc => A_makeFunc (cs := [.dptr [I64 c.Bay, I64 c.Row, BL c.Deck, I64 c.Tiers, I64 c.Height, I64 c.Kilos20, I64 c.Kilos40, I64 c.Lash, LS 1 I64 c.Plugs, I64 c.X, I64 c.Y, I64 c.Z]]) rfl rfl) ?_ rfl rfl rfl
 obtain ⟨r3, hr3, h⟩ := bnd_out h
 refine JL_opt (u := LS 1 I64 r3) [(12, LS 1 I64 x.Rows), (13, .fn 74 [.dptr [I64 c.Bay, I64 c.Row, BL c.Deck, I64 c.Tiers, I64 c.Height, I64 c.Kilos20, I64 c.Kilos40, I64 c.Lash, LS 1 I64 c.Plugs, I64 c.X, I64 c.Y, I64 c.Z]])] rfl rfl rfl .sct ⟨.all id, .all id, trivial⟩ (fun hc => A_call1 (args := [LS 1 I64 x.Rows, .fn 74 [.dptr [I64 c.Bay, I64 c.Row, BL c.Deck, I64 c.Tiers, I64 c.Height, I64 c.Kilos20, I64 c.Kilos40, I64 c.Lash, LS 1 I64 c.Plugs, I64 c.X, I64 c.Y, I64 c.Z]]]) rfl (M_ship_chosen_int_w x.Rows (fun z0 => M_ship_covers_1 z0 c) 74 [.dptr [I64 c.Bay, I64 c.Row, BL c.Deck, I64 c.Tiers, I64 c.Height, I64 c.Kilos20, I64 c.Kilos40, I64 c.Lash, LS 1 I64 c.Plugs, I64 c.X, I64 c.Y, I64 c.Z]] tf_call_74 rfl (fun z0 q hq => M_ship_covers_1_w z0 c q hq) r3 (bif_t hc hr3)) tf_call_73 ⟨rfl, rfl, rfl, rfl, trivial⟩) ?_ rfl rfl rfl
 refine JL_opt (u := I64 (r3.length : Int)) [(14, LS 1 I64 r3)] rfl rfl rfl .sct ⟨.all id, trivial⟩ (fun hc => A_lenM (f := I64) (xs := r3) tf_slice_43 rfl rfl) ?_ rfl rfl rfl
 refine JL_opt (u := BL (decide (0 < (r3.length : Int)))) [(15, I64 (r3.length : Int))] rfl rfl rfl .sct ⟨.all id, trivial⟩ (fun hc => A_gtr rfl rfl rfl) ?_ rfl rfl rfl
 refine Jg (u := BL ((decide (x.Bay = c.Bay)) && (decide (0 < (r3.length : Int))))) (A_and rfl rfl rfl rfl) ?_ rfl rfl rfl
 refine Jg (u := BL ((decide (x.Bay = c.Bay)) && (decide (0 < (r3.length : Int))))) (Aa rfl rfl) ?_ rfl rfl rfl
 refine Jn (hK2 _ _ ?_)
 refine JC_ret ?_
 exact ⟨[BL ((decide (x.Bay = c.Bay)) && (decide (0 < (r3.length : Int))))], [], trivial, rfl, ⟨⟨_, rfl, .conv (.same rfl)⟩, trivial⟩, rfl, congrArg (fun r : Bool => (BL r : AV)) (Option.some.inj h)⟩

def M_ship_CoverOf_1 (x : Cover) (p1 : Ship) (p2 : Int) : Option Bool :=
 gidx p1.Columns p2 fun y3 =>
 bnd (M_ship_covers x y3) fun r5 =>
 some r5
theorem M_ship_CoverOf_1_w (x : Cover) (p1 : Ship) (p2 : Int) (r : Bool) (h : M_ship_CoverOf_1 x p1 p2 = some r) : Pure Try.prog 65 [.agg [I64 x.Bay, LS 1 I64 x.Rows], .dptr (Ship.cs p1), .dptr [I64 p2]] (· = BL r) := by
 unfold M_ship_CoverOf_1 at h
 refine Pure_ofG [.tmp 4] Try.func65 rfl rfl ?_
 refine Js fun K1 hK1 => Jr ?_
 refine Jg (u := .ptr 1141 0) (A_box (u := .agg [I64 x.Bay, LS 1 I64 x.Rows]) (cs := [I64 x.Bay, LS 1 I64 x.Rows]) 1141 rfl rfl rfl rfl rfl) ?_ rfl rfl rfl
 refine Jg (u := BL false) (Aa rfl rfl) ?_ rfl rfl rfl
 refine Jn (hK1 _ _ ?_)
 refine JC_freeze [(1, .dptr (Ship.cs p1)), (2, .dptr [I64 p2]), (3, .dptr [I64 x.Bay, LS 1 I64 x.Rows])] [] 1141 rfl rfl rfl trivial rfl (by exact ⟨.conv (.same rfl), .conv (.same rfl), .ptr, trivial⟩) ?_
 refine Js (fun K2 hK2 => ?_)
 obtain ⟨m4, y3, hm4, hy3, h⟩ := gidx_out h
 obtain ⟨r5, hr5, h⟩ := bnd_out h
 refine JC_draw [] [0, 0, 0, 0, 0, 0, 0, 0] [0, 0, 0, 0, 0, 0, 0, 0] [[]] tf_mixed (by kernel_rfl) rfl rfl ?_
 refine D_ro (u := .agg [I64 x.Bay, LS 1 I64 x.Rows]) rfl rfl ⟨O_go (A_loadAgg tf_agg_76 rfl rfl rfl) rfl, trivial⟩ ?_ rfl
 refine D_ro (u := .dptr (Ship.cs p1)) rfl rfl ⟨O_go (A_fieldM tf_field_35_0 rfl rfl rfl) rfl, trivial⟩ ?_ rfl
 refine D_ro (u := LS 12 Column.av p1.Columns) rfl rfl ⟨O_go (A_load tf_scalar_25 rfl rfl rfl) rfl, trivial⟩ ?_ rfl
 refine D_ro (u := I64 p2) rfl rfl ⟨O_go (A_load tf_scalar_3 rfl rfl rfl) rfl, trivial⟩ ?_ rfl
 refine D_ro (u := .dptr (Column.cs y3)) rfl rfl ⟨O_go (A_indexM (f := Column.av) (xs := p1.Columns) (y := y3) rfl rfl rfl tf_slice_25 hy3 hm4) rfl, trivial⟩ ?_ rfl
 refine D_ro (u := .agg (Column.cs y3)) rfl rfl ⟨O_go (A_loadAgg tf_agg_72 rfl rfl rfl) rfl, trivial⟩ ?_ rfl
 refine D_ro (u := BL r5) rfl rfl ⟨O_go (A_call1 (args := [.agg [I64 x.Bay, LS 1 I64 x.Rows], .agg (Column.cs y3)]) rfl (M_ship_covers_w x y3 r5 hr5) tf_call_66 ⟨rfl, rfl, rfl, rfl, trivial⟩) rfl, trivial⟩ ?_ rfl
 refine D_ro (u := BL r5) rfl rfl ⟨O_go (Aa rfl rfl) rfl, trivial⟩ ?_ rfl
 refine D_nil ?_
 refine hK2 _ _ ?_
 refine JC_ret ?_
 exact ⟨[BL r5], [], trivial, rfl, ⟨⟨_, rfl, .conv (.same rfl)⟩, trivial⟩, rfl, congrArg (fun r : Bool => (BL r : AV)) (Option.some.inj h)⟩

def M_ship_chosen_apiCover (l : List Cover) (wanted : Cover → Option Bool) : Option (List Int) :=
 each (fun y21 i21 (s21 : (List Int)) nx21 =>
  jp (fun kj24 =>
   bnd (wanted y21) fun r27 =>
   bif r27 then
   (need (decide ((s21.length + [(i21 : Int)].length) * 8 ≤ 140737488355328 ∧ s21.length + [(i21 : Int)].length ≤ maxLen)) <|
    kj24 (s21 ++ [(i21 : Int)]))
   else
   (kj24 s21)) fun (j24 : (List Int)) =>
  nx21 j24)
 (fun (s21 : (List Int)) =>
  some s21) l 0 []
theorem M_ship_chosen_apiCover_w (l : List Cover) (wanted : Cover → Option Bool) (wanted_f : FuncId) (wanted_c : List AV) (wanted_B : callB Try.prog wanted_f = true) (wanted_d : refsL (fun _ => false) wanted_c = true) (wanted_w : ∀ a0 q, wanted a0 = some q → Pure Try.prog wanted_f ([.agg [I64 a0.Bay, LS 1 I64 a0.Rows]] ++ wanted_c) (· = BL q)) (r : (List Int)) (h : M_ship_chosen_apiCover l wanted = some r) : Pure Try.prog 64 [LS 2 Cover.av l, .fn wanted_f wanted_c] (· = LS 1 I64 r) := by
 unfold M_ship_chosen_apiCover at h
 refine Pure_ofG [.tmp 4] Try.func64 rfl rfl ?_
 refine Js fun K1 hK1 => Jr ?_
 refine Jg (u := LS 1 I64 ([] : List Int)) (A_nilList 1 rfl rfl) ?_ rfl rfl rfl
 refine Jn (hK1 _ _ ?_)
 refine Js fun K2 hK2 => Jr ?_
 refine Jg (u := OW 1139 1 I64 ([] : List Int)) (A_nilOwn 1139 3 1 rfl rfl rfl) ?_ rfl rfl rfl
 refine Jn (hK2 _ _ ?_)
 refine Js (fun K3 hK3 => ?_)
 refine Js fun K4 hK4 => Jr ?_
 refine Jg (u := LS 2 Cover.av l) (Am rfl rfl) ?_ rfl rfl rfl
 refine JL_lenM (f := Cover.av) (xs := l) tf_slice_26 rfl rfl (fun hm9 => ?_) rfl rfl rfl
 refine Jg (u := I64 0) (Am rfl rfl) ?_ rfl rfl rfl
 refine Jn (hK4 _ _ ?_)
 refine JC_block ?_
 obtain ⟨b21, kx21, hb21, hkx21, h⟩ := each_in h
 refine JC_loop2 (fun i21 (s21 : (List Int)) => each b21 kx21 (List.drop i21 l) i21 s21 = some r) (fun i21 s21 => [(1, .fn wanted_f wanted_c), (5, OW 1139 1 I64 s21), (8, LS 2 Cover.av l), (9, I64 (l.length : Int)), (10, I64 (i21 : Int))]) (fun i21 s21 => [(1139, .spare 3 1 s21.length s21.length)]) (fun i21 => l.length - i21) 0 [] h ⟨⟨.same (refsL_any _ _ wanted_d), .same rfl, .same rfl, .same rfl, .same rfl, trivial⟩, ⟨⟨_, rfl, .same⟩, trivial⟩, rfl⟩ ?_
 clear h
 intro i21 s21 hi21 K21 e21
 refine Js fun K22 hK22 => Jr ?_
 refine Jg (u := BL (decide ((i21 : Int) < (l.length : Int)))) (A_lss rfl rfl rfl) ?_ rfl rfl rfl
 refine Jn (hK22 _ _ ?_)
 refine Js (fun K23 hK23 => ?_)
 refine JC_cond rfl (fun hb => ?_) (fun hb => ?_)
 ·
  have hk21 := lt_len hb
  obtain ⟨y21, nx21, hy21, hn21, h⟩ := each_out hi21 hk21
  replace h := app4 hb21 h
  refine JC_skip ?_
  refine hK23 _ _ ?_
  obtain ⟨kj24, hkj24, h⟩ := jp_out h
  refine JC_seqJ (fun j24 : (List Int) => kj24 j24 = some r) (fun j24 => [(1, .fn wanted_f wanted_c), (5, OW 1139 1 I64 j24), (8, LS 2 Cover.av l), (9, I64 (l.length : Int)), (10, I64 (i21 : Int))]) (fun j24 => [(1139, .spare 3 1 j24.length j24.length)]) (fun Kj24 ej24 => ?_) ?_
  ·
   refine JC_block ?_
   refine Js fun K25 hK25 => Jr ?_
   refine Jg (u := I64 (i21 : Int)) (Am rfl rfl) ?_ rfl rfl rfl
   refine Jg (u := .dptr [I64 y21.Bay, LS 1 I64 y21.Rows]) (A_indexM (f := Cover.av) (xs := l) (y := y21) rfl rfl rfl tf_slice_26 hy21 rfl) ?_ rfl rfl rfl
   refine Jg (u := .agg [I64 y21.Bay, LS 1 I64 y21.Rows]) (A_loadAgg tf_agg_76 rfl rfl rfl) ?_ rfl rfl rfl
   refine Jg (u := .ptr 1140 0) (A_allocJ 1140 2 tf_zsize_76 rfl rfl) ?_ rfl rfl rfl
   refine Jg (u := I64 (i21 : Int)) (Aa rfl rfl) ?_ rfl rfl rfl
   refine JL_go0 (u := .junk) (A_store (u := .agg [I64 y21.Bay, LS 1 I64 y21.Rows]) (ds := [I64 y21.Bay, LS 1 I64 y21.Rows]) tf_size_76 rfl rfl rfl rfl rfl rfl rfl rfl) ?_ rfl rfl
   refine Jn (hK25 _ _ ?_)
   refine JC_freeze [(1, .fn wanted_f wanted_c), (5, OW 1139 1 I64 s21), (6, I64 (i21 : Int)), (7, .dptr [I64 y21.Bay, LS 1 I64 y21.Rows]), (8, LS 2 Cover.av l), (9, I64 (l.length : Int)), (10, I64 (i21 : Int))] [(1139, .spare 3 1 s21.length s21.length)] 1140 rfl rfl rfl ⟨⟨_, rfl, .same⟩, trivial⟩ rfl (by exact ⟨.conv (.same (refsL_any _ _ wanted_d)), .conv (.same rfl), .conv (.same rfl), .ptr, .conv (.same rfl), .conv (.same rfl), .conv (.same rfl), trivial⟩) ?_
   refine Js fun K26 hK26 => Jr ?_
   refine Jg (u := .fn wanted_f wanted_c) (Am rfl rfl) ?_ rfl rfl rfl
   refine Jg (u := .agg [I64 y21.Bay, LS 1 I64 y21.Rows]) (A_loadAgg tf_agg_76 rfl rfl rfl) ?_ rfl rfl rfl
   obtain ⟨r27, hr27, h⟩ := bnd_out h
   refine Jg (u := BL r27) (A_callV1 (args := [.agg [I64 y21.Bay, LS 1 I64 y21.Rows]]) (caps := wanted_c) rfl rfl (wanted_w y21 _ hr27) wanted_B ⟨rfl, rfl, trivial⟩ wanted_d) ?_ rfl rfl rfl
   refine Jn (hK26 _ _ ?_)
   refine JC_cond rfl (fun hb => ?_) (fun hb => ?_)
   ·
    replace h := bif_t hb h
    refine Jr ?_
    refine Jg (u := OW 1139 1 I64 s21) (Am rfl rfl) ?_ rfl rfl rfl
    refine Jg (u := I64 (i21 : Int)) (Am rfl rfl) ?_ rfl rfl rfl
    refine Jg (u := LS 1 I64 [(i21 : Int)]) (A_buildSlice (xs := [I64 (i21 : Int)]) rfl ⟨rfl, rfl, trivial⟩ tf_slice_43 tf_zsize_3 rfl rfl rfl rfl) ?_ rfl rfl rfl
    obtain ⟨ha28, h⟩ := need_out h
    refine Jg (u := OW 1139 1 I64 (s21 ++ [(i21 : Int)])) (A_appendM (f := I64) (xs := s21) (ys := [(i21 : Int)]) rfl rfl rfl rfl tf_slice_43 tf_elem_3 ha28 (fun _ => rfl) (.inl rfl) rfl) ?_ rfl rfl rfl
    refine Jg (u := OW 1139 1 I64 (s21 ++ [(i21 : Int)])) (Aa rfl rfl) ?_ rfl rfl rfl
    refine Jn ?_
    exact ej24 _ _ (s21 ++ [(i21 : Int)]) h ⟨⟨.same (refsL_any _ _ wanted_d), .same rfl, .same rfl, .same rfl, .same rfl, trivial⟩, ⟨⟨_, rfl, .same⟩, trivial⟩, rfl⟩
   ·
    replace h := bif_f hb h
    refine JC_skip ?_
    exact ej24 _ _ s21 h ⟨⟨.same (refsL_any _ _ wanted_d), .same rfl, .same rfl, .same rfl, .same rfl, trivial⟩, ⟨⟨_, rfl, .same⟩, trivial⟩, rfl⟩
  ·intro j24 h
   replace h := app1 hkj24 h
   refine Jr ?_
   refine Jg (u := I64 ((i21 + 1 : Nat) : Int)) (A_add (idx_succ hk21 hm9) rfl rfl rfl) ?_ rfl rfl rfl
   refine Jg (u := I64 ((i21 + 1 : Nat) : Int)) (Am rfl rfl) ?_ rfl rfl rfl
   refine Jn ?_
   exact e21 _ _ (i21 + 1) j24 (app1 hn21 h) (by omega) ⟨⟨.same (refsL_any _ _ wanted_d), .same rfl, .same rfl, .same rfl, .same rfl, trivial⟩, ⟨⟨_, rfl, .same⟩, trivial⟩, rfl⟩
 ·
  have h := app1 hkx21 (each_nil hi21 (not_lt_len hb))
  refine JC_exit ?_
  refine hK3 _ _ ?_
  refine Js fun K29 hK29 => Jr ?_
  refine Jg (u := OW 1139 1 I64 s21) (Am rfl rfl) ?_ rfl rfl rfl
  refine Jg (u := OW 1139 1 I64 s21) (Aa rfl rfl) ?_ rfl rfl rfl
  refine Jn (hK29 _ _ ?_)
  refine JC_ret ?_
  exact ⟨[LS 1 I64 s21], [], trivial, rfl, ⟨⟨_, rfl, .conv (.list rfl)⟩, trivial⟩, rfl, congrArg (fun r : (List Int) => (LS 1 I64 r : AV)) (Option.some.inj h)⟩
end
end Go.Proofs.Ytbpgdkibmejibaa
