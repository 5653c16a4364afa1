/-
 Models of functions of the program, and that they return what the models say.
-/
import Derived.Test.YtbpgdkibmejibaaProg
import Derived.Test.YtbpgdkibmejibaaSortM
import Derived.Test.YtbpgdkibmejibaaSortLay
import Derived.Test.YtbpgdkibmejibaaRel
import Derived.Test.YtbpgdkibmejibaaLit0
import Derived.Test.YtbpgdkibmejibaaXA
import Derived.Test.YtbpgdkibmejibaaSpecA
import Derived.Test.YtbpgdkibmejibaaSpecI
import Derived.Test.YtbpgdkibmejibaaXDa
import Derived.Test.YtbpgdkibmejibaaXDb
set_option maxRecDepth 100000
set_option linter.unusedVariables false
set_option linter.unusedSimpArgs false
namespace Go.Proofs.Ytbpgdkibmejibaa
open Go.RowKit
noncomputable section
open XAF
open XDF

def M_ship_CoverOf (s : Ship) (column : Int) : Option Int :=
 bif ((decide (column < 0)) || (decide ((s.Columns.length : Int) ≤ column))) then
 (some (-1))
 else
 (bnd (M_ship_chosen_apiCover s.Covers (fun z0 => M_ship_CoverOf_1 z0 s column)) fun r6 =>
  bif decide ((r6.length : Int) = 0) then
  (some (-1))
  else
  (gidx r6 0 fun y11 =>
   some y11))
theorem M_ship_CoverOf_w (s : Ship) (column : Int) (r : Int) (h : M_ship_CoverOf s column = some r) : Pure Try.prog 44 [.agg [LS 12 Column.av s.Columns, LS 2 Cover.av s.Covers, I64 s.Light.Kilos, I64 s.Light.X, I64 s.Light.Y, I64 s.Light.Z, LS 5 Row.av s.Rows, LS 5 Frame.av s.Frames, LS 6 Tank.av s.Tanks, I64 s.Limits.Tolerance, I64 s.Limits.Trim, I64 s.Limits.List_, I64 s.Limits.Stability], I64 column] (· = I64 r) := by
 unfold M_ship_CoverOf at h
 refine Pure_ofG [.tmp 4] Try.func44 rfl rfl ?_
 refine Js fun K1 hK1 => Jr ?_
 refine Jg (u := .ptr 1123 0) (A_box (u := .agg [LS 12 Column.av s.Columns, LS 2 Cover.av s.Covers, I64 s.Light.Kilos, I64 s.Light.X, I64 s.Light.Y, I64 s.Light.Z, LS 5 Row.av s.Rows, LS 5 Frame.av s.Frames, LS 6 Tank.av s.Tanks, I64 s.Limits.Tolerance, I64 s.Limits.Trim, I64 s.Limits.List_, I64 s.Limits.Stability]) (cs := [LS 12 Column.av s.Columns, LS 2 Cover.av s.Covers, I64 s.Light.Kilos, I64 s.Light.X, I64 s.Light.Y, I64 s.Light.Z, LS 5 Row.av s.Rows, LS 5 Frame.av s.Frames, LS 6 Tank.av s.Tanks, I64 s.Limits.Tolerance, I64 s.Limits.Trim, I64 s.Limits.List_, I64 s.Limits.Stability]) 1123 rfl rfl rfl rfl rfl) ?_ rfl rfl rfl
 refine Jg (u := .ptr 1124 0) (A_box (u := I64 column) (cs := [I64 column]) 1124 rfl rfl rfl rfl rfl) ?_ rfl rfl rfl
 refine Jg (u := I64 0) (Aa rfl rfl) ?_ rfl rfl rfl
 refine Jn (hK1 _ _ ?_)
 refine JC_freeze [(2, .dptr [LS 12 Column.av s.Columns, LS 2 Cover.av s.Covers, I64 s.Light.Kilos, I64 s.Light.X, I64 s.Light.Y, I64 s.Light.Z, LS 5 Row.av s.Rows, LS 5 Frame.av s.Frames, LS 6 Tank.av s.Tanks, I64 s.Limits.Tolerance, I64 s.Limits.Trim, I64 s.Limits.List_, I64 s.Limits.Stability]), (3, .ptr 1124 0)] [(1124, .box 3 [I64 column])] 1123 rfl rfl rfl ⟨⟨_, rfl, .boxEq rfl rfl⟩, trivial⟩ rfl (by exact ⟨.ptr, .conv (.same rfl), trivial⟩) ?_
 refine JC_freeze [(2, .dptr [LS 12 Column.av s.Columns, LS 2 Cover.av s.Covers, I64 s.Light.Kilos, I64 s.Light.X, I64 s.Light.Y, I64 s.Light.Z, LS 5 Row.av s.Rows, LS 5 Frame.av s.Frames, LS 6 Tank.av s.Tanks, I64 s.Limits.Tolerance, I64 s.Limits.Trim, I64 s.Limits.List_, I64 s.Limits.Stability]), (3, .dptr [I64 column])] [] 1124 rfl rfl rfl trivial rfl (by exact ⟨.conv (.same rfl), .ptr, trivial⟩) ?_
 refine Js (fun K2 hK2 => ?_)
 refine Js fun K3 hK3 => Jr ?_
 refine Jg (u := I64 column) (A_load tf_scalar_3 rfl rfl rfl) ?_ rfl rfl rfl
 refine Jg (u := BL (decide (column < 0))) (A_lss rfl rfl rfl) ?_ rfl rfl rfl
 refine Jg (u := BL (decide (column < 0))) (Am rfl rfl) ?_ rfl rfl rfl
 refine JL_opt (u := I64 column) [] rfl rfl rfl .scf trivial (fun hc => A_load tf_scalar_3 rfl rfl rfl) ?_ rfl rfl rfl
 refine JL_opt (u := .dptr [LS 12 Column.av s.Columns, LS 2 Cover.av s.Covers, I64 s.Light.Kilos, I64 s.Light.X, I64 s.Light.Y, I64 s.Light.Z, LS 5 Row.av s.Rows, LS 5 Frame.av s.Frames, LS 6 Tank.av s.Tanks, I64 s.Limits.Tolerance, I64 s.Limits.Trim, I64 s.Limits.List_, I64 s.Limits.Stability]) [] rfl rfl rfl .scf trivial (fun hc => A_fieldM tf_field_35_0 rfl rfl rfl) ?_ rfl rfl rfl
 refine JL_opt (u := LS 12 Column.av s.Columns) [(10, .dptr [LS 12 Column.av s.Columns, LS 2 Cover.av s.Covers, I64 s.Light.Kilos, I64 s.Light.X, I64 s.Light.Y, I64 s.Light.Z, LS 5 Row.av s.Rows, LS 5 Frame.av s.Frames, LS 6 Tank.av s.Tanks, I64 s.Limits.Tolerance, I64 s.Limits.Trim, I64 s.Limits.List_, I64 s.Limits.Stability])] rfl rfl rfl .scf ⟨.all id, trivial⟩ (fun hc => A_load tf_scalar_25 rfl rfl rfl) ?_ rfl rfl rfl
 refine JL_opt (u := I64 (s.Columns.length : Int)) [(11, LS 12 Column.av s.Columns)] rfl rfl rfl .scf ⟨.all id, trivial⟩ (fun hc => A_lenM (f := Column.av) (xs := s.Columns) tf_slice_25 rfl rfl) ?_ rfl rfl rfl
 refine JL_opt (u := BL (decide ((s.Columns.length : Int) ≤ column))) [(9, I64 column), (12, I64 (s.Columns.length : Int))] rfl rfl rfl .scf ⟨.all id, .all id, trivial⟩ (fun hc => A_geq rfl rfl rfl) ?_ rfl rfl rfl
 refine Jg (u := BL ((decide (column < 0)) || (decide ((s.Columns.length : Int) ≤ column)))) (A_or rfl rfl rfl rfl) ?_ rfl rfl rfl
 refine Jn (hK3 _ _ ?_)
 refine JC_cond rfl (fun hb => ?_) (fun hb => ?_)
 ·
  replace h := bif_t hb h
  refine Js fun K4 hK4 => Jr ?_
  refine Jg (u := I64 (-1)) (Aa rfl rfl) ?_ rfl rfl rfl
  refine Jn (hK4 _ _ ?_)
  refine JC_ret ?_
  exact ⟨[I64 (-1)], [], trivial, rfl, ⟨⟨_, rfl, .conv (.same rfl)⟩, trivial⟩, rfl, congrArg (fun r : Int => (I64 r : AV)) (Option.some.inj h)⟩
 ·
  replace h := bif_f hb h
  refine JC_skip ?_
  refine hK2 _ _ ?_
  refine Js fun K5 hK5 => Jr ?_
  refine Jg (u := .dptr [LS 2 Cover.av s.Covers, I64 s.Light.Kilos, I64 s.Light.X, I64 s.Light.Y, I64 s.Light.Z, LS 5 Row.av s.Rows, LS 5 Frame.av s.Frames, LS 6 Tank.av s.Tanks, I64 s.Limits.Tolerance, I64 s.Limits.Trim, I64 s.Limits.List_, I64 s.Limits.Stability]) (A_fieldM tf_field_35_1 rfl rfl rfl) ?_ rfl rfl rfl
  refine Jg (u := LS 2 Cover.av s.Covers) (A_load tf_scalar_26 rfl rfl rfl) ?_ rfl rfl rfl
  refine Jg (u := .fn 65 [.dptr [LS 12 Column.av s.Columns, LS 2 Cover.av s.Covers, I64 s.Light.Kilos, I64 s.Light.X, I64 s.Light.Y, I64 s.Light.Z, LS 5 Row.av s.Rows, LS 5 Frame.av s.Frames, LS 6 Tank.av s.Tanks, I64 s.Limits.Tolerance, I64 s.Limits.Trim, I64 s.Limits.List_, I64 s.Limits.Stability], .dptr [I64 column]]) (A_makeFunc (cs := [.dptr [LS 12 Column.av s.Columns, LS 2 Cover.av s.Covers, I64 s.Light.Kilos, I64 s.Light.X, I64 s.Light.Y, I64 s.Light.Z, LS 5 Row.av s.Rows, LS 5 Frame.av s.Frames, LS 6 Tank.av s.Tanks, I64 s.Limits.Tolerance, I64 s.Limits.Trim, I64 s.Limits.List_, I64 s.Limits.Stability], .dptr [I64 column]]) rfl rfl) ?_ rfl rfl rfl
  obtain ⟨r6, hr6, h⟩ := bnd_out h
  refine Jg (u := LS 1 I64 r6) (A_call1 (args := [LS 2 Cover.av s.Covers, .fn 65 [.dptr [LS 12 Column.av s.Columns, LS 2 Cover.av s.Covers, I64 s.Light.Kilos, I64 s.Light.X, I64 s.Light.Y, I64 s.Light.Z, LS 5 Row.av s.Rows, LS 5 Frame.av s.Frames, LS 6 Tank.av s.Tanks, I64 s.Limits.Tolerance, I64 s.Limits.Trim, I64 s.Limits.List_, I64 s.Limits.Stability], .dptr [I64 column]]]) rfl (M_ship_chosen_apiCover_w s.Covers (fun z0 => M_ship_CoverOf_1 z0 s column) 65 [.dptr [LS 12 Column.av s.Columns, LS 2 Cover.av s.Covers, I64 s.Light.Kilos, I64 s.Light.X, I64 s.Light.Y, I64 s.Light.Z, LS 5 Row.av s.Rows, LS 5 Frame.av s.Frames, LS 6 Tank.av s.Tanks, I64 s.Limits.Tolerance, I64 s.Limits.Trim, I64 s.Limits.List_, I64 s.Limits.Stability], .dptr [I64 column]] tf_call_65 rfl (fun z0 q hq => M_ship_CoverOf_1_w z0 s column q hq) r6 hr6) tf_call_64 ⟨rfl, rfl, rfl, rfl, trivial⟩) ?_ rfl rfl rfl
  refine Jg (u := LS 1 I64 r6) (Aa rfl rfl) ?_ rfl rfl rfl
  refine Jn (hK5 _ _ ?_)
  refine Js (fun K7 hK7 => ?_)
  refine Js fun K8 hK8 => Jr ?_
  refine Jg (u := LS 1 I64 r6) (Am rfl rfl) ?_ rfl rfl rfl
  refine JL_lenM (f := I64) (xs := r6) tf_slice_43 rfl rfl (fun hm20 => ?_) rfl rfl rfl
  refine Jg (u := BL (decide ((r6.length : Int) = 0))) (A_eql rfl rfl rfl) ?_ rfl rfl rfl
  refine Jn (hK8 _ _ ?_)
  refine JC_cond rfl (fun hb => ?_) (fun hb => ?_)
  ·
   replace h := bif_t hb h
   refine Js fun K9 hK9 => Jr ?_
   refine Jg (u := I64 (-1)) (Aa rfl rfl) ?_ rfl rfl rfl
   refine Jn (hK9 _ _ ?_)
   refine JC_ret ?_
   exact ⟨[I64 (-1)], [], trivial, rfl, ⟨⟨_, rfl, .conv (.same rfl)⟩, trivial⟩, rfl, congrArg (fun r : Int => (I64 r : AV)) (Option.some.inj h)⟩
  ·
   replace h := bif_f hb h
   refine JC_skip ?_
   refine hK7 _ _ ?_
   refine Js fun K10 hK10 => Jr ?_
   refine Jg (u := LS 1 I64 r6) (Am rfl rfl) ?_ rfl rfl rfl
   obtain ⟨m12, y11, hm12, hy11, h⟩ := gidx_out h
   refine Jg (u := .dptr [I64 y11]) (A_indexM (f := I64) (xs := r6) (y := y11) rfl rfl rfl tf_slice_43 hy11 hm12) ?_ rfl rfl rfl
   refine Jg (u := I64 y11) (A_load tf_scalar_3 rfl rfl rfl) ?_ rfl rfl rfl
   refine Jg (u := I64 y11) (Aa rfl rfl) ?_ rfl rfl rfl
   refine Jn (hK10 _ _ ?_)
   refine JC_ret ?_
   exact ⟨[I64 y11], [], trivial, rfl, ⟨⟨_, rfl, .conv (.same rfl)⟩, trivial⟩, rfl, congrArg (fun r : Int => (I64 r : AV)) (Option.some.inj h)⟩

def M_slot_Over (a : Slot) (b : Slot) : Option Bool :=
 bnd (bif ((decide (a.Column = b.Column)) && (decide (b.Tier < a.Tier))) then M_slot_shares a.Half b.Half else some default) fun r3 =>
 some (((decide (a.Column = b.Column)) && (decide (b.Tier < a.Tier))) && r3)
theorem M_slot_Over_w (a : Slot) (b : Slot) (r : Bool) (h : M_slot_Over a b = some r) : Pure Try.prog 22 [.agg [I64 a.Column, I64 a.Tier, U8 a.Half], .agg [I64 b.Column, I64 b.Tier, U8 b.Half]] (· = BL r) := by
 unfold M_slot_Over at h
 refine Pure_ofG [.tmp 4] Try.func22 rfl rfl ?_
 refine Js fun K1 hK1 => Jr ?_
 refine Jg (u := .ptr 1073 0) (A_box (u := .agg [I64 a.Column, I64 a.Tier, U8 a.Half]) (cs := [I64 a.Column, I64 a.Tier, U8 a.Half]) 1073 rfl rfl rfl rfl rfl) ?_ rfl rfl rfl
 refine Jg (u := .ptr 1074 0) (A_box (u := .agg [I64 b.Column, I64 b.Tier, U8 b.Half]) (cs := [I64 b.Column, I64 b.Tier, U8 b.Half]) 1074 rfl rfl rfl rfl rfl) ?_ rfl rfl rfl
 refine Jg (u := BL false) (Aa rfl rfl) ?_ rfl rfl rfl
 refine Jn (hK1 _ _ ?_)
 refine JC_freeze [(2, .dptr [I64 a.Column, I64 a.Tier, U8 a.Half]), (3, .ptr 1074 0)] [(1074, .box 80 [I64 b.Column, I64 b.Tier, U8 b.Half])] 1073 rfl rfl rfl ⟨⟨_, rfl, .boxEq rfl rfl⟩, trivial⟩ rfl (by exact ⟨.ptr, .conv (.same rfl), trivial⟩) ?_
 refine JC_freeze [(2, .dptr [I64 a.Column, I64 a.Tier, U8 a.Half]), (3, .dptr [I64 b.Column, I64 b.Tier, U8 b.Half])] [] 1074 rfl rfl rfl trivial rfl (by exact ⟨.conv (.same rfl), .ptr, trivial⟩) ?_
 refine Js fun K2 hK2 => Jr ?_
 refine Jg (u := .dptr [I64 a.Column, I64 a.Tier, U8 a.Half]) (A_fieldM tf_field_80_0 rfl rfl rfl) ?_ rfl rfl rfl
 refine Jg (u := I64 a.Column) (A_load tf_scalar_3 rfl rfl rfl) ?_ rfl rfl rfl
 refine Jg (u := .dptr [I64 b.Column, I64 b.Tier, U8 b.Half]) (A_fieldM tf_field_80_0 rfl rfl rfl) ?_ rfl rfl rfl
 refine Jg (u := I64 b.Column) (A_load tf_scalar_3 rfl rfl rfl) ?_ rfl rfl rfl
 refine Jg (u := BL (decide (a.Column = b.Column))) (A_eql rfl rfl rfl) ?_ rfl rfl rfl
 refine Jg (u := BL (decide (a.Column = b.Column))) (Am rfl rfl) ?_ rfl rfl rfl
 refine JL_opt (u := .dptr [I64 a.Tier, U8 a.Half]) [] rfl rfl rfl .sct trivial (fun hc => A_fieldM tf_field_80_1 rfl rfl rfl) ?_ rfl rfl rfl
 refine JL_opt (u := I64 a.Tier) [(11, .dptr [I64 a.Tier, U8 a.Half])] rfl rfl rfl .sct ⟨.all id, trivial⟩ (fun hc => A_load tf_scalar_3 rfl rfl rfl) ?_ rfl rfl rfl
 refine JL_opt (u := .dptr [I64 b.Tier, U8 b.Half]) [] rfl rfl rfl .sct trivial (fun hc => A_fieldM tf_field_80_1 rfl rfl rfl) ?_ rfl rfl rfl
 refine JL_opt (u := I64 b.Tier) [(13, .dptr [I64 b.Tier, U8 b.Half])] rfl rfl rfl .sct ⟨.all id, trivial⟩ (fun hc => A_load tf_scalar_3 rfl rfl rfl) ?_ rfl rfl rfl
 refine JL_opt (u := BL (decide (b.Tier < a.Tier))) [(12, I64 a.Tier), (14, I64 b.Tier)] rfl rfl rfl .sct ⟨.all id, .all id, trivial⟩ (fun hc => A_gtr rfl rfl rfl) ?_ rfl rfl rfl
 refine Jg (u := BL ((decide (a.Column = b.Column)) && (decide (b.Tier < a.Tier)))) (A_and rfl rfl rfl rfl) ?_ rfl rfl rfl
 refine Jg (u := BL ((decide (a.Column = b.Column)) && (decide (b.Tier < a.Tier)))) (Am rfl rfl) ?_ rfl rfl rfl
 refine JL_opt (u := .dptr [U8 a.Half]) [] rfl rfl rfl .sct trivial (fun hc => A_fieldM tf_field_80_2 rfl rfl rfl) ?_ rfl rfl rfl
 refine JL_opt (u := U8 a.Half) [(18, .dptr [U8 a.Half])] rfl rfl rfl .sct ⟨.all id, trivial⟩ (fun hc => A_load tf_scalar_5 rfl rfl rfl) ?_ rfl rfl rfl
 refine JL_opt (u := .dptr [U8 b.Half]) [] rfl rfl rfl .sct trivial (fun hc => A_fieldM tf_field_80_2 rfl rfl rfl) ?_ rfl rfl rfl
 refine JL_opt (u := U8 b.Half) [(20, .dptr [U8 b.Half])] rfl rfl rfl .sct ⟨.all id, trivial⟩ (fun hc => A_load tf_scalar_5 rfl rfl rfl) ?_ rfl rfl rfl
 obtain ⟨r3, hr3, h⟩ := bnd_out h
 refine JL_opt (u := BL r3) [(19, U8 a.Half), (21, U8 b.Half)] rfl rfl rfl .sct ⟨.all id, .all id, trivial⟩ (fun hc => A_call1 (args := [U8 a.Half, U8 b.Half]) rfl (M_slot_shares_w a.Half b.Half r3 (bif_t hc hr3)) tf_call_46 ⟨rfl, rfl, rfl, rfl, trivial⟩) ?_ rfl rfl rfl
 refine Jg (u := BL (((decide (a.Column = b.Column)) && (decide (b.Tier < a.Tier))) && r3)) (A_and rfl rfl rfl rfl) ?_ rfl rfl rfl
 refine Jg (u := BL (((decide (a.Column = b.Column)) && (decide (b.Tier < a.Tier))) && r3)) (Aa rfl rfl) ?_ rfl rfl rfl
 refine Jn (hK2 _ _ ?_)
 refine JC_ret ?_
 exact ⟨[BL (((decide (a.Column = b.Column)) && (decide (b.Tier < a.Tier))) && r3)], [], trivial, rfl, ⟨⟨_, rfl, .conv (.same rfl)⟩, trivial⟩, rfl, congrArg (fun r : Bool => (BL r : AV)) (Option.some.inj h)⟩

def M_plan_set_int_add (m : AMap Int Unit) (k : Int) : Option (Bool × (AMap Int Unit)) :=
 bif (AMap.has m k) then
 (some (false, m))
 else
 (some (true, (AMap.put m k ())))
theorem M_plan_set_int_add_m210000022 (m : AMap Int Unit) (k : Int) (r : Bool × (AMap Int Unit)) (h : M_plan_set_int_add m k = some r) : ACalls Try.prog 43 [.mp 1069, I64 k] [(1069, MP 113 (fun n : Int => Value.int .i64 n) (fun _ : Unit => .agg []) m)] (fun av L' => av = BL r.1 ∧ L' = [(1069, MP 113 (fun n : Int => Value.int .i64 n) (fun _ : Unit => .agg []) r.2)]) := by
 unfold M_plan_set_int_add at h
 refine ACalls_ofG [1069] [.tmp 4] Try.func43 rfl rfl (inAll rfl) ?_
 refine Js fun K1 hK1 => Jr ?_
 refine Jg (u := BL false) (Aa rfl rfl) ?_ rfl rfl rfl
 refine Jn (hK1 _ _ ?_)
 refine Js (fun K2 hK2 => ?_)
 refine Js fun K3 hK3 => Jr ?_
 refine Jg (u := .mp 1069) (Am rfl rfl) ?_ rfl rfl rfl
 refine Jg (u := I64 k) (Am rfl rfl) ?_ rfl rfl rfl
 refine Jg (u := .tup [.agg [], BL (AMap.has m k)]) (A_lookupM1 (av := (fun _ : Unit => .agg [])) (m := m) (a := k) () (.agg #[]) rfl rfl rfl rfl tk_3 tf_map_113 tf_zv_137 rfl) ?_ rfl rfl rfl
 refine Jg (u := .tup [.agg [], BL (AMap.has m k)]) (Am rfl rfl) ?_ rfl rfl rfl
 refine Jg (u := .agg []) (A_extract rfl rfl rfl) ?_ rfl rfl rfl
 refine Jg (u := BL (AMap.has m k)) (A_extract rfl rfl rfl) ?_ rfl rfl rfl
 refine Jg (u := .ptr 1122 0) (A_allocJ 1122 0 tf_zsize_137 rfl rfl) ?_ rfl rfl rfl
 refine JL_go0 (u := .junk) (A_store0 (u := .agg []) tf_size_137 rfl rfl rfl rfl rfl rfl) ?_ rfl rfl
 refine Jg (u := BL (AMap.has m k)) (Aa rfl rfl) ?_ rfl rfl rfl
 refine Jn (hK3 _ _ ?_)
 refine JC_freeze [(0, .mp 1069), (1, I64 k), (6, BL (AMap.has m k))] [(1069, MP 113 (fun n : Int => Value.int .i64 n) (fun _ : Unit => .agg []) m)] 1122 rfl rfl rfl ⟨⟨_, rfl, .map⟩, trivial⟩ rfl (by exact ⟨.conv (.same rfl), .conv (.same rfl), .conv (.same rfl), trivial⟩) ?_
 refine Js fun K5 hK5 => Jr ?_
 refine Jg (u := BL (AMap.has m k)) (Am rfl rfl) ?_ rfl rfl rfl
 refine Jn (hK5 _ _ ?_)
 refine JC_cond rfl (fun hb => ?_) (fun hb => ?_)
 ·
  replace h := bif_t hb h
  refine Js fun K6 hK6 => Jr ?_
  refine Jg (u := BL false) (Aa rfl rfl) ?_ rfl rfl rfl
  refine Jn (hK6 _ _ ?_)
  refine JC_ret ?_
  obtain rfl := Option.some.inj h
  exact ⟨[BL false], [(1069, MP 113 (fun n : Int => Value.int .i64 n) (fun _ : Unit => .agg []) m)], ⟨⟨_, rfl, .map⟩, trivial⟩, rfl, ⟨⟨_, rfl, .conv (.same rfl)⟩, trivial⟩, rfl, rfl⟩
 ·
  replace h := bif_f hb h
  refine JC_skip ?_
  refine hK2 _ _ ?_
  refine Js fun K7 hK7 => Jr ?_
  refine Jg (u := .mp 1069) (Am rfl rfl) ?_ rfl rfl rfl
  refine Jg (u := I64 k) (Am rfl rfl) ?_ rfl rfl rfl
  refine Jg (u := .agg []) (A_buildZ (cs := []) [] [] [] tf_places_137 tf_zero_137 trivial rfl rfl) ?_ rfl rfl rfl
  refine JL_go0 (u := .junk) (A_mapUpdateM (m := m) (a := k) (v := ()) rfl rfl rfl rfl rfl rfl tk_3 tf_map_113) ?_ rfl rfl
  refine Jn (hK7 _ _ ?_)
  refine Js fun K8 hK8 => Jr ?_
  refine Jg (u := BL true) (Aa rfl rfl) ?_ rfl rfl rfl
  refine Jn (hK8 _ _ ?_)
  refine JC_ret ?_
  obtain rfl := Option.some.inj h
  exact ⟨[BL true], [(1069, MP 113 (fun n : Int => Value.int .i64 n) (fun _ : Unit => .agg []) (AMap.put m k ()))], ⟨⟨_, rfl, .map⟩, trivial⟩, rfl, ⟨⟨_, rfl, .conv (.same rfl)⟩, trivial⟩, rfl, rfl⟩

def B_plan_lifted_1 (self_ : Int → (AMap Int Unit) → (List Int) → (List (List Stowed)) → Ship → Option ((AMap Int Unit) × (List Int))) (F : Nat) (id_ : Int) (p1 : AMap Int Unit) (p2 : List Int) (p3 : List (List Stowed)) (p4 : Ship) : Option ((AMap Int Unit) × (List Int)) :=
 bnd (M_plan_set_int_add p1 id_) fun r3 =>
 bif (!r3.1) then
 (some (r3.2, p2))
 else
 (need (decide ((p2.length + [id_].length) * 8 ≤ 140737488355328 ∧ p2.length + [id_].length ≤ maxLen)) <|
  each (fun y7 i7 (s7 : (AMap Int Unit) × (List Int)) nx7 =>
   jp (fun kj10 =>
    bnd (M_plan_find y7 id_) fun r13 =>
    bif (!r13.2) then
    (kj10 (s7.1, s7.2))
    else
    (jp (fun kj17 =>
      gidx p4.Columns r13.1.Column fun y19 =>
      bif (!y19.Deck) then
      (bnd (M_ship_CoverOf p4 r13.1.Column) fun r21 =>
       kj17 r21)
      else
      (kj17 (-1))) fun (j17 : Int) =>
     each (fun y56 i56 (s56 : (AMap Int Unit) × (List Int)) nx56 =>
      jp (fun kj59 =>
       bnd (M_slot_Over y56.Slot r13.1) fun r62 =>
       bif r62 then
       (bnd (self_ y56.Box s56.1 s56.2 p3 p4) fun r63 =>
        kj59 (r63.1, r63.2))
       else
       (kj59 (s56.1, s56.2))) fun (j59 : (AMap Int Unit) × (List Int)) =>
      nx56 (j59.1, j59.2))
     (fun (s56 : (AMap Int Unit) × (List Int)) =>
      each (fun y65 i65 (s65 : (AMap Int Unit) × (List Int)) nx65 =>
       each (fun y107 i107 (s107 : (AMap Int Unit) × (List Int)) nx107 =>
        jp (fun kj110 =>
         bnd (bif decide (0 ≤ j17) then gidx p4.Columns y107.Slot.Column some else some default) fun y113 =>
         bnd (bif ((decide (0 ≤ j17)) && y113.Deck) then M_ship_CoverOf p4 y107.Slot.Column else some default) fun r114 =>
         bif (((decide (0 ≤ j17)) && y113.Deck) && (decide (r114 = j17))) then
         (bnd (self_ y107.Box s107.1 s107.2 p3 p4) fun r115 =>
          kj110 (r115.1, r115.2))
         else
         (kj110 (s107.1, s107.2))) fun (j110 : (AMap Int Unit) × (List Int)) =>
        nx107 (j110.1, j110.2))
       (fun (s107 : (AMap Int Unit) × (List Int)) =>
        nx65 (s107.1, s107.2)) y65 0 (s65.1, s65.2))
      (fun (s65 : (AMap Int Unit) × (List Int)) =>
       kj10 (s65.1, s65.2)) p3 0 (s56.1, s56.2)) y7 0 (s7.1, s7.2))) fun (j10 : (AMap Int Unit) × (List Int)) =>
   nx7 (j10.1, j10.2))
  (fun (s7 : (AMap Int Unit) × (List Int)) =>
   some (s7.1, s7.2)) p3 0 (r3.2, (p2 ++ [id_])))
def M_plan_lifted_1 : Nat → Int → (AMap Int Unit) → (List Int) → (List (List Stowed)) → Ship → Option ((AMap Int Unit) × (List Int))
 | 0, _, _, _, _, _ => none
 | F + 1, id_, p1, p2, p3, p4 => B_plan_lifted_1 (M_plan_lifted_1 F) F id_ p1 p2 p3 p4
theorem B_plan_lifted_1_w (self_ : Int → (AMap Int Unit) → (List Int) → (List (List Stowed)) → Ship → Option ((AMap Int Unit) × (List Int))) (self_w : ∀ (id_ : Int) (p1 : AMap Int Unit) (p2 : List Int) (p3 : List (List Stowed)) (p4 : Ship) (r : (AMap Int Unit) × (List Int)), self_ id_ p1 p2 p3 p4 = some r → ACalls Try.prog 42 [I64 id_, .ptr 1063 0, .ptr 1064 0, .dptr [LS 1 (LS 4 Stowed.av) p3], .dptr (Ship.cs p4), .ptr 1065 0] [(1063, .box 113 [.mp 1069]), (1069, MP 113 (fun n : Int => Value.int .i64 n) (fun _ : Unit => .agg []) p1), (1064, .box 43 [.vec 1070 p2.length 1 p2.length]), (1070, .vec 3 1 p2.length (p2.map I64)), (1065, .box 114 [.fn 42 [.ptr 1063 0, .ptr 1064 0, .dptr [LS 1 (LS 4 Stowed.av) p3], .dptr (Ship.cs p4), .ptr 1065 0]])] (fun av L' => av = .tup [] ∧ L' = [(1063, .box 113 [.mp 1069]), (1069, MP 113 (fun n : Int => Value.int .i64 n) (fun _ : Unit => .agg []) r.1), (1064, .box 43 [.vec 1070 r.2.length 1 r.2.length]), (1070, .vec 3 1 r.2.length (r.2.map I64)), (1065, .box 114 [.fn 42 [.ptr 1063 0, .ptr 1064 0, .dptr [LS 1 (LS 4 Stowed.av) p3], .dptr (Ship.cs p4), .ptr 1065 0]])])) (F : Nat) (id_ : Int) (p1 : AMap Int Unit) (p2 : List Int) (p3 : List (List Stowed)) (p4 : Ship) (r : (AMap Int Unit) × (List Int)) (h : B_plan_lifted_1 self_ F id_ p1 p2 p3 p4 = some r) : ACalls Try.prog 42 [I64 id_, .ptr 1063 0, .ptr 1064 0, .dptr [LS 1 (LS 4 Stowed.av) p3], .dptr (Ship.cs p4), .ptr 1065 0] [(1063, .box 113 [.mp 1069]), (1069, MP 113 (fun n : Int => Value.int .i64 n) (fun _ : Unit => .agg []) p1), (1064, .box 43 [.vec 1070 p2.length 1 p2.length]), (1070, .vec 3 1 p2.length (p2.map I64)), (1065, .box 114 [.fn 42 [.ptr 1063 0, .ptr 1064 0, .dptr [LS 1 (LS 4 Stowed.av) p3], .dptr (Ship.cs p4), .ptr 1065 0]])] (fun av L' => av = .tup [] ∧ L' = [(1063, .box 113 [.mp 1069]), (1069, MP 113 (fun n : Int => Value.int .i64 n) (fun _ : Unit => .agg []) r.1), (1064, .box 43 [.vec 1070 r.2.length 1 r.2.length]), (1070, .vec 3 1 r.2.length (r.2.map I64)), (1065, .box 114 [.fn 42 [.ptr 1063 0, .ptr 1064 0, .dptr [LS 1 (LS 4 Stowed.av) p3], .dptr (Ship.cs p4), .ptr 1065 0]])]) := by
 unfold B_plan_lifted_1 at h
 refine ACalls_ofG [1063, 1069, 1064, 1070, 1065] [] Try.func42 rfl rfl (inAll rfl) ?_
 refine Js (fun K1 hK1 => ?_)
 refine Js fun K2 hK2 => Jr ?_
 refine Jg (u := .mp 1069) (A_loadL tf_scalar_113 rfl rfl rfl rfl) ?_ rfl rfl rfl
 refine Jg (u := I64 id_) (Am rfl rfl) ?_ rfl rfl rfl
 obtain ⟨r3, hr3, h⟩ := bnd_out h
 refine Jg (u := BL r3.1) (A_callL (args := [.mp 1069, I64 id_]) (L0 := [(1069, MP 113 (fun n : Int => Value.int .i64 n) (fun _ : Unit => .agg []) p1)]) (Lr := [(1069, MP 113 (fun n : Int => Value.int .i64 n) (fun _ : Unit => .agg []) r3.2)]) rfl (M_plan_set_int_add_m210000022 p1 id_ r3 hr3) tf_call_43 ⟨.inl rfl, rfl, .inl rfl, rfl, trivial⟩ ⟨rfl, trivial⟩ rfl rfl rfl) ?_ rfl rfl rfl
 refine Jg (u := BL (!r3.1)) (A_not (b := r3.1) rfl rfl) ?_ rfl rfl rfl
 refine Jn (hK2 _ _ ?_)
 refine JC_cond rfl (fun hb => ?_) (fun hb => ?_)
 ·
  replace h := bif_t hb h
  refine JC_ret ?_
  obtain rfl := Option.some.inj h
  exact ⟨[], [(1063, .box 113 [.mp 1069]), (1069, MP 113 (fun n : Int => Value.int .i64 n) (fun _ : Unit => .agg []) r3.2), (1064, .box 43 [.vec 1070 p2.length 1 p2.length]), (1070, .vec 3 1 p2.length (p2.map I64)), (1065, .box 114 [.fn 42 [.ptr 1063 0, .ptr 1064 0, .dptr [LS 1 (LS 4 Stowed.av) p3], .dptr (Ship.cs p4), .ptr 1065 0]])], ⟨⟨_, rfl, .boxL rfl ⟨.same rfl, trivial⟩⟩, ⟨_, rfl, .map⟩, ⟨_, rfl, .boxL rfl ⟨.same rfl, trivial⟩⟩, ⟨_, rfl, .vec⟩, ⟨_, rfl, .boxL rfl ⟨.same rfl, trivial⟩⟩, trivial⟩, rfl, trivial, rfl, rfl⟩
 ·
  replace h := bif_f hb h
  refine JC_skip ?_
  refine hK1 _ _ ?_
  refine Js fun K4 hK4 => Jr ?_
  refine Jg (u := .vec 1070 p2.length 1 p2.length) (A_loadL tf_scalar_43 rfl rfl rfl rfl) ?_ rfl rfl rfl
  refine Jg (u := I64 id_) (Am rfl rfl) ?_ rfl rfl rfl
  refine Jg (u := LS 1 I64 [id_]) (A_buildSlice (xs := [I64 id_]) rfl ⟨rfl, rfl, trivial⟩ tf_slice_43 tf_zsize_3 rfl rfl rfl rfl) ?_ rfl rfl rfl
  obtain ⟨ha5, h⟩ := need_out h
  refine Jg (u := .vec 1070 ((p2 ++ [id_]).length) 1 ((p2 ++ [id_]).length)) (A_vappendM (f := I64) (xs := p2) (ys := [id_]) (ver := p2.length) (ver1 := (p2 ++ [id_]).length) rfl rfl rfl rfl tf_slice_43 tf_elem_3 ha5 (fun _ => rfl) (.inl rfl) (by simp)) ?_ rfl rfl rfl
  refine JL_go0 (u := .junk) (A_store (u := .vec 1070 ((p2 ++ [id_]).length) 1 ((p2 ++ [id_]).length)) (ds := [.vec 1070 ((p2 ++ [id_]).length) 1 ((p2 ++ [id_]).length)]) tf_size_43 rfl rfl rfl rfl rfl rfl rfl rfl) ?_ rfl rfl
  refine Jn (hK4 _ _ ?_)
  refine Js fun K6 hK6 => Jr ?_
  refine Jg (u := LS 1 (LS 4 Stowed.av) p3) (A_load tf_scalar_56 rfl rfl rfl) ?_ rfl rfl rfl
  refine JL_lenM (f := (LS 4 Stowed.av)) (xs := p3) tf_slice_56 rfl rfl (fun hm27 => ?_) rfl rfl rfl
  refine Jg (u := I64 0) (Am rfl rfl) ?_ rfl rfl rfl
  refine Jn (hK6 _ _ ?_)
  refine JC_block ?_
  obtain ⟨b7, kx7, hb7, hkx7, h⟩ := each_in h
  refine JC_loop2 (fun i7 (s7 : (AMap Int Unit) × (List Int)) => each b7 kx7 (List.drop i7 p3) i7 s7 = some r) (fun i7 s7 => [(0, I64 id_), (3, .dptr [LS 1 (LS 4 Stowed.av) p3]), (4, .dptr (Ship.cs p4)), (5, .ptr 1065 0), (26, LS 1 (LS 4 Stowed.av) p3), (27, I64 (p3.length : Int)), (28, I64 (i7 : Int))]) (fun i7 s7 => [(1069, MP 113 (fun n : Int => Value.int .i64 n) (fun _ : Unit => .agg []) s7.1), (1070, .vec 3 1 s7.2.length (s7.2.map I64)), (1063, .box 113 [.mp 1069]), (1064, .box 43 [.vec 1070 s7.2.length 1 s7.2.length]), (1065, .box 114 [.fn 42 [.ptr 1063 0, .ptr 1064 0, .dptr [LS 1 (LS 4 Stowed.av) p3], .dptr (Ship.cs p4), .ptr 1065 0]])]) (fun i7 => p3.length - i7) 0 (r3.2, (p2 ++ [id_])) h ⟨⟨.same rfl, .same rfl, .same rfl, .same rfl, .same rfl, .same rfl, .same rfl, trivial⟩, ⟨⟨_, rfl, .map⟩, ⟨_, rfl, .vec⟩, ⟨_, rfl, .boxL rfl ⟨.same rfl, trivial⟩⟩, ⟨_, rfl, .boxL rfl ⟨.same rfl, trivial⟩⟩, ⟨_, rfl, .boxL rfl ⟨.same rfl, trivial⟩⟩, trivial⟩, rfl⟩ ?_
  clear h
  intro i7 s7 hi7 K7 e7
  refine Js fun K8 hK8 => Jr ?_
  refine Jg (u := BL (decide ((i7 : Int) < (p3.length : Int)))) (A_lss rfl rfl rfl) ?_ rfl rfl rfl
  refine Jn (hK8 _ _ ?_)
  refine Js (fun K9 hK9 => ?_)
  refine JC_cond rfl (fun hb => ?_) (fun hb => ?_)
  ·
   have hk7 := lt_len hb
   obtain ⟨y7, nx7, hy7, hn7, h⟩ := each_out hi7 hk7
   replace h := app4 hb7 h
   refine JC_skip ?_
   refine hK9 _ _ ?_
   obtain ⟨kj10, hkj10, h⟩ := jp_out h
   refine JC_seqJ (fun j10 : (AMap Int Unit) × (List Int) => kj10 j10 = some r) (fun j10 => [(0, I64 id_), (3, .dptr [LS 1 (LS 4 Stowed.av) p3]), (4, .dptr (Ship.cs p4)), (5, .ptr 1065 0), (26, LS 1 (LS 4 Stowed.av) p3), (27, I64 (p3.length : Int)), (28, I64 (i7 : Int))]) (fun j10 => [(1069, MP 113 (fun n : Int => Value.int .i64 n) (fun _ : Unit => .agg []) j10.1), (1070, .vec 3 1 j10.2.length (j10.2.map I64)), (1063, .box 113 [.mp 1069]), (1064, .box 43 [.vec 1070 j10.2.length 1 j10.2.length]), (1065, .box 114 [.fn 42 [.ptr 1063 0, .ptr 1064 0, .dptr [LS 1 (LS 4 Stowed.av) p3], .dptr (Ship.cs p4), .ptr 1065 0]])]) (fun Kj10 ej10 => ?_) ?_
   ·
    refine JC_block ?_
    refine Js fun K11 hK11 => Jr ?_
    refine Jg (u := .dptr [LS 4 Stowed.av y7]) (A_indexM (f := (LS 4 Stowed.av)) (xs := p3) (y := y7) rfl rfl rfl tf_slice_56 hy7 rfl) ?_ rfl rfl rfl
    refine Jg (u := LS 4 Stowed.av y7) (A_load tf_scalar_40 rfl rfl rfl) ?_ rfl rfl rfl
    refine Jg (u := LS 4 Stowed.av y7) (Aa rfl rfl) ?_ rfl rfl rfl
    refine Jn (hK11 _ _ ?_)
    refine Js fun K12 hK12 => Jr ?_
    refine Jg (u := LS 4 Stowed.av y7) (Am rfl rfl) ?_ rfl rfl rfl
    refine Jg (u := I64 id_) (Am rfl rfl) ?_ rfl rfl rfl
    obtain ⟨r13, hr13, h⟩ := bnd_out h
    refine Jg (u := .tup [.agg (Slot.cs r13.1), BL r13.2]) (A_call1 (args := [LS 4 Stowed.av y7, I64 id_]) rfl (M_plan_find_w y7 id_ r13 hr13) tf_call_31 ⟨rfl, rfl, rfl, rfl, trivial⟩) ?_ rfl rfl rfl
    refine Jg (u := .tup [.agg (Slot.cs r13.1), BL r13.2]) (Am rfl rfl) ?_ rfl rfl rfl
    refine Jg (u := .agg (Slot.cs r13.1)) (A_extract rfl rfl rfl) ?_ rfl rfl rfl
    refine Jg (u := BL r13.2) (A_extract rfl rfl rfl) ?_ rfl rfl rfl
    refine Jg (u := .ptr 1119 0) (A_allocJ 1119 3 tf_zsize_80 rfl rfl) ?_ rfl rfl rfl
    refine JL_go0 (u := .junk) (A_store (u := .agg (Slot.cs r13.1)) (ds := [I64 r13.1.Column, I64 r13.1.Tier, U8 r13.1.Half]) tf_size_80 rfl rfl rfl rfl rfl rfl rfl rfl) ?_ rfl rfl
    refine Jg (u := BL r13.2) (Aa rfl rfl) ?_ rfl rfl rfl
    refine Jn (hK12 _ _ ?_)
    refine JC_freeze [(0, I64 id_), (3, .dptr [LS 1 (LS 4 Stowed.av) p3]), (4, .dptr (Ship.cs p4)), (5, .ptr 1065 0), (8, LS 4 Stowed.av y7), (9, .dptr (Slot.cs r13.1)), (10, BL r13.2), (26, LS 1 (LS 4 Stowed.av) p3), (27, I64 (p3.length : Int)), (28, I64 (i7 : Int))] [(1069, MP 113 (fun n : Int => Value.int .i64 n) (fun _ : Unit => .agg []) s7.1), (1070, .vec 3 1 s7.2.length (s7.2.map I64)), (1063, .box 113 [.mp 1069]), (1064, .box 43 [.vec 1070 s7.2.length 1 s7.2.length]), (1065, .box 114 [.fn 42 [.ptr 1063 0, .ptr 1064 0, .dptr [LS 1 (LS 4 Stowed.av) p3], .dptr (Ship.cs p4), .ptr 1065 0]])] 1119 rfl rfl rfl ⟨⟨_, rfl, .map⟩, ⟨_, rfl, .vec⟩, ⟨_, rfl, .boxEq rfl rfl⟩, ⟨_, rfl, .boxEq rfl rfl⟩, ⟨_, rfl, .boxEq rfl rfl⟩, trivial⟩ rfl (by exact ⟨.conv (.same rfl), .conv (.same rfl), .conv (.same rfl), .conv (.same rfl), .conv (.same rfl), .ptr, .conv (.same rfl), .conv (.same rfl), .conv (.same rfl), .conv (.same rfl), trivial⟩) ?_
    refine Js (fun K14 hK14 => ?_)
    refine Js fun K15 hK15 => Jr ?_
    refine Jg (u := BL r13.2) (Am rfl rfl) ?_ rfl rfl rfl
    refine Jg (u := BL (!r13.2)) (A_not (b := r13.2) rfl rfl) ?_ rfl rfl rfl
    refine Jn (hK15 _ _ ?_)
    refine JC_cond rfl (fun hb => ?_) (fun hb => ?_)
    ·
     replace h := bif_t hb h
     refine JC_exit ?_
     exact ej10 _ _ (s7.1, s7.2) h ⟨⟨.same rfl, .same rfl, .same rfl, .same rfl, .same rfl, .same rfl, .same rfl, trivial⟩, ⟨⟨_, rfl, .map⟩, ⟨_, rfl, .vec⟩, ⟨_, rfl, .boxL rfl ⟨.same rfl, trivial⟩⟩, ⟨_, rfl, .boxL rfl ⟨.same rfl, trivial⟩⟩, ⟨_, rfl, .boxL rfl ⟨.same rfl, trivial⟩⟩, trivial⟩, rfl⟩
    ·
     replace h := bif_f hb h
     refine JC_skip ?_
     refine hK14 _ _ ?_
     refine Js fun K16 hK16 => Jr ?_
     refine Jg (u := I64 (-1)) (Aa rfl rfl) ?_ rfl rfl rfl
     refine Jn (hK16 _ _ ?_)
     obtain ⟨kj17, hkj17, h⟩ := jp_out h
     refine JC_seqJ (fun j17 : Int => kj17 j17 = some r) (fun j17 => [(0, I64 id_), (3, .dptr [LS 1 (LS 4 Stowed.av) p3]), (4, .dptr (Ship.cs p4)), (5, .ptr 1065 0), (8, LS 4 Stowed.av y7), (9, .dptr (Slot.cs r13.1)), (11, I64 j17), (26, LS 1 (LS 4 Stowed.av) p3), (27, I64 (p3.length : Int)), (28, I64 (i7 : Int))]) (fun j17 => [(1069, MP 113 (fun n : Int => Value.int .i64 n) (fun _ : Unit => .agg []) s7.1), (1070, .vec 3 1 s7.2.length (s7.2.map I64)), (1063, .box 113 [.mp 1069]), (1064, .box 43 [.vec 1070 s7.2.length 1 s7.2.length]), (1065, .box 114 [.fn 42 [.ptr 1063 0, .ptr 1064 0, .dptr [LS 1 (LS 4 Stowed.av) p3], .dptr (Ship.cs p4), .ptr 1065 0]])]) (fun Kj17 ej17 => ?_) ?_
     ·
      refine Js fun K18 hK18 => Jr ?_
      refine Jg (u := .dptr (Ship.cs p4)) (A_fieldM tf_field_35_0 rfl rfl rfl) ?_ rfl rfl rfl
      refine Jg (u := LS 12 Column.av p4.Columns) (A_load tf_scalar_25 rfl rfl rfl) ?_ rfl rfl rfl
      refine Jg (u := .dptr (Slot.cs r13.1)) (A_fieldM tf_field_80_0 rfl rfl rfl) ?_ rfl rfl rfl
      refine Jg (u := I64 r13.1.Column) (A_load tf_scalar_3 rfl rfl rfl) ?_ rfl rfl rfl
      obtain ⟨m20, y19, hm20, hy19, h⟩ := gidx_out h
      refine Jg (u := .dptr (Column.cs y19)) (A_indexM (f := Column.av) (xs := p4.Columns) (y := y19) rfl rfl rfl tf_slice_25 hy19 hm20) ?_ rfl rfl rfl
      refine Jg (u := .dptr ((Column.cs y19).drop 2)) (A_fieldM tf_field_72_2 rfl rfl rfl) ?_ rfl rfl rfl
      refine Jg (u := BL y19.Deck) (A_load tf_scalar_4 rfl rfl rfl) ?_ rfl rfl rfl
      refine Jg (u := BL (!y19.Deck)) (A_not (b := y19.Deck) rfl rfl) ?_ rfl rfl rfl
      refine Jn (hK18 _ _ ?_)
      refine JC_cond rfl (fun hb => ?_) (fun hb => ?_)
      ·
       replace h := bif_t hb h
       refine Jr ?_
       refine Jg (u := .agg (Ship.cs p4)) (A_loadAgg tf_agg_35 rfl rfl rfl) ?_ rfl rfl rfl
       refine Jg (u := .dptr (Slot.cs r13.1)) (A_fieldM tf_field_80_0 rfl rfl rfl) ?_ rfl rfl rfl
       refine Jg (u := I64 r13.1.Column) (A_load tf_scalar_3 rfl rfl rfl) ?_ rfl rfl rfl
       obtain ⟨r21, hr21, h⟩ := bnd_out h
       refine Jg (u := I64 r21) (A_call1 (args := [.agg (Ship.cs p4), I64 r13.1.Column]) rfl (M_ship_CoverOf_w p4 r13.1.Column r21 hr21) tf_call_44 ⟨rfl, rfl, rfl, rfl, trivial⟩) ?_ rfl rfl rfl
       refine Jg (u := I64 r21) (Aa rfl rfl) ?_ rfl rfl rfl
       refine Jn ?_
       exact ej17 _ _ r21 h ⟨⟨.same rfl, .same rfl, .same rfl, .same rfl, .same rfl, .same rfl, .same rfl, .same rfl, .same rfl, .same rfl, trivial⟩, ⟨⟨_, rfl, .map⟩, ⟨_, rfl, .vec⟩, ⟨_, rfl, .boxL rfl ⟨.same rfl, trivial⟩⟩, ⟨_, rfl, .boxL rfl ⟨.same rfl, trivial⟩⟩, ⟨_, rfl, .boxL rfl ⟨.same rfl, trivial⟩⟩, trivial⟩, rfl⟩
      ·
       replace h := bif_f hb h
       refine JC_skip ?_
       exact ej17 _ _ (-1) h ⟨⟨.same rfl, .same rfl, .same rfl, .same rfl, .same rfl, .same rfl, .same rfl, .same rfl, .same rfl, .same rfl, trivial⟩, ⟨⟨_, rfl, .map⟩, ⟨_, rfl, .vec⟩, ⟨_, rfl, .boxL rfl ⟨.same rfl, trivial⟩⟩, ⟨_, rfl, .boxL rfl ⟨.same rfl, trivial⟩⟩, ⟨_, rfl, .boxL rfl ⟨.same rfl, trivial⟩⟩, trivial⟩, rfl⟩
     ·intro j17 h
      replace h := app1 hkj17 h
      refine Js (fun K22 hK22 => ?_)
      refine Js fun K23 hK23 => Jr ?_
      refine Jg (u := LS 4 Stowed.av y7) (Am rfl rfl) ?_ rfl rfl rfl
      refine JL_lenM (f := Stowed.av) (xs := y7) tf_slice_40 rfl rfl (fun hm53 => ?_) rfl rfl rfl
      refine Jg (u := I64 0) (Am rfl rfl) ?_ rfl rfl rfl
      refine Jn (hK23 _ _ ?_)
      refine JC_block ?_
      obtain ⟨b56, kx56, hb56, hkx56, h⟩ := each_in h
      refine JC_loop2 (fun i56 (s56 : (AMap Int Unit) × (List Int)) => each b56 kx56 (List.drop i56 y7) i56 s56 = some r) (fun i56 s56 => [(0, I64 id_), (3, .dptr [LS 1 (LS 4 Stowed.av) p3]), (4, .dptr (Ship.cs p4)), (5, .ptr 1065 0), (9, .dptr (Slot.cs r13.1)), (11, I64 j17), (26, LS 1 (LS 4 Stowed.av) p3), (27, I64 (p3.length : Int)), (28, I64 (i7 : Int)), (52, LS 4 Stowed.av y7), (53, I64 (y7.length : Int)), (54, I64 (i56 : Int))]) (fun i56 s56 => [(1069, MP 113 (fun n : Int => Value.int .i64 n) (fun _ : Unit => .agg []) s56.1), (1070, .vec 3 1 s56.2.length (s56.2.map I64)), (1063, .box 113 [.mp 1069]), (1064, .box 43 [.vec 1070 s56.2.length 1 s56.2.length]), (1065, .box 114 [.fn 42 [.ptr 1063 0, .ptr 1064 0, .dptr [LS 1 (LS 4 Stowed.av) p3], .dptr (Ship.cs p4), .ptr 1065 0]])]) (fun i56 => y7.length - i56) 0 (s7.1, s7.2) h ⟨⟨.same rfl, .same rfl, .same rfl, .same rfl, .same rfl, .same rfl, .same rfl, .same rfl, .same rfl, .same rfl, .same rfl, .same rfl, trivial⟩, ⟨⟨_, rfl, .map⟩, ⟨_, rfl, .vec⟩, ⟨_, rfl, .boxL rfl ⟨.same rfl, trivial⟩⟩, ⟨_, rfl, .boxL rfl ⟨.same rfl, trivial⟩⟩, ⟨_, rfl, .boxL rfl ⟨.same rfl, trivial⟩⟩, trivial⟩, rfl⟩ ?_
      clear h
      intro i56 s56 hi56 K56 e56
      refine Js fun K57 hK57 => Jr ?_
      refine Jg (u := BL (decide ((i56 : Int) < (y7.length : Int)))) (A_lss rfl rfl rfl) ?_ rfl rfl rfl
      refine Jn (hK57 _ _ ?_)
      refine Js (fun K58 hK58 => ?_)
      refine JC_cond rfl (fun hb => ?_) (fun hb => ?_)
      ·
       have hk56 := lt_len hb
       obtain ⟨y56, nx56, hy56, hn56, h⟩ := each_out hi56 hk56
       replace h := app4 hb56 h
       refine JC_skip ?_
       refine hK58 _ _ ?_
       obtain ⟨kj59, hkj59, h⟩ := jp_out h
       refine JC_seqJ (fun j59 : (AMap Int Unit) × (List Int) => kj59 j59 = some r) (fun j59 => [(0, I64 id_), (3, .dptr [LS 1 (LS 4 Stowed.av) p3]), (4, .dptr (Ship.cs p4)), (5, .ptr 1065 0), (9, .dptr (Slot.cs r13.1)), (11, I64 j17), (26, LS 1 (LS 4 Stowed.av) p3), (27, I64 (p3.length : Int)), (28, I64 (i7 : Int)), (52, LS 4 Stowed.av y7), (53, I64 (y7.length : Int)), (54, I64 (i56 : Int))]) (fun j59 => [(1069, MP 113 (fun n : Int => Value.int .i64 n) (fun _ : Unit => .agg []) j59.1), (1070, .vec 3 1 j59.2.length (j59.2.map I64)), (1063, .box 113 [.mp 1069]), (1064, .box 43 [.vec 1070 j59.2.length 1 j59.2.length]), (1065, .box 114 [.fn 42 [.ptr 1063 0, .ptr 1064 0, .dptr [LS 1 (LS 4 Stowed.av) p3], .dptr (Ship.cs p4), .ptr 1065 0]])]) (fun Kj59 ej59 => ?_) ?_
       ·
        refine JC_block ?_
        refine Js fun K60 hK60 => Jr ?_
        refine Jg (u := .dptr (Stowed.cs y56)) (A_indexM (f := Stowed.av) (xs := y7) (y := y56) rfl rfl rfl tf_slice_40 hy56 rfl) ?_ rfl rfl rfl
        refine Jg (u := .agg (Stowed.cs y56)) (A_loadAgg tf_agg_82 rfl rfl rfl) ?_ rfl rfl rfl
        refine Jg (u := .ptr 1120 0) (A_allocJ 1120 4 tf_zsize_82 rfl rfl) ?_ rfl rfl rfl
        refine JL_go0 (u := .junk) (A_store (u := .agg (Stowed.cs y56)) (ds := [I64 y56.Box, I64 y56.Slot.Column, I64 y56.Slot.Tier, U8 y56.Slot.Half]) tf_size_82 rfl rfl rfl rfl rfl rfl rfl rfl) ?_ rfl rfl
        refine Jn (hK60 _ _ ?_)
        refine JC_freeze [(0, I64 id_), (3, .dptr [LS 1 (LS 4 Stowed.av) p3]), (4, .dptr (Ship.cs p4)), (5, .ptr 1065 0), (9, .dptr (Slot.cs r13.1)), (11, I64 j17), (13, .dptr (Stowed.cs y56)), (26, LS 1 (LS 4 Stowed.av) p3), (27, I64 (p3.length : Int)), (28, I64 (i7 : Int)), (52, LS 4 Stowed.av y7), (53, I64 (y7.length : Int)), (54, I64 (i56 : Int))] [(1069, MP 113 (fun n : Int => Value.int .i64 n) (fun _ : Unit => .agg []) s56.1), (1070, .vec 3 1 s56.2.length (s56.2.map I64)), (1063, .box 113 [.mp 1069]), (1064, .box 43 [.vec 1070 s56.2.length 1 s56.2.length]), (1065, .box 114 [.fn 42 [.ptr 1063 0, .ptr 1064 0, .dptr [LS 1 (LS 4 Stowed.av) p3], .dptr (Ship.cs p4), .ptr 1065 0]])] 1120 rfl rfl rfl ⟨⟨_, rfl, .map⟩, ⟨_, rfl, .vec⟩, ⟨_, rfl, .boxEq rfl rfl⟩, ⟨_, rfl, .boxEq rfl rfl⟩, ⟨_, rfl, .boxEq rfl rfl⟩, trivial⟩ rfl (by exact ⟨.conv (.same rfl), .conv (.same rfl), .conv (.same rfl), .conv (.same rfl), .conv (.same rfl), .conv (.same rfl), .ptr, .conv (.same rfl), .conv (.same rfl), .conv (.same rfl), .conv (.same rfl), .conv (.same rfl), .conv (.same rfl), trivial⟩) ?_
        refine Js fun K61 hK61 => Jr ?_
        refine Jg (u := .dptr (Slot.cs y56.Slot)) (A_fieldM tf_field_82_1 rfl rfl rfl) ?_ rfl rfl rfl
        refine Jg (u := .agg (Slot.cs y56.Slot)) (A_loadAgg tf_agg_80 rfl rfl rfl) ?_ rfl rfl rfl
        refine Jg (u := .agg (Slot.cs r13.1)) (A_loadAgg tf_agg_80 rfl rfl rfl) ?_ rfl rfl rfl
        obtain ⟨r62, hr62, h⟩ := bnd_out h
        refine Jg (u := BL r62) (A_call1 (args := [.agg (Slot.cs y56.Slot), .agg (Slot.cs r13.1)]) rfl (M_slot_Over_w y56.Slot r13.1 r62 hr62) tf_call_22 ⟨rfl, rfl, rfl, rfl, trivial⟩) ?_ rfl rfl rfl
        refine Jn (hK61 _ _ ?_)
        refine JC_cond rfl (fun hb => ?_) (fun hb => ?_)
        ·
         replace h := bif_t hb h
         refine Jr ?_
         refine Jg (u := .fn 42 [.ptr 1063 0, .ptr 1064 0, .dptr [LS 1 (LS 4 Stowed.av) p3], .dptr (Ship.cs p4), .ptr 1065 0]) (A_loadL tf_scalar_114 rfl rfl rfl rfl) ?_ rfl rfl rfl
         refine Jg (u := .dptr (Stowed.cs y56)) (A_fieldM tf_field_82_0 rfl rfl rfl) ?_ rfl rfl rfl
         refine Jg (u := I64 y56.Box) (A_load tf_scalar_3 rfl rfl rfl) ?_ rfl rfl rfl
         obtain ⟨r63, hr63, h⟩ := bnd_out h
         refine Jg (u := .tup []) (A_callVL (args := [I64 y56.Box]) (caps := [.ptr 1063 0, .ptr 1064 0, .dptr [LS 1 (LS 4 Stowed.av) p3], .dptr (Ship.cs p4), .ptr 1065 0]) (L0 := [(1063, .box 113 [.mp 1069]), (1069, MP 113 (fun n : Int => Value.int .i64 n) (fun _ : Unit => .agg []) s56.1), (1064, .box 43 [.vec 1070 s56.2.length 1 s56.2.length]), (1070, .vec 3 1 s56.2.length (s56.2.map I64)), (1065, .box 114 [.fn 42 [.ptr 1063 0, .ptr 1064 0, .dptr [LS 1 (LS 4 Stowed.av) p3], .dptr (Ship.cs p4), .ptr 1065 0]])]) (Lr := [(1063, .box 113 [.mp 1069]), (1069, MP 113 (fun n : Int => Value.int .i64 n) (fun _ : Unit => .agg []) r63.1), (1064, .box 43 [.vec 1070 r63.2.length 1 r63.2.length]), (1070, .vec 3 1 r63.2.length (r63.2.map I64)), (1065, .box 114 [.fn 42 [.ptr 1063 0, .ptr 1064 0, .dptr [LS 1 (LS 4 Stowed.av) p3], .dptr (Ship.cs p4), .ptr 1065 0]])]) rfl rfl (self_w y56.Box s56.1 s56.2 p3 p4 r63 hr63) tf_call_42 ⟨.inl rfl, rfl, trivial⟩ rfl ⟨rfl, rfl, rfl, rfl, rfl, trivial⟩ rfl rfl rfl) ?_ rfl rfl rfl
         refine Jn ?_
         exact ej59 _ _ (r63.1, r63.2) h ⟨⟨.same rfl, .same rfl, .same rfl, .same rfl, .same rfl, .same rfl, .same rfl, .same rfl, .same rfl, .same rfl, .same rfl, .same rfl, trivial⟩, ⟨⟨_, rfl, .map⟩, ⟨_, rfl, .vec⟩, ⟨_, rfl, .boxL rfl ⟨.same rfl, trivial⟩⟩, ⟨_, rfl, .boxL rfl ⟨.same rfl, trivial⟩⟩, ⟨_, rfl, .boxL rfl ⟨.same rfl, trivial⟩⟩, trivial⟩, rfl⟩
        ·
         replace h := bif_f hb h
         refine JC_skip ?_
         exact ej59 _ _ (s56.1, s56.2) h ⟨⟨.same rfl, .same rfl, .same rfl, .same rfl, .same rfl, .same rfl, .same rfl, .same rfl, .same rfl, .same rfl, .same rfl, .same rfl, trivial⟩, ⟨⟨_, rfl, .map⟩, ⟨_, rfl, .vec⟩, ⟨_, rfl, .boxL rfl ⟨.same rfl, trivial⟩⟩, ⟨_, rfl, .boxL rfl ⟨.same rfl, trivial⟩⟩, ⟨_, rfl, .boxL rfl ⟨.same rfl, trivial⟩⟩, trivial⟩, rfl⟩
       ·intro j59 h
        replace h := app1 hkj59 h
        refine Jr ?_
        refine Jg (u := I64 ((i56 + 1 : Nat) : Int)) (A_add (idx_succ hk56 hm53) rfl rfl rfl) ?_ rfl rfl rfl
        refine Jg (u := I64 ((i56 + 1 : Nat) : Int)) (Am rfl rfl) ?_ rfl rfl rfl
        refine Jn ?_
        exact e56 _ _ (i56 + 1) (j59.1, j59.2) (app1 hn56 h) (by omega) ⟨⟨.same rfl, .same rfl, .same rfl, .same rfl, .same rfl, .same rfl, .same rfl, .same rfl, .same rfl, .same rfl, .same rfl, .same rfl, trivial⟩, ⟨⟨_, rfl, .map⟩, ⟨_, rfl, .vec⟩, ⟨_, rfl, .boxL rfl ⟨.same rfl, trivial⟩⟩, ⟨_, rfl, .boxL rfl ⟨.same rfl, trivial⟩⟩, ⟨_, rfl, .boxL rfl ⟨.same rfl, trivial⟩⟩, trivial⟩, rfl⟩
      ·
       have h := app1 hkx56 (each_nil hi56 (not_lt_len hb))
       refine JC_exit ?_
       refine hK22 _ _ ?_
       refine Js fun K64 hK64 => Jr ?_
       refine Jg (u := LS 1 (LS 4 Stowed.av) p3) (A_load tf_scalar_56 rfl rfl rfl) ?_ rfl rfl rfl
       refine JL_lenM (f := (LS 4 Stowed.av)) (xs := p3) tf_slice_56 rfl rfl (fun hm68 => ?_) rfl rfl rfl
       refine Jg (u := I64 0) (Am rfl rfl) ?_ rfl rfl rfl
       refine Jn (hK64 _ _ ?_)
       refine JC_block ?_
       obtain ⟨b65, kx65, hb65, hkx65, h⟩ := each_in h
       refine JC_loop2 (fun i65 (s65 : (AMap Int Unit) × (List Int)) => each b65 kx65 (List.drop i65 p3) i65 s65 = some r) (fun i65 s65 => [(0, I64 id_), (3, .dptr [LS 1 (LS 4 Stowed.av) p3]), (4, .dptr (Ship.cs p4)), (5, .ptr 1065 0), (11, I64 j17), (26, LS 1 (LS 4 Stowed.av) p3), (27, I64 (p3.length : Int)), (28, I64 (i7 : Int)), (67, LS 1 (LS 4 Stowed.av) p3), (68, I64 (p3.length : Int)), (69, I64 (i65 : Int))]) (fun i65 s65 => [(1069, MP 113 (fun n : Int => Value.int .i64 n) (fun _ : Unit => .agg []) s65.1), (1070, .vec 3 1 s65.2.length (s65.2.map I64)), (1063, .box 113 [.mp 1069]), (1064, .box 43 [.vec 1070 s65.2.length 1 s65.2.length]), (1065, .box 114 [.fn 42 [.ptr 1063 0, .ptr 1064 0, .dptr [LS 1 (LS 4 Stowed.av) p3], .dptr (Ship.cs p4), .ptr 1065 0]])]) (fun i65 => p3.length - i65) 0 (s56.1, s56.2) h ⟨⟨.same rfl, .same rfl, .same rfl, .same rfl, .same rfl, .same rfl, .same rfl, .same rfl, .same rfl, .same rfl, .same rfl, trivial⟩, ⟨⟨_, rfl, .map⟩, ⟨_, rfl, .vec⟩, ⟨_, rfl, .boxL rfl ⟨.same rfl, trivial⟩⟩, ⟨_, rfl, .boxL rfl ⟨.same rfl, trivial⟩⟩, ⟨_, rfl, .boxL rfl ⟨.same rfl, trivial⟩⟩, trivial⟩, rfl⟩ ?_
       clear h
       intro i65 s65 hi65 K65 e65
       refine Js fun K66 hK66 => Jr ?_
       refine Jg (u := BL (decide ((i65 : Int) < (p3.length : Int)))) (A_lss rfl rfl rfl) ?_ rfl rfl rfl
       refine Jn (hK66 _ _ ?_)
       refine Js (fun K67 hK67 => ?_)
       refine JC_cond rfl (fun hb => ?_) (fun hb => ?_)
       ·
        have hk65 := lt_len hb
        obtain ⟨y65, nx65, hy65, hn65, h⟩ := each_out hi65 hk65
        replace h := app4 hb65 h
        refine JC_skip ?_
        refine hK67 _ _ ?_
        refine Js (fun K68 hK68 => ?_)
        refine JC_block ?_
        refine Js fun K69 hK69 => Jr ?_
        refine Jg (u := .dptr [LS 4 Stowed.av y65]) (A_indexM (f := (LS 4 Stowed.av)) (xs := p3) (y := y65) rfl rfl rfl tf_slice_56 hy65 rfl) ?_ rfl rfl rfl
        refine Jg (u := LS 4 Stowed.av y65) (A_load tf_scalar_40 rfl rfl rfl) ?_ rfl rfl rfl
        refine Jg (u := LS 4 Stowed.av y65) (Aa rfl rfl) ?_ rfl rfl rfl
        refine Jn (hK69 _ _ ?_)
        refine Js fun K70 hK70 => Jr ?_
        refine Jg (u := LS 4 Stowed.av y65) (Am rfl rfl) ?_ rfl rfl rfl
        refine JL_lenM (f := Stowed.av) (xs := y65) tf_slice_40 rfl rfl (fun hm74 => ?_) rfl rfl rfl
        refine Jg (u := I64 0) (Am rfl rfl) ?_ rfl rfl rfl
        refine Jn (hK70 _ _ ?_)
        refine JC_block ?_
        obtain ⟨b107, kx107, hb107, hkx107, h⟩ := each_in h
        refine JC_loop2 (fun i107 (s107 : (AMap Int Unit) × (List Int)) => each b107 kx107 (List.drop i107 y65) i107 s107 = some r) (fun i107 s107 => [(0, I64 id_), (3, .dptr [LS 1 (LS 4 Stowed.av) p3]), (4, .dptr (Ship.cs p4)), (5, .ptr 1065 0), (11, I64 j17), (26, LS 1 (LS 4 Stowed.av) p3), (27, I64 (p3.length : Int)), (28, I64 (i7 : Int)), (67, LS 1 (LS 4 Stowed.av) p3), (68, I64 (p3.length : Int)), (69, I64 (i65 : Int)), (73, LS 4 Stowed.av y65), (74, I64 (y65.length : Int)), (75, I64 (i107 : Int))]) (fun i107 s107 => [(1069, MP 113 (fun n : Int => Value.int .i64 n) (fun _ : Unit => .agg []) s107.1), (1070, .vec 3 1 s107.2.length (s107.2.map I64)), (1063, .box 113 [.mp 1069]), (1064, .box 43 [.vec 1070 s107.2.length 1 s107.2.length]), (1065, .box 114 [.fn 42 [.ptr 1063 0, .ptr 1064 0, .dptr [LS 1 (LS 4 Stowed.av) p3], .dptr (Ship.cs p4), .ptr 1065 0]])]) (fun i107 => y65.length - i107) 0 (s65.1, s65.2) h ⟨⟨.same rfl, .same rfl, .same rfl, .same rfl, .same rfl, .same rfl, .same rfl, .same rfl, .same rfl, .same rfl, .same rfl, .same rfl, .same rfl, .same rfl, trivial⟩, ⟨⟨_, rfl, .map⟩, ⟨_, rfl, .vec⟩, ⟨_, rfl, .boxL rfl ⟨.same rfl, trivial⟩⟩, ⟨_, rfl, .boxL rfl ⟨.same rfl, trivial⟩⟩, ⟨_, rfl, .boxL rfl ⟨.same rfl, trivial⟩⟩, trivial⟩, rfl⟩ ?_
        clear h
        intro i107 s107 hi107 K107 e107
        refine Js fun K108 hK108 => Jr ?_
        refine Jg (u := BL (decide ((i107 : Int) < (y65.length : Int)))) (A_lss rfl rfl rfl) ?_ rfl rfl rfl
        refine Jn (hK108 _ _ ?_)
        refine Js (fun K109 hK109 => ?_)
        refine JC_cond rfl (fun hb => ?_) (fun hb => ?_)
        ·
         have hk107 := lt_len hb
         obtain ⟨y107, nx107, hy107, hn107, h⟩ := each_out hi107 hk107
         replace h := app4 hb107 h
         refine JC_skip ?_
         refine hK109 _ _ ?_
         obtain ⟨kj110, hkj110, h⟩ := jp_out h
         refine JC_seqJ (fun j110 : (AMap Int Unit) × (List Int) => kj110 j110 = some r) (fun j110 => [(0, I64 id_), (3, .dptr [LS 1 (LS 4 Stowed.av) p3]), (4, .dptr (Ship.cs p4)), (5, .ptr 1065 0), (11, I64 j17), (26, LS 1 (LS 4 Stowed.av) p3), (27, I64 (p3.length : Int)), (28, I64 (i7 : Int)), (67, LS 1 (LS 4 Stowed.av) p3), (68, I64 (p3.length : Int)), (69, I64 (i65 : Int)), (73, LS 4 Stowed.av y65), (74, I64 (y65.length : Int)), (75, I64 (i107 : Int))]) (fun j110 => [(1069, MP 113 (fun n : Int => Value.int .i64 n) (fun _ : Unit => .agg []) j110.1), (1070, .vec 3 1 j110.2.length (j110.2.map I64)), (1063, .box 113 [.mp 1069]), (1064, .box 43 [.vec 1070 j110.2.length 1 j110.2.length]), (1065, .box 114 [.fn 42 [.ptr 1063 0, .ptr 1064 0, .dptr [LS 1 (LS 4 Stowed.av) p3], .dptr (Ship.cs p4), .ptr 1065 0]])]) (fun Kj110 ej110 => ?_) ?_
         ·
          refine JC_block ?_
          refine Js fun K111 hK111 => Jr ?_
          refine Jg (u := .dptr (Stowed.cs y107)) (A_indexM (f := Stowed.av) (xs := y65) (y := y107) rfl rfl rfl tf_slice_40 hy107 rfl) ?_ rfl rfl rfl
          refine Jg (u := .agg (Stowed.cs y107)) (A_loadAgg tf_agg_82 rfl rfl rfl) ?_ rfl rfl rfl
          refine Jg (u := .ptr 1121 0) (A_allocJ 1121 4 tf_zsize_82 rfl rfl) ?_ rfl rfl rfl
          refine JL_go0 (u := .junk) (A_store (u := .agg (Stowed.cs y107)) (ds := [I64 y107.Box, I64 y107.Slot.Column, I64 y107.Slot.Tier, U8 y107.Slot.Half]) tf_size_82 rfl rfl rfl rfl rfl rfl rfl rfl) ?_ rfl rfl
          refine Jn (hK111 _ _ ?_)
          refine JC_freeze [(0, I64 id_), (3, .dptr [LS 1 (LS 4 Stowed.av) p3]), (4, .dptr (Ship.cs p4)), (5, .ptr 1065 0), (11, I64 j17), (17, .dptr (Stowed.cs y107)), (26, LS 1 (LS 4 Stowed.av) p3), (27, I64 (p3.length : Int)), (28, I64 (i7 : Int)), (67, LS 1 (LS 4 Stowed.av) p3), (68, I64 (p3.length : Int)), (69, I64 (i65 : Int)), (73, LS 4 Stowed.av y65), (74, I64 (y65.length : Int)), (75, I64 (i107 : Int))] [(1069, MP 113 (fun n : Int => Value.int .i64 n) (fun _ : Unit => .agg []) s107.1), (1070, .vec 3 1 s107.2.length (s107.2.map I64)), (1063, .box 113 [.mp 1069]), (1064, .box 43 [.vec 1070 s107.2.length 1 s107.2.length]), (1065, .box 114 [.fn 42 [.ptr 1063 0, .ptr 1064 0, .dptr [LS 1 (LS 4 Stowed.av) p3], .dptr (Ship.cs p4), .ptr 1065 0]])] 1121 rfl rfl rfl ⟨⟨_, rfl, .map⟩, ⟨_, rfl, .vec⟩, ⟨_, rfl, .boxEq rfl rfl⟩, ⟨_, rfl, .boxEq rfl rfl⟩, ⟨_, rfl, .boxEq rfl rfl⟩, trivial⟩ rfl (by exact ⟨.conv (.same rfl), .conv (.same rfl), .conv (.same rfl), .conv (.same rfl), .conv (.same rfl), .ptr, .conv (.same rfl), .conv (.same rfl), .conv (.same rfl), .conv (.same rfl), .conv (.same rfl), .conv (.same rfl), .conv (.same rfl), .conv (.same rfl), .conv (.same rfl), trivial⟩) ?_
          refine Js fun K112 hK112 => Jr ?_
          refine Jg (u := I64 j17) (Am rfl rfl) ?_ rfl rfl rfl
          refine Jg (u := BL (decide (0 ≤ j17))) (A_geq rfl rfl rfl) ?_ rfl rfl rfl
          refine Jg (u := BL (decide (0 ≤ j17))) (Am rfl rfl) ?_ rfl rfl rfl
          refine JL_opt (u := .dptr (Ship.cs p4)) [] rfl rfl rfl .sct trivial (fun hc => A_fieldM tf_field_35_0 rfl rfl rfl) ?_ rfl rfl rfl
          refine JL_opt (u := LS 12 Column.av p4.Columns) [(82, .dptr (Ship.cs p4))] rfl rfl rfl .sct ⟨.all id, trivial⟩ (fun hc => A_load tf_scalar_25 rfl rfl rfl) ?_ rfl rfl rfl
          refine JL_opt (u := .dptr (Slot.cs y107.Slot)) [] rfl rfl rfl .sct trivial (fun hc => A_fieldM tf_field_82_1 rfl rfl rfl) ?_ rfl rfl rfl
          refine JL_opt (u := .dptr (Slot.cs y107.Slot)) [(84, .dptr (Slot.cs y107.Slot))] rfl rfl rfl .sct ⟨.all id, trivial⟩ (fun hc => A_fieldM tf_field_80_0 rfl rfl rfl) ?_ rfl rfl rfl
          refine JL_opt (u := I64 y107.Slot.Column) [(85, .dptr (Slot.cs y107.Slot))] rfl rfl rfl .sct ⟨.all id, trivial⟩ (fun hc => A_load tf_scalar_3 rfl rfl rfl) ?_ rfl rfl rfl
          obtain ⟨y113, hy113, h⟩ := bnd_out h
          refine JL_opt (u := .dptr (Column.cs y113)) [(83, LS 12 Column.av p4.Columns), (86, I64 y107.Slot.Column)] rfl rfl rfl .sct ⟨.all id, .all id, trivial⟩ (fun hc => (match gidx_some (bif_t hc hy113) with | ⟨_, hm_, hy_⟩ => A_indexM (f := Column.av) (xs := p4.Columns) (y := y113) rfl rfl rfl tf_slice_25 hy_ hm_)) ?_ rfl rfl rfl
          refine JL_opt (u := .dptr ((Column.cs y113).drop 2)) [(87, .dptr (Column.cs y113))] rfl rfl rfl .sct ⟨.all id, trivial⟩ (fun hc => A_fieldM tf_field_72_2 rfl rfl rfl) ?_ rfl rfl rfl
          refine JL_opt (u := BL y113.Deck) [(88, .dptr ((Column.cs y113).drop 2))] rfl rfl rfl .sct ⟨.all id, trivial⟩ (fun hc => A_load tf_scalar_4 rfl rfl rfl) ?_ rfl rfl rfl
          refine Jg (u := BL ((decide (0 ≤ j17)) && y113.Deck)) (A_and rfl rfl rfl rfl) ?_ rfl rfl rfl
          refine Jg (u := BL ((decide (0 ≤ j17)) && y113.Deck)) (Am rfl rfl) ?_ rfl rfl rfl
          refine JL_opt (u := .agg (Ship.cs p4)) [] rfl rfl rfl .sct trivial (fun hc => A_loadAgg tf_agg_35 rfl rfl rfl) ?_ rfl rfl rfl
          refine JL_opt (u := .dptr (Slot.cs y107.Slot)) [] rfl rfl rfl .sct trivial (fun hc => A_fieldM tf_field_82_1 rfl rfl rfl) ?_ rfl rfl rfl
          refine JL_opt (u := .dptr (Slot.cs y107.Slot)) [(93, .dptr (Slot.cs y107.Slot))] rfl rfl rfl .sct ⟨.all id, trivial⟩ (fun hc => A_fieldM tf_field_80_0 rfl rfl rfl) ?_ rfl rfl rfl
          refine JL_opt (u := I64 y107.Slot.Column) [(94, .dptr (Slot.cs y107.Slot))] rfl rfl rfl .sct ⟨.all id, trivial⟩ (fun hc => A_load tf_scalar_3 rfl rfl rfl) ?_ rfl rfl rfl
          obtain ⟨r114, hr114, h⟩ := bnd_out h
          refine JL_opt (u := I64 r114) [(92, .agg (Ship.cs p4)), (95, I64 y107.Slot.Column)] rfl rfl rfl .sct ⟨.all id, .all id, trivial⟩ (fun hc => A_call1 (args := [.agg (Ship.cs p4), I64 y107.Slot.Column]) rfl (M_ship_CoverOf_w p4 y107.Slot.Column r114 (bif_t hc hr114)) tf_call_44 ⟨rfl, rfl, rfl, rfl, trivial⟩) ?_ rfl rfl rfl
          refine JL_opt (u := I64 j17) [] rfl rfl rfl .sct trivial (fun hc => Am rfl rfl) ?_ rfl rfl rfl
          refine JL_opt (u := BL (decide (r114 = j17))) [(96, I64 r114), (97, I64 j17)] rfl rfl rfl .sct ⟨.all id, .all id, trivial⟩ (fun hc => A_eql rfl rfl rfl) ?_ rfl rfl rfl
          refine Jg (u := BL (((decide (0 ≤ j17)) && y113.Deck) && (decide (r114 = j17)))) (A_and rfl rfl rfl rfl) ?_ rfl rfl rfl
          refine Jn (hK112 _ _ ?_)
          refine JC_cond rfl (fun hb => ?_) (fun hb => ?_)
          ·
           replace h := bif_t hb h
           refine Jr ?_
           refine Jg (u := .fn 42 [.ptr 1063 0, .ptr 1064 0, .dptr [LS 1 (LS 4 Stowed.av) p3], .dptr (Ship.cs p4), .ptr 1065 0]) (A_loadL tf_scalar_114 rfl rfl rfl rfl) ?_ rfl rfl rfl
           refine Jg (u := .dptr (Stowed.cs y107)) (A_fieldM tf_field_82_0 rfl rfl rfl) ?_ rfl rfl rfl
           refine Jg (u := I64 y107.Box) (A_load tf_scalar_3 rfl rfl rfl) ?_ rfl rfl rfl
           obtain ⟨r115, hr115, h⟩ := bnd_out h
           refine Jg (u := .tup []) (A_callVL (args := [I64 y107.Box]) (caps := [.ptr 1063 0, .ptr 1064 0, .dptr [LS 1 (LS 4 Stowed.av) p3], .dptr (Ship.cs p4), .ptr 1065 0]) (L0 := [(1063, .box 113 [.mp 1069]), (1069, MP 113 (fun n : Int => Value.int .i64 n) (fun _ : Unit => .agg []) s107.1), (1064, .box 43 [.vec 1070 s107.2.length 1 s107.2.length]), (1070, .vec 3 1 s107.2.length (s107.2.map I64)), (1065, .box 114 [.fn 42 [.ptr 1063 0, .ptr 1064 0, .dptr [LS 1 (LS 4 Stowed.av) p3], .dptr (Ship.cs p4), .ptr 1065 0]])]) (Lr := [(1063, .box 113 [.mp 1069]), (1069, MP 113 (fun n : Int => Value.int .i64 n) (fun _ : Unit => .agg []) r115.1), (1064, .box 43 [.vec 1070 r115.2.length 1 r115.2.length]), (1070, .vec 3 1 r115.2.length (r115.2.map I64)), (1065, .box 114 [.fn 42 [.ptr 1063 0, .ptr 1064 0, .dptr [LS 1 (LS 4 Stowed.av) p3], .dptr (Ship.cs p4), .ptr 1065 0]])]) rfl rfl (self_w y107.Box s107.1 s107.2 p3 p4 r115 hr115) tf_call_42 ⟨.inl rfl, rfl, trivial⟩ rfl ⟨rfl, rfl, rfl, rfl, rfl, trivial⟩ rfl rfl rfl) ?_ rfl rfl rfl
           refine Jn ?_
           exact ej110 _ _ (r115.1, r115.2) h ⟨⟨.same rfl, .same rfl, .same rfl, .same rfl, .same rfl, .same rfl, .same rfl, .same rfl, .same rfl, .same rfl, .same rfl, .same rfl, .same rfl, .same rfl, trivial⟩, ⟨⟨_, rfl, .map⟩, ⟨_, rfl, .vec⟩, ⟨_, rfl, .boxL rfl ⟨.same rfl, trivial⟩⟩, ⟨_, rfl, .boxL rfl ⟨.same rfl, trivial⟩⟩, ⟨_, rfl, .boxL rfl ⟨.same rfl, trivial⟩⟩, trivial⟩, rfl⟩
          ·
           replace h := bif_f hb h
           refine JC_skip ?_
           exact ej110 _ _ (s107.1, s107.2) h ⟨⟨.same rfl, .same rfl, .same rfl, .same rfl, .same rfl, .same rfl, .same rfl, .same rfl, .same rfl, .same rfl, .same rfl, .same rfl, .same rfl, .same rfl, trivial⟩, ⟨⟨_, rfl, .map⟩, ⟨_, rfl, .vec⟩, ⟨_, rfl, .boxL rfl ⟨.same rfl, trivial⟩⟩, ⟨_, rfl, .boxL rfl ⟨.same rfl, trivial⟩⟩, ⟨_, rfl, .boxL rfl ⟨.same rfl, trivial⟩⟩, trivial⟩, rfl⟩
         ·intro j110 h
          replace h := app1 hkj110 h
          refine Jr ?_
          refine Jg (u := I64 ((i107 + 1 : Nat) : Int)) (A_add (idx_succ hk107 hm74) rfl rfl rfl) ?_ rfl rfl rfl
          refine Jg (u := I64 ((i107 + 1 : Nat) : Int)) (Am rfl rfl) ?_ rfl rfl rfl
          refine Jn ?_
          exact e107 _ _ (i107 + 1) (j110.1, j110.2) (app1 hn107 h) (by omega) ⟨⟨.same rfl, .same rfl, .same rfl, .same rfl, .same rfl, .same rfl, .same rfl, .same rfl, .same rfl, .same rfl, .same rfl, .same rfl, .same rfl, .same rfl, trivial⟩, ⟨⟨_, rfl, .map⟩, ⟨_, rfl, .vec⟩, ⟨_, rfl, .boxL rfl ⟨.same rfl, trivial⟩⟩, ⟨_, rfl, .boxL rfl ⟨.same rfl, trivial⟩⟩, ⟨_, rfl, .boxL rfl ⟨.same rfl, trivial⟩⟩, trivial⟩, rfl⟩
        ·
         have h := app1 hkx107 (each_nil hi107 (not_lt_len hb))
         refine JC_exit ?_
         refine hK68 _ _ ?_
         refine Jr ?_
         refine Jg (u := I64 ((i65 + 1 : Nat) : Int)) (A_add (idx_succ hk65 hm68) rfl rfl rfl) ?_ rfl rfl rfl
         refine Jg (u := I64 ((i65 + 1 : Nat) : Int)) (Am rfl rfl) ?_ rfl rfl rfl
         refine Jn ?_
         exact e65 _ _ (i65 + 1) (s107.1, s107.2) (app1 hn65 h) (by omega) ⟨⟨.same rfl, .same rfl, .same rfl, .same rfl, .same rfl, .same rfl, .same rfl, .same rfl, .same rfl, .same rfl, .same rfl, trivial⟩, ⟨⟨_, rfl, .map⟩, ⟨_, rfl, .vec⟩, ⟨_, rfl, .boxL rfl ⟨.same rfl, trivial⟩⟩, ⟨_, rfl, .boxL rfl ⟨.same rfl, trivial⟩⟩, ⟨_, rfl, .boxL rfl ⟨.same rfl, trivial⟩⟩, trivial⟩, rfl⟩
       ·
        have h := app1 hkx65 (each_nil hi65 (not_lt_len hb))
        refine JC_exit ?_
        exact ej10 _ _ (s65.1, s65.2) h ⟨⟨.same rfl, .same rfl, .same rfl, .same rfl, .same rfl, .same rfl, .same rfl, trivial⟩, ⟨⟨_, rfl, .map⟩, ⟨_, rfl, .vec⟩, ⟨_, rfl, .boxL rfl ⟨.same rfl, trivial⟩⟩, ⟨_, rfl, .boxL rfl ⟨.same rfl, trivial⟩⟩, ⟨_, rfl, .boxL rfl ⟨.same rfl, trivial⟩⟩, trivial⟩, rfl⟩
   ·intro j10 h
    replace h := app1 hkj10 h
    refine Jr ?_
    refine Jg (u := I64 ((i7 + 1 : Nat) : Int)) (A_add (idx_succ hk7 hm27) rfl rfl rfl) ?_ rfl rfl rfl
    refine Jg (u := I64 ((i7 + 1 : Nat) : Int)) (Am rfl rfl) ?_ rfl rfl rfl
    refine Jn ?_
    exact e7 _ _ (i7 + 1) (j10.1, j10.2) (app1 hn7 h) (by omega) ⟨⟨.same rfl, .same rfl, .same rfl, .same rfl, .same rfl, .same rfl, .same rfl, trivial⟩, ⟨⟨_, rfl, .map⟩, ⟨_, rfl, .vec⟩, ⟨_, rfl, .boxL rfl ⟨.same rfl, trivial⟩⟩, ⟨_, rfl, .boxL rfl ⟨.same rfl, trivial⟩⟩, ⟨_, rfl, .boxL rfl ⟨.same rfl, trivial⟩⟩, trivial⟩, rfl⟩
  ·
   have h := app1 hkx7 (each_nil hi7 (not_lt_len hb))
   refine JC_exit ?_
   obtain rfl := Option.some.inj h
   exact ⟨[], [(1063, .box 113 [.mp 1069]), (1069, MP 113 (fun n : Int => Value.int .i64 n) (fun _ : Unit => .agg []) s7.1), (1064, .box 43 [.vec 1070 s7.2.length 1 s7.2.length]), (1070, .vec 3 1 s7.2.length (s7.2.map I64)), (1065, .box 114 [.fn 42 [.ptr 1063 0, .ptr 1064 0, .dptr [LS 1 (LS 4 Stowed.av) p3], .dptr (Ship.cs p4), .ptr 1065 0]])], ⟨⟨_, rfl, .boxL rfl ⟨.same rfl, trivial⟩⟩, ⟨_, rfl, .map⟩, ⟨_, rfl, .boxL rfl ⟨.same rfl, trivial⟩⟩, ⟨_, rfl, .vec⟩, ⟨_, rfl, .boxL rfl ⟨.same rfl, trivial⟩⟩, trivial⟩, rfl, trivial, rfl, rfl⟩
theorem M_plan_lifted_1_w : ∀ (F : Nat) (id_ : Int) (p1 : AMap Int Unit) (p2 : List Int) (p3 : List (List Stowed)) (p4 : Ship) (r : (AMap Int Unit) × (List Int)) (h : M_plan_lifted_1 F id_ p1 p2 p3 p4 = some r), ACalls Try.prog 42 [I64 id_, .ptr 1063 0, .ptr 1064 0, .dptr [LS 1 (LS 4 Stowed.av) p3], .dptr (Ship.cs p4), .ptr 1065 0] [(1063, .box 113 [.mp 1069]), (1069, MP 113 (fun n : Int => Value.int .i64 n) (fun _ : Unit => .agg []) p1), (1064, .box 43 [.vec 1070 p2.length 1 p2.length]), (1070, .vec 3 1 p2.length (p2.map I64)), (1065, .box 114 [.fn 42 [.ptr 1063 0, .ptr 1064 0, .dptr [LS 1 (LS 4 Stowed.av) p3], .dptr (Ship.cs p4), .ptr 1065 0]])] (fun av L' => av = .tup [] ∧ L' = [(1063, .box 113 [.mp 1069]), (1069, MP 113 (fun n : Int => Value.int .i64 n) (fun _ : Unit => .agg []) r.1), (1064, .box 43 [.vec 1070 r.2.length 1 r.2.length]), (1070, .vec 3 1 r.2.length (r.2.map I64)), (1065, .box 114 [.fn 42 [.ptr 1063 0, .ptr 1064 0, .dptr [LS 1 (LS 4 Stowed.av) p3], .dptr (Ship.cs p4), .ptr 1065 0]])]) := by
 intro F
 induction F with
 | zero => intro id_ p1 p2 p3 p4 r h; cases h
 | succ F ih => intro id_ p1 p2 p3 p4 r h; exact B_plan_lifted_1_w (M_plan_lifted_1 F) ih F id_ p1 p2 p3 p4 r h

def M_plan_lifted (F : Nat) (s : Ship) (before : List Stowed) (after : List Stowed) : Option (List Int) :=
 each (fun y9 i9 (s9 : (AMap Int Unit) × (List Int)) nx9 =>
  each (fun y59 i59 (s59 : (AMap Int Unit) × (List Int)) nx59 =>
   jp (fun kj62 =>
    bnd (M_plan_find before y59.Box) fun r65 =>
    bnd (M_plan_find after y59.Box) fun r67 =>
    bif ((!(r65.2 == r67.2)) || (!decide (r65.1 = r67.1))) then
    (bnd (M_plan_lifted_1 F y59.Box s59.1 s59.2 [before, after] s) fun r69 =>
     kj62 (r69.1, r69.2))
    else
    (kj62 (s59.1, s59.2))) fun (j62 : (AMap Int Unit) × (List Int)) =>
   nx59 (j62.1, j62.2))
  (fun (s59 : (AMap Int Unit) × (List Int)) =>
   nx9 (s59.1, s59.2)) y9 0 (s9.1, s9.2))
 (fun (s9 : (AMap Int Unit) × (List Int)) =>
  bnd (sortIM s9.2) fun r71 =>
  some r71) [before, after] 0 ((AMap.empty : AMap Int Unit), [])
theorem M_plan_lifted_w (F : Nat) (s : Ship) (before : List Stowed) (after : List Stowed) (r : (List Int)) (h : M_plan_lifted F s before after = some r) : Pure Try.prog 20 [.agg [LS 12 Column.av s.Columns, LS 2 Cover.av s.Covers, I64 s.Light.Kilos, I64 s.Light.X, I64 s.Light.Y, I64 s.Light.Z, LS 5 Row.av s.Rows, LS 5 Frame.av s.Frames, LS 6 Tank.av s.Tanks, I64 s.Limits.Tolerance, I64 s.Limits.Trim, I64 s.Limits.List_, I64 s.Limits.Stability], LS 4 Stowed.av before, LS 4 Stowed.av after] (· = LS 1 I64 r) := by
 unfold M_plan_lifted at h
 refine Pure_ofG [.tmp 6] Try.func20 rfl rfl ?_
 refine Js fun K1 hK1 => Jr ?_
 refine Jg (u := .ptr 1060 0) (A_box (u := .agg [LS 12 Column.av s.Columns, LS 2 Cover.av s.Covers, I64 s.Light.Kilos, I64 s.Light.X, I64 s.Light.Y, I64 s.Light.Z, LS 5 Row.av s.Rows, LS 5 Frame.av s.Frames, LS 6 Tank.av s.Tanks, I64 s.Limits.Tolerance, I64 s.Limits.Trim, I64 s.Limits.List_, I64 s.Limits.Stability]) (cs := [LS 12 Column.av s.Columns, LS 2 Cover.av s.Covers, I64 s.Light.Kilos, I64 s.Light.X, I64 s.Light.Y, I64 s.Light.Z, LS 5 Row.av s.Rows, LS 5 Frame.av s.Frames, LS 6 Tank.av s.Tanks, I64 s.Limits.Tolerance, I64 s.Limits.Trim, I64 s.Limits.List_, I64 s.Limits.Stability]) 1060 rfl rfl rfl rfl rfl) ?_ rfl rfl rfl
 refine Jg (u := LS 1 I64 ([] : List Int)) (A_nilList 1 rfl rfl) ?_ rfl rfl rfl
 refine Jn (hK1 _ _ ?_)
 refine JC_freeze [(1, LS 4 Stowed.av before), (2, LS 4 Stowed.av after), (3, .dptr [LS 12 Column.av s.Columns, LS 2 Cover.av s.Covers, I64 s.Light.Kilos, I64 s.Light.X, I64 s.Light.Y, I64 s.Light.Z, LS 5 Row.av s.Rows, LS 5 Frame.av s.Frames, LS 6 Tank.av s.Tanks, I64 s.Limits.Tolerance, I64 s.Limits.Trim, I64 s.Limits.List_, I64 s.Limits.Stability])] [] 1060 rfl rfl rfl trivial rfl (by exact ⟨.conv (.same rfl), .conv (.same rfl), .ptr, trivial⟩) ?_
 refine Js fun K2 hK2 => Jr ?_
 refine Jg (u := LS 4 Stowed.av before) (Am rfl rfl) ?_ rfl rfl rfl
 refine Jg (u := LS 4 Stowed.av after) (Am rfl rfl) ?_ rfl rfl rfl
 refine Jg (u := LS 1 (LS 4 Stowed.av) [before, after]) (A_buildSlice (xs := [LS 4 Stowed.av before, LS 4 Stowed.av after]) rfl ⟨rfl, rfl, rfl, rfl, trivial⟩ tf_slice_56 tf_zsize_40 rfl rfl rfl rfl) ?_ rfl rfl rfl
 refine Jg (u := .ptr 1062 0) (A_allocJ 1062 1 tf_zsize_56 rfl rfl) ?_ rfl rfl rfl
 refine JL_go0 (u := .junk) (A_store (u := LS 1 (LS 4 Stowed.av) [before, after]) (ds := [LS 1 (LS 4 Stowed.av) [before, after]]) tf_size_56 rfl rfl rfl rfl rfl rfl rfl rfl) ?_ rfl rfl
 refine Jn (hK2 _ _ ?_)
 refine JC_freeze [(1, LS 4 Stowed.av before), (2, LS 4 Stowed.av after), (3, .dptr [LS 12 Column.av s.Columns, LS 2 Cover.av s.Covers, I64 s.Light.Kilos, I64 s.Light.X, I64 s.Light.Y, I64 s.Light.Z, LS 5 Row.av s.Rows, LS 5 Frame.av s.Frames, LS 6 Tank.av s.Tanks, I64 s.Limits.Tolerance, I64 s.Limits.Trim, I64 s.Limits.List_, I64 s.Limits.Stability]), (7, .dptr [LS 1 (LS 4 Stowed.av) [before, after]])] [] 1062 rfl rfl rfl trivial rfl (by exact ⟨.conv (.same rfl), .conv (.same rfl), .conv (.same rfl), .ptr, trivial⟩) ?_
 refine Js fun K3 hK3 => Jr ?_
 refine Jg (u := .mp 1069) (A_makeMapM 1069 (fun n : Int => Value.int .i64 n) (fun _ : Unit => .agg []) rfl rfl) ?_ rfl rfl rfl
 refine Jg (u := .ptr 1063 0) (A_allocJ 1063 1 tf_zsize_113 rfl rfl) ?_ rfl rfl rfl
 refine JL_go0 (u := .junk) (A_store (u := .mp 1069) (ds := [.mp 1069]) tf_size_113 rfl rfl rfl rfl rfl rfl rfl rfl) ?_ rfl rfl
 refine Jn (hK3 _ _ ?_)
 refine Js fun K4 hK4 => Jr ?_
 refine Jg (u := .ptr 1064 0) (A_allocZ 1064 [.sc (.slice none 0 0)] [.slice none 0 0] tf_zero_43 ⟨.inl rfl, trivial⟩ rfl rfl) ?_ rfl rfl rfl
 refine JL_vecCell 1064 0 1070 3 1 rfl rfl rfl (cs' := [.vec 1070 (([] : List Int).length) 1 (([] : List Int).length)]) rfl ?_
 refine Jn (hK4 _ _ ?_)
 refine Js fun K5 hK5 => Jr ?_
 refine Jg (u := .ptr 1065 0) (A_allocJ 1065 1 tf_zsize_114 rfl rfl) ?_ rfl rfl rfl
 refine Jn (hK5 _ _ ?_)
 refine Js fun K6 hK6 => Jr ?_
 refine Jg (u := .fn 42 [.ptr 1063 0, .ptr 1064 0, .dptr [LS 1 (LS 4 Stowed.av) [before, after]], .dptr [LS 12 Column.av s.Columns, LS 2 Cover.av s.Covers, I64 s.Light.Kilos, I64 s.Light.X, I64 s.Light.Y, I64 s.Light.Z, LS 5 Row.av s.Rows, LS 5 Frame.av s.Frames, LS 6 Tank.av s.Tanks, I64 s.Limits.Tolerance, I64 s.Limits.Trim, I64 s.Limits.List_, I64 s.Limits.Stability], .ptr 1065 0]) (A_makeFunc (cs := [.ptr 1063 0, .ptr 1064 0, .dptr [LS 1 (LS 4 Stowed.av) [before, after]], .dptr [LS 12 Column.av s.Columns, LS 2 Cover.av s.Covers, I64 s.Light.Kilos, I64 s.Light.X, I64 s.Light.Y, I64 s.Light.Z, LS 5 Row.av s.Rows, LS 5 Frame.av s.Frames, LS 6 Tank.av s.Tanks, I64 s.Limits.Tolerance, I64 s.Limits.Trim, I64 s.Limits.List_, I64 s.Limits.Stability], .ptr 1065 0]) rfl rfl) ?_ rfl rfl rfl
 refine JL_go0 (u := .junk) (A_store (u := .fn 42 [.ptr 1063 0, .ptr 1064 0, .dptr [LS 1 (LS 4 Stowed.av) [before, after]], .dptr [LS 12 Column.av s.Columns, LS 2 Cover.av s.Covers, I64 s.Light.Kilos, I64 s.Light.X, I64 s.Light.Y, I64 s.Light.Z, LS 5 Row.av s.Rows, LS 5 Frame.av s.Frames, LS 6 Tank.av s.Tanks, I64 s.Limits.Tolerance, I64 s.Limits.Trim, I64 s.Limits.List_, I64 s.Limits.Stability], .ptr 1065 0]) (ds := [.fn 42 [.ptr 1063 0, .ptr 1064 0, .dptr [LS 1 (LS 4 Stowed.av) [before, after]], .dptr [LS 12 Column.av s.Columns, LS 2 Cover.av s.Covers, I64 s.Light.Kilos, I64 s.Light.X, I64 s.Light.Y, I64 s.Light.Z, LS 5 Row.av s.Rows, LS 5 Frame.av s.Frames, LS 6 Tank.av s.Tanks, I64 s.Limits.Tolerance, I64 s.Limits.Trim, I64 s.Limits.List_, I64 s.Limits.Stability], .ptr 1065 0]]) tf_size_114 rfl rfl rfl rfl rfl rfl rfl rfl) ?_ rfl rfl
 refine Jn (hK6 _ _ ?_)
 refine Js (fun K7 hK7 => ?_)
 refine Js fun K8 hK8 => Jr ?_
 refine Jg (u := LS 1 (LS 4 Stowed.av) [before, after]) (A_load tf_scalar_56 rfl rfl rfl) ?_ rfl rfl rfl
 refine JL_lenM (f := (LS 4 Stowed.av)) (xs := [before, after]) tf_slice_56 rfl rfl (fun hm25 => ?_) rfl rfl rfl
 refine Jg (u := I64 0) (Am rfl rfl) ?_ rfl rfl rfl
 refine Jn (hK8 _ _ ?_)
 refine JC_block ?_
 obtain ⟨b9, kx9, hb9, hkx9, h⟩ := each_in h
 refine JC_loop2 (fun i9 (s9 : (AMap Int Unit) × (List Int)) => each b9 kx9 (List.drop i9 [before, after]) i9 s9 = some r) (fun i9 s9 => [(1, LS 4 Stowed.av before), (2, LS 4 Stowed.av after), (9, .ptr 1064 0), (10, .ptr 1065 0), (24, LS 1 (LS 4 Stowed.av) [before, after]), (25, I64 ([before, after].length : Int)), (26, I64 (i9 : Int))]) (fun i9 s9 => [(1069, MP 113 (fun n : Int => Value.int .i64 n) (fun _ : Unit => .agg []) s9.1), (1070, .vec 3 1 s9.2.length (s9.2.map I64)), (1063, .box 113 [.mp 1069]), (1064, .box 43 [.vec 1070 s9.2.length 1 s9.2.length]), (1065, .box 114 [.fn 42 [.ptr 1063 0, .ptr 1064 0, .dptr [LS 1 (LS 4 Stowed.av) [before, after]], .dptr [LS 12 Column.av s.Columns, LS 2 Cover.av s.Covers, I64 s.Light.Kilos, I64 s.Light.X, I64 s.Light.Y, I64 s.Light.Z, LS 5 Row.av s.Rows, LS 5 Frame.av s.Frames, LS 6 Tank.av s.Tanks, I64 s.Limits.Tolerance, I64 s.Limits.Trim, I64 s.Limits.List_, I64 s.Limits.Stability], .ptr 1065 0]])]) (fun i9 => [before, after].length - i9) 0 ((AMap.empty : AMap Int Unit), []) h ⟨⟨.same rfl, .same rfl, .same rfl, .same rfl, .same rfl, .same rfl, .same rfl, trivial⟩, ⟨⟨_, rfl, .map⟩, ⟨_, rfl, .vec⟩, ⟨_, rfl, .boxL rfl ⟨.same rfl, trivial⟩⟩, ⟨_, rfl, .boxL rfl ⟨.same rfl, trivial⟩⟩, ⟨_, rfl, .boxL rfl ⟨.same rfl, trivial⟩⟩, trivial⟩, rfl⟩ ?_
 clear h
 intro i9 s9 hi9 K9 e9
 refine Js fun K10 hK10 => Jr ?_
 refine Jg (u := BL (decide ((i9 : Int) < ([before, after].length : Int)))) (A_lss rfl rfl rfl) ?_ rfl rfl rfl
 refine Jn (hK10 _ _ ?_)
 refine Js (fun K11 hK11 => ?_)
 refine JC_cond rfl (fun hb => ?_) (fun hb => ?_)
 ·
  have hk9 := lt_len hb
  obtain ⟨y9, nx9, hy9, hn9, h⟩ := each_out hi9 hk9
  replace h := app4 hb9 h
  refine JC_skip ?_
  refine hK11 _ _ ?_
  refine Js (fun K12 hK12 => ?_)
  refine JC_block ?_
  refine Js fun K13 hK13 => Jr ?_
  refine Jg (u := .dptr [LS 4 Stowed.av y9]) (A_indexM (f := (LS 4 Stowed.av)) (xs := [before, after]) (y := y9) rfl rfl rfl tf_slice_56 hy9 rfl) ?_ rfl rfl rfl
  refine Jg (u := LS 4 Stowed.av y9) (A_load tf_scalar_40 rfl rfl rfl) ?_ rfl rfl rfl
  refine Jg (u := LS 4 Stowed.av y9) (Aa rfl rfl) ?_ rfl rfl rfl
  refine Jn (hK13 _ _ ?_)
  refine Js fun K14 hK14 => Jr ?_
  refine Jg (u := LS 4 Stowed.av y9) (Am rfl rfl) ?_ rfl rfl rfl
  refine JL_lenM (f := Stowed.av) (xs := y9) tf_slice_40 rfl rfl (fun hm31 => ?_) rfl rfl rfl
  refine Jg (u := I64 0) (Am rfl rfl) ?_ rfl rfl rfl
  refine Jn (hK14 _ _ ?_)
  refine JC_block ?_
  obtain ⟨b59, kx59, hb59, hkx59, h⟩ := each_in h
  refine JC_loop2 (fun i59 (s59 : (AMap Int Unit) × (List Int)) => each b59 kx59 (List.drop i59 y9) i59 s59 = some r) (fun i59 s59 => [(1, LS 4 Stowed.av before), (2, LS 4 Stowed.av after), (9, .ptr 1064 0), (10, .ptr 1065 0), (24, LS 1 (LS 4 Stowed.av) [before, after]), (25, I64 ([before, after].length : Int)), (26, I64 (i9 : Int)), (30, LS 4 Stowed.av y9), (31, I64 (y9.length : Int)), (32, I64 (i59 : Int))]) (fun i59 s59 => [(1069, MP 113 (fun n : Int => Value.int .i64 n) (fun _ : Unit => .agg []) s59.1), (1070, .vec 3 1 s59.2.length (s59.2.map I64)), (1063, .box 113 [.mp 1069]), (1064, .box 43 [.vec 1070 s59.2.length 1 s59.2.length]), (1065, .box 114 [.fn 42 [.ptr 1063 0, .ptr 1064 0, .dptr [LS 1 (LS 4 Stowed.av) [before, after]], .dptr [LS 12 Column.av s.Columns, LS 2 Cover.av s.Covers, I64 s.Light.Kilos, I64 s.Light.X, I64 s.Light.Y, I64 s.Light.Z, LS 5 Row.av s.Rows, LS 5 Frame.av s.Frames, LS 6 Tank.av s.Tanks, I64 s.Limits.Tolerance, I64 s.Limits.Trim, I64 s.Limits.List_, I64 s.Limits.Stability], .ptr 1065 0]])]) (fun i59 => y9.length - i59) 0 (s9.1, s9.2) h ⟨⟨.same rfl, .same rfl, .same rfl, .same rfl, .same rfl, .same rfl, .same rfl, .same rfl, .same rfl, .same rfl, trivial⟩, ⟨⟨_, rfl, .map⟩, ⟨_, rfl, .vec⟩, ⟨_, rfl, .boxL rfl ⟨.same rfl, trivial⟩⟩, ⟨_, rfl, .boxL rfl ⟨.same rfl, trivial⟩⟩, ⟨_, rfl, .boxL rfl ⟨.same rfl, trivial⟩⟩, trivial⟩, rfl⟩ ?_
  clear h
  intro i59 s59 hi59 K59 e59
  refine Js fun K60 hK60 => Jr ?_
  refine Jg (u := BL (decide ((i59 : Int) < (y9.length : Int)))) (A_lss rfl rfl rfl) ?_ rfl rfl rfl
  refine Jn (hK60 _ _ ?_)
  refine Js (fun K61 hK61 => ?_)
  refine JC_cond rfl (fun hb => ?_) (fun hb => ?_)
  ·
   have hk59 := lt_len hb
   obtain ⟨y59, nx59, hy59, hn59, h⟩ := each_out hi59 hk59
   replace h := app4 hb59 h
   refine JC_skip ?_
   refine hK61 _ _ ?_
   obtain ⟨kj62, hkj62, h⟩ := jp_out h
   refine JC_seqJ (fun j62 : (AMap Int Unit) × (List Int) => kj62 j62 = some r) (fun j62 => [(1, LS 4 Stowed.av before), (2, LS 4 Stowed.av after), (9, .ptr 1064 0), (10, .ptr 1065 0), (24, LS 1 (LS 4 Stowed.av) [before, after]), (25, I64 ([before, after].length : Int)), (26, I64 (i9 : Int)), (30, LS 4 Stowed.av y9), (31, I64 (y9.length : Int)), (32, I64 (i59 : Int))]) (fun j62 => [(1069, MP 113 (fun n : Int => Value.int .i64 n) (fun _ : Unit => .agg []) j62.1), (1070, .vec 3 1 j62.2.length (j62.2.map I64)), (1063, .box 113 [.mp 1069]), (1064, .box 43 [.vec 1070 j62.2.length 1 j62.2.length]), (1065, .box 114 [.fn 42 [.ptr 1063 0, .ptr 1064 0, .dptr [LS 1 (LS 4 Stowed.av) [before, after]], .dptr [LS 12 Column.av s.Columns, LS 2 Cover.av s.Covers, I64 s.Light.Kilos, I64 s.Light.X, I64 s.Light.Y, I64 s.Light.Z, LS 5 Row.av s.Rows, LS 5 Frame.av s.Frames, LS 6 Tank.av s.Tanks, I64 s.Limits.Tolerance, I64 s.Limits.Trim, I64 s.Limits.List_, I64 s.Limits.Stability], .ptr 1065 0]])]) (fun Kj62 ej62 => ?_) ?_
   ·
    refine JC_block ?_
    refine Js fun K63 hK63 => Jr ?_
    refine Jg (u := .dptr (Stowed.cs y59)) (A_indexM (f := Stowed.av) (xs := y9) (y := y59) rfl rfl rfl tf_slice_40 hy59 rfl) ?_ rfl rfl rfl
    refine Jg (u := .agg (Stowed.cs y59)) (A_loadAgg tf_agg_82 rfl rfl rfl) ?_ rfl rfl rfl
    refine Jg (u := .ptr 1066 0) (A_allocJ 1066 4 tf_zsize_82 rfl rfl) ?_ rfl rfl rfl
    refine JL_go0 (u := .junk) (A_store (u := .agg (Stowed.cs y59)) (ds := [I64 y59.Box, I64 y59.Slot.Column, I64 y59.Slot.Tier, U8 y59.Slot.Half]) tf_size_82 rfl rfl rfl rfl rfl rfl rfl rfl) ?_ rfl rfl
    refine Jn (hK63 _ _ ?_)
    refine JC_freeze [(1, LS 4 Stowed.av before), (2, LS 4 Stowed.av after), (9, .ptr 1064 0), (10, .ptr 1065 0), (14, .dptr (Stowed.cs y59)), (24, LS 1 (LS 4 Stowed.av) [before, after]), (25, I64 ([before, after].length : Int)), (26, I64 (i9 : Int)), (30, LS 4 Stowed.av y9), (31, I64 (y9.length : Int)), (32, I64 (i59 : Int))] [(1069, MP 113 (fun n : Int => Value.int .i64 n) (fun _ : Unit => .agg []) s59.1), (1070, .vec 3 1 s59.2.length (s59.2.map I64)), (1063, .box 113 [.mp 1069]), (1064, .box 43 [.vec 1070 s59.2.length 1 s59.2.length]), (1065, .box 114 [.fn 42 [.ptr 1063 0, .ptr 1064 0, .dptr [LS 1 (LS 4 Stowed.av) [before, after]], .dptr [LS 12 Column.av s.Columns, LS 2 Cover.av s.Covers, I64 s.Light.Kilos, I64 s.Light.X, I64 s.Light.Y, I64 s.Light.Z, LS 5 Row.av s.Rows, LS 5 Frame.av s.Frames, LS 6 Tank.av s.Tanks, I64 s.Limits.Tolerance, I64 s.Limits.Trim, I64 s.Limits.List_, I64 s.Limits.Stability], .ptr 1065 0]])] 1066 rfl rfl rfl ⟨⟨_, rfl, .map⟩, ⟨_, rfl, .vec⟩, ⟨_, rfl, .boxEq rfl rfl⟩, ⟨_, rfl, .boxEq rfl rfl⟩, ⟨_, rfl, .boxEq rfl rfl⟩, trivial⟩ rfl (by exact ⟨.conv (.same rfl), .conv (.same rfl), .conv (.same rfl), .conv (.same rfl), .ptr, .conv (.same rfl), .conv (.same rfl), .conv (.same rfl), .conv (.same rfl), .conv (.same rfl), .conv (.same rfl), trivial⟩) ?_
    refine Js fun K64 hK64 => Jr ?_
    refine Jg (u := LS 4 Stowed.av before) (Am rfl rfl) ?_ rfl rfl rfl
    refine Jg (u := .dptr (Stowed.cs y59)) (A_fieldM tf_field_82_0 rfl rfl rfl) ?_ rfl rfl rfl
    refine Jg (u := I64 y59.Box) (A_load tf_scalar_3 rfl rfl rfl) ?_ rfl rfl rfl
    obtain ⟨r65, hr65, h⟩ := bnd_out h
    refine Jg (u := .tup [.agg (Slot.cs r65.1), BL r65.2]) (A_call1 (args := [LS 4 Stowed.av before, I64 y59.Box]) rfl (M_plan_find_w before y59.Box r65 hr65) tf_call_31 ⟨rfl, rfl, rfl, rfl, trivial⟩) ?_ rfl rfl rfl
    refine Jg (u := .tup [.agg (Slot.cs r65.1), BL r65.2]) (Am rfl rfl) ?_ rfl rfl rfl
    refine Jg (u := .agg (Slot.cs r65.1)) (A_extract rfl rfl rfl) ?_ rfl rfl rfl
    refine Jg (u := BL r65.2) (A_extract rfl rfl rfl) ?_ rfl rfl rfl
    refine Jg (u := .ptr 1067 0) (A_allocJ 1067 3 tf_zsize_80 rfl rfl) ?_ rfl rfl rfl
    refine JL_go0 (u := .junk) (A_store (u := .agg (Slot.cs r65.1)) (ds := [I64 r65.1.Column, I64 r65.1.Tier, U8 r65.1.Half]) tf_size_80 rfl rfl rfl rfl rfl rfl rfl rfl) ?_ rfl rfl
    refine Jg (u := BL r65.2) (Aa rfl rfl) ?_ rfl rfl rfl
    refine Jn (hK64 _ _ ?_)
    refine JC_freeze [(1, LS 4 Stowed.av before), (2, LS 4 Stowed.av after), (9, .ptr 1064 0), (10, .ptr 1065 0), (14, .dptr (Stowed.cs y59)), (15, .dptr (Slot.cs r65.1)), (16, BL r65.2), (24, LS 1 (LS 4 Stowed.av) [before, after]), (25, I64 ([before, after].length : Int)), (26, I64 (i9 : Int)), (30, LS 4 Stowed.av y9), (31, I64 (y9.length : Int)), (32, I64 (i59 : Int))] [(1069, MP 113 (fun n : Int => Value.int .i64 n) (fun _ : Unit => .agg []) s59.1), (1070, .vec 3 1 s59.2.length (s59.2.map I64)), (1063, .box 113 [.mp 1069]), (1064, .box 43 [.vec 1070 s59.2.length 1 s59.2.length]), (1065, .box 114 [.fn 42 [.ptr 1063 0, .ptr 1064 0, .dptr [LS 1 (LS 4 Stowed.av) [before, after]], .dptr [LS 12 Column.av s.Columns, LS 2 Cover.av s.Covers, I64 s.Light.Kilos, I64 s.Light.X, I64 s.Light.Y, I64 s.Light.Z, LS 5 Row.av s.Rows, LS 5 Frame.av s.Frames, LS 6 Tank.av s.Tanks, I64 s.Limits.Tolerance, I64 s.Limits.Trim, I64 s.Limits.List_, I64 s.Limits.Stability], .ptr 1065 0]])] 1067 rfl rfl rfl ⟨⟨_, rfl, .map⟩, ⟨_, rfl, .vec⟩, ⟨_, rfl, .boxEq rfl rfl⟩, ⟨_, rfl, .boxEq rfl rfl⟩, ⟨_, rfl, .boxEq rfl rfl⟩, trivial⟩ rfl (by exact ⟨.conv (.same rfl), .conv (.same rfl), .conv (.same rfl), .conv (.same rfl), .conv (.same rfl), .ptr, .conv (.same rfl), .conv (.same rfl), .conv (.same rfl), .conv (.same rfl), .conv (.same rfl), .conv (.same rfl), .conv (.same rfl), trivial⟩) ?_
    refine Js fun K66 hK66 => Jr ?_
    refine Jg (u := LS 4 Stowed.av after) (Am rfl rfl) ?_ rfl rfl rfl
    refine Jg (u := .dptr (Stowed.cs y59)) (A_fieldM tf_field_82_0 rfl rfl rfl) ?_ rfl rfl rfl
    refine Jg (u := I64 y59.Box) (A_load tf_scalar_3 rfl rfl rfl) ?_ rfl rfl rfl
    obtain ⟨r67, hr67, h⟩ := bnd_out h
    refine Jg (u := .tup [.agg (Slot.cs r67.1), BL r67.2]) (A_call1 (args := [LS 4 Stowed.av after, I64 y59.Box]) rfl (M_plan_find_w after y59.Box r67 hr67) tf_call_31 ⟨rfl, rfl, rfl, rfl, trivial⟩) ?_ rfl rfl rfl
    refine Jg (u := .tup [.agg (Slot.cs r67.1), BL r67.2]) (Am rfl rfl) ?_ rfl rfl rfl
    refine Jg (u := .agg (Slot.cs r67.1)) (A_extract rfl rfl rfl) ?_ rfl rfl rfl
    refine Jg (u := BL r67.2) (A_extract rfl rfl rfl) ?_ rfl rfl rfl
    refine Jg (u := .ptr 1068 0) (A_allocJ 1068 3 tf_zsize_80 rfl rfl) ?_ rfl rfl rfl
    refine JL_go0 (u := .junk) (A_store (u := .agg (Slot.cs r67.1)) (ds := [I64 r67.1.Column, I64 r67.1.Tier, U8 r67.1.Half]) tf_size_80 rfl rfl rfl rfl rfl rfl rfl rfl) ?_ rfl rfl
    refine Jg (u := BL r67.2) (Aa rfl rfl) ?_ rfl rfl rfl
    refine Jn (hK66 _ _ ?_)
    refine JC_freeze [(1, LS 4 Stowed.av before), (2, LS 4 Stowed.av after), (9, .ptr 1064 0), (10, .ptr 1065 0), (14, .dptr (Stowed.cs y59)), (15, .dptr (Slot.cs r65.1)), (16, BL r65.2), (17, .dptr (Slot.cs r67.1)), (18, BL r67.2), (24, LS 1 (LS 4 Stowed.av) [before, after]), (25, I64 ([before, after].length : Int)), (26, I64 (i9 : Int)), (30, LS 4 Stowed.av y9), (31, I64 (y9.length : Int)), (32, I64 (i59 : Int))] [(1069, MP 113 (fun n : Int => Value.int .i64 n) (fun _ : Unit => .agg []) s59.1), (1070, .vec 3 1 s59.2.length (s59.2.map I64)), (1063, .box 113 [.mp 1069]), (1064, .box 43 [.vec 1070 s59.2.length 1 s59.2.length]), (1065, .box 114 [.fn 42 [.ptr 1063 0, .ptr 1064 0, .dptr [LS 1 (LS 4 Stowed.av) [before, after]], .dptr [LS 12 Column.av s.Columns, LS 2 Cover.av s.Covers, I64 s.Light.Kilos, I64 s.Light.X, I64 s.Light.Y, I64 s.Light.Z, LS 5 Row.av s.Rows, LS 5 Frame.av s.Frames, LS 6 Tank.av s.Tanks, I64 s.Limits.Tolerance, I64 s.Limits.Trim, I64 s.Limits.List_, I64 s.Limits.Stability], .ptr 1065 0]])] 1068 rfl rfl rfl ⟨⟨_, rfl, .map⟩, ⟨_, rfl, .vec⟩, ⟨_, rfl, .boxEq rfl rfl⟩, ⟨_, rfl, .boxEq rfl rfl⟩, ⟨_, rfl, .boxEq rfl rfl⟩, trivial⟩ rfl (by exact ⟨.conv (.same rfl), .conv (.same rfl), .conv (.same rfl), .conv (.same rfl), .conv (.same rfl), .conv (.same rfl), .conv (.same rfl), .ptr, .conv (.same rfl), .conv (.same rfl), .conv (.same rfl), .conv (.same rfl), .conv (.same rfl), .conv (.same rfl), .conv (.same rfl), trivial⟩) ?_
    refine Js fun K68 hK68 => Jr ?_
    refine Jg (u := BL r65.2) (Am rfl rfl) ?_ rfl rfl rfl
    refine Jg (u := BL r67.2) (Am rfl rfl) ?_ rfl rfl rfl
    refine Jg (u := BL (!(r65.2 == r67.2))) (A_neBool tf_bool_4 rfl rfl rfl) ?_ rfl rfl rfl
    refine Jg (u := BL (!(r65.2 == r67.2))) (Am rfl rfl) ?_ rfl rfl rfl
    refine JL_opt (u := .agg (Slot.cs r65.1)) [] rfl rfl rfl .scf trivial (fun hc => A_loadAgg tf_agg_80 rfl rfl rfl) ?_ rfl rfl rfl
    refine JL_opt (u := .agg (Slot.cs r67.1)) [] rfl rfl rfl .scf trivial (fun hc => A_loadAgg tf_agg_80 rfl rfl rfl) ?_ rfl rfl rfl
    refine JL_opt (u := BL (!decide (r65.1 = r67.1))) [(54, .agg (Slot.cs r65.1)), (55, .agg (Slot.cs r67.1))] rfl rfl rfl .scf ⟨.all id, .all id, trivial⟩ (fun hc => A_neAgg (vs := [.int .i64 r65.1.Column, .int .i64 r65.1.Tier, .int .u8 r65.1.Half]) (us := [.int .i64 r67.1.Column, .int .i64 r67.1.Tier, .int .u8 r67.1.Half]) 4 rfl (tq_80 r65.1 r67.1) tf_aggof_80 tf_eqg_80 rfl rfl rfl) ?_ rfl rfl rfl
    refine Jg (u := BL ((!(r65.2 == r67.2)) || (!decide (r65.1 = r67.1)))) (A_or rfl rfl rfl rfl) ?_ rfl rfl rfl
    refine Jn (hK68 _ _ ?_)
    refine JC_cond rfl (fun hb => ?_) (fun hb => ?_)
    ·
     replace h := bif_t hb h
     refine Jr ?_
     refine Jg (u := .fn 42 [.ptr 1063 0, .ptr 1064 0, .dptr [LS 1 (LS 4 Stowed.av) [before, after]], .dptr [LS 12 Column.av s.Columns, LS 2 Cover.av s.Covers, I64 s.Light.Kilos, I64 s.Light.X, I64 s.Light.Y, I64 s.Light.Z, LS 5 Row.av s.Rows, LS 5 Frame.av s.Frames, LS 6 Tank.av s.Tanks, I64 s.Limits.Tolerance, I64 s.Limits.Trim, I64 s.Limits.List_, I64 s.Limits.Stability], .ptr 1065 0]) (A_loadL tf_scalar_114 rfl rfl rfl rfl) ?_ rfl rfl rfl
     refine Jg (u := .dptr (Stowed.cs y59)) (A_fieldM tf_field_82_0 rfl rfl rfl) ?_ rfl rfl rfl
     refine Jg (u := I64 y59.Box) (A_load tf_scalar_3 rfl rfl rfl) ?_ rfl rfl rfl
     obtain ⟨r69, hr69, h⟩ := bnd_out h
     refine Jg (u := .tup []) (A_callVL (args := [I64 y59.Box]) (caps := [.ptr 1063 0, .ptr 1064 0, .dptr [LS 1 (LS 4 Stowed.av) [before, after]], .dptr [LS 12 Column.av s.Columns, LS 2 Cover.av s.Covers, I64 s.Light.Kilos, I64 s.Light.X, I64 s.Light.Y, I64 s.Light.Z, LS 5 Row.av s.Rows, LS 5 Frame.av s.Frames, LS 6 Tank.av s.Tanks, I64 s.Limits.Tolerance, I64 s.Limits.Trim, I64 s.Limits.List_, I64 s.Limits.Stability], .ptr 1065 0]) (L0 := [(1063, .box 113 [.mp 1069]), (1069, MP 113 (fun n : Int => Value.int .i64 n) (fun _ : Unit => .agg []) s59.1), (1064, .box 43 [.vec 1070 s59.2.length 1 s59.2.length]), (1070, .vec 3 1 s59.2.length (s59.2.map I64)), (1065, .box 114 [.fn 42 [.ptr 1063 0, .ptr 1064 0, .dptr [LS 1 (LS 4 Stowed.av) [before, after]], .dptr [LS 12 Column.av s.Columns, LS 2 Cover.av s.Covers, I64 s.Light.Kilos, I64 s.Light.X, I64 s.Light.Y, I64 s.Light.Z, LS 5 Row.av s.Rows, LS 5 Frame.av s.Frames, LS 6 Tank.av s.Tanks, I64 s.Limits.Tolerance, I64 s.Limits.Trim, I64 s.Limits.List_, I64 s.Limits.Stability], .ptr 1065 0]])]) (Lr := [(1063, .box 113 [.mp 1069]), (1069, MP 113 (fun n : Int => Value.int .i64 n) (fun _ : Unit => .agg []) r69.1), (1064, .box 43 [.vec 1070 r69.2.length 1 r69.2.length]), (1070, .vec 3 1 r69.2.length (r69.2.map I64)), (1065, .box 114 [.fn 42 [.ptr 1063 0, .ptr 1064 0, .dptr [LS 1 (LS 4 Stowed.av) [before, after]], .dptr [LS 12 Column.av s.Columns, LS 2 Cover.av s.Covers, I64 s.Light.Kilos, I64 s.Light.X, I64 s.Light.Y, I64 s.Light.Z, LS 5 Row.av s.Rows, LS 5 Frame.av s.Frames, LS 6 Tank.av s.Tanks, I64 s.Limits.Tolerance, I64 s.Limits.Trim, I64 s.Limits.List_, I64 s.Limits.Stability], .ptr 1065 0]])]) rfl rfl (M_plan_lifted_1_w F y59.Box s59.1 s59.2 [before, after] s r69 hr69) tf_call_42 ⟨.inl rfl, rfl, trivial⟩ rfl ⟨rfl, rfl, rfl, rfl, rfl, trivial⟩ rfl rfl rfl) ?_ rfl rfl rfl
     refine Jn ?_
     exact ej62 _ _ (r69.1, r69.2) h ⟨⟨.same rfl, .same rfl, .same rfl, .same rfl, .same rfl, .same rfl, .same rfl, .same rfl, .same rfl, .same rfl, trivial⟩, ⟨⟨_, rfl, .map⟩, ⟨_, rfl, .vec⟩, ⟨_, rfl, .boxL rfl ⟨.same rfl, trivial⟩⟩, ⟨_, rfl, .boxL rfl ⟨.same rfl, trivial⟩⟩, ⟨_, rfl, .boxL rfl ⟨.same rfl, trivial⟩⟩, trivial⟩, rfl⟩
    ·
     replace h := bif_f hb h
     refine JC_skip ?_
     exact ej62 _ _ (s59.1, s59.2) h ⟨⟨.same rfl, .same rfl, .same rfl, .same rfl, .same rfl, .same rfl, .same rfl, .same rfl, .same rfl, .same rfl, trivial⟩, ⟨⟨_, rfl, .map⟩, ⟨_, rfl, .vec⟩, ⟨_, rfl, .boxL rfl ⟨.same rfl, trivial⟩⟩, ⟨_, rfl, .boxL rfl ⟨.same rfl, trivial⟩⟩, ⟨_, rfl, .boxL rfl ⟨.same rfl, trivial⟩⟩, trivial⟩, rfl⟩
   ·intro j62 h
    replace h := app1 hkj62 h
    refine Jr ?_
    refine Jg (u := I64 ((i59 + 1 : Nat) : Int)) (A_add (idx_succ hk59 hm31) rfl rfl rfl) ?_ rfl rfl rfl
    refine Jg (u := I64 ((i59 + 1 : Nat) : Int)) (Am rfl rfl) ?_ rfl rfl rfl
    refine Jn ?_
    exact e59 _ _ (i59 + 1) (j62.1, j62.2) (app1 hn59 h) (by omega) ⟨⟨.same rfl, .same rfl, .same rfl, .same rfl, .same rfl, .same rfl, .same rfl, .same rfl, .same rfl, .same rfl, trivial⟩, ⟨⟨_, rfl, .map⟩, ⟨_, rfl, .vec⟩, ⟨_, rfl, .boxL rfl ⟨.same rfl, trivial⟩⟩, ⟨_, rfl, .boxL rfl ⟨.same rfl, trivial⟩⟩, ⟨_, rfl, .boxL rfl ⟨.same rfl, trivial⟩⟩, trivial⟩, rfl⟩
  ·
   have h := app1 hkx59 (each_nil hi59 (not_lt_len hb))
   refine JC_exit ?_
   refine hK12 _ _ ?_
   refine Jr ?_
   refine Jg (u := I64 ((i9 + 1 : Nat) : Int)) (A_add (idx_succ hk9 hm25) rfl rfl rfl) ?_ rfl rfl rfl
   refine Jg (u := I64 ((i9 + 1 : Nat) : Int)) (Am rfl rfl) ?_ rfl rfl rfl
   refine Jn ?_
   exact e9 _ _ (i9 + 1) (s59.1, s59.2) (app1 hn9 h) (by omega) ⟨⟨.same rfl, .same rfl, .same rfl, .same rfl, .same rfl, .same rfl, .same rfl, trivial⟩, ⟨⟨_, rfl, .map⟩, ⟨_, rfl, .vec⟩, ⟨_, rfl, .boxL rfl ⟨.same rfl, trivial⟩⟩, ⟨_, rfl, .boxL rfl ⟨.same rfl, trivial⟩⟩, ⟨_, rfl, .boxL rfl ⟨.same rfl, trivial⟩⟩, trivial⟩, rfl⟩
 ·
  have h := app1 hkx9 (each_nil hi9 (not_lt_len hb))
  refine JC_exit ?_
  refine hK7 _ _ ?_
  refine Js fun K70 hK70 => Jr ?_
  refine Jg (u := .vec 1070 s9.2.length 1 s9.2.length) (A_loadL tf_scalar_43 rfl rfl rfl rfl) ?_ rfl rfl rfl
  obtain ⟨r71, hr71, h⟩ := bnd_out h
  refine Jg (u := .tup []) (A_sortI (F := 45) (xs := s9.2) (r := r71) rfl sortILaw_45 sortINone_45 tf_call_45 rfl rfl rfl hr71 rfl) ?_ rfl rfl rfl
  refine Jn (hK70 _ _ ?_)
  refine Js fun K72 hK72 => Jr ?_
  refine Jg (u := .vec 1070 s9.2.length 1 s9.2.length) (A_loadL tf_scalar_43 rfl rfl rfl rfl) ?_ rfl rfl rfl
  refine Jg (u := .vec 1070 s9.2.length 1 s9.2.length) (Aa rfl rfl) ?_ rfl rfl rfl
  refine Jn (hK72 _ _ ?_)
  refine JC_vfreeze [(6, LS 1 I64 r71)] [] 1070 rfl rfl trivial rfl (by exact ⟨.vec, trivial⟩) ?_
  refine JC_ret ?_
  exact ⟨[LS 1 I64 r71], [], trivial, rfl, ⟨⟨_, rfl, .conv (.same rfl)⟩, trivial⟩, rfl, congrArg (fun r : (List Int) => (LS 1 I64 r : AV)) (Option.some.inj h)⟩

def M_plan_Restows_1 (id_ : Int) (p1 : List Stowed) (p2 : List Stowed) : Option Bool :=
 bnd (M_plan_find p1 id_) fun r3 =>
 bnd (M_plan_find p2 id_) fun r5 =>
 some ((!r3.2) || (!r5.2))
theorem M_plan_Restows_1_w (id_ : Int) (p1 : List Stowed) (p2 : List Stowed) (r : Bool) (h : M_plan_Restows_1 id_ p1 p2 = some r) : Pure Try.prog 30 [I64 id_, .dptr [LS 4 Stowed.av p1], .dptr [LS 4 Stowed.av p2]] (· = BL r) := by
 unfold M_plan_Restows_1 at h
 refine Pure_ofG [.tmp 4] Try.func30 rfl rfl ?_
 refine Js fun K1 hK1 => Jr ?_
 refine Jg (u := BL false) (Aa rfl rfl) ?_ rfl rfl rfl
 refine Jn (hK1 _ _ ?_)
 refine Js fun K2 hK2 => Jr ?_
 refine Jg (u := LS 4 Stowed.av p1) (A_load tf_scalar_40 rfl rfl rfl) ?_ rfl rfl rfl
 refine Jg (u := I64 id_) (Am rfl rfl) ?_ rfl rfl rfl
 obtain ⟨r3, hr3, h⟩ := bnd_out h
 refine Jg (u := .tup [.agg (Slot.cs r3.1), BL r3.2]) (A_call1 (args := [LS 4 Stowed.av p1, I64 id_]) rfl (M_plan_find_w p1 id_ r3 hr3) tf_call_31 ⟨rfl, rfl, rfl, rfl, trivial⟩) ?_ rfl rfl rfl
 refine Jg (u := .tup [.agg (Slot.cs r3.1), BL r3.2]) (Am rfl rfl) ?_ rfl rfl rfl
 refine Jg (u := .agg (Slot.cs r3.1)) (A_extract rfl rfl rfl) ?_ rfl rfl rfl
 refine Jg (u := BL r3.2) (A_extract rfl rfl rfl) ?_ rfl rfl rfl
 refine Jg (u := .ptr 1094 0) (A_allocJ 1094 3 tf_zsize_80 rfl rfl) ?_ rfl rfl rfl
 refine JL_go0 (u := .junk) (A_store (u := .agg (Slot.cs r3.1)) (ds := [I64 r3.1.Column, I64 r3.1.Tier, U8 r3.1.Half]) tf_size_80 rfl rfl rfl rfl rfl rfl rfl rfl) ?_ rfl rfl
 refine Jg (u := BL r3.2) (Aa rfl rfl) ?_ rfl rfl rfl
 refine Jn (hK2 _ _ ?_)
 refine JC_freeze [(0, I64 id_), (2, .dptr [LS 4 Stowed.av p2]), (6, BL r3.2)] [] 1094 rfl rfl rfl trivial rfl (by exact ⟨.conv (.same rfl), .conv (.same rfl), .conv (.same rfl), trivial⟩) ?_
 refine Js fun K4 hK4 => Jr ?_
 refine Jg (u := LS 4 Stowed.av p2) (A_load tf_scalar_40 rfl rfl rfl) ?_ rfl rfl rfl
 refine Jg (u := I64 id_) (Am rfl rfl) ?_ rfl rfl rfl
 obtain ⟨r5, hr5, h⟩ := bnd_out h
 refine Jg (u := .tup [.agg (Slot.cs r5.1), BL r5.2]) (A_call1 (args := [LS 4 Stowed.av p2, I64 id_]) rfl (M_plan_find_w p2 id_ r5 hr5) tf_call_31 ⟨rfl, rfl, rfl, rfl, trivial⟩) ?_ rfl rfl rfl
 refine Jg (u := .tup [.agg (Slot.cs r5.1), BL r5.2]) (Am rfl rfl) ?_ rfl rfl rfl
 refine Jg (u := .agg (Slot.cs r5.1)) (A_extract rfl rfl rfl) ?_ rfl rfl rfl
 refine Jg (u := BL r5.2) (A_extract rfl rfl rfl) ?_ rfl rfl rfl
 refine Jg (u := .ptr 1095 0) (A_allocJ 1095 3 tf_zsize_80 rfl rfl) ?_ rfl rfl rfl
 refine JL_go0 (u := .junk) (A_store (u := .agg (Slot.cs r5.1)) (ds := [I64 r5.1.Column, I64 r5.1.Tier, U8 r5.1.Half]) tf_size_80 rfl rfl rfl rfl rfl rfl rfl rfl) ?_ rfl rfl
 refine Jg (u := BL r5.2) (Aa rfl rfl) ?_ rfl rfl rfl
 refine Jn (hK4 _ _ ?_)
 refine JC_freeze [(6, BL r3.2), (8, BL r5.2)] [] 1095 rfl rfl rfl trivial rfl (by exact ⟨.conv (.same rfl), .conv (.same rfl), trivial⟩) ?_
 refine Js fun K6 hK6 => Jr ?_
 refine Jg (u := BL r3.2) (Am rfl rfl) ?_ rfl rfl rfl
 refine Jg (u := BL (!r3.2)) (A_not (b := r3.2) rfl rfl) ?_ rfl rfl rfl
 refine Jg (u := BL (!r3.2)) (Am rfl rfl) ?_ rfl rfl rfl
 refine JL_opt (u := BL r5.2) [] rfl rfl rfl .scf trivial (fun hc => Am rfl rfl) ?_ rfl rfl rfl
 refine JL_opt (u := BL (!r5.2)) [(24, BL r5.2)] rfl rfl rfl .scf ⟨.all id, trivial⟩ (fun hc => A_not (b := r5.2) rfl rfl) ?_ rfl rfl rfl
 refine Jg (u := BL ((!r3.2) || (!r5.2))) (A_or rfl rfl rfl rfl) ?_ rfl rfl rfl
 refine Jg (u := BL ((!r3.2) || (!r5.2))) (Aa rfl rfl) ?_ rfl rfl rfl
 refine Jn (hK6 _ _ ?_)
 refine JC_ret ?_
 exact ⟨[BL ((!r3.2) || (!r5.2))], [], trivial, rfl, ⟨⟨_, rfl, .conv (.same rfl)⟩, trivial⟩, rfl, congrArg (fun r : Bool => (BL r : AV)) (Option.some.inj h)⟩

def M_slices_IndexFunc_int (s : List Int) (f : Int → Option Bool) : Option Int :=
 each (fun y20 i20 (s20 : Unit) nx20 =>
  bnd (f y20) fun r26 =>
  bif r26 then
  (some (i20 : Int))
  else
  (nx20 ()))
 (fun (s20 : Unit) =>
  some (-1)) s 0 ()
theorem M_slices_IndexFunc_int_w (s : List Int) (f : Int → Option Bool) (f_f : FuncId) (f_c : List AV) (f_B : callB Try.prog f_f = true) (f_d : refsL (fun _ => false) f_c = true) (f_w : ∀ a0 q, f a0 = some q → Pure Try.prog f_f ([I64 a0] ++ f_c) (· = BL q)) (r : Int) (h : M_slices_IndexFunc_int s f = some r) : Pure Try.prog 52 [LS 1 I64 s, .fn f_f f_c] (· = I64 r) := by
 unfold M_slices_IndexFunc_int at h
 refine Pure_ofG [.tmp 4] Try.func52 rfl rfl ?_
 refine Js fun K1 hK1 => Jr ?_
 refine Jg (u := I64 0) (Aa rfl rfl) ?_ rfl rfl rfl
 refine Jn (hK1 _ _ ?_)
 refine Js (fun K2 hK2 => ?_)
 refine Js fun K3 hK3 => Jr ?_
 refine Jg (u := LS 1 I64 s) (Am rfl rfl) ?_ rfl rfl rfl
 refine JL_lenM (f := I64) (xs := s) tf_slice_43 rfl rfl (fun hm7 => ?_) rfl rfl rfl
 refine Jg (u := I64 0) (Am rfl rfl) ?_ rfl rfl rfl
 refine Jn (hK3 _ _ ?_)
 refine JC_block ?_
 obtain ⟨b20, kx20, hb20, hkx20, h⟩ := each_in h
 refine JC_loop2 (fun i20 (s20 : Unit) => each b20 kx20 (List.drop i20 s) i20 s20 = some r) (fun i20 s20 => [(0, LS 1 I64 s), (1, .fn f_f f_c), (7, I64 (s.length : Int)), (8, I64 (i20 : Int))]) (fun i20 s20 => []) (fun i20 => s.length - i20) 0 () h ⟨⟨.same rfl, .same (refsL_any _ _ f_d), .same rfl, .same rfl, trivial⟩, trivial, rfl⟩ ?_
 clear h
 intro i20 s20 hi20 K20 e20
 refine Js fun K21 hK21 => Jr ?_
 refine Jg (u := BL (decide ((i20 : Int) < (s.length : Int)))) (A_lss rfl rfl rfl) ?_ rfl rfl rfl
 refine Jn (hK21 _ _ ?_)
 refine Js (fun K22 hK22 => ?_)
 refine JC_cond rfl (fun hb => ?_) (fun hb => ?_)
 ·
  have hk20 := lt_len hb
  obtain ⟨y20, nx20, hy20, hn20, h⟩ := each_out hi20 hk20
  replace h := app4 hb20 h
  refine JC_skip ?_
  refine hK22 _ _ ?_
  refine Js (fun K23 hK23 => ?_)
  refine JC_block ?_
  refine Js fun K24 hK24 => Jr ?_
  refine Jg (u := I64 (i20 : Int)) (Am rfl rfl) ?_ rfl rfl rfl
  refine Jg (u := I64 (i20 : Int)) (Aa rfl rfl) ?_ rfl rfl rfl
  refine Jn (hK24 _ _ ?_)
  refine Js fun K25 hK25 => Jr ?_
  refine Jg (u := .fn f_f f_c) (Am rfl rfl) ?_ rfl rfl rfl
  refine Jg (u := LS 1 I64 s) (Am rfl rfl) ?_ rfl rfl rfl
  refine Jg (u := I64 (i20 : Int)) (Am rfl rfl) ?_ rfl rfl rfl
  refine Jg (u := .dptr [I64 y20]) (A_indexM (f := I64) (xs := s) (y := y20) rfl rfl rfl tf_slice_43 hy20 rfl) ?_ rfl rfl rfl
  refine Jg (u := I64 y20) (A_load tf_scalar_3 rfl rfl rfl) ?_ rfl rfl rfl
  obtain ⟨r26, hr26, h⟩ := bnd_out h
  refine Jg (u := BL r26) (A_callV1 (args := [I64 y20]) (caps := f_c) rfl rfl (f_w y20 _ hr26) f_B ⟨rfl, rfl, trivial⟩ f_d) ?_ rfl rfl rfl
  refine Jn (hK25 _ _ ?_)
  refine JC_cond rfl (fun hb => ?_) (fun hb => ?_)
  ·
   replace h := bif_t hb h
   refine Js fun K27 hK27 => Jr ?_
   refine Jg (u := I64 (i20 : Int)) (Am rfl rfl) ?_ rfl rfl rfl
   refine Jg (u := I64 (i20 : Int)) (Aa rfl rfl) ?_ rfl rfl rfl
   refine Jn (hK27 _ _ ?_)
   refine JC_ret ?_
   exact ⟨[I64 (i20 : Int)], [], trivial, rfl, ⟨⟨_, rfl, .conv (.same rfl)⟩, trivial⟩, rfl, congrArg (fun r : Int => (I64 r : AV)) (Option.some.inj h)⟩
  ·
   replace h := bif_f hb h
   refine JC_skip ?_
   refine hK23 _ _ ?_
   refine Jr ?_
   refine Jg (u := I64 ((i20 + 1 : Nat) : Int)) (A_add (idx_succ hk20 hm7) rfl rfl rfl) ?_ rfl rfl rfl
   refine Jg (u := I64 ((i20 + 1 : Nat) : Int)) (Am rfl rfl) ?_ rfl rfl rfl
   refine Jn ?_
   exact e20 _ _ (i20 + 1) () (app1 hn20 h) (by omega) ⟨⟨.same rfl, .same (refsL_any _ _ f_d), .same rfl, .same rfl, trivial⟩, trivial, rfl⟩
 ·
  have h := app1 hkx20 (each_nil hi20 (not_lt_len hb))
  refine JC_exit ?_
  refine hK2 _ _ ?_
  refine Js fun K28 hK28 => Jr ?_
  refine Jg (u := I64 (-1)) (Aa rfl rfl) ?_ rfl rfl rfl
  refine Jn (hK28 _ _ ?_)
  refine JC_ret ?_
  exact ⟨[I64 (-1)], [], trivial, rfl, ⟨⟨_, rfl, .conv (.same rfl)⟩, trivial⟩, rfl, congrArg (fun r : Int => (I64 r : AV)) (Option.some.inj h)⟩


theorem M_plan_lifted_n (F : Nat) (s : Ship) (before : List Stowed) (after : List Stowed) (r : (List Int)) (h : M_plan_lifted F s before after = some r) : ACalls Try.prog 20 [.agg [LS 12 Column.av s.Columns, LS 2 Cover.av s.Covers, I64 s.Light.Kilos, I64 s.Light.X, I64 s.Light.Y, I64 s.Light.Z, LS 5 Row.av s.Rows, LS 5 Frame.av s.Frames, LS 6 Tank.av s.Tanks, I64 s.Limits.Tolerance, I64 s.Limits.Trim, I64 s.Limits.List_, I64 s.Limits.Stability], LS 4 Stowed.av before, LS 4 Stowed.av after] [] (fun av L' => ∃ p : Nat, av = .vec 1070 p 1 r.length ∧ L' = [(1070, .vec 3 1 p (r.map I64))]) := by
 unfold M_plan_lifted at h
 refine ACalls_ofG [] [.tmp 6] Try.func20 rfl rfl (inAll rfl) ?_
 refine Js fun K1 hK1 => Jr ?_
 refine Jg (u := .ptr 1060 0) (A_box (u := .agg [LS 12 Column.av s.Columns, LS 2 Cover.av s.Covers, I64 s.Light.Kilos, I64 s.Light.X, I64 s.Light.Y, I64 s.Light.Z, LS 5 Row.av s.Rows, LS 5 Frame.av s.Frames, LS 6 Tank.av s.Tanks, I64 s.Limits.Tolerance, I64 s.Limits.Trim, I64 s.Limits.List_, I64 s.Limits.Stability]) (cs := [LS 12 Column.av s.Columns, LS 2 Cover.av s.Covers, I64 s.Light.Kilos, I64 s.Light.X, I64 s.Light.Y, I64 s.Light.Z, LS 5 Row.av s.Rows, LS 5 Frame.av s.Frames, LS 6 Tank.av s.Tanks, I64 s.Limits.Tolerance, I64 s.Limits.Trim, I64 s.Limits.List_, I64 s.Limits.Stability]) 1060 rfl rfl rfl rfl rfl) ?_ rfl rfl rfl
 refine Jg (u := .vec 1061 (([] : List Int).length) 1 (([] : List Int).length)) (A_vnil 1061 3 1 rfl rfl rfl) ?_ rfl rfl rfl
 refine Jn (hK1 _ _ ?_)
 refine JC_freeze [(1, LS 4 Stowed.av before), (2, LS 4 Stowed.av after), (3, .dptr [LS 12 Column.av s.Columns, LS 2 Cover.av s.Covers, I64 s.Light.Kilos, I64 s.Light.X, I64 s.Light.Y, I64 s.Light.Z, LS 5 Row.av s.Rows, LS 5 Frame.av s.Frames, LS 6 Tank.av s.Tanks, I64 s.Limits.Tolerance, I64 s.Limits.Trim, I64 s.Limits.List_, I64 s.Limits.Stability])] [(1061, .vec 3 1 (([] : List Int).length) (([] : List Int).map I64))] 1060 rfl rfl rfl ⟨⟨_, rfl, .vec⟩, trivial⟩ rfl (by exact ⟨.conv (.same rfl), .conv (.same rfl), .ptr, trivial⟩) ?_
 refine Js fun K2 hK2 => Jr ?_
 refine Jg (u := LS 4 Stowed.av before) (Am rfl rfl) ?_ rfl rfl rfl
 refine Jg (u := LS 4 Stowed.av after) (Am rfl rfl) ?_ rfl rfl rfl
 refine Jg (u := LS 1 (LS 4 Stowed.av) [before, after]) (A_buildSlice (xs := [LS 4 Stowed.av before, LS 4 Stowed.av after]) rfl ⟨rfl, rfl, rfl, rfl, trivial⟩ tf_slice_56 tf_zsize_40 rfl rfl rfl rfl) ?_ rfl rfl rfl
 refine Jg (u := .ptr 1062 0) (A_allocJ 1062 1 tf_zsize_56 rfl rfl) ?_ rfl rfl rfl
 refine JL_go0 (u := .junk) (A_store (u := LS 1 (LS 4 Stowed.av) [before, after]) (ds := [LS 1 (LS 4 Stowed.av) [before, after]]) tf_size_56 rfl rfl rfl rfl rfl rfl rfl rfl) ?_ rfl rfl
 refine Jn (hK2 _ _ ?_)
 refine JC_freeze [(1, LS 4 Stowed.av before), (2, LS 4 Stowed.av after), (3, .dptr [LS 12 Column.av s.Columns, LS 2 Cover.av s.Covers, I64 s.Light.Kilos, I64 s.Light.X, I64 s.Light.Y, I64 s.Light.Z, LS 5 Row.av s.Rows, LS 5 Frame.av s.Frames, LS 6 Tank.av s.Tanks, I64 s.Limits.Tolerance, I64 s.Limits.Trim, I64 s.Limits.List_, I64 s.Limits.Stability]), (7, .dptr [LS 1 (LS 4 Stowed.av) [before, after]])] [(1061, .vec 3 1 (([] : List Int).length) (([] : List Int).map I64))] 1062 rfl rfl rfl ⟨⟨_, rfl, .vec⟩, trivial⟩ rfl (by exact ⟨.conv (.same rfl), .conv (.same rfl), .conv (.same rfl), .ptr, trivial⟩) ?_
 refine Js fun K3 hK3 => Jr ?_
 refine Jg (u := .mp 1069) (A_makeMapM 1069 (fun n : Int => Value.int .i64 n) (fun _ : Unit => .agg []) rfl rfl) ?_ rfl rfl rfl
 refine Jg (u := .ptr 1063 0) (A_allocJ 1063 1 tf_zsize_113 rfl rfl) ?_ rfl rfl rfl
 refine JL_go0 (u := .junk) (A_store (u := .mp 1069) (ds := [.mp 1069]) tf_size_113 rfl rfl rfl rfl rfl rfl rfl rfl) ?_ rfl rfl
 refine Jn (hK3 _ _ ?_)
 refine Js fun K4 hK4 => Jr ?_
 refine Jg (u := .ptr 1064 0) (A_allocZ 1064 [.sc (.slice none 0 0)] [.slice none 0 0] tf_zero_43 ⟨.inl rfl, trivial⟩ rfl rfl) ?_ rfl rfl rfl
 refine JL_vecCell 1064 0 1070 3 1 rfl rfl rfl (cs' := [.vec 1070 (([] : List Int).length) 1 (([] : List Int).length)]) rfl ?_
 refine Jn (hK4 _ _ ?_)
 refine Js fun K5 hK5 => Jr ?_
 refine Jg (u := .ptr 1065 0) (A_allocJ 1065 1 tf_zsize_114 rfl rfl) ?_ rfl rfl rfl
 refine Jn (hK5 _ _ ?_)
 refine Js fun K6 hK6 => Jr ?_
 refine Jg (u := .fn 42 [.ptr 1063 0, .ptr 1064 0, .dptr [LS 1 (LS 4 Stowed.av) [before, after]], .dptr [LS 12 Column.av s.Columns, LS 2 Cover.av s.Covers, I64 s.Light.Kilos, I64 s.Light.X, I64 s.Light.Y, I64 s.Light.Z, LS 5 Row.av s.Rows, LS 5 Frame.av s.Frames, LS 6 Tank.av s.Tanks, I64 s.Limits.Tolerance, I64 s.Limits.Trim, I64 s.Limits.List_, I64 s.Limits.Stability], .ptr 1065 0]) (A_makeFunc (cs := [.ptr 1063 0, .ptr 1064 0, .dptr [LS 1 (LS 4 Stowed.av) [before, after]], .dptr [LS 12 Column.av s.Columns, LS 2 Cover.av s.Covers, I64 s.Light.Kilos, I64 s.Light.X, I64 s.Light.Y, I64 s.Light.Z, LS 5 Row.av s.Rows, LS 5 Frame.av s.Frames, LS 6 Tank.av s.Tanks, I64 s.Limits.Tolerance, I64 s.Limits.Trim, I64 s.Limits.List_, I64 s.Limits.Stability], .ptr 1065 0]) rfl rfl) ?_ rfl rfl rfl
 refine JL_go0 (u := .junk) (A_store (u := .fn 42 [.ptr 1063 0, .ptr 1064 0, .dptr [LS 1 (LS 4 Stowed.av) [before, after]], .dptr [LS 12 Column.av s.Columns, LS 2 Cover.av s.Covers, I64 s.Light.Kilos, I64 s.Light.X, I64 s.Light.Y, I64 s.Light.Z, LS 5 Row.av s.Rows, LS 5 Frame.av s.Frames, LS 6 Tank.av s.Tanks, I64 s.Limits.Tolerance, I64 s.Limits.Trim, I64 s.Limits.List_, I64 s.Limits.Stability], .ptr 1065 0]) (ds := [.fn 42 [.ptr 1063 0, .ptr 1064 0, .dptr [LS 1 (LS 4 Stowed.av) [before, after]], .dptr [LS 12 Column.av s.Columns, LS 2 Cover.av s.Covers, I64 s.Light.Kilos, I64 s.Light.X, I64 s.Light.Y, I64 s.Light.Z, LS 5 Row.av s.Rows, LS 5 Frame.av s.Frames, LS 6 Tank.av s.Tanks, I64 s.Limits.Tolerance, I64 s.Limits.Trim, I64 s.Limits.List_, I64 s.Limits.Stability], .ptr 1065 0]]) tf_size_114 rfl rfl rfl rfl rfl rfl rfl rfl) ?_ rfl rfl
 refine Jn (hK6 _ _ ?_)
 refine Js (fun K7 hK7 => ?_)
 refine Js fun K8 hK8 => Jr ?_
 refine Jg (u := LS 1 (LS 4 Stowed.av) [before, after]) (A_load tf_scalar_56 rfl rfl rfl) ?_ rfl rfl rfl
 refine JL_lenM (f := (LS 4 Stowed.av)) (xs := [before, after]) tf_slice_56 rfl rfl (fun hm25 => ?_) rfl rfl rfl
 refine Jg (u := I64 0) (Am rfl rfl) ?_ rfl rfl rfl
 refine Jn (hK8 _ _ ?_)
 refine JC_block ?_
 obtain ⟨b9, kx9, hb9, hkx9, h⟩ := each_in h
 refine JC_loop2 (fun i9 (s9 : (AMap Int Unit) × (List Int)) => each b9 kx9 (List.drop i9 [before, after]) i9 s9 = some r) (fun i9 s9 => [(1, LS 4 Stowed.av before), (2, LS 4 Stowed.av after), (9, .ptr 1064 0), (10, .ptr 1065 0), (24, LS 1 (LS 4 Stowed.av) [before, after]), (25, I64 ([before, after].length : Int)), (26, I64 (i9 : Int))]) (fun i9 s9 => [(1061, .vec 3 1 (([] : List Int).length) (([] : List Int).map I64)), (1069, MP 113 (fun n : Int => Value.int .i64 n) (fun _ : Unit => .agg []) s9.1), (1070, .vec 3 1 s9.2.length (s9.2.map I64)), (1063, .box 113 [.mp 1069]), (1064, .box 43 [.vec 1070 s9.2.length 1 s9.2.length]), (1065, .box 114 [.fn 42 [.ptr 1063 0, .ptr 1064 0, .dptr [LS 1 (LS 4 Stowed.av) [before, after]], .dptr [LS 12 Column.av s.Columns, LS 2 Cover.av s.Covers, I64 s.Light.Kilos, I64 s.Light.X, I64 s.Light.Y, I64 s.Light.Z, LS 5 Row.av s.Rows, LS 5 Frame.av s.Frames, LS 6 Tank.av s.Tanks, I64 s.Limits.Tolerance, I64 s.Limits.Trim, I64 s.Limits.List_, I64 s.Limits.Stability], .ptr 1065 0]])]) (fun i9 => [before, after].length - i9) 0 ((AMap.empty : AMap Int Unit), []) h ⟨⟨.same rfl, .same rfl, .same rfl, .same rfl, .same rfl, .same rfl, .same rfl, trivial⟩, ⟨⟨_, rfl, .vec⟩, ⟨_, rfl, .map⟩, ⟨_, rfl, .vec⟩, ⟨_, rfl, .boxL rfl ⟨.same rfl, trivial⟩⟩, ⟨_, rfl, .boxL rfl ⟨.same rfl, trivial⟩⟩, ⟨_, rfl, .boxL rfl ⟨.same rfl, trivial⟩⟩, trivial⟩, rfl⟩ ?_
 clear h
 intro i9 s9 hi9 K9 e9
 refine Js fun K10 hK10 => Jr ?_
 refine Jg (u := BL (decide ((i9 : Int) < ([before, after].length : Int)))) (A_lss rfl rfl rfl) ?_ rfl rfl rfl
 refine Jn (hK10 _ _ ?_)
 refine Js (fun K11 hK11 => ?_)
 refine JC_cond rfl (fun hb => ?_) (fun hb => ?_)
 ·
  have hk9 := lt_len hb
  obtain ⟨y9, nx9, hy9, hn9, h⟩ := each_out hi9 hk9
  replace h := app4 hb9 h
  refine JC_skip ?_
  refine hK11 _ _ ?_
  refine Js (fun K12 hK12 => ?_)
  refine JC_block ?_
  refine Js fun K13 hK13 => Jr ?_
  refine Jg (u := .dptr [LS 4 Stowed.av y9]) (A_indexM (f := (LS 4 Stowed.av)) (xs := [before, after]) (y := y9) rfl rfl rfl tf_slice_56 hy9 rfl) ?_ rfl rfl rfl
  refine Jg (u := LS 4 Stowed.av y9) (A_load tf_scalar_40 rfl rfl rfl) ?_ rfl rfl rfl
  refine Jg (u := LS 4 Stowed.av y9) (Aa rfl rfl) ?_ rfl rfl rfl
  refine Jn (hK13 _ _ ?_)
  refine Js fun K14 hK14 => Jr ?_
  refine Jg (u := LS 4 Stowed.av y9) (Am rfl rfl) ?_ rfl rfl rfl
  refine JL_lenM (f := Stowed.av) (xs := y9) tf_slice_40 rfl rfl (fun hm31 => ?_) rfl rfl rfl
  refine Jg (u := I64 0) (Am rfl rfl) ?_ rfl rfl rfl
  refine Jn (hK14 _ _ ?_)
  refine JC_block ?_
  obtain ⟨b59, kx59, hb59, hkx59, h⟩ := each_in h
  refine JC_loop2 (fun i59 (s59 : (AMap Int Unit) × (List Int)) => each b59 kx59 (List.drop i59 y9) i59 s59 = some r) (fun i59 s59 => [(1, LS 4 Stowed.av before), (2, LS 4 Stowed.av after), (9, .ptr 1064 0), (10, .ptr 1065 0), (24, LS 1 (LS 4 Stowed.av) [before, after]), (25, I64 ([before, after].length : Int)), (26, I64 (i9 : Int)), (30, LS 4 Stowed.av y9), (31, I64 (y9.length : Int)), (32, I64 (i59 : Int))]) (fun i59 s59 => [(1061, .vec 3 1 (([] : List Int).length) (([] : List Int).map I64)), (1069, MP 113 (fun n : Int => Value.int .i64 n) (fun _ : Unit => .agg []) s59.1), (1070, .vec 3 1 s59.2.length (s59.2.map I64)), (1063, .box 113 [.mp 1069]), (1064, .box 43 [.vec 1070 s59.2.length 1 s59.2.length]), (1065, .box 114 [.fn 42 [.ptr 1063 0, .ptr 1064 0, .dptr [LS 1 (LS 4 Stowed.av) [before, after]], .dptr [LS 12 Column.av s.Columns, LS 2 Cover.av s.Covers, I64 s.Light.Kilos, I64 s.Light.X, I64 s.Light.Y, I64 s.Light.Z, LS 5 Row.av s.Rows, LS 5 Frame.av s.Frames, LS 6 Tank.av s.Tanks, I64 s.Limits.Tolerance, I64 s.Limits.Trim, I64 s.Limits.List_, I64 s.Limits.Stability], .ptr 1065 0]])]) (fun i59 => y9.length - i59) 0 (s9.1, s9.2) h ⟨⟨.same rfl, .same rfl, .same rfl, .same rfl, .same rfl, .same rfl, .same rfl, .same rfl, .same rfl, .same rfl, trivial⟩, ⟨⟨_, rfl, .vec⟩, ⟨_, rfl, .map⟩, ⟨_, rfl, .vec⟩, ⟨_, rfl, .boxL rfl ⟨.same rfl, trivial⟩⟩, ⟨_, rfl, .boxL rfl ⟨.same rfl, trivial⟩⟩, ⟨_, rfl, .boxL rfl ⟨.same rfl, trivial⟩⟩, trivial⟩, rfl⟩ ?_
  clear h
  intro i59 s59 hi59 K59 e59
  refine Js fun K60 hK60 => Jr ?_
  refine Jg (u := BL (decide ((i59 : Int) < (y9.length : Int)))) (A_lss rfl rfl rfl) ?_ rfl rfl rfl
  refine Jn (hK60 _ _ ?_)
  refine Js (fun K61 hK61 => ?_)
  refine JC_cond rfl (fun hb => ?_) (fun hb => ?_)
  ·
   have hk59 := lt_len hb
   obtain ⟨y59, nx59, hy59, hn59, h⟩ := each_out hi59 hk59
   replace h := app4 hb59 h
   refine JC_skip ?_
   refine hK61 _ _ ?_
   obtain ⟨kj62, hkj62, h⟩ := jp_out h
   refine JC_seqJ (fun j62 : (AMap Int Unit) × (List Int) => kj62 j62 = some r) (fun j62 => [(1, LS 4 Stowed.av before), (2, LS 4 Stowed.av after), (9, .ptr 1064 0), (10, .ptr 1065 0), (24, LS 1 (LS 4 Stowed.av) [before, after]), (25, I64 ([before, after].length : Int)), (26, I64 (i9 : Int)), (30, LS 4 Stowed.av y9), (31, I64 (y9.length : Int)), (32, I64 (i59 : Int))]) (fun j62 => [(1061, .vec 3 1 (([] : List Int).length) (([] : List Int).map I64)), (1069, MP 113 (fun n : Int => Value.int .i64 n) (fun _ : Unit => .agg []) j62.1), (1070, .vec 3 1 j62.2.length (j62.2.map I64)), (1063, .box 113 [.mp 1069]), (1064, .box 43 [.vec 1070 j62.2.length 1 j62.2.length]), (1065, .box 114 [.fn 42 [.ptr 1063 0, .ptr 1064 0, .dptr [LS 1 (LS 4 Stowed.av) [before, after]], .dptr [LS 12 Column.av s.Columns, LS 2 Cover.av s.Covers, I64 s.Light.Kilos, I64 s.Light.X, I64 s.Light.Y, I64 s.Light.Z, LS 5 Row.av s.Rows, LS 5 Frame.av s.Frames, LS 6 Tank.av s.Tanks, I64 s.Limits.Tolerance, I64 s.Limits.Trim, I64 s.Limits.List_, I64 s.Limits.Stability], .ptr 1065 0]])]) (fun Kj62 ej62 => ?_) ?_
   ·
    refine JC_block ?_
    refine Js fun K63 hK63 => Jr ?_
    refine Jg (u := .dptr (Stowed.cs y59)) (A_indexM (f := Stowed.av) (xs := y9) (y := y59) rfl rfl rfl tf_slice_40 hy59 rfl) ?_ rfl rfl rfl
    refine Jg (u := .agg (Stowed.cs y59)) (A_loadAgg tf_agg_82 rfl rfl rfl) ?_ rfl rfl rfl
    refine Jg (u := .ptr 1066 0) (A_allocJ 1066 4 tf_zsize_82 rfl rfl) ?_ rfl rfl rfl
    refine JL_go0 (u := .junk) (A_store (u := .agg (Stowed.cs y59)) (ds := [I64 y59.Box, I64 y59.Slot.Column, I64 y59.Slot.Tier, U8 y59.Slot.Half]) tf_size_82 rfl rfl rfl rfl rfl rfl rfl rfl) ?_ rfl rfl
    refine Jn (hK63 _ _ ?_)
    refine JC_freeze [(1, LS 4 Stowed.av before), (2, LS 4 Stowed.av after), (9, .ptr 1064 0), (10, .ptr 1065 0), (14, .dptr (Stowed.cs y59)), (24, LS 1 (LS 4 Stowed.av) [before, after]), (25, I64 ([before, after].length : Int)), (26, I64 (i9 : Int)), (30, LS 4 Stowed.av y9), (31, I64 (y9.length : Int)), (32, I64 (i59 : Int))] [(1061, .vec 3 1 (([] : List Int).length) (([] : List Int).map I64)), (1069, MP 113 (fun n : Int => Value.int .i64 n) (fun _ : Unit => .agg []) s59.1), (1070, .vec 3 1 s59.2.length (s59.2.map I64)), (1063, .box 113 [.mp 1069]), (1064, .box 43 [.vec 1070 s59.2.length 1 s59.2.length]), (1065, .box 114 [.fn 42 [.ptr 1063 0, .ptr 1064 0, .dptr [LS 1 (LS 4 Stowed.av) [before, after]], .dptr [LS 12 Column.av s.Columns, LS 2 Cover.av s.Covers, I64 s.Light.Kilos, I64 s.Light.X, I64 s.Light.Y, I64 s.Light.Z, LS 5 Row.av s.Rows, LS 5 Frame.av s.Frames, LS 6 Tank.av s.Tanks, I64 s.Limits.Tolerance, I64 s.Limits.Trim, I64 s.Limits.List_, I64 s.Limits.Stability], .ptr 1065 0]])] 1066 rfl rfl rfl ⟨⟨_, rfl, .vec⟩, ⟨_, rfl, .map⟩, ⟨_, rfl, .vec⟩, ⟨_, rfl, .boxEq rfl rfl⟩, ⟨_, rfl, .boxEq rfl rfl⟩, ⟨_, rfl, .boxEq rfl rfl⟩, trivial⟩ rfl (by exact ⟨.conv (.same rfl), .conv (.same rfl), .conv (.same rfl), .conv (.same rfl), .ptr, .conv (.same rfl), .conv (.same rfl), .conv (.same rfl), .conv (.same rfl), .conv (.same rfl), .conv (.same rfl), trivial⟩) ?_
    refine Js fun K64 hK64 => Jr ?_
    refine Jg (u := LS 4 Stowed.av before) (Am rfl rfl) ?_ rfl rfl rfl
    refine Jg (u := .dptr (Stowed.cs y59)) (A_fieldM tf_field_82_0 rfl rfl rfl) ?_ rfl rfl rfl
    refine Jg (u := I64 y59.Box) (A_load tf_scalar_3 rfl rfl rfl) ?_ rfl rfl rfl
    obtain ⟨r65, hr65, h⟩ := bnd_out h
    refine Jg (u := .tup [.agg (Slot.cs r65.1), BL r65.2]) (A_call1 (args := [LS 4 Stowed.av before, I64 y59.Box]) rfl (M_plan_find_w before y59.Box r65 hr65) tf_call_31 ⟨rfl, rfl, rfl, rfl, trivial⟩) ?_ rfl rfl rfl
    refine Jg (u := .tup [.agg (Slot.cs r65.1), BL r65.2]) (Am rfl rfl) ?_ rfl rfl rfl
    refine Jg (u := .agg (Slot.cs r65.1)) (A_extract rfl rfl rfl) ?_ rfl rfl rfl
    refine Jg (u := BL r65.2) (A_extract rfl rfl rfl) ?_ rfl rfl rfl
    refine Jg (u := .ptr 1067 0) (A_allocJ 1067 3 tf_zsize_80 rfl rfl) ?_ rfl rfl rfl
    refine JL_go0 (u := .junk) (A_store (u := .agg (Slot.cs r65.1)) (ds := [I64 r65.1.Column, I64 r65.1.Tier, U8 r65.1.Half]) tf_size_80 rfl rfl rfl rfl rfl rfl rfl rfl) ?_ rfl rfl
    refine Jg (u := BL r65.2) (Aa rfl rfl) ?_ rfl rfl rfl
    refine Jn (hK64 _ _ ?_)
    refine JC_freeze [(1, LS 4 Stowed.av before), (2, LS 4 Stowed.av after), (9, .ptr 1064 0), (10, .ptr 1065 0), (14, .dptr (Stowed.cs y59)), (15, .dptr (Slot.cs r65.1)), (16, BL r65.2), (24, LS 1 (LS 4 Stowed.av) [before, after]), (25, I64 ([before, after].length : Int)), (26, I64 (i9 : Int)), (30, LS 4 Stowed.av y9), (31, I64 (y9.length : Int)), (32, I64 (i59 : Int))] [(1061, .vec 3 1 (([] : List Int).length) (([] : List Int).map I64)), (1069, MP 113 (fun n : Int => Value.int .i64 n) (fun _ : Unit => .agg []) s59.1), (1070, .vec 3 1 s59.2.length (s59.2.map I64)), (1063, .box 113 [.mp 1069]), (1064, .box 43 [.vec 1070 s59.2.length 1 s59.2.length]), (1065, .box 114 [.fn 42 [.ptr 1063 0, .ptr 1064 0, .dptr [LS 1 (LS 4 Stowed.av) [before, after]], .dptr [LS 12 Column.av s.Columns, LS 2 Cover.av s.Covers, I64 s.Light.Kilos, I64 s.Light.X, I64 s.Light.Y, I64 s.Light.Z, LS 5 Row.av s.Rows, LS 5 Frame.av s.Frames, LS 6 Tank.av s.Tanks, I64 s.Limits.Tolerance, I64 s.Limits.Trim, I64 s.Limits.List_, I64 s.Limits.Stability], .ptr 1065 0]])] 1067 rfl rfl rfl ⟨⟨_, rfl, .vec⟩, ⟨_, rfl, .map⟩, ⟨_, rfl, .vec⟩, ⟨_, rfl, .boxEq rfl rfl⟩, ⟨_, rfl, .boxEq rfl rfl⟩, ⟨_, rfl, .boxEq rfl rfl⟩, trivial⟩ rfl (by exact ⟨.conv (.same rfl), .conv (.same rfl), .conv (.same rfl), .conv (.same rfl), .conv (.same rfl), .ptr, .conv (.same rfl), .conv (.same rfl), .conv (.same rfl), .conv (.same rfl), .conv (.same rfl), .conv (.same rfl), .conv (.same rfl), trivial⟩) ?_
    refine Js fun K66 hK66 => Jr ?_
    refine Jg (u := LS 4 Stowed.av after) (Am rfl rfl) ?_ rfl rfl rfl
    refine Jg (u := .dptr (Stowed.cs y59)) (A_fieldM tf_field_82_0 rfl rfl rfl) ?_ rfl rfl rfl
    refine Jg (u := I64 y59.Box) (A_load tf_scalar_3 rfl rfl rfl) ?_ rfl rfl rfl
    obtain ⟨r67, hr67, h⟩ := bnd_out h
    refine Jg (u := .tup [.agg (Slot.cs r67.1), BL r67.2]) (A_call1 (args := [LS 4 Stowed.av after, I64 y59.Box]) rfl (M_plan_find_w after y59.Box r67 hr67) tf_call_31 ⟨rfl, rfl, rfl, rfl, trivial⟩) ?_ rfl rfl rfl
    refine Jg (u := .tup [.agg (Slot.cs r67.1), BL r67.2]) (Am rfl rfl) ?_ rfl rfl rfl
    refine Jg (u := .agg (Slot.cs r67.1)) (A_extract rfl rfl rfl) ?_ rfl rfl rfl
    refine Jg (u := BL r67.2) (A_extract rfl rfl rfl) ?_ rfl rfl rfl
    refine Jg (u := .ptr 1068 0) (A_allocJ 1068 3 tf_zsize_80 rfl rfl) ?_ rfl rfl rfl
    refine JL_go0 (u := .junk) (A_store (u := .agg (Slot.cs r67.1)) (ds := [I64 r67.1.Column, I64 r67.1.Tier, U8 r67.1.Half]) tf_size_80 rfl rfl rfl rfl rfl rfl rfl rfl) ?_ rfl rfl
    refine Jg (u := BL r67.2) (Aa rfl rfl) ?_ rfl rfl rfl
    refine Jn (hK66 _ _ ?_)
    refine JC_freeze [(1, LS 4 Stowed.av before), (2, LS 4 Stowed.av after), (9, .ptr 1064 0), (10, .ptr 1065 0), (14, .dptr (Stowed.cs y59)), (15, .dptr (Slot.cs r65.1)), (16, BL r65.2), (17, .dptr (Slot.cs r67.1)), (18, BL r67.2), (24, LS 1 (LS 4 Stowed.av) [before, after]), (25, I64 ([before, after].length : Int)), (26, I64 (i9 : Int)), (30, LS 4 Stowed.av y9), (31, I64 (y9.length : Int)), (32, I64 (i59 : Int))] [(1061, .vec 3 1 (([] : List Int).length) (([] : List Int).map I64)), (1069, MP 113 (fun n : Int => Value.int .i64 n) (fun _ : Unit => .agg []) s59.1), (1070, .vec 3 1 s59.2.length (s59.2.map I64)), (1063, .box 113 [.mp 1069]), (1064, .box 43 [.vec 1070 s59.2.length 1 s59.2.length]), (1065, .box 114 [.fn 42 [.ptr 1063 0, .ptr 1064 0, .dptr [LS 1 (LS 4 Stowed.av) [before, after]], .dptr [LS 12 Column.av s.Columns, LS 2 Cover.av s.Covers, I64 s.Light.Kilos, I64 s.Light.X, I64 s.Light.Y, I64 s.Light.Z, LS 5 Row.av s.Rows, LS 5 Frame.av s.Frames, LS 6 Tank.av s.Tanks, I64 s.Limits.Tolerance, I64 s.Limits.Trim, I64 s.Limits.List_, I64 s.Limits.Stability], .ptr 1065 0]])] 1068 rfl rfl rfl ⟨⟨_, rfl, .vec⟩, ⟨_, rfl, .map⟩, ⟨_, rfl, .vec⟩, ⟨_, rfl, .boxEq rfl rfl⟩, ⟨_, rfl, .boxEq rfl rfl⟩, ⟨_, rfl, .boxEq rfl rfl⟩, trivial⟩ rfl (by exact ⟨.conv (.same rfl), .conv (.same rfl), .conv (.same rfl), .conv (.same rfl), .conv (.same rfl), .conv (.same rfl), .conv (.same rfl), .ptr, .conv (.same rfl), .conv (.same rfl), .conv (.same rfl), .conv (.same rfl), .conv (.same rfl), .conv (.same rfl), .conv (.same rfl), trivial⟩) ?_
    refine Js fun K68 hK68 => Jr ?_
    refine Jg (u := BL r65.2) (Am rfl rfl) ?_ rfl rfl rfl
    refine Jg (u := BL r67.2) (Am rfl rfl) ?_ rfl rfl rfl
    refine Jg (u := BL (!(r65.2 == r67.2))) (A_neBool tf_bool_4 rfl rfl rfl) ?_ rfl rfl rfl
    refine Jg (u := BL (!(r65.2 == r67.2))) (Am rfl rfl) ?_ rfl rfl rfl
    refine JL_opt (u := .agg (Slot.cs r65.1)) [] rfl rfl rfl .scf trivial (fun hc => A_loadAgg tf_agg_80 rfl rfl rfl) ?_ rfl rfl rfl
    refine JL_opt (u := .agg (Slot.cs r67.1)) [] rfl rfl rfl .scf trivial (fun hc => A_loadAgg tf_agg_80 rfl rfl rfl) ?_ rfl rfl rfl
    refine JL_opt (u := BL (!decide (r65.1 = r67.1))) [(54, .agg (Slot.cs r65.1)), (55, .agg (Slot.cs r67.1))] rfl rfl rfl .scf ⟨.all id, .all id, trivial⟩ (fun hc => A_neAgg (vs := [.int .i64 r65.1.Column, .int .i64 r65.1.Tier, .int .u8 r65.1.Half]) (us := [.int .i64 r67.1.Column, .int .i64 r67.1.Tier, .int .u8 r67.1.Half]) 4 rfl (tq_80 r65.1 r67.1) tf_aggof_80 tf_eqg_80 rfl rfl rfl) ?_ rfl rfl rfl
    refine Jg (u := BL ((!(r65.2 == r67.2)) || (!decide (r65.1 = r67.1)))) (A_or rfl rfl rfl rfl) ?_ rfl rfl rfl
    refine Jn (hK68 _ _ ?_)
    refine JC_cond rfl (fun hb => ?_) (fun hb => ?_)
    ·
     replace h := bif_t hb h
     refine Jr ?_
     refine Jg (u := .fn 42 [.ptr 1063 0, .ptr 1064 0, .dptr [LS 1 (LS 4 Stowed.av) [before, after]], .dptr [LS 12 Column.av s.Columns, LS 2 Cover.av s.Covers, I64 s.Light.Kilos, I64 s.Light.X, I64 s.Light.Y, I64 s.Light.Z, LS 5 Row.av s.Rows, LS 5 Frame.av s.Frames, LS 6 Tank.av s.Tanks, I64 s.Limits.Tolerance, I64 s.Limits.Trim, I64 s.Limits.List_, I64 s.Limits.Stability], .ptr 1065 0]) (A_loadL tf_scalar_114 rfl rfl rfl rfl) ?_ rfl rfl rfl
     refine Jg (u := .dptr (Stowed.cs y59)) (A_fieldM tf_field_82_0 rfl rfl rfl) ?_ rfl rfl rfl
     refine Jg (u := I64 y59.Box) (A_load tf_scalar_3 rfl rfl rfl) ?_ rfl rfl rfl
     obtain ⟨r69, hr69, h⟩ := bnd_out h
     refine Jg (u := .tup []) (A_callVL (args := [I64 y59.Box]) (caps := [.ptr 1063 0, .ptr 1064 0, .dptr [LS 1 (LS 4 Stowed.av) [before, after]], .dptr [LS 12 Column.av s.Columns, LS 2 Cover.av s.Covers, I64 s.Light.Kilos, I64 s.Light.X, I64 s.Light.Y, I64 s.Light.Z, LS 5 Row.av s.Rows, LS 5 Frame.av s.Frames, LS 6 Tank.av s.Tanks, I64 s.Limits.Tolerance, I64 s.Limits.Trim, I64 s.Limits.List_, I64 s.Limits.Stability], .ptr 1065 0]) (L0 := [(1063, .box 113 [.mp 1069]), (1069, MP 113 (fun n : Int => Value.int .i64 n) (fun _ : Unit => .agg []) s59.1), (1064, .box 43 [.vec 1070 s59.2.length 1 s59.2.length]), (1070, .vec 3 1 s59.2.length (s59.2.map I64)), (1065, .box 114 [.fn 42 [.ptr 1063 0, .ptr 1064 0, .dptr [LS 1 (LS 4 Stowed.av) [before, after]], .dptr [LS 12 Column.av s.Columns, LS 2 Cover.av s.Covers, I64 s.Light.Kilos, I64 s.Light.X, I64 s.Light.Y, I64 s.Light.Z, LS 5 Row.av s.Rows, LS 5 Frame.av s.Frames, LS 6 Tank.av s.Tanks, I64 s.Limits.Tolerance, I64 s.Limits.Trim, I64 s.Limits.List_, I64 s.Limits.Stability], .ptr 1065 0]])]) (Lr := [(1063, .box 113 [.mp 1069]), (1069, MP 113 (fun n : Int => Value.int .i64 n) (fun _ : Unit => .agg []) r69.1), (1064, .box 43 [.vec 1070 r69.2.length 1 r69.2.length]), (1070, .vec 3 1 r69.2.length (r69.2.map I64)), (1065, .box 114 [.fn 42 [.ptr 1063 0, .ptr 1064 0, .dptr [LS 1 (LS 4 Stowed.av) [before, after]], .dptr [LS 12 Column.av s.Columns, LS 2 Cover.av s.Covers, I64 s.Light.Kilos, I64 s.Light.X, I64 s.Light.Y, I64 s.Light.Z, LS 5 Row.av s.Rows, LS 5 Frame.av s.Frames, LS 6 Tank.av s.Tanks, I64 s.Limits.Tolerance, I64 s.Limits.Trim, I64 s.Limits.List_, I64 s.Limits.Stability], .ptr 1065 0]])]) rfl rfl (M_plan_lifted_1_w F y59.Box s59.1 s59.2 [before, after] s r69 hr69) tf_call_42 ⟨.inl rfl, rfl, trivial⟩ rfl ⟨rfl, rfl, rfl, rfl, rfl, trivial⟩ rfl rfl rfl) ?_ rfl rfl rfl
     refine Jn ?_
     exact ej62 _ _ (r69.1, r69.2) h ⟨⟨.same rfl, .same rfl, .same rfl, .same rfl, .same rfl, .same rfl, .same rfl, .same rfl, .same rfl, .same rfl, trivial⟩, ⟨⟨_, rfl, .vec⟩, ⟨_, rfl, .map⟩, ⟨_, rfl, .vec⟩, ⟨_, rfl, .boxL rfl ⟨.same rfl, trivial⟩⟩, ⟨_, rfl, .boxL rfl ⟨.same rfl, trivial⟩⟩, ⟨_, rfl, .boxL rfl ⟨.same rfl, trivial⟩⟩, trivial⟩, rfl⟩
    ·
     replace h := bif_f hb h
     refine JC_skip ?_
     exact ej62 _ _ (s59.1, s59.2) h ⟨⟨.same rfl, .same rfl, .same rfl, .same rfl, .same rfl, .same rfl, .same rfl, .same rfl, .same rfl, .same rfl, trivial⟩, ⟨⟨_, rfl, .vec⟩, ⟨_, rfl, .map⟩, ⟨_, rfl, .vec⟩, ⟨_, rfl, .boxL rfl ⟨.same rfl, trivial⟩⟩, ⟨_, rfl, .boxL rfl ⟨.same rfl, trivial⟩⟩, ⟨_, rfl, .boxL rfl ⟨.same rfl, trivial⟩⟩, trivial⟩, rfl⟩
   ·intro j62 h
    replace h := app1 hkj62 h
    refine Jr ?_
    refine Jg (u := I64 ((i59 + 1 : Nat) : Int)) (A_add (idx_succ hk59 hm31) rfl rfl rfl) ?_ rfl rfl rfl
    refine Jg (u := I64 ((i59 + 1 : Nat) : Int)) (Am rfl rfl) ?_ rfl rfl rfl
    refine Jn ?_
    exact e59 _ _ (i59 + 1) (j62.1, j62.2) (app1 hn59 h) (by omega) ⟨⟨.same rfl, .same rfl, .same rfl, .same rfl, .same rfl, .same rfl, .same rfl, .same rfl, .same rfl, .same rfl, trivial⟩, ⟨⟨_, rfl, .vec⟩, ⟨_, rfl, .map⟩, ⟨_, rfl, .vec⟩, ⟨_, rfl, .boxL rfl ⟨.same rfl, trivial⟩⟩, ⟨_, rfl, .boxL rfl ⟨.same rfl, trivial⟩⟩, ⟨_, rfl, .boxL rfl ⟨.same rfl, trivial⟩⟩, trivial⟩, rfl⟩
  ·
   have h := app1 hkx59 (each_nil hi59 (not_lt_len hb))
   refine JC_exit ?_
   refine hK12 _ _ ?_
   refine Jr ?_
   refine Jg (u := I64 ((i9 + 1 : Nat) : Int)) (A_add (idx_succ hk9 hm25) rfl rfl rfl) ?_ rfl rfl rfl
   refine Jg (u := I64 ((i9 + 1 : Nat) : Int)) (Am rfl rfl) ?_ rfl rfl rfl
   refine Jn ?_
   exact e9 _ _ (i9 + 1) (s59.1, s59.2) (app1 hn9 h) (by omega) ⟨⟨.same rfl, .same rfl, .same rfl, .same rfl, .same rfl, .same rfl, .same rfl, trivial⟩, ⟨⟨_, rfl, .vec⟩, ⟨_, rfl, .map⟩, ⟨_, rfl, .vec⟩, ⟨_, rfl, .boxL rfl ⟨.same rfl, trivial⟩⟩, ⟨_, rfl, .boxL rfl ⟨.same rfl, trivial⟩⟩, ⟨_, rfl, .boxL rfl ⟨.same rfl, trivial⟩⟩, trivial⟩, rfl⟩
 ·
  have h := app1 hkx9 (each_nil hi9 (not_lt_len hb))
  refine JC_exit ?_
  refine hK7 _ _ ?_
  refine Js fun K70 hK70 => Jr ?_
  refine Jg (u := .vec 1070 s9.2.length 1 s9.2.length) (A_loadL tf_scalar_43 rfl rfl rfl rfl) ?_ rfl rfl rfl
  obtain ⟨r71, hr71, h⟩ := bnd_out h
  refine Jg (u := .tup []) (A_sortI (F := 45) (xs := s9.2) (r := r71) rfl sortILaw_45 sortINone_45 tf_call_45 rfl rfl rfl hr71 rfl) ?_ rfl rfl rfl
  refine Jn (hK70 _ _ ?_)
  refine Js fun K72 hK72 => Jr ?_
  refine Jg (u := .vec 1070 s9.2.length 1 s9.2.length) (A_loadL tf_scalar_43 rfl rfl rfl rfl) ?_ rfl rfl rfl
  refine Jg (u := .vec 1070 s9.2.length 1 s9.2.length) (Aa rfl rfl) ?_ rfl rfl rfl
  refine Jn (hK72 _ _ ?_)
  refine JC_vlen 6 rfl rfl (fun hn_ => ?_)
  refine JC_ret ?_
  obtain rfl := Option.some.inj h
  exact ⟨[.vec 1070 s9.2.length 1 s9.2.length], [(1070, .vec 3 1 s9.2.length (r71.map I64))], ⟨⟨_, rfl, .vec⟩, trivial⟩, rfl, ⟨⟨_, rfl, .conv (.same rfl)⟩, trivial⟩, s9.2.length, congrArg (fun n_ : Nat => (.vec 1070 s9.2.length 1 n_ : AV)) (hn_.trans (List.length_map _)), rfl⟩

def M_slices_DeleteFunc_int (F : Nat) (s : List Int) (del : Int → Option Bool) : Option (List Int) :=
 bnd (M_slices_IndexFunc_int s del) fun r3 =>
 bif decide (r3 = (-1)) then
 (some s)
 else
 (chk (r3 + 1) fun v9 =>
  loop (fun nx48 (s48 : Int × Int × (List Int)) =>
   bif decide (s48.2.1 < (s48.2.2.length : Int)) then
   (jp (fun kj51 =>
     gidx s48.2.2 s48.2.1 fun y53 =>
     bnd (del y53) fun r55 =>
     bif (!r55) then
     (gidx s48.2.2 s48.1 fun y57 =>
      chk (s48.1 + 1) fun v58 =>
      kj51 (v58, (s48.2.2.set s48.1.toNat y53)))
     else
     (kj51 (s48.1, s48.2.2))) fun (j51 : Int × (List Int)) =>
    chk (s48.2.1 + 1) fun v59 =>
    nx48 (j51.1, v59, j51.2))
   else
   (bnd (natIn s48.1 s48.2.2.length) fun m61 =>
    bnd (natIn s48.1 (blank s48.2.2 m61 (s48.2.2.length - m61) 0).length) fun m63 =>
    some ((blank s48.2.2 m61 (s48.2.2.length - m61) 0).take m63))) F (r3, v9, s))
theorem M_slices_DeleteFunc_int_p210010000 (F : Nat) (s : List Int) (s_q : Nat) (del : Int → Option Bool) (del_f : FuncId) (del_c : List AV) (del_B : callB Try.prog del_f = true) (del_d : refsL (fun _ => false) del_c = true) (del_w : ∀ a0 q, del a0 = some q → Pure Try.prog del_f ([I64 a0] ++ del_c) (· = BL q)) (r : (List Int)) (h : M_slices_DeleteFunc_int F s del = some r) : ACalls Try.prog 29 [.vec 1070 s_q 1 s.length, .fn del_f del_c] [(1070, .vec 3 1 s_q (s.map I64))] (fun av L' => ∃ p : Nat, av = .vec 1070 p 1 r.length ∧ L' = [(1070, .vec 3 1 p (r.map I64))]) := by
 unfold M_slices_DeleteFunc_int at h
 refine ACalls_ofG [1070] [.tmp 4] Try.func29 rfl rfl (inAll rfl) ?_
 refine Js fun K1 hK1 => Jr ?_
 refine Jg (u := .vec 1093 (([] : List Int).length) 1 (([] : List Int).length)) (A_vnil 1093 3 1 rfl rfl rfl) ?_ rfl rfl rfl
 refine Jn (hK1 _ _ ?_)
 refine Js fun K2 hK2 => Jr ?_
 refine Jg (u := .vec 1070 s_q 1 s.length) (Am rfl rfl) ?_ rfl rfl rfl
 refine Jg (u := .fn del_f del_c) (Am rfl rfl) ?_ rfl rfl rfl
 obtain ⟨r3, hr3, h⟩ := bnd_out h
 refine Jg (u := I64 r3) (A_callLend (args := [LS 1 I64 s, .fn del_f del_c]) rfl (M_slices_IndexFunc_int_w s del del_f del_c del_B del_d del_w r3 hr3) tf_call_52 ⟨.vec rfl, .data rfl del_d, trivial⟩ rfl) ?_ rfl rfl rfl
 refine Jg (u := I64 r3) (Aa rfl rfl) ?_ rfl rfl rfl
 refine Jn (hK2 _ _ ?_)
 refine Js (fun K4 hK4 => ?_)
 refine Js fun K5 hK5 => Jr ?_
 refine Jg (u := I64 r3) (Am rfl rfl) ?_ rfl rfl rfl
 refine Jg (u := BL (decide (r3 = (-1)))) (A_eql rfl rfl rfl) ?_ rfl rfl rfl
 refine Jn (hK5 _ _ ?_)
 refine JC_cond rfl (fun hb => ?_) (fun hb => ?_)
 ·
  replace h := bif_t hb h
  refine Js fun K6 hK6 => Jr ?_
  refine Jg (u := .vec 1070 s_q 1 s.length) (Am rfl rfl) ?_ rfl rfl rfl
  refine Jg (u := .vec 1070 s_q 1 s.length) (Aa rfl rfl) ?_ rfl rfl rfl
  refine Jn (hK6 _ _ ?_)
  refine JC_vlen 4 rfl rfl (fun hn_ => ?_)
  refine JC_ret ?_
  obtain rfl := Option.some.inj h
  exact ⟨[.vec 1070 s_q 1 s.length], [(1070, .vec 3 1 s_q (s.map I64))], ⟨⟨_, rfl, .vec⟩, trivial⟩, rfl, ⟨⟨_, rfl, .conv (.same rfl)⟩, trivial⟩, s_q, congrArg (fun n_ : Nat => (.vec 1070 s_q 1 n_ : AV)) (hn_.trans (List.length_map _)), rfl⟩
 ·
  replace h := bif_f hb h
  refine JC_skip ?_
  refine hK4 _ _ ?_
  refine Js (fun K7 hK7 => ?_)
  refine Js fun K8 hK8 => Jr ?_
  refine Jg (u := I64 r3) (Am rfl rfl) ?_ rfl rfl rfl
  obtain ⟨v9, hv9, h⟩ := chk_out h
  refine Jg (u := I64 v9) (A_add hv9 rfl rfl rfl) ?_ rfl rfl rfl
  refine Jg (u := I64 v9) (Aa rfl rfl) ?_ rfl rfl rfl
  refine Jn (hK8 _ _ ?_)
  refine JC_block ?_
  obtain ⟨b48, hb48, h⟩ := loop_in h
  refine JC_loop2 (fun i48 (s48 : Int × Int × (List Int)) => loop b48 i48 s48 = some r) (fun i48 s48 => [(0, .vec 1070 s_q 1 s.length), (1, .fn del_f del_c), (5, I64 s48.1), (6, I64 s48.2.1)]) (fun i48 s48 => [(1070, .vec 3 1 s_q (s48.2.2.map I64)), (1093, .vec 3 1 (([] : List Int).length) (([] : List Int).map I64))]) (fun i48 => i48) F (r3, v9, s) h ⟨⟨.same rfl, .same (refsL_any _ _ del_d), .same rfl, .same rfl, trivial⟩, ⟨⟨_, rfl, .vec⟩, ⟨_, rfl, .vec⟩, trivial⟩, rfl⟩ ?_
  clear h
  intro i48 s48 hi48 K48 e48
  obtain ⟨m48, nx48, hm_48, hn48, h⟩ := loop_out hi48
  replace h := app2 hb48 h
  refine Js (fun K49 hK49 => ?_)
  refine Js fun K50 hK50 => Jr ?_
  refine Jg (u := I64 s48.2.1) (Am rfl rfl) ?_ rfl rfl rfl
  refine Jg (u := .vec 1070 s_q 1 s.length) (Am rfl rfl) ?_ rfl rfl rfl
  refine JL_vlenM (f := I64) (xs := s48.2.2) tf_slice_43 rfl rfl rfl (fun hm18 => ?_) rfl rfl rfl
  refine Jg (u := BL (decide (s48.2.1 < (s48.2.2.length : Int)))) (A_lss rfl rfl rfl) ?_ rfl rfl rfl
  refine Jn (hK50 _ _ ?_)
  refine JC_cond rfl (fun hb => ?_) (fun hb => ?_)
  ·
   replace h := bif_t hb h
   refine JC_skip ?_
   refine hK49 _ _ ?_
   obtain ⟨kj51, hkj51, h⟩ := jp_out h
   refine JC_seqJ (fun j51 : Int × (List Int) => kj51 j51 = some r) (fun j51 => [(0, .vec 1070 s_q 1 s.length), (1, .fn del_f del_c), (5, I64 j51.1), (6, I64 s48.2.1)]) (fun j51 => [(1070, .vec 3 1 s_q (j51.2.map I64)), (1093, .vec 3 1 (([] : List Int).length) (([] : List Int).map I64))]) (fun Kj51 ej51 => ?_) ?_
   ·
    refine JC_block ?_
    refine Js fun K52 hK52 => Jr ?_
    refine Jg (u := .vec 1070 s_q 1 s.length) (Am rfl rfl) ?_ rfl rfl rfl
    refine Jg (u := I64 s48.2.1) (Am rfl rfl) ?_ rfl rfl rfl
    obtain ⟨y53, hmy53, hy53, h⟩ := gidx_outT h
    refine Jg (u := .vptr 1070 s_q s48.2.1.toNat 0) (A_vidxM (f := I64) (xs := s48.2.2) (y := y53) rfl rfl rfl rfl tf_slice_43 hy53 hmy53) ?_ rfl rfl rfl
    refine Jg (u := I64 y53) (A_vloadM (f := I64) (xs := s48.2.2) (y := y53) tf_scalar_3 rfl rfl rfl hy53 rfl rfl) ?_ rfl rfl rfl
    refine Jg (u := I64 y53) (Aa rfl rfl) ?_ rfl rfl rfl
    refine Jn (hK52 _ _ ?_)
    refine Js fun K54 hK54 => Jr ?_
    refine Jg (u := .fn del_f del_c) (Am rfl rfl) ?_ rfl rfl rfl
    refine Jg (u := I64 y53) (Am rfl rfl) ?_ rfl rfl rfl
    obtain ⟨r55, hr55, h⟩ := bnd_out h
    refine Jg (u := BL r55) (A_callV1 (args := [I64 y53]) (caps := del_c) rfl rfl (del_w y53 _ hr55) del_B ⟨rfl, rfl, trivial⟩ del_d) ?_ rfl rfl rfl
    refine Jg (u := BL (!r55)) (A_not (b := r55) rfl rfl) ?_ rfl rfl rfl
    refine Jn (hK54 _ _ ?_)
    refine JC_cond rfl (fun hb => ?_) (fun hb => ?_)
    ·
     replace h := bif_t hb h
     refine Js fun K56 hK56 => Jr ?_
     refine Jg (u := .vec 1070 s_q 1 s.length) (Am rfl rfl) ?_ rfl rfl rfl
     refine Jg (u := I64 s48.1) (Am rfl rfl) ?_ rfl rfl rfl
     refine Jg (u := I64 y53) (Am rfl rfl) ?_ rfl rfl rfl
     obtain ⟨y57, hmy57, hy57, h⟩ := gidx_outT h
     refine Jg (u := .vptr 1070 s_q s48.1.toNat 0) (A_vidxM (f := I64) (xs := s48.2.2) (y := y57) rfl rfl rfl rfl tf_slice_43 hy57 hmy57) ?_ rfl rfl rfl
     refine JL_go0 (u := .junk) (A_vstoreM (f := I64) (xs := s48.2.2) (z := y53) tf_size_3 rfl rfl rfl rfl (List.getElem?_eq_some_iff.1 hy57).1 rfl rfl rfl rfl) ?_ rfl rfl
     refine Jn (hK56 _ _ ?_)
     refine Jr ?_
     refine Jg (u := I64 s48.1) (Am rfl rfl) ?_ rfl rfl rfl
     obtain ⟨v58, hv58, h⟩ := chk_out h
     refine Jg (u := I64 v58) (A_add hv58 rfl rfl rfl) ?_ rfl rfl rfl
     refine Jg (u := I64 v58) (Aa rfl rfl) ?_ rfl rfl rfl
     refine Jn ?_
     exact ej51 _ _ (v58, (s48.2.2.set s48.1.toNat y53)) h ⟨⟨.same rfl, .same (refsL_any _ _ del_d), .same rfl, .same rfl, trivial⟩, ⟨⟨_, rfl, .vec⟩, ⟨_, rfl, .vec⟩, trivial⟩, rfl⟩
    ·
     replace h := bif_f hb h
     refine JC_skip ?_
     exact ej51 _ _ (s48.1, s48.2.2) h ⟨⟨.same rfl, .same (refsL_any _ _ del_d), .same rfl, .same rfl, trivial⟩, ⟨⟨_, rfl, .vec⟩, ⟨_, rfl, .vec⟩, trivial⟩, rfl⟩
   ·intro j51 h
    replace h := app1 hkj51 h
    refine Jr ?_
    refine Jg (u := I64 s48.2.1) (Am rfl rfl) ?_ rfl rfl rfl
    obtain ⟨v59, hv59, h⟩ := chk_out h
    refine Jg (u := I64 v59) (A_add hv59 rfl rfl rfl) ?_ rfl rfl rfl
    refine Jg (u := I64 v59) (Aa rfl rfl) ?_ rfl rfl rfl
    refine Jn ?_
    exact e48 _ _ m48 (j51.1, v59, j51.2) (app1 hn48 h) (by omega) ⟨⟨.same rfl, .same (refsL_any _ _ del_d), .same rfl, .same rfl, trivial⟩, ⟨⟨_, rfl, .vec⟩, ⟨_, rfl, .vec⟩, trivial⟩, rfl⟩
  ·
   replace h := bif_f hb h
   refine JC_exit ?_
   refine hK7 _ _ ?_
   refine Js fun K60 hK60 => Jr ?_
   refine Jg (u := .vec 1070 s_q 1 s.length) (Am rfl rfl) ?_ rfl rfl rfl
   refine Jg (u := I64 s48.1) (Am rfl rfl) ?_ rfl rfl rfl
   obtain ⟨m61, hm61, h⟩ := bnd_out h
   refine Jg (u := .vsl 1070 s_q 1 m61 (s48.2.2.length - m61)) (A_vsubLoM (f := I64) (xs := s48.2.2) rfl rfl rfl rfl tf_slice_43 (natIn_out hm61)) ?_ rfl rfl rfl
   refine JL_go0 (u := .tup []) (A_clearM (f := I64) (xs := s48.2.2) (off := m61) (n := (s48.2.2.length - m61)) 0 [.int .i64 0] rfl tf_slice_43 (.inr rfl) rfl tf_zero_3 rfl rfl rfl ⟨.inl rfl, trivial⟩) ?_ rfl rfl
   refine Jn (hK60 _ _ ?_)
   refine Js fun K62 hK62 => Jr ?_
   refine Jg (u := .vec 1070 s_q 1 s.length) (Am rfl rfl) ?_ rfl rfl rfl
   refine Jg (u := I64 s48.1) (Am rfl rfl) ?_ rfl rfl rfl
   obtain ⟨m63, hm63, h⟩ := bnd_out h
   refine Jg (u := .vec 1070 (s_q + 1) 1 (((blank s48.2.2 m61 (s48.2.2.length - m61) 0).take m63).length)) (A_vtakeM (f := I64) (xs := (blank s48.2.2 m61 (s48.2.2.length - m61) 0)) rfl rfl rfl rfl tf_slice_43 (natIn_out hm63)) ?_ rfl rfl rfl
   refine Jg (u := .vec 1070 (s_q + 1) 1 (((blank s48.2.2 m61 (s48.2.2.length - m61) 0).take m63).length)) (Aa rfl rfl) ?_ rfl rfl rfl
   refine Jn (hK62 _ _ ?_)
   refine JC_vlen 4 rfl rfl (fun hn_ => ?_)
   refine JC_ret ?_
   obtain rfl := Option.some.inj h
   exact ⟨[.vec 1070 (s_q + 1) 1 (((blank s48.2.2 m61 (s48.2.2.length - m61) 0).take m63).length)], [(1070, .vec 3 1 (s_q + 1) (((blank s48.2.2 m61 (s48.2.2.length - m61) 0).take m63).map I64))], ⟨⟨_, rfl, .vec⟩, trivial⟩, rfl, ⟨⟨_, rfl, .conv (.same rfl)⟩, trivial⟩, (s_q + 1), congrArg (fun n_ : Nat => (.vec 1070 (s_q + 1) 1 n_ : AV)) (hn_.trans (List.length_map _)), rfl⟩

def M_plan_Restows (F : Nat) (s : Ship) (boxes : List Box) (calls : Int) (p : Plan) : Option ((List (List Int)) × Int) :=
 bnd (M_plan_Check s boxes calls p) fun r4 =>
 bif decide (r4.2 ≠ 0) then
 (some ([], r4.2))
 else
 (bnd (M_plan_steps p) fun r10 =>
  bnd (S_plan_steps_1 p) fun ys21 =>
  each (fun y21 i21 (s21 : (List (List Int))) nx21 =>
   bnd (M_plan_lifted F s y21.1 y21.2) fun r23 =>
   bnd (M_slices_DeleteFunc_int F r23 (fun z0 => M_plan_Restows_1 z0 y21.1 y21.2)) fun r25 =>
   need (decide ((s21.length + [r25].length) * 24 ≤ 140737488355328 ∧ s21.length + [r25].length ≤ maxLen)) <|
   nx21 (s21 ++ [r25]))
  (fun (s21 : (List (List Int))) =>
   some (s21, 0)) ys21 0 [])
theorem M_plan_Restows_w (F : Nat) (s : Ship) (boxes : List Box) (calls : Int) (p : Plan) (r : (List (List Int)) × Int) (h : M_plan_Restows F s boxes calls p = some r) : Pure Try.prog 14 [.agg [LS 12 Column.av s.Columns, LS 2 Cover.av s.Covers, I64 s.Light.Kilos, I64 s.Light.X, I64 s.Light.Y, I64 s.Light.Z, LS 5 Row.av s.Rows, LS 5 Frame.av s.Frames, LS 6 Tank.av s.Tanks, I64 s.Limits.Tolerance, I64 s.Limits.Trim, I64 s.Limits.List_, I64 s.Limits.Stability], LS 9 Box.av boxes, I64 calls, .agg [LS 1 (LS 4 Stowed.av) p.States, LS 1 (LS 1 I64) p.Water]] (· = .tup [LS 1 (LS 1 I64) r.1, I64 r.2]) := by
 unfold M_plan_Restows at h
 refine Pure_ofG [.tmp 8, .tmp 9] Try.func14 rfl rfl ?_
 refine Js fun K1 hK1 => Jr ?_
 refine Jg (u := .ptr 1040 0) (A_box (u := .agg [LS 12 Column.av s.Columns, LS 2 Cover.av s.Covers, I64 s.Light.Kilos, I64 s.Light.X, I64 s.Light.Y, I64 s.Light.Z, LS 5 Row.av s.Rows, LS 5 Frame.av s.Frames, LS 6 Tank.av s.Tanks, I64 s.Limits.Tolerance, I64 s.Limits.Trim, I64 s.Limits.List_, I64 s.Limits.Stability]) (cs := [LS 12 Column.av s.Columns, LS 2 Cover.av s.Covers, I64 s.Light.Kilos, I64 s.Light.X, I64 s.Light.Y, I64 s.Light.Z, LS 5 Row.av s.Rows, LS 5 Frame.av s.Frames, LS 6 Tank.av s.Tanks, I64 s.Limits.Tolerance, I64 s.Limits.Trim, I64 s.Limits.List_, I64 s.Limits.Stability]) 1040 rfl rfl rfl rfl rfl) ?_ rfl rfl rfl
 refine Jg (u := .ptr 1041 0) (A_box (u := .agg [LS 1 (LS 4 Stowed.av) p.States, LS 1 (LS 1 I64) p.Water]) (cs := [LS 1 (LS 4 Stowed.av) p.States, LS 1 (LS 1 I64) p.Water]) 1041 rfl rfl rfl rfl rfl) ?_ rfl rfl rfl
 refine Jg (u := LS 1 (LS 1 I64) ([] : List (List Int))) (A_nilList 1 rfl rfl) ?_ rfl rfl rfl
 refine Jg (u := I64 0) (Aa rfl rfl) ?_ rfl rfl rfl
 refine Jn (hK1 _ _ ?_)
 refine JC_freeze [(1, LS 9 Box.av boxes), (2, I64 calls), (4, .dptr [LS 12 Column.av s.Columns, LS 2 Cover.av s.Covers, I64 s.Light.Kilos, I64 s.Light.X, I64 s.Light.Y, I64 s.Light.Z, LS 5 Row.av s.Rows, LS 5 Frame.av s.Frames, LS 6 Tank.av s.Tanks, I64 s.Limits.Tolerance, I64 s.Limits.Trim, I64 s.Limits.List_, I64 s.Limits.Stability]), (7, .ptr 1041 0)] [(1041, .box 59 [LS 1 (LS 4 Stowed.av) p.States, LS 1 (LS 1 I64) p.Water])] 1040 rfl rfl rfl ⟨⟨_, rfl, .boxEq rfl rfl⟩, trivial⟩ rfl (by exact ⟨.conv (.same rfl), .conv (.same rfl), .ptr, .conv (.same rfl), trivial⟩) ?_
 refine JC_freeze [(1, LS 9 Box.av boxes), (2, I64 calls), (4, .dptr [LS 12 Column.av s.Columns, LS 2 Cover.av s.Covers, I64 s.Light.Kilos, I64 s.Light.X, I64 s.Light.Y, I64 s.Light.Z, LS 5 Row.av s.Rows, LS 5 Frame.av s.Frames, LS 6 Tank.av s.Tanks, I64 s.Limits.Tolerance, I64 s.Limits.Trim, I64 s.Limits.List_, I64 s.Limits.Stability]), (7, .dptr [LS 1 (LS 4 Stowed.av) p.States, LS 1 (LS 1 I64) p.Water])] [] 1041 rfl rfl rfl trivial rfl (by exact ⟨.conv (.same rfl), .conv (.same rfl), .conv (.same rfl), .ptr, trivial⟩) ?_
 refine Js (fun K2 hK2 => ?_)
 refine Js fun K3 hK3 => Jr ?_
 refine Jg (u := .agg [LS 12 Column.av s.Columns, LS 2 Cover.av s.Covers, I64 s.Light.Kilos, I64 s.Light.X, I64 s.Light.Y, I64 s.Light.Z, LS 5 Row.av s.Rows, LS 5 Frame.av s.Frames, LS 6 Tank.av s.Tanks, I64 s.Limits.Tolerance, I64 s.Limits.Trim, I64 s.Limits.List_, I64 s.Limits.Stability]) (A_loadAgg tf_agg_35 rfl rfl rfl) ?_ rfl rfl rfl
 refine Jg (u := LS 9 Box.av boxes) (Am rfl rfl) ?_ rfl rfl rfl
 refine Jg (u := I64 calls) (Am rfl rfl) ?_ rfl rfl rfl
 refine Jg (u := .agg [LS 1 (LS 4 Stowed.av) p.States, LS 1 (LS 1 I64) p.Water]) (A_loadAgg tf_agg_59 rfl rfl rfl) ?_ rfl rfl rfl
 obtain ⟨r4, hr4, h⟩ := bnd_out h
 refine Jg (u := .tup [I64 r4.1, I64 r4.2]) (A_call1 (args := [.agg [LS 12 Column.av s.Columns, LS 2 Cover.av s.Covers, I64 s.Light.Kilos, I64 s.Light.X, I64 s.Light.Y, I64 s.Light.Z, LS 5 Row.av s.Rows, LS 5 Frame.av s.Frames, LS 6 Tank.av s.Tanks, I64 s.Limits.Tolerance, I64 s.Limits.Trim, I64 s.Limits.List_, I64 s.Limits.Stability], LS 9 Box.av boxes, I64 calls, .agg [LS 1 (LS 4 Stowed.av) p.States, LS 1 (LS 1 I64) p.Water]]) rfl (M_plan_Check_w s boxes calls p r4 hr4) tf_call_25 ⟨rfl, rfl, rfl, rfl, rfl, rfl, rfl, rfl, trivial⟩) ?_ rfl rfl rfl
 refine Jg (u := .tup [I64 r4.1, I64 r4.2]) (Am rfl rfl) ?_ rfl rfl rfl
 refine Jg (u := I64 r4.1) (A_extract rfl rfl rfl) ?_ rfl rfl rfl
 refine Jg (u := I64 r4.2) (A_extract rfl rfl rfl) ?_ rfl rfl rfl
 refine Jg (u := I64 r4.1) (Aa rfl rfl) ?_ rfl rfl rfl
 refine Jg (u := I64 r4.2) (Aa rfl rfl) ?_ rfl rfl rfl
 refine Jn (hK3 _ _ ?_)
 refine Js fun K5 hK5 => Jr ?_
 refine Jg (u := I64 r4.2) (Am rfl rfl) ?_ rfl rfl rfl
 refine Jg (u := BL (decide (r4.2 ≠ 0))) (A_neq rfl rfl rfl) ?_ rfl rfl rfl
 refine Jn (hK5 _ _ ?_)
 refine JC_cond rfl (fun hb => ?_) (fun hb => ?_)
 ·
  replace h := bif_t hb h
  refine Js fun K6 hK6 => Jr ?_
  refine Jg (u := I64 r4.2) (Am rfl rfl) ?_ rfl rfl rfl
  refine Jg (u := LS 1 (LS 1 I64) ([] : List (List Int))) (A_nilList 1 rfl rfl) ?_ rfl rfl rfl
  refine Jg (u := I64 r4.2) (Aa rfl rfl) ?_ rfl rfl rfl
  refine Jn (hK6 _ _ ?_)
  refine JC_ret ?_
  exact ⟨[LS 1 (LS 1 I64) ([] : List (List Int)), I64 r4.2], [], trivial, rfl, ⟨⟨_, rfl, .conv (.same rfl)⟩, ⟨_, rfl, .conv (.same rfl)⟩, trivial⟩, rfl, congrArg (fun r : (List (List Int)) × Int => (.tup [LS 1 (LS 1 I64) r.1, I64 r.2] : AV)) (Option.some.inj h)⟩
 ·
  replace h := bif_f hb h
  refine JC_skip ?_
  refine hK2 _ _ ?_
  refine Js fun K7 hK7 => Jr ?_
  refine Jg (u := .ptr 1042 0) (A_allocZ 1042 [.sc (.slice none 0 0)] [.slice none 0 0] tf_zero_57 ⟨.inl rfl, trivial⟩ rfl rfl) ?_ rfl rfl rfl
  refine JL_ownCell 1042 0 1045 43 1 rfl rfl rfl (cs' := [OW 1045 1 (LS 1 I64) ([] : List (List Int))]) rfl ?_
  refine Jn (hK7 _ _ ?_)
  refine Js (fun K8 hK8 => ?_)
  refine Js fun K9 hK9 => Jr ?_
  refine Jg (u := .agg [LS 1 (LS 4 Stowed.av) p.States, LS 1 (LS 1 I64) p.Water]) (A_loadAgg tf_agg_59 rfl rfl rfl) ?_ rfl rfl rfl
  obtain ⟨r10, hr10, h⟩ := bnd_out h
  refine Jg (u := .fn 51 [.dptr [LS 1 (LS 4 Stowed.av) p.States, LS 1 (LS 1 I64) p.Water]]) (A_call1 (args := [.agg [LS 1 (LS 4 Stowed.av) p.States, LS 1 (LS 1 I64) p.Water]]) rfl (M_plan_steps_w p r10 hr10) tf_call_28 ⟨rfl, rfl, trivial⟩) ?_ rfl rfl rfl
  refine Jn (hK9 _ _ ?_)
  refine JC_block ?_
  obtain ⟨ys21, hy_21, h⟩ := bnd_out h
  obtain ⟨b21, kx21, hb21, hkx21, h⟩ := each_in h
  refine JC_rangeFunc (ps := [28, 29]) [(4, .dptr [LS 12 Column.av s.Columns, LS 2 Cover.av s.Covers, I64 s.Light.Kilos, I64 s.Light.X, I64 s.Light.Y, I64 s.Light.Z, LS 5 Row.av s.Rows, LS 5 Frame.av s.Frames, LS 6 Tank.av s.Tanks, I64 s.Limits.Tolerance, I64 s.Limits.Trim, I64 s.Limits.List_, I64 s.Limits.Stability]), (12, .ptr 1042 0), (27, .fn 51 [.dptr [LS 1 (LS 4 Stowed.av) p.States, LS 1 (LS 1 I64) p.Water]])] (ys21.map (fun y : (List Stowed) × (List Stowed) => [LS 4 Stowed.av y.1, LS 4 Stowed.av y.2])) (fun i21 (s21 : (List (List Int))) => each b21 kx21 (List.drop i21 ys21) i21 s21 = some r) (fun s21 => [(1045, .spare 43 1 s21.length s21.length), (1042, .box 57 [OW 1045 1 (LS 1 I64) s21])]) [] rfl rfl rfl tf_call_51 (S_plan_steps_1_w.down p ys21 hy_21) h ⟨⟨.same rfl, .same rfl, .same rfl, trivial⟩, ⟨⟨_, rfl, .same⟩, ⟨_, rfl, .boxL rfl ⟨.same rfl, trivial⟩⟩, trivial⟩, rfl⟩ rfl (fun us_ hus_ => by obtain ⟨_, _, rfl⟩ := List.mem_map.1 hus_; rfl) (fun p_ hp_ => Nat.blt_eq.mp (by revert p_; decide)) (fun _ => ⟨.same rfl, .same rfl, .same rfl, trivial⟩) (fun _ => rfl) ?_ ?_
  ·
   intro i21 us_ s21 hu_ hi21 lr_ K21 e21
   obtain ⟨hk21, rfl⟩ := mapf_at hu_
   obtain ⟨y21, nx21, hy21, hn21, h⟩ := each_out hi21 hk21
   replace h := app4 hb21 h
   obtain ⟨_, rfl⟩ := List.getElem?_eq_some_iff.1 hy21
   generalize ys21[i21] = y21 at h ⊢
   change JC _ _ _ _ [(29, LS 4 Stowed.av y21.2), (28, LS 4 Stowed.av y21.1), (4, .dptr [LS 12 Column.av s.Columns, LS 2 Cover.av s.Covers, I64 s.Light.Kilos, I64 s.Light.X, I64 s.Light.Y, I64 s.Light.Z, LS 5 Row.av s.Rows, LS 5 Frame.av s.Frames, LS 6 Tank.av s.Tanks, I64 s.Limits.Tolerance, I64 s.Limits.Trim, I64 s.Limits.List_, I64 s.Limits.Stability]), (12, .ptr 1042 0), (27, .fn 51 [.dptr [LS 1 (LS 4 Stowed.av) p.States, LS 1 (LS 1 I64) p.Water]])] [(1045, .spare 43 1 s21.length s21.length), (1042, .box 57 [OW 1045 1 (LS 1 I64) s21])]
   refine Js fun K22 hK22 => Jr ?_
   refine Jg (u := .ptr 1043 0) (A_allocJ 1043 1 tf_zsize_40 rfl rfl) ?_ rfl rfl rfl
   refine JL_go0 (u := .junk) (A_store (u := LS 4 Stowed.av y21.1) (ds := [LS 4 Stowed.av y21.1]) tf_size_40 rfl rfl rfl rfl rfl rfl rfl rfl) ?_ rfl rfl
   refine Jn (hK22 _ _ ?_)
   refine JC_freeze [(4, .dptr [LS 12 Column.av s.Columns, LS 2 Cover.av s.Covers, I64 s.Light.Kilos, I64 s.Light.X, I64 s.Light.Y, I64 s.Light.Z, LS 5 Row.av s.Rows, LS 5 Frame.av s.Frames, LS 6 Tank.av s.Tanks, I64 s.Limits.Tolerance, I64 s.Limits.Trim, I64 s.Limits.List_, I64 s.Limits.Stability]), (12, .ptr 1042 0), (13, .dptr [LS 4 Stowed.av y21.1]), (29, LS 4 Stowed.av y21.2)] [(1045, .spare 43 1 s21.length s21.length), (1042, .box 57 [OW 1045 1 (LS 1 I64) s21])] 1043 rfl rfl rfl ⟨⟨_, rfl, .same⟩, ⟨_, rfl, .boxEq rfl rfl⟩, trivial⟩ rfl (by exact ⟨.conv (.same rfl), .conv (.same rfl), .ptr, .conv (.same rfl), trivial⟩) ?_
   refine Jr ?_
   refine Jg (u := .ptr 1044 0) (A_allocJ 1044 1 tf_zsize_40 rfl rfl) ?_ rfl rfl rfl
   refine JL_go0 (u := .junk) (A_store (u := LS 4 Stowed.av y21.2) (ds := [LS 4 Stowed.av y21.2]) tf_size_40 rfl rfl rfl rfl rfl rfl rfl rfl) ?_ rfl rfl
   refine Jn ?_
   refine Mid_freeze [(4, .dptr [LS 12 Column.av s.Columns, LS 2 Cover.av s.Covers, I64 s.Light.Kilos, I64 s.Light.X, I64 s.Light.Y, I64 s.Light.Z, LS 5 Row.av s.Rows, LS 5 Frame.av s.Frames, LS 6 Tank.av s.Tanks, I64 s.Limits.Tolerance, I64 s.Limits.Trim, I64 s.Limits.List_, I64 s.Limits.Stability]), (12, .ptr 1042 0), (13, .dptr [LS 4 Stowed.av y21.1]), (14, .dptr [LS 4 Stowed.av y21.2])] [(1045, .spare 43 1 s21.length s21.length), (1042, .box 57 [OW 1045 1 (LS 1 I64) s21])] 1044 rfl rfl rfl ⟨⟨_, rfl, .same⟩, ⟨_, rfl, .boxEq rfl rfl⟩, trivial⟩ rfl (by exact ⟨.conv (.same rfl), .conv (.same rfl), .conv (.same rfl), .ptr, trivial⟩) ?_
   refine Mid_go ?_
   refine JC_block ?_
   refine JC_fits (l' := [(4, .dptr [LS 12 Column.av s.Columns, LS 2 Cover.av s.Covers, I64 s.Light.Kilos, I64 s.Light.X, I64 s.Light.Y, I64 s.Light.Z, LS 5 Row.av s.Rows, LS 5 Frame.av s.Frames, LS 6 Tank.av s.Tanks, I64 s.Limits.Tolerance, I64 s.Limits.Trim, I64 s.Limits.List_, I64 s.Limits.Stability]), (12, .ptr 1042 0), (13, .dptr [LS 4 Stowed.av y21.1]), (14, .dptr [LS 4 Stowed.av y21.2])]) (L' := [(1045, .spare 43 1 s21.length s21.length), (1042, .box 57 [OW 1045 1 (LS 1 I64) s21])]) ⟨⟨.same rfl, .same rfl, .same rfl, .same rfl, trivial⟩, ⟨⟨_, rfl, .same⟩, ⟨_, rfl, .boxL rfl ⟨.same rfl, trivial⟩⟩, trivial⟩, rfl⟩ ?_
   obtain ⟨r23, hr23, h⟩ := bnd_out h
   obtain ⟨r25, hr25, h⟩ := bnd_out h
   obtain ⟨ha26, h⟩ := need_out h
   refine JC_draw [4, 6, 8, 9] [0, 0, 0, 0, 0, 0, 0, 2, 0, 0] [2, 0, 0, 0, 0, 1, 0, 2, 0, 0] [[(1045, .spare 43 1 s21.length s21.length), (1042, .box 57 [OW 1045 1 (LS 1 I64) s21])], ((1070, .vec 3 1 0 (r23.map I64)) :: [(1045, .spare 43 1 s21.length s21.length), (1042, .box 57 [OW 1045 1 (LS 1 I64) s21])]), ((1070, .vec 3 1 (0 + 1) (([] : List Int).map I64)) :: ((1070, .vec 3 1 0 (r23.map I64)) :: [(1045, .spare 43 1 s21.length s21.length), (1042, .box 57 [OW 1045 1 (LS 1 I64) s21])])), ((1045, .spare 43 1 (s21 ++ [r25]).length (s21 ++ [r25]).length) :: ((1070, .vec 3 1 (0 + 1) (([] : List Int).map I64)) :: ((1070, .vec 3 1 0 (r23.map I64)) :: [(1045, .spare 43 1 s21.length s21.length), (1042, .box 57 [OW 1045 1 (LS 1 I64) s21])]))), ((1042, .box 57 [OW 1045 1 (LS 1 I64) (s21 ++ [r25])]) :: ((1045, .spare 43 1 (s21 ++ [r25]).length (s21 ++ [r25]).length) :: ((1070, .vec 3 1 (0 + 1) (([] : List Int).map I64)) :: ((1070, .vec 3 1 0 (r23.map I64)) :: [(1045, .spare 43 1 s21.length s21.length), (1042, .box 57 [OW 1045 1 (LS 1 I64) s21])]))))] tf_mixed (by kernel_rfl) rfl rfl ?_
   refine D_ro (u := OW 1045 1 (LS 1 I64) s21) rfl rfl ⟨O_go (A_loadL tf_scalar_57 rfl rfl rfl rfl) rfl, O_go (A_loadL tf_scalar_57 rfl rfl rfl rfl) rfl, O_go (A_loadL tf_scalar_57 rfl rfl rfl rfl) rfl, trivial⟩ ?_ rfl
   refine D_ro (u := .agg [LS 12 Column.av s.Columns, LS 2 Cover.av s.Covers, I64 s.Light.Kilos, I64 s.Light.X, I64 s.Light.Y, I64 s.Light.Z, LS 5 Row.av s.Rows, LS 5 Frame.av s.Frames, LS 6 Tank.av s.Tanks, I64 s.Limits.Tolerance, I64 s.Limits.Trim, I64 s.Limits.List_, I64 s.Limits.Stability]) rfl rfl ⟨O_go (A_loadAgg tf_agg_35 rfl rfl rfl) rfl, trivial⟩ ?_ rfl
   refine D_ro (u := LS 4 Stowed.av y21.1) rfl rfl ⟨O_go (A_load tf_scalar_40 rfl rfl rfl) rfl, trivial⟩ ?_ rfl
   refine D_ro (u := LS 4 Stowed.av y21.2) rfl rfl ⟨O_go (A_load tf_scalar_40 rfl rfl rfl) rfl, trivial⟩ ?_ rfl
   refine D_w (u := .vec 1070 0 1 r23.length) rfl rfl rfl rfl (O_go (A_callL (args := [.agg [LS 12 Column.av s.Columns, LS 2 Cover.av s.Covers, I64 s.Light.Kilos, I64 s.Light.X, I64 s.Light.Y, I64 s.Light.Z, LS 5 Row.av s.Rows, LS 5 Frame.av s.Frames, LS 6 Tank.av s.Tanks, I64 s.Limits.Tolerance, I64 s.Limits.Trim, I64 s.Limits.List_, I64 s.Limits.Stability], LS 4 Stowed.av y21.1, LS 4 Stowed.av y21.2]) (L0 := []) (Lr := [(1070, .vec 3 1 0 (r23.map I64))]) rfl (ACalls.fresh0 (M_plan_lifted_n F s y21.1 y21.2 r23 hr23)) tf_call_20 ⟨.inl rfl, rfl, .inl rfl, rfl, .inl rfl, rfl, trivial⟩ trivial rfl rfl rfl) rfl) ?_ rfl
   refine D_ro (u := .fn 30 [.dptr [LS 4 Stowed.av y21.1], .dptr [LS 4 Stowed.av y21.2]]) rfl rfl ⟨O_go (A_makeFunc (cs := [.dptr [LS 4 Stowed.av y21.1], .dptr [LS 4 Stowed.av y21.2]]) rfl rfl) rfl, O_go (A_makeFunc (cs := [.dptr [LS 4 Stowed.av y21.1], .dptr [LS 4 Stowed.av y21.2]]) rfl rfl) rfl, trivial⟩ ?_ rfl
   refine D_w (u := LS 1 I64 r25) rfl rfl rfl rfl (OStep.locEq (O_go (A_callL (args := [.vec 1070 0 1 r23.length, .fn 30 [.dptr [LS 4 Stowed.av y21.1], .dptr [LS 4 Stowed.av y21.2]]]) (L0 := [(1070, .vec 3 1 0 (r23.map I64))]) (Lr := [(1070, .vec 3 1 (0 + 1) (([] : List Int).map I64))]) rfl (ACalls.lentData (M_slices_DeleteFunc_int_p210010000 F r23 0 (fun z0 => M_plan_Restows_1 z0 y21.1 y21.2) 30 [.dptr [LS 4 Stowed.av y21.1], .dptr [LS 4 Stowed.av y21.2]] tf_call_30 rfl (fun z0 q hq => M_plan_Restows_1_w z0 y21.1 y21.2 q hq) r25 hr25)) tf_call_29 ⟨.inl rfl, rfl, .inl rfl, rfl, trivial⟩ ⟨rfl, trivial⟩ rfl rfl rfl) rfl) (LocEq.of [1045, 1042, 1070] rfl rfl ⟨rfl, rfl, rfl, trivial⟩)) ?_ rfl
   refine D_ro (u := LS 1 (LS 1 I64) [r25]) rfl rfl ⟨O_go (A_buildSlice (xs := [LS 1 I64 r25]) rfl ⟨rfl, rfl, trivial⟩ tf_slice_57 tf_zsize_43 rfl rfl rfl rfl) rfl, trivial⟩ ?_ rfl
   refine D_w (u := OW 1045 1 (LS 1 I64) (s21 ++ [r25])) rfl rfl rfl rfl (O_go (A_appendM (f := (LS 1 I64)) (xs := s21) (ys := [r25]) rfl rfl rfl rfl tf_slice_57 tf_elem_43 ha26 (fun _ => rfl) (.inl rfl) rfl) rfl) ?_ rfl
   refine D_w0 (u := .junk) rfl rfl rfl rfl (O_go (A_store (u := OW 1045 1 (LS 1 I64) (s21 ++ [r25])) (ds := [OW 1045 1 (LS 1 I64) (s21 ++ [r25])]) tf_size_57 rfl rfl rfl rfl rfl rfl rfl rfl) rfl) ?_
   refine D_nil ?_
   exact e21 _ _ (s21 ++ [r25]) (app1 hn21 h) ⟨trivial, ⟨⟨_, rfl, .same⟩, ⟨_, rfl, .boxL rfl ⟨.same rfl, trivial⟩⟩, trivial⟩, rfl⟩
  ·
   intro s21 h
   rw [List.length_map] at h
   replace h := app1 hkx21 (each_nil h (Nat.lt_irrefl _))
   refine hK8 _ _ ?_
   refine Js fun K27 hK27 => Jr ?_
   refine Jg (u := OW 1045 1 (LS 1 I64) s21) (A_loadL tf_scalar_57 rfl rfl rfl rfl) ?_ rfl rfl rfl
   refine Jg (u := OW 1045 1 (LS 1 I64) s21) (Aa rfl rfl) ?_ rfl rfl rfl
   refine Jg (u := I64 0) (Aa rfl rfl) ?_ rfl rfl rfl
   refine Jn (hK27 _ _ ?_)
   refine JC_fits (l' := [(8, LS 1 (LS 1 I64) s21), (9, I64 0)]) (L' := [(1042, .box 57 [LS 1 (LS 1 I64) s21])]) ⟨⟨.list rfl, .same rfl, trivial⟩, ⟨⟨_, rfl, .boxL rfl ⟨.list rfl, trivial⟩⟩, trivial⟩, rfl⟩ ?_
   refine JC_freeze [(8, LS 1 (LS 1 I64) s21), (9, I64 0)] [] 1042 rfl rfl rfl trivial rfl (by exact ⟨.conv (.same rfl), .conv (.same rfl), trivial⟩) ?_
   refine JC_ret ?_
   exact ⟨[LS 1 (LS 1 I64) s21, I64 0], [], trivial, rfl, ⟨⟨_, rfl, .conv (.same rfl)⟩, ⟨_, rfl, .conv (.same rfl)⟩, trivial⟩, rfl, congrArg (fun r : (List (List Int)) × Int => (.tup [LS 1 (LS 1 I64) r.1, I64 r.2] : AV)) (Option.some.inj h)⟩

def M_plan_Count (F : Nat) (s : Ship) (boxes : List Box) (calls : Int) (p : Plan) : Option (Int × Int) :=
 bnd (M_plan_Restows F s boxes calls p) fun r3 =>
 each (fun y19 i19 (s19 : Int) nx19 =>
  chk (s19 + (y19.length : Int)) fun v24 =>
  nx19 v24)
 (fun (s19 : Int) =>
  some (s19, r3.2)) r3.1 0 0
theorem M_plan_Count_w (F : Nat) (s : Ship) (boxes : List Box) (calls : Int) (p : Plan) (r : Int × Int) (h : M_plan_Count F s boxes calls p = some r) : Pure Try.prog 15 [.agg [LS 12 Column.av s.Columns, LS 2 Cover.av s.Covers, I64 s.Light.Kilos, I64 s.Light.X, I64 s.Light.Y, I64 s.Light.Z, LS 5 Row.av s.Rows, LS 5 Frame.av s.Frames, LS 6 Tank.av s.Tanks, I64 s.Limits.Tolerance, I64 s.Limits.Trim, I64 s.Limits.List_, I64 s.Limits.Stability], LS 9 Box.av boxes, I64 calls, .agg [LS 1 (LS 4 Stowed.av) p.States, LS 1 (LS 1 I64) p.Water]] (· = .tup [I64 r.1, I64 r.2]) := by
 unfold M_plan_Count at h
 refine Pure_ofG [.tmp 8, .tmp 9] Try.func15 rfl rfl ?_
 refine Js fun K1 hK1 => Jr ?_
 refine Jg (u := .ptr 1046 0) (A_box (u := .agg [LS 12 Column.av s.Columns, LS 2 Cover.av s.Covers, I64 s.Light.Kilos, I64 s.Light.X, I64 s.Light.Y, I64 s.Light.Z, LS 5 Row.av s.Rows, LS 5 Frame.av s.Frames, LS 6 Tank.av s.Tanks, I64 s.Limits.Tolerance, I64 s.Limits.Trim, I64 s.Limits.List_, I64 s.Limits.Stability]) (cs := [LS 12 Column.av s.Columns, LS 2 Cover.av s.Covers, I64 s.Light.Kilos, I64 s.Light.X, I64 s.Light.Y, I64 s.Light.Z, LS 5 Row.av s.Rows, LS 5 Frame.av s.Frames, LS 6 Tank.av s.Tanks, I64 s.Limits.Tolerance, I64 s.Limits.Trim, I64 s.Limits.List_, I64 s.Limits.Stability]) 1046 rfl rfl rfl rfl rfl) ?_ rfl rfl rfl
 refine Jg (u := .ptr 1047 0) (A_box (u := .agg [LS 1 (LS 4 Stowed.av) p.States, LS 1 (LS 1 I64) p.Water]) (cs := [LS 1 (LS 4 Stowed.av) p.States, LS 1 (LS 1 I64) p.Water]) 1047 rfl rfl rfl rfl rfl) ?_ rfl rfl rfl
 refine Jg (u := I64 0) (Aa rfl rfl) ?_ rfl rfl rfl
 refine Jg (u := I64 0) (Aa rfl rfl) ?_ rfl rfl rfl
 refine Jn (hK1 _ _ ?_)
 refine JC_freeze [(1, LS 9 Box.av boxes), (2, I64 calls), (4, .dptr [LS 12 Column.av s.Columns, LS 2 Cover.av s.Covers, I64 s.Light.Kilos, I64 s.Light.X, I64 s.Light.Y, I64 s.Light.Z, LS 5 Row.av s.Rows, LS 5 Frame.av s.Frames, LS 6 Tank.av s.Tanks, I64 s.Limits.Tolerance, I64 s.Limits.Trim, I64 s.Limits.List_, I64 s.Limits.Stability]), (7, .ptr 1047 0)] [(1047, .box 59 [LS 1 (LS 4 Stowed.av) p.States, LS 1 (LS 1 I64) p.Water])] 1046 rfl rfl rfl ⟨⟨_, rfl, .boxEq rfl rfl⟩, trivial⟩ rfl (by exact ⟨.conv (.same rfl), .conv (.same rfl), .ptr, .conv (.same rfl), trivial⟩) ?_
 refine JC_freeze [(1, LS 9 Box.av boxes), (2, I64 calls), (4, .dptr [LS 12 Column.av s.Columns, LS 2 Cover.av s.Covers, I64 s.Light.Kilos, I64 s.Light.X, I64 s.Light.Y, I64 s.Light.Z, LS 5 Row.av s.Rows, LS 5 Frame.av s.Frames, LS 6 Tank.av s.Tanks, I64 s.Limits.Tolerance, I64 s.Limits.Trim, I64 s.Limits.List_, I64 s.Limits.Stability]), (7, .dptr [LS 1 (LS 4 Stowed.av) p.States, LS 1 (LS 1 I64) p.Water])] [] 1047 rfl rfl rfl trivial rfl (by exact ⟨.conv (.same rfl), .conv (.same rfl), .conv (.same rfl), .ptr, trivial⟩) ?_
 refine Js fun K2 hK2 => Jr ?_
 refine Jg (u := .agg [LS 12 Column.av s.Columns, LS 2 Cover.av s.Covers, I64 s.Light.Kilos, I64 s.Light.X, I64 s.Light.Y, I64 s.Light.Z, LS 5 Row.av s.Rows, LS 5 Frame.av s.Frames, LS 6 Tank.av s.Tanks, I64 s.Limits.Tolerance, I64 s.Limits.Trim, I64 s.Limits.List_, I64 s.Limits.Stability]) (A_loadAgg tf_agg_35 rfl rfl rfl) ?_ rfl rfl rfl
 refine Jg (u := LS 9 Box.av boxes) (Am rfl rfl) ?_ rfl rfl rfl
 refine Jg (u := I64 calls) (Am rfl rfl) ?_ rfl rfl rfl
 refine Jg (u := .agg [LS 1 (LS 4 Stowed.av) p.States, LS 1 (LS 1 I64) p.Water]) (A_loadAgg tf_agg_59 rfl rfl rfl) ?_ rfl rfl rfl
 obtain ⟨r3, hr3, h⟩ := bnd_out h
 refine Jg (u := .tup [LS 1 (LS 1 I64) r3.1, I64 r3.2]) (A_call1 (args := [.agg [LS 12 Column.av s.Columns, LS 2 Cover.av s.Covers, I64 s.Light.Kilos, I64 s.Light.X, I64 s.Light.Y, I64 s.Light.Z, LS 5 Row.av s.Rows, LS 5 Frame.av s.Frames, LS 6 Tank.av s.Tanks, I64 s.Limits.Tolerance, I64 s.Limits.Trim, I64 s.Limits.List_, I64 s.Limits.Stability], LS 9 Box.av boxes, I64 calls, .agg [LS 1 (LS 4 Stowed.av) p.States, LS 1 (LS 1 I64) p.Water]]) rfl (M_plan_Restows_w F s boxes calls p r3 hr3) tf_call_14 ⟨rfl, rfl, rfl, rfl, rfl, rfl, rfl, rfl, trivial⟩) ?_ rfl rfl rfl
 refine Jg (u := .tup [LS 1 (LS 1 I64) r3.1, I64 r3.2]) (Am rfl rfl) ?_ rfl rfl rfl
 refine Jg (u := LS 1 (LS 1 I64) r3.1) (A_extract rfl rfl rfl) ?_ rfl rfl rfl
 refine Jg (u := I64 r3.2) (A_extract rfl rfl rfl) ?_ rfl rfl rfl
 refine Jg (u := LS 1 (LS 1 I64) r3.1) (Aa rfl rfl) ?_ rfl rfl rfl
 refine Jg (u := I64 r3.2) (Aa rfl rfl) ?_ rfl rfl rfl
 refine Jn (hK2 _ _ ?_)
 refine Js fun K4 hK4 => Jr ?_
 refine Jg (u := I64 0) (Aa rfl rfl) ?_ rfl rfl rfl
 refine Jn (hK4 _ _ ?_)
 refine Js (fun K5 hK5 => ?_)
 refine Js fun K6 hK6 => Jr ?_
 refine Jg (u := LS 1 (LS 1 I64) r3.1) (Am rfl rfl) ?_ rfl rfl rfl
 refine JL_lenM (f := (LS 1 I64)) (xs := r3.1) tf_slice_57 rfl rfl (fun hm24 => ?_) rfl rfl rfl
 refine Jg (u := I64 0) (Am rfl rfl) ?_ rfl rfl rfl
 refine Jn (hK6 _ _ ?_)
 refine JC_block ?_
 obtain ⟨b19, kx19, hb19, hkx19, h⟩ := each_in h
 refine JC_loop2 (fun i19 (s19 : Int) => each b19 kx19 (List.drop i19 r3.1) i19 s19 = some r) (fun i19 s19 => [(11, I64 r3.2), (12, I64 s19), (23, LS 1 (LS 1 I64) r3.1), (24, I64 (r3.1.length : Int)), (25, I64 (i19 : Int))]) (fun i19 s19 => []) (fun i19 => r3.1.length - i19) 0 0 h ⟨⟨.same rfl, .same rfl, .same rfl, .same rfl, .same rfl, trivial⟩, trivial, rfl⟩ ?_
 clear h
 intro i19 s19 hi19 K19 e19
 refine Js fun K20 hK20 => Jr ?_
 refine Jg (u := BL (decide ((i19 : Int) < (r3.1.length : Int)))) (A_lss rfl rfl rfl) ?_ rfl rfl rfl
 refine Jn (hK20 _ _ ?_)
 refine Js (fun K21 hK21 => ?_)
 refine JC_cond rfl (fun hb => ?_) (fun hb => ?_)
 ·
  have hk19 := lt_len hb
  obtain ⟨y19, nx19, hy19, hn19, h⟩ := each_out hi19 hk19
  replace h := app4 hb19 h
  refine JC_skip ?_
  refine hK21 _ _ ?_
  refine Js (fun K22 hK22 => ?_)
  refine JC_block ?_
  refine Js fun K23 hK23 => Jr ?_
  refine Jg (u := .dptr [LS 1 I64 y19]) (A_indexM (f := (LS 1 I64)) (xs := r3.1) (y := y19) rfl rfl rfl tf_slice_57 hy19 rfl) ?_ rfl rfl rfl
  refine Jg (u := LS 1 I64 y19) (A_load tf_scalar_43 rfl rfl rfl) ?_ rfl rfl rfl
  refine Jg (u := LS 1 I64 y19) (Aa rfl rfl) ?_ rfl rfl rfl
  refine Jn (hK23 _ _ ?_)
  refine Jr ?_
  refine Jg (u := I64 s19) (Am rfl rfl) ?_ rfl rfl rfl
  refine Jg (u := LS 1 I64 y19) (Am rfl rfl) ?_ rfl rfl rfl
  refine JL_lenM (f := I64) (xs := y19) tf_slice_43 rfl rfl (fun hm31 => ?_) rfl rfl rfl
  obtain ⟨v24, hv24, h⟩ := chk_out h
  refine Jg (u := I64 v24) (A_add hv24 rfl rfl rfl) ?_ rfl rfl rfl
  refine Jg (u := I64 v24) (Aa rfl rfl) ?_ rfl rfl rfl
  refine Jn (hK22 _ _ ?_)
  refine Jr ?_
  refine Jg (u := I64 ((i19 + 1 : Nat) : Int)) (A_add (idx_succ hk19 hm24) rfl rfl rfl) ?_ rfl rfl rfl
  refine Jg (u := I64 ((i19 + 1 : Nat) : Int)) (Am rfl rfl) ?_ rfl rfl rfl
  refine Jn ?_
  exact e19 _ _ (i19 + 1) v24 (app1 hn19 h) (by omega) ⟨⟨.same rfl, .same rfl, .same rfl, .same rfl, .same rfl, trivial⟩, trivial, rfl⟩
 ·
  have h := app1 hkx19 (each_nil hi19 (not_lt_len hb))
  refine JC_exit ?_
  refine hK5 _ _ ?_
  refine Js fun K25 hK25 => Jr ?_
  refine Jg (u := I64 s19) (Am rfl rfl) ?_ rfl rfl rfl
  refine Jg (u := I64 r3.2) (Am rfl rfl) ?_ rfl rfl rfl
  refine Jg (u := I64 s19) (Aa rfl rfl) ?_ rfl rfl rfl
  refine Jg (u := I64 r3.2) (Aa rfl rfl) ?_ rfl rfl rfl
  refine Jn (hK25 _ _ ?_)
  refine JC_ret ?_
  exact ⟨[I64 s19, I64 r3.2], [], trivial, rfl, ⟨⟨_, rfl, .conv (.same rfl)⟩, ⟨_, rfl, .conv (.same rfl)⟩, trivial⟩, rfl, congrArg (fun r : Int × Int => (.tup [I64 r.1, I64 r.2] : AV)) (Option.some.inj h)⟩

def M_twistlocklaw07_Example  : Option Ship :=
 some (Ship.mk ([(Column.mk 0 0 false 2 0 0 0 0 [] 0 0 0), (Column.mk 0 1 false 2 0 0 0 0 [] 0 0 0), (Column.mk 0 0 true 3 0 0 0 0 [] 0 0 0), (Column.mk 0 1 true 3 0 0 0 0 [] 0 0 0), (Column.mk 1 1 true 4 0 0 0 0 [] 0 0 0)]) ([(Cover.mk 0 [0, 1])]) (Light.mk 0 0 0 0) [] [] [] (Limits.mk 0 0 0 0))
theorem M_twistlocklaw07_Example_w  (r : Ship) (h : M_twistlocklaw07_Example  = some r) : Pure Try.prog 23 [] (· = .agg (Ship.cs r)) := by
 unfold M_twistlocklaw07_Example at h
 refine Pure_ofG [.cell 0 35] Try.func23 rfl rfl ?_
 refine Js fun K1 hK1 => Jr ?_
 refine Jg (u := .ptr 1075 0) (A_allocZ 1075 [LS 12 Column.av ([] : List Column), LS 2 Cover.av ([] : List Cover), I64 0, I64 0, I64 0, I64 0, LS 5 Row.av ([] : List Row), LS 5 Frame.av ([] : List Frame), LS 6 Tank.av ([] : List Tank), I64 0, I64 0, I64 0, I64 0] [.slice none 0 0, .slice none 0 0, .int .i64 0, .int .i64 0, .int .i64 0, .int .i64 0, .slice none 0 0, .slice none 0 0, .slice none 0 0, .int .i64 0, .int .i64 0, .int .i64 0, .int .i64 0] tf_zero_35 ⟨.inr ⟨_, rfl, rfl⟩, .inr ⟨_, rfl, rfl⟩, .inl rfl, .inl rfl, .inl rfl, .inl rfl, .inr ⟨_, rfl, rfl⟩, .inr ⟨_, rfl, rfl⟩, .inr ⟨_, rfl, rfl⟩, .inl rfl, .inl rfl, .inl rfl, .inl rfl, trivial⟩ rfl rfl) ?_ rfl rfl rfl
 refine Jn (hK1 _ _ ?_)
 refine Js fun K2 hK2 => Jr ?_
 refine Jg (u := .agg [I64 0, I64 0, BL false, I64 2, I64 0, I64 0, I64 0, I64 0, LS 1 I64 ([] : List Int), I64 0, I64 0, I64 0]) (A_buildZ (cs := [I64 0, I64 0, BL false, I64 2, I64 0, I64 0, I64 0, I64 0, LS 1 I64 ([] : List Int), I64 0, I64 0, I64 0]) [(0, 1), (1, 1), (2, 1), (3, 1), (4, 1), (5, 1), (6, 1), (7, 1), (8, 1), (9, 1), (10, 1), (11, 1)] [I64 0, I64 0, BL false, I64 0, I64 0, I64 0, I64 0, I64 0, LS 1 I64 ([] : List Int), I64 0, I64 0, I64 0] [.int .i64 0, .int .i64 0, .bool false, .int .i64 0, .int .i64 0, .int .i64 0, .int .i64 0, .int .i64 0, .slice none 0 0, .int .i64 0, .int .i64 0, .int .i64 0] tf_places_72 tf_zero_72 ⟨.inl rfl, .inl rfl, .inl rfl, .inl rfl, .inl rfl, .inl rfl, .inl rfl, .inl rfl, .inr ⟨_, rfl, rfl⟩, .inl rfl, .inl rfl, .inl rfl, trivial⟩ rfl rfl) ?_ rfl rfl rfl
 refine Jg (u := .agg [I64 0, I64 1, BL false, I64 2, I64 0, I64 0, I64 0, I64 0, LS 1 I64 ([] : List Int), I64 0, I64 0, I64 0]) (A_buildZ (cs := [I64 0, I64 1, BL false, I64 2, I64 0, I64 0, I64 0, I64 0, LS 1 I64 ([] : List Int), I64 0, I64 0, I64 0]) [(0, 1), (1, 1), (2, 1), (3, 1), (4, 1), (5, 1), (6, 1), (7, 1), (8, 1), (9, 1), (10, 1), (11, 1)] [I64 0, I64 0, BL false, I64 0, I64 0, I64 0, I64 0, I64 0, LS 1 I64 ([] : List Int), I64 0, I64 0, I64 0] [.int .i64 0, .int .i64 0, .bool false, .int .i64 0, .int .i64 0, .int .i64 0, .int .i64 0, .int .i64 0, .slice none 0 0, .int .i64 0, .int .i64 0, .int .i64 0] tf_places_72 tf_zero_72 ⟨.inl rfl, .inl rfl, .inl rfl, .inl rfl, .inl rfl, .inl rfl, .inl rfl, .inl rfl, .inr ⟨_, rfl, rfl⟩, .inl rfl, .inl rfl, .inl rfl, trivial⟩ rfl rfl) ?_ rfl rfl rfl
 refine Jg (u := .agg [I64 0, I64 0, BL true, I64 3, I64 0, I64 0, I64 0, I64 0, LS 1 I64 ([] : List Int), I64 0, I64 0, I64 0]) (A_buildZ (cs := [I64 0, I64 0, BL true, I64 3, I64 0, I64 0, I64 0, I64 0, LS 1 I64 ([] : List Int), I64 0, I64 0, I64 0]) [(0, 1), (1, 1), (2, 1), (3, 1), (4, 1), (5, 1), (6, 1), (7, 1), (8, 1), (9, 1), (10, 1), (11, 1)] [I64 0, I64 0, BL false, I64 0, I64 0, I64 0, I64 0, I64 0, LS 1 I64 ([] : List Int), I64 0, I64 0, I64 0] [.int .i64 0, .int .i64 0, .bool false, .int .i64 0, .int .i64 0, .int .i64 0, .int .i64 0, .int .i64 0, .slice none 0 0, .int .i64 0, .int .i64 0, .int .i64 0] tf_places_72 tf_zero_72 ⟨.inl rfl, .inl rfl, .inl rfl, .inl rfl, .inl rfl, .inl rfl, .inl rfl, .inl rfl, .inr ⟨_, rfl, rfl⟩, .inl rfl, .inl rfl, .inl rfl, trivial⟩ rfl rfl) ?_ rfl rfl rfl
 refine Jg (u := .agg [I64 0, I64 1, BL true, I64 3, I64 0, I64 0, I64 0, I64 0, LS 1 I64 ([] : List Int), I64 0, I64 0, I64 0]) (A_buildZ (cs := [I64 0, I64 1, BL true, I64 3, I64 0, I64 0, I64 0, I64 0, LS 1 I64 ([] : List Int), I64 0, I64 0, I64 0]) [(0, 1), (1, 1), (2, 1), (3, 1), (4, 1), (5, 1), (6, 1), (7, 1), (8, 1), (9, 1), (10, 1), (11, 1)] [I64 0, I64 0, BL false, I64 0, I64 0, I64 0, I64 0, I64 0, LS 1 I64 ([] : List Int), I64 0, I64 0, I64 0] [.int .i64 0, .int .i64 0, .bool false, .int .i64 0, .int .i64 0, .int .i64 0, .int .i64 0, .int .i64 0, .slice none 0 0, .int .i64 0, .int .i64 0, .int .i64 0] tf_places_72 tf_zero_72 ⟨.inl rfl, .inl rfl, .inl rfl, .inl rfl, .inl rfl, .inl rfl, .inl rfl, .inl rfl, .inr ⟨_, rfl, rfl⟩, .inl rfl, .inl rfl, .inl rfl, trivial⟩ rfl rfl) ?_ rfl rfl rfl
 refine Jg (u := .agg [I64 1, I64 1, BL true, I64 4, I64 0, I64 0, I64 0, I64 0, LS 1 I64 ([] : List Int), I64 0, I64 0, I64 0]) (A_buildZ (cs := [I64 1, I64 1, BL true, I64 4, I64 0, I64 0, I64 0, I64 0, LS 1 I64 ([] : List Int), I64 0, I64 0, I64 0]) [(0, 1), (1, 1), (2, 1), (3, 1), (4, 1), (5, 1), (6, 1), (7, 1), (8, 1), (9, 1), (10, 1), (11, 1)] [I64 0, I64 0, BL false, I64 0, I64 0, I64 0, I64 0, I64 0, LS 1 I64 ([] : List Int), I64 0, I64 0, I64 0] [.int .i64 0, .int .i64 0, .bool false, .int .i64 0, .int .i64 0, .int .i64 0, .int .i64 0, .int .i64 0, .slice none 0 0, .int .i64 0, .int .i64 0, .int .i64 0] tf_places_72 tf_zero_72 ⟨.inl rfl, .inl rfl, .inl rfl, .inl rfl, .inl rfl, .inl rfl, .inl rfl, .inl rfl, .inr ⟨_, rfl, rfl⟩, .inl rfl, .inl rfl, .inl rfl, trivial⟩ rfl rfl) ?_ rfl rfl rfl
 refine Jg (u := LS 12 Column.av ([(Column.mk 0 0 false 2 0 0 0 0 [] 0 0 0), (Column.mk 0 1 false 2 0 0 0 0 [] 0 0 0), (Column.mk 0 0 true 3 0 0 0 0 [] 0 0 0), (Column.mk 0 1 true 3 0 0 0 0 [] 0 0 0), (Column.mk 1 1 true 4 0 0 0 0 [] 0 0 0)])) (A_buildSlice (xs := [.agg [I64 0, I64 0, BL false, I64 2, I64 0, I64 0, I64 0, I64 0, LS 1 I64 ([] : List Int), I64 0, I64 0, I64 0], .agg [I64 0, I64 1, BL false, I64 2, I64 0, I64 0, I64 0, I64 0, LS 1 I64 ([] : List Int), I64 0, I64 0, I64 0], .agg [I64 0, I64 0, BL true, I64 3, I64 0, I64 0, I64 0, I64 0, LS 1 I64 ([] : List Int), I64 0, I64 0, I64 0], .agg [I64 0, I64 1, BL true, I64 3, I64 0, I64 0, I64 0, I64 0, LS 1 I64 ([] : List Int), I64 0, I64 0, I64 0], .agg [I64 1, I64 1, BL true, I64 4, I64 0, I64 0, I64 0, I64 0, LS 1 I64 ([] : List Int), I64 0, I64 0, I64 0]]) rfl ⟨rfl, rfl, rfl, rfl, rfl, rfl, rfl, rfl, rfl, rfl, trivial⟩ tf_slice_25 tf_zsize_72 rfl rfl rfl rfl) ?_ rfl rfl rfl
 refine Jg (u := LS 1 I64 [0, 1]) (A_buildSlice (xs := [I64 0, I64 1]) rfl ⟨rfl, rfl, rfl, rfl, trivial⟩ tf_slice_43 tf_zsize_3 rfl rfl rfl rfl) ?_ rfl rfl rfl
 refine Jg (u := .agg [I64 0, LS 1 I64 [0, 1]]) (A_buildZ (cs := [I64 0, LS 1 I64 [0, 1]]) [(0, 1), (1, 1)] [I64 0, LS 1 I64 ([] : List Int)] [.int .i64 0, .slice none 0 0] tf_places_76 tf_zero_76 ⟨.inl rfl, .inr ⟨_, rfl, rfl⟩, trivial⟩ rfl rfl) ?_ rfl rfl rfl
 refine Jg (u := LS 2 Cover.av ([(Cover.mk 0 [0, 1])])) (A_buildSlice (xs := [.agg [I64 0, LS 1 I64 [0, 1]]]) rfl ⟨rfl, rfl, trivial⟩ tf_slice_26 tf_zsize_76 rfl rfl rfl rfl) ?_ rfl rfl rfl
 refine Jg (u := .agg [LS 12 Column.av ([(Column.mk 0 0 false 2 0 0 0 0 [] 0 0 0), (Column.mk 0 1 false 2 0 0 0 0 [] 0 0 0), (Column.mk 0 0 true 3 0 0 0 0 [] 0 0 0), (Column.mk 0 1 true 3 0 0 0 0 [] 0 0 0), (Column.mk 1 1 true 4 0 0 0 0 [] 0 0 0)]), LS 2 Cover.av ([(Cover.mk 0 [0, 1])]), I64 0, I64 0, I64 0, I64 0, LS 5 Row.av ([] : List Row), LS 5 Frame.av ([] : List Frame), LS 6 Tank.av ([] : List Tank), I64 0, I64 0, I64 0, I64 0]) (A_buildZ (cs := [LS 12 Column.av ([(Column.mk 0 0 false 2 0 0 0 0 [] 0 0 0), (Column.mk 0 1 false 2 0 0 0 0 [] 0 0 0), (Column.mk 0 0 true 3 0 0 0 0 [] 0 0 0), (Column.mk 0 1 true 3 0 0 0 0 [] 0 0 0), (Column.mk 1 1 true 4 0 0 0 0 [] 0 0 0)]), LS 2 Cover.av ([(Cover.mk 0 [0, 1])]), I64 0, I64 0, I64 0, I64 0, LS 5 Row.av ([] : List Row), LS 5 Frame.av ([] : List Frame), LS 6 Tank.av ([] : List Tank), I64 0, I64 0, I64 0, I64 0]) [(0, 1), (1, 1), (2, 4), (6, 1), (7, 1), (8, 1), (9, 4)] [LS 12 Column.av ([] : List Column), LS 2 Cover.av ([] : List Cover), I64 0, I64 0, I64 0, I64 0, LS 5 Row.av ([] : List Row), LS 5 Frame.av ([] : List Frame), LS 6 Tank.av ([] : List Tank), I64 0, I64 0, I64 0, I64 0] [.slice none 0 0, .slice none 0 0, .int .i64 0, .int .i64 0, .int .i64 0, .int .i64 0, .slice none 0 0, .slice none 0 0, .slice none 0 0, .int .i64 0, .int .i64 0, .int .i64 0, .int .i64 0] tf_places_35 tf_zero_35 ⟨.inr ⟨_, rfl, rfl⟩, .inr ⟨_, rfl, rfl⟩, .inl rfl, .inl rfl, .inl rfl, .inl rfl, .inr ⟨_, rfl, rfl⟩, .inr ⟨_, rfl, rfl⟩, .inr ⟨_, rfl, rfl⟩, .inl rfl, .inl rfl, .inl rfl, .inl rfl, trivial⟩ rfl rfl) ?_ rfl rfl rfl
 refine JL_go0 (u := .junk) (A_store (u := .agg [LS 12 Column.av ([(Column.mk 0 0 false 2 0 0 0 0 [] 0 0 0), (Column.mk 0 1 false 2 0 0 0 0 [] 0 0 0), (Column.mk 0 0 true 3 0 0 0 0 [] 0 0 0), (Column.mk 0 1 true 3 0 0 0 0 [] 0 0 0), (Column.mk 1 1 true 4 0 0 0 0 [] 0 0 0)]), LS 2 Cover.av ([(Cover.mk 0 [0, 1])]), I64 0, I64 0, I64 0, I64 0, LS 5 Row.av ([] : List Row), LS 5 Frame.av ([] : List Frame), LS 6 Tank.av ([] : List Tank), I64 0, I64 0, I64 0, I64 0]) (ds := [LS 12 Column.av ([(Column.mk 0 0 false 2 0 0 0 0 [] 0 0 0), (Column.mk 0 1 false 2 0 0 0 0 [] 0 0 0), (Column.mk 0 0 true 3 0 0 0 0 [] 0 0 0), (Column.mk 0 1 true 3 0 0 0 0 [] 0 0 0), (Column.mk 1 1 true 4 0 0 0 0 [] 0 0 0)]), LS 2 Cover.av ([(Cover.mk 0 [0, 1])]), I64 0, I64 0, I64 0, I64 0, LS 5 Row.av ([] : List Row), LS 5 Frame.av ([] : List Frame), LS 6 Tank.av ([] : List Tank), I64 0, I64 0, I64 0, I64 0]) tf_size_35 rfl rfl rfl rfl rfl rfl rfl rfl) ?_ rfl rfl
 refine Jn (hK2 _ _ ?_)
 refine JC_ret ?_
 exact ⟨[.agg [LS 12 Column.av ([(Column.mk 0 0 false 2 0 0 0 0 [] 0 0 0), (Column.mk 0 1 false 2 0 0 0 0 [] 0 0 0), (Column.mk 0 0 true 3 0 0 0 0 [] 0 0 0), (Column.mk 0 1 true 3 0 0 0 0 [] 0 0 0), (Column.mk 1 1 true 4 0 0 0 0 [] 0 0 0)]), LS 2 Cover.av ([(Cover.mk 0 [0, 1])]), I64 0, I64 0, I64 0, I64 0, LS 5 Row.av ([] : List Row), LS 5 Frame.av ([] : List Frame), LS 6 Tank.av ([] : List Tank), I64 0, I64 0, I64 0, I64 0]], [], trivial, rfl, ⟨⟨_, ⟨_, _, _, _, rfl, rfl, rfl, .inl ⟨tf_agg_35, rfl⟩⟩, .conv (.same rfl)⟩, trivial⟩, rfl, congrArg (fun r : Ship => (.agg (Ship.cs r) : AV)) (Option.some.inj h)⟩

def M_twistlocklaw23_at (box : Int) (column : Int) (tier : Int) : Option Stowed :=
 some (Stowed.mk box (Slot.mk column tier 0))
theorem M_twistlocklaw23_at_w (box : Int) (column : Int) (tier : Int) (r : Stowed) (h : M_twistlocklaw23_at box column tier = some r) : Pure Try.prog 24 [I64 box, I64 column, I64 tier] (· = .agg (Stowed.cs r)) := by
 unfold M_twistlocklaw23_at at h
 refine Pure_ofG [.cell 6 82] Try.func24 rfl rfl ?_
 refine Js fun K1 hK1 => Jr ?_
 refine Jg (u := .ptr 1076 0) (A_allocZ 1076 [I64 0, I64 0, I64 0, U8 0] [.int .i64 0, .int .i64 0, .int .i64 0, .int .u8 0] tf_zero_82 ⟨.inl rfl, .inl rfl, .inl rfl, .inl rfl, trivial⟩ rfl rfl) ?_ rfl rfl rfl
 refine Jn (hK1 _ _ ?_)
 refine Js fun K2 hK2 => Jr ?_
 refine Jg (u := I64 box) (Am rfl rfl) ?_ rfl rfl rfl
 refine Jg (u := I64 column) (Am rfl rfl) ?_ rfl rfl rfl
 refine Jg (u := I64 tier) (Am rfl rfl) ?_ rfl rfl rfl
 refine Jg (u := .agg [I64 column, I64 tier, U8 0]) (A_buildZ (cs := [I64 column, I64 tier, U8 0]) [(0, 1), (1, 1), (2, 1)] [I64 0, I64 0, U8 0] [.int .i64 0, .int .i64 0, .int .u8 0] tf_places_80 tf_zero_80 ⟨.inl rfl, .inl rfl, .inl rfl, trivial⟩ rfl rfl) ?_ rfl rfl rfl
 refine Jg (u := .agg [I64 box, I64 column, I64 tier, U8 0]) (A_buildZ (cs := [I64 box, I64 column, I64 tier, U8 0]) [(0, 1), (1, 3)] [I64 0, I64 0, I64 0, U8 0] [.int .i64 0, .int .i64 0, .int .i64 0, .int .u8 0] tf_places_82 tf_zero_82 ⟨.inl rfl, .inl rfl, .inl rfl, .inl rfl, trivial⟩ rfl rfl) ?_ rfl rfl rfl
 refine JL_go0 (u := .junk) (A_store (u := .agg [I64 box, I64 column, I64 tier, U8 0]) (ds := [I64 box, I64 column, I64 tier, U8 0]) tf_size_82 rfl rfl rfl rfl rfl rfl rfl rfl) ?_ rfl rfl
 refine Jn (hK2 _ _ ?_)
 refine JC_ret ?_
 exact ⟨[.agg [I64 box, I64 column, I64 tier, U8 0]], [], trivial, rfl, ⟨⟨_, ⟨_, _, _, _, rfl, rfl, rfl, .inl ⟨tf_agg_82, rfl⟩⟩, .conv (.same rfl)⟩, trivial⟩, rfl, congrArg (fun r : Stowed => (.agg (Stowed.cs r) : AV)) (Option.some.inj h)⟩

def M_plan_Lifted (F : Nat) (s : Ship) (boxes : List Box) (before : List Stowed) (after : List Stowed) : Option ((List Int) × Int) :=
 bnd (M_stow_Right s boxes before) fun r4 =>
 bnd (bif (!(!r4)) then M_stow_Right s boxes after else some default) fun r5 =>
 bif ((!r4) || (!r5)) then
 (some ([], 2))
 else
 (bnd (M_plan_lifted F s before after) fun r8 =>
  some (r8, 0))
theorem M_plan_Lifted_w (F : Nat) (s : Ship) (boxes : List Box) (before : List Stowed) (after : List Stowed) (r : (List Int) × Int) (h : M_plan_Lifted F s boxes before after = some r) : Pure Try.prog 7 [.agg [LS 12 Column.av s.Columns, LS 2 Cover.av s.Covers, I64 s.Light.Kilos, I64 s.Light.X, I64 s.Light.Y, I64 s.Light.Z, LS 5 Row.av s.Rows, LS 5 Frame.av s.Frames, LS 6 Tank.av s.Tanks, I64 s.Limits.Tolerance, I64 s.Limits.Trim, I64 s.Limits.List_, I64 s.Limits.Stability], LS 9 Box.av boxes, LS 4 Stowed.av before, LS 4 Stowed.av after] (· = .tup [LS 1 I64 r.1, I64 r.2]) := by
 unfold M_plan_Lifted at h
 refine Pure_ofG [.tmp 8, .tmp 9] Try.func7 rfl rfl ?_
 refine Js fun K1 hK1 => Jr ?_
 refine Jg (u := .ptr 1020 0) (A_box (u := .agg [LS 12 Column.av s.Columns, LS 2 Cover.av s.Covers, I64 s.Light.Kilos, I64 s.Light.X, I64 s.Light.Y, I64 s.Light.Z, LS 5 Row.av s.Rows, LS 5 Frame.av s.Frames, LS 6 Tank.av s.Tanks, I64 s.Limits.Tolerance, I64 s.Limits.Trim, I64 s.Limits.List_, I64 s.Limits.Stability]) (cs := [LS 12 Column.av s.Columns, LS 2 Cover.av s.Covers, I64 s.Light.Kilos, I64 s.Light.X, I64 s.Light.Y, I64 s.Light.Z, LS 5 Row.av s.Rows, LS 5 Frame.av s.Frames, LS 6 Tank.av s.Tanks, I64 s.Limits.Tolerance, I64 s.Limits.Trim, I64 s.Limits.List_, I64 s.Limits.Stability]) 1020 rfl rfl rfl rfl rfl) ?_ rfl rfl rfl
 refine Jg (u := LS 1 I64 ([] : List Int)) (A_nilList 1 rfl rfl) ?_ rfl rfl rfl
 refine Jg (u := I64 0) (Aa rfl rfl) ?_ rfl rfl rfl
 refine Jn (hK1 _ _ ?_)
 refine JC_freeze [(1, LS 9 Box.av boxes), (2, LS 4 Stowed.av before), (3, LS 4 Stowed.av after), (4, .dptr [LS 12 Column.av s.Columns, LS 2 Cover.av s.Covers, I64 s.Light.Kilos, I64 s.Light.X, I64 s.Light.Y, I64 s.Light.Z, LS 5 Row.av s.Rows, LS 5 Frame.av s.Frames, LS 6 Tank.av s.Tanks, I64 s.Limits.Tolerance, I64 s.Limits.Trim, I64 s.Limits.List_, I64 s.Limits.Stability])] [] 1020 rfl rfl rfl trivial rfl (by exact ⟨.conv (.same rfl), .conv (.same rfl), .conv (.same rfl), .ptr, trivial⟩) ?_
 refine Js (fun K2 hK2 => ?_)
 refine Js fun K3 hK3 => Jr ?_
 refine Jg (u := .agg [LS 12 Column.av s.Columns, LS 2 Cover.av s.Covers, I64 s.Light.Kilos, I64 s.Light.X, I64 s.Light.Y, I64 s.Light.Z, LS 5 Row.av s.Rows, LS 5 Frame.av s.Frames, LS 6 Tank.av s.Tanks, I64 s.Limits.Tolerance, I64 s.Limits.Trim, I64 s.Limits.List_, I64 s.Limits.Stability]) (A_loadAgg tf_agg_35 rfl rfl rfl) ?_ rfl rfl rfl
 refine Jg (u := LS 9 Box.av boxes) (Am rfl rfl) ?_ rfl rfl rfl
 refine Jg (u := LS 4 Stowed.av before) (Am rfl rfl) ?_ rfl rfl rfl
 obtain ⟨r4, hr4, h⟩ := bnd_out h
 refine Jg (u := BL r4) (A_call1 (args := [.agg [LS 12 Column.av s.Columns, LS 2 Cover.av s.Covers, I64 s.Light.Kilos, I64 s.Light.X, I64 s.Light.Y, I64 s.Light.Z, LS 5 Row.av s.Rows, LS 5 Frame.av s.Frames, LS 6 Tank.av s.Tanks, I64 s.Limits.Tolerance, I64 s.Limits.Trim, I64 s.Limits.List_, I64 s.Limits.Stability], LS 9 Box.av boxes, LS 4 Stowed.av before]) rfl (M_stow_Right_w s boxes before r4 hr4) tf_call_19 ⟨rfl, rfl, rfl, rfl, rfl, rfl, trivial⟩) ?_ rfl rfl rfl
 refine Jg (u := BL (!r4)) (A_not (b := r4) rfl rfl) ?_ rfl rfl rfl
 refine Jg (u := BL (!r4)) (Am rfl rfl) ?_ rfl rfl rfl
 refine JL_opt (u := .agg [LS 12 Column.av s.Columns, LS 2 Cover.av s.Covers, I64 s.Light.Kilos, I64 s.Light.X, I64 s.Light.Y, I64 s.Light.Z, LS 5 Row.av s.Rows, LS 5 Frame.av s.Frames, LS 6 Tank.av s.Tanks, I64 s.Limits.Tolerance, I64 s.Limits.Trim, I64 s.Limits.List_, I64 s.Limits.Stability]) [] rfl rfl rfl .scf trivial (fun hc => A_loadAgg tf_agg_35 rfl rfl rfl) ?_ rfl rfl rfl
 refine JL_opt (u := LS 9 Box.av boxes) [] rfl rfl rfl .scf trivial (fun hc => Am rfl rfl) ?_ rfl rfl rfl
 refine JL_opt (u := LS 4 Stowed.av after) [] rfl rfl rfl .scf trivial (fun hc => Am rfl rfl) ?_ rfl rfl rfl
 obtain ⟨r5, hr5, h⟩ := bnd_out h
 refine JL_opt (u := BL r5) [(16, .agg [LS 12 Column.av s.Columns, LS 2 Cover.av s.Covers, I64 s.Light.Kilos, I64 s.Light.X, I64 s.Light.Y, I64 s.Light.Z, LS 5 Row.av s.Rows, LS 5 Frame.av s.Frames, LS 6 Tank.av s.Tanks, I64 s.Limits.Tolerance, I64 s.Limits.Trim, I64 s.Limits.List_, I64 s.Limits.Stability]), (17, LS 9 Box.av boxes), (18, LS 4 Stowed.av after)] rfl rfl rfl .scf ⟨.all id, .all id, .all id, trivial⟩ (fun hc => A_call1 (args := [.agg [LS 12 Column.av s.Columns, LS 2 Cover.av s.Covers, I64 s.Light.Kilos, I64 s.Light.X, I64 s.Light.Y, I64 s.Light.Z, LS 5 Row.av s.Rows, LS 5 Frame.av s.Frames, LS 6 Tank.av s.Tanks, I64 s.Limits.Tolerance, I64 s.Limits.Trim, I64 s.Limits.List_, I64 s.Limits.Stability], LS 9 Box.av boxes, LS 4 Stowed.av after]) rfl (M_stow_Right_w s boxes after r5 (bif_t hc hr5)) tf_call_19 ⟨rfl, rfl, rfl, rfl, rfl, rfl, trivial⟩) ?_ rfl rfl rfl
 refine JL_opt (u := BL (!r5)) [(19, BL r5)] rfl rfl rfl .scf ⟨.all id, trivial⟩ (fun hc => A_not (b := r5) rfl rfl) ?_ rfl rfl rfl
 refine Jg (u := BL ((!r4) || (!r5))) (A_or rfl rfl rfl rfl) ?_ rfl rfl rfl
 refine Jn (hK3 _ _ ?_)
 refine JC_cond rfl (fun hb => ?_) (fun hb => ?_)
 ·
  replace h := bif_t hb h
  refine Js fun K6 hK6 => Jr ?_
  refine Jg (u := LS 1 I64 ([] : List Int)) (A_nilList 1 rfl rfl) ?_ rfl rfl rfl
  refine Jg (u := I64 2) (Aa rfl rfl) ?_ rfl rfl rfl
  refine Jn (hK6 _ _ ?_)
  refine JC_ret ?_
  exact ⟨[LS 1 I64 ([] : List Int), I64 2], [], trivial, rfl, ⟨⟨_, rfl, .conv (.same rfl)⟩, ⟨_, rfl, .conv (.same rfl)⟩, trivial⟩, rfl, congrArg (fun r : (List Int) × Int => (.tup [LS 1 I64 r.1, I64 r.2] : AV)) (Option.some.inj h)⟩
 ·
  replace h := bif_f hb h
  refine JC_skip ?_
  refine hK2 _ _ ?_
  refine Js fun K7 hK7 => Jr ?_
  refine Jg (u := .agg [LS 12 Column.av s.Columns, LS 2 Cover.av s.Covers, I64 s.Light.Kilos, I64 s.Light.X, I64 s.Light.Y, I64 s.Light.Z, LS 5 Row.av s.Rows, LS 5 Frame.av s.Frames, LS 6 Tank.av s.Tanks, I64 s.Limits.Tolerance, I64 s.Limits.Trim, I64 s.Limits.List_, I64 s.Limits.Stability]) (A_loadAgg tf_agg_35 rfl rfl rfl) ?_ rfl rfl rfl
  refine Jg (u := LS 4 Stowed.av before) (Am rfl rfl) ?_ rfl rfl rfl
  refine Jg (u := LS 4 Stowed.av after) (Am rfl rfl) ?_ rfl rfl rfl
  obtain ⟨r8, hr8, h⟩ := bnd_out h
  refine Jg (u := LS 1 I64 r8) (A_call1 (args := [.agg [LS 12 Column.av s.Columns, LS 2 Cover.av s.Covers, I64 s.Light.Kilos, I64 s.Light.X, I64 s.Light.Y, I64 s.Light.Z, LS 5 Row.av s.Rows, LS 5 Frame.av s.Frames, LS 6 Tank.av s.Tanks, I64 s.Limits.Tolerance, I64 s.Limits.Trim, I64 s.Limits.List_, I64 s.Limits.Stability], LS 4 Stowed.av before, LS 4 Stowed.av after]) rfl (M_plan_lifted_w F s before after r8 hr8) tf_call_20 ⟨rfl, rfl, rfl, rfl, rfl, rfl, trivial⟩) ?_ rfl rfl rfl
  refine Jg (u := LS 1 I64 r8) (Aa rfl rfl) ?_ rfl rfl rfl
  refine Jg (u := I64 0) (Aa rfl rfl) ?_ rfl rfl rfl
  refine Jn (hK7 _ _ ?_)
  refine JC_ret ?_
  exact ⟨[LS 1 I64 r8, I64 0], [], trivial, rfl, ⟨⟨_, rfl, .conv (.same rfl)⟩, ⟨_, rfl, .conv (.same rfl)⟩, trivial⟩, rfl, congrArg (fun r : (List Int) × Int => (.tup [LS 1 I64 r.1, I64 r.2] : AV)) (Option.some.inj h)⟩

def M_twistlockkit_SameInts (a : List Int) (b : List Int) : Option Bool :=
 bif decide ((a.length : Int) ≠ (b.length : Int)) then
 (some false)
 else
 (each (fun y24 i24 (s24 : Unit) nx24 =>
   gidx b (i24 : Int) fun y29 =>
   bif decide (y24 ≠ y29) then
   (some false)
   else
   (nx24 ()))
  (fun (s24 : Unit) =>
   some true) a 0 ())
theorem M_twistlockkit_SameInts_w (a : List Int) (b : List Int) (r : Bool) (h : M_twistlockkit_SameInts a b = some r) : Pure Try.prog 8 [LS 1 I64 a, LS 1 I64 b] (· = BL r) := by
 unfold M_twistlockkit_SameInts at h
 refine Pure_ofG [.tmp 4] Try.func8 rfl rfl ?_
 refine Js fun K1 hK1 => Jr ?_
 refine Jg (u := BL false) (Aa rfl rfl) ?_ rfl rfl rfl
 refine Jn (hK1 _ _ ?_)
 refine Js (fun K2 hK2 => ?_)
 refine Js fun K3 hK3 => Jr ?_
 refine Jg (u := LS 1 I64 a) (Am rfl rfl) ?_ rfl rfl rfl
 refine JL_lenM (f := I64) (xs := a) tf_slice_43 rfl rfl (fun hm7 => ?_) rfl rfl rfl
 refine Jg (u := LS 1 I64 b) (Am rfl rfl) ?_ rfl rfl rfl
 refine JL_lenM (f := I64) (xs := b) tf_slice_43 rfl rfl (fun hm9 => ?_) rfl rfl rfl
 refine Jg (u := BL (decide ((a.length : Int) ≠ (b.length : Int)))) (A_neq rfl rfl rfl) ?_ rfl rfl rfl
 refine Jn (hK3 _ _ ?_)
 refine JC_cond rfl (fun hb => ?_) (fun hb => ?_)
 ·
  replace h := bif_t hb h
  refine Js fun K4 hK4 => Jr ?_
  refine Jg (u := BL false) (Aa rfl rfl) ?_ rfl rfl rfl
  refine Jn (hK4 _ _ ?_)
  refine JC_ret ?_
  exact ⟨[BL false], [], trivial, rfl, ⟨⟨_, rfl, .conv (.same rfl)⟩, trivial⟩, rfl, congrArg (fun r : Bool => (BL r : AV)) (Option.some.inj h)⟩
 ·
  replace h := bif_f hb h
  refine JC_skip ?_
  refine hK2 _ _ ?_
  refine Js (fun K5 hK5 => ?_)
  refine Js fun K6 hK6 => Jr ?_
  refine Jg (u := I64 0) (Aa rfl rfl) ?_ rfl rfl rfl
  refine Jn (hK6 _ _ ?_)
  refine JC_block ?_
  obtain ⟨b24, kx24, hb24, hkx24, h⟩ := each_in h
  refine JC_loop2 (fun i24 (s24 : Unit) => each b24 kx24 (List.drop i24 a) i24 s24 = some r) (fun i24 s24 => [(0, LS 1 I64 a), (1, LS 1 I64 b), (5, I64 (i24 : Int))]) (fun i24 s24 => []) (fun i24 => a.length - i24) 0 () h ⟨⟨.same rfl, .same rfl, .same rfl, trivial⟩, trivial, rfl⟩ ?_
  clear h
  intro i24 s24 hi24 K24 e24
  refine Js (fun K25 hK25 => ?_)
  refine Js fun K26 hK26 => Jr ?_
  refine Jg (u := I64 (i24 : Int)) (Am rfl rfl) ?_ rfl rfl rfl
  refine Jg (u := LS 1 I64 a) (Am rfl rfl) ?_ rfl rfl rfl
  refine JL_lenM (f := I64) (xs := a) tf_slice_43 rfl rfl (fun hm13 => ?_) rfl rfl rfl
  refine Jg (u := BL (decide ((i24 : Int) < (a.length : Int)))) (A_lss rfl rfl rfl) ?_ rfl rfl rfl
  refine Jn (hK26 _ _ ?_)
  refine JC_cond rfl (fun hb => ?_) (fun hb => ?_)
  ·
   have hk24 := lt_len hb
   obtain ⟨y24, nx24, hy24, hn24, h⟩ := each_out hi24 hk24
   replace h := app4 hb24 h
   refine JC_skip ?_
   refine hK25 _ _ ?_
   refine Js (fun K27 hK27 => ?_)
   refine JC_block ?_
   refine Js (fun K28 hK28 => ?_)
   obtain ⟨m30, y29, hm30, hy29, h⟩ := gidx_out h
   refine JC_draw [] [0, 0, 0, 0, 0, 0, 0, 0, 0] [0, 0, 0, 0, 0, 0, 0, 0, 0] [[]] tf_mixed (by kernel_rfl) rfl rfl ?_
   refine D_ro (u := LS 1 I64 a) rfl rfl ⟨O_go (Am rfl rfl) rfl, trivial⟩ ?_ rfl
   refine D_ro (u := I64 (i24 : Int)) rfl rfl ⟨O_go (Am rfl rfl) rfl, trivial⟩ ?_ rfl
   refine D_ro (u := .dptr [I64 y24]) rfl rfl ⟨O_go (A_indexM (f := I64) (xs := a) (y := y24) rfl rfl rfl tf_slice_43 hy24 rfl) rfl, trivial⟩ ?_ rfl
   refine D_ro (u := I64 y24) rfl rfl ⟨O_go (A_load tf_scalar_3 rfl rfl rfl) rfl, trivial⟩ ?_ rfl
   refine D_ro (u := LS 1 I64 b) rfl rfl ⟨O_go (Am rfl rfl) rfl, trivial⟩ ?_ rfl
   refine D_ro (u := I64 (i24 : Int)) rfl rfl ⟨O_go (Am rfl rfl) rfl, trivial⟩ ?_ rfl
   refine D_ro (u := .dptr [I64 y29]) rfl rfl ⟨O_go (A_indexM (f := I64) (xs := b) (y := y29) rfl rfl rfl tf_slice_43 hy29 hm30) rfl, trivial⟩ ?_ rfl
   refine D_ro (u := I64 y29) rfl rfl ⟨O_go (A_load tf_scalar_3 rfl rfl rfl) rfl, trivial⟩ ?_ rfl
   refine D_ro (u := BL (decide (y24 ≠ y29))) rfl rfl ⟨O_go (A_neq rfl rfl rfl) rfl, trivial⟩ ?_ rfl
   refine D_nil ?_
   refine hK28 _ _ ?_
   refine JC_cond rfl (fun hb => ?_) (fun hb => ?_)
   ·
    replace h := bif_t hb h
    refine Js fun K31 hK31 => Jr ?_
    refine Jg (u := BL false) (Aa rfl rfl) ?_ rfl rfl rfl
    refine Jn (hK31 _ _ ?_)
    refine JC_ret ?_
    exact ⟨[BL false], [], trivial, rfl, ⟨⟨_, rfl, .conv (.same rfl)⟩, trivial⟩, rfl, congrArg (fun r : Bool => (BL r : AV)) (Option.some.inj h)⟩
   ·
    replace h := bif_f hb h
    refine JC_skip ?_
    refine hK27 _ _ ?_
    refine Jr ?_
    refine Jg (u := I64 (i24 : Int)) (Am rfl rfl) ?_ rfl rfl rfl
    refine Jg (u := I64 ((i24 + 1 : Nat) : Int)) (A_add (idx_succ hk24 hm13) rfl rfl rfl) ?_ rfl rfl rfl
    refine Jg (u := I64 ((i24 + 1 : Nat) : Int)) (Aa rfl rfl) ?_ rfl rfl rfl
    refine Jn ?_
    exact e24 _ _ (i24 + 1) () (app1 hn24 h) (by omega) ⟨⟨.same rfl, .same rfl, .same rfl, trivial⟩, trivial, rfl⟩
  ·
   have h := app1 hkx24 (each_nil hi24 (not_lt_len hb))
   refine JC_exit ?_
   refine hK5 _ _ ?_
   refine Js fun K32 hK32 => Jr ?_
   refine Jg (u := BL true) (Aa rfl rfl) ?_ rfl rfl rfl
   refine Jn (hK32 _ _ ?_)
   refine JC_ret ?_
   exact ⟨[BL true], [], trivial, rfl, ⟨⟨_, rfl, .conv (.same rfl)⟩, trivial⟩, rfl, congrArg (fun r : Bool => (BL r : AV)) (Option.some.inj h)⟩
end
end Go.Proofs.Ytbpgdkibmejibaa
