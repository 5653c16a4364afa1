/-
 Models of functions of the program, and that they return what the models say.
-/
import Derived.Test.YtbpgdkibmejibaaProg
import Derived.Test.YtbpgdkibmejibaaSortM
import Derived.Test.YtbpgdkibmejibaaSortLay
import Derived.Test.YtbpgdkibmejibaaRel
import Derived.Test.YtbpgdkibmejibaaLit0
import Derived.Test.YtbpgdkibmejibaaXA
import Derived.Test.YtbpgdkibmejibaaSpecA
import Derived.Test.YtbpgdkibmejibaaSpecI
set_option maxRecDepth 100000
set_option linter.unusedVariables false
set_option linter.unusedSimpArgs false
namespace Go.Proofs.Ytbpgdkibmejibaa
open Go.RowKit
noncomputable section
structure law07_Place where
 Bay : Int
 Row : Int
 Tiers : Int
 Deck : Bool
 deriving DecidableEq, Inhabited
def law07_Place.cs (x : law07_Place) : List AV := [U8 x.Bay, U8 x.Row, U8 x.Tiers, BL x.Deck]
def law07_Place.av (x : law07_Place) : AV := .agg x.cs
structure Box where
 ID : Int
 Number : ByteArray
 Size : Int
 High : Bool
 Kilos : Int
 Load : Int
 Discharge : Int
 Class : Int
 Reefer : Bool
 deriving DecidableEq, Inhabited
def Box.cs (x : Box) : List AV := [I64 x.ID, ST x.Number, U8 x.Size, BL x.High, I64 x.Kilos, I64 x.Load, I64 x.Discharge, U8 x.Class, BL x.Reefer]
def Box.av (x : Box) : AV := .agg x.cs
structure law23_Item where
 Column : Int
 Kilos : Int
 Load : Int
 Stay : Int
 Small : Bool
 High : Bool
 deriving DecidableEq, Inhabited
def law23_Item.cs (x : law23_Item) : List AV := [U8 x.Column, U8 x.Kilos, U8 x.Load, U8 x.Stay, BL x.Small, BL x.High]
def law23_Item.av (x : law23_Item) : AV := .agg x.cs
namespace XDF
open XAF
theorem tq_80 (a b : Slot) : eqAt Try.prog 4 80 [.int .i64 a.Column, .int .i64 a.Tier, .int .u8 a.Half] [.int .i64 b.Column, .int .i64 b.Tier, .int .u8 b.Half] = some (decide (a = b)) := by
 refine (show _ = some ((a.Column == b.Column) && ((a.Tier == b.Tier) && ((a.Half == b.Half) && true))) by kernel_rfl).trans (congrArg some ?_)
 rw [Bool.eq_iff_iff]
 simp only [Bool.and_eq_true, beq_iff_eq, decide_eq_true_eq, Bool.and_true]
 constructor
 ·intro h; obtain ⟨_, _, _⟩ := a; obtain ⟨_, _, _⟩ := b; simp_all
 ·intro h; subst h; simp
theorem tf_agg_35 : aggB Try.prog 35 13 = true := by kernel_rfl
theorem tf_agg_50 : aggB Try.prog 50 9 = true := by kernel_rfl
theorem tf_agg_59 : aggB Try.prog 59 2 = true := by kernel_rfl
theorem tf_agg_70 : aggB Try.prog 70 4 = true := by kernel_rfl
theorem tf_agg_80 : aggB Try.prog 80 3 = true := by kernel_rfl
theorem tf_agg_82 : aggB Try.prog 82 4 = true := by kernel_rfl
theorem tf_aggof_80 : aggOf Try.prog 80 = true := by kernel_rfl
theorem tf_bool_4 : boolB Try.prog 4 = true := by kernel_rfl
theorem tf_call_11 : callB Try.prog 11 = true := by kernel_rfl
theorem tf_call_12 : callB Try.prog 12 = true := by kernel_rfl
theorem tf_call_14 : callB Try.prog 14 = true := by kernel_rfl
theorem tf_call_15 : callB Try.prog 15 = true := by kernel_rfl
theorem tf_call_17 : callB Try.prog 17 = true := by kernel_rfl
theorem tf_call_18 : callB Try.prog 18 = true := by kernel_rfl
theorem tf_call_19 : callB Try.prog 19 = true := by kernel_rfl
theorem tf_call_20 : callB Try.prog 20 = true := by kernel_rfl
theorem tf_call_22 : callB Try.prog 22 = true := by kernel_rfl
theorem tf_call_23 : callB Try.prog 23 = true := by kernel_rfl
theorem tf_call_24 : callB Try.prog 24 = true := by kernel_rfl
theorem tf_call_25 : callB Try.prog 25 = true := by kernel_rfl
theorem tf_call_26 : callB Try.prog 26 = true := by kernel_rfl
theorem tf_call_28 : callB Try.prog 28 = true := by kernel_rfl
theorem tf_call_29 : callB Try.prog 29 = true := by kernel_rfl
theorem tf_call_30 : callB Try.prog 30 = true := by kernel_rfl
theorem tf_call_31 : callB Try.prog 31 = true := by kernel_rfl
theorem tf_call_32 : callB Try.prog 32 = true := by kernel_rfl
theorem tf_call_33 : callB Try.prog 33 = true := by kernel_rfl
theorem tf_call_34 : callB Try.prog 34 = true := by kernel_rfl
theorem tf_call_35 : callB Try.prog 35 = true := by kernel_rfl
theorem tf_call_36 : callB Try.prog 36 = true := by kernel_rfl
theorem tf_call_37 : callB Try.prog 37 = true := by kernel_rfl
theorem tf_call_38 : callB Try.prog 38 = true := by kernel_rfl
theorem tf_call_39 : callB Try.prog 39 = true := by kernel_rfl
theorem tf_call_40 : callB Try.prog 40 = true := by kernel_rfl
theorem tf_call_41 : callB Try.prog 41 = true := by kernel_rfl
theorem tf_call_42 : callB Try.prog 42 = true := by kernel_rfl
theorem tf_call_43 : callB Try.prog 43 = true := by kernel_rfl
theorem tf_call_44 : callB Try.prog 44 = true := by kernel_rfl
theorem tf_call_45 : callB Try.prog 45 = true := by kernel_rfl
theorem tf_call_46 : callB Try.prog 46 = true := by kernel_rfl
theorem tf_call_47 : callB Try.prog 47 = true := by kernel_rfl
theorem tf_call_48 : callB Try.prog 48 = true := by kernel_rfl
theorem tf_call_49 : callB Try.prog 49 = true := by kernel_rfl
theorem tf_call_5 : callB Try.prog 5 = true := by kernel_rfl
theorem tf_call_51 : callB Try.prog 51 = true := by kernel_rfl
theorem tf_call_52 : callB Try.prog 52 = true := by kernel_rfl
theorem tf_call_53 : callB Try.prog 53 = true := by kernel_rfl
theorem tf_call_54 : callB Try.prog 54 = true := by kernel_rfl
theorem tf_call_55 : callB Try.prog 55 = true := by kernel_rfl
theorem tf_call_58 : callB Try.prog 58 = true := by kernel_rfl
theorem tf_call_59 : callB Try.prog 59 = true := by kernel_rfl
theorem tf_call_60 : callB Try.prog 60 = true := by kernel_rfl
theorem tf_call_61 : callB Try.prog 61 = true := by kernel_rfl
theorem tf_call_62 : callB Try.prog 62 = true := by kernel_rfl
theorem tf_call_63 : callB Try.prog 63 = true := by kernel_rfl
theorem tf_call_64 : callB Try.prog 64 = true := by kernel_rfl
theorem tf_call_65 : callB Try.prog 65 = true := by kernel_rfl
theorem tf_call_66 : callB Try.prog 66 = true := by kernel_rfl
theorem tf_call_7 : callB Try.prog 7 = true := by kernel_rfl
theorem tf_call_70 : callB Try.prog 70 = true := by kernel_rfl
theorem tf_call_71 : callB Try.prog 71 = true := by kernel_rfl
theorem tf_call_72 : callB Try.prog 72 = true := by kernel_rfl
theorem tf_call_73 : callB Try.prog 73 = true := by kernel_rfl
theorem tf_call_74 : callB Try.prog 74 = true := by kernel_rfl
theorem tf_call_8 : callB Try.prog 8 = true := by kernel_rfl
theorem tf_elem_3 : elemB Try.prog 3 1 8 = true := by kernel_rfl
theorem tf_elem_43 : elemB Try.prog 43 1 24 = true := by kernel_rfl
theorem tf_elem_50 : elemB Try.prog 50 9 64 = true := by kernel_rfl
theorem tf_elem_72 : elemB Try.prog 72 12 112 = true := by kernel_rfl
theorem tf_elem_76 : elemB Try.prog 76 2 32 = true := by kernel_rfl
theorem tf_elem_80 : elemB Try.prog 80 3 24 = true := by kernel_rfl
theorem tf_elem_82 : elemB Try.prog 82 4 32 = true := by kernel_rfl
theorem tf_eqg_80 : Try.prog.eqGuardType Try.prog.depth 80 = false := by kernel_rfl
theorem tf_field_50_0 : fieldB Try.prog 50 0 0 = true := by kernel_rfl
theorem tf_field_50_2 : fieldB Try.prog 50 2 2 = true := by kernel_rfl
theorem tf_field_50_3 : fieldB Try.prog 50 3 3 = true := by kernel_rfl
theorem tf_field_50_5 : fieldB Try.prog 50 5 5 = true := by kernel_rfl
theorem tf_field_50_6 : fieldB Try.prog 50 6 6 = true := by kernel_rfl
theorem tf_field_70_0 : fieldB Try.prog 70 0 0 = true := by kernel_rfl
theorem tf_field_70_1 : fieldB Try.prog 70 1 1 = true := by kernel_rfl
theorem tf_field_70_2 : fieldB Try.prog 70 2 2 = true := by kernel_rfl
theorem tf_field_70_3 : fieldB Try.prog 70 3 3 = true := by kernel_rfl
theorem tf_field_80_0 : fieldB Try.prog 80 0 0 = true := by kernel_rfl
theorem tf_field_80_1 : fieldB Try.prog 80 1 1 = true := by kernel_rfl
theorem tf_field_80_2 : fieldB Try.prog 80 2 2 = true := by kernel_rfl
theorem tf_field_82_0 : fieldB Try.prog 82 0 0 = true := by kernel_rfl
theorem tf_field_82_1 : fieldB Try.prog 82 1 1 = true := by kernel_rfl
theorem tf_int_3 : intB Try.prog 3 .i64 = true := by kernel_rfl
theorem tf_int_5 : intB Try.prog 5 .u8 = true := by kernel_rfl
theorem tf_map_113 : mapB Try.prog 113 3 137 = true := by kernel_rfl
theorem tf_places_137 : placesOf Try.prog 137 = some [] := by kernel_rfl
theorem tf_places_35 : placesOf Try.prog 35 = some [(0, 1), (1, 1), (2, 4), (6, 1), (7, 1), (8, 1), (9, 4)] := by kernel_rfl
theorem tf_places_50 : placesOf Try.prog 50 = some [(0, 1), (1, 1), (2, 1), (3, 1), (4, 1), (5, 1), (6, 1), (7, 1), (8, 1)] := by kernel_rfl
theorem tf_places_59 : placesOf Try.prog 59 = some [(0, 1), (1, 1)] := by kernel_rfl
theorem tf_places_72 : placesOf Try.prog 72 = some [(0, 1), (1, 1), (2, 1), (3, 1), (4, 1), (5, 1), (6, 1), (7, 1), (8, 1), (9, 1), (10, 1), (11, 1)] := by kernel_rfl
theorem tf_places_76 : placesOf Try.prog 76 = some [(0, 1), (1, 1)] := by kernel_rfl
theorem tf_places_82 : placesOf Try.prog 82 = some [(0, 1), (1, 3)] := by kernel_rfl
theorem tf_scalar_113 : scalarB Try.prog 113 = true := by kernel_rfl
theorem tf_scalar_114 : scalarB Try.prog 114 = true := by kernel_rfl
theorem tf_scalar_57 : scalarB Try.prog 57 = true := by kernel_rfl
theorem tf_scalar_77 : scalarB Try.prog 77 = true := by kernel_rfl
theorem tf_size_113 : sizeB Try.prog 113 1 = true := by kernel_rfl
theorem tf_size_114 : sizeB Try.prog 114 1 = true := by kernel_rfl
theorem tf_size_137 : sizeB Try.prog 137 0 = true := by kernel_rfl
theorem tf_size_25 : sizeB Try.prog 25 1 = true := by kernel_rfl
theorem tf_size_26 : sizeB Try.prog 26 1 = true := by kernel_rfl
theorem tf_size_3 : sizeB Try.prog 3 1 = true := by kernel_rfl
theorem tf_size_35 : sizeB Try.prog 35 13 = true := by kernel_rfl
theorem tf_size_4 : sizeB Try.prog 4 1 = true := by kernel_rfl
theorem tf_size_40 : sizeB Try.prog 40 1 = true := by kernel_rfl
theorem tf_size_43 : sizeB Try.prog 43 1 = true := by kernel_rfl
theorem tf_size_5 : sizeB Try.prog 5 1 = true := by kernel_rfl
theorem tf_size_50 : sizeB Try.prog 50 9 = true := by kernel_rfl
theorem tf_size_56 : sizeB Try.prog 56 1 = true := by kernel_rfl
theorem tf_size_57 : sizeB Try.prog 57 1 = true := by kernel_rfl
theorem tf_size_59 : sizeB Try.prog 59 2 = true := by kernel_rfl
theorem tf_size_70 : sizeB Try.prog 70 4 = true := by kernel_rfl
theorem tf_size_77 : sizeB Try.prog 77 1 = true := by kernel_rfl
theorem tf_size_80 : sizeB Try.prog 80 3 = true := by kernel_rfl
theorem tf_size_82 : sizeB Try.prog 82 4 = true := by kernel_rfl
theorem tf_slice_22 : sliceB Try.prog 22 70 4 = true := by kernel_rfl
theorem tf_slice_39 : sliceB Try.prog 39 50 9 = true := by kernel_rfl
theorem tf_slice_40 : sliceB Try.prog 40 82 4 = true := by kernel_rfl
theorem tf_slice_57 : sliceB Try.prog 57 43 1 = true := by kernel_rfl
theorem tf_slice_77 : sliceB Try.prog 77 80 3 = true := by kernel_rfl
theorem tf_zero_137 : (Try.prog.info? 137).bind (fun i => i.zero.map Value.cells) = some (List.toArray []) := by kernel_rfl
theorem tf_zero_3 : (Try.prog.info? 3).bind (fun i => i.zero.map Value.cells) = some (List.toArray [.int .i64 0]) := by kernel_rfl
theorem tf_zero_35 : (Try.prog.info? 35).bind (fun i => i.zero.map Value.cells) = some (List.toArray [.slice none 0 0, .slice none 0 0, .int .i64 0, .int .i64 0, .int .i64 0, .int .i64 0, .slice none 0 0, .slice none 0 0, .slice none 0 0, .int .i64 0, .int .i64 0, .int .i64 0, .int .i64 0]) := by kernel_rfl
theorem tf_zero_43 : (Try.prog.info? 43).bind (fun i => i.zero.map Value.cells) = some (List.toArray [.slice none 0 0]) := by kernel_rfl
theorem tf_zero_50 : (Try.prog.info? 50).bind (fun i => i.zero.map Value.cells) = some (List.toArray [.int .i64 0, .string ByteArray.empty, .int .u8 0, .bool false, .int .i64 0, .int .i64 0, .int .i64 0, .int .u8 0, .bool false]) := by kernel_rfl
theorem tf_zero_57 : (Try.prog.info? 57).bind (fun i => i.zero.map Value.cells) = some (List.toArray [.slice none 0 0]) := by kernel_rfl
theorem tf_zero_59 : (Try.prog.info? 59).bind (fun i => i.zero.map Value.cells) = some (List.toArray [.slice none 0 0, .slice none 0 0]) := by kernel_rfl
theorem tf_zero_72 : (Try.prog.info? 72).bind (fun i => i.zero.map Value.cells) = some (List.toArray [.int .i64 0, .int .i64 0, .bool false, .int .i64 0, .int .i64 0, .int .i64 0, .int .i64 0, .int .i64 0, .slice none 0 0, .int .i64 0, .int .i64 0, .int .i64 0]) := by kernel_rfl
theorem tf_zero_76 : (Try.prog.info? 76).bind (fun i => i.zero.map Value.cells) = some (List.toArray [.int .i64 0, .slice none 0 0]) := by kernel_rfl
theorem tf_zero_77 : (Try.prog.info? 77).bind (fun i => i.zero.map Value.cells) = some (List.toArray [.slice none 0 0]) := by kernel_rfl
theorem tf_zero_82 : (Try.prog.info? 82).bind (fun i => i.zero.map Value.cells) = some (List.toArray [.int .i64 0, .int .i64 0, .int .i64 0, .int .u8 0]) := by kernel_rfl
theorem tf_zsize_113 : zsizeB Try.prog 113 1 = true := by kernel_rfl
theorem tf_zsize_114 : zsizeB Try.prog 114 1 = true := by kernel_rfl
theorem tf_zsize_137 : zsizeB Try.prog 137 0 = true := by kernel_rfl
theorem tf_zsize_3 : zsizeB Try.prog 3 1 = true := by kernel_rfl
theorem tf_zsize_35 : zsizeB Try.prog 35 13 = true := by kernel_rfl
theorem tf_zsize_40 : zsizeB Try.prog 40 1 = true := by kernel_rfl
theorem tf_zsize_43 : zsizeB Try.prog 43 1 = true := by kernel_rfl
theorem tf_zsize_50 : zsizeB Try.prog 50 9 = true := by kernel_rfl
theorem tf_zsize_56 : zsizeB Try.prog 56 1 = true := by kernel_rfl
theorem tf_zsize_59 : zsizeB Try.prog 59 2 = true := by kernel_rfl
theorem tf_zsize_70 : zsizeB Try.prog 70 4 = true := by kernel_rfl
theorem tf_zsize_80 : zsizeB Try.prog 80 3 = true := by kernel_rfl
theorem tf_zsize_82 : zsizeB Try.prog 82 4 = true := by kernel_rfl
theorem tf_zv_137 : (Try.prog.info? 137).bind (·.zero) = some (.agg #[]) := by kernel_rfl
theorem tk_3 : KeyL Try.prog 3 (fun n : Int => Value.int .i64 n) := KeyL.of_int (by kernel_rfl)
end XDF
open XAF
open XDF

def M_ship_Find_1 (c : Column) (p1 : Int) (p2 : Int) (p3 : Bool) : Option Bool :=
 some (((decide (c.Bay = p1)) && (decide (c.Row = p2))) && (c.Deck == p3))
theorem M_ship_Find_1_w (c : Column) (p1 : Int) (p2 : Int) (p3 : Bool) (r : Bool) (h : M_ship_Find_1 c p1 p2 p3 = some r) : Pure Try.prog 33 [.agg [I64 c.Bay, I64 c.Row, BL c.Deck, I64 c.Tiers, I64 c.Height, I64 c.Kilos20, I64 c.Kilos40, I64 c.Lash, LS 1 I64 c.Plugs, I64 c.X, I64 c.Y, I64 c.Z], .dptr [I64 p1], .dptr [I64 p2], .dptr [BL p3]] (· = BL r) := by
 unfold M_ship_Find_1 at h
 refine Pure_ofG [.tmp 5] Try.func33 rfl rfl ?_
 refine Js fun K1 hK1 => Jr ?_
 refine Jg (u := .ptr 1100 0) (A_box (u := .agg [I64 c.Bay, I64 c.Row, BL c.Deck, I64 c.Tiers, I64 c.Height, I64 c.Kilos20, I64 c.Kilos40, I64 c.Lash, LS 1 I64 c.Plugs, I64 c.X, I64 c.Y, I64 c.Z]) (cs := [I64 c.Bay, I64 c.Row, BL c.Deck, I64 c.Tiers, I64 c.Height, I64 c.Kilos20, I64 c.Kilos40, I64 c.Lash, LS 1 I64 c.Plugs, I64 c.X, I64 c.Y, I64 c.Z]) 1100 rfl rfl rfl rfl rfl) ?_ rfl rfl rfl
 refine Jg (u := BL false) (Aa rfl rfl) ?_ rfl rfl rfl
 refine Jn (hK1 _ _ ?_)
 refine JC_freeze [(1, .dptr [I64 p1]), (2, .dptr [I64 p2]), (3, .dptr [BL p3]), (4, .dptr [I64 c.Bay, I64 c.Row, BL c.Deck, I64 c.Tiers, I64 c.Height, I64 c.Kilos20, I64 c.Kilos40, I64 c.Lash, LS 1 I64 c.Plugs, I64 c.X, I64 c.Y, I64 c.Z])] [] 1100 rfl rfl rfl trivial rfl (by exact ⟨.conv (.same rfl), .conv (.same rfl), .conv (.same rfl), .ptr, trivial⟩) ?_
 refine Js fun K2 hK2 => Jr ?_
 refine Jg (u := .dptr [I64 c.Bay, I64 c.Row, BL c.Deck, I64 c.Tiers, I64 c.Height, I64 c.Kilos20, I64 c.Kilos40, I64 c.Lash, LS 1 I64 c.Plugs, I64 c.X, I64 c.Y, I64 c.Z]) (A_fieldM tf_field_72_0 rfl rfl rfl) ?_ rfl rfl rfl
 refine Jg (u := I64 c.Bay) (A_load tf_scalar_3 rfl rfl rfl) ?_ rfl rfl rfl
 refine Jg (u := I64 p1) (A_load tf_scalar_3 rfl rfl rfl) ?_ rfl rfl rfl
 refine Jg (u := BL (decide (c.Bay = p1))) (A_eql rfl rfl rfl) ?_ rfl rfl rfl
 refine Jg (u := BL (decide (c.Bay = p1))) (Am rfl rfl) ?_ rfl rfl rfl
 refine JL_opt (u := .dptr [I64 c.Row, BL c.Deck, I64 c.Tiers, I64 c.Height, I64 c.Kilos20, I64 c.Kilos40, I64 c.Lash, LS 1 I64 c.Plugs, I64 c.X, I64 c.Y, I64 c.Z]) [] rfl rfl rfl .sct trivial (fun hc => A_fieldM tf_field_72_1 rfl rfl rfl) ?_ rfl rfl rfl
 refine JL_opt (u := I64 c.Row) [(11, .dptr [I64 c.Row, BL c.Deck, I64 c.Tiers, I64 c.Height, I64 c.Kilos20, I64 c.Kilos40, I64 c.Lash, LS 1 I64 c.Plugs, I64 c.X, I64 c.Y, I64 c.Z])] rfl rfl rfl .sct ⟨.all id, trivial⟩ (fun hc => A_load tf_scalar_3 rfl rfl rfl) ?_ rfl rfl rfl
 refine JL_opt (u := I64 p2) [] rfl rfl rfl .sct trivial (fun hc => A_load tf_scalar_3 rfl rfl rfl) ?_ rfl rfl rfl
 refine JL_opt (u := BL (decide (c.Row = p2))) [(12, I64 c.Row), (13, I64 p2)] rfl rfl rfl .sct ⟨.all id, .all id, trivial⟩ (fun hc => A_eql rfl rfl rfl) ?_ rfl rfl rfl
 refine Jg (u := BL ((decide (c.Bay = p1)) && (decide (c.Row = p2)))) (A_and rfl rfl rfl rfl) ?_ rfl rfl rfl
 refine Jg (u := BL ((decide (c.Bay = p1)) && (decide (c.Row = p2)))) (Am rfl rfl) ?_ rfl rfl rfl
 refine JL_opt (u := .dptr [BL c.Deck, I64 c.Tiers, I64 c.Height, I64 c.Kilos20, I64 c.Kilos40, I64 c.Lash, LS 1 I64 c.Plugs, I64 c.X, I64 c.Y, I64 c.Z]) [] rfl rfl rfl .sct trivial (fun hc => A_fieldM tf_field_72_2 rfl rfl rfl) ?_ rfl rfl rfl
 refine JL_opt (u := BL c.Deck) [(17, .dptr [BL c.Deck, I64 c.Tiers, I64 c.Height, I64 c.Kilos20, I64 c.Kilos40, I64 c.Lash, LS 1 I64 c.Plugs, I64 c.X, I64 c.Y, I64 c.Z])] rfl rfl rfl .sct ⟨.all id, trivial⟩ (fun hc => A_load tf_scalar_4 rfl rfl rfl) ?_ rfl rfl rfl
 refine JL_opt (u := BL p3) [] rfl rfl rfl .sct trivial (fun hc => A_load tf_scalar_4 rfl rfl rfl) ?_ rfl rfl rfl
 refine JL_opt (u := BL (c.Deck == p3)) [(18, BL c.Deck), (19, BL p3)] rfl rfl rfl .sct ⟨.all id, .all id, trivial⟩ (fun hc => A_eqBool tf_bool_4 rfl rfl rfl) ?_ rfl rfl rfl
 refine Jg (u := BL (((decide (c.Bay = p1)) && (decide (c.Row = p2))) && (c.Deck == p3))) (A_and rfl rfl rfl rfl) ?_ rfl rfl rfl
 refine Jg (u := BL (((decide (c.Bay = p1)) && (decide (c.Row = p2))) && (c.Deck == p3))) (Aa rfl rfl) ?_ rfl rfl rfl
 refine Jn (hK2 _ _ ?_)
 refine JC_ret ?_
 exact ⟨[BL (((decide (c.Bay = p1)) && (decide (c.Row = p2))) && (c.Deck == p3))], [], trivial, rfl, ⟨⟨_, rfl, .conv (.same rfl)⟩, trivial⟩, rfl, congrArg (fun r : Bool => (BL r : AV)) (Option.some.inj h)⟩

def M_ship_chosen_apiColumn (l : List Column) (wanted : Column → Option Bool) : Option (List Int) :=
 each (fun y21 i21 (s21 : (List Int)) nx21 =>
  jp (fun kj24 =>
   bnd (wanted y21) fun r27 =>
   bif r27 then
   (need (decide ((s21.length + [(i21 : Int)].length) * 8 ≤ 140737488355328 ∧ s21.length + [(i21 : Int)].length ≤ maxLen)) <|
    kj24 (s21 ++ [(i21 : Int)]))
   else
   (kj24 s21)) fun (j24 : (List Int)) =>
  nx21 j24)
 (fun (s21 : (List Int)) =>
  some s21) l 0 []
theorem M_ship_chosen_apiColumn_w (l : List Column) (wanted : Column → Option Bool) (wanted_f : FuncId) (wanted_c : List AV) (wanted_B : callB Try.prog wanted_f = true) (wanted_d : refsL (fun _ => false) wanted_c = true) (wanted_w : ∀ a0 q, wanted a0 = some q → Pure Try.prog wanted_f ([.agg (Column.cs a0)] ++ wanted_c) (· = BL q)) (r : (List Int)) (h : M_ship_chosen_apiColumn l wanted = some r) : Pure Try.prog 32 [LS 12 Column.av l, .fn wanted_f wanted_c] (· = LS 1 I64 r) := by
 unfold M_ship_chosen_apiColumn at h
 refine Pure_ofG [.tmp 4] Try.func32 rfl rfl ?_
 refine Js fun K1 hK1 => Jr ?_
 refine Jg (u := LS 1 I64 ([] : List Int)) (A_nilList 1 rfl rfl) ?_ rfl rfl rfl
 refine Jn (hK1 _ _ ?_)
 refine Js fun K2 hK2 => Jr ?_
 refine Jg (u := OW 1098 1 I64 ([] : List Int)) (A_nilOwn 1098 3 1 rfl rfl rfl) ?_ rfl rfl rfl
 refine Jn (hK2 _ _ ?_)
 refine Js (fun K3 hK3 => ?_)
 refine Js fun K4 hK4 => Jr ?_
 refine Jg (u := LS 12 Column.av l) (Am rfl rfl) ?_ rfl rfl rfl
 refine JL_lenM (f := Column.av) (xs := l) tf_slice_25 rfl rfl (fun hm9 => ?_) rfl rfl rfl
 refine Jg (u := I64 0) (Am rfl rfl) ?_ rfl rfl rfl
 refine Jn (hK4 _ _ ?_)
 refine JC_block ?_
 obtain ⟨b21, kx21, hb21, hkx21, h⟩ := each_in h
 refine JC_loop2 (fun i21 (s21 : (List Int)) => each b21 kx21 (List.drop i21 l) i21 s21 = some r) (fun i21 s21 => [(1, .fn wanted_f wanted_c), (5, OW 1098 1 I64 s21), (8, LS 12 Column.av l), (9, I64 (l.length : Int)), (10, I64 (i21 : Int))]) (fun i21 s21 => [(1098, .spare 3 1 s21.length s21.length)]) (fun i21 => l.length - i21) 0 [] h ⟨⟨.same (refsL_any _ _ wanted_d), .same rfl, .same rfl, .same rfl, .same rfl, trivial⟩, ⟨⟨_, rfl, .same⟩, trivial⟩, rfl⟩ ?_
 clear h
 intro i21 s21 hi21 K21 e21
 refine Js fun K22 hK22 => Jr ?_
 refine Jg (u := BL (decide ((i21 : Int) < (l.length : Int)))) (A_lss rfl rfl rfl) ?_ rfl rfl rfl
 refine Jn (hK22 _ _ ?_)
 refine Js (fun K23 hK23 => ?_)
 refine JC_cond rfl (fun hb => ?_) (fun hb => ?_)
 ·
  have hk21 := lt_len hb
  obtain ⟨y21, nx21, hy21, hn21, h⟩ := each_out hi21 hk21
  replace h := app4 hb21 h
  refine JC_skip ?_
  refine hK23 _ _ ?_
  obtain ⟨kj24, hkj24, h⟩ := jp_out h
  refine JC_seqJ (fun j24 : (List Int) => kj24 j24 = some r) (fun j24 => [(1, .fn wanted_f wanted_c), (5, OW 1098 1 I64 j24), (8, LS 12 Column.av l), (9, I64 (l.length : Int)), (10, I64 (i21 : Int))]) (fun j24 => [(1098, .spare 3 1 j24.length j24.length)]) (fun Kj24 ej24 => ?_) ?_
  ·
   refine JC_block ?_
   refine Js fun K25 hK25 => Jr ?_
   refine Jg (u := I64 (i21 : Int)) (Am rfl rfl) ?_ rfl rfl rfl
   refine Jg (u := .dptr (Column.cs y21)) (A_indexM (f := Column.av) (xs := l) (y := y21) rfl rfl rfl tf_slice_25 hy21 rfl) ?_ rfl rfl rfl
   refine Jg (u := .agg (Column.cs y21)) (A_loadAgg tf_agg_72 rfl rfl rfl) ?_ rfl rfl rfl
   refine Jg (u := .ptr 1099 0) (A_allocJ 1099 12 tf_zsize_72 rfl rfl) ?_ rfl rfl rfl
   refine Jg (u := I64 (i21 : Int)) (Aa rfl rfl) ?_ rfl rfl rfl
   refine JL_go0 (u := .junk) (A_store (u := .agg (Column.cs y21)) (ds := [I64 y21.Bay, I64 y21.Row, BL y21.Deck, I64 y21.Tiers, I64 y21.Height, I64 y21.Kilos20, I64 y21.Kilos40, I64 y21.Lash, LS 1 I64 y21.Plugs, I64 y21.X, I64 y21.Y, I64 y21.Z]) tf_size_72 rfl rfl rfl rfl rfl rfl rfl rfl) ?_ rfl rfl
   refine Jn (hK25 _ _ ?_)
   refine JC_freeze [(1, .fn wanted_f wanted_c), (5, OW 1098 1 I64 s21), (6, I64 (i21 : Int)), (7, .dptr (Column.cs y21)), (8, LS 12 Column.av l), (9, I64 (l.length : Int)), (10, I64 (i21 : Int))] [(1098, .spare 3 1 s21.length s21.length)] 1099 rfl rfl rfl ⟨⟨_, rfl, .same⟩, trivial⟩ rfl (by exact ⟨.conv (.same (refsL_any _ _ wanted_d)), .conv (.same rfl), .conv (.same rfl), .ptr, .conv (.same rfl), .conv (.same rfl), .conv (.same rfl), trivial⟩) ?_
   refine Js fun K26 hK26 => Jr ?_
   refine Jg (u := .fn wanted_f wanted_c) (Am rfl rfl) ?_ rfl rfl rfl
   refine Jg (u := .agg (Column.cs y21)) (A_loadAgg tf_agg_72 rfl rfl rfl) ?_ rfl rfl rfl
   obtain ⟨r27, hr27, h⟩ := bnd_out h
   refine Jg (u := BL r27) (A_callV1 (args := [.agg (Column.cs y21)]) (caps := wanted_c) rfl rfl (wanted_w y21 _ hr27) wanted_B ⟨rfl, rfl, trivial⟩ wanted_d) ?_ rfl rfl rfl
   refine Jn (hK26 _ _ ?_)
   refine JC_cond rfl (fun hb => ?_) (fun hb => ?_)
   ·
    replace h := bif_t hb h
    refine Jr ?_
    refine Jg (u := OW 1098 1 I64 s21) (Am rfl rfl) ?_ rfl rfl rfl
    refine Jg (u := I64 (i21 : Int)) (Am rfl rfl) ?_ rfl rfl rfl
    refine Jg (u := LS 1 I64 [(i21 : Int)]) (A_buildSlice (xs := [I64 (i21 : Int)]) rfl ⟨rfl, rfl, trivial⟩ tf_slice_43 tf_zsize_3 rfl rfl rfl rfl) ?_ rfl rfl rfl
    obtain ⟨ha28, h⟩ := need_out h
    refine Jg (u := OW 1098 1 I64 (s21 ++ [(i21 : Int)])) (A_appendM (f := I64) (xs := s21) (ys := [(i21 : Int)]) rfl rfl rfl rfl tf_slice_43 tf_elem_3 ha28 (fun _ => rfl) (.inl rfl) rfl) ?_ rfl rfl rfl
    refine Jg (u := OW 1098 1 I64 (s21 ++ [(i21 : Int)])) (Aa rfl rfl) ?_ rfl rfl rfl
    refine Jn ?_
    exact ej24 _ _ (s21 ++ [(i21 : Int)]) h ⟨⟨.same (refsL_any _ _ wanted_d), .same rfl, .same rfl, .same rfl, .same rfl, trivial⟩, ⟨⟨_, rfl, .same⟩, trivial⟩, rfl⟩
   ·
    replace h := bif_f hb h
    refine JC_skip ?_
    exact ej24 _ _ s21 h ⟨⟨.same (refsL_any _ _ wanted_d), .same rfl, .same rfl, .same rfl, .same rfl, trivial⟩, ⟨⟨_, rfl, .same⟩, trivial⟩, rfl⟩
  ·intro j24 h
   replace h := app1 hkj24 h
   refine Jr ?_
   refine Jg (u := I64 ((i21 + 1 : Nat) : Int)) (A_add (idx_succ hk21 hm9) rfl rfl rfl) ?_ rfl rfl rfl
   refine Jg (u := I64 ((i21 + 1 : Nat) : Int)) (Am rfl rfl) ?_ rfl rfl rfl
   refine Jn ?_
   exact e21 _ _ (i21 + 1) j24 (app1 hn21 h) (by omega) ⟨⟨.same (refsL_any _ _ wanted_d), .same rfl, .same rfl, .same rfl, .same rfl, trivial⟩, ⟨⟨_, rfl, .same⟩, trivial⟩, rfl⟩
 ·
  have h := app1 hkx21 (each_nil hi21 (not_lt_len hb))
  refine JC_exit ?_
  refine hK3 _ _ ?_
  refine Js fun K29 hK29 => Jr ?_
  refine Jg (u := OW 1098 1 I64 s21) (Am rfl rfl) ?_ rfl rfl rfl
  refine Jg (u := OW 1098 1 I64 s21) (Aa rfl rfl) ?_ rfl rfl rfl
  refine Jn (hK29 _ _ ?_)
  refine JC_ret ?_
  exact ⟨[LS 1 I64 s21], [], trivial, rfl, ⟨⟨_, rfl, .conv (.list rfl)⟩, trivial⟩, rfl, congrArg (fun r : (List Int) => (LS 1 I64 r : AV)) (Option.some.inj h)⟩

def M_ship_Find (s : Ship) (bay : Int) (row : Int) (deck : Bool) : Option (Int × Bool) :=
 bnd (M_ship_chosen_apiColumn s.Columns (fun z0 => M_ship_Find_1 z0 bay row deck)) fun r3 =>
 bif decide ((r3.length : Int) = 0) then
 (some (0, false))
 else
 (gidx r3 0 fun y8 =>
  some (y8, true))
theorem M_ship_Find_w (s : Ship) (bay : Int) (row : Int) (deck : Bool) (r : Int × Bool) (h : M_ship_Find s bay row deck = some r) : Pure Try.prog 17 [.agg [LS 12 Column.av s.Columns, LS 2 Cover.av s.Covers, I64 s.Light.Kilos, I64 s.Light.X, I64 s.Light.Y, I64 s.Light.Z, LS 5 Row.av s.Rows, LS 5 Frame.av s.Frames, LS 6 Tank.av s.Tanks, I64 s.Limits.Tolerance, I64 s.Limits.Trim, I64 s.Limits.List_, I64 s.Limits.Stability], I64 bay, I64 row, BL deck] (· = .tup [I64 r.1, BL r.2]) := by
 unfold M_ship_Find at h
 refine Pure_ofG [.tmp 8, .tmp 9] Try.func17 rfl rfl ?_
 refine Js fun K1 hK1 => Jr ?_
 refine Jg (u := .ptr 1048 0) (A_box (u := .agg [LS 12 Column.av s.Columns, LS 2 Cover.av s.Covers, I64 s.Light.Kilos, I64 s.Light.X, I64 s.Light.Y, I64 s.Light.Z, LS 5 Row.av s.Rows, LS 5 Frame.av s.Frames, LS 6 Tank.av s.Tanks, I64 s.Limits.Tolerance, I64 s.Limits.Trim, I64 s.Limits.List_, I64 s.Limits.Stability]) (cs := [LS 12 Column.av s.Columns, LS 2 Cover.av s.Covers, I64 s.Light.Kilos, I64 s.Light.X, I64 s.Light.Y, I64 s.Light.Z, LS 5 Row.av s.Rows, LS 5 Frame.av s.Frames, LS 6 Tank.av s.Tanks, I64 s.Limits.Tolerance, I64 s.Limits.Trim, I64 s.Limits.List_, I64 s.Limits.Stability]) 1048 rfl rfl rfl rfl rfl) ?_ rfl rfl rfl
 refine Jg (u := .ptr 1049 0) (A_box (u := I64 bay) (cs := [I64 bay]) 1049 rfl rfl rfl rfl rfl) ?_ rfl rfl rfl
 refine Jg (u := .ptr 1050 0) (A_box (u := I64 row) (cs := [I64 row]) 1050 rfl rfl rfl rfl rfl) ?_ rfl rfl rfl
 refine Jg (u := .ptr 1051 0) (A_box (u := BL deck) (cs := [BL deck]) 1051 rfl rfl rfl rfl rfl) ?_ rfl rfl rfl
 refine Jg (u := I64 0) (Aa rfl rfl) ?_ rfl rfl rfl
 refine Jg (u := BL false) (Aa rfl rfl) ?_ rfl rfl rfl
 refine Jn (hK1 _ _ ?_)
 refine JC_freeze [(4, .dptr [LS 12 Column.av s.Columns, LS 2 Cover.av s.Covers, I64 s.Light.Kilos, I64 s.Light.X, I64 s.Light.Y, I64 s.Light.Z, LS 5 Row.av s.Rows, LS 5 Frame.av s.Frames, LS 6 Tank.av s.Tanks, I64 s.Limits.Tolerance, I64 s.Limits.Trim, I64 s.Limits.List_, I64 s.Limits.Stability]), (5, .ptr 1049 0), (6, .ptr 1050 0), (7, .ptr 1051 0)] [(1049, .box 3 [I64 bay]), (1050, .box 3 [I64 row]), (1051, .box 4 [BL deck])] 1048 rfl rfl rfl ⟨⟨_, rfl, .boxEq rfl rfl⟩, ⟨_, rfl, .boxEq rfl rfl⟩, ⟨_, rfl, .boxEq rfl rfl⟩, trivial⟩ rfl (by exact ⟨.ptr, .conv (.same rfl), .conv (.same rfl), .conv (.same rfl), trivial⟩) ?_
 refine JC_freeze [(4, .dptr [LS 12 Column.av s.Columns, LS 2 Cover.av s.Covers, I64 s.Light.Kilos, I64 s.Light.X, I64 s.Light.Y, I64 s.Light.Z, LS 5 Row.av s.Rows, LS 5 Frame.av s.Frames, LS 6 Tank.av s.Tanks, I64 s.Limits.Tolerance, I64 s.Limits.Trim, I64 s.Limits.List_, I64 s.Limits.Stability]), (5, .dptr [I64 bay]), (6, .ptr 1050 0), (7, .ptr 1051 0)] [(1050, .box 3 [I64 row]), (1051, .box 4 [BL deck])] 1049 rfl rfl rfl ⟨⟨_, rfl, .boxEq rfl rfl⟩, ⟨_, rfl, .boxEq rfl rfl⟩, trivial⟩ rfl (by exact ⟨.conv (.same rfl), .ptr, .conv (.same rfl), .conv (.same rfl), trivial⟩) ?_
 refine JC_freeze [(4, .dptr [LS 12 Column.av s.Columns, LS 2 Cover.av s.Covers, I64 s.Light.Kilos, I64 s.Light.X, I64 s.Light.Y, I64 s.Light.Z, LS 5 Row.av s.Rows, LS 5 Frame.av s.Frames, LS 6 Tank.av s.Tanks, I64 s.Limits.Tolerance, I64 s.Limits.Trim, I64 s.Limits.List_, I64 s.Limits.Stability]), (5, .dptr [I64 bay]), (6, .dptr [I64 row]), (7, .ptr 1051 0)] [(1051, .box 4 [BL deck])] 1050 rfl rfl rfl ⟨⟨_, rfl, .boxEq rfl rfl⟩, trivial⟩ rfl (by exact ⟨.conv (.same rfl), .conv (.same rfl), .ptr, .conv (.same rfl), trivial⟩) ?_
 refine JC_freeze [(4, .dptr [LS 12 Column.av s.Columns, LS 2 Cover.av s.Covers, I64 s.Light.Kilos, I64 s.Light.X, I64 s.Light.Y, I64 s.Light.Z, LS 5 Row.av s.Rows, LS 5 Frame.av s.Frames, LS 6 Tank.av s.Tanks, I64 s.Limits.Tolerance, I64 s.Limits.Trim, I64 s.Limits.List_, I64 s.Limits.Stability]), (5, .dptr [I64 bay]), (6, .dptr [I64 row]), (7, .dptr [BL deck])] [] 1051 rfl rfl rfl trivial rfl (by exact ⟨.conv (.same rfl), .conv (.same rfl), .conv (.same rfl), .ptr, trivial⟩) ?_
 refine Js fun K2 hK2 => Jr ?_
 refine Jg (u := .dptr [LS 12 Column.av s.Columns, LS 2 Cover.av s.Covers, I64 s.Light.Kilos, I64 s.Light.X, I64 s.Light.Y, I64 s.Light.Z, LS 5 Row.av s.Rows, LS 5 Frame.av s.Frames, LS 6 Tank.av s.Tanks, I64 s.Limits.Tolerance, I64 s.Limits.Trim, I64 s.Limits.List_, I64 s.Limits.Stability]) (A_fieldM tf_field_35_0 rfl rfl rfl) ?_ rfl rfl rfl
 refine Jg (u := LS 12 Column.av s.Columns) (A_load tf_scalar_25 rfl rfl rfl) ?_ rfl rfl rfl
 refine Jg (u := .fn 33 [.dptr [I64 bay], .dptr [I64 row], .dptr [BL deck]]) (A_makeFunc (cs := [.dptr [I64 bay], .dptr [I64 row], .dptr [BL deck]]) rfl rfl) ?_ rfl rfl rfl
 obtain ⟨r3, hr3, h⟩ := bnd_out h
 refine Jg (u := LS 1 I64 r3) (A_call1 (args := [LS 12 Column.av s.Columns, .fn 33 [.dptr [I64 bay], .dptr [I64 row], .dptr [BL deck]]]) rfl (M_ship_chosen_apiColumn_w s.Columns (fun z0 => M_ship_Find_1 z0 bay row deck) 33 [.dptr [I64 bay], .dptr [I64 row], .dptr [BL deck]] tf_call_33 rfl (fun z0 q hq => M_ship_Find_1_w z0 bay row deck q hq) r3 hr3) tf_call_32 ⟨rfl, rfl, rfl, rfl, trivial⟩) ?_ rfl rfl rfl
 refine Jg (u := LS 1 I64 r3) (Aa rfl rfl) ?_ rfl rfl rfl
 refine Jn (hK2 _ _ ?_)
 refine Js (fun K4 hK4 => ?_)
 refine Js fun K5 hK5 => Jr ?_
 refine Jg (u := LS 1 I64 r3) (Am rfl rfl) ?_ rfl rfl rfl
 refine JL_lenM (f := I64) (xs := r3) tf_slice_43 rfl rfl (fun hm16 => ?_) rfl rfl rfl
 refine Jg (u := BL (decide ((r3.length : Int) = 0))) (A_eql rfl rfl rfl) ?_ rfl rfl rfl
 refine Jn (hK5 _ _ ?_)
 refine JC_cond rfl (fun hb => ?_) (fun hb => ?_)
 ·
  replace h := bif_t hb h
  refine Js fun K6 hK6 => Jr ?_
  refine Jg (u := I64 0) (Aa rfl rfl) ?_ rfl rfl rfl
  refine Jg (u := BL false) (Aa rfl rfl) ?_ rfl rfl rfl
  refine Jn (hK6 _ _ ?_)
  refine JC_ret ?_
  exact ⟨[I64 0, BL false], [], trivial, rfl, ⟨⟨_, rfl, .conv (.same rfl)⟩, ⟨_, rfl, .conv (.same rfl)⟩, trivial⟩, rfl, congrArg (fun r : Int × Bool => (.tup [I64 r.1, BL r.2] : AV)) (Option.some.inj h)⟩
 ·
  replace h := bif_f hb h
  refine JC_skip ?_
  refine hK4 _ _ ?_
  refine Js fun K7 hK7 => Jr ?_
  refine Jg (u := LS 1 I64 r3) (Am rfl rfl) ?_ rfl rfl rfl
  obtain ⟨m9, y8, hm9, hy8, h⟩ := gidx_out h
  refine Jg (u := .dptr [I64 y8]) (A_indexM (f := I64) (xs := r3) (y := y8) rfl rfl rfl tf_slice_43 hy8 hm9) ?_ rfl rfl rfl
  refine Jg (u := I64 y8) (A_load tf_scalar_3 rfl rfl rfl) ?_ rfl rfl rfl
  refine Jg (u := I64 y8) (Aa rfl rfl) ?_ rfl rfl rfl
  refine Jg (u := BL true) (Aa rfl rfl) ?_ rfl rfl rfl
  refine Jn (hK7 _ _ ?_)
  refine JC_ret ?_
  exact ⟨[I64 y8, BL true], [], trivial, rfl, ⟨⟨_, rfl, .conv (.same rfl)⟩, ⟨_, rfl, .conv (.same rfl)⟩, trivial⟩, rfl, congrArg (fun r : Int × Bool => (.tup [I64 r.1, BL r.2] : AV)) (Option.some.inj h)⟩

def M_twistlocklaw07_Built (l : List law07_Place) (covers : Int) : Option Ship :=
 bnd (natIn (min (l.length : Int) 12) l.length) fun m5 =>
 each (fun y106 i106 (s106 : (List Column) × (List Cover) × Int × Int × Int × Int × (List Row) × (List Frame) × (List Tank) × Int × Int × Int × Int) nx106 =>
  jp (fun kj109 =>
   chk (y106.Bay) fun v112 =>
   bnd (rem64 v112 5) fun v113 =>
   chk (y106.Row) fun v114 =>
   bnd (rem64 v114 5) fun v115 =>
   chk (y106.Tiers) fun v116 =>
   bnd (rem64 v116 4) fun v117 =>
   chk (2 + v117) fun v118 =>
   chk (13000 * v113) fun v120 =>
   chk (v120 - 26000) fun v121 =>
   chk (2500 * v115) fun v122 =>
   chk (v122 - 5000) fun v123 =>
   jp (fun kj124 =>
    bif y106.Deck then
    (kj124 20000)
    else
    (kj124 2000)) fun (j124 : Int) =>
   bnd (M_ship_Find (Ship.mk s106.1 s106.2.1 (Light.mk s106.2.2.1 s106.2.2.2.1 s106.2.2.2.2.1 s106.2.2.2.2.2.1) s106.2.2.2.2.2.2.1 s106.2.2.2.2.2.2.2.1 s106.2.2.2.2.2.2.2.2.1 (Limits.mk s106.2.2.2.2.2.2.2.2.2.1 s106.2.2.2.2.2.2.2.2.2.2.1 s106.2.2.2.2.2.2.2.2.2.2.2.1 s106.2.2.2.2.2.2.2.2.2.2.2.2)) v113 v115 y106.Deck) fun r127 =>
   bif (!r127.2) then
   (need (decide ((s106.1.length + [(Column.mk v113 v115 y106.Deck v118 0 500000000 500000000 0 [] v121 v123 j124)].length) * 112 ≤ 140737488355328 ∧ s106.1.length + [(Column.mk v113 v115 y106.Deck v118 0 500000000 500000000 0 [] v121 v123 j124)].length ≤ maxLen)) <|
    kj109 (s106.1 ++ [(Column.mk v113 v115 y106.Deck v118 0 500000000 500000000 0 [] v121 v123 j124)]))
   else
   (kj109 s106.1)) fun (j109 : (List Column)) =>
  nx106 (j109, s106.2.1, s106.2.2.1, s106.2.2.2.1, s106.2.2.2.2.1, s106.2.2.2.2.2.1, s106.2.2.2.2.2.2.1, s106.2.2.2.2.2.2.2.1, s106.2.2.2.2.2.2.2.2.1, s106.2.2.2.2.2.2.2.2.2.1, s106.2.2.2.2.2.2.2.2.2.2.1, s106.2.2.2.2.2.2.2.2.2.2.2.1, s106.2.2.2.2.2.2.2.2.2.2.2.2))
 (fun (s106 : (List Column) × (List Cover) × Int × Int × Int × Int × (List Row) × (List Frame) × (List Tank) × Int × Int × Int × Int) =>
  jp (fun kj130 =>
   bif decide ((s106.1.length : Int) = 0) then
   (kj130 ([(Column.mk 0 0 false 3 0 500000000 500000000 0 [] 0 0 2000)]))
   else
   (kj130 s106.1)) fun (j130 : (List Column)) =>
  need (decide (5 ≤ 9223372036854775807)) <|
  upto (fun i200 (s200 : (List Column) × (List Cover) × Int × Int × Int × Int × (List Row) × (List Frame) × (List Tank) × Int × Int × Int × Int) nx200 =>
   jp (fun kj203 =>
    jp (fun kj204 =>
     chk (2 * (i200 : Int)) fun v206 =>
     bnd (natIn v206 4294967295) fun m207 =>
     bif decide ((band .u32 (shrN .u32 covers m207) 1) = 1) then
     (need (decide ((s200.2.1.length + [(Cover.mk (i200 : Int) [0, 1])].length) * 32 ≤ 140737488355328 ∧ s200.2.1.length + [(Cover.mk (i200 : Int) [0, 1])].length ≤ maxLen)) <|
      kj204 (s200.2.1 ++ [(Cover.mk (i200 : Int) [0, 1])]))
     else
     (kj204 s200.2.1)) fun (j204 : (List Cover)) =>
    chk (2 * (i200 : Int)) fun v210 =>
    chk (v210 + 1) fun v211 =>
    bnd (natIn v211 4294967295) fun m212 =>
    bif decide ((band .u32 (shrN .u32 covers m212) 1) = 1) then
    (need (decide ((j204.length + [(Cover.mk (i200 : Int) [2, 3, 4])].length) * 32 ≤ 140737488355328 ∧ j204.length + [(Cover.mk (i200 : Int) [2, 3, 4])].length ≤ maxLen)) <|
     kj203 (j204 ++ [(Cover.mk (i200 : Int) [2, 3, 4])]))
    else
    (kj203 j204)) fun (j203 : (List Cover)) =>
   nx200 (s200.1, j203, s200.2.2.1, s200.2.2.2.1, s200.2.2.2.2.1, s200.2.2.2.2.2.1, s200.2.2.2.2.2.2.1, s200.2.2.2.2.2.2.2.1, s200.2.2.2.2.2.2.2.2.1, s200.2.2.2.2.2.2.2.2.2.1, s200.2.2.2.2.2.2.2.2.2.2.1, s200.2.2.2.2.2.2.2.2.2.2.2.1, s200.2.2.2.2.2.2.2.2.2.2.2.2))
  (fun (s200 : (List Column) × (List Cover) × Int × Int × Int × Int × (List Row) × (List Frame) × (List Tank) × Int × Int × Int × Int) =>
   some (Ship.mk s200.1 s200.2.1 (Light.mk s200.2.2.1 s200.2.2.2.1 s200.2.2.2.2.1 s200.2.2.2.2.2.1) s200.2.2.2.2.2.2.1 s200.2.2.2.2.2.2.2.1 s200.2.2.2.2.2.2.2.2.1 (Limits.mk s200.2.2.2.2.2.2.2.2.2.1 s200.2.2.2.2.2.2.2.2.2.2.1 s200.2.2.2.2.2.2.2.2.2.2.2.1 s200.2.2.2.2.2.2.2.2.2.2.2.2))) (5 : Int).toNat 0 (j130, s106.2.1, s106.2.2.1, s106.2.2.2.1, s106.2.2.2.2.1, s106.2.2.2.2.2.1, s106.2.2.2.2.2.2.1, s106.2.2.2.2.2.2.2.1, s106.2.2.2.2.2.2.2.2.1, s106.2.2.2.2.2.2.2.2.2.1, s106.2.2.2.2.2.2.2.2.2.2.1, s106.2.2.2.2.2.2.2.2.2.2.2.1, s106.2.2.2.2.2.2.2.2.2.2.2.2)) (l.take m5) 0 ([], [], 0, 0, 0, 0, [], [], [], 0, 0, 0, 0)
theorem M_twistlocklaw07_Built_w (l : List law07_Place) (covers : Int) (r : Ship) (h : M_twistlocklaw07_Built l covers = some r) : Pure Try.prog 5 [LS 4 law07_Place.av l, .sc (.int .u32 covers)] (· = .agg (Ship.cs r)) := by
 unfold M_twistlocklaw07_Built at h
 refine Pure_ofG [.cell 4 35] Try.func5 rfl rfl ?_
 refine Js fun K1 hK1 => Jr ?_
 refine Jg (u := .ptr 1008 0) (A_allocZ 1008 [LS 12 Column.av ([] : List Column), LS 2 Cover.av ([] : List Cover), I64 0, I64 0, I64 0, I64 0, LS 5 Row.av ([] : List Row), LS 5 Frame.av ([] : List Frame), LS 6 Tank.av ([] : List Tank), I64 0, I64 0, I64 0, I64 0] [.slice none 0 0, .slice none 0 0, .int .i64 0, .int .i64 0, .int .i64 0, .int .i64 0, .slice none 0 0, .slice none 0 0, .slice none 0 0, .int .i64 0, .int .i64 0, .int .i64 0, .int .i64 0] tf_zero_35 ⟨.inr ⟨_, rfl, rfl⟩, .inr ⟨_, rfl, rfl⟩, .inl rfl, .inl rfl, .inl rfl, .inl rfl, .inr ⟨_, rfl, rfl⟩, .inr ⟨_, rfl, rfl⟩, .inr ⟨_, rfl, rfl⟩, .inl rfl, .inl rfl, .inl rfl, .inl rfl, trivial⟩ rfl rfl) ?_ rfl rfl rfl
 refine Jn (hK1 _ _ ?_)
 refine Js fun K2 hK2 => Jr ?_
 refine Jg (u := .ptr 1009 0) (A_allocZ 1009 [.sc (.slice none 0 0), .sc (.slice none 0 0), I64 0, I64 0, I64 0, I64 0, LS 5 Row.av ([] : List Row), LS 5 Frame.av ([] : List Frame), LS 6 Tank.av ([] : List Tank), I64 0, I64 0, I64 0, I64 0] [.slice none 0 0, .slice none 0 0, .int .i64 0, .int .i64 0, .int .i64 0, .int .i64 0, .slice none 0 0, .slice none 0 0, .slice none 0 0, .int .i64 0, .int .i64 0, .int .i64 0, .int .i64 0] tf_zero_35 ⟨.inl rfl, .inl rfl, .inl rfl, .inl rfl, .inl rfl, .inl rfl, .inr ⟨_, rfl, rfl⟩, .inr ⟨_, rfl, rfl⟩, .inr ⟨_, rfl, rfl⟩, .inl rfl, .inl rfl, .inl rfl, .inl rfl, trivial⟩ rfl rfl) ?_ rfl rfl rfl
 refine JL_ownCell 1009 0 1012 72 12 rfl rfl rfl (cs' := [OW 1012 12 Column.av ([] : List Column), .sc (.slice none 0 0), I64 0, I64 0, I64 0, I64 0, LS 5 Row.av ([] : List Row), LS 5 Frame.av ([] : List Frame), LS 6 Tank.av ([] : List Tank), I64 0, I64 0, I64 0, I64 0]) rfl ?_
 refine JL_ownCell 1009 1 1013 76 2 rfl rfl rfl (cs' := [OW 1012 12 Column.av ([] : List Column), OW 1013 2 Cover.av ([] : List Cover), I64 0, I64 0, I64 0, I64 0, LS 5 Row.av ([] : List Row), LS 5 Frame.av ([] : List Frame), LS 6 Tank.av ([] : List Tank), I64 0, I64 0, I64 0, I64 0]) rfl ?_
 refine Jn (hK2 _ _ ?_)
 refine Js (fun K3 hK3 => ?_)
 refine Js fun K4 hK4 => Jr ?_
 refine Jg (u := LS 4 law07_Place.av l) (Am rfl rfl) ?_ rfl rfl rfl
 refine Jg (u := LS 4 law07_Place.av l) (Am rfl rfl) ?_ rfl rfl rfl
 refine JL_lenM (f := law07_Place.av) (xs := l) tf_slice_22 rfl rfl (fun hm14 => ?_) rfl rfl rfl
 refine Jg (u := I64 (min (l.length : Int) 12)) (A_min rfl rfl rfl) ?_ rfl rfl rfl
 obtain ⟨m5, hm5, h⟩ := bnd_out h
 refine Jg (u := LS 4 law07_Place.av (l.take m5)) (A_sliceHiM (f := law07_Place.av) (xs := l) rfl rfl rfl tf_slice_22 (natIn_out hm5)) ?_ rfl rfl rfl
 refine JL_lenM (f := law07_Place.av) (xs := (l.take m5)) tf_slice_22 rfl rfl (fun hm17 => ?_) rfl rfl rfl
 refine Jg (u := I64 0) (Am rfl rfl) ?_ rfl rfl rfl
 refine Jn (hK4 _ _ ?_)
 refine JC_block ?_
 obtain ⟨b106, kx106, hb106, hkx106, h⟩ := each_in h
 refine JC_loop2 (fun i106 (s106 : (List Column) × (List Cover) × Int × Int × Int × Int × (List Row) × (List Frame) × (List Tank) × Int × Int × Int × Int) => each b106 kx106 (List.drop i106 (l.take m5)) i106 s106 = some r) (fun i106 s106 => [(1, .sc (.int .u32 covers)), (4, .ptr 1008 0), (5, .ptr 1009 0), (16, LS 4 law07_Place.av (l.take m5)), (17, I64 ((l.take m5).length : Int)), (18, I64 (i106 : Int))]) (fun i106 s106 => [(1012, .spare 72 12 s106.1.length s106.1.length), (1013, .spare 76 2 s106.2.1.length s106.2.1.length), (1008, .box 35 [LS 12 Column.av ([] : List Column), LS 2 Cover.av ([] : List Cover), I64 0, I64 0, I64 0, I64 0, LS 5 Row.av ([] : List Row), LS 5 Frame.av ([] : List Frame), LS 6 Tank.av ([] : List Tank), I64 0, I64 0, I64 0, I64 0]), (1009, .box 35 [OW 1012 12 Column.av s106.1, OW 1013 2 Cover.av s106.2.1, I64 s106.2.2.1, I64 s106.2.2.2.1, I64 s106.2.2.2.2.1, I64 s106.2.2.2.2.2.1, LS 5 Row.av s106.2.2.2.2.2.2.1, LS 5 Frame.av s106.2.2.2.2.2.2.2.1, LS 6 Tank.av s106.2.2.2.2.2.2.2.2.1, I64 s106.2.2.2.2.2.2.2.2.2.1, I64 s106.2.2.2.2.2.2.2.2.2.2.1, I64 s106.2.2.2.2.2.2.2.2.2.2.2.1, I64 s106.2.2.2.2.2.2.2.2.2.2.2.2])]) (fun i106 => (l.take m5).length - i106) 0 ([], [], 0, 0, 0, 0, [], [], [], 0, 0, 0, 0) h ⟨⟨.same rfl, .same rfl, .same rfl, .same rfl, .same rfl, .same rfl, trivial⟩, ⟨⟨_, rfl, .same⟩, ⟨_, rfl, .same⟩, ⟨_, rfl, .boxL rfl ⟨.same rfl, .same rfl, .same rfl, .same rfl, .same rfl, .same rfl, .same rfl, .same rfl, .same rfl, .same rfl, .same rfl, .same rfl, .same rfl, trivial⟩⟩, ⟨_, rfl, .boxL rfl ⟨.same rfl, .same rfl, .same rfl, .same rfl, .same rfl, .same rfl, .same rfl, .same rfl, .same rfl, .same rfl, .same rfl, .same rfl, .same rfl, trivial⟩⟩, trivial⟩, rfl⟩ ?_
 clear h
 intro i106 s106 hi106 K106 e106
 refine Js fun K107 hK107 => Jr ?_
 refine Jg (u := BL (decide ((i106 : Int) < ((l.take m5).length : Int)))) (A_lss rfl rfl rfl) ?_ rfl rfl rfl
 refine Jn (hK107 _ _ ?_)
 refine Js (fun K108 hK108 => ?_)
 refine JC_cond rfl (fun hb => ?_) (fun hb => ?_)
 ·
  have hk106 := lt_len hb
  obtain ⟨y106, nx106, hy106, hn106, h⟩ := each_out hi106 hk106
  replace h := app4 hb106 h
  refine JC_skip ?_
  refine hK108 _ _ ?_
  obtain ⟨kj109, hkj109, h⟩ := jp_out h
  refine JC_seqJ (fun j109 : (List Column) => kj109 j109 = some r) (fun j109 => [(1, .sc (.int .u32 covers)), (4, .ptr 1008 0), (5, .ptr 1009 0), (16, LS 4 law07_Place.av (l.take m5)), (17, I64 ((l.take m5).length : Int)), (18, I64 (i106 : Int))]) (fun j109 => [(1012, .spare 72 12 j109.length j109.length), (1013, .spare 76 2 s106.2.1.length s106.2.1.length), (1008, .box 35 [LS 12 Column.av ([] : List Column), LS 2 Cover.av ([] : List Cover), I64 0, I64 0, I64 0, I64 0, LS 5 Row.av ([] : List Row), LS 5 Frame.av ([] : List Frame), LS 6 Tank.av ([] : List Tank), I64 0, I64 0, I64 0, I64 0]), (1009, .box 35 [OW 1012 12 Column.av j109, OW 1013 2 Cover.av s106.2.1, I64 s106.2.2.1, I64 s106.2.2.2.1, I64 s106.2.2.2.2.1, I64 s106.2.2.2.2.2.1, LS 5 Row.av s106.2.2.2.2.2.2.1, LS 5 Frame.av s106.2.2.2.2.2.2.2.1, LS 6 Tank.av s106.2.2.2.2.2.2.2.2.1, I64 s106.2.2.2.2.2.2.2.2.2.1, I64 s106.2.2.2.2.2.2.2.2.2.2.1, I64 s106.2.2.2.2.2.2.2.2.2.2.2.1, I64 s106.2.2.2.2.2.2.2.2.2.2.2.2])]) (fun Kj109 ej109 => ?_) ?_
  ·
   refine JC_block ?_
   refine Js fun K110 hK110 => Jr ?_
   refine Jg (u := .dptr (law07_Place.cs y106)) (A_indexM (f := law07_Place.av) (xs := (l.take m5)) (y := y106) rfl rfl rfl tf_slice_22 hy106 rfl) ?_ rfl rfl rfl
   refine Jg (u := .agg (law07_Place.cs y106)) (A_loadAgg tf_agg_70 rfl rfl rfl) ?_ rfl rfl rfl
   refine Jg (u := .ptr 1010 0) (A_allocJ 1010 4 tf_zsize_70 rfl rfl) ?_ rfl rfl rfl
   refine JL_go0 (u := .junk) (A_store (u := .agg (law07_Place.cs y106)) (ds := [U8 y106.Bay, U8 y106.Row, U8 y106.Tiers, BL y106.Deck]) tf_size_70 rfl rfl rfl rfl rfl rfl rfl rfl) ?_ rfl rfl
   refine Jn (hK110 _ _ ?_)
   refine JC_freeze [(1, .sc (.int .u32 covers)), (4, .ptr 1008 0), (5, .ptr 1009 0), (7, .dptr (law07_Place.cs y106)), (16, LS 4 law07_Place.av (l.take m5)), (17, I64 ((l.take m5).length : Int)), (18, I64 (i106 : Int))] [(1012, .spare 72 12 s106.1.length s106.1.length), (1013, .spare 76 2 s106.2.1.length s106.2.1.length), (1008, .box 35 [LS 12 Column.av ([] : List Column), LS 2 Cover.av ([] : List Cover), I64 0, I64 0, I64 0, I64 0, LS 5 Row.av ([] : List Row), LS 5 Frame.av ([] : List Frame), LS 6 Tank.av ([] : List Tank), I64 0, I64 0, I64 0, I64 0]), (1009, .box 35 [OW 1012 12 Column.av s106.1, OW 1013 2 Cover.av s106.2.1, I64 s106.2.2.1, I64 s106.2.2.2.1, I64 s106.2.2.2.2.1, I64 s106.2.2.2.2.2.1, LS 5 Row.av s106.2.2.2.2.2.2.1, LS 5 Frame.av s106.2.2.2.2.2.2.2.1, LS 6 Tank.av s106.2.2.2.2.2.2.2.2.1, I64 s106.2.2.2.2.2.2.2.2.2.1, I64 s106.2.2.2.2.2.2.2.2.2.2.1, I64 s106.2.2.2.2.2.2.2.2.2.2.2.1, I64 s106.2.2.2.2.2.2.2.2.2.2.2.2])] 1010 rfl rfl rfl ⟨⟨_, rfl, .same⟩, ⟨_, rfl, .same⟩, ⟨_, rfl, .boxEq rfl rfl⟩, ⟨_, rfl, .boxEq rfl rfl⟩, trivial⟩ rfl (by exact ⟨.conv (.same rfl), .conv (.same rfl), .conv (.same rfl), .ptr, .conv (.same rfl), .conv (.same rfl), .conv (.same rfl), trivial⟩) ?_
   refine Js fun K111 hK111 => Jr ?_
   refine Jg (u := .dptr (law07_Place.cs y106)) (A_fieldM tf_field_70_0 rfl rfl rfl) ?_ rfl rfl rfl
   refine Jg (u := U8 y106.Bay) (A_load tf_scalar_5 rfl rfl rfl) ?_ rfl rfl rfl
   obtain ⟨v112, hv112, h⟩ := chk_out h
   refine Jg (u := I64 v112) (A_conv tf_int_3 tf_int_5 hv112 rfl rfl) ?_ rfl rfl rfl
   obtain ⟨v113, hv113, h⟩ := bnd_out h
   refine Jg (u := I64 v113) (A_rem (rem64_out hv113).1 (rem64_out hv113).2 rfl rfl rfl) ?_ rfl rfl rfl
   refine Jg (u := .dptr ((law07_Place.cs y106).drop 1)) (A_fieldM tf_field_70_1 rfl rfl rfl) ?_ rfl rfl rfl
   refine Jg (u := U8 y106.Row) (A_load tf_scalar_5 rfl rfl rfl) ?_ rfl rfl rfl
   obtain ⟨v114, hv114, h⟩ := chk_out h
   refine Jg (u := I64 v114) (A_conv tf_int_3 tf_int_5 hv114 rfl rfl) ?_ rfl rfl rfl
   obtain ⟨v115, hv115, h⟩ := bnd_out h
   refine Jg (u := I64 v115) (A_rem (rem64_out hv115).1 (rem64_out hv115).2 rfl rfl rfl) ?_ rfl rfl rfl
   refine Jg (u := .dptr [BL y106.Deck]) (A_fieldM tf_field_70_3 rfl rfl rfl) ?_ rfl rfl rfl
   refine Jg (u := BL y106.Deck) (A_load tf_scalar_4 rfl rfl rfl) ?_ rfl rfl rfl
   refine Jg (u := .dptr [U8 y106.Tiers, BL y106.Deck]) (A_fieldM tf_field_70_2 rfl rfl rfl) ?_ rfl rfl rfl
   refine Jg (u := U8 y106.Tiers) (A_load tf_scalar_5 rfl rfl rfl) ?_ rfl rfl rfl
   obtain ⟨v116, hv116, h⟩ := chk_out h
   refine Jg (u := I64 v116) (A_conv tf_int_3 tf_int_5 hv116 rfl rfl) ?_ rfl rfl rfl
   obtain ⟨v117, hv117, h⟩ := bnd_out h
   refine Jg (u := I64 v117) (A_rem (rem64_out hv117).1 (rem64_out hv117).2 rfl rfl rfl) ?_ rfl rfl rfl
   obtain ⟨v118, hv118, h⟩ := chk_out h
   refine Jg (u := I64 v118) (A_add hv118 rfl rfl rfl) ?_ rfl rfl rfl
   refine Jg (u := .agg [I64 v113, I64 v115, BL y106.Deck, I64 v118, I64 0, I64 500000000, I64 500000000, I64 0, LS 1 I64 ([] : List Int), I64 0, I64 0, I64 0]) (A_buildZ (cs := [I64 v113, I64 v115, BL y106.Deck, I64 v118, I64 0, I64 500000000, I64 500000000, I64 0, LS 1 I64 ([] : List Int), I64 0, I64 0, I64 0]) [(0, 1), (1, 1), (2, 1), (3, 1), (4, 1), (5, 1), (6, 1), (7, 1), (8, 1), (9, 1), (10, 1), (11, 1)] [I64 0, I64 0, BL false, I64 0, I64 0, I64 0, I64 0, I64 0, LS 1 I64 ([] : List Int), I64 0, I64 0, I64 0] [.int .i64 0, .int .i64 0, .bool false, .int .i64 0, .int .i64 0, .int .i64 0, .int .i64 0, .int .i64 0, .slice none 0 0, .int .i64 0, .int .i64 0, .int .i64 0] tf_places_72 tf_zero_72 ⟨.inl rfl, .inl rfl, .inl rfl, .inl rfl, .inl rfl, .inl rfl, .inl rfl, .inl rfl, .inr ⟨_, rfl, rfl⟩, .inl rfl, .inl rfl, .inl rfl, trivial⟩ rfl rfl) ?_ rfl rfl rfl
   refine Jg (u := .ptr 1011 0) (A_allocJ 1011 12 tf_zsize_72 rfl rfl) ?_ rfl rfl rfl
   refine JL_go0 (u := .junk) (A_store (u := .agg [I64 v113, I64 v115, BL y106.Deck, I64 v118, I64 0, I64 500000000, I64 500000000, I64 0, LS 1 I64 ([] : List Int), I64 0, I64 0, I64 0]) (ds := [I64 v113, I64 v115, BL y106.Deck, I64 v118, I64 0, I64 500000000, I64 500000000, I64 0, LS 1 I64 ([] : List Int), I64 0, I64 0, I64 0]) tf_size_72 rfl rfl rfl rfl rfl rfl rfl rfl) ?_ rfl rfl
   refine Jn (hK111 _ _ ?_)
   refine Js fun K119 hK119 => Jr ?_
   refine Jg (u := .ptr 1011 0) (A_fieldL tf_field_72_0 rfl rfl) ?_ rfl rfl rfl
   refine Jg (u := I64 v113) (A_loadL tf_scalar_3 rfl rfl rfl rfl) ?_ rfl rfl rfl
   obtain ⟨v120, hv120, h⟩ := chk_out h
   refine Jg (u := I64 v120) (A_mul hv120 rfl rfl rfl) ?_ rfl rfl rfl
   obtain ⟨v121, hv121, h⟩ := chk_out h
   refine Jg (u := I64 v121) (A_sub hv121 rfl rfl rfl) ?_ rfl rfl rfl
   refine Jg (u := .ptr 1011 1) (A_fieldL tf_field_72_1 rfl rfl) ?_ rfl rfl rfl
   refine Jg (u := I64 v115) (A_loadL tf_scalar_3 rfl rfl rfl rfl) ?_ rfl rfl rfl
   obtain ⟨v122, hv122, h⟩ := chk_out h
   refine Jg (u := I64 v122) (A_mul hv122 rfl rfl rfl) ?_ rfl rfl rfl
   obtain ⟨v123, hv123, h⟩ := chk_out h
   refine Jg (u := I64 v123) (A_sub hv123 rfl rfl rfl) ?_ rfl rfl rfl
   refine Jg (u := .ptr 1011 9) (A_fieldL tf_field_72_9 rfl rfl) ?_ rfl rfl rfl
   refine JL_go0 (u := .junk) (A_store (u := I64 v121) (ds := [I64 v113, I64 v115, BL y106.Deck, I64 v118, I64 0, I64 500000000, I64 500000000, I64 0, LS 1 I64 ([] : List Int), I64 v121, I64 0, I64 0]) tf_size_3 rfl rfl rfl rfl rfl rfl rfl rfl) ?_ rfl rfl
   refine Jg (u := .ptr 1011 10) (A_fieldL tf_field_72_10 rfl rfl) ?_ rfl rfl rfl
   refine JL_go0 (u := .junk) (A_store (u := I64 v123) (ds := [I64 v113, I64 v115, BL y106.Deck, I64 v118, I64 0, I64 500000000, I64 500000000, I64 0, LS 1 I64 ([] : List Int), I64 v121, I64 v123, I64 0]) tf_size_3 rfl rfl rfl rfl rfl rfl rfl rfl) ?_ rfl rfl
   refine Jg (u := .ptr 1011 11) (A_fieldL tf_field_72_11 rfl rfl) ?_ rfl rfl rfl
   refine JL_go0 (u := .junk) (A_store (u := I64 2000) (ds := [I64 v113, I64 v115, BL y106.Deck, I64 v118, I64 0, I64 500000000, I64 500000000, I64 0, LS 1 I64 ([] : List Int), I64 v121, I64 v123, I64 2000]) tf_size_3 rfl rfl rfl rfl rfl rfl rfl rfl) ?_ rfl rfl
   refine Jn (hK119 _ _ ?_)
   obtain ⟨kj124, hkj124, h⟩ := jp_out h
   refine JC_seqJ (fun j124 : Int => kj124 j124 = some r) (fun j124 => [(1, .sc (.int .u32 covers)), (4, .ptr 1008 0), (5, .ptr 1009 0), (8, .ptr 1011 0), (16, LS 4 law07_Place.av (l.take m5)), (17, I64 ((l.take m5).length : Int)), (18, I64 (i106 : Int))]) (fun j124 => [(1012, .spare 72 12 s106.1.length s106.1.length), (1013, .spare 76 2 s106.2.1.length s106.2.1.length), (1008, .box 35 [LS 12 Column.av ([] : List Column), LS 2 Cover.av ([] : List Cover), I64 0, I64 0, I64 0, I64 0, LS 5 Row.av ([] : List Row), LS 5 Frame.av ([] : List Frame), LS 6 Tank.av ([] : List Tank), I64 0, I64 0, I64 0, I64 0]), (1009, .box 35 [OW 1012 12 Column.av s106.1, OW 1013 2 Cover.av s106.2.1, I64 s106.2.2.1, I64 s106.2.2.2.1, I64 s106.2.2.2.2.1, I64 s106.2.2.2.2.2.1, LS 5 Row.av s106.2.2.2.2.2.2.1, LS 5 Frame.av s106.2.2.2.2.2.2.2.1, LS 6 Tank.av s106.2.2.2.2.2.2.2.2.1, I64 s106.2.2.2.2.2.2.2.2.2.1, I64 s106.2.2.2.2.2.2.2.2.2.2.1, I64 s106.2.2.2.2.2.2.2.2.2.2.2.1, I64 s106.2.2.2.2.2.2.2.2.2.2.2.2]), (1011, .box 72 [I64 v113, I64 v115, BL y106.Deck, I64 v118, I64 0, I64 500000000, I64 500000000, I64 0, LS 1 I64 ([] : List Int), I64 v121, I64 v123, I64 j124])]) (fun Kj124 ej124 => ?_) ?_
   ·
    refine Js fun K125 hK125 => Jr ?_
    refine Jg (u := .ptr 1011 2) (A_fieldL tf_field_72_2 rfl rfl) ?_ rfl rfl rfl
    refine Jg (u := BL y106.Deck) (A_loadL tf_scalar_4 rfl rfl rfl rfl) ?_ rfl rfl rfl
    refine Jn (hK125 _ _ ?_)
    refine JC_cond rfl (fun hb => ?_) (fun hb => ?_)
    ·
     replace h := bif_t hb h
     refine Jr ?_
     refine Jg (u := .ptr 1011 11) (A_fieldL tf_field_72_11 rfl rfl) ?_ rfl rfl rfl
     refine JL_go0 (u := .junk) (A_store (u := I64 20000) (ds := [I64 v113, I64 v115, BL y106.Deck, I64 v118, I64 0, I64 500000000, I64 500000000, I64 0, LS 1 I64 ([] : List Int), I64 v121, I64 v123, I64 20000]) tf_size_3 rfl rfl rfl rfl rfl rfl rfl rfl) ?_ rfl rfl
     refine Jn ?_
     exact ej124 _ _ 20000 h ⟨⟨.same rfl, .same rfl, .same rfl, .same rfl, .same rfl, .same rfl, .same rfl, trivial⟩, ⟨⟨_, rfl, .same⟩, ⟨_, rfl, .same⟩, ⟨_, rfl, .boxL rfl ⟨.same rfl, .same rfl, .same rfl, .same rfl, .same rfl, .same rfl, .same rfl, .same rfl, .same rfl, .same rfl, .same rfl, .same rfl, .same rfl, trivial⟩⟩, ⟨_, rfl, .boxL rfl ⟨.same rfl, .same rfl, .same rfl, .same rfl, .same rfl, .same rfl, .same rfl, .same rfl, .same rfl, .same rfl, .same rfl, .same rfl, .same rfl, trivial⟩⟩, ⟨_, rfl, .boxL rfl ⟨.same rfl, .same rfl, .same rfl, .same rfl, .same rfl, .same rfl, .same rfl, .same rfl, .same rfl, .same rfl, .same rfl, .same rfl, trivial⟩⟩, trivial⟩, rfl⟩
    ·
     replace h := bif_f hb h
     refine JC_skip ?_
     exact ej124 _ _ 2000 h ⟨⟨.same rfl, .same rfl, .same rfl, .same rfl, .same rfl, .same rfl, .same rfl, trivial⟩, ⟨⟨_, rfl, .same⟩, ⟨_, rfl, .same⟩, ⟨_, rfl, .boxL rfl ⟨.same rfl, .same rfl, .same rfl, .same rfl, .same rfl, .same rfl, .same rfl, .same rfl, .same rfl, .same rfl, .same rfl, .same rfl, .same rfl, trivial⟩⟩, ⟨_, rfl, .boxL rfl ⟨.same rfl, .same rfl, .same rfl, .same rfl, .same rfl, .same rfl, .same rfl, .same rfl, .same rfl, .same rfl, .same rfl, .same rfl, .same rfl, trivial⟩⟩, ⟨_, rfl, .boxL rfl ⟨.same rfl, .same rfl, .same rfl, .same rfl, .same rfl, .same rfl, .same rfl, .same rfl, .same rfl, .same rfl, .same rfl, .same rfl, trivial⟩⟩, trivial⟩, rfl⟩
   ·intro j124 h
    replace h := app1 hkj124 h
    refine Js fun K126 hK126 => Jr ?_
    refine Jg (u := .agg [OW 1012 12 Column.av s106.1, OW 1013 2 Cover.av s106.2.1, I64 s106.2.2.1, I64 s106.2.2.2.1, I64 s106.2.2.2.2.1, I64 s106.2.2.2.2.2.1, LS 5 Row.av s106.2.2.2.2.2.2.1, LS 5 Frame.av s106.2.2.2.2.2.2.2.1, LS 6 Tank.av s106.2.2.2.2.2.2.2.2.1, I64 s106.2.2.2.2.2.2.2.2.2.1, I64 s106.2.2.2.2.2.2.2.2.2.2.1, I64 s106.2.2.2.2.2.2.2.2.2.2.2.1, I64 s106.2.2.2.2.2.2.2.2.2.2.2.2]) (A_loadAggL tf_agg_35 rfl rfl rfl rfl) ?_ rfl rfl rfl
    refine Jg (u := .ptr 1011 0) (A_fieldL tf_field_72_0 rfl rfl) ?_ rfl rfl rfl
    refine Jg (u := I64 v113) (A_loadL tf_scalar_3 rfl rfl rfl rfl) ?_ rfl rfl rfl
    refine Jg (u := .ptr 1011 1) (A_fieldL tf_field_72_1 rfl rfl) ?_ rfl rfl rfl
    refine Jg (u := I64 v115) (A_loadL tf_scalar_3 rfl rfl rfl rfl) ?_ rfl rfl rfl
    refine Jg (u := .ptr 1011 2) (A_fieldL tf_field_72_2 rfl rfl) ?_ rfl rfl rfl
    refine Jg (u := BL y106.Deck) (A_loadL tf_scalar_4 rfl rfl rfl rfl) ?_ rfl rfl rfl
    obtain ⟨r127, hr127, h⟩ := bnd_out h
    refine Jg (u := .tup [I64 r127.1, BL r127.2]) (A_call1 (args := [.agg [LS 12 Column.av s106.1, LS 2 Cover.av s106.2.1, I64 s106.2.2.1, I64 s106.2.2.2.1, I64 s106.2.2.2.2.1, I64 s106.2.2.2.2.2.1, LS 5 Row.av s106.2.2.2.2.2.2.1, LS 5 Frame.av s106.2.2.2.2.2.2.2.1, LS 6 Tank.av s106.2.2.2.2.2.2.2.2.1, I64 s106.2.2.2.2.2.2.2.2.2.1, I64 s106.2.2.2.2.2.2.2.2.2.2.1, I64 s106.2.2.2.2.2.2.2.2.2.2.2.1, I64 s106.2.2.2.2.2.2.2.2.2.2.2.2], I64 v113, I64 v115, BL y106.Deck]) rfl (M_ship_Find_w (Ship.mk s106.1 s106.2.1 (Light.mk s106.2.2.1 s106.2.2.2.1 s106.2.2.2.2.1 s106.2.2.2.2.2.1) s106.2.2.2.2.2.2.1 s106.2.2.2.2.2.2.2.1 s106.2.2.2.2.2.2.2.2.1 (Limits.mk s106.2.2.2.2.2.2.2.2.2.1 s106.2.2.2.2.2.2.2.2.2.2.1 s106.2.2.2.2.2.2.2.2.2.2.2.1 s106.2.2.2.2.2.2.2.2.2.2.2.2)) v113 v115 y106.Deck r127 hr127) tf_call_17 ⟨rfl, rfl, rfl, rfl, rfl, rfl, rfl, rfl, trivial⟩) ?_ rfl rfl rfl
    refine Jg (u := .tup [I64 r127.1, BL r127.2]) (Am rfl rfl) ?_ rfl rfl rfl
    refine Jg (u := I64 r127.1) (A_extract rfl rfl rfl) ?_ rfl rfl rfl
    refine Jg (u := BL r127.2) (A_extract rfl rfl rfl) ?_ rfl rfl rfl
    refine Jg (u := I64 r127.1) (Aa rfl rfl) ?_ rfl rfl rfl
    refine Jg (u := BL r127.2) (Aa rfl rfl) ?_ rfl rfl rfl
    refine Jn (hK126 _ _ ?_)
    refine JC_freeze [(1, .sc (.int .u32 covers)), (4, .ptr 1008 0), (5, .ptr 1009 0), (8, .dptr [I64 v113, I64 v115, BL y106.Deck, I64 v118, I64 0, I64 500000000, I64 500000000, I64 0, LS 1 I64 ([] : List Int), I64 v121, I64 v123, I64 j124]), (10, BL r127.2), (16, LS 4 law07_Place.av (l.take m5)), (17, I64 ((l.take m5).length : Int)), (18, I64 (i106 : Int))] [(1012, .spare 72 12 s106.1.length s106.1.length), (1013, .spare 76 2 s106.2.1.length s106.2.1.length), (1008, .box 35 [LS 12 Column.av ([] : List Column), LS 2 Cover.av ([] : List Cover), I64 0, I64 0, I64 0, I64 0, LS 5 Row.av ([] : List Row), LS 5 Frame.av ([] : List Frame), LS 6 Tank.av ([] : List Tank), I64 0, I64 0, I64 0, I64 0]), (1009, .box 35 [OW 1012 12 Column.av s106.1, OW 1013 2 Cover.av s106.2.1, I64 s106.2.2.1, I64 s106.2.2.2.1, I64 s106.2.2.2.2.1, I64 s106.2.2.2.2.2.1, LS 5 Row.av s106.2.2.2.2.2.2.1, LS 5 Frame.av s106.2.2.2.2.2.2.2.1, LS 6 Tank.av s106.2.2.2.2.2.2.2.2.1, I64 s106.2.2.2.2.2.2.2.2.2.1, I64 s106.2.2.2.2.2.2.2.2.2.2.1, I64 s106.2.2.2.2.2.2.2.2.2.2.2.1, I64 s106.2.2.2.2.2.2.2.2.2.2.2.2])] 1011 rfl rfl rfl ⟨⟨_, rfl, .same⟩, ⟨_, rfl, .same⟩, ⟨_, rfl, .boxEq rfl rfl⟩, ⟨_, rfl, .boxEq rfl rfl⟩, trivial⟩ rfl (by exact ⟨.conv (.same rfl), .conv (.same rfl), .conv (.same rfl), .ptr, .conv (.same rfl), .conv (.same rfl), .conv (.same rfl), .conv (.same rfl), trivial⟩) ?_
    refine Js fun K128 hK128 => Jr ?_
    refine Jg (u := BL r127.2) (Am rfl rfl) ?_ rfl rfl rfl
    refine Jg (u := BL (!r127.2)) (A_not (b := r127.2) rfl rfl) ?_ rfl rfl rfl
    refine Jn (hK128 _ _ ?_)
    refine JC_cond rfl (fun hb => ?_) (fun hb => ?_)
    ·
     replace h := bif_t hb h
     refine Jr ?_
     refine Jg (u := .ptr 1009 0) (A_fieldL tf_field_35_0 rfl rfl) ?_ rfl rfl rfl
     refine Jg (u := OW 1012 12 Column.av s106.1) (A_loadL tf_scalar_25 rfl rfl rfl rfl) ?_ rfl rfl rfl
     refine Jg (u := .agg [I64 v113, I64 v115, BL y106.Deck, I64 v118, I64 0, I64 500000000, I64 500000000, I64 0, LS 1 I64 ([] : List Int), I64 v121, I64 v123, I64 j124]) (A_loadAgg tf_agg_72 rfl rfl rfl) ?_ rfl rfl rfl
     refine Jg (u := LS 12 Column.av ([(Column.mk v113 v115 y106.Deck v118 0 500000000 500000000 0 [] v121 v123 j124)])) (A_buildSlice (xs := [.agg [I64 v113, I64 v115, BL y106.Deck, I64 v118, I64 0, I64 500000000, I64 500000000, I64 0, LS 1 I64 ([] : List Int), I64 v121, I64 v123, I64 j124]]) rfl ⟨rfl, rfl, trivial⟩ tf_slice_25 tf_zsize_72 rfl rfl rfl rfl) ?_ rfl rfl rfl
     obtain ⟨ha129, h⟩ := need_out h
     refine Jg (u := OW 1012 12 Column.av (s106.1 ++ [(Column.mk v113 v115 y106.Deck v118 0 500000000 500000000 0 [] v121 v123 j124)])) (A_appendM (f := Column.av) (xs := s106.1) (ys := [(Column.mk v113 v115 y106.Deck v118 0 500000000 500000000 0 [] v121 v123 j124)]) rfl rfl rfl rfl tf_slice_25 tf_elem_72 ha129 (fun _ => rfl) (.inl rfl) rfl) ?_ rfl rfl rfl
     refine Jg (u := .ptr 1009 0) (A_fieldL tf_field_35_0 rfl rfl) ?_ rfl rfl rfl
     refine JL_go0 (u := .junk) (A_store (u := OW 1012 12 Column.av (s106.1 ++ [(Column.mk v113 v115 y106.Deck v118 0 500000000 500000000 0 [] v121 v123 j124)])) (ds := [OW 1012 12 Column.av (s106.1 ++ [(Column.mk v113 v115 y106.Deck v118 0 500000000 500000000 0 [] v121 v123 j124)]), OW 1013 2 Cover.av s106.2.1, I64 s106.2.2.1, I64 s106.2.2.2.1, I64 s106.2.2.2.2.1, I64 s106.2.2.2.2.2.1, LS 5 Row.av s106.2.2.2.2.2.2.1, LS 5 Frame.av s106.2.2.2.2.2.2.2.1, LS 6 Tank.av s106.2.2.2.2.2.2.2.2.1, I64 s106.2.2.2.2.2.2.2.2.2.1, I64 s106.2.2.2.2.2.2.2.2.2.2.1, I64 s106.2.2.2.2.2.2.2.2.2.2.2.1, I64 s106.2.2.2.2.2.2.2.2.2.2.2.2]) tf_size_25 rfl rfl rfl rfl rfl rfl rfl rfl) ?_ rfl rfl
     refine Jn ?_
     exact ej109 _ _ (s106.1 ++ [(Column.mk v113 v115 y106.Deck v118 0 500000000 500000000 0 [] v121 v123 j124)]) h ⟨⟨.same rfl, .same rfl, .same rfl, .same rfl, .same rfl, .same rfl, trivial⟩, ⟨⟨_, rfl, .same⟩, ⟨_, rfl, .same⟩, ⟨_, rfl, .boxL rfl ⟨.same rfl, .same rfl, .same rfl, .same rfl, .same rfl, .same rfl, .same rfl, .same rfl, .same rfl, .same rfl, .same rfl, .same rfl, .same rfl, trivial⟩⟩, ⟨_, rfl, .boxL rfl ⟨.same rfl, .same rfl, .same rfl, .same rfl, .same rfl, .same rfl, .same rfl, .same rfl, .same rfl, .same rfl, .same rfl, .same rfl, .same rfl, trivial⟩⟩, trivial⟩, rfl⟩
    ·
     replace h := bif_f hb h
     refine JC_skip ?_
     exact ej109 _ _ s106.1 h ⟨⟨.same rfl, .same rfl, .same rfl, .same rfl, .same rfl, .same rfl, trivial⟩, ⟨⟨_, rfl, .same⟩, ⟨_, rfl, .same⟩, ⟨_, rfl, .boxL rfl ⟨.same rfl, .same rfl, .same rfl, .same rfl, .same rfl, .same rfl, .same rfl, .same rfl, .same rfl, .same rfl, .same rfl, .same rfl, .same rfl, trivial⟩⟩, ⟨_, rfl, .boxL rfl ⟨.same rfl, .same rfl, .same rfl, .same rfl, .same rfl, .same rfl, .same rfl, .same rfl, .same rfl, .same rfl, .same rfl, .same rfl, .same rfl, trivial⟩⟩, trivial⟩, rfl⟩
  ·intro j109 h
   replace h := app1 hkj109 h
   refine Jr ?_
   refine Jg (u := I64 ((i106 + 1 : Nat) : Int)) (A_add (idx_succ hk106 hm17) rfl rfl rfl) ?_ rfl rfl rfl
   refine Jg (u := I64 ((i106 + 1 : Nat) : Int)) (Am rfl rfl) ?_ rfl rfl rfl
   refine Jn ?_
   exact e106 _ _ (i106 + 1) (j109, s106.2.1, s106.2.2.1, s106.2.2.2.1, s106.2.2.2.2.1, s106.2.2.2.2.2.1, s106.2.2.2.2.2.2.1, s106.2.2.2.2.2.2.2.1, s106.2.2.2.2.2.2.2.2.1, s106.2.2.2.2.2.2.2.2.2.1, s106.2.2.2.2.2.2.2.2.2.2.1, s106.2.2.2.2.2.2.2.2.2.2.2.1, s106.2.2.2.2.2.2.2.2.2.2.2.2) (app1 hn106 h) (by omega) ⟨⟨.same rfl, .same rfl, .same rfl, .same rfl, .same rfl, .same rfl, trivial⟩, ⟨⟨_, rfl, .same⟩, ⟨_, rfl, .same⟩, ⟨_, rfl, .boxL rfl ⟨.same rfl, .same rfl, .same rfl, .same rfl, .same rfl, .same rfl, .same rfl, .same rfl, .same rfl, .same rfl, .same rfl, .same rfl, .same rfl, trivial⟩⟩, ⟨_, rfl, .boxL rfl ⟨.same rfl, .same rfl, .same rfl, .same rfl, .same rfl, .same rfl, .same rfl, .same rfl, .same rfl, .same rfl, .same rfl, .same rfl, .same rfl, trivial⟩⟩, trivial⟩, rfl⟩
 ·
  have h := app1 hkx106 (each_nil hi106 (not_lt_len hb))
  refine JC_exit ?_
  refine hK3 _ _ ?_
  obtain ⟨kj130, hkj130, h⟩ := jp_out h
  refine JC_seqJ (fun j130 : (List Column) => kj130 j130 = some r) (fun j130 => [(1, .sc (.int .u32 covers)), (4, .ptr 1008 0), (5, .ptr 1009 0)]) (fun j130 => [(1013, .spare 76 2 s106.2.1.length s106.2.1.length), (1008, .box 35 [LS 12 Column.av ([] : List Column), LS 2 Cover.av ([] : List Cover), I64 0, I64 0, I64 0, I64 0, LS 5 Row.av ([] : List Row), LS 5 Frame.av ([] : List Frame), LS 6 Tank.av ([] : List Tank), I64 0, I64 0, I64 0, I64 0]), (1009, .box 35 [LS 12 Column.av j130, OW 1013 2 Cover.av s106.2.1, I64 s106.2.2.1, I64 s106.2.2.2.1, I64 s106.2.2.2.2.1, I64 s106.2.2.2.2.2.1, LS 5 Row.av s106.2.2.2.2.2.2.1, LS 5 Frame.av s106.2.2.2.2.2.2.2.1, LS 6 Tank.av s106.2.2.2.2.2.2.2.2.1, I64 s106.2.2.2.2.2.2.2.2.2.1, I64 s106.2.2.2.2.2.2.2.2.2.2.1, I64 s106.2.2.2.2.2.2.2.2.2.2.2.1, I64 s106.2.2.2.2.2.2.2.2.2.2.2.2])]) (fun Kj130 ej130 => ?_) ?_
  ·
   refine Js fun K131 hK131 => Jr ?_
   refine Jg (u := .ptr 1009 0) (A_fieldL tf_field_35_0 rfl rfl) ?_ rfl rfl rfl
   refine Jg (u := OW 1012 12 Column.av s106.1) (A_loadL tf_scalar_25 rfl rfl rfl rfl) ?_ rfl rfl rfl
   refine JL_lenM (f := Column.av) (xs := s106.1) tf_slice_25 rfl rfl (fun hm74 => ?_) rfl rfl rfl
   refine Jg (u := BL (decide ((s106.1.length : Int) = 0))) (A_eql rfl rfl rfl) ?_ rfl rfl rfl
   refine Jn (hK131 _ _ ?_)
   refine JC_cond rfl (fun hb => ?_) (fun hb => ?_)
   ·
    replace h := bif_t hb h
    refine Jr ?_
    refine Jg (u := .agg [I64 0, I64 0, BL false, I64 3, I64 0, I64 500000000, I64 500000000, I64 0, LS 1 I64 ([] : List Int), I64 0, I64 0, I64 2000]) (A_buildZ (cs := [I64 0, I64 0, BL false, I64 3, I64 0, I64 500000000, I64 500000000, I64 0, LS 1 I64 ([] : List Int), I64 0, I64 0, I64 2000]) [(0, 1), (1, 1), (2, 1), (3, 1), (4, 1), (5, 1), (6, 1), (7, 1), (8, 1), (9, 1), (10, 1), (11, 1)] [I64 0, I64 0, BL false, I64 0, I64 0, I64 0, I64 0, I64 0, LS 1 I64 ([] : List Int), I64 0, I64 0, I64 0] [.int .i64 0, .int .i64 0, .bool false, .int .i64 0, .int .i64 0, .int .i64 0, .int .i64 0, .int .i64 0, .slice none 0 0, .int .i64 0, .int .i64 0, .int .i64 0] tf_places_72 tf_zero_72 ⟨.inl rfl, .inl rfl, .inl rfl, .inl rfl, .inl rfl, .inl rfl, .inl rfl, .inl rfl, .inr ⟨_, rfl, rfl⟩, .inl rfl, .inl rfl, .inl rfl, trivial⟩ rfl rfl) ?_ rfl rfl rfl
    refine Jg (u := LS 12 Column.av ([(Column.mk 0 0 false 3 0 500000000 500000000 0 [] 0 0 2000)])) (A_buildSlice (xs := [.agg [I64 0, I64 0, BL false, I64 3, I64 0, I64 500000000, I64 500000000, I64 0, LS 1 I64 ([] : List Int), I64 0, I64 0, I64 2000]]) rfl ⟨rfl, rfl, trivial⟩ tf_slice_25 tf_zsize_72 rfl rfl rfl rfl) ?_ rfl rfl rfl
    refine Jg (u := .ptr 1009 0) (A_fieldL tf_field_35_0 rfl rfl) ?_ rfl rfl rfl
    refine JL_go0 (u := .junk) (A_store (u := LS 12 Column.av ([(Column.mk 0 0 false 3 0 500000000 500000000 0 [] 0 0 2000)])) (ds := [LS 12 Column.av ([(Column.mk 0 0 false 3 0 500000000 500000000 0 [] 0 0 2000)]), OW 1013 2 Cover.av s106.2.1, I64 s106.2.2.1, I64 s106.2.2.2.1, I64 s106.2.2.2.2.1, I64 s106.2.2.2.2.2.1, LS 5 Row.av s106.2.2.2.2.2.2.1, LS 5 Frame.av s106.2.2.2.2.2.2.2.1, LS 6 Tank.av s106.2.2.2.2.2.2.2.2.1, I64 s106.2.2.2.2.2.2.2.2.2.1, I64 s106.2.2.2.2.2.2.2.2.2.2.1, I64 s106.2.2.2.2.2.2.2.2.2.2.2.1, I64 s106.2.2.2.2.2.2.2.2.2.2.2.2]) tf_size_25 rfl rfl rfl rfl rfl rfl rfl rfl) ?_ rfl rfl
    refine Jn ?_
    exact ej130 _ _ ([(Column.mk 0 0 false 3 0 500000000 500000000 0 [] 0 0 2000)]) h ⟨⟨.same rfl, .same rfl, .same rfl, trivial⟩, ⟨⟨_, rfl, .same⟩, ⟨_, rfl, .boxL rfl ⟨.same rfl, .same rfl, .same rfl, .same rfl, .same rfl, .same rfl, .same rfl, .same rfl, .same rfl, .same rfl, .same rfl, .same rfl, .same rfl, trivial⟩⟩, ⟨_, rfl, .boxL rfl ⟨.same rfl, .same rfl, .same rfl, .same rfl, .same rfl, .same rfl, .same rfl, .same rfl, .same rfl, .same rfl, .same rfl, .same rfl, .same rfl, trivial⟩⟩, trivial⟩, rfl⟩
   ·
    replace h := bif_f hb h
    refine JC_skip ?_
    exact ej130 _ _ s106.1 h ⟨⟨.same rfl, .same rfl, .same rfl, trivial⟩, ⟨⟨_, rfl, .same⟩, ⟨_, rfl, .boxL rfl ⟨.same rfl, .same rfl, .same rfl, .same rfl, .same rfl, .same rfl, .same rfl, .same rfl, .same rfl, .same rfl, .same rfl, .same rfl, .same rfl, trivial⟩⟩, ⟨_, rfl, .boxL rfl ⟨.list rfl, .same rfl, .same rfl, .same rfl, .same rfl, .same rfl, .same rfl, .same rfl, .same rfl, .same rfl, .same rfl, .same rfl, .same rfl, trivial⟩⟩, trivial⟩, rfl⟩
  ·intro j130 h
   replace h := app1 hkj130 h
   refine Js (fun K132 hK132 => ?_)
   refine Js fun K133 hK133 => Jr ?_
   refine Jg (u := I64 0) (Aa rfl rfl) ?_ rfl rfl rfl
   refine Jn (hK133 _ _ ?_)
   refine JC_block ?_
   obtain ⟨hx200, h⟩ := need_out h
   obtain ⟨b200, kx200, hb200, hkx200, h⟩ := upto_in h
   refine JC_loop2 (fun i200 (s200 : (List Column) × (List Cover) × Int × Int × Int × Int × (List Row) × (List Frame) × (List Tank) × Int × Int × Int × Int) => upto b200 kx200 ((5 : Int).toNat - i200) i200 s200 = some r) (fun i200 s200 => [(1, .sc (.int .u32 covers)), (4, .ptr 1008 0), (5, .ptr 1009 0), (11, I64 (i200 : Int))]) (fun i200 s200 => [(1013, .spare 76 2 s200.2.1.length s200.2.1.length), (1008, .box 35 [LS 12 Column.av ([] : List Column), LS 2 Cover.av ([] : List Cover), I64 0, I64 0, I64 0, I64 0, LS 5 Row.av ([] : List Row), LS 5 Frame.av ([] : List Frame), LS 6 Tank.av ([] : List Tank), I64 0, I64 0, I64 0, I64 0]), (1009, .box 35 [LS 12 Column.av s200.1, OW 1013 2 Cover.av s200.2.1, I64 s200.2.2.1, I64 s200.2.2.2.1, I64 s200.2.2.2.2.1, I64 s200.2.2.2.2.2.1, LS 5 Row.av s200.2.2.2.2.2.2.1, LS 5 Frame.av s200.2.2.2.2.2.2.2.1, LS 6 Tank.av s200.2.2.2.2.2.2.2.2.1, I64 s200.2.2.2.2.2.2.2.2.2.1, I64 s200.2.2.2.2.2.2.2.2.2.2.1, I64 s200.2.2.2.2.2.2.2.2.2.2.2.1, I64 s200.2.2.2.2.2.2.2.2.2.2.2.2])]) (fun i200 => (5 : Int).toNat - i200) 0 (j130, s106.2.1, s106.2.2.1, s106.2.2.2.1, s106.2.2.2.2.1, s106.2.2.2.2.2.1, s106.2.2.2.2.2.2.1, s106.2.2.2.2.2.2.2.1, s106.2.2.2.2.2.2.2.2.1, s106.2.2.2.2.2.2.2.2.2.1, s106.2.2.2.2.2.2.2.2.2.2.1, s106.2.2.2.2.2.2.2.2.2.2.2.1, s106.2.2.2.2.2.2.2.2.2.2.2.2) h ⟨⟨.same rfl, .same rfl, .same rfl, .same rfl, trivial⟩, ⟨⟨_, rfl, .same⟩, ⟨_, rfl, .boxL rfl ⟨.same rfl, .same rfl, .same rfl, .same rfl, .same rfl, .same rfl, .same rfl, .same rfl, .same rfl, .same rfl, .same rfl, .same rfl, .same rfl, trivial⟩⟩, ⟨_, rfl, .boxL rfl ⟨.same rfl, .same rfl, .same rfl, .same rfl, .same rfl, .same rfl, .same rfl, .same rfl, .same rfl, .same rfl, .same rfl, .same rfl, .same rfl, trivial⟩⟩, trivial⟩, rfl⟩ ?_
   clear h
   intro i200 s200 hi200 K200 e200
   refine Js (fun K201 hK201 => ?_)
   refine Js fun K202 hK202 => Jr ?_
   refine Jg (u := I64 (i200 : Int)) (Am rfl rfl) ?_ rfl rfl rfl
   refine Jg (u := BL (decide ((i200 : Int) < 5))) (A_lss rfl rfl rfl) ?_ rfl rfl rfl
   refine Jn (hK202 _ _ ?_)
   refine JC_cond rfl (fun hb => ?_) (fun hb => ?_)
   ·
    have hk200 := lt_toNat hb
    obtain ⟨nx200, hn200, h⟩ := upto_out hi200 hk200
    replace h := app3 hb200 h
    refine JC_skip ?_
    refine hK201 _ _ ?_
    obtain ⟨kj203, hkj203, h⟩ := jp_out h
    refine JC_seqJ (fun j203 : (List Cover) => kj203 j203 = some r) (fun j203 => [(1, .sc (.int .u32 covers)), (4, .ptr 1008 0), (5, .ptr 1009 0), (11, I64 (i200 : Int))]) (fun j203 => [(1013, .spare 76 2 j203.length j203.length), (1008, .box 35 [LS 12 Column.av ([] : List Column), LS 2 Cover.av ([] : List Cover), I64 0, I64 0, I64 0, I64 0, LS 5 Row.av ([] : List Row), LS 5 Frame.av ([] : List Frame), LS 6 Tank.av ([] : List Tank), I64 0, I64 0, I64 0, I64 0]), (1009, .box 35 [LS 12 Column.av s200.1, OW 1013 2 Cover.av j203, I64 s200.2.2.1, I64 s200.2.2.2.1, I64 s200.2.2.2.2.1, I64 s200.2.2.2.2.2.1, LS 5 Row.av s200.2.2.2.2.2.2.1, LS 5 Frame.av s200.2.2.2.2.2.2.2.1, LS 6 Tank.av s200.2.2.2.2.2.2.2.2.1, I64 s200.2.2.2.2.2.2.2.2.2.1, I64 s200.2.2.2.2.2.2.2.2.2.2.1, I64 s200.2.2.2.2.2.2.2.2.2.2.2.1, I64 s200.2.2.2.2.2.2.2.2.2.2.2.2])]) (fun Kj203 ej203 => ?_) ?_
    ·
     refine JC_block ?_
     obtain ⟨kj204, hkj204, h⟩ := jp_out h
     refine JC_seqJ (fun j204 : (List Cover) => kj204 j204 = some r) (fun j204 => [(1, .sc (.int .u32 covers)), (4, .ptr 1008 0), (5, .ptr 1009 0), (11, I64 (i200 : Int))]) (fun j204 => [(1013, .spare 76 2 j204.length j204.length), (1008, .box 35 [LS 12 Column.av ([] : List Column), LS 2 Cover.av ([] : List Cover), I64 0, I64 0, I64 0, I64 0, LS 5 Row.av ([] : List Row), LS 5 Frame.av ([] : List Frame), LS 6 Tank.av ([] : List Tank), I64 0, I64 0, I64 0, I64 0]), (1009, .box 35 [LS 12 Column.av s200.1, OW 1013 2 Cover.av j204, I64 s200.2.2.1, I64 s200.2.2.2.1, I64 s200.2.2.2.2.1, I64 s200.2.2.2.2.2.1, LS 5 Row.av s200.2.2.2.2.2.2.1, LS 5 Frame.av s200.2.2.2.2.2.2.2.1, LS 6 Tank.av s200.2.2.2.2.2.2.2.2.1, I64 s200.2.2.2.2.2.2.2.2.2.1, I64 s200.2.2.2.2.2.2.2.2.2.2.1, I64 s200.2.2.2.2.2.2.2.2.2.2.2.1, I64 s200.2.2.2.2.2.2.2.2.2.2.2.2])]) (fun Kj204 ej204 => ?_) ?_
     ·
      refine Js fun K205 hK205 => Jr ?_
      refine Jg (u := .sc (.int .u32 covers)) (Am rfl rfl) ?_ rfl rfl rfl
      refine Jg (u := I64 (i200 : Int)) (Am rfl rfl) ?_ rfl rfl rfl
      obtain ⟨v206, hv206, h⟩ := chk_out h
      refine Jg (u := I64 v206) (A_mul hv206 rfl rfl rfl) ?_ rfl rfl rfl
      obtain ⟨m207, hm207, h⟩ := bnd_out h
      refine Jg (u := .sc (.int .u32 (shrN .u32 covers m207))) (A_shrM (s := m207) (natIn_out hm207).1 rfl rfl rfl) ?_ rfl rfl rfl
      refine Jg (u := .sc (.int .u32 (band .u32 (shrN .u32 covers m207) 1))) (A_band rfl rfl rfl) ?_ rfl rfl rfl
      refine Jg (u := BL (decide ((band .u32 (shrN .u32 covers m207) 1) = 1))) (A_eql rfl rfl rfl) ?_ rfl rfl rfl
      refine Jn (hK205 _ _ ?_)
      refine JC_cond rfl (fun hb => ?_) (fun hb => ?_)
      ·
       replace h := bif_t hb h
       refine Jr ?_
       refine Jg (u := .ptr 1009 1) (A_fieldL tf_field_35_1 rfl rfl) ?_ rfl rfl rfl
       refine Jg (u := OW 1013 2 Cover.av s200.2.1) (A_loadL tf_scalar_26 rfl rfl rfl rfl) ?_ rfl rfl rfl
       refine Jg (u := I64 (i200 : Int)) (Am rfl rfl) ?_ rfl rfl rfl
       refine Jg (u := LS 1 I64 [0, 1]) (A_buildSlice (xs := [I64 0, I64 1]) rfl ⟨rfl, rfl, rfl, rfl, trivial⟩ tf_slice_43 tf_zsize_3 rfl rfl rfl rfl) ?_ rfl rfl rfl
       refine Jg (u := .agg [I64 (i200 : Int), LS 1 I64 [0, 1]]) (A_buildZ (cs := [I64 (i200 : Int), LS 1 I64 [0, 1]]) [(0, 1), (1, 1)] [I64 0, LS 1 I64 ([] : List Int)] [.int .i64 0, .slice none 0 0] tf_places_76 tf_zero_76 ⟨.inl rfl, .inr ⟨_, rfl, rfl⟩, trivial⟩ rfl rfl) ?_ rfl rfl rfl
       refine Jg (u := LS 2 Cover.av ([(Cover.mk (i200 : Int) [0, 1])])) (A_buildSlice (xs := [.agg [I64 (i200 : Int), LS 1 I64 [0, 1]]]) rfl ⟨rfl, rfl, trivial⟩ tf_slice_26 tf_zsize_76 rfl rfl rfl rfl) ?_ rfl rfl rfl
       obtain ⟨ha208, h⟩ := need_out h
       refine Jg (u := OW 1013 2 Cover.av (s200.2.1 ++ [(Cover.mk (i200 : Int) [0, 1])])) (A_appendM (f := Cover.av) (xs := s200.2.1) (ys := [(Cover.mk (i200 : Int) [0, 1])]) rfl rfl rfl rfl tf_slice_26 tf_elem_76 ha208 (fun _ => rfl) (.inl rfl) rfl) ?_ rfl rfl rfl
       refine Jg (u := .ptr 1009 1) (A_fieldL tf_field_35_1 rfl rfl) ?_ rfl rfl rfl
       refine JL_go0 (u := .junk) (A_store (u := OW 1013 2 Cover.av (s200.2.1 ++ [(Cover.mk (i200 : Int) [0, 1])])) (ds := [LS 12 Column.av s200.1, OW 1013 2 Cover.av (s200.2.1 ++ [(Cover.mk (i200 : Int) [0, 1])]), I64 s200.2.2.1, I64 s200.2.2.2.1, I64 s200.2.2.2.2.1, I64 s200.2.2.2.2.2.1, LS 5 Row.av s200.2.2.2.2.2.2.1, LS 5 Frame.av s200.2.2.2.2.2.2.2.1, LS 6 Tank.av s200.2.2.2.2.2.2.2.2.1, I64 s200.2.2.2.2.2.2.2.2.2.1, I64 s200.2.2.2.2.2.2.2.2.2.2.1, I64 s200.2.2.2.2.2.2.2.2.2.2.2.1, I64 s200.2.2.2.2.2.2.2.2.2.2.2.2]) tf_size_26 rfl rfl rfl rfl rfl rfl rfl rfl) ?_ rfl rfl
       refine Jn ?_
       exact ej204 _ _ (s200.2.1 ++ [(Cover.mk (i200 : Int) [0, 1])]) h ⟨⟨.same rfl, .same rfl, .same rfl, .same rfl, trivial⟩, ⟨⟨_, rfl, .same⟩, ⟨_, rfl, .boxL rfl ⟨.same rfl, .same rfl, .same rfl, .same rfl, .same rfl, .same rfl, .same rfl, .same rfl, .same rfl, .same rfl, .same rfl, .same rfl, .same rfl, trivial⟩⟩, ⟨_, rfl, .boxL rfl ⟨.same rfl, .same rfl, .same rfl, .same rfl, .same rfl, .same rfl, .same rfl, .same rfl, .same rfl, .same rfl, .same rfl, .same rfl, .same rfl, trivial⟩⟩, trivial⟩, rfl⟩
      ·
       replace h := bif_f hb h
       refine JC_skip ?_
       exact ej204 _ _ s200.2.1 h ⟨⟨.same rfl, .same rfl, .same rfl, .same rfl, trivial⟩, ⟨⟨_, rfl, .same⟩, ⟨_, rfl, .boxL rfl ⟨.same rfl, .same rfl, .same rfl, .same rfl, .same rfl, .same rfl, .same rfl, .same rfl, .same rfl, .same rfl, .same rfl, .same rfl, .same rfl, trivial⟩⟩, ⟨_, rfl, .boxL rfl ⟨.same rfl, .same rfl, .same rfl, .same rfl, .same rfl, .same rfl, .same rfl, .same rfl, .same rfl, .same rfl, .same rfl, .same rfl, .same rfl, trivial⟩⟩, trivial⟩, rfl⟩
     ·intro j204 h
      replace h := app1 hkj204 h
      refine Js fun K209 hK209 => Jr ?_
      refine Jg (u := .sc (.int .u32 covers)) (Am rfl rfl) ?_ rfl rfl rfl
      refine Jg (u := I64 (i200 : Int)) (Am rfl rfl) ?_ rfl rfl rfl
      obtain ⟨v210, hv210, h⟩ := chk_out h
      refine Jg (u := I64 v210) (A_mul hv210 rfl rfl rfl) ?_ rfl rfl rfl
      obtain ⟨v211, hv211, h⟩ := chk_out h
      refine Jg (u := I64 v211) (A_add hv211 rfl rfl rfl) ?_ rfl rfl rfl
      obtain ⟨m212, hm212, h⟩ := bnd_out h
      refine Jg (u := .sc (.int .u32 (shrN .u32 covers m212))) (A_shrM (s := m212) (natIn_out hm212).1 rfl rfl rfl) ?_ rfl rfl rfl
      refine Jg (u := .sc (.int .u32 (band .u32 (shrN .u32 covers m212) 1))) (A_band rfl rfl rfl) ?_ rfl rfl rfl
      refine Jg (u := BL (decide ((band .u32 (shrN .u32 covers m212) 1) = 1))) (A_eql rfl rfl rfl) ?_ rfl rfl rfl
      refine Jn (hK209 _ _ ?_)
      refine JC_cond rfl (fun hb => ?_) (fun hb => ?_)
      ·
       replace h := bif_t hb h
       refine Jr ?_
       refine Jg (u := .ptr 1009 1) (A_fieldL tf_field_35_1 rfl rfl) ?_ rfl rfl rfl
       refine Jg (u := OW 1013 2 Cover.av j204) (A_loadL tf_scalar_26 rfl rfl rfl rfl) ?_ rfl rfl rfl
       refine Jg (u := I64 (i200 : Int)) (Am rfl rfl) ?_ rfl rfl rfl
       refine Jg (u := LS 1 I64 [2, 3, 4]) (A_buildSlice (xs := [I64 2, I64 3, I64 4]) rfl ⟨rfl, rfl, rfl, rfl, rfl, rfl, trivial⟩ tf_slice_43 tf_zsize_3 rfl rfl rfl rfl) ?_ rfl rfl rfl
       refine Jg (u := .agg [I64 (i200 : Int), LS 1 I64 [2, 3, 4]]) (A_buildZ (cs := [I64 (i200 : Int), LS 1 I64 [2, 3, 4]]) [(0, 1), (1, 1)] [I64 0, LS 1 I64 ([] : List Int)] [.int .i64 0, .slice none 0 0] tf_places_76 tf_zero_76 ⟨.inl rfl, .inr ⟨_, rfl, rfl⟩, trivial⟩ rfl rfl) ?_ rfl rfl rfl
       refine Jg (u := LS 2 Cover.av ([(Cover.mk (i200 : Int) [2, 3, 4])])) (A_buildSlice (xs := [.agg [I64 (i200 : Int), LS 1 I64 [2, 3, 4]]]) rfl ⟨rfl, rfl, trivial⟩ tf_slice_26 tf_zsize_76 rfl rfl rfl rfl) ?_ rfl rfl rfl
       obtain ⟨ha213, h⟩ := need_out h
       refine Jg (u := OW 1013 2 Cover.av (j204 ++ [(Cover.mk (i200 : Int) [2, 3, 4])])) (A_appendM (f := Cover.av) (xs := j204) (ys := [(Cover.mk (i200 : Int) [2, 3, 4])]) rfl rfl rfl rfl tf_slice_26 tf_elem_76 ha213 (fun _ => rfl) (.inl rfl) rfl) ?_ rfl rfl rfl
       refine Jg (u := .ptr 1009 1) (A_fieldL tf_field_35_1 rfl rfl) ?_ rfl rfl rfl
       refine JL_go0 (u := .junk) (A_store (u := OW 1013 2 Cover.av (j204 ++ [(Cover.mk (i200 : Int) [2, 3, 4])])) (ds := [LS 12 Column.av s200.1, OW 1013 2 Cover.av (j204 ++ [(Cover.mk (i200 : Int) [2, 3, 4])]), I64 s200.2.2.1, I64 s200.2.2.2.1, I64 s200.2.2.2.2.1, I64 s200.2.2.2.2.2.1, LS 5 Row.av s200.2.2.2.2.2.2.1, LS 5 Frame.av s200.2.2.2.2.2.2.2.1, LS 6 Tank.av s200.2.2.2.2.2.2.2.2.1, I64 s200.2.2.2.2.2.2.2.2.2.1, I64 s200.2.2.2.2.2.2.2.2.2.2.1, I64 s200.2.2.2.2.2.2.2.2.2.2.2.1, I64 s200.2.2.2.2.2.2.2.2.2.2.2.2]) tf_size_26 rfl rfl rfl rfl rfl rfl rfl rfl) ?_ rfl rfl
       refine Jn ?_
       exact ej203 _ _ (j204 ++ [(Cover.mk (i200 : Int) [2, 3, 4])]) h ⟨⟨.same rfl, .same rfl, .same rfl, .same rfl, trivial⟩, ⟨⟨_, rfl, .same⟩, ⟨_, rfl, .boxL rfl ⟨.same rfl, .same rfl, .same rfl, .same rfl, .same rfl, .same rfl, .same rfl, .same rfl, .same rfl, .same rfl, .same rfl, .same rfl, .same rfl, trivial⟩⟩, ⟨_, rfl, .boxL rfl ⟨.same rfl, .same rfl, .same rfl, .same rfl, .same rfl, .same rfl, .same rfl, .same rfl, .same rfl, .same rfl, .same rfl, .same rfl, .same rfl, trivial⟩⟩, trivial⟩, rfl⟩
      ·
       replace h := bif_f hb h
       refine JC_skip ?_
       exact ej203 _ _ j204 h ⟨⟨.same rfl, .same rfl, .same rfl, .same rfl, trivial⟩, ⟨⟨_, rfl, .same⟩, ⟨_, rfl, .boxL rfl ⟨.same rfl, .same rfl, .same rfl, .same rfl, .same rfl, .same rfl, .same rfl, .same rfl, .same rfl, .same rfl, .same rfl, .same rfl, .same rfl, trivial⟩⟩, ⟨_, rfl, .boxL rfl ⟨.same rfl, .same rfl, .same rfl, .same rfl, .same rfl, .same rfl, .same rfl, .same rfl, .same rfl, .same rfl, .same rfl, .same rfl, .same rfl, trivial⟩⟩, trivial⟩, rfl⟩
    ·intro j203 h
     replace h := app1 hkj203 h
     refine Jr ?_
     refine Jg (u := I64 (i200 : Int)) (Am rfl rfl) ?_ rfl rfl rfl
     refine Jg (u := I64 ((i200 + 1 : Nat) : Int)) (A_add (idx_succ hk200 (toNat_max hx200)) rfl rfl rfl) ?_ rfl rfl rfl
     refine Jg (u := I64 ((i200 + 1 : Nat) : Int)) (Aa rfl rfl) ?_ rfl rfl rfl
     refine Jn ?_
     exact e200 _ _ (i200 + 1) (s200.1, j203, s200.2.2.1, s200.2.2.2.1, s200.2.2.2.2.1, s200.2.2.2.2.2.1, s200.2.2.2.2.2.2.1, s200.2.2.2.2.2.2.2.1, s200.2.2.2.2.2.2.2.2.1, s200.2.2.2.2.2.2.2.2.2.1, s200.2.2.2.2.2.2.2.2.2.2.1, s200.2.2.2.2.2.2.2.2.2.2.2.1, s200.2.2.2.2.2.2.2.2.2.2.2.2) (app1 hn200 h) (by omega) ⟨⟨.same rfl, .same rfl, .same rfl, .same rfl, trivial⟩, ⟨⟨_, rfl, .same⟩, ⟨_, rfl, .boxL rfl ⟨.same rfl, .same rfl, .same rfl, .same rfl, .same rfl, .same rfl, .same rfl, .same rfl, .same rfl, .same rfl, .same rfl, .same rfl, .same rfl, trivial⟩⟩, ⟨_, rfl, .boxL rfl ⟨.same rfl, .same rfl, .same rfl, .same rfl, .same rfl, .same rfl, .same rfl, .same rfl, .same rfl, .same rfl, .same rfl, .same rfl, .same rfl, trivial⟩⟩, trivial⟩, rfl⟩
   ·
    have h := app1 hkx200 (upto_nil hi200 (not_lt_toNat hb))
    refine JC_exit ?_
    refine hK132 _ _ ?_
    refine Js fun K214 hK214 => Jr ?_
    refine Jg (u := .agg [LS 12 Column.av s200.1, OW 1013 2 Cover.av s200.2.1, I64 s200.2.2.1, I64 s200.2.2.2.1, I64 s200.2.2.2.2.1, I64 s200.2.2.2.2.2.1, LS 5 Row.av s200.2.2.2.2.2.2.1, LS 5 Frame.av s200.2.2.2.2.2.2.2.1, LS 6 Tank.av s200.2.2.2.2.2.2.2.2.1, I64 s200.2.2.2.2.2.2.2.2.2.1, I64 s200.2.2.2.2.2.2.2.2.2.2.1, I64 s200.2.2.2.2.2.2.2.2.2.2.2.1, I64 s200.2.2.2.2.2.2.2.2.2.2.2.2]) (A_loadAggL tf_agg_35 rfl rfl rfl rfl) ?_ rfl rfl rfl
    refine JL_go0 (u := .junk) (A_store (u := .agg [LS 12 Column.av s200.1, OW 1013 2 Cover.av s200.2.1, I64 s200.2.2.1, I64 s200.2.2.2.1, I64 s200.2.2.2.2.1, I64 s200.2.2.2.2.2.1, LS 5 Row.av s200.2.2.2.2.2.2.1, LS 5 Frame.av s200.2.2.2.2.2.2.2.1, LS 6 Tank.av s200.2.2.2.2.2.2.2.2.1, I64 s200.2.2.2.2.2.2.2.2.2.1, I64 s200.2.2.2.2.2.2.2.2.2.2.1, I64 s200.2.2.2.2.2.2.2.2.2.2.2.1, I64 s200.2.2.2.2.2.2.2.2.2.2.2.2]) (ds := [LS 12 Column.av s200.1, OW 1013 2 Cover.av s200.2.1, I64 s200.2.2.1, I64 s200.2.2.2.1, I64 s200.2.2.2.2.1, I64 s200.2.2.2.2.2.1, LS 5 Row.av s200.2.2.2.2.2.2.1, LS 5 Frame.av s200.2.2.2.2.2.2.2.1, LS 6 Tank.av s200.2.2.2.2.2.2.2.2.1, I64 s200.2.2.2.2.2.2.2.2.2.1, I64 s200.2.2.2.2.2.2.2.2.2.2.1, I64 s200.2.2.2.2.2.2.2.2.2.2.2.1, I64 s200.2.2.2.2.2.2.2.2.2.2.2.2]) tf_size_35 rfl rfl rfl rfl rfl rfl rfl rfl) ?_ rfl rfl
    refine Jn (hK214 _ _ ?_)
    refine JC_ret ?_
    exact ⟨[.agg [LS 12 Column.av s200.1, LS 2 Cover.av s200.2.1, I64 s200.2.2.1, I64 s200.2.2.2.1, I64 s200.2.2.2.2.1, I64 s200.2.2.2.2.2.1, LS 5 Row.av s200.2.2.2.2.2.2.1, LS 5 Frame.av s200.2.2.2.2.2.2.2.1, LS 6 Tank.av s200.2.2.2.2.2.2.2.2.1, I64 s200.2.2.2.2.2.2.2.2.2.1, I64 s200.2.2.2.2.2.2.2.2.2.2.1, I64 s200.2.2.2.2.2.2.2.2.2.2.2.1, I64 s200.2.2.2.2.2.2.2.2.2.2.2.2]], [], trivial, rfl, ⟨⟨_, ⟨_, _, _, _, rfl, rfl, rfl, .inl ⟨tf_agg_35, rfl⟩⟩, .agg ⟨.same rfl, .list rfl, .same rfl, .same rfl, .same rfl, .same rfl, .same rfl, .same rfl, .same rfl, .same rfl, .same rfl, .same rfl, .same rfl, trivial⟩⟩, trivial⟩, rfl, congrArg (fun r : Ship => (.agg (Ship.cs r) : AV)) (Option.some.inj h)⟩

def M_stow_taken (l : List Stowed) : Option (List Slot) :=
 each (fun y17 i17 (s17 : (List Slot)) nx17 =>
  need (decide ((s17.length + [y17.Slot].length) * 24 ≤ 140737488355328 ∧ s17.length + [y17.Slot].length ≤ maxLen)) <|
  nx17 (s17 ++ [y17.Slot]))
 (fun (s17 : (List Slot)) =>
  some s17) l 0 []
theorem M_stow_taken_w (l : List Stowed) (r : (List Slot)) (h : M_stow_taken l = some r) : Pure Try.prog 36 [LS 4 Stowed.av l] (· = LS 3 Slot.av r) := by
 unfold M_stow_taken at h
 refine Pure_ofG [.tmp 2] Try.func36 rfl rfl ?_
 refine Js fun K1 hK1 => Jr ?_
 refine Jg (u := LS 3 Slot.av ([] : List Slot)) (A_nilList 3 rfl rfl) ?_ rfl rfl rfl
 refine Jn (hK1 _ _ ?_)
 refine Js fun K2 hK2 => Jr ?_
 refine Jg (u := OW 1108 3 Slot.av ([] : List Slot)) (A_nilOwn 1108 80 3 rfl rfl rfl) ?_ rfl rfl rfl
 refine Jn (hK2 _ _ ?_)
 refine Js (fun K3 hK3 => ?_)
 refine Js fun K4 hK4 => Jr ?_
 refine Jg (u := LS 4 Stowed.av l) (Am rfl rfl) ?_ rfl rfl rfl
 refine JL_lenM (f := Stowed.av) (xs := l) tf_slice_40 rfl rfl (fun hm7 => ?_) rfl rfl rfl
 refine Jg (u := I64 0) (Am rfl rfl) ?_ rfl rfl rfl
 refine Jn (hK4 _ _ ?_)
 refine JC_block ?_
 obtain ⟨b17, kx17, hb17, hkx17, h⟩ := each_in h
 refine JC_loop2 (fun i17 (s17 : (List Slot)) => each b17 kx17 (List.drop i17 l) i17 s17 = some r) (fun i17 s17 => [(3, OW 1108 3 Slot.av s17), (6, LS 4 Stowed.av l), (7, I64 (l.length : Int)), (8, I64 (i17 : Int))]) (fun i17 s17 => [(1108, .spare 80 3 s17.length s17.length)]) (fun i17 => l.length - i17) 0 [] h ⟨⟨.same rfl, .same rfl, .same rfl, .same rfl, trivial⟩, ⟨⟨_, rfl, .same⟩, trivial⟩, rfl⟩ ?_
 clear h
 intro i17 s17 hi17 K17 e17
 refine Js fun K18 hK18 => Jr ?_
 refine Jg (u := BL (decide ((i17 : Int) < (l.length : Int)))) (A_lss rfl rfl rfl) ?_ rfl rfl rfl
 refine Jn (hK18 _ _ ?_)
 refine Js (fun K19 hK19 => ?_)
 refine JC_cond rfl (fun hb => ?_) (fun hb => ?_)
 ·
  have hk17 := lt_len hb
  obtain ⟨y17, nx17, hy17, hn17, h⟩ := each_out hi17 hk17
  replace h := app4 hb17 h
  refine JC_skip ?_
  refine hK19 _ _ ?_
  refine Js (fun K20 hK20 => ?_)
  refine JC_block ?_
  refine Js fun K21 hK21 => Jr ?_
  refine Jg (u := .dptr (Stowed.cs y17)) (A_indexM (f := Stowed.av) (xs := l) (y := y17) rfl rfl rfl tf_slice_40 hy17 rfl) ?_ rfl rfl rfl
  refine Jg (u := .agg (Stowed.cs y17)) (A_loadAgg tf_agg_82 rfl rfl rfl) ?_ rfl rfl rfl
  refine Jg (u := .ptr 1109 0) (A_allocJ 1109 4 tf_zsize_82 rfl rfl) ?_ rfl rfl rfl
  refine JL_go0 (u := .junk) (A_store (u := .agg (Stowed.cs y17)) (ds := [I64 y17.Box, I64 y17.Slot.Column, I64 y17.Slot.Tier, U8 y17.Slot.Half]) tf_size_82 rfl rfl rfl rfl rfl rfl rfl rfl) ?_ rfl rfl
  refine Jn (hK21 _ _ ?_)
  refine JC_freeze [(3, OW 1108 3 Slot.av s17), (5, .dptr (Stowed.cs y17)), (6, LS 4 Stowed.av l), (7, I64 (l.length : Int)), (8, I64 (i17 : Int))] [(1108, .spare 80 3 s17.length s17.length)] 1109 rfl rfl rfl ⟨⟨_, rfl, .same⟩, trivial⟩ rfl (by exact ⟨.conv (.same rfl), .ptr, .conv (.same rfl), .conv (.same rfl), .conv (.same rfl), trivial⟩) ?_
  refine Jr ?_
  refine Jg (u := OW 1108 3 Slot.av s17) (Am rfl rfl) ?_ rfl rfl rfl
  refine Jg (u := .dptr (Slot.cs y17.Slot)) (A_fieldM tf_field_82_1 rfl rfl rfl) ?_ rfl rfl rfl
  refine Jg (u := .agg (Slot.cs y17.Slot)) (A_loadAgg tf_agg_80 rfl rfl rfl) ?_ rfl rfl rfl
  refine Jg (u := LS 3 Slot.av [y17.Slot]) (A_buildSlice (xs := [.agg (Slot.cs y17.Slot)]) rfl ⟨rfl, rfl, trivial⟩ tf_slice_77 tf_zsize_80 rfl rfl rfl rfl) ?_ rfl rfl rfl
  obtain ⟨ha22, h⟩ := need_out h
  refine Jg (u := OW 1108 3 Slot.av (s17 ++ [y17.Slot])) (A_appendM (f := Slot.av) (xs := s17) (ys := [y17.Slot]) rfl rfl rfl rfl tf_slice_77 tf_elem_80 ha22 (fun _ => rfl) (.inl rfl) rfl) ?_ rfl rfl rfl
  refine Jg (u := OW 1108 3 Slot.av (s17 ++ [y17.Slot])) (Aa rfl rfl) ?_ rfl rfl rfl
  refine Jn (hK20 _ _ ?_)
  refine Jr ?_
  refine Jg (u := I64 ((i17 + 1 : Nat) : Int)) (A_add (idx_succ hk17 hm7) rfl rfl rfl) ?_ rfl rfl rfl
  refine Jg (u := I64 ((i17 + 1 : Nat) : Int)) (Am rfl rfl) ?_ rfl rfl rfl
  refine Jn ?_
  exact e17 _ _ (i17 + 1) (s17 ++ [y17.Slot]) (app1 hn17 h) (by omega) ⟨⟨.same rfl, .same rfl, .same rfl, .same rfl, trivial⟩, ⟨⟨_, rfl, .same⟩, trivial⟩, rfl⟩
 ·
  have h := app1 hkx17 (each_nil hi17 (not_lt_len hb))
  refine JC_exit ?_
  refine hK3 _ _ ?_
  refine Js fun K23 hK23 => Jr ?_
  refine Jg (u := OW 1108 3 Slot.av s17) (Am rfl rfl) ?_ rfl rfl rfl
  refine Jg (u := OW 1108 3 Slot.av s17) (Aa rfl rfl) ?_ rfl rfl rfl
  refine Jn (hK23 _ _ ?_)
  refine JC_ret ?_
  exact ⟨[LS 3 Slot.av s17], [], trivial, rfl, ⟨⟨_, rfl, .conv (.list rfl)⟩, trivial⟩, rfl, congrArg (fun r : (List Slot) => (LS 3 Slot.av r : AV)) (Option.some.inj h)⟩

def M_stow_Find_1 (b : Box) (p1 : Int) : Option Bool :=
 some (decide (b.ID = p1))
theorem M_stow_Find_1_w (b : Box) (p1 : Int) (r : Bool) (h : M_stow_Find_1 b p1 = some r) : Pure Try.prog 59 [.agg [I64 b.ID, ST b.Number, U8 b.Size, BL b.High, I64 b.Kilos, I64 b.Load, I64 b.Discharge, U8 b.Class, BL b.Reefer], .dptr [I64 p1]] (· = BL r) := by
 unfold M_stow_Find_1 at h
 refine Pure_ofG [.tmp 3] Try.func59 rfl rfl ?_
 refine Js fun K1 hK1 => Jr ?_
 refine Jg (u := .ptr 1135 0) (A_box (u := .agg [I64 b.ID, ST b.Number, U8 b.Size, BL b.High, I64 b.Kilos, I64 b.Load, I64 b.Discharge, U8 b.Class, BL b.Reefer]) (cs := [I64 b.ID, ST b.Number, U8 b.Size, BL b.High, I64 b.Kilos, I64 b.Load, I64 b.Discharge, U8 b.Class, BL b.Reefer]) 1135 rfl rfl rfl rfl rfl) ?_ rfl rfl rfl
 refine Jg (u := BL false) (Aa rfl rfl) ?_ rfl rfl rfl
 refine Jn (hK1 _ _ ?_)
 refine JC_freeze [(1, .dptr [I64 p1]), (2, .dptr [I64 b.ID, ST b.Number, U8 b.Size, BL b.High, I64 b.Kilos, I64 b.Load, I64 b.Discharge, U8 b.Class, BL b.Reefer])] [] 1135 rfl rfl rfl trivial rfl (by exact ⟨.conv (.same rfl), .ptr, trivial⟩) ?_
 refine Js fun K2 hK2 => Jr ?_
 refine Jg (u := .dptr [I64 b.ID, ST b.Number, U8 b.Size, BL b.High, I64 b.Kilos, I64 b.Load, I64 b.Discharge, U8 b.Class, BL b.Reefer]) (A_fieldM tf_field_50_0 rfl rfl rfl) ?_ rfl rfl rfl
 refine Jg (u := I64 b.ID) (A_load tf_scalar_3 rfl rfl rfl) ?_ rfl rfl rfl
 refine Jg (u := I64 p1) (A_load tf_scalar_3 rfl rfl rfl) ?_ rfl rfl rfl
 refine Jg (u := BL (decide (b.ID = p1))) (A_eql rfl rfl rfl) ?_ rfl rfl rfl
 refine Jg (u := BL (decide (b.ID = p1))) (Aa rfl rfl) ?_ rfl rfl rfl
 refine Jn (hK2 _ _ ?_)
 refine JC_ret ?_
 exact ⟨[BL (decide (b.ID = p1))], [], trivial, rfl, ⟨⟨_, rfl, .conv (.same rfl)⟩, trivial⟩, rfl, congrArg (fun r : Bool => (BL r : AV)) (Option.some.inj h)⟩

def M_slices_IndexFunc_apiBox (s : List Box) (f : Box → Option Bool) : Option Int :=
 each (fun y20 i20 (s20 : Unit) nx20 =>
  bnd (f y20) fun r26 =>
  bif r26 then
  (some (i20 : Int))
  else
  (nx20 ()))
 (fun (s20 : Unit) =>
  some (-1)) s 0 ()
theorem M_slices_IndexFunc_apiBox_w (s : List Box) (f : Box → Option Bool) (f_f : FuncId) (f_c : List AV) (f_B : callB Try.prog f_f = true) (f_d : refsL (fun _ => false) f_c = true) (f_w : ∀ a0 q, f a0 = some q → Pure Try.prog f_f ([.agg (Box.cs a0)] ++ f_c) (· = BL q)) (r : Int) (h : M_slices_IndexFunc_apiBox s f = some r) : Pure Try.prog 58 [LS 9 Box.av s, .fn f_f f_c] (· = I64 r) := by
 unfold M_slices_IndexFunc_apiBox at h
 refine Pure_ofG [.tmp 4] Try.func58 rfl rfl ?_
 refine Js fun K1 hK1 => Jr ?_
 refine Jg (u := I64 0) (Aa rfl rfl) ?_ rfl rfl rfl
 refine Jn (hK1 _ _ ?_)
 refine Js (fun K2 hK2 => ?_)
 refine Js fun K3 hK3 => Jr ?_
 refine Jg (u := LS 9 Box.av s) (Am rfl rfl) ?_ rfl rfl rfl
 refine JL_lenM (f := Box.av) (xs := s) tf_slice_39 rfl rfl (fun hm7 => ?_) rfl rfl rfl
 refine Jg (u := I64 0) (Am rfl rfl) ?_ rfl rfl rfl
 refine Jn (hK3 _ _ ?_)
 refine JC_block ?_
 obtain ⟨b20, kx20, hb20, hkx20, h⟩ := each_in h
 refine JC_loop2 (fun i20 (s20 : Unit) => each b20 kx20 (List.drop i20 s) i20 s20 = some r) (fun i20 s20 => [(0, LS 9 Box.av s), (1, .fn f_f f_c), (7, I64 (s.length : Int)), (8, I64 (i20 : Int))]) (fun i20 s20 => []) (fun i20 => s.length - i20) 0 () h ⟨⟨.same rfl, .same (refsL_any _ _ f_d), .same rfl, .same rfl, trivial⟩, trivial, rfl⟩ ?_
 clear h
 intro i20 s20 hi20 K20 e20
 refine Js fun K21 hK21 => Jr ?_
 refine Jg (u := BL (decide ((i20 : Int) < (s.length : Int)))) (A_lss rfl rfl rfl) ?_ rfl rfl rfl
 refine Jn (hK21 _ _ ?_)
 refine Js (fun K22 hK22 => ?_)
 refine JC_cond rfl (fun hb => ?_) (fun hb => ?_)
 ·
  have hk20 := lt_len hb
  obtain ⟨y20, nx20, hy20, hn20, h⟩ := each_out hi20 hk20
  replace h := app4 hb20 h
  refine JC_skip ?_
  refine hK22 _ _ ?_
  refine Js (fun K23 hK23 => ?_)
  refine JC_block ?_
  refine Js fun K24 hK24 => Jr ?_
  refine Jg (u := I64 (i20 : Int)) (Am rfl rfl) ?_ rfl rfl rfl
  refine Jg (u := I64 (i20 : Int)) (Aa rfl rfl) ?_ rfl rfl rfl
  refine Jn (hK24 _ _ ?_)
  refine Js fun K25 hK25 => Jr ?_
  refine Jg (u := .fn f_f f_c) (Am rfl rfl) ?_ rfl rfl rfl
  refine Jg (u := LS 9 Box.av s) (Am rfl rfl) ?_ rfl rfl rfl
  refine Jg (u := I64 (i20 : Int)) (Am rfl rfl) ?_ rfl rfl rfl
  refine Jg (u := .dptr (Box.cs y20)) (A_indexM (f := Box.av) (xs := s) (y := y20) rfl rfl rfl tf_slice_39 hy20 rfl) ?_ rfl rfl rfl
  refine Jg (u := .agg (Box.cs y20)) (A_loadAgg tf_agg_50 rfl rfl rfl) ?_ rfl rfl rfl
  obtain ⟨r26, hr26, h⟩ := bnd_out h
  refine Jg (u := BL r26) (A_callV1 (args := [.agg (Box.cs y20)]) (caps := f_c) rfl rfl (f_w y20 _ hr26) f_B ⟨rfl, rfl, trivial⟩ f_d) ?_ rfl rfl rfl
  refine Jn (hK25 _ _ ?_)
  refine JC_cond rfl (fun hb => ?_) (fun hb => ?_)
  ·
   replace h := bif_t hb h
   refine Js fun K27 hK27 => Jr ?_
   refine Jg (u := I64 (i20 : Int)) (Am rfl rfl) ?_ rfl rfl rfl
   refine Jg (u := I64 (i20 : Int)) (Aa rfl rfl) ?_ rfl rfl rfl
   refine Jn (hK27 _ _ ?_)
   refine JC_ret ?_
   exact ⟨[I64 (i20 : Int)], [], trivial, rfl, ⟨⟨_, rfl, .conv (.same rfl)⟩, trivial⟩, rfl, congrArg (fun r : Int => (I64 r : AV)) (Option.some.inj h)⟩
  ·
   replace h := bif_f hb h
   refine JC_skip ?_
   refine hK23 _ _ ?_
   refine Jr ?_
   refine Jg (u := I64 ((i20 + 1 : Nat) : Int)) (A_add (idx_succ hk20 hm7) rfl rfl rfl) ?_ rfl rfl rfl
   refine Jg (u := I64 ((i20 + 1 : Nat) : Int)) (Am rfl rfl) ?_ rfl rfl rfl
   refine Jn ?_
   exact e20 _ _ (i20 + 1) () (app1 hn20 h) (by omega) ⟨⟨.same rfl, .same (refsL_any _ _ f_d), .same rfl, .same rfl, trivial⟩, trivial, rfl⟩
 ·
  have h := app1 hkx20 (each_nil hi20 (not_lt_len hb))
  refine JC_exit ?_
  refine hK2 _ _ ?_
  refine Js fun K28 hK28 => Jr ?_
  refine Jg (u := I64 (-1)) (Aa rfl rfl) ?_ rfl rfl rfl
  refine Jn (hK28 _ _ ?_)
  refine JC_ret ?_
  exact ⟨[I64 (-1)], [], trivial, rfl, ⟨⟨_, rfl, .conv (.same rfl)⟩, trivial⟩, rfl, congrArg (fun r : Int => (I64 r : AV)) (Option.some.inj h)⟩

def M_stow_Find (boxes : List Box) (id_ : Int) : Option (Box × Bool) :=
 bnd (M_slices_IndexFunc_apiBox boxes (fun z0 => M_stow_Find_1 z0 id_)) fun r3 =>
 bif decide (r3 < 0) then
 (some ((Box.mk 0 ByteArray.empty 0 false 0 0 0 0 false), false))
 else
 (gidx boxes r3 fun y8 =>
  some (y8, true))
theorem M_stow_Find_w (boxes : List Box) (id_ : Int) (r : Box × Bool) (h : M_stow_Find boxes id_ = some r) : Pure Try.prog 37 [LS 9 Box.av boxes, I64 id_] (· = .tup [.agg (Box.cs r.1), BL r.2]) := by
 unfold M_stow_Find at h
 refine Pure_ofG [.cell 4 50, .tmp 5] Try.func37 rfl rfl ?_
 refine Js fun K1 hK1 => Jr ?_
 refine Jg (u := .ptr 1110 0) (A_box (u := I64 id_) (cs := [I64 id_]) 1110 rfl rfl rfl rfl rfl) ?_ rfl rfl rfl
 refine Jg (u := .ptr 1111 0) (A_allocZ 1111 [I64 0, ST ByteArray.empty, U8 0, BL false, I64 0, I64 0, I64 0, U8 0, BL false] [.int .i64 0, .string ByteArray.empty, .int .u8 0, .bool false, .int .i64 0, .int .i64 0, .int .i64 0, .int .u8 0, .bool false] tf_zero_50 ⟨.inl rfl, .inl rfl, .inl rfl, .inl rfl, .inl rfl, .inl rfl, .inl rfl, .inl rfl, .inl rfl, trivial⟩ rfl rfl) ?_ rfl rfl rfl
 refine Jg (u := BL false) (Aa rfl rfl) ?_ rfl rfl rfl
 refine Jn (hK1 _ _ ?_)
 refine JC_freeze [(0, LS 9 Box.av boxes), (3, .dptr [I64 id_]), (4, .ptr 1111 0)] [(1111, .box 50 [I64 0, ST ByteArray.empty, U8 0, BL false, I64 0, I64 0, I64 0, U8 0, BL false])] 1110 rfl rfl rfl ⟨⟨_, rfl, .boxEq rfl rfl⟩, trivial⟩ rfl (by exact ⟨.conv (.same rfl), .ptr, .conv (.same rfl), trivial⟩) ?_
 refine Js fun K2 hK2 => Jr ?_
 refine Jg (u := LS 9 Box.av boxes) (Am rfl rfl) ?_ rfl rfl rfl
 refine Jg (u := .fn 59 [.dptr [I64 id_]]) (A_makeFunc (cs := [.dptr [I64 id_]]) rfl rfl) ?_ rfl rfl rfl
 obtain ⟨r3, hr3, h⟩ := bnd_out h
 refine Jg (u := I64 r3) (A_call1 (args := [LS 9 Box.av boxes, .fn 59 [.dptr [I64 id_]]]) rfl (M_slices_IndexFunc_apiBox_w boxes (fun z0 => M_stow_Find_1 z0 id_) 59 [.dptr [I64 id_]] tf_call_59 rfl (fun z0 q hq => M_stow_Find_1_w z0 id_ q hq) r3 hr3) tf_call_58 ⟨rfl, rfl, rfl, rfl, trivial⟩) ?_ rfl rfl rfl
 refine Jg (u := I64 r3) (Aa rfl rfl) ?_ rfl rfl rfl
 refine Jn (hK2 _ _ ?_)
 refine Js (fun K4 hK4 => ?_)
 refine Js fun K5 hK5 => Jr ?_
 refine Jg (u := I64 r3) (Am rfl rfl) ?_ rfl rfl rfl
 refine Jg (u := BL (decide (r3 < 0))) (A_lss rfl rfl rfl) ?_ rfl rfl rfl
 refine Jn (hK5 _ _ ?_)
 refine JC_cond rfl (fun hb => ?_) (fun hb => ?_)
 ·
  replace h := bif_t hb h
  refine Js fun K6 hK6 => Jr ?_
  refine Jg (u := .agg [I64 0, ST ByteArray.empty, U8 0, BL false, I64 0, I64 0, I64 0, U8 0, BL false]) (A_buildZ (cs := [I64 0, ST ByteArray.empty, U8 0, BL false, I64 0, I64 0, I64 0, U8 0, BL false]) [(0, 1), (1, 1), (2, 1), (3, 1), (4, 1), (5, 1), (6, 1), (7, 1), (8, 1)] [I64 0, ST ByteArray.empty, U8 0, BL false, I64 0, I64 0, I64 0, U8 0, BL false] [.int .i64 0, .string ByteArray.empty, .int .u8 0, .bool false, .int .i64 0, .int .i64 0, .int .i64 0, .int .u8 0, .bool false] tf_places_50 tf_zero_50 ⟨.inl rfl, .inl rfl, .inl rfl, .inl rfl, .inl rfl, .inl rfl, .inl rfl, .inl rfl, .inl rfl, trivial⟩ rfl rfl) ?_ rfl rfl rfl
  refine JL_go0 (u := .junk) (A_store (u := .agg [I64 0, ST ByteArray.empty, U8 0, BL false, I64 0, I64 0, I64 0, U8 0, BL false]) (ds := [I64 0, ST ByteArray.empty, U8 0, BL false, I64 0, I64 0, I64 0, U8 0, BL false]) tf_size_50 rfl rfl rfl rfl rfl rfl rfl rfl) ?_ rfl rfl
  refine Jg (u := BL false) (Aa rfl rfl) ?_ rfl rfl rfl
  refine Jn (hK6 _ _ ?_)
  refine JC_ret ?_
  exact ⟨[.agg [I64 0, ST ByteArray.empty, U8 0, BL false, I64 0, I64 0, I64 0, U8 0, BL false], BL false], [], trivial, rfl, ⟨⟨_, ⟨_, _, _, _, rfl, rfl, rfl, .inl ⟨tf_agg_50, rfl⟩⟩, .conv (.same rfl)⟩, ⟨_, rfl, .conv (.same rfl)⟩, trivial⟩, rfl, congrArg (fun r : Box × Bool => (.tup [.agg (Box.cs r.1), BL r.2] : AV)) (Option.some.inj h)⟩
 ·
  replace h := bif_f hb h
  refine JC_skip ?_
  refine hK4 _ _ ?_
  refine Js fun K7 hK7 => Jr ?_
  refine Jg (u := LS 9 Box.av boxes) (Am rfl rfl) ?_ rfl rfl rfl
  refine Jg (u := I64 r3) (Am rfl rfl) ?_ rfl rfl rfl
  obtain ⟨m9, y8, hm9, hy8, h⟩ := gidx_out h
  refine Jg (u := .dptr (Box.cs y8)) (A_indexM (f := Box.av) (xs := boxes) (y := y8) rfl rfl rfl tf_slice_39 hy8 hm9) ?_ rfl rfl rfl
  refine Jg (u := .agg (Box.cs y8)) (A_loadAgg tf_agg_50 rfl rfl rfl) ?_ rfl rfl rfl
  refine JL_go0 (u := .junk) (A_store (u := .agg (Box.cs y8)) (ds := [I64 y8.ID, ST y8.Number, U8 y8.Size, BL y8.High, I64 y8.Kilos, I64 y8.Load, I64 y8.Discharge, U8 y8.Class, BL y8.Reefer]) tf_size_50 rfl rfl rfl rfl rfl rfl rfl rfl) ?_ rfl rfl
  refine Jg (u := BL true) (Aa rfl rfl) ?_ rfl rfl rfl
  refine Jn (hK7 _ _ ?_)
  refine JC_ret ?_
  exact ⟨[.agg (Box.cs y8), BL true], [], trivial, rfl, ⟨⟨_, ⟨_, _, _, _, rfl, rfl, rfl, .inl ⟨tf_agg_50, rfl⟩⟩, .conv (.same rfl)⟩, ⟨_, rfl, .conv (.same rfl)⟩, trivial⟩, rfl, congrArg (fun r : Box × Bool => (.tup [.agg (Box.cs r.1), BL r.2] : AV)) (Option.some.inj h)⟩

def M_slices_Index_uint8 (s : List Int) (v : Int) : Option Int :=
 each (fun y18 i18 (s18 : Unit) nx18 =>
  bif decide (v = y18) then
  (some (i18 : Int))
  else
  (nx18 ()))
 (fun (s18 : Unit) =>
  some (-1)) s 0 ()
theorem M_slices_Index_uint8_w (s : List Int) (v : Int) (r : Int) (h : M_slices_Index_uint8 s v = some r) : Pure Try.prog 70 [LS 1 U8 s, U8 v] (· = I64 r) := by
 unfold M_slices_Index_uint8 at h
 refine Pure_ofG [.tmp 4] Try.func70 rfl rfl ?_
 refine Js fun K1 hK1 => Jr ?_
 refine Jg (u := I64 0) (Aa rfl rfl) ?_ rfl rfl rfl
 refine Jn (hK1 _ _ ?_)
 refine Js (fun K2 hK2 => ?_)
 refine Js fun K3 hK3 => Jr ?_
 refine Jg (u := LS 1 U8 s) (Am rfl rfl) ?_ rfl rfl rfl
 refine JL_lenM (f := U8) (xs := s) tf_slice_127 rfl rfl (fun hm7 => ?_) rfl rfl rfl
 refine Jg (u := I64 0) (Am rfl rfl) ?_ rfl rfl rfl
 refine Jn (hK3 _ _ ?_)
 refine JC_block ?_
 obtain ⟨b18, kx18, hb18, hkx18, h⟩ := each_in h
 refine JC_loop2 (fun i18 (s18 : Unit) => each b18 kx18 (List.drop i18 s) i18 s18 = some r) (fun i18 s18 => [(0, LS 1 U8 s), (1, U8 v), (7, I64 (s.length : Int)), (8, I64 (i18 : Int))]) (fun i18 s18 => []) (fun i18 => s.length - i18) 0 () h ⟨⟨.same rfl, .same rfl, .same rfl, .same rfl, trivial⟩, trivial, rfl⟩ ?_
 clear h
 intro i18 s18 hi18 K18 e18
 refine Js fun K19 hK19 => Jr ?_
 refine Jg (u := BL (decide ((i18 : Int) < (s.length : Int)))) (A_lss rfl rfl rfl) ?_ rfl rfl rfl
 refine Jn (hK19 _ _ ?_)
 refine Js (fun K20 hK20 => ?_)
 refine JC_cond rfl (fun hb => ?_) (fun hb => ?_)
 ·
  have hk18 := lt_len hb
  obtain ⟨y18, nx18, hy18, hn18, h⟩ := each_out hi18 hk18
  replace h := app4 hb18 h
  refine JC_skip ?_
  refine hK20 _ _ ?_
  refine Js (fun K21 hK21 => ?_)
  refine JC_block ?_
  refine Js fun K22 hK22 => Jr ?_
  refine Jg (u := I64 (i18 : Int)) (Am rfl rfl) ?_ rfl rfl rfl
  refine Jg (u := I64 (i18 : Int)) (Aa rfl rfl) ?_ rfl rfl rfl
  refine Jn (hK22 _ _ ?_)
  refine Js fun K23 hK23 => Jr ?_
  refine Jg (u := U8 v) (Am rfl rfl) ?_ rfl rfl rfl
  refine Jg (u := LS 1 U8 s) (Am rfl rfl) ?_ rfl rfl rfl
  refine Jg (u := I64 (i18 : Int)) (Am rfl rfl) ?_ rfl rfl rfl
  refine Jg (u := .dptr [U8 y18]) (A_indexM (f := U8) (xs := s) (y := y18) rfl rfl rfl tf_slice_127 hy18 rfl) ?_ rfl rfl rfl
  refine Jg (u := U8 y18) (A_load tf_scalar_5 rfl rfl rfl) ?_ rfl rfl rfl
  refine Jg (u := BL (decide (v = y18))) (A_eql rfl rfl rfl) ?_ rfl rfl rfl
  refine Jn (hK23 _ _ ?_)
  refine JC_cond rfl (fun hb => ?_) (fun hb => ?_)
  ·
   replace h := bif_t hb h
   refine Js fun K24 hK24 => Jr ?_
   refine Jg (u := I64 (i18 : Int)) (Am rfl rfl) ?_ rfl rfl rfl
   refine Jg (u := I64 (i18 : Int)) (Aa rfl rfl) ?_ rfl rfl rfl
   refine Jn (hK24 _ _ ?_)
   refine JC_ret ?_
   exact ⟨[I64 (i18 : Int)], [], trivial, rfl, ⟨⟨_, rfl, .conv (.same rfl)⟩, trivial⟩, rfl, congrArg (fun r : Int => (I64 r : AV)) (Option.some.inj h)⟩
  ·
   replace h := bif_f hb h
   refine JC_skip ?_
   refine hK21 _ _ ?_
   refine Jr ?_
   refine Jg (u := I64 ((i18 + 1 : Nat) : Int)) (A_add (idx_succ hk18 hm7) rfl rfl rfl) ?_ rfl rfl rfl
   refine Jg (u := I64 ((i18 + 1 : Nat) : Int)) (Am rfl rfl) ?_ rfl rfl rfl
   refine Jn ?_
   exact e18 _ _ (i18 + 1) () (app1 hn18 h) (by omega) ⟨⟨.same rfl, .same rfl, .same rfl, .same rfl, trivial⟩, trivial, rfl⟩
 ·
  have h := app1 hkx18 (each_nil hi18 (not_lt_len hb))
  refine JC_exit ?_
  refine hK2 _ _ ?_
  refine Js fun K25 hK25 => Jr ?_
  refine Jg (u := I64 (-1)) (Aa rfl rfl) ?_ rfl rfl rfl
  refine Jn (hK25 _ _ ?_)
  refine JC_ret ?_
  exact ⟨[I64 (-1)], [], trivial, rfl, ⟨⟨_, rfl, .conv (.same rfl)⟩, trivial⟩, rfl, congrArg (fun r : Int => (I64 r : AV)) (Option.some.inj h)⟩

def M_slices_Contains_uint8 (s : List Int) (v : Int) : Option Bool :=
 bnd (M_slices_Index_uint8 s v) fun r3 =>
 some (decide (0 ≤ r3))
theorem M_slices_Contains_uint8_w (s : List Int) (v : Int) (r : Bool) (h : M_slices_Contains_uint8 s v = some r) : Pure Try.prog 60 [LS 1 U8 s, U8 v] (· = BL r) := by
 unfold M_slices_Contains_uint8 at h
 refine Pure_ofG [.tmp 4] Try.func60 rfl rfl ?_
 refine Js fun K1 hK1 => Jr ?_
 refine Jg (u := BL false) (Aa rfl rfl) ?_ rfl rfl rfl
 refine Jn (hK1 _ _ ?_)
 refine Js fun K2 hK2 => Jr ?_
 refine Jg (u := LS 1 U8 s) (Am rfl rfl) ?_ rfl rfl rfl
 refine Jg (u := U8 v) (Am rfl rfl) ?_ rfl rfl rfl
 obtain ⟨r3, hr3, h⟩ := bnd_out h
 refine Jg (u := I64 r3) (A_call1 (args := [LS 1 U8 s, U8 v]) rfl (M_slices_Index_uint8_w s v r3 hr3) tf_call_70 ⟨rfl, rfl, rfl, rfl, trivial⟩) ?_ rfl rfl rfl
 refine Jg (u := BL (decide (0 ≤ r3))) (A_geq rfl rfl rfl) ?_ rfl rfl rfl
 refine Jg (u := BL (decide (0 ≤ r3))) (Aa rfl rfl) ?_ rfl rfl rfl
 refine Jn (hK2 _ _ ?_)
 refine JC_ret ?_
 exact ⟨[BL (decide (0 ≤ r3))], [], trivial, rfl, ⟨⟨_, rfl, .conv (.same rfl)⟩, trivial⟩, rfl, congrArg (fun r : Bool => (BL r : AV)) (Option.some.inj h)⟩

def M_slot_Right (s : Ship) (x : Slot) (size : Int) : Option Bool :=
 bnd (bif (((decide (0 ≤ x.Column)) && (decide (x.Column < (s.Columns.length : Int)))) && (decide (0 ≤ x.Tier))) then gidx s.Columns x.Column some else some default) fun y3 =>
 bnd (bif ((((decide (0 ≤ x.Column)) && (decide (x.Column < (s.Columns.length : Int)))) && (decide (0 ≤ x.Tier))) && (decide (x.Tier < y3.Tiers))) then M_slot_halves size else some default) fun r4 =>
 bnd (bif ((((decide (0 ≤ x.Column)) && (decide (x.Column < (s.Columns.length : Int)))) && (decide (0 ≤ x.Tier))) && (decide (x.Tier < y3.Tiers))) then M_slices_Contains_uint8 r4 x.Half else some default) fun r5 =>
 some (((((decide (0 ≤ x.Column)) && (decide (x.Column < (s.Columns.length : Int)))) && (decide (0 ≤ x.Tier))) && (decide (x.Tier < y3.Tiers))) && r5)
theorem M_slot_Right_w (s : Ship) (x : Slot) (size : Int) (r : Bool) (h : M_slot_Right s x size = some r) : Pure Try.prog 38 [.agg [LS 12 Column.av s.Columns, LS 2 Cover.av s.Covers, I64 s.Light.Kilos, I64 s.Light.X, I64 s.Light.Y, I64 s.Light.Z, LS 5 Row.av s.Rows, LS 5 Frame.av s.Frames, LS 6 Tank.av s.Tanks, I64 s.Limits.Tolerance, I64 s.Limits.Trim, I64 s.Limits.List_, I64 s.Limits.Stability], .agg [I64 x.Column, I64 x.Tier, U8 x.Half], U8 size] (· = BL r) := by
 unfold M_slot_Right at h
 refine Pure_ofG [.tmp 6] Try.func38 rfl rfl ?_
 refine Js fun K1 hK1 => Jr ?_
 refine Jg (u := .ptr 1112 0) (A_box (u := .agg [LS 12 Column.av s.Columns, LS 2 Cover.av s.Covers, I64 s.Light.Kilos, I64 s.Light.X, I64 s.Light.Y, I64 s.Light.Z, LS 5 Row.av s.Rows, LS 5 Frame.av s.Frames, LS 6 Tank.av s.Tanks, I64 s.Limits.Tolerance, I64 s.Limits.Trim, I64 s.Limits.List_, I64 s.Limits.Stability]) (cs := [LS 12 Column.av s.Columns, LS 2 Cover.av s.Covers, I64 s.Light.Kilos, I64 s.Light.X, I64 s.Light.Y, I64 s.Light.Z, LS 5 Row.av s.Rows, LS 5 Frame.av s.Frames, LS 6 Tank.av s.Tanks, I64 s.Limits.Tolerance, I64 s.Limits.Trim, I64 s.Limits.List_, I64 s.Limits.Stability]) 1112 rfl rfl rfl rfl rfl) ?_ rfl rfl rfl
 refine Jg (u := .ptr 1113 0) (A_box (u := .agg [I64 x.Column, I64 x.Tier, U8 x.Half]) (cs := [I64 x.Column, I64 x.Tier, U8 x.Half]) 1113 rfl rfl rfl rfl rfl) ?_ rfl rfl rfl
 refine Jg (u := BL false) (Aa rfl rfl) ?_ rfl rfl rfl
 refine Jn (hK1 _ _ ?_)
 refine JC_freeze [(2, U8 size), (3, .dptr [LS 12 Column.av s.Columns, LS 2 Cover.av s.Covers, I64 s.Light.Kilos, I64 s.Light.X, I64 s.Light.Y, I64 s.Light.Z, LS 5 Row.av s.Rows, LS 5 Frame.av s.Frames, LS 6 Tank.av s.Tanks, I64 s.Limits.Tolerance, I64 s.Limits.Trim, I64 s.Limits.List_, I64 s.Limits.Stability]), (4, .ptr 1113 0)] [(1113, .box 80 [I64 x.Column, I64 x.Tier, U8 x.Half])] 1112 rfl rfl rfl ⟨⟨_, rfl, .boxEq rfl rfl⟩, trivial⟩ rfl (by exact ⟨.conv (.same rfl), .ptr, .conv (.same rfl), trivial⟩) ?_
 refine JC_freeze [(2, U8 size), (3, .dptr [LS 12 Column.av s.Columns, LS 2 Cover.av s.Covers, I64 s.Light.Kilos, I64 s.Light.X, I64 s.Light.Y, I64 s.Light.Z, LS 5 Row.av s.Rows, LS 5 Frame.av s.Frames, LS 6 Tank.av s.Tanks, I64 s.Limits.Tolerance, I64 s.Limits.Trim, I64 s.Limits.List_, I64 s.Limits.Stability]), (4, .dptr [I64 x.Column, I64 x.Tier, U8 x.Half])] [] 1113 rfl rfl rfl trivial rfl (by exact ⟨.conv (.same rfl), .conv (.same rfl), .ptr, trivial⟩) ?_
 refine Js (fun K2 hK2 => ?_)
 obtain ⟨y3, hy3, h⟩ := bnd_out h
 obtain ⟨r4, hr4, h⟩ := bnd_out h
 obtain ⟨r5, hr5, h⟩ := bnd_out h
 refine JC_draw [] [0, 0, 0, 0, 0, 0, 0, 0, 0, 0, 0, 0, 0, 0, 0, 0, 0, 0, 0, 0, 0, 0, 0, 0, 0, 0, 0, 0, 0, 0, 0, 0, 0, 0, 0, 0] [0, 0, 0, 0, 0, 0, 0, 0, 0, 0, 0, 0, 0, 0, 0, 0, 0, 0, 0, 0, 0, 0, 0, 0, 0, 0, 0, 0, 0, 0, 0, 0, 0, 0, 0, 0] [[]] tf_mixed (by kernel_rfl) rfl rfl ?_
 refine D_ro (u := .dptr [I64 x.Column, I64 x.Tier, U8 x.Half]) rfl rfl ⟨O_go (A_fieldM tf_field_80_0 rfl rfl rfl) rfl, trivial⟩ ?_ rfl
 refine D_ro (u := I64 x.Column) rfl rfl ⟨O_go (A_load tf_scalar_3 rfl rfl rfl) rfl, trivial⟩ ?_ rfl
 refine D_ro (u := BL (decide (0 ≤ x.Column))) rfl rfl ⟨O_go (A_geq rfl rfl rfl) rfl, trivial⟩ ?_ rfl
 refine D_ro (u := BL (decide (0 ≤ x.Column))) rfl rfl ⟨O_go (Am rfl rfl) rfl, trivial⟩ ?_ rfl
 refine D_ro (u := .opt (decide (0 ≤ x.Column)) (.dptr [I64 x.Column, I64 x.Tier, U8 x.Half])) rfl rfl ⟨O_opt [] rfl rfl rfl .sct trivial (fun hc => A_fieldM tf_field_80_0 rfl rfl rfl) rfl, trivial⟩ ?_ rfl
 refine D_ro (u := .opt (decide (0 ≤ x.Column)) (I64 x.Column)) rfl rfl ⟨O_opt [(11, .dptr [I64 x.Column, I64 x.Tier, U8 x.Half])] rfl rfl rfl .sct ⟨.all id, trivial⟩ (fun hc => A_load tf_scalar_3 rfl rfl rfl) rfl, trivial⟩ ?_ rfl
 refine D_ro (u := .opt (decide (0 ≤ x.Column)) (.dptr [LS 12 Column.av s.Columns, LS 2 Cover.av s.Covers, I64 s.Light.Kilos, I64 s.Light.X, I64 s.Light.Y, I64 s.Light.Z, LS 5 Row.av s.Rows, LS 5 Frame.av s.Frames, LS 6 Tank.av s.Tanks, I64 s.Limits.Tolerance, I64 s.Limits.Trim, I64 s.Limits.List_, I64 s.Limits.Stability])) rfl rfl ⟨O_opt [] rfl rfl rfl .sct trivial (fun hc => A_fieldM tf_field_35_0 rfl rfl rfl) rfl, trivial⟩ ?_ rfl
 refine D_ro (u := .opt (decide (0 ≤ x.Column)) (LS 12 Column.av s.Columns)) rfl rfl ⟨O_opt [(13, .dptr [LS 12 Column.av s.Columns, LS 2 Cover.av s.Covers, I64 s.Light.Kilos, I64 s.Light.X, I64 s.Light.Y, I64 s.Light.Z, LS 5 Row.av s.Rows, LS 5 Frame.av s.Frames, LS 6 Tank.av s.Tanks, I64 s.Limits.Tolerance, I64 s.Limits.Trim, I64 s.Limits.List_, I64 s.Limits.Stability])] rfl rfl rfl .sct ⟨.all id, trivial⟩ (fun hc => A_load tf_scalar_25 rfl rfl rfl) rfl, trivial⟩ ?_ rfl
 refine D_ro (u := .opt (decide (0 ≤ x.Column)) (I64 (s.Columns.length : Int))) rfl rfl ⟨O_opt [(14, LS 12 Column.av s.Columns)] rfl rfl rfl .sct ⟨.all id, trivial⟩ (fun hc => A_lenM (f := Column.av) (xs := s.Columns) tf_slice_25 rfl rfl) rfl, trivial⟩ ?_ rfl
 refine D_ro (u := .opt (decide (0 ≤ x.Column)) (BL (decide (x.Column < (s.Columns.length : Int))))) rfl rfl ⟨O_opt [(12, I64 x.Column), (15, I64 (s.Columns.length : Int))] rfl rfl rfl .sct ⟨.all id, .all id, trivial⟩ (fun hc => A_lss rfl rfl rfl) rfl, trivial⟩ ?_ rfl
 refine D_ro (u := BL ((decide (0 ≤ x.Column)) && (decide (x.Column < (s.Columns.length : Int))))) rfl rfl ⟨O_go (A_and rfl rfl rfl rfl) rfl, trivial⟩ ?_ rfl
 refine D_ro (u := BL ((decide (0 ≤ x.Column)) && (decide (x.Column < (s.Columns.length : Int))))) rfl rfl ⟨O_go (Am rfl rfl) rfl, trivial⟩ ?_ rfl
 refine D_ro (u := .opt ((decide (0 ≤ x.Column)) && (decide (x.Column < (s.Columns.length : Int)))) (.dptr [I64 x.Tier, U8 x.Half])) rfl rfl ⟨O_opt [] rfl rfl rfl .sct trivial (fun hc => A_fieldM tf_field_80_1 rfl rfl rfl) rfl, trivial⟩ ?_ rfl
 refine D_ro (u := .opt ((decide (0 ≤ x.Column)) && (decide (x.Column < (s.Columns.length : Int)))) (I64 x.Tier)) rfl rfl ⟨O_opt [(19, .dptr [I64 x.Tier, U8 x.Half])] rfl rfl rfl .sct ⟨.all id, trivial⟩ (fun hc => A_load tf_scalar_3 rfl rfl rfl) rfl, trivial⟩ ?_ rfl
 refine D_ro (u := .opt ((decide (0 ≤ x.Column)) && (decide (x.Column < (s.Columns.length : Int)))) (BL (decide (0 ≤ x.Tier)))) rfl rfl ⟨O_opt [(20, I64 x.Tier)] rfl rfl rfl .sct ⟨.all id, trivial⟩ (fun hc => A_geq rfl rfl rfl) rfl, trivial⟩ ?_ rfl
 refine D_ro (u := BL (((decide (0 ≤ x.Column)) && (decide (x.Column < (s.Columns.length : Int)))) && (decide (0 ≤ x.Tier)))) rfl rfl ⟨O_go (A_and rfl rfl rfl rfl) rfl, trivial⟩ ?_ rfl
 refine D_ro (u := BL (((decide (0 ≤ x.Column)) && (decide (x.Column < (s.Columns.length : Int)))) && (decide (0 ≤ x.Tier)))) rfl rfl ⟨O_go (Am rfl rfl) rfl, trivial⟩ ?_ rfl
 refine D_ro (u := .opt (((decide (0 ≤ x.Column)) && (decide (x.Column < (s.Columns.length : Int)))) && (decide (0 ≤ x.Tier))) (.dptr [I64 x.Tier, U8 x.Half])) rfl rfl ⟨O_opt [] rfl rfl rfl .sct trivial (fun hc => A_fieldM tf_field_80_1 rfl rfl rfl) rfl, trivial⟩ ?_ rfl
 refine D_ro (u := .opt (((decide (0 ≤ x.Column)) && (decide (x.Column < (s.Columns.length : Int)))) && (decide (0 ≤ x.Tier))) (I64 x.Tier)) rfl rfl ⟨O_opt [(24, .dptr [I64 x.Tier, U8 x.Half])] rfl rfl rfl .sct ⟨.all id, trivial⟩ (fun hc => A_load tf_scalar_3 rfl rfl rfl) rfl, trivial⟩ ?_ rfl
 refine D_ro (u := .opt (((decide (0 ≤ x.Column)) && (decide (x.Column < (s.Columns.length : Int)))) && (decide (0 ≤ x.Tier))) (.dptr [LS 12 Column.av s.Columns, LS 2 Cover.av s.Covers, I64 s.Light.Kilos, I64 s.Light.X, I64 s.Light.Y, I64 s.Light.Z, LS 5 Row.av s.Rows, LS 5 Frame.av s.Frames, LS 6 Tank.av s.Tanks, I64 s.Limits.Tolerance, I64 s.Limits.Trim, I64 s.Limits.List_, I64 s.Limits.Stability])) rfl rfl ⟨O_opt [] rfl rfl rfl .sct trivial (fun hc => A_fieldM tf_field_35_0 rfl rfl rfl) rfl, trivial⟩ ?_ rfl
 refine D_ro (u := .opt (((decide (0 ≤ x.Column)) && (decide (x.Column < (s.Columns.length : Int)))) && (decide (0 ≤ x.Tier))) (LS 12 Column.av s.Columns)) rfl rfl ⟨O_opt [(26, .dptr [LS 12 Column.av s.Columns, LS 2 Cover.av s.Covers, I64 s.Light.Kilos, I64 s.Light.X, I64 s.Light.Y, I64 s.Light.Z, LS 5 Row.av s.Rows, LS 5 Frame.av s.Frames, LS 6 Tank.av s.Tanks, I64 s.Limits.Tolerance, I64 s.Limits.Trim, I64 s.Limits.List_, I64 s.Limits.Stability])] rfl rfl rfl .sct ⟨.all id, trivial⟩ (fun hc => A_load tf_scalar_25 rfl rfl rfl) rfl, trivial⟩ ?_ rfl
 refine D_ro (u := .opt (((decide (0 ≤ x.Column)) && (decide (x.Column < (s.Columns.length : Int)))) && (decide (0 ≤ x.Tier))) (.dptr [I64 x.Column, I64 x.Tier, U8 x.Half])) rfl rfl ⟨O_opt [] rfl rfl rfl .sct trivial (fun hc => A_fieldM tf_field_80_0 rfl rfl rfl) rfl, trivial⟩ ?_ rfl
 refine D_ro (u := .opt (((decide (0 ≤ x.Column)) && (decide (x.Column < (s.Columns.length : Int)))) && (decide (0 ≤ x.Tier))) (I64 x.Column)) rfl rfl ⟨O_opt [(28, .dptr [I64 x.Column, I64 x.Tier, U8 x.Half])] rfl rfl rfl .sct ⟨.all id, trivial⟩ (fun hc => A_load tf_scalar_3 rfl rfl rfl) rfl, trivial⟩ ?_ rfl
 refine D_ro (u := .opt (((decide (0 ≤ x.Column)) && (decide (x.Column < (s.Columns.length : Int)))) && (decide (0 ≤ x.Tier))) (.dptr (Column.cs y3))) rfl rfl ⟨O_opt [(27, LS 12 Column.av s.Columns), (29, I64 x.Column)] rfl rfl rfl .sct ⟨.all id, .all id, trivial⟩ (fun hc => (match gidx_some (bif_t hc hy3) with | ⟨_, hm_, hy_⟩ => A_indexM (f := Column.av) (xs := s.Columns) (y := y3) rfl rfl rfl tf_slice_25 hy_ hm_)) rfl, trivial⟩ ?_ rfl
 refine D_ro (u := .opt (((decide (0 ≤ x.Column)) && (decide (x.Column < (s.Columns.length : Int)))) && (decide (0 ≤ x.Tier))) (.dptr ((Column.cs y3).drop 3))) rfl rfl ⟨O_opt [(30, .dptr (Column.cs y3))] rfl rfl rfl .sct ⟨.all id, trivial⟩ (fun hc => A_fieldM tf_field_72_3 rfl rfl rfl) rfl, trivial⟩ ?_ rfl
 refine D_ro (u := .opt (((decide (0 ≤ x.Column)) && (decide (x.Column < (s.Columns.length : Int)))) && (decide (0 ≤ x.Tier))) (I64 y3.Tiers)) rfl rfl ⟨O_opt [(31, .dptr ((Column.cs y3).drop 3))] rfl rfl rfl .sct ⟨.all id, trivial⟩ (fun hc => A_load tf_scalar_3 rfl rfl rfl) rfl, trivial⟩ ?_ rfl
 refine D_ro (u := .opt (((decide (0 ≤ x.Column)) && (decide (x.Column < (s.Columns.length : Int)))) && (decide (0 ≤ x.Tier))) (BL (decide (x.Tier < y3.Tiers)))) rfl rfl ⟨O_opt [(25, I64 x.Tier), (32, I64 y3.Tiers)] rfl rfl rfl .sct ⟨.all id, .all id, trivial⟩ (fun hc => A_lss rfl rfl rfl) rfl, trivial⟩ ?_ rfl
 refine D_ro (u := BL ((((decide (0 ≤ x.Column)) && (decide (x.Column < (s.Columns.length : Int)))) && (decide (0 ≤ x.Tier))) && (decide (x.Tier < y3.Tiers)))) rfl rfl ⟨O_go (A_and rfl rfl rfl rfl) rfl, trivial⟩ ?_ rfl
 refine D_ro (u := BL ((((decide (0 ≤ x.Column)) && (decide (x.Column < (s.Columns.length : Int)))) && (decide (0 ≤ x.Tier))) && (decide (x.Tier < y3.Tiers)))) rfl rfl ⟨O_go (Am rfl rfl) rfl, trivial⟩ ?_ rfl
 refine D_ro (u := .opt ((((decide (0 ≤ x.Column)) && (decide (x.Column < (s.Columns.length : Int)))) && (decide (0 ≤ x.Tier))) && (decide (x.Tier < y3.Tiers))) (U8 size)) rfl rfl ⟨O_opt [] rfl rfl rfl .sct trivial (fun hc => Am rfl rfl) rfl, trivial⟩ ?_ rfl
 refine D_ro (u := .opt ((((decide (0 ≤ x.Column)) && (decide (x.Column < (s.Columns.length : Int)))) && (decide (0 ≤ x.Tier))) && (decide (x.Tier < y3.Tiers))) (LS 1 U8 r4)) rfl rfl ⟨O_opt [(36, U8 size)] rfl rfl rfl .sct ⟨.all id, trivial⟩ (fun hc => A_call1 (args := [U8 size]) rfl (M_slot_halves_w size r4 (bif_t hc hr4)) tf_call_56 ⟨rfl, rfl, trivial⟩) rfl, trivial⟩ ?_ rfl
 refine D_ro (u := .opt ((((decide (0 ≤ x.Column)) && (decide (x.Column < (s.Columns.length : Int)))) && (decide (0 ≤ x.Tier))) && (decide (x.Tier < y3.Tiers))) (.dptr [U8 x.Half])) rfl rfl ⟨O_opt [] rfl rfl rfl .sct trivial (fun hc => A_fieldM tf_field_80_2 rfl rfl rfl) rfl, trivial⟩ ?_ rfl
 refine D_ro (u := .opt ((((decide (0 ≤ x.Column)) && (decide (x.Column < (s.Columns.length : Int)))) && (decide (0 ≤ x.Tier))) && (decide (x.Tier < y3.Tiers))) (U8 x.Half)) rfl rfl ⟨O_opt [(38, .dptr [U8 x.Half])] rfl rfl rfl .sct ⟨.all id, trivial⟩ (fun hc => A_load tf_scalar_5 rfl rfl rfl) rfl, trivial⟩ ?_ rfl
 refine D_ro (u := .opt ((((decide (0 ≤ x.Column)) && (decide (x.Column < (s.Columns.length : Int)))) && (decide (0 ≤ x.Tier))) && (decide (x.Tier < y3.Tiers))) (BL r5)) rfl rfl ⟨O_opt [(37, LS 1 U8 r4), (39, U8 x.Half)] rfl rfl rfl .sct ⟨.all id, .all id, trivial⟩ (fun hc => A_call1 (args := [LS 1 U8 r4, U8 x.Half]) rfl (M_slices_Contains_uint8_w r4 x.Half r5 (bif_t hc hr5)) tf_call_60 ⟨rfl, rfl, rfl, rfl, trivial⟩) rfl, trivial⟩ ?_ rfl
 refine D_ro (u := BL (((((decide (0 ≤ x.Column)) && (decide (x.Column < (s.Columns.length : Int)))) && (decide (0 ≤ x.Tier))) && (decide (x.Tier < y3.Tiers))) && r5)) rfl rfl ⟨O_go (A_and rfl rfl rfl rfl) rfl, trivial⟩ ?_ rfl
 refine D_ro (u := BL (((((decide (0 ≤ x.Column)) && (decide (x.Column < (s.Columns.length : Int)))) && (decide (0 ≤ x.Tier))) && (decide (x.Tier < y3.Tiers))) && r5)) rfl rfl ⟨O_go (Aa rfl rfl) rfl, trivial⟩ ?_ rfl
 refine D_nil ?_
 refine hK2 _ _ ?_
 refine JC_ret ?_
 exact ⟨[BL (((((decide (0 ≤ x.Column)) && (decide (x.Column < (s.Columns.length : Int)))) && (decide (0 ≤ x.Tier))) && (decide (x.Tier < y3.Tiers))) && r5)], [], trivial, rfl, ⟨⟨_, rfl, .conv (.same rfl)⟩, trivial⟩, rfl, congrArg (fun r : Bool => (BL r : AV)) (Option.some.inj h)⟩

def M_slices_Index_apiSlot (s : List Slot) (v : Slot) : Option Int :=
 each (fun y18 i18 (s18 : Unit) nx18 =>
  bif decide (v = y18) then
  (some (i18 : Int))
  else
  (nx18 ()))
 (fun (s18 : Unit) =>
  some (-1)) s 0 ()
theorem M_slices_Index_apiSlot_w (s : List Slot) (v : Slot) (r : Int) (h : M_slices_Index_apiSlot s v = some r) : Pure Try.prog 71 [LS 3 Slot.av s, .agg [I64 v.Column, I64 v.Tier, U8 v.Half]] (· = I64 r) := by
 unfold M_slices_Index_apiSlot at h
 refine Pure_ofG [.tmp 4] Try.func71 rfl rfl ?_
 refine Js fun K1 hK1 => Jr ?_
 refine Jg (u := .ptr 1145 0) (A_box (u := .agg [I64 v.Column, I64 v.Tier, U8 v.Half]) (cs := [I64 v.Column, I64 v.Tier, U8 v.Half]) 1145 rfl rfl rfl rfl rfl) ?_ rfl rfl rfl
 refine Jg (u := I64 0) (Aa rfl rfl) ?_ rfl rfl rfl
 refine Jn (hK1 _ _ ?_)
 refine JC_freeze [(0, LS 3 Slot.av s), (3, .dptr [I64 v.Column, I64 v.Tier, U8 v.Half])] [] 1145 rfl rfl rfl trivial rfl (by exact ⟨.conv (.same rfl), .ptr, trivial⟩) ?_
 refine Js (fun K2 hK2 => ?_)
 refine Js fun K3 hK3 => Jr ?_
 refine Jg (u := LS 3 Slot.av s) (Am rfl rfl) ?_ rfl rfl rfl
 refine JL_lenM (f := Slot.av) (xs := s) tf_slice_77 rfl rfl (fun hm7 => ?_) rfl rfl rfl
 refine Jg (u := I64 0) (Am rfl rfl) ?_ rfl rfl rfl
 refine Jn (hK3 _ _ ?_)
 refine JC_block ?_
 obtain ⟨b18, kx18, hb18, hkx18, h⟩ := each_in h
 refine JC_loop2 (fun i18 (s18 : Unit) => each b18 kx18 (List.drop i18 s) i18 s18 = some r) (fun i18 s18 => [(0, LS 3 Slot.av s), (3, .dptr [I64 v.Column, I64 v.Tier, U8 v.Half]), (7, I64 (s.length : Int)), (8, I64 (i18 : Int))]) (fun i18 s18 => []) (fun i18 => s.length - i18) 0 () h ⟨⟨.same rfl, .same rfl, .same rfl, .same rfl, trivial⟩, trivial, rfl⟩ ?_
 clear h
 intro i18 s18 hi18 K18 e18
 refine Js fun K19 hK19 => Jr ?_
 refine Jg (u := BL (decide ((i18 : Int) < (s.length : Int)))) (A_lss rfl rfl rfl) ?_ rfl rfl rfl
 refine Jn (hK19 _ _ ?_)
 refine Js (fun K20 hK20 => ?_)
 refine JC_cond rfl (fun hb => ?_) (fun hb => ?_)
 ·
  have hk18 := lt_len hb
  obtain ⟨y18, nx18, hy18, hn18, h⟩ := each_out hi18 hk18
  replace h := app4 hb18 h
  refine JC_skip ?_
  refine hK20 _ _ ?_
  refine Js (fun K21 hK21 => ?_)
  refine JC_block ?_
  refine Js fun K22 hK22 => Jr ?_
  refine Jg (u := I64 (i18 : Int)) (Am rfl rfl) ?_ rfl rfl rfl
  refine Jg (u := I64 (i18 : Int)) (Aa rfl rfl) ?_ rfl rfl rfl
  refine Jn (hK22 _ _ ?_)
  refine Js (fun K23 hK23 => ?_)
  refine JC_draw [] [0, 0, 0, 0, 0, 0] [0, 0, 0, 0, 0, 0] [[]] tf_mixed (by kernel_rfl) rfl rfl ?_
  refine D_ro (u := .agg [I64 v.Column, I64 v.Tier, U8 v.Half]) rfl rfl ⟨O_go (A_loadAgg tf_agg_80 rfl rfl rfl) rfl, trivial⟩ ?_ rfl
  refine D_ro (u := LS 3 Slot.av s) rfl rfl ⟨O_go (Am rfl rfl) rfl, trivial⟩ ?_ rfl
  refine D_ro (u := I64 (i18 : Int)) rfl rfl ⟨O_go (Am rfl rfl) rfl, trivial⟩ ?_ rfl
  refine D_ro (u := .dptr (Slot.cs y18)) rfl rfl ⟨O_go (A_indexM (f := Slot.av) (xs := s) (y := y18) rfl rfl rfl tf_slice_77 hy18 rfl) rfl, trivial⟩ ?_ rfl
  refine D_ro (u := .agg (Slot.cs y18)) rfl rfl ⟨O_go (A_loadAgg tf_agg_80 rfl rfl rfl) rfl, trivial⟩ ?_ rfl
  refine D_ro (u := BL (decide (v = y18))) rfl rfl ⟨O_go (A_eqAgg (vs := [.int .i64 v.Column, .int .i64 v.Tier, .int .u8 v.Half]) (us := [.int .i64 y18.Column, .int .i64 y18.Tier, .int .u8 y18.Half]) 4 rfl (tq_80 v y18) tf_aggof_80 tf_eqg_80 rfl rfl rfl) rfl, trivial⟩ ?_ rfl
  refine D_nil ?_
  refine hK23 _ _ ?_
  refine JC_cond rfl (fun hb => ?_) (fun hb => ?_)
  ·
   replace h := bif_t hb h
   refine Js fun K24 hK24 => Jr ?_
   refine Jg (u := I64 (i18 : Int)) (Am rfl rfl) ?_ rfl rfl rfl
   refine Jg (u := I64 (i18 : Int)) (Aa rfl rfl) ?_ rfl rfl rfl
   refine Jn (hK24 _ _ ?_)
   refine JC_ret ?_
   exact ⟨[I64 (i18 : Int)], [], trivial, rfl, ⟨⟨_, rfl, .conv (.same rfl)⟩, trivial⟩, rfl, congrArg (fun r : Int => (I64 r : AV)) (Option.some.inj h)⟩
  ·
   replace h := bif_f hb h
   refine JC_skip ?_
   refine hK21 _ _ ?_
   refine Jr ?_
   refine Jg (u := I64 ((i18 + 1 : Nat) : Int)) (A_add (idx_succ hk18 hm7) rfl rfl rfl) ?_ rfl rfl rfl
   refine Jg (u := I64 ((i18 + 1 : Nat) : Int)) (Am rfl rfl) ?_ rfl rfl rfl
   refine Jn ?_
   exact e18 _ _ (i18 + 1) () (app1 hn18 h) (by omega) ⟨⟨.same rfl, .same rfl, .same rfl, .same rfl, trivial⟩, trivial, rfl⟩
 ·
  have h := app1 hkx18 (each_nil hi18 (not_lt_len hb))
  refine JC_exit ?_
  refine hK2 _ _ ?_
  refine Js fun K25 hK25 => Jr ?_
  refine Jg (u := I64 (-1)) (Aa rfl rfl) ?_ rfl rfl rfl
  refine Jn (hK25 _ _ ?_)
  refine JC_ret ?_
  exact ⟨[I64 (-1)], [], trivial, rfl, ⟨⟨_, rfl, .conv (.same rfl)⟩, trivial⟩, rfl, congrArg (fun r : Int => (I64 r : AV)) (Option.some.inj h)⟩

def M_slices_Contains_apiSlot (s : List Slot) (v : Slot) : Option Bool :=
 bnd (M_slices_Index_apiSlot s v) fun r3 =>
 some (decide (0 ≤ r3))
theorem M_slices_Contains_apiSlot_w (s : List Slot) (v : Slot) (r : Bool) (h : M_slices_Contains_apiSlot s v = some r) : Pure Try.prog 62 [LS 3 Slot.av s, .agg [I64 v.Column, I64 v.Tier, U8 v.Half]] (· = BL r) := by
 unfold M_slices_Contains_apiSlot at h
 refine Pure_ofG [.tmp 4] Try.func62 rfl rfl ?_
 refine Js fun K1 hK1 => Jr ?_
 refine Jg (u := .ptr 1136 0) (A_box (u := .agg [I64 v.Column, I64 v.Tier, U8 v.Half]) (cs := [I64 v.Column, I64 v.Tier, U8 v.Half]) 1136 rfl rfl rfl rfl rfl) ?_ rfl rfl rfl
 refine Jg (u := BL false) (Aa rfl rfl) ?_ rfl rfl rfl
 refine Jn (hK1 _ _ ?_)
 refine JC_freeze [(0, LS 3 Slot.av s), (3, .dptr [I64 v.Column, I64 v.Tier, U8 v.Half])] [] 1136 rfl rfl rfl trivial rfl (by exact ⟨.conv (.same rfl), .ptr, trivial⟩) ?_
 refine Js fun K2 hK2 => Jr ?_
 refine Jg (u := LS 3 Slot.av s) (Am rfl rfl) ?_ rfl rfl rfl
 refine Jg (u := .agg [I64 v.Column, I64 v.Tier, U8 v.Half]) (A_loadAgg tf_agg_80 rfl rfl rfl) ?_ rfl rfl rfl
 obtain ⟨r3, hr3, h⟩ := bnd_out h
 refine Jg (u := I64 r3) (A_call1 (args := [LS 3 Slot.av s, .agg [I64 v.Column, I64 v.Tier, U8 v.Half]]) rfl (M_slices_Index_apiSlot_w s v r3 hr3) tf_call_71 ⟨rfl, rfl, rfl, rfl, trivial⟩) ?_ rfl rfl rfl
 refine Jg (u := BL (decide (0 ≤ r3))) (A_geq rfl rfl rfl) ?_ rfl rfl rfl
 refine Jg (u := BL (decide (0 ≤ r3))) (Aa rfl rfl) ?_ rfl rfl rfl
 refine Jn (hK2 _ _ ?_)
 refine JC_ret ?_
 exact ⟨[BL (decide (0 ≤ r3))], [], trivial, rfl, ⟨⟨_, rfl, .conv (.same rfl)⟩, trivial⟩, rfl, congrArg (fun r : Bool => (BL r : AV)) (Option.some.inj h)⟩

def M_slot_Held_1 (half : Int) (p1 : List Slot) (p2 : Slot) : Option Bool :=
 chk (p2.Tier - 1) fun v3 =>
 bnd (M_slices_Contains_apiSlot p1 (Slot.mk p2.Column v3 half)) fun r4 =>
 some r4
theorem M_slot_Held_1_w (half : Int) (p1 : List Slot) (p2 : Slot) (r : Bool) (h : M_slot_Held_1 half p1 p2 = some r) : Pure Try.prog 61 [U8 half, .dptr [LS 3 Slot.av p1], .dptr [I64 p2.Column, I64 p2.Tier, U8 p2.Half]] (· = BL r) := by
 unfold M_slot_Held_1 at h
 refine Pure_ofG [.tmp 4] Try.func61 rfl rfl ?_
 refine Js fun K1 hK1 => Jr ?_
 refine Jg (u := BL false) (Aa rfl rfl) ?_ rfl rfl rfl
 refine Jn (hK1 _ _ ?_)
 refine Js fun K2 hK2 => Jr ?_
 refine Jg (u := LS 3 Slot.av p1) (A_load tf_scalar_77 rfl rfl rfl) ?_ rfl rfl rfl
 refine Jg (u := .dptr [I64 p2.Column, I64 p2.Tier, U8 p2.Half]) (A_fieldM tf_field_80_0 rfl rfl rfl) ?_ rfl rfl rfl
 refine Jg (u := I64 p2.Column) (A_load tf_scalar_3 rfl rfl rfl) ?_ rfl rfl rfl
 refine Jg (u := .dptr [I64 p2.Tier, U8 p2.Half]) (A_fieldM tf_field_80_1 rfl rfl rfl) ?_ rfl rfl rfl
 refine Jg (u := I64 p2.Tier) (A_load tf_scalar_3 rfl rfl rfl) ?_ rfl rfl rfl
 obtain ⟨v3, hv3, h⟩ := chk_out h
 refine Jg (u := I64 v3) (A_sub hv3 rfl rfl rfl) ?_ rfl rfl rfl
 refine Jg (u := U8 half) (Am rfl rfl) ?_ rfl rfl rfl
 refine Jg (u := .agg [I64 p2.Column, I64 v3, U8 half]) (A_buildZ (cs := [I64 p2.Column, I64 v3, U8 half]) [(0, 1), (1, 1), (2, 1)] [I64 0, I64 0, U8 0] [.int .i64 0, .int .i64 0, .int .u8 0] tf_places_80 tf_zero_80 ⟨.inl rfl, .inl rfl, .inl rfl, trivial⟩ rfl rfl) ?_ rfl rfl rfl
 obtain ⟨r4, hr4, h⟩ := bnd_out h
 refine Jg (u := BL r4) (A_call1 (args := [LS 3 Slot.av p1, .agg [I64 p2.Column, I64 v3, U8 half]]) rfl (M_slices_Contains_apiSlot_w p1 (Slot.mk p2.Column v3 half) r4 hr4) tf_call_62 ⟨rfl, rfl, rfl, rfl, trivial⟩) ?_ rfl rfl rfl
 refine Jg (u := BL r4) (Aa rfl rfl) ?_ rfl rfl rfl
 refine Jn (hK2 _ _ ?_)
 refine JC_ret ?_
 exact ⟨[BL r4], [], trivial, rfl, ⟨⟨_, rfl, .conv (.same rfl)⟩, trivial⟩, rfl, congrArg (fun r : Bool => (BL r : AV)) (Option.some.inj h)⟩

def M_slot_Held (x : Slot) (l : List Slot) : Option Bool :=
 bif decide (x.Tier ≤ 0) then
 (some true)
 else
 (bnd (M_slot_Held_1 x.Half l x) fun r7 =>
  bnd (bif ((!r7) && (decide (x.Half = 0))) then M_slot_Held_1 1 l x else some default) fun r8 =>
  bnd (bif ((!r7) && ((decide (x.Half = 0)) && r8)) then M_slot_Held_1 2 l x else some default) fun r9 =>
  some (r7 || (((decide (x.Half = 0)) && r8) && r9)))
theorem M_slot_Held_w (x : Slot) (l : List Slot) (r : Bool) (h : M_slot_Held x l = some r) : Pure Try.prog 39 [.agg [I64 x.Column, I64 x.Tier, U8 x.Half], LS 3 Slot.av l] (· = BL r) := by
 unfold M_slot_Held at h
 refine Pure_ofG [.tmp 4] Try.func39 rfl rfl ?_
 refine Js fun K1 hK1 => Jr ?_
 refine Jg (u := .ptr 1114 0) (A_box (u := .agg [I64 x.Column, I64 x.Tier, U8 x.Half]) (cs := [I64 x.Column, I64 x.Tier, U8 x.Half]) 1114 rfl rfl rfl rfl rfl) ?_ rfl rfl rfl
 refine Jg (u := .ptr 1115 0) (A_box (u := LS 3 Slot.av l) (cs := [LS 3 Slot.av l]) 1115 rfl rfl rfl rfl rfl) ?_ rfl rfl rfl
 refine Jg (u := BL false) (Aa rfl rfl) ?_ rfl rfl rfl
 refine Jn (hK1 _ _ ?_)
 refine JC_freeze [(2, .dptr [I64 x.Column, I64 x.Tier, U8 x.Half]), (3, .ptr 1115 0)] [(1115, .box 77 [LS 3 Slot.av l])] 1114 rfl rfl rfl ⟨⟨_, rfl, .boxEq rfl rfl⟩, trivial⟩ rfl (by exact ⟨.ptr, .conv (.same rfl), trivial⟩) ?_
 refine JC_freeze [(2, .dptr [I64 x.Column, I64 x.Tier, U8 x.Half]), (3, .dptr [LS 3 Slot.av l])] [] 1115 rfl rfl rfl trivial rfl (by exact ⟨.conv (.same rfl), .ptr, trivial⟩) ?_
 refine Js (fun K2 hK2 => ?_)
 refine Js fun K3 hK3 => Jr ?_
 refine Jg (u := .dptr [I64 x.Tier, U8 x.Half]) (A_fieldM tf_field_80_1 rfl rfl rfl) ?_ rfl rfl rfl
 refine Jg (u := I64 x.Tier) (A_load tf_scalar_3 rfl rfl rfl) ?_ rfl rfl rfl
 refine Jg (u := BL (decide (x.Tier ≤ 0))) (A_leq rfl rfl rfl) ?_ rfl rfl rfl
 refine Jn (hK3 _ _ ?_)
 refine JC_cond rfl (fun hb => ?_) (fun hb => ?_)
 ·
  replace h := bif_t hb h
  refine Js fun K4 hK4 => Jr ?_
  refine Jg (u := BL true) (Aa rfl rfl) ?_ rfl rfl rfl
  refine Jn (hK4 _ _ ?_)
  refine JC_ret ?_
  exact ⟨[BL true], [], trivial, rfl, ⟨⟨_, rfl, .conv (.same rfl)⟩, trivial⟩, rfl, congrArg (fun r : Bool => (BL r : AV)) (Option.some.inj h)⟩
 ·
  replace h := bif_f hb h
  refine JC_skip ?_
  refine hK2 _ _ ?_
  refine Js fun K5 hK5 => Jr ?_
  refine Jg (u := .fn 61 [.dptr [LS 3 Slot.av l], .dptr [I64 x.Column, I64 x.Tier, U8 x.Half]]) (A_makeFunc (cs := [.dptr [LS 3 Slot.av l], .dptr [I64 x.Column, I64 x.Tier, U8 x.Half]]) rfl rfl) ?_ rfl rfl rfl
  refine Jg (u := .fn 61 [.dptr [LS 3 Slot.av l], .dptr [I64 x.Column, I64 x.Tier, U8 x.Half]]) (Aa rfl rfl) ?_ rfl rfl rfl
  refine Jn (hK5 _ _ ?_)
  refine Js fun K6 hK6 => Jr ?_
  refine Jg (u := .fn 61 [.dptr [LS 3 Slot.av l], .dptr [I64 x.Column, I64 x.Tier, U8 x.Half]]) (Am rfl rfl) ?_ rfl rfl rfl
  refine Jg (u := .dptr [U8 x.Half]) (A_fieldM tf_field_80_2 rfl rfl rfl) ?_ rfl rfl rfl
  refine Jg (u := U8 x.Half) (A_load tf_scalar_5 rfl rfl rfl) ?_ rfl rfl rfl
  obtain ⟨r7, hr7, h⟩ := bnd_out h
  refine Jg (u := BL r7) (A_callV1 (args := [U8 x.Half]) (caps := [.dptr [LS 3 Slot.av l], .dptr [I64 x.Column, I64 x.Tier, U8 x.Half]]) rfl rfl (M_slot_Held_1_w x.Half l x r7 hr7) tf_call_61 ⟨rfl, rfl, trivial⟩ rfl) ?_ rfl rfl rfl
  refine Jg (u := BL r7) (Am rfl rfl) ?_ rfl rfl rfl
  refine JL_opt (u := .dptr [U8 x.Half]) [] rfl rfl rfl .scf trivial (fun hc => A_fieldM tf_field_80_2 rfl rfl rfl) ?_ rfl rfl rfl
  refine JL_opt (u := U8 x.Half) [(15, .dptr [U8 x.Half])] rfl rfl rfl .scf ⟨.all id, trivial⟩ (fun hc => A_load tf_scalar_5 rfl rfl rfl) ?_ rfl rfl rfl
  refine JL_opt (u := BL (decide (x.Half = 0))) [(16, U8 x.Half)] rfl rfl rfl .scf ⟨.all id, trivial⟩ (fun hc => A_eql rfl rfl rfl) ?_ rfl rfl rfl
  refine JL_opt (u := BL (decide (x.Half = 0))) [(17, BL (decide (x.Half = 0)))] rfl rfl rfl .scf ⟨.all id, trivial⟩ (fun hc => Am rfl rfl) ?_ rfl rfl rfl
  refine JL_opt (u := .fn 61 [.dptr [LS 3 Slot.av l], .dptr [I64 x.Column, I64 x.Tier, U8 x.Half]]) [] rfl rfl rfl .optt trivial (fun hc => Am rfl rfl) ?_ rfl rfl rfl
  obtain ⟨r8, hr8, h⟩ := bnd_out h
  refine JL_opt (u := BL r8) [(19, .fn 61 [.dptr [LS 3 Slot.av l], .dptr [I64 x.Column, I64 x.Tier, U8 x.Half]])] rfl rfl rfl .optt ⟨.all id, trivial⟩ (fun hc => A_callV1 (args := [U8 1]) (caps := [.dptr [LS 3 Slot.av l], .dptr [I64 x.Column, I64 x.Tier, U8 x.Half]]) rfl rfl (M_slot_Held_1_w 1 l x r8 (bif_t hc hr8)) tf_call_61 ⟨rfl, rfl, trivial⟩ rfl) ?_ rfl rfl rfl
  refine JL_opt (u := BL ((decide (x.Half = 0)) && r8)) [(18, BL (decide (x.Half = 0))), (20, _)] rfl rfl rfl .scf ⟨.all id, .part, trivial⟩ (fun hc => A_and rfl rfl rfl rfl) ?_ rfl rfl rfl
  refine JL_opt (u := BL ((decide (x.Half = 0)) && r8)) [(21, BL ((decide (x.Half = 0)) && r8))] rfl rfl rfl .scf ⟨.all id, trivial⟩ (fun hc => Am rfl rfl) ?_ rfl rfl rfl
  refine JL_opt (u := .fn 61 [.dptr [LS 3 Slot.av l], .dptr [I64 x.Column, I64 x.Tier, U8 x.Half]]) [] rfl rfl rfl .optt trivial (fun hc => Am rfl rfl) ?_ rfl rfl rfl
  obtain ⟨r9, hr9, h⟩ := bnd_out h
  refine JL_opt (u := BL r9) [(23, .fn 61 [.dptr [LS 3 Slot.av l], .dptr [I64 x.Column, I64 x.Tier, U8 x.Half]])] rfl rfl rfl .optt ⟨.all id, trivial⟩ (fun hc => A_callV1 (args := [U8 2]) (caps := [.dptr [LS 3 Slot.av l], .dptr [I64 x.Column, I64 x.Tier, U8 x.Half]]) rfl rfl (M_slot_Held_1_w 2 l x r9 (bif_t hc hr9)) tf_call_61 ⟨rfl, rfl, trivial⟩ rfl) ?_ rfl rfl rfl
  refine JL_opt (u := BL (((decide (x.Half = 0)) && r8) && r9)) [(22, BL ((decide (x.Half = 0)) && r8)), (24, _)] rfl rfl rfl .scf ⟨.all id, .part, trivial⟩ (fun hc => A_and rfl rfl rfl rfl) ?_ rfl rfl rfl
  refine Jg (u := BL (r7 || (((decide (x.Half = 0)) && r8) && r9))) (A_or rfl rfl rfl rfl) ?_ rfl rfl rfl
  refine Jg (u := BL (r7 || (((decide (x.Half = 0)) && r8) && r9))) (Aa rfl rfl) ?_ rfl rfl rfl
  refine Jn (hK6 _ _ ?_)
  refine JC_ret ?_
  exact ⟨[BL (r7 || (((decide (x.Half = 0)) && r8) && r9))], [], trivial, rfl, ⟨⟨_, rfl, .conv (.same rfl)⟩, trivial⟩, rfl, congrArg (fun r : Bool => (BL r : AV)) (Option.some.inj h)⟩

def M_slot_shares (a : Int) (b : Int) : Option Bool :=
 some (((decide (a = b)) || (decide (a = 0))) || (decide (b = 0)))
theorem M_slot_shares_w (a : Int) (b : Int) (r : Bool) (h : M_slot_shares a b = some r) : Pure Try.prog 46 [U8 a, U8 b] (· = BL r) := by
 unfold M_slot_shares at h
 refine Pure_ofG [.tmp 4] Try.func46 rfl rfl ?_
 refine Js fun K1 hK1 => Jr ?_
 refine Jg (u := BL false) (Aa rfl rfl) ?_ rfl rfl rfl
 refine Jn (hK1 _ _ ?_)
 refine Js fun K2 hK2 => Jr ?_
 refine Jg (u := U8 a) (Am rfl rfl) ?_ rfl rfl rfl
 refine Jg (u := U8 b) (Am rfl rfl) ?_ rfl rfl rfl
 refine Jg (u := BL (decide (a = b))) (A_eql rfl rfl rfl) ?_ rfl rfl rfl
 refine Jg (u := BL (decide (a = b))) (Am rfl rfl) ?_ rfl rfl rfl
 refine JL_opt (u := U8 a) [] rfl rfl rfl .scf trivial (fun hc => Am rfl rfl) ?_ rfl rfl rfl
 refine JL_opt (u := BL (decide (a = 0))) [(9, U8 a)] rfl rfl rfl .scf ⟨.all id, trivial⟩ (fun hc => A_eql rfl rfl rfl) ?_ rfl rfl rfl
 refine Jg (u := BL ((decide (a = b)) || (decide (a = 0)))) (A_or rfl rfl rfl rfl) ?_ rfl rfl rfl
 refine Jg (u := BL ((decide (a = b)) || (decide (a = 0)))) (Am rfl rfl) ?_ rfl rfl rfl
 refine JL_opt (u := U8 b) [] rfl rfl rfl .scf trivial (fun hc => Am rfl rfl) ?_ rfl rfl rfl
 refine JL_opt (u := BL (decide (b = 0))) [(13, U8 b)] rfl rfl rfl .scf ⟨.all id, trivial⟩ (fun hc => A_eql rfl rfl rfl) ?_ rfl rfl rfl
 refine Jg (u := BL (((decide (a = b)) || (decide (a = 0))) || (decide (b = 0)))) (A_or rfl rfl rfl rfl) ?_ rfl rfl rfl
 refine Jg (u := BL (((decide (a = b)) || (decide (a = 0))) || (decide (b = 0)))) (Aa rfl rfl) ?_ rfl rfl rfl
 refine Jn (hK2 _ _ ?_)
 refine JC_ret ?_
 exact ⟨[BL (((decide (a = b)) || (decide (a = 0))) || (decide (b = 0)))], [], trivial, rfl, ⟨⟨_, rfl, .conv (.same rfl)⟩, trivial⟩, rfl, congrArg (fun r : Bool => (BL r : AV)) (Option.some.inj h)⟩

def M_slot_Meet (a : Slot) (b : Slot) : Option Bool :=
 bnd (bif ((decide (a.Column = b.Column)) && (decide (a.Tier = b.Tier))) then M_slot_shares a.Half b.Half else some default) fun r3 =>
 some (((decide (a.Column = b.Column)) && (decide (a.Tier = b.Tier))) && r3)
theorem M_slot_Meet_w (a : Slot) (b : Slot) (r : Bool) (h : M_slot_Meet a b = some r) : Pure Try.prog 40 [.agg [I64 a.Column, I64 a.Tier, U8 a.Half], .agg [I64 b.Column, I64 b.Tier, U8 b.Half]] (· = BL r) := by
 unfold M_slot_Meet at h
 refine Pure_ofG [.tmp 4] Try.func40 rfl rfl ?_
 refine Js fun K1 hK1 => Jr ?_
 refine Jg (u := .ptr 1116 0) (A_box (u := .agg [I64 a.Column, I64 a.Tier, U8 a.Half]) (cs := [I64 a.Column, I64 a.Tier, U8 a.Half]) 1116 rfl rfl rfl rfl rfl) ?_ rfl rfl rfl
 refine Jg (u := .ptr 1117 0) (A_box (u := .agg [I64 b.Column, I64 b.Tier, U8 b.Half]) (cs := [I64 b.Column, I64 b.Tier, U8 b.Half]) 1117 rfl rfl rfl rfl rfl) ?_ rfl rfl rfl
 refine Jg (u := BL false) (Aa rfl rfl) ?_ rfl rfl rfl
 refine Jn (hK1 _ _ ?_)
 refine JC_freeze [(2, .dptr [I64 a.Column, I64 a.Tier, U8 a.Half]), (3, .ptr 1117 0)] [(1117, .box 80 [I64 b.Column, I64 b.Tier, U8 b.Half])] 1116 rfl rfl rfl ⟨⟨_, rfl, .boxEq rfl rfl⟩, trivial⟩ rfl (by exact ⟨.ptr, .conv (.same rfl), trivial⟩) ?_
 refine JC_freeze [(2, .dptr [I64 a.Column, I64 a.Tier, U8 a.Half]), (3, .dptr [I64 b.Column, I64 b.Tier, U8 b.Half])] [] 1117 rfl rfl rfl trivial rfl (by exact ⟨.conv (.same rfl), .ptr, trivial⟩) ?_
 refine Js fun K2 hK2 => Jr ?_
 refine Jg (u := .dptr [I64 a.Column, I64 a.Tier, U8 a.Half]) (A_fieldM tf_field_80_0 rfl rfl rfl) ?_ rfl rfl rfl
 refine Jg (u := I64 a.Column) (A_load tf_scalar_3 rfl rfl rfl) ?_ rfl rfl rfl
 refine Jg (u := .dptr [I64 b.Column, I64 b.Tier, U8 b.Half]) (A_fieldM tf_field_80_0 rfl rfl rfl) ?_ rfl rfl rfl
 refine Jg (u := I64 b.Column) (A_load tf_scalar_3 rfl rfl rfl) ?_ rfl rfl rfl
 refine Jg (u := BL (decide (a.Column = b.Column))) (A_eql rfl rfl rfl) ?_ rfl rfl rfl
 refine Jg (u := BL (decide (a.Column = b.Column))) (Am rfl rfl) ?_ rfl rfl rfl
 refine JL_opt (u := .dptr [I64 a.Tier, U8 a.Half]) [] rfl rfl rfl .sct trivial (fun hc => A_fieldM tf_field_80_1 rfl rfl rfl) ?_ rfl rfl rfl
 refine JL_opt (u := I64 a.Tier) [(11, .dptr [I64 a.Tier, U8 a.Half])] rfl rfl rfl .sct ⟨.all id, trivial⟩ (fun hc => A_load tf_scalar_3 rfl rfl rfl) ?_ rfl rfl rfl
 refine JL_opt (u := .dptr [I64 b.Tier, U8 b.Half]) [] rfl rfl rfl .sct trivial (fun hc => A_fieldM tf_field_80_1 rfl rfl rfl) ?_ rfl rfl rfl
 refine JL_opt (u := I64 b.Tier) [(13, .dptr [I64 b.Tier, U8 b.Half])] rfl rfl rfl .sct ⟨.all id, trivial⟩ (fun hc => A_load tf_scalar_3 rfl rfl rfl) ?_ rfl rfl rfl
 refine JL_opt (u := BL (decide (a.Tier = b.Tier))) [(12, I64 a.Tier), (14, I64 b.Tier)] rfl rfl rfl .sct ⟨.all id, .all id, trivial⟩ (fun hc => A_eql rfl rfl rfl) ?_ rfl rfl rfl
 refine Jg (u := BL ((decide (a.Column = b.Column)) && (decide (a.Tier = b.Tier)))) (A_and rfl rfl rfl rfl) ?_ rfl rfl rfl
 refine Jg (u := BL ((decide (a.Column = b.Column)) && (decide (a.Tier = b.Tier)))) (Am rfl rfl) ?_ rfl rfl rfl
 refine JL_opt (u := .dptr [U8 a.Half]) [] rfl rfl rfl .sct trivial (fun hc => A_fieldM tf_field_80_2 rfl rfl rfl) ?_ rfl rfl rfl
 refine JL_opt (u := U8 a.Half) [(18, .dptr [U8 a.Half])] rfl rfl rfl .sct ⟨.all id, trivial⟩ (fun hc => A_load tf_scalar_5 rfl rfl rfl) ?_ rfl rfl rfl
 refine JL_opt (u := .dptr [U8 b.Half]) [] rfl rfl rfl .sct trivial (fun hc => A_fieldM tf_field_80_2 rfl rfl rfl) ?_ rfl rfl rfl
 refine JL_opt (u := U8 b.Half) [(20, .dptr [U8 b.Half])] rfl rfl rfl .sct ⟨.all id, trivial⟩ (fun hc => A_load tf_scalar_5 rfl rfl rfl) ?_ rfl rfl rfl
 obtain ⟨r3, hr3, h⟩ := bnd_out h
 refine JL_opt (u := BL r3) [(19, U8 a.Half), (21, U8 b.Half)] rfl rfl rfl .sct ⟨.all id, .all id, trivial⟩ (fun hc => A_call1 (args := [U8 a.Half, U8 b.Half]) rfl (M_slot_shares_w a.Half b.Half r3 (bif_t hc hr3)) tf_call_46 ⟨rfl, rfl, rfl, rfl, trivial⟩) ?_ rfl rfl rfl
 refine Jg (u := BL (((decide (a.Column = b.Column)) && (decide (a.Tier = b.Tier))) && r3)) (A_and rfl rfl rfl rfl) ?_ rfl rfl rfl
 refine Jg (u := BL (((decide (a.Column = b.Column)) && (decide (a.Tier = b.Tier))) && r3)) (Aa rfl rfl) ?_ rfl rfl rfl
 refine Jn (hK2 _ _ ?_)
 refine JC_ret ?_
 exact ⟨[BL (((decide (a.Column = b.Column)) && (decide (a.Tier = b.Tier))) && r3)], [], trivial, rfl, ⟨⟨_, rfl, .conv (.same rfl)⟩, trivial⟩, rfl, congrArg (fun r : Bool => (BL r : AV)) (Option.some.inj h)⟩

def M_stow_tall (b : Box) : Option Int :=
 bif b.High then
 (some 2896)
 else
 (some 2591)
theorem M_stow_tall_w (b : Box) (r : Int) (h : M_stow_tall b = some r) : Pure Try.prog 72 [.agg [I64 b.ID, ST b.Number, U8 b.Size, BL b.High, I64 b.Kilos, I64 b.Load, I64 b.Discharge, U8 b.Class, BL b.Reefer]] (· = I64 r) := by
 unfold M_stow_tall at h
 refine Pure_ofG [.tmp 2] Try.func72 rfl rfl ?_
 refine Js fun K1 hK1 => Jr ?_
 refine Jg (u := .ptr 1146 0) (A_box (u := .agg [I64 b.ID, ST b.Number, U8 b.Size, BL b.High, I64 b.Kilos, I64 b.Load, I64 b.Discharge, U8 b.Class, BL b.Reefer]) (cs := [I64 b.ID, ST b.Number, U8 b.Size, BL b.High, I64 b.Kilos, I64 b.Load, I64 b.Discharge, U8 b.Class, BL b.Reefer]) 1146 rfl rfl rfl rfl rfl) ?_ rfl rfl rfl
 refine Jg (u := I64 0) (Aa rfl rfl) ?_ rfl rfl rfl
 refine Jn (hK1 _ _ ?_)
 refine JC_freeze [(1, .dptr [I64 b.ID, ST b.Number, U8 b.Size, BL b.High, I64 b.Kilos, I64 b.Load, I64 b.Discharge, U8 b.Class, BL b.Reefer])] [] 1146 rfl rfl rfl trivial rfl (by exact ⟨.ptr, trivial⟩) ?_
 refine Js (fun K2 hK2 => ?_)
 refine Js fun K3 hK3 => Jr ?_
 refine Jg (u := .dptr [BL b.High, I64 b.Kilos, I64 b.Load, I64 b.Discharge, U8 b.Class, BL b.Reefer]) (A_fieldM tf_field_50_3 rfl rfl rfl) ?_ rfl rfl rfl
 refine Jg (u := BL b.High) (A_load tf_scalar_4 rfl rfl rfl) ?_ rfl rfl rfl
 refine Jn (hK3 _ _ ?_)
 refine JC_cond rfl (fun hb => ?_) (fun hb => ?_)
 ·
  replace h := bif_t hb h
  refine Js fun K4 hK4 => Jr ?_
  refine Jg (u := I64 2896) (Aa rfl rfl) ?_ rfl rfl rfl
  refine Jn (hK4 _ _ ?_)
  refine JC_ret ?_
  exact ⟨[I64 2896], [], trivial, rfl, ⟨⟨_, rfl, .conv (.same rfl)⟩, trivial⟩, rfl, congrArg (fun r : Int => (I64 r : AV)) (Option.some.inj h)⟩
 ·
  replace h := bif_f hb h
  refine JC_skip ?_
  refine hK2 _ _ ?_
  refine Js fun K5 hK5 => Jr ?_
  refine Jg (u := I64 2591) (Aa rfl rfl) ?_ rfl rfl rfl
  refine Jn (hK5 _ _ ?_)
  refine JC_ret ?_
  exact ⟨[I64 2591], [], trivial, rfl, ⟨⟨_, rfl, .conv (.same rfl)⟩, trivial⟩, rfl, congrArg (fun r : Int => (I64 r : AV)) (Option.some.inj h)⟩

def M_stow_Height (boxes : List Box) (l : List Stowed) (column : Int) (half : Int) : Option Int :=
 each (fun y27 i27 (s27 : Int) nx27 =>
  jp (fun kj30 =>
   bif ((decide (y27.Slot.Column = column)) && ((decide (y27.Slot.Half = half)) || (decide (y27.Slot.Half = 0)))) then
   (bnd (M_stow_Find boxes y27.Box) fun r34 =>
    bif r34.2 then
    (bnd (M_stow_tall r34.1) fun r36 =>
     chk (s27 + r36) fun v37 =>
     kj30 v37)
    else
    (kj30 s27))
   else
   (kj30 s27)) fun (j30 : Int) =>
  nx27 j30)
 (fun (s27 : Int) =>
  some s27) l 0 0
theorem M_stow_Height_w (boxes : List Box) (l : List Stowed) (column : Int) (half : Int) (r : Int) (h : M_stow_Height boxes l column half = some r) : Pure Try.prog 63 [LS 9 Box.av boxes, LS 4 Stowed.av l, I64 column, U8 half] (· = I64 r) := by
 unfold M_stow_Height at h
 refine Pure_ofG [.tmp 8] Try.func63 rfl rfl ?_
 refine Js fun K1 hK1 => Jr ?_
 refine Jg (u := I64 0) (Aa rfl rfl) ?_ rfl rfl rfl
 refine Jn (hK1 _ _ ?_)
 refine Js fun K2 hK2 => Jr ?_
 refine Jg (u := I64 0) (Aa rfl rfl) ?_ rfl rfl rfl
 refine Jn (hK2 _ _ ?_)
 refine Js (fun K3 hK3 => ?_)
 refine Js fun K4 hK4 => Jr ?_
 refine Jg (u := LS 4 Stowed.av l) (Am rfl rfl) ?_ rfl rfl rfl
 refine JL_lenM (f := Stowed.av) (xs := l) tf_slice_40 rfl rfl (fun hm15 => ?_) rfl rfl rfl
 refine Jg (u := I64 0) (Am rfl rfl) ?_ rfl rfl rfl
 refine Jn (hK4 _ _ ?_)
 refine JC_block ?_
 obtain ⟨b27, kx27, hb27, hkx27, h⟩ := each_in h
 refine JC_loop2 (fun i27 (s27 : Int) => each b27 kx27 (List.drop i27 l) i27 s27 = some r) (fun i27 s27 => [(0, LS 9 Box.av boxes), (2, I64 column), (3, U8 half), (9, I64 s27), (14, LS 4 Stowed.av l), (15, I64 (l.length : Int)), (16, I64 (i27 : Int))]) (fun i27 s27 => []) (fun i27 => l.length - i27) 0 0 h ⟨⟨.same rfl, .same rfl, .same rfl, .same rfl, .same rfl, .same rfl, .same rfl, trivial⟩, trivial, rfl⟩ ?_
 clear h
 intro i27 s27 hi27 K27 e27
 refine Js fun K28 hK28 => Jr ?_
 refine Jg (u := BL (decide ((i27 : Int) < (l.length : Int)))) (A_lss rfl rfl rfl) ?_ rfl rfl rfl
 refine Jn (hK28 _ _ ?_)
 refine Js (fun K29 hK29 => ?_)
 refine JC_cond rfl (fun hb => ?_) (fun hb => ?_)
 ·
  have hk27 := lt_len hb
  obtain ⟨y27, nx27, hy27, hn27, h⟩ := each_out hi27 hk27
  replace h := app4 hb27 h
  refine JC_skip ?_
  refine hK29 _ _ ?_
  obtain ⟨kj30, hkj30, h⟩ := jp_out h
  refine JC_seqJ (fun j30 : Int => kj30 j30 = some r) (fun j30 => [(0, LS 9 Box.av boxes), (2, I64 column), (3, U8 half), (9, I64 j30), (14, LS 4 Stowed.av l), (15, I64 (l.length : Int)), (16, I64 (i27 : Int))]) (fun j30 => []) (fun Kj30 ej30 => ?_) ?_
  ·
   refine JC_block ?_
   refine Js fun K31 hK31 => Jr ?_
   refine Jg (u := .dptr (Stowed.cs y27)) (A_indexM (f := Stowed.av) (xs := l) (y := y27) rfl rfl rfl tf_slice_40 hy27 rfl) ?_ rfl rfl rfl
   refine Jg (u := .agg (Stowed.cs y27)) (A_loadAgg tf_agg_82 rfl rfl rfl) ?_ rfl rfl rfl
   refine Jg (u := .ptr 1137 0) (A_allocJ 1137 4 tf_zsize_82 rfl rfl) ?_ rfl rfl rfl
   refine JL_go0 (u := .junk) (A_store (u := .agg (Stowed.cs y27)) (ds := [I64 y27.Box, I64 y27.Slot.Column, I64 y27.Slot.Tier, U8 y27.Slot.Half]) tf_size_82 rfl rfl rfl rfl rfl rfl rfl rfl) ?_ rfl rfl
   refine Jn (hK31 _ _ ?_)
   refine JC_freeze [(0, LS 9 Box.av boxes), (2, I64 column), (3, U8 half), (9, I64 s27), (11, .dptr (Stowed.cs y27)), (14, LS 4 Stowed.av l), (15, I64 (l.length : Int)), (16, I64 (i27 : Int))] [] 1137 rfl rfl rfl trivial rfl (by exact ⟨.conv (.same rfl), .conv (.same rfl), .conv (.same rfl), .conv (.same rfl), .ptr, .conv (.same rfl), .conv (.same rfl), .conv (.same rfl), trivial⟩) ?_
   refine Js fun K32 hK32 => Jr ?_
   refine Jg (u := .dptr (Slot.cs y27.Slot)) (A_fieldM tf_field_82_1 rfl rfl rfl) ?_ rfl rfl rfl
   refine Jg (u := .dptr (Slot.cs y27.Slot)) (A_fieldM tf_field_80_0 rfl rfl rfl) ?_ rfl rfl rfl
   refine Jg (u := I64 y27.Slot.Column) (A_load tf_scalar_3 rfl rfl rfl) ?_ rfl rfl rfl
   refine Jg (u := I64 column) (Am rfl rfl) ?_ rfl rfl rfl
   refine Jg (u := BL (decide (y27.Slot.Column = column))) (A_eql rfl rfl rfl) ?_ rfl rfl rfl
   refine Jg (u := BL (decide (y27.Slot.Column = column))) (Am rfl rfl) ?_ rfl rfl rfl
   refine JL_opt (u := .dptr (Slot.cs y27.Slot)) [] rfl rfl rfl .sct trivial (fun hc => A_fieldM tf_field_82_1 rfl rfl rfl) ?_ rfl rfl rfl
   refine JL_opt (u := .dptr [U8 y27.Slot.Half]) [(26, .dptr (Slot.cs y27.Slot))] rfl rfl rfl .sct ⟨.all id, trivial⟩ (fun hc => A_fieldM tf_field_80_2 rfl rfl rfl) ?_ rfl rfl rfl
   refine JL_opt (u := U8 y27.Slot.Half) [(27, .dptr [U8 y27.Slot.Half])] rfl rfl rfl .sct ⟨.all id, trivial⟩ (fun hc => A_load tf_scalar_5 rfl rfl rfl) ?_ rfl rfl rfl
   refine JL_opt (u := U8 half) [] rfl rfl rfl .sct trivial (fun hc => Am rfl rfl) ?_ rfl rfl rfl
   refine JL_opt (u := BL (decide (y27.Slot.Half = half))) [(28, U8 y27.Slot.Half), (29, U8 half)] rfl rfl rfl .sct ⟨.all id, .all id, trivial⟩ (fun hc => A_eql rfl rfl rfl) ?_ rfl rfl rfl
   refine JL_opt (u := BL (decide (y27.Slot.Half = half))) [(30, BL (decide (y27.Slot.Half = half)))] rfl rfl rfl .sct ⟨.all id, trivial⟩ (fun hc => Am rfl rfl) ?_ rfl rfl rfl
   refine JL_opt (u := .dptr (Slot.cs y27.Slot)) [] rfl rfl rfl .optf trivial (fun hc => A_fieldM tf_field_82_1 rfl rfl rfl) ?_ rfl rfl rfl
   refine JL_opt (u := .dptr [U8 y27.Slot.Half]) [(32, .dptr (Slot.cs y27.Slot))] rfl rfl rfl .optf ⟨.all id, trivial⟩ (fun hc => A_fieldM tf_field_80_2 rfl rfl rfl) ?_ rfl rfl rfl
   refine JL_opt (u := U8 y27.Slot.Half) [(33, .dptr [U8 y27.Slot.Half])] rfl rfl rfl .optf ⟨.all id, trivial⟩ (fun hc => A_load tf_scalar_5 rfl rfl rfl) ?_ rfl rfl rfl
   refine JL_opt (u := BL (decide (y27.Slot.Half = 0))) [(34, U8 y27.Slot.Half)] rfl rfl rfl .optf ⟨.all id, trivial⟩ (fun hc => A_eql rfl rfl rfl) ?_ rfl rfl rfl
   refine JL_opt (u := BL ((decide (y27.Slot.Half = half)) || (decide (y27.Slot.Half = 0)))) [(31, BL (decide (y27.Slot.Half = half))), (35, _)] rfl rfl rfl .sct ⟨.all id, .part, trivial⟩ (fun hc => A_or rfl rfl rfl rfl) ?_ rfl rfl rfl
   refine Jg (u := BL ((decide (y27.Slot.Column = column)) && ((decide (y27.Slot.Half = half)) || (decide (y27.Slot.Half = 0))))) (A_and rfl rfl rfl rfl) ?_ rfl rfl rfl
   refine Jn (hK32 _ _ ?_)
   refine JC_cond rfl (fun hb => ?_) (fun hb => ?_)
   ·
    replace h := bif_t hb h
    refine Js fun K33 hK33 => Jr ?_
    refine Jg (u := LS 9 Box.av boxes) (Am rfl rfl) ?_ rfl rfl rfl
    refine Jg (u := .dptr (Stowed.cs y27)) (A_fieldM tf_field_82_0 rfl rfl rfl) ?_ rfl rfl rfl
    refine Jg (u := I64 y27.Box) (A_load tf_scalar_3 rfl rfl rfl) ?_ rfl rfl rfl
    obtain ⟨r34, hr34, h⟩ := bnd_out h
    refine Jg (u := .tup [.agg (Box.cs r34.1), BL r34.2]) (A_call1 (args := [LS 9 Box.av boxes, I64 y27.Box]) rfl (M_stow_Find_w boxes y27.Box r34 hr34) tf_call_37 ⟨rfl, rfl, rfl, rfl, trivial⟩) ?_ rfl rfl rfl
    refine Jg (u := .tup [.agg (Box.cs r34.1), BL r34.2]) (Am rfl rfl) ?_ rfl rfl rfl
    refine Jg (u := .agg (Box.cs r34.1)) (A_extract rfl rfl rfl) ?_ rfl rfl rfl
    refine Jg (u := BL r34.2) (A_extract rfl rfl rfl) ?_ rfl rfl rfl
    refine Jg (u := .ptr 1138 0) (A_allocJ 1138 9 tf_zsize_50 rfl rfl) ?_ rfl rfl rfl
    refine JL_go0 (u := .junk) (A_store (u := .agg (Box.cs r34.1)) (ds := [I64 r34.1.ID, ST r34.1.Number, U8 r34.1.Size, BL r34.1.High, I64 r34.1.Kilos, I64 r34.1.Load, I64 r34.1.Discharge, U8 r34.1.Class, BL r34.1.Reefer]) tf_size_50 rfl rfl rfl rfl rfl rfl rfl rfl) ?_ rfl rfl
    refine Jg (u := BL r34.2) (Aa rfl rfl) ?_ rfl rfl rfl
    refine Jn (hK33 _ _ ?_)
    refine JC_freeze [(0, LS 9 Box.av boxes), (2, I64 column), (3, U8 half), (9, I64 s27), (12, .dptr (Box.cs r34.1)), (13, BL r34.2), (14, LS 4 Stowed.av l), (15, I64 (l.length : Int)), (16, I64 (i27 : Int))] [] 1138 rfl rfl rfl trivial rfl (by exact ⟨.conv (.same rfl), .conv (.same rfl), .conv (.same rfl), .conv (.same rfl), .ptr, .conv (.same rfl), .conv (.same rfl), .conv (.same rfl), .conv (.same rfl), trivial⟩) ?_
    refine Js fun K35 hK35 => Jr ?_
    refine Jg (u := BL r34.2) (Am rfl rfl) ?_ rfl rfl rfl
    refine Jn (hK35 _ _ ?_)
    refine JC_cond rfl (fun hb => ?_) (fun hb => ?_)
    ·
     replace h := bif_t hb h
     refine Jr ?_
     refine Jg (u := I64 s27) (Am rfl rfl) ?_ rfl rfl rfl
     refine Jg (u := .agg (Box.cs r34.1)) (A_loadAgg tf_agg_50 rfl rfl rfl) ?_ rfl rfl rfl
     obtain ⟨r36, hr36, h⟩ := bnd_out h
     refine Jg (u := I64 r36) (A_call1 (args := [.agg (Box.cs r34.1)]) rfl (M_stow_tall_w r34.1 r36 hr36) tf_call_72 ⟨rfl, rfl, trivial⟩) ?_ rfl rfl rfl
     obtain ⟨v37, hv37, h⟩ := chk_out h
     refine Jg (u := I64 v37) (A_add hv37 rfl rfl rfl) ?_ rfl rfl rfl
     refine Jg (u := I64 v37) (Aa rfl rfl) ?_ rfl rfl rfl
     refine Jn ?_
     exact ej30 _ _ v37 h ⟨⟨.same rfl, .same rfl, .same rfl, .same rfl, .same rfl, .same rfl, .same rfl, trivial⟩, trivial, rfl⟩
    ·
     replace h := bif_f hb h
     refine JC_skip ?_
     exact ej30 _ _ s27 h ⟨⟨.same rfl, .same rfl, .same rfl, .same rfl, .same rfl, .same rfl, .same rfl, trivial⟩, trivial, rfl⟩
   ·
    replace h := bif_f hb h
    refine JC_skip ?_
    exact ej30 _ _ s27 h ⟨⟨.same rfl, .same rfl, .same rfl, .same rfl, .same rfl, .same rfl, .same rfl, trivial⟩, trivial, rfl⟩
  ·intro j30 h
   replace h := app1 hkj30 h
   refine Jr ?_
   refine Jg (u := I64 ((i27 + 1 : Nat) : Int)) (A_add (idx_succ hk27 hm15) rfl rfl rfl) ?_ rfl rfl rfl
   refine Jg (u := I64 ((i27 + 1 : Nat) : Int)) (Am rfl rfl) ?_ rfl rfl rfl
   refine Jn ?_
   exact e27 _ _ (i27 + 1) j30 (app1 hn27 h) (by omega) ⟨⟨.same rfl, .same rfl, .same rfl, .same rfl, .same rfl, .same rfl, .same rfl, trivial⟩, trivial, rfl⟩
 ·
  have h := app1 hkx27 (each_nil hi27 (not_lt_len hb))
  refine JC_exit ?_
  refine hK3 _ _ ?_
  refine Js fun K38 hK38 => Jr ?_
  refine Jg (u := I64 s27) (Am rfl rfl) ?_ rfl rfl rfl
  refine Jg (u := I64 s27) (Aa rfl rfl) ?_ rfl rfl rfl
  refine Jn (hK38 _ _ ?_)
  refine JC_ret ?_
  exact ⟨[I64 s27], [], trivial, rfl, ⟨⟨_, rfl, .conv (.same rfl)⟩, trivial⟩, rfl, congrArg (fun r : Int => (I64 r : AV)) (Option.some.inj h)⟩

def M_stow_fits (s : Ship) (boxes : List Box) (l : List Stowed) (column : Int) : Option Bool :=
 gidx s.Columns column fun y3 =>
 bnd (bif (!(decide (y3.Height ≤ 0))) then M_stow_Height boxes l column 1 else some default) fun r6 =>
 bnd (bif ((!(decide (y3.Height ≤ 0))) && (decide (r6 ≤ y3.Height))) then M_stow_Height boxes l column 2 else some default) fun r7 =>
 some ((decide (y3.Height ≤ 0)) || ((decide (r6 ≤ y3.Height)) && (decide (r7 ≤ y3.Height))))
theorem M_stow_fits_w (s : Ship) (boxes : List Box) (l : List Stowed) (column : Int) (r : Bool) (h : M_stow_fits s boxes l column = some r) : Pure Try.prog 41 [.agg [LS 12 Column.av s.Columns, LS 2 Cover.av s.Covers, I64 s.Light.Kilos, I64 s.Light.X, I64 s.Light.Y, I64 s.Light.Z, LS 5 Row.av s.Rows, LS 5 Frame.av s.Frames, LS 6 Tank.av s.Tanks, I64 s.Limits.Tolerance, I64 s.Limits.Trim, I64 s.Limits.List_, I64 s.Limits.Stability], LS 9 Box.av boxes, LS 4 Stowed.av l, I64 column] (· = BL r) := by
 unfold M_stow_fits at h
 refine Pure_ofG [.tmp 8] Try.func41 rfl rfl ?_
 refine Js fun K1 hK1 => Jr ?_
 refine Jg (u := .ptr 1118 0) (A_box (u := .agg [LS 12 Column.av s.Columns, LS 2 Cover.av s.Covers, I64 s.Light.Kilos, I64 s.Light.X, I64 s.Light.Y, I64 s.Light.Z, LS 5 Row.av s.Rows, LS 5 Frame.av s.Frames, LS 6 Tank.av s.Tanks, I64 s.Limits.Tolerance, I64 s.Limits.Trim, I64 s.Limits.List_, I64 s.Limits.Stability]) (cs := [LS 12 Column.av s.Columns, LS 2 Cover.av s.Covers, I64 s.Light.Kilos, I64 s.Light.X, I64 s.Light.Y, I64 s.Light.Z, LS 5 Row.av s.Rows, LS 5 Frame.av s.Frames, LS 6 Tank.av s.Tanks, I64 s.Limits.Tolerance, I64 s.Limits.Trim, I64 s.Limits.List_, I64 s.Limits.Stability]) 1118 rfl rfl rfl rfl rfl) ?_ rfl rfl rfl
 refine Jg (u := BL false) (Aa rfl rfl) ?_ rfl rfl rfl
 refine Jn (hK1 _ _ ?_)
 refine JC_freeze [(1, LS 9 Box.av boxes), (2, LS 4 Stowed.av l), (3, I64 column), (4, .dptr [LS 12 Column.av s.Columns, LS 2 Cover.av s.Covers, I64 s.Light.Kilos, I64 s.Light.X, I64 s.Light.Y, I64 s.Light.Z, LS 5 Row.av s.Rows, LS 5 Frame.av s.Frames, LS 6 Tank.av s.Tanks, I64 s.Limits.Tolerance, I64 s.Limits.Trim, I64 s.Limits.List_, I64 s.Limits.Stability])] [] 1118 rfl rfl rfl trivial rfl (by exact ⟨.conv (.same rfl), .conv (.same rfl), .conv (.same rfl), .ptr, trivial⟩) ?_
 refine Js fun K2 hK2 => Jr ?_
 refine Jg (u := .dptr [LS 12 Column.av s.Columns, LS 2 Cover.av s.Covers, I64 s.Light.Kilos, I64 s.Light.X, I64 s.Light.Y, I64 s.Light.Z, LS 5 Row.av s.Rows, LS 5 Frame.av s.Frames, LS 6 Tank.av s.Tanks, I64 s.Limits.Tolerance, I64 s.Limits.Trim, I64 s.Limits.List_, I64 s.Limits.Stability]) (A_fieldM tf_field_35_0 rfl rfl rfl) ?_ rfl rfl rfl
 refine Jg (u := LS 12 Column.av s.Columns) (A_load tf_scalar_25 rfl rfl rfl) ?_ rfl rfl rfl
 refine Jg (u := I64 column) (Am rfl rfl) ?_ rfl rfl rfl
 obtain ⟨m4, y3, hm4, hy3, h⟩ := gidx_out h
 refine Jg (u := .dptr (Column.cs y3)) (A_indexM (f := Column.av) (xs := s.Columns) (y := y3) rfl rfl rfl tf_slice_25 hy3 hm4) ?_ rfl rfl rfl
 refine Jg (u := .dptr ((Column.cs y3).drop 4)) (A_fieldM tf_field_72_4 rfl rfl rfl) ?_ rfl rfl rfl
 refine Jg (u := I64 y3.Height) (A_load tf_scalar_3 rfl rfl rfl) ?_ rfl rfl rfl
 refine Jg (u := I64 y3.Height) (Aa rfl rfl) ?_ rfl rfl rfl
 refine Jn (hK2 _ _ ?_)
 refine Js fun K5 hK5 => Jr ?_
 refine Jg (u := I64 y3.Height) (Am rfl rfl) ?_ rfl rfl rfl
 refine Jg (u := BL (decide (y3.Height ≤ 0))) (A_leq rfl rfl rfl) ?_ rfl rfl rfl
 refine Jg (u := BL (decide (y3.Height ≤ 0))) (Am rfl rfl) ?_ rfl rfl rfl
 refine JL_opt (u := LS 9 Box.av boxes) [] rfl rfl rfl .scf trivial (fun hc => Am rfl rfl) ?_ rfl rfl rfl
 refine JL_opt (u := LS 4 Stowed.av l) [] rfl rfl rfl .scf trivial (fun hc => Am rfl rfl) ?_ rfl rfl rfl
 refine JL_opt (u := I64 column) [] rfl rfl rfl .scf trivial (fun hc => Am rfl rfl) ?_ rfl rfl rfl
 obtain ⟨r6, hr6, h⟩ := bnd_out h
 refine JL_opt (u := I64 r6) [(19, LS 9 Box.av boxes), (20, LS 4 Stowed.av l), (21, I64 column)] rfl rfl rfl .scf ⟨.all id, .all id, .all id, trivial⟩ (fun hc => A_call1 (args := [LS 9 Box.av boxes, LS 4 Stowed.av l, I64 column, U8 1]) rfl (M_stow_Height_w boxes l column 1 r6 (bif_t hc hr6)) tf_call_63 ⟨rfl, rfl, rfl, rfl, rfl, rfl, rfl, rfl, trivial⟩) ?_ rfl rfl rfl
 refine JL_opt (u := I64 y3.Height) [] rfl rfl rfl .scf trivial (fun hc => Am rfl rfl) ?_ rfl rfl rfl
 refine JL_opt (u := BL (decide (r6 ≤ y3.Height))) [(22, I64 r6), (23, I64 y3.Height)] rfl rfl rfl .scf ⟨.all id, .all id, trivial⟩ (fun hc => A_leq rfl rfl rfl) ?_ rfl rfl rfl
 refine JL_opt (u := BL (decide (r6 ≤ y3.Height))) [(24, BL (decide (r6 ≤ y3.Height)))] rfl rfl rfl .scf ⟨.all id, trivial⟩ (fun hc => Am rfl rfl) ?_ rfl rfl rfl
 refine JL_opt (u := LS 9 Box.av boxes) [] rfl rfl rfl .optt trivial (fun hc => Am rfl rfl) ?_ rfl rfl rfl
 refine JL_opt (u := LS 4 Stowed.av l) [] rfl rfl rfl .optt trivial (fun hc => Am rfl rfl) ?_ rfl rfl rfl
 refine JL_opt (u := I64 column) [] rfl rfl rfl .optt trivial (fun hc => Am rfl rfl) ?_ rfl rfl rfl
 obtain ⟨r7, hr7, h⟩ := bnd_out h
 refine JL_opt (u := I64 r7) [(26, LS 9 Box.av boxes), (27, LS 4 Stowed.av l), (28, I64 column)] rfl rfl rfl .optt ⟨.all id, .all id, .all id, trivial⟩ (fun hc => A_call1 (args := [LS 9 Box.av boxes, LS 4 Stowed.av l, I64 column, U8 2]) rfl (M_stow_Height_w boxes l column 2 r7 (bif_t hc hr7)) tf_call_63 ⟨rfl, rfl, rfl, rfl, rfl, rfl, rfl, rfl, trivial⟩) ?_ rfl rfl rfl
 refine JL_opt (u := I64 y3.Height) [] rfl rfl rfl .optt trivial (fun hc => Am rfl rfl) ?_ rfl rfl rfl
 refine JL_opt (u := BL (decide (r7 ≤ y3.Height))) [(29, I64 r7), (30, I64 y3.Height)] rfl rfl rfl .optt ⟨.all id, .all id, trivial⟩ (fun hc => A_leq rfl rfl rfl) ?_ rfl rfl rfl
 refine JL_opt (u := BL ((decide (r6 ≤ y3.Height)) && (decide (r7 ≤ y3.Height)))) [(25, BL (decide (r6 ≤ y3.Height))), (31, _)] rfl rfl rfl .scf ⟨.all id, .part, trivial⟩ (fun hc => A_and rfl rfl rfl rfl) ?_ rfl rfl rfl
 refine Jg (u := BL ((decide (y3.Height ≤ 0)) || ((decide (r6 ≤ y3.Height)) && (decide (r7 ≤ y3.Height))))) (A_or rfl rfl rfl rfl) ?_ rfl rfl rfl
 refine Jg (u := BL ((decide (y3.Height ≤ 0)) || ((decide (r6 ≤ y3.Height)) && (decide (r7 ≤ y3.Height))))) (Aa rfl rfl) ?_ rfl rfl rfl
 refine Jn (hK5 _ _ ?_)
 refine JC_ret ?_
 exact ⟨[BL ((decide (y3.Height ≤ 0)) || ((decide (r6 ≤ y3.Height)) && (decide (r7 ≤ y3.Height))))], [], trivial, rfl, ⟨⟨_, rfl, .conv (.same rfl)⟩, trivial⟩, rfl, congrArg (fun r : Bool => (BL r : AV)) (Option.some.inj h)⟩

def M_stow_Right (s : Ship) (boxes : List Box) (l : List Stowed) : Option Bool :=
 bnd (S_ship_Right s) fun r4 =>
 bif (!r4) then
 (some false)
 else
 (bnd (M_stow_taken l) fun r7 =>
  each (fun y10 i10 (s10 : Unit) nx10 =>
   bnd (M_stow_Find boxes y10.Box) fun r16 =>
   bnd (bif ((!(!r16.2)) && (decide (0 < (i10 : Int)))) then chk ((i10 : Int) - 1) some else some 0) fun v19 =>
   bnd (bif ((!(!r16.2)) && (decide (0 < (i10 : Int)))) then gidx l v19 some else some default) fun y20 =>
   bnd (bif (!((!r16.2) || ((decide (0 < (i10 : Int))) && (decide (y10.Box ≤ y20.Box))))) then M_slot_Right s y10.Slot r16.1.Size else some default) fun r21 =>
   bnd (bif (!(((!r16.2) || ((decide (0 < (i10 : Int))) && (decide (y10.Box ≤ y20.Box)))) || (!r21))) then M_slot_Held y10.Slot r7 else some default) fun r22 =>
   bif ((((!r16.2) || ((decide (0 < (i10 : Int))) && (decide (y10.Box ≤ y20.Box)))) || (!r21)) || (!r22)) then
   (some false)
   else
   (bnd (natIn (i10 : Int) r7.length) fun m25 =>
    each (fun y42 i42 (s42 : Unit) nx42 =>
     bnd (M_slot_Meet y10.Slot y42) fun r48 =>
     bif r48 then
     (some false)
     else
     (nx42 ()))
    (fun (s42 : Unit) =>
     nx10 ()) (r7.take m25) 0 ()))
  (fun (s10 : Unit) =>
   each (fun y64 i64 (s64 : Unit) nx64 =>
    bnd (M_stow_fits s boxes l (i64 : Int)) fun r70 =>
    bif (!r70) then
    (some false)
    else
    (nx64 ()))
   (fun (s64 : Unit) =>
    some true) s.Columns 0 ()) l 0 ())
theorem M_stow_Right_w (s : Ship) (boxes : List Box) (l : List Stowed) (r : Bool) (h : M_stow_Right s boxes l = some r) : Pure Try.prog 19 [.agg [LS 12 Column.av s.Columns, LS 2 Cover.av s.Covers, I64 s.Light.Kilos, I64 s.Light.X, I64 s.Light.Y, I64 s.Light.Z, LS 5 Row.av s.Rows, LS 5 Frame.av s.Frames, LS 6 Tank.av s.Tanks, I64 s.Limits.Tolerance, I64 s.Limits.Trim, I64 s.Limits.List_, I64 s.Limits.Stability], LS 9 Box.av boxes, LS 4 Stowed.av l] (· = BL r) := by
 unfold M_stow_Right at h
 refine Pure_ofG [.tmp 6] Try.func19 rfl rfl ?_
 refine Js fun K1 hK1 => Jr ?_
 refine Jg (u := .ptr 1056 0) (A_box (u := .agg [LS 12 Column.av s.Columns, LS 2 Cover.av s.Covers, I64 s.Light.Kilos, I64 s.Light.X, I64 s.Light.Y, I64 s.Light.Z, LS 5 Row.av s.Rows, LS 5 Frame.av s.Frames, LS 6 Tank.av s.Tanks, I64 s.Limits.Tolerance, I64 s.Limits.Trim, I64 s.Limits.List_, I64 s.Limits.Stability]) (cs := [LS 12 Column.av s.Columns, LS 2 Cover.av s.Covers, I64 s.Light.Kilos, I64 s.Light.X, I64 s.Light.Y, I64 s.Light.Z, LS 5 Row.av s.Rows, LS 5 Frame.av s.Frames, LS 6 Tank.av s.Tanks, I64 s.Limits.Tolerance, I64 s.Limits.Trim, I64 s.Limits.List_, I64 s.Limits.Stability]) 1056 rfl rfl rfl rfl rfl) ?_ rfl rfl rfl
 refine Jg (u := BL false) (Aa rfl rfl) ?_ rfl rfl rfl
 refine Jn (hK1 _ _ ?_)
 refine JC_freeze [(1, LS 9 Box.av boxes), (2, LS 4 Stowed.av l), (3, .dptr [LS 12 Column.av s.Columns, LS 2 Cover.av s.Covers, I64 s.Light.Kilos, I64 s.Light.X, I64 s.Light.Y, I64 s.Light.Z, LS 5 Row.av s.Rows, LS 5 Frame.av s.Frames, LS 6 Tank.av s.Tanks, I64 s.Limits.Tolerance, I64 s.Limits.Trim, I64 s.Limits.List_, I64 s.Limits.Stability])] [] 1056 rfl rfl rfl trivial rfl (by exact ⟨.conv (.same rfl), .conv (.same rfl), .ptr, trivial⟩) ?_
 refine Js (fun K2 hK2 => ?_)
 refine Js fun K3 hK3 => Jr ?_
 refine Jg (u := .agg [LS 12 Column.av s.Columns, LS 2 Cover.av s.Covers, I64 s.Light.Kilos, I64 s.Light.X, I64 s.Light.Y, I64 s.Light.Z, LS 5 Row.av s.Rows, LS 5 Frame.av s.Frames, LS 6 Tank.av s.Tanks, I64 s.Limits.Tolerance, I64 s.Limits.Trim, I64 s.Limits.List_, I64 s.Limits.Stability]) (A_loadAgg tf_agg_35 rfl rfl rfl) ?_ rfl rfl rfl
 obtain ⟨r4, hr4, h⟩ := bnd_out h
 refine Jg (u := BL r4) (A_call1 (args := [.agg [LS 12 Column.av s.Columns, LS 2 Cover.av s.Covers, I64 s.Light.Kilos, I64 s.Light.X, I64 s.Light.Y, I64 s.Light.Z, LS 5 Row.av s.Rows, LS 5 Frame.av s.Frames, LS 6 Tank.av s.Tanks, I64 s.Limits.Tolerance, I64 s.Limits.Trim, I64 s.Limits.List_, I64 s.Limits.Stability]]) rfl (S_ship_Right_w.down s r4 hr4) tf_call_35 ⟨rfl, rfl, trivial⟩) ?_ rfl rfl rfl
 refine Jg (u := BL (!r4)) (A_not (b := r4) rfl rfl) ?_ rfl rfl rfl
 refine Jn (hK3 _ _ ?_)
 refine JC_cond rfl (fun hb => ?_) (fun hb => ?_)
 ·
  replace h := bif_t hb h
  refine Js fun K5 hK5 => Jr ?_
  refine Jg (u := BL false) (Aa rfl rfl) ?_ rfl rfl rfl
  refine Jn (hK5 _ _ ?_)
  refine JC_ret ?_
  exact ⟨[BL false], [], trivial, rfl, ⟨⟨_, rfl, .conv (.same rfl)⟩, trivial⟩, rfl, congrArg (fun r : Bool => (BL r : AV)) (Option.some.inj h)⟩
 ·
  replace h := bif_f hb h
  refine JC_skip ?_
  refine hK2 _ _ ?_
  refine Js fun K6 hK6 => Jr ?_
  refine Jg (u := LS 4 Stowed.av l) (Am rfl rfl) ?_ rfl rfl rfl
  obtain ⟨r7, hr7, h⟩ := bnd_out h
  refine Jg (u := LS 3 Slot.av r7) (A_call1 (args := [LS 4 Stowed.av l]) rfl (M_stow_taken_w l r7 hr7) tf_call_36 ⟨rfl, rfl, trivial⟩) ?_ rfl rfl rfl
  refine Jg (u := LS 3 Slot.av r7) (Aa rfl rfl) ?_ rfl rfl rfl
  refine Jn (hK6 _ _ ?_)
  refine Js (fun K8 hK8 => ?_)
  refine Js fun K9 hK9 => Jr ?_
  refine Jg (u := LS 4 Stowed.av l) (Am rfl rfl) ?_ rfl rfl rfl
  refine JL_lenM (f := Stowed.av) (xs := l) tf_slice_40 rfl rfl (fun hm21 => ?_) rfl rfl rfl
  refine Jg (u := I64 0) (Am rfl rfl) ?_ rfl rfl rfl
  refine Jn (hK9 _ _ ?_)
  refine JC_block ?_
  obtain ⟨b10, kx10, hb10, hkx10, h⟩ := each_in h
  refine JC_loop2 (fun i10 (s10 : Unit) => each b10 kx10 (List.drop i10 l) i10 s10 = some r) (fun i10 s10 => [(1, LS 9 Box.av boxes), (2, LS 4 Stowed.av l), (3, .dptr [LS 12 Column.av s.Columns, LS 2 Cover.av s.Covers, I64 s.Light.Kilos, I64 s.Light.X, I64 s.Light.Y, I64 s.Light.Z, LS 5 Row.av s.Rows, LS 5 Frame.av s.Frames, LS 6 Tank.av s.Tanks, I64 s.Limits.Tolerance, I64 s.Limits.Trim, I64 s.Limits.List_, I64 s.Limits.Stability]), (7, LS 3 Slot.av r7), (20, LS 4 Stowed.av l), (21, I64 (l.length : Int)), (22, I64 (i10 : Int))]) (fun i10 s10 => []) (fun i10 => l.length - i10) 0 () h ⟨⟨.same rfl, .same rfl, .same rfl, .same rfl, .same rfl, .same rfl, .same rfl, trivial⟩, trivial, rfl⟩ ?_
  clear h
  intro i10 s10 hi10 K10 e10
  refine Js fun K11 hK11 => Jr ?_
  refine Jg (u := BL (decide ((i10 : Int) < (l.length : Int)))) (A_lss rfl rfl rfl) ?_ rfl rfl rfl
  refine Jn (hK11 _ _ ?_)
  refine Js (fun K12 hK12 => ?_)
  refine JC_cond rfl (fun hb => ?_) (fun hb => ?_)
  ·
   have hk10 := lt_len hb
   obtain ⟨y10, nx10, hy10, hn10, h⟩ := each_out hi10 hk10
   replace h := app4 hb10 h
   refine JC_skip ?_
   refine hK12 _ _ ?_
   refine Js (fun K13 hK13 => ?_)
   refine JC_block ?_
   refine Js fun K14 hK14 => Jr ?_
   refine Jg (u := I64 (i10 : Int)) (Am rfl rfl) ?_ rfl rfl rfl
   refine Jg (u := .dptr (Stowed.cs y10)) (A_indexM (f := Stowed.av) (xs := l) (y := y10) rfl rfl rfl tf_slice_40 hy10 rfl) ?_ rfl rfl rfl
   refine Jg (u := .agg (Stowed.cs y10)) (A_loadAgg tf_agg_82 rfl rfl rfl) ?_ rfl rfl rfl
   refine Jg (u := .ptr 1057 0) (A_allocJ 1057 4 tf_zsize_82 rfl rfl) ?_ rfl rfl rfl
   refine Jg (u := I64 (i10 : Int)) (Aa rfl rfl) ?_ rfl rfl rfl
   refine JL_go0 (u := .junk) (A_store (u := .agg (Stowed.cs y10)) (ds := [I64 y10.Box, I64 y10.Slot.Column, I64 y10.Slot.Tier, U8 y10.Slot.Half]) tf_size_82 rfl rfl rfl rfl rfl rfl rfl rfl) ?_ rfl rfl
   refine Jn (hK14 _ _ ?_)
   refine JC_freeze [(1, LS 9 Box.av boxes), (2, LS 4 Stowed.av l), (3, .dptr [LS 12 Column.av s.Columns, LS 2 Cover.av s.Covers, I64 s.Light.Kilos, I64 s.Light.X, I64 s.Light.Y, I64 s.Light.Z, LS 5 Row.av s.Rows, LS 5 Frame.av s.Frames, LS 6 Tank.av s.Tanks, I64 s.Limits.Tolerance, I64 s.Limits.Trim, I64 s.Limits.List_, I64 s.Limits.Stability]), (7, LS 3 Slot.av r7), (8, I64 (i10 : Int)), (9, .dptr (Stowed.cs y10)), (20, LS 4 Stowed.av l), (21, I64 (l.length : Int)), (22, I64 (i10 : Int))] [] 1057 rfl rfl rfl trivial rfl (by exact ⟨.conv (.same rfl), .conv (.same rfl), .conv (.same rfl), .conv (.same rfl), .conv (.same rfl), .ptr, .conv (.same rfl), .conv (.same rfl), .conv (.same rfl), trivial⟩) ?_
   refine Js fun K15 hK15 => Jr ?_
   refine Jg (u := LS 9 Box.av boxes) (Am rfl rfl) ?_ rfl rfl rfl
   refine Jg (u := .dptr (Stowed.cs y10)) (A_fieldM tf_field_82_0 rfl rfl rfl) ?_ rfl rfl rfl
   refine Jg (u := I64 y10.Box) (A_load tf_scalar_3 rfl rfl rfl) ?_ rfl rfl rfl
   obtain ⟨r16, hr16, h⟩ := bnd_out h
   refine Jg (u := .tup [.agg (Box.cs r16.1), BL r16.2]) (A_call1 (args := [LS 9 Box.av boxes, I64 y10.Box]) rfl (M_stow_Find_w boxes y10.Box r16 hr16) tf_call_37 ⟨rfl, rfl, rfl, rfl, trivial⟩) ?_ rfl rfl rfl
   refine Jg (u := .tup [.agg (Box.cs r16.1), BL r16.2]) (Am rfl rfl) ?_ rfl rfl rfl
   refine Jg (u := .agg (Box.cs r16.1)) (A_extract rfl rfl rfl) ?_ rfl rfl rfl
   refine Jg (u := BL r16.2) (A_extract rfl rfl rfl) ?_ rfl rfl rfl
   refine Jg (u := .ptr 1058 0) (A_allocJ 1058 9 tf_zsize_50 rfl rfl) ?_ rfl rfl rfl
   refine JL_go0 (u := .junk) (A_store (u := .agg (Box.cs r16.1)) (ds := [I64 r16.1.ID, ST r16.1.Number, U8 r16.1.Size, BL r16.1.High, I64 r16.1.Kilos, I64 r16.1.Load, I64 r16.1.Discharge, U8 r16.1.Class, BL r16.1.Reefer]) tf_size_50 rfl rfl rfl rfl rfl rfl rfl rfl) ?_ rfl rfl
   refine Jg (u := BL r16.2) (Aa rfl rfl) ?_ rfl rfl rfl
   refine Jn (hK15 _ _ ?_)
   refine JC_freeze [(1, LS 9 Box.av boxes), (2, LS 4 Stowed.av l), (3, .dptr [LS 12 Column.av s.Columns, LS 2 Cover.av s.Covers, I64 s.Light.Kilos, I64 s.Light.X, I64 s.Light.Y, I64 s.Light.Z, LS 5 Row.av s.Rows, LS 5 Frame.av s.Frames, LS 6 Tank.av s.Tanks, I64 s.Limits.Tolerance, I64 s.Limits.Trim, I64 s.Limits.List_, I64 s.Limits.Stability]), (7, LS 3 Slot.av r7), (8, I64 (i10 : Int)), (9, .dptr (Stowed.cs y10)), (10, .dptr (Box.cs r16.1)), (11, BL r16.2), (20, LS 4 Stowed.av l), (21, I64 (l.length : Int)), (22, I64 (i10 : Int))] [] 1058 rfl rfl rfl trivial rfl (by exact ⟨.conv (.same rfl), .conv (.same rfl), .conv (.same rfl), .conv (.same rfl), .conv (.same rfl), .conv (.same rfl), .ptr, .conv (.same rfl), .conv (.same rfl), .conv (.same rfl), .conv (.same rfl), trivial⟩) ?_
   refine Js (fun K17 hK17 => ?_)
   refine Js (fun K18 hK18 => ?_)
   obtain ⟨v19, hv19, h⟩ := bnd_out h
   obtain ⟨y20, hy20, h⟩ := bnd_out h
   obtain ⟨r21, hr21, h⟩ := bnd_out h
   obtain ⟨r22, hr22, h⟩ := bnd_out h
   refine JC_draw [] [0, 0, 0, 0, 0, 0, 0, 0, 0, 0, 0, 0, 0, 0, 0, 0, 0, 0, 0, 0, 0, 0, 0, 0, 0, 0, 0, 0, 0, 0, 0, 0, 0] [0, 0, 0, 0, 0, 0, 0, 0, 0, 0, 0, 0, 0, 0, 0, 0, 0, 0, 0, 0, 0, 0, 0, 0, 0, 0, 0, 0, 0, 0, 0, 0, 0] [[]] tf_mixed (by kernel_rfl) rfl rfl ?_
   refine D_ro (u := BL r16.2) rfl rfl ⟨O_go (Am rfl rfl) rfl, trivial⟩ ?_ rfl
   refine D_ro (u := BL (!r16.2)) rfl rfl ⟨O_go (A_not (b := r16.2) rfl rfl) rfl, trivial⟩ ?_ rfl
   refine D_ro (u := BL (!r16.2)) rfl rfl ⟨O_go (Am rfl rfl) rfl, trivial⟩ ?_ rfl
   refine D_ro (u := .opt (!(!r16.2)) (I64 (i10 : Int))) rfl rfl ⟨O_opt [] rfl rfl rfl .scf trivial (fun hc => Am rfl rfl) rfl, trivial⟩ ?_ rfl
   refine D_ro (u := .opt (!(!r16.2)) (BL (decide (0 < (i10 : Int))))) rfl rfl ⟨O_opt [(37, I64 (i10 : Int))] rfl rfl rfl .scf ⟨.all id, trivial⟩ (fun hc => A_gtr rfl rfl rfl) rfl, trivial⟩ ?_ rfl
   refine D_ro (u := .opt (!(!r16.2)) (BL (decide (0 < (i10 : Int))))) rfl rfl ⟨O_opt [(38, BL (decide (0 < (i10 : Int))))] rfl rfl rfl .scf ⟨.all id, trivial⟩ (fun hc => Am rfl rfl) rfl, trivial⟩ ?_ rfl
   refine D_ro (u := .opt ((!(!r16.2)) && (decide (0 < (i10 : Int)))) (.dptr (Stowed.cs y10))) rfl rfl ⟨O_opt [] rfl rfl rfl .optt trivial (fun hc => A_fieldM tf_field_82_0 rfl rfl rfl) rfl, trivial⟩ ?_ rfl
   refine D_ro (u := .opt ((!(!r16.2)) && (decide (0 < (i10 : Int)))) (I64 y10.Box)) rfl rfl ⟨O_opt [(40, .dptr (Stowed.cs y10))] rfl rfl rfl .optt ⟨.all id, trivial⟩ (fun hc => A_load tf_scalar_3 rfl rfl rfl) rfl, trivial⟩ ?_ rfl
   refine D_ro (u := .opt ((!(!r16.2)) && (decide (0 < (i10 : Int)))) (LS 4 Stowed.av l)) rfl rfl ⟨O_opt [] rfl rfl rfl .optt trivial (fun hc => Am rfl rfl) rfl, trivial⟩ ?_ rfl
   refine D_ro (u := .opt ((!(!r16.2)) && (decide (0 < (i10 : Int)))) (I64 (i10 : Int))) rfl rfl ⟨O_opt [] rfl rfl rfl .optt trivial (fun hc => Am rfl rfl) rfl, trivial⟩ ?_ rfl
   refine D_ro (u := .opt ((!(!r16.2)) && (decide (0 < (i10 : Int)))) (I64 v19)) rfl rfl ⟨O_opt [(43, I64 (i10 : Int))] rfl rfl rfl .optt ⟨.all id, trivial⟩ (fun hc => A_sub (chk_some (bif_t hc hv19)) rfl rfl rfl) rfl, trivial⟩ ?_ rfl
   refine D_ro (u := .opt ((!(!r16.2)) && (decide (0 < (i10 : Int)))) (.dptr (Stowed.cs y20))) rfl rfl ⟨O_opt [(42, LS 4 Stowed.av l), (44, I64 v19)] rfl rfl rfl .optt ⟨.all id, .all id, trivial⟩ (fun hc => (match gidx_some (bif_t hc hy20) with | ⟨_, hm_, hy_⟩ => A_indexM (f := Stowed.av) (xs := l) (y := y20) rfl rfl rfl tf_slice_40 hy_ hm_)) rfl, trivial⟩ ?_ rfl
   refine D_ro (u := .opt ((!(!r16.2)) && (decide (0 < (i10 : Int)))) (.dptr (Stowed.cs y20))) rfl rfl ⟨O_opt [(45, .dptr (Stowed.cs y20))] rfl rfl rfl .optt ⟨.all id, trivial⟩ (fun hc => A_fieldM tf_field_82_0 rfl rfl rfl) rfl, trivial⟩ ?_ rfl
   refine D_ro (u := .opt ((!(!r16.2)) && (decide (0 < (i10 : Int)))) (I64 y20.Box)) rfl rfl ⟨O_opt [(46, .dptr (Stowed.cs y20))] rfl rfl rfl .optt ⟨.all id, trivial⟩ (fun hc => A_load tf_scalar_3 rfl rfl rfl) rfl, trivial⟩ ?_ rfl
   refine D_ro (u := .opt ((!(!r16.2)) && (decide (0 < (i10 : Int)))) (BL (decide (y10.Box ≤ y20.Box)))) rfl rfl ⟨O_opt [(41, I64 y10.Box), (47, I64 y20.Box)] rfl rfl rfl .optt ⟨.all id, .all id, trivial⟩ (fun hc => A_leq rfl rfl rfl) rfl, trivial⟩ ?_ rfl
   refine D_ro (u := .opt (!(!r16.2)) (BL ((decide (0 < (i10 : Int))) && (decide (y10.Box ≤ y20.Box))))) rfl rfl ⟨O_opt [(39, BL (decide (0 < (i10 : Int)))), (48, _)] rfl rfl rfl .scf ⟨.all id, .part, trivial⟩ (fun hc => A_and rfl rfl rfl rfl) rfl, trivial⟩ ?_ rfl
   refine D_ro (u := BL ((!r16.2) || ((decide (0 < (i10 : Int))) && (decide (y10.Box ≤ y20.Box))))) rfl rfl ⟨O_go (A_or rfl rfl rfl rfl) rfl, trivial⟩ ?_ rfl
   refine D_ro (u := BL ((!r16.2) || ((decide (0 < (i10 : Int))) && (decide (y10.Box ≤ y20.Box))))) rfl rfl ⟨O_go (Am rfl rfl) rfl, trivial⟩ ?_ rfl
   refine D_ro (u := .opt (!((!r16.2) || ((decide (0 < (i10 : Int))) && (decide (y10.Box ≤ y20.Box))))) (.agg [LS 12 Column.av s.Columns, LS 2 Cover.av s.Covers, I64 s.Light.Kilos, I64 s.Light.X, I64 s.Light.Y, I64 s.Light.Z, LS 5 Row.av s.Rows, LS 5 Frame.av s.Frames, LS 6 Tank.av s.Tanks, I64 s.Limits.Tolerance, I64 s.Limits.Trim, I64 s.Limits.List_, I64 s.Limits.Stability])) rfl rfl ⟨O_opt [] rfl rfl rfl .scf trivial (fun hc => A_loadAgg tf_agg_35 rfl rfl rfl) rfl, trivial⟩ ?_ rfl
   refine D_ro (u := .opt (!((!r16.2) || ((decide (0 < (i10 : Int))) && (decide (y10.Box ≤ y20.Box))))) (.dptr (Slot.cs y10.Slot))) rfl rfl ⟨O_opt [] rfl rfl rfl .scf trivial (fun hc => A_fieldM tf_field_82_1 rfl rfl rfl) rfl, trivial⟩ ?_ rfl
   refine D_ro (u := .opt (!((!r16.2) || ((decide (0 < (i10 : Int))) && (decide (y10.Box ≤ y20.Box))))) (.agg (Slot.cs y10.Slot))) rfl rfl ⟨O_opt [(53, .dptr (Slot.cs y10.Slot))] rfl rfl rfl .scf ⟨.all id, trivial⟩ (fun hc => A_loadAgg tf_agg_80 rfl rfl rfl) rfl, trivial⟩ ?_ rfl
   refine D_ro (u := .opt (!((!r16.2) || ((decide (0 < (i10 : Int))) && (decide (y10.Box ≤ y20.Box))))) (.dptr ((Box.cs r16.1).drop 2))) rfl rfl ⟨O_opt [] rfl rfl rfl .scf trivial (fun hc => A_fieldM tf_field_50_2 rfl rfl rfl) rfl, trivial⟩ ?_ rfl
   refine D_ro (u := .opt (!((!r16.2) || ((decide (0 < (i10 : Int))) && (decide (y10.Box ≤ y20.Box))))) (U8 r16.1.Size)) rfl rfl ⟨O_opt [(55, .dptr ((Box.cs r16.1).drop 2))] rfl rfl rfl .scf ⟨.all id, trivial⟩ (fun hc => A_load tf_scalar_5 rfl rfl rfl) rfl, trivial⟩ ?_ rfl
   refine D_ro (u := .opt (!((!r16.2) || ((decide (0 < (i10 : Int))) && (decide (y10.Box ≤ y20.Box))))) (BL r21)) rfl rfl ⟨O_opt [(52, .agg [LS 12 Column.av s.Columns, LS 2 Cover.av s.Covers, I64 s.Light.Kilos, I64 s.Light.X, I64 s.Light.Y, I64 s.Light.Z, LS 5 Row.av s.Rows, LS 5 Frame.av s.Frames, LS 6 Tank.av s.Tanks, I64 s.Limits.Tolerance, I64 s.Limits.Trim, I64 s.Limits.List_, I64 s.Limits.Stability]), (54, .agg (Slot.cs y10.Slot)), (56, U8 r16.1.Size)] rfl rfl rfl .scf ⟨.all id, .all id, .all id, trivial⟩ (fun hc => A_call1 (args := [.agg [LS 12 Column.av s.Columns, LS 2 Cover.av s.Covers, I64 s.Light.Kilos, I64 s.Light.X, I64 s.Light.Y, I64 s.Light.Z, LS 5 Row.av s.Rows, LS 5 Frame.av s.Frames, LS 6 Tank.av s.Tanks, I64 s.Limits.Tolerance, I64 s.Limits.Trim, I64 s.Limits.List_, I64 s.Limits.Stability], .agg (Slot.cs y10.Slot), U8 r16.1.Size]) rfl (M_slot_Right_w s y10.Slot r16.1.Size r21 (bif_t hc hr21)) tf_call_38 ⟨rfl, rfl, rfl, rfl, rfl, rfl, trivial⟩) rfl, trivial⟩ ?_ rfl
   refine D_ro (u := .opt (!((!r16.2) || ((decide (0 < (i10 : Int))) && (decide (y10.Box ≤ y20.Box))))) (BL (!r21))) rfl rfl ⟨O_opt [(57, BL r21)] rfl rfl rfl .scf ⟨.all id, trivial⟩ (fun hc => A_not (b := r21) rfl rfl) rfl, trivial⟩ ?_ rfl
   refine D_ro (u := BL (((!r16.2) || ((decide (0 < (i10 : Int))) && (decide (y10.Box ≤ y20.Box)))) || (!r21))) rfl rfl ⟨O_go (A_or rfl rfl rfl rfl) rfl, trivial⟩ ?_ rfl
   refine D_ro (u := BL (((!r16.2) || ((decide (0 < (i10 : Int))) && (decide (y10.Box ≤ y20.Box)))) || (!r21))) rfl rfl ⟨O_go (Am rfl rfl) rfl, trivial⟩ ?_ rfl
   refine D_ro (u := .opt (!(((!r16.2) || ((decide (0 < (i10 : Int))) && (decide (y10.Box ≤ y20.Box)))) || (!r21))) (.dptr (Slot.cs y10.Slot))) rfl rfl ⟨O_opt [] rfl rfl rfl .scf trivial (fun hc => A_fieldM tf_field_82_1 rfl rfl rfl) rfl, trivial⟩ ?_ rfl
   refine D_ro (u := .opt (!(((!r16.2) || ((decide (0 < (i10 : Int))) && (decide (y10.Box ≤ y20.Box)))) || (!r21))) (.agg (Slot.cs y10.Slot))) rfl rfl ⟨O_opt [(61, .dptr (Slot.cs y10.Slot))] rfl rfl rfl .scf ⟨.all id, trivial⟩ (fun hc => A_loadAgg tf_agg_80 rfl rfl rfl) rfl, trivial⟩ ?_ rfl
   refine D_ro (u := .opt (!(((!r16.2) || ((decide (0 < (i10 : Int))) && (decide (y10.Box ≤ y20.Box)))) || (!r21))) (LS 3 Slot.av r7)) rfl rfl ⟨O_opt [] rfl rfl rfl .scf trivial (fun hc => Am rfl rfl) rfl, trivial⟩ ?_ rfl
   refine D_ro (u := .opt (!(((!r16.2) || ((decide (0 < (i10 : Int))) && (decide (y10.Box ≤ y20.Box)))) || (!r21))) (BL r22)) rfl rfl ⟨O_opt [(62, .agg (Slot.cs y10.Slot)), (63, LS 3 Slot.av r7)] rfl rfl rfl .scf ⟨.all id, .all id, trivial⟩ (fun hc => A_call1 (args := [.agg (Slot.cs y10.Slot), LS 3 Slot.av r7]) rfl (M_slot_Held_w y10.Slot r7 r22 (bif_t hc hr22)) tf_call_39 ⟨rfl, rfl, rfl, rfl, trivial⟩) rfl, trivial⟩ ?_ rfl
   refine D_ro (u := .opt (!(((!r16.2) || ((decide (0 < (i10 : Int))) && (decide (y10.Box ≤ y20.Box)))) || (!r21))) (BL (!r22))) rfl rfl ⟨O_opt [(64, BL r22)] rfl rfl rfl .scf ⟨.all id, trivial⟩ (fun hc => A_not (b := r22) rfl rfl) rfl, trivial⟩ ?_ rfl
   refine D_ro (u := BL ((((!r16.2) || ((decide (0 < (i10 : Int))) && (decide (y10.Box ≤ y20.Box)))) || (!r21)) || (!r22))) rfl rfl ⟨O_go (A_or rfl rfl rfl rfl) rfl, trivial⟩ ?_ rfl
   refine D_nil ?_
   refine hK18 _ _ ?_
   refine JC_cond rfl (fun hb => ?_) (fun hb => ?_)
   ·
    replace h := bif_t hb h
    refine Js fun K23 hK23 => Jr ?_
    refine Jg (u := BL false) (Aa rfl rfl) ?_ rfl rfl rfl
    refine Jn (hK23 _ _ ?_)
    refine JC_ret ?_
    exact ⟨[BL false], [], trivial, rfl, ⟨⟨_, rfl, .conv (.same rfl)⟩, trivial⟩, rfl, congrArg (fun r : Bool => (BL r : AV)) (Option.some.inj h)⟩
   ·
    replace h := bif_f hb h
    refine JC_skip ?_
    refine hK17 _ _ ?_
    refine Js fun K24 hK24 => Jr ?_
    refine Jg (u := LS 3 Slot.av r7) (Am rfl rfl) ?_ rfl rfl rfl
    refine Jg (u := I64 (i10 : Int)) (Am rfl rfl) ?_ rfl rfl rfl
    obtain ⟨m25, hm25, h⟩ := bnd_out h
    refine Jg (u := LS 3 Slot.av (r7.take m25)) (A_sliceHiM (f := Slot.av) (xs := r7) rfl rfl rfl tf_slice_77 (natIn_out hm25)) ?_ rfl rfl rfl
    refine JL_lenM (f := Slot.av) (xs := (r7.take m25)) tf_slice_77 rfl rfl (fun hm70 => ?_) rfl rfl rfl
    refine Jg (u := I64 0) (Am rfl rfl) ?_ rfl rfl rfl
    refine Jn (hK24 _ _ ?_)
    refine JC_block ?_
    obtain ⟨b42, kx42, hb42, hkx42, h⟩ := each_in h
    refine JC_loop2 (fun i42 (s42 : Unit) => each b42 kx42 (List.drop i42 (r7.take m25)) i42 s42 = some r) (fun i42 s42 => [(1, LS 9 Box.av boxes), (2, LS 4 Stowed.av l), (3, .dptr [LS 12 Column.av s.Columns, LS 2 Cover.av s.Covers, I64 s.Light.Kilos, I64 s.Light.X, I64 s.Light.Y, I64 s.Light.Z, LS 5 Row.av s.Rows, LS 5 Frame.av s.Frames, LS 6 Tank.av s.Tanks, I64 s.Limits.Tolerance, I64 s.Limits.Trim, I64 s.Limits.List_, I64 s.Limits.Stability]), (7, LS 3 Slot.av r7), (9, .dptr (Stowed.cs y10)), (20, LS 4 Stowed.av l), (21, I64 (l.length : Int)), (22, I64 (i10 : Int)), (69, LS 3 Slot.av (r7.take m25)), (70, I64 ((r7.take m25).length : Int)), (71, I64 (i42 : Int))]) (fun i42 s42 => []) (fun i42 => (r7.take m25).length - i42) 0 () h ⟨⟨.same rfl, .same rfl, .same rfl, .same rfl, .same rfl, .same rfl, .same rfl, .same rfl, .same rfl, .same rfl, .same rfl, trivial⟩, trivial, rfl⟩ ?_
    clear h
    intro i42 s42 hi42 K42 e42
    refine Js fun K43 hK43 => Jr ?_
    refine Jg (u := BL (decide ((i42 : Int) < ((r7.take m25).length : Int)))) (A_lss rfl rfl rfl) ?_ rfl rfl rfl
    refine Jn (hK43 _ _ ?_)
    refine Js (fun K44 hK44 => ?_)
    refine JC_cond rfl (fun hb => ?_) (fun hb => ?_)
    ·
     have hk42 := lt_len hb
     obtain ⟨y42, nx42, hy42, hn42, h⟩ := each_out hi42 hk42
     replace h := app4 hb42 h
     refine JC_skip ?_
     refine hK44 _ _ ?_
     refine Js (fun K45 hK45 => ?_)
     refine JC_block ?_
     refine Js fun K46 hK46 => Jr ?_
     refine Jg (u := .dptr (Slot.cs y42)) (A_indexM (f := Slot.av) (xs := (r7.take m25)) (y := y42) rfl rfl rfl tf_slice_77 hy42 rfl) ?_ rfl rfl rfl
     refine Jg (u := .agg (Slot.cs y42)) (A_loadAgg tf_agg_80 rfl rfl rfl) ?_ rfl rfl rfl
     refine Jg (u := .ptr 1059 0) (A_allocJ 1059 3 tf_zsize_80 rfl rfl) ?_ rfl rfl rfl
     refine JL_go0 (u := .junk) (A_store (u := .agg (Slot.cs y42)) (ds := [I64 y42.Column, I64 y42.Tier, U8 y42.Half]) tf_size_80 rfl rfl rfl rfl rfl rfl rfl rfl) ?_ rfl rfl
     refine Jn (hK46 _ _ ?_)
     refine JC_freeze [(1, LS 9 Box.av boxes), (2, LS 4 Stowed.av l), (3, .dptr [LS 12 Column.av s.Columns, LS 2 Cover.av s.Covers, I64 s.Light.Kilos, I64 s.Light.X, I64 s.Light.Y, I64 s.Light.Z, LS 5 Row.av s.Rows, LS 5 Frame.av s.Frames, LS 6 Tank.av s.Tanks, I64 s.Limits.Tolerance, I64 s.Limits.Trim, I64 s.Limits.List_, I64 s.Limits.Stability]), (7, LS 3 Slot.av r7), (9, .dptr (Stowed.cs y10)), (13, .dptr (Slot.cs y42)), (20, LS 4 Stowed.av l), (21, I64 (l.length : Int)), (22, I64 (i10 : Int)), (69, LS 3 Slot.av (r7.take m25)), (70, I64 ((r7.take m25).length : Int)), (71, I64 (i42 : Int))] [] 1059 rfl rfl rfl trivial rfl (by exact ⟨.conv (.same rfl), .conv (.same rfl), .conv (.same rfl), .conv (.same rfl), .conv (.same rfl), .ptr, .conv (.same rfl), .conv (.same rfl), .conv (.same rfl), .conv (.same rfl), .conv (.same rfl), .conv (.same rfl), trivial⟩) ?_
     refine Js fun K47 hK47 => Jr ?_
     refine Jg (u := .dptr (Slot.cs y10.Slot)) (A_fieldM tf_field_82_1 rfl rfl rfl) ?_ rfl rfl rfl
     refine Jg (u := .agg (Slot.cs y10.Slot)) (A_loadAgg tf_agg_80 rfl rfl rfl) ?_ rfl rfl rfl
     refine Jg (u := .agg (Slot.cs y42)) (A_loadAgg tf_agg_80 rfl rfl rfl) ?_ rfl rfl rfl
     obtain ⟨r48, hr48, h⟩ := bnd_out h
     refine Jg (u := BL r48) (A_call1 (args := [.agg (Slot.cs y10.Slot), .agg (Slot.cs y42)]) rfl (M_slot_Meet_w y10.Slot y42 r48 hr48) tf_call_40 ⟨rfl, rfl, rfl, rfl, trivial⟩) ?_ rfl rfl rfl
     refine Jn (hK47 _ _ ?_)
     refine JC_cond rfl (fun hb => ?_) (fun hb => ?_)
     ·
      replace h := bif_t hb h
      refine Js fun K49 hK49 => Jr ?_
      refine Jg (u := BL false) (Aa rfl rfl) ?_ rfl rfl rfl
      refine Jn (hK49 _ _ ?_)
      refine JC_ret ?_
      exact ⟨[BL false], [], trivial, rfl, ⟨⟨_, rfl, .conv (.same rfl)⟩, trivial⟩, rfl, congrArg (fun r : Bool => (BL r : AV)) (Option.some.inj h)⟩
     ·
      replace h := bif_f hb h
      refine JC_skip ?_
      refine hK45 _ _ ?_
      refine Jr ?_
      refine Jg (u := I64 ((i42 + 1 : Nat) : Int)) (A_add (idx_succ hk42 hm70) rfl rfl rfl) ?_ rfl rfl rfl
      refine Jg (u := I64 ((i42 + 1 : Nat) : Int)) (Am rfl rfl) ?_ rfl rfl rfl
      refine Jn ?_
      exact e42 _ _ (i42 + 1) () (app1 hn42 h) (by omega) ⟨⟨.same rfl, .same rfl, .same rfl, .same rfl, .same rfl, .same rfl, .same rfl, .same rfl, .same rfl, .same rfl, .same rfl, trivial⟩, trivial, rfl⟩
    ·
     have h := app1 hkx42 (each_nil hi42 (not_lt_len hb))
     refine JC_exit ?_
     refine hK13 _ _ ?_
     refine Jr ?_
     refine Jg (u := I64 ((i10 + 1 : Nat) : Int)) (A_add (idx_succ hk10 hm21) rfl rfl rfl) ?_ rfl rfl rfl
     refine Jg (u := I64 ((i10 + 1 : Nat) : Int)) (Am rfl rfl) ?_ rfl rfl rfl
     refine Jn ?_
     exact e10 _ _ (i10 + 1) () (app1 hn10 h) (by omega) ⟨⟨.same rfl, .same rfl, .same rfl, .same rfl, .same rfl, .same rfl, .same rfl, trivial⟩, trivial, rfl⟩
  ·
   have h := app1 hkx10 (each_nil hi10 (not_lt_len hb))
   refine JC_exit ?_
   refine hK8 _ _ ?_
   refine Js (fun K50 hK50 => ?_)
   refine Js fun K51 hK51 => Jr ?_
   refine Jg (u := .dptr [LS 12 Column.av s.Columns, LS 2 Cover.av s.Covers, I64 s.Light.Kilos, I64 s.Light.X, I64 s.Light.Y, I64 s.Light.Z, LS 5 Row.av s.Rows, LS 5 Frame.av s.Frames, LS 6 Tank.av s.Tanks, I64 s.Limits.Tolerance, I64 s.Limits.Trim, I64 s.Limits.List_, I64 s.Limits.Stability]) (A_fieldM tf_field_35_0 rfl rfl rfl) ?_ rfl rfl rfl
   refine Jg (u := LS 12 Column.av s.Columns) (A_load tf_scalar_25 rfl rfl rfl) ?_ rfl rfl rfl
   refine JL_lenM (f := Column.av) (xs := s.Columns) tf_slice_25 rfl rfl (fun hm83 => ?_) rfl rfl rfl
   refine Jg (u := I64 0) (Am rfl rfl) ?_ rfl rfl rfl
   refine Jn (hK51 _ _ ?_)
   refine JC_block ?_
   obtain ⟨b64, kx64, hb64, hkx64, h⟩ := each_in h
   refine JC_loop2 (fun i64 (s64 : Unit) => each b64 kx64 (List.drop i64 s.Columns) i64 s64 = some r) (fun i64 s64 => [(1, LS 9 Box.av boxes), (2, LS 4 Stowed.av l), (3, .dptr [LS 12 Column.av s.Columns, LS 2 Cover.av s.Covers, I64 s.Light.Kilos, I64 s.Light.X, I64 s.Light.Y, I64 s.Light.Z, LS 5 Row.av s.Rows, LS 5 Frame.av s.Frames, LS 6 Tank.av s.Tanks, I64 s.Limits.Tolerance, I64 s.Limits.Trim, I64 s.Limits.List_, I64 s.Limits.Stability]), (83, I64 (s.Columns.length : Int)), (84, I64 (i64 : Int))]) (fun i64 s64 => []) (fun i64 => s.Columns.length - i64) 0 () h ⟨⟨.same rfl, .same rfl, .same rfl, .same rfl, .same rfl, trivial⟩, trivial, rfl⟩ ?_
   clear h
   intro i64 s64 hi64 K64 e64
   refine Js fun K65 hK65 => Jr ?_
   refine Jg (u := BL (decide ((i64 : Int) < (s.Columns.length : Int)))) (A_lss rfl rfl rfl) ?_ rfl rfl rfl
   refine Jn (hK65 _ _ ?_)
   refine Js (fun K66 hK66 => ?_)
   refine JC_cond rfl (fun hb => ?_) (fun hb => ?_)
   ·
    have hk64 := lt_len hb
    obtain ⟨y64, nx64, hy64, hn64, h⟩ := each_out hi64 hk64
    replace h := app4 hb64 h
    refine JC_skip ?_
    refine hK66 _ _ ?_
    refine Js (fun K67 hK67 => ?_)
    refine JC_block ?_
    refine Js fun K68 hK68 => Jr ?_
    refine Jg (u := I64 (i64 : Int)) (Am rfl rfl) ?_ rfl rfl rfl
    refine Jg (u := I64 (i64 : Int)) (Aa rfl rfl) ?_ rfl rfl rfl
    refine Jn (hK68 _ _ ?_)
    refine Js fun K69 hK69 => Jr ?_
    refine Jg (u := .agg [LS 12 Column.av s.Columns, LS 2 Cover.av s.Covers, I64 s.Light.Kilos, I64 s.Light.X, I64 s.Light.Y, I64 s.Light.Z, LS 5 Row.av s.Rows, LS 5 Frame.av s.Frames, LS 6 Tank.av s.Tanks, I64 s.Limits.Tolerance, I64 s.Limits.Trim, I64 s.Limits.List_, I64 s.Limits.Stability]) (A_loadAgg tf_agg_35 rfl rfl rfl) ?_ rfl rfl rfl
    refine Jg (u := LS 9 Box.av boxes) (Am rfl rfl) ?_ rfl rfl rfl
    refine Jg (u := LS 4 Stowed.av l) (Am rfl rfl) ?_ rfl rfl rfl
    refine Jg (u := I64 (i64 : Int)) (Am rfl rfl) ?_ rfl rfl rfl
    obtain ⟨r70, hr70, h⟩ := bnd_out h
    refine Jg (u := BL r70) (A_call1 (args := [.agg [LS 12 Column.av s.Columns, LS 2 Cover.av s.Covers, I64 s.Light.Kilos, I64 s.Light.X, I64 s.Light.Y, I64 s.Light.Z, LS 5 Row.av s.Rows, LS 5 Frame.av s.Frames, LS 6 Tank.av s.Tanks, I64 s.Limits.Tolerance, I64 s.Limits.Trim, I64 s.Limits.List_, I64 s.Limits.Stability], LS 9 Box.av boxes, LS 4 Stowed.av l, I64 (i64 : Int)]) rfl (M_stow_fits_w s boxes l (i64 : Int) r70 hr70) tf_call_41 ⟨rfl, rfl, rfl, rfl, rfl, rfl, rfl, rfl, trivial⟩) ?_ rfl rfl rfl
    refine Jg (u := BL (!r70)) (A_not (b := r70) rfl rfl) ?_ rfl rfl rfl
    refine Jn (hK69 _ _ ?_)
    refine JC_cond rfl (fun hb => ?_) (fun hb => ?_)
    ·
     replace h := bif_t hb h
     refine Js fun K71 hK71 => Jr ?_
     refine Jg (u := BL false) (Aa rfl rfl) ?_ rfl rfl rfl
     refine Jn (hK71 _ _ ?_)
     refine JC_ret ?_
     exact ⟨[BL false], [], trivial, rfl, ⟨⟨_, rfl, .conv (.same rfl)⟩, trivial⟩, rfl, congrArg (fun r : Bool => (BL r : AV)) (Option.some.inj h)⟩
    ·
     replace h := bif_f hb h
     refine JC_skip ?_
     refine hK67 _ _ ?_
     refine Jr ?_
     refine Jg (u := I64 ((i64 + 1 : Nat) : Int)) (A_add (idx_succ hk64 hm83) rfl rfl rfl) ?_ rfl rfl rfl
     refine Jg (u := I64 ((i64 + 1 : Nat) : Int)) (Am rfl rfl) ?_ rfl rfl rfl
     refine Jn ?_
     exact e64 _ _ (i64 + 1) () (app1 hn64 h) (by omega) ⟨⟨.same rfl, .same rfl, .same rfl, .same rfl, .same rfl, trivial⟩, trivial, rfl⟩
   ·
    have h := app1 hkx64 (each_nil hi64 (not_lt_len hb))
    refine JC_exit ?_
    refine hK50 _ _ ?_
    refine Js fun K72 hK72 => Jr ?_
    refine Jg (u := BL true) (Aa rfl rfl) ?_ rfl rfl rfl
    refine Jn (hK72 _ _ ?_)
    refine JC_ret ?_
    exact ⟨[BL true], [], trivial, rfl, ⟨⟨_, rfl, .conv (.same rfl)⟩, trivial⟩, rfl, congrArg (fun r : Bool => (BL r : AV)) (Option.some.inj h)⟩

def M_twistlocklaw23_holds (l : List Stowed) (id_ : Int) : Option Bool :=
 each (fun y18 i18 (s18 : Unit) nx18 =>
  bif decide (y18.Box = id_) then
  (some true)
  else
  (nx18 ()))
 (fun (s18 : Unit) =>
  some false) l 0 ()
theorem M_twistlocklaw23_holds_w (l : List Stowed) (id_ : Int) (r : Bool) (h : M_twistlocklaw23_holds l id_ = some r) : Pure Try.prog 11 [LS 4 Stowed.av l, I64 id_] (· = BL r) := by
 unfold M_twistlocklaw23_holds at h
 refine Pure_ofG [.tmp 4] Try.func11 rfl rfl ?_
 refine Js fun K1 hK1 => Jr ?_
 refine Jg (u := BL false) (Aa rfl rfl) ?_ rfl rfl rfl
 refine Jn (hK1 _ _ ?_)
 refine Js (fun K2 hK2 => ?_)
 refine Js fun K3 hK3 => Jr ?_
 refine Jg (u := LS 4 Stowed.av l) (Am rfl rfl) ?_ rfl rfl rfl
 refine JL_lenM (f := Stowed.av) (xs := l) tf_slice_40 rfl rfl (fun hm8 => ?_) rfl rfl rfl
 refine Jg (u := I64 0) (Am rfl rfl) ?_ rfl rfl rfl
 refine Jn (hK3 _ _ ?_)
 refine JC_block ?_
 obtain ⟨b18, kx18, hb18, hkx18, h⟩ := each_in h
 refine JC_loop2 (fun i18 (s18 : Unit) => each b18 kx18 (List.drop i18 l) i18 s18 = some r) (fun i18 s18 => [(1, I64 id_), (7, LS 4 Stowed.av l), (8, I64 (l.length : Int)), (9, I64 (i18 : Int))]) (fun i18 s18 => []) (fun i18 => l.length - i18) 0 () h ⟨⟨.same rfl, .same rfl, .same rfl, .same rfl, trivial⟩, trivial, rfl⟩ ?_
 clear h
 intro i18 s18 hi18 K18 e18
 refine Js fun K19 hK19 => Jr ?_
 refine Jg (u := BL (decide ((i18 : Int) < (l.length : Int)))) (A_lss rfl rfl rfl) ?_ rfl rfl rfl
 refine Jn (hK19 _ _ ?_)
 refine Js (fun K20 hK20 => ?_)
 refine JC_cond rfl (fun hb => ?_) (fun hb => ?_)
 ·
  have hk18 := lt_len hb
  obtain ⟨y18, nx18, hy18, hn18, h⟩ := each_out hi18 hk18
  replace h := app4 hb18 h
  refine JC_skip ?_
  refine hK20 _ _ ?_
  refine Js (fun K21 hK21 => ?_)
  refine JC_block ?_
  refine Js fun K22 hK22 => Jr ?_
  refine Jg (u := .dptr (Stowed.cs y18)) (A_indexM (f := Stowed.av) (xs := l) (y := y18) rfl rfl rfl tf_slice_40 hy18 rfl) ?_ rfl rfl rfl
  refine Jg (u := .agg (Stowed.cs y18)) (A_loadAgg tf_agg_82 rfl rfl rfl) ?_ rfl rfl rfl
  refine Jg (u := .ptr 1028 0) (A_allocJ 1028 4 tf_zsize_82 rfl rfl) ?_ rfl rfl rfl
  refine JL_go0 (u := .junk) (A_store (u := .agg (Stowed.cs y18)) (ds := [I64 y18.Box, I64 y18.Slot.Column, I64 y18.Slot.Tier, U8 y18.Slot.Half]) tf_size_82 rfl rfl rfl rfl rfl rfl rfl rfl) ?_ rfl rfl
  refine Jn (hK22 _ _ ?_)
  refine JC_freeze [(1, I64 id_), (6, .dptr (Stowed.cs y18)), (7, LS 4 Stowed.av l), (8, I64 (l.length : Int)), (9, I64 (i18 : Int))] [] 1028 rfl rfl rfl trivial rfl (by exact ⟨.conv (.same rfl), .ptr, .conv (.same rfl), .conv (.same rfl), .conv (.same rfl), trivial⟩) ?_
  refine Js fun K23 hK23 => Jr ?_
  refine Jg (u := .dptr (Stowed.cs y18)) (A_fieldM tf_field_82_0 rfl rfl rfl) ?_ rfl rfl rfl
  refine Jg (u := I64 y18.Box) (A_load tf_scalar_3 rfl rfl rfl) ?_ rfl rfl rfl
  refine Jg (u := I64 id_) (Am rfl rfl) ?_ rfl rfl rfl
  refine Jg (u := BL (decide (y18.Box = id_))) (A_eql rfl rfl rfl) ?_ rfl rfl rfl
  refine Jn (hK23 _ _ ?_)
  refine JC_cond rfl (fun hb => ?_) (fun hb => ?_)
  ·
   replace h := bif_t hb h
   refine Js fun K24 hK24 => Jr ?_
   refine Jg (u := BL true) (Aa rfl rfl) ?_ rfl rfl rfl
   refine Jn (hK24 _ _ ?_)
   refine JC_ret ?_
   exact ⟨[BL true], [], trivial, rfl, ⟨⟨_, rfl, .conv (.same rfl)⟩, trivial⟩, rfl, congrArg (fun r : Bool => (BL r : AV)) (Option.some.inj h)⟩
  ·
   replace h := bif_f hb h
   refine JC_skip ?_
   refine hK21 _ _ ?_
   refine Jr ?_
   refine Jg (u := I64 ((i18 + 1 : Nat) : Int)) (A_add (idx_succ hk18 hm8) rfl rfl rfl) ?_ rfl rfl rfl
   refine Jg (u := I64 ((i18 + 1 : Nat) : Int)) (Am rfl rfl) ?_ rfl rfl rfl
   refine Jn ?_
   exact e18 _ _ (i18 + 1) () (app1 hn18 h) (by omega) ⟨⟨.same rfl, .same rfl, .same rfl, .same rfl, trivial⟩, trivial, rfl⟩
 ·
  have h := app1 hkx18 (each_nil hi18 (not_lt_len hb))
  refine JC_exit ?_
  refine hK2 _ _ ?_
  refine Js fun K25 hK25 => Jr ?_
  refine Jg (u := BL false) (Aa rfl rfl) ?_ rfl rfl rfl
  refine Jn (hK25 _ _ ?_)
  refine JC_ret ?_
  exact ⟨[BL false], [], trivial, rfl, ⟨⟨_, rfl, .conv (.same rfl)⟩, trivial⟩, rfl, congrArg (fun r : Bool => (BL r : AV)) (Option.some.inj h)⟩

def M_slot_slots (s : Ship) (size : Int) : Option Unit :=
 some ()
theorem M_slot_slots_w (s : Ship) (size : Int) (r : Unit) (h : M_slot_slots s size = some r) : Pure Try.prog 34 [.agg [LS 12 Column.av s.Columns, LS 2 Cover.av s.Covers, I64 s.Light.Kilos, I64 s.Light.X, I64 s.Light.Y, I64 s.Light.Z, LS 5 Row.av s.Rows, LS 5 Frame.av s.Frames, LS 6 Tank.av s.Tanks, I64 s.Limits.Tolerance, I64 s.Limits.Trim, I64 s.Limits.List_, I64 s.Limits.Stability], U8 size] (· = .fn 55 [.dptr [LS 12 Column.av s.Columns, LS 2 Cover.av s.Covers, I64 s.Light.Kilos, I64 s.Light.X, I64 s.Light.Y, I64 s.Light.Z, LS 5 Row.av s.Rows, LS 5 Frame.av s.Frames, LS 6 Tank.av s.Tanks, I64 s.Limits.Tolerance, I64 s.Limits.Trim, I64 s.Limits.List_, I64 s.Limits.Stability], .dptr [U8 size]]) := by
 unfold M_slot_slots at h
 refine Pure_ofG [.tmp 4] Try.func34 rfl rfl ?_
 refine Js fun K1 hK1 => Jr ?_
 refine Jg (u := .ptr 1101 0) (A_box (u := .agg [LS 12 Column.av s.Columns, LS 2 Cover.av s.Covers, I64 s.Light.Kilos, I64 s.Light.X, I64 s.Light.Y, I64 s.Light.Z, LS 5 Row.av s.Rows, LS 5 Frame.av s.Frames, LS 6 Tank.av s.Tanks, I64 s.Limits.Tolerance, I64 s.Limits.Trim, I64 s.Limits.List_, I64 s.Limits.Stability]) (cs := [LS 12 Column.av s.Columns, LS 2 Cover.av s.Covers, I64 s.Light.Kilos, I64 s.Light.X, I64 s.Light.Y, I64 s.Light.Z, LS 5 Row.av s.Rows, LS 5 Frame.av s.Frames, LS 6 Tank.av s.Tanks, I64 s.Limits.Tolerance, I64 s.Limits.Trim, I64 s.Limits.List_, I64 s.Limits.Stability]) 1101 rfl rfl rfl rfl rfl) ?_ rfl rfl rfl
 refine Jg (u := .ptr 1102 0) (A_box (u := U8 size) (cs := [U8 size]) 1102 rfl rfl rfl rfl rfl) ?_ rfl rfl rfl
 refine Jg (u := .sc .nilFunc) (Aa rfl rfl) ?_ rfl rfl rfl
 refine Jn (hK1 _ _ ?_)
 refine JC_freeze [(2, .dptr [LS 12 Column.av s.Columns, LS 2 Cover.av s.Covers, I64 s.Light.Kilos, I64 s.Light.X, I64 s.Light.Y, I64 s.Light.Z, LS 5 Row.av s.Rows, LS 5 Frame.av s.Frames, LS 6 Tank.av s.Tanks, I64 s.Limits.Tolerance, I64 s.Limits.Trim, I64 s.Limits.List_, I64 s.Limits.Stability]), (3, .ptr 1102 0)] [(1102, .box 5 [U8 size])] 1101 rfl rfl rfl ⟨⟨_, rfl, .boxEq rfl rfl⟩, trivial⟩ rfl (by exact ⟨.ptr, .conv (.same rfl), trivial⟩) ?_
 refine JC_freeze [(2, .dptr [LS 12 Column.av s.Columns, LS 2 Cover.av s.Covers, I64 s.Light.Kilos, I64 s.Light.X, I64 s.Light.Y, I64 s.Light.Z, LS 5 Row.av s.Rows, LS 5 Frame.av s.Frames, LS 6 Tank.av s.Tanks, I64 s.Limits.Tolerance, I64 s.Limits.Trim, I64 s.Limits.List_, I64 s.Limits.Stability]), (3, .dptr [U8 size])] [] 1102 rfl rfl rfl trivial rfl (by exact ⟨.conv (.same rfl), .ptr, trivial⟩) ?_
 refine Js fun K2 hK2 => Jr ?_
 refine Jg (u := .fn 55 [.dptr [LS 12 Column.av s.Columns, LS 2 Cover.av s.Covers, I64 s.Light.Kilos, I64 s.Light.X, I64 s.Light.Y, I64 s.Light.Z, LS 5 Row.av s.Rows, LS 5 Frame.av s.Frames, LS 6 Tank.av s.Tanks, I64 s.Limits.Tolerance, I64 s.Limits.Trim, I64 s.Limits.List_, I64 s.Limits.Stability], .dptr [U8 size]]) (A_makeFunc (cs := [.dptr [LS 12 Column.av s.Columns, LS 2 Cover.av s.Covers, I64 s.Light.Kilos, I64 s.Light.X, I64 s.Light.Y, I64 s.Light.Z, LS 5 Row.av s.Rows, LS 5 Frame.av s.Frames, LS 6 Tank.av s.Tanks, I64 s.Limits.Tolerance, I64 s.Limits.Trim, I64 s.Limits.List_, I64 s.Limits.Stability], .dptr [U8 size]]) rfl rfl) ?_ rfl rfl rfl
 refine Jg (u := .fn 55 [.dptr [LS 12 Column.av s.Columns, LS 2 Cover.av s.Covers, I64 s.Light.Kilos, I64 s.Light.X, I64 s.Light.Y, I64 s.Light.Z, LS 5 Row.av s.Rows, LS 5 Frame.av s.Frames, LS 6 Tank.av s.Tanks, I64 s.Limits.Tolerance, I64 s.Limits.Trim, I64 s.Limits.List_, I64 s.Limits.Stability], .dptr [U8 size]]) (Aa rfl rfl) ?_ rfl rfl rfl
 refine Jn (hK2 _ _ ?_)
 refine JC_ret ?_
 exact ⟨[.fn 55 [.dptr [LS 12 Column.av s.Columns, LS 2 Cover.av s.Covers, I64 s.Light.Kilos, I64 s.Light.X, I64 s.Light.Y, I64 s.Light.Z, LS 5 Row.av s.Rows, LS 5 Frame.av s.Frames, LS 6 Tank.av s.Tanks, I64 s.Limits.Tolerance, I64 s.Limits.Trim, I64 s.Limits.List_, I64 s.Limits.Stability], .dptr [U8 size]]], [], trivial, rfl, ⟨⟨_, rfl, .conv (.same rfl)⟩, trivial⟩, rfl, congrArg (fun _ : Unit => (.fn 55 [.dptr [LS 12 Column.av s.Columns, LS 2 Cover.av s.Covers, I64 s.Light.Kilos, I64 s.Light.X, I64 s.Light.Y, I64 s.Light.Z, LS 5 Row.av s.Rows, LS 5 Frame.av s.Frames, LS 6 Tank.av s.Tanks, I64 s.Limits.Tolerance, I64 s.Limits.Trim, I64 s.Limits.List_, I64 s.Limits.Stability], .dptr [U8 size]] : AV)) (Option.some.inj h)⟩
end
end Go.Proofs.Ytbpgdkibmejibaa
