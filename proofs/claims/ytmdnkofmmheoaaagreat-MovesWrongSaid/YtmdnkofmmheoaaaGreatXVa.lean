/-
 Models of functions of the program, and that they return what the models say.
-/
import Derived.Test.YtmdnkofmmheoaaaGreatProg
import Derived.Test.YtmdnkofmmheoaaaGreatSortM
import Derived.Test.YtmdnkofmmheoaaaGreatSortLay
import Derived.Test.YtmdnkofmmheoaaaGreatRel
import Derived.Test.YtmdnkofmmheoaaaGreatLit0
import Derived.Test.YtmdnkofmmheoaaaGreatXA
import Derived.Test.YtmdnkofmmheoaaaGreatSpecA
import Derived.Test.YtmdnkofmmheoaaaGreatSpecI
set_option maxRecDepth 100000
set_option linter.unusedVariables false
set_option linter.unusedSimpArgs false
namespace Go.Proofs.YtmdnkofmmheoaaaGreat
open Go.RowKit
noncomputable section
structure G3 where
 Box : Int
 Slot : Slot
 deriving DecidableEq, Inhabited
def G3.cs (x : G3) : List AV := [G0 x.Box, G0 x.Slot.G5, G0 x.Slot.Tier, U8 x.Slot.Half]
def G3.av (x : G3) : AV := .agg x.cs
structure Box where
 ID : Int
 Number : ByteArray
 Size : Int
 High : Bool
 Kilos : Int
 Load : Int
 Discharge : Int
 Class : Int
 Reefer : Bool
 deriving DecidableEq, Inhabited
def Box.cs (x : Box) : List AV := [G0 x.ID, ST x.Number, U8 x.Size, BL x.High, G0 x.Kilos, G0 x.Load, G0 x.Discharge, U8 x.Class, BL x.Reefer]
def Box.av (x : Box) : AV := .agg x.cs
structure law23_Item where
 G5 : Int
 Kilos : Int
 Load : Int
 Stay : Int
 Small : Bool
 High : Bool
 deriving DecidableEq, Inhabited
def law23_Item.cs (x : law23_Item) : List AV := [U8 x.G5, U8 x.Kilos, U8 x.Load, U8 x.Stay, BL x.Small, BL x.High]
def law23_Item.av (x : law23_Item) : AV := .agg x.cs
structure Plan where
 States : List (List G3)
 Water : List (List Int)
 deriving DecidableEq, Inhabited
def Plan.cs (x : Plan) : List AV := [LS 1 (LS 4 G3.av) x.States, LS 1 (LS 1 G0) x.Water]
def Plan.av (x : Plan) : AV := .agg x.cs
structure law07_Place where
 Bay : Int
 Row : Int
 Tiers : Int
 Deck : Bool
 deriving DecidableEq, Inhabited
def law07_Place.cs (x : law07_Place) : List AV := [U8 x.Bay, U8 x.Row, U8 x.Tiers, BL x.Deck]
def law07_Place.av (x : law07_Place) : AV := .agg x.cs
namespace XVF
open XAF
theorem tq_51 (a b : Slot) : eqAt Tryz.prog 4 51 [.int .i64 a.G5, .int .i64 a.Tier, .int .u8 a.Half] [.int .i64 b.G5, .int .i64 b.Tier, .int .u8 b.Half] = some (decide (a = b)) := by
 refine (show _ = some ((a.G5 == b.G5) && ((a.Tier == b.Tier) && ((a.Half == b.Half) && true))) by kernel_rfl).trans (congrArg some ?_)
 rw [Bool.eq_iff_iff]
 simp only [Bool.and_eq_true, beq_iff_eq, decide_eq_true_eq, Bool.and_true]
 constructor
 ·intro h; obtain ⟨_, _, _⟩ := a; obtain ⟨_, _, _⟩ := b; simp_all
 ·intro h; subst h; simp
theorem H5 : aggB Tryz.prog 35 13 = true := by kernel_rfl
theorem tf_agg_41 : aggB Tryz.prog 41 2 = true := by kernel_rfl
theorem Hr : aggB Tryz.prog 51 3 = true := by kernel_rfl
theorem Hp : aggB Tryz.prog 68 4 = true := by kernel_rfl
theorem tf_agg_74 : aggB Tryz.prog 74 4 = true := by kernel_rfl
theorem tf_agg_79 : aggB Tryz.prog 79 6 = true := by kernel_rfl
theorem Q1 : aggB Tryz.prog 81 9 = true := by kernel_rfl
theorem tf_aggof_51 : aggOf Tryz.prog 51 = true := by kernel_rfl
theorem tf_bool_4 : boolB Tryz.prog 4 = true := by kernel_rfl
theorem tf_call_100 : callB Tryz.prog 100 = true := by kernel_rfl
theorem tf_call_106 : callB Tryz.prog 106 = true := by kernel_rfl
theorem tf_call_107 : callB Tryz.prog 107 = true := by kernel_rfl
theorem tf_call_12 : callB Tryz.prog 12 = true := by kernel_rfl
theorem tf_call_13 : callB Tryz.prog 13 = true := by kernel_rfl
theorem tf_call_15 : callB Tryz.prog 15 = true := by kernel_rfl
theorem tf_call_25 : callB Tryz.prog 25 = true := by kernel_rfl
theorem tf_call_26 : callB Tryz.prog 26 = true := by kernel_rfl
theorem tf_call_27 : callB Tryz.prog 27 = true := by kernel_rfl
theorem tf_call_28 : callB Tryz.prog 28 = true := by kernel_rfl
theorem tf_call_29 : callB Tryz.prog 29 = true := by kernel_rfl
theorem tf_call_30 : callB Tryz.prog 30 = true := by kernel_rfl
theorem tf_call_39 : callB Tryz.prog 39 = true := by kernel_rfl
theorem tf_call_45 : callB Tryz.prog 45 = true := by kernel_rfl
theorem tf_call_46 : callB Tryz.prog 46 = true := by kernel_rfl
theorem tf_call_47 : callB Tryz.prog 47 = true := by kernel_rfl
theorem tf_call_48 : callB Tryz.prog 48 = true := by kernel_rfl
theorem tf_call_49 : callB Tryz.prog 49 = true := by kernel_rfl
theorem tf_call_50 : callB Tryz.prog 50 = true := by kernel_rfl
theorem tf_call_51 : callB Tryz.prog 51 = true := by kernel_rfl
theorem tf_call_55 : callB Tryz.prog 55 = true := by kernel_rfl
theorem tf_call_56 : callB Tryz.prog 56 = true := by kernel_rfl
theorem tf_call_57 : callB Tryz.prog 57 = true := by kernel_rfl
theorem tf_call_58 : callB Tryz.prog 58 = true := by kernel_rfl
theorem tf_call_59 : callB Tryz.prog 59 = true := by kernel_rfl
theorem tf_call_60 : callB Tryz.prog 60 = true := by kernel_rfl
theorem tf_call_68 : callB Tryz.prog 68 = true := by kernel_rfl
theorem tf_call_69 : callB Tryz.prog 69 = true := by kernel_rfl
theorem tf_call_70 : callB Tryz.prog 70 = true := by kernel_rfl
theorem tf_call_72 : callB Tryz.prog 72 = true := by kernel_rfl
theorem tf_call_73 : callB Tryz.prog 73 = true := by kernel_rfl
theorem tf_call_74 : callB Tryz.prog 74 = true := by kernel_rfl
theorem tf_call_75 : callB Tryz.prog 75 = true := by kernel_rfl
theorem tf_call_76 : callB Tryz.prog 76 = true := by kernel_rfl
theorem tf_call_87 : callB Tryz.prog 87 = true := by kernel_rfl
theorem tf_call_88 : callB Tryz.prog 88 = true := by kernel_rfl
theorem tf_call_89 : callB Tryz.prog 89 = true := by kernel_rfl
theorem tf_call_90 : callB Tryz.prog 90 = true := by kernel_rfl
theorem tf_call_91 : callB Tryz.prog 91 = true := by kernel_rfl
theorem tf_call_98 : callB Tryz.prog 98 = true := by kernel_rfl
theorem tf_call_99 : callB Tryz.prog 99 = true := by kernel_rfl
theorem tf_elem_3 : elemB Tryz.prog 3 1 8 = true := by kernel_rfl
theorem tf_elem_51 : elemB Tryz.prog 51 3 24 = true := by kernel_rfl
theorem tf_elem_56 : elemB Tryz.prog 56 12 112 = true := by kernel_rfl
theorem tf_elem_58 : elemB Tryz.prog 58 2 32 = true := by kernel_rfl
theorem tf_elem_68 : elemB Tryz.prog 68 4 32 = true := by kernel_rfl
theorem tf_elem_69 : elemB Tryz.prog 69 1 24 = true := by kernel_rfl
theorem tf_elem_81 : elemB Tryz.prog 81 9 64 = true := by kernel_rfl
theorem tf_eqg_51 : Tryz.prog.eqGuardType Tryz.prog.depth 51 = false := by kernel_rfl
theorem tf_field_41_0 : fieldB Tryz.prog 41 0 0 = true := by kernel_rfl
theorem Hh : fieldB Tryz.prog 51 0 0 = true := by kernel_rfl
theorem Hz : fieldB Tryz.prog 51 1 1 = true := by kernel_rfl
theorem Jg : fieldB Tryz.prog 51 2 2 = true := by kernel_rfl
theorem Hn : fieldB Tryz.prog 68 0 0 = true := by kernel_rfl
theorem Hg : fieldB Tryz.prog 68 1 1 = true := by kernel_rfl
theorem tf_field_74_0 : fieldB Tryz.prog 74 0 0 = true := by kernel_rfl
theorem tf_field_74_1 : fieldB Tryz.prog 74 1 1 = true := by kernel_rfl
theorem tf_field_74_2 : fieldB Tryz.prog 74 2 2 = true := by kernel_rfl
theorem tf_field_74_3 : fieldB Tryz.prog 74 3 3 = true := by kernel_rfl
theorem tf_field_79_0 : fieldB Tryz.prog 79 0 0 = true := by kernel_rfl
theorem tf_field_79_1 : fieldB Tryz.prog 79 1 1 = true := by kernel_rfl
theorem tf_field_79_2 : fieldB Tryz.prog 79 2 2 = true := by kernel_rfl
theorem tf_field_79_3 : fieldB Tryz.prog 79 3 3 = true := by kernel_rfl
theorem tf_field_79_4 : fieldB Tryz.prog 79 4 4 = true := by kernel_rfl
theorem tf_field_79_5 : fieldB Tryz.prog 79 5 5 = true := by kernel_rfl
theorem J4 : fieldB Tryz.prog 81 0 0 = true := by kernel_rfl
theorem tf_field_81_2 : fieldB Tryz.prog 81 2 2 = true := by kernel_rfl
theorem tf_field_81_3 : fieldB Tryz.prog 81 3 3 = true := by kernel_rfl
theorem tf_field_81_5 : fieldB Tryz.prog 81 5 5 = true := by kernel_rfl
theorem tf_field_81_6 : fieldB Tryz.prog 81 6 6 = true := by kernel_rfl
theorem Jy : intB Tryz.prog 3 .i64 = true := by kernel_rfl
theorem Q7 : intB Tryz.prog 5 .u8 = true := by kernel_rfl
theorem tf_map_100 : mapB Tryz.prog 100 3 51 = true := by kernel_rfl
theorem tf_map_140 : mapB Tryz.prog 140 3 171 = true := by kernel_rfl
theorem tf_map_77 : mapB Tryz.prog 77 3 3 = true := by kernel_rfl
theorem tf_places_171 : placesOf Tryz.prog 171 = some [] := by kernel_rfl
theorem tf_places_41 : placesOf Tryz.prog 41 = some [(0, 1), (1, 1)] := by kernel_rfl
theorem tf_places_56 : placesOf Tryz.prog 56 = some [(0, 1), (1, 1), (2, 1), (3, 1), (4, 1), (5, 1), (6, 1), (7, 1), (8, 1), (9, 1), (10, 1), (11, 1)] := by kernel_rfl
theorem tf_places_58 : placesOf Tryz.prog 58 = some [(0, 1), (1, 1)] := by kernel_rfl
theorem tf_places_68 : placesOf Tryz.prog 68 = some [(0, 1), (1, 3)] := by kernel_rfl
theorem tf_places_81 : placesOf Tryz.prog 81 = some [(0, 1), (1, 1), (2, 1), (3, 1), (4, 1), (5, 1), (6, 1), (7, 1), (8, 1)] := by kernel_rfl
theorem tf_scalar_105 : scalarB Tryz.prog 105 = true := by kernel_rfl
theorem tf_scalar_140 : scalarB Tryz.prog 140 = true := by kernel_rfl
theorem tf_scalar_141 : scalarB Tryz.prog 141 = true := by kernel_rfl
theorem Q6 : scalarB Tryz.prog 38 = true := by kernel_rfl
theorem tf_scalar_69 : scalarB Tryz.prog 69 = true := by kernel_rfl
theorem tf_size_105 : sizeB Tryz.prog 105 1 = true := by kernel_rfl
theorem tf_size_140 : sizeB Tryz.prog 140 1 = true := by kernel_rfl
theorem tf_size_141 : sizeB Tryz.prog 141 1 = true := by kernel_rfl
theorem tf_size_171 : sizeB Tryz.prog 171 0 = true := by kernel_rfl
theorem tf_size_25 : sizeB Tryz.prog 25 1 = true := by kernel_rfl
theorem tf_size_26 : sizeB Tryz.prog 26 1 = true := by kernel_rfl
theorem Jh : sizeB Tryz.prog 3 1 = true := by kernel_rfl
theorem tf_size_35 : sizeB Tryz.prog 35 13 = true := by kernel_rfl
theorem tf_size_38 : sizeB Tryz.prog 38 1 = true := by kernel_rfl
theorem tf_size_4 : sizeB Tryz.prog 4 1 = true := by kernel_rfl
theorem tf_size_41 : sizeB Tryz.prog 41 2 = true := by kernel_rfl
theorem tf_size_5 : sizeB Tryz.prog 5 1 = true := by kernel_rfl
theorem tf_size_51 : sizeB Tryz.prog 51 3 = true := by kernel_rfl
theorem tf_size_54 : sizeB Tryz.prog 54 1 = true := by kernel_rfl
theorem J3 : sizeB Tryz.prog 68 4 = true := by kernel_rfl
theorem tf_size_74 : sizeB Tryz.prog 74 4 = true := by kernel_rfl
theorem tf_size_79 : sizeB Tryz.prog 79 6 = true := by kernel_rfl
theorem tf_size_81 : sizeB Tryz.prog 81 9 = true := by kernel_rfl
theorem Jj : sliceB Tryz.prog 105 51 3 = true := by kernel_rfl
theorem tf_slice_22 : sliceB Tryz.prog 22 74 4 = true := by kernel_rfl
theorem tf_slice_24 : sliceB Tryz.prog 24 79 6 = true := by kernel_rfl
theorem Hv : sliceB Tryz.prog 37 81 9 = true := by kernel_rfl
theorem Hu : sliceB Tryz.prog 38 69 1 = true := by kernel_rfl
theorem Gs : sliceB Tryz.prog 69 68 4 = true := by kernel_rfl
theorem tf_zero_105 : (Tryz.prog.info? 105).bind (fun i => i.zero.map Value.cells) = some (List.toArray [.slice none 0 0]) := by kernel_rfl
theorem tf_zero_171 : (Tryz.prog.info? 171).bind (fun i => i.zero.map Value.cells) = some (List.toArray []) := by kernel_rfl
theorem tf_zero_35 : (Tryz.prog.info? 35).bind (fun i => i.zero.map Value.cells) = some (List.toArray [.slice none 0 0, .slice none 0 0, .int .i64 0, .int .i64 0, .int .i64 0, .int .i64 0, .slice none 0 0, .slice none 0 0, .slice none 0 0, .int .i64 0, .int .i64 0, .int .i64 0, .int .i64 0]) := by kernel_rfl
theorem tf_zero_41 : (Tryz.prog.info? 41).bind (fun i => i.zero.map Value.cells) = some (List.toArray [.slice none 0 0, .slice none 0 0]) := by kernel_rfl
theorem tf_zero_54 : (Tryz.prog.info? 54).bind (fun i => i.zero.map Value.cells) = some (List.toArray [.slice none 0 0]) := by kernel_rfl
theorem tf_zero_56 : (Tryz.prog.info? 56).bind (fun i => i.zero.map Value.cells) = some (List.toArray [.int .i64 0, .int .i64 0, .bool false, .int .i64 0, .int .i64 0, .int .i64 0, .int .i64 0, .int .i64 0, .slice none 0 0, .int .i64 0, .int .i64 0, .int .i64 0]) := by kernel_rfl
theorem tf_zero_58 : (Tryz.prog.info? 58).bind (fun i => i.zero.map Value.cells) = some (List.toArray [.int .i64 0, .slice none 0 0]) := by kernel_rfl
theorem tf_zero_68 : (Tryz.prog.info? 68).bind (fun i => i.zero.map Value.cells) = some (List.toArray [.int .i64 0, .int .i64 0, .int .i64 0, .int .u8 0]) := by kernel_rfl
theorem tf_zero_69 : (Tryz.prog.info? 69).bind (fun i => i.zero.map Value.cells) = some (List.toArray [.slice none 0 0]) := by kernel_rfl
theorem tf_zero_81 : (Tryz.prog.info? 81).bind (fun i => i.zero.map Value.cells) = some (List.toArray [.int .i64 0, .string ByteArray.empty, .int .u8 0, .bool false, .int .i64 0, .int .i64 0, .int .i64 0, .int .u8 0, .bool false]) := by kernel_rfl
theorem tf_zsize_140 : zsizeB Tryz.prog 140 1 = true := by kernel_rfl
theorem tf_zsize_141 : zsizeB Tryz.prog 141 1 = true := by kernel_rfl
theorem tf_zsize_171 : zsizeB Tryz.prog 171 0 = true := by kernel_rfl
theorem Jr : zsizeB Tryz.prog 3 1 = true := by kernel_rfl
theorem tf_zsize_38 : zsizeB Tryz.prog 38 1 = true := by kernel_rfl
theorem tf_zsize_41 : zsizeB Tryz.prog 41 2 = true := by kernel_rfl
theorem Q5 : zsizeB Tryz.prog 51 3 = true := by kernel_rfl
theorem Hk : zsizeB Tryz.prog 68 4 = true := by kernel_rfl
theorem tf_zsize_69 : zsizeB Tryz.prog 69 1 = true := by kernel_rfl
theorem tf_zsize_74 : zsizeB Tryz.prog 74 4 = true := by kernel_rfl
theorem tf_zsize_79 : zsizeB Tryz.prog 79 6 = true := by kernel_rfl
theorem Jo : zsizeB Tryz.prog 81 9 = true := by kernel_rfl
theorem tf_zv_171 : (Tryz.prog.info? 171).bind (·.zero) = some (.agg #[]) := by kernel_rfl
theorem tf_zv_51 : (Tryz.prog.info? 51).bind (·.zero) = some (.agg #[.int .i64 0, .int .i64 0, .int .u8 0]) := by kernel_rfl
theorem tk_3 : KeyL Tryz.prog 3 (fun n : Int => Value.int .i64 n) := KeyL.of_int (by kernel_rfl)
end XVF
open XAF
open XVF

def M_twistlocklaw23_with (l : List G3) (x : G3) : Option (List G3) :=
 each (fun y19 i19 (s19 : (List G3)) nx19 =>
  jp (fun kj22 =>
   bif decide (y19.Box < x.Box) then
   (need (decide ((s19.length + [y19].length) * 32 ≤ 140737488355328 ∧ s19.length + [y19].length ≤ maxLen)) <|
    kj22 (s19 ++ [y19]))
   else
   (kj22 s19)) fun (j22 : (List G3)) =>
  nx19 j22)
 (fun (s19 : (List G3)) =>
  need (decide ((s19.length + [x].length) * 32 ≤ 140737488355328 ∧ s19.length + [x].length ≤ maxLen)) <|
  each (fun y44 i44 (s44 : (List G3)) nx44 =>
   jp (fun kj47 =>
    bif decide (x.Box < y44.Box) then
    (need (decide ((s44.length + [y44].length) * 32 ≤ 140737488355328 ∧ s44.length + [y44].length ≤ maxLen)) <|
     kj47 (s44 ++ [y44]))
    else
    (kj47 s44)) fun (j47 : (List G3)) =>
   nx44 j47)
  (fun (s44 : (List G3)) =>
   some s44) l 0 (s19 ++ [x])) l 0 []
theorem M_twistlocklaw23_with_w (l : List G3) (x : G3) (r : (List G3)) (h : M_twistlocklaw23_with l x = some r) : Pure Tryz.prog 27 [LS 4 G3.av l, .agg (G3.cs x)] (· = LS 4 G3.av r) := by
 unfold M_twistlocklaw23_with at h
 refine Gx [.tmp 4] Tryz.func27 O O ?_
 refine G6 fun K1 hK1 => G2 ?_
 refine JLg (.ptr 1074 0) (J1 (u := .agg (G3.cs x)) (cs := [G0 x.Box, G0 x.Slot.G5, G0 x.Slot.Tier, U8 x.Slot.Half]) 1074 O O O O O) ?_
 refine JLg (LS 4 G3.av ([] : List G3)) (Hw 4 O O) ?_
 refine G8 (hK1 _ _ ?_)
 refine Gm [(0, LS 4 G3.av l), (3, .dptr (G3.cs x))] [] 1074 rfl rfl rfl trivial rfl (by exact ⟨.conv (.same rfl), .ptr, trivial⟩) ?_
 refine G6 fun K2 hK2 => G2 ?_
 refine JLg (OW 1075 4 G3.av ([] : List G3)) (A_nilOwn 1075 68 4 O O O) ?_
 refine G8 (hK2 _ _ ?_)
 refine G6 (fun K3 hK3 => ?_)
 refine G6 fun K4 hK4 => G2 ?_
 refine JLg (LS 4 G3.av l) (G7 O O) ?_
 refine H9 (f := G3.av) (xs := l) Gs O O (fun hm11 => ?_) O O O
 refine JLg (G0 0) (G7 O O) ?_
 refine G8 (hK4 _ _ ?_)
 refine Gi ?_
 obtain ⟨b19, kx19, hb19, hkx19, h⟩ := Hi h
 refine Gz (fun i19 (s19 : (List G3)) => each b19 kx19 (List.drop i19 l) i19 s19 = some r) (fun i19 s19 => [(0, LS 4 G3.av l), (3, .dptr (G3.cs x)), (5, OW 1075 4 G3.av s19), (10, LS 4 G3.av l), (11, G0 (l.length : Int)), (12, G0 (i19 : Int))]) (fun i19 s19 => [(1075, .spare 68 4 s19.length s19.length)]) (fun i19 => l.length - i19) 0 [] h ⟨(by repeat' constructor), ⟨⟨_, rfl, .same⟩, trivial⟩, rfl⟩ ?_
 clear h
 intro i19 s19 hi19 K19 e19
 refine G6 fun K20 hK20 => G2 ?_
 refine JLg (BL (decide ((i19 : Int) < (l.length : Int)))) (He O O O) ?_
 refine G8 (hK20 _ _ ?_)
 refine G6 (fun K21 hK21 => ?_)
 refine Gh O (fun hb => ?_) (fun hb => ?_)
 ·
  have hk19 := lt_len hb
  obtain ⟨y19, nx19, hy19, hn19, h⟩ := Ha hi19 hk19
  replace h := app4 hb19 h
  refine Gj ?_
  refine hK21 _ _ ?_
  obtain ⟨kj22, hkj22, h⟩ := J6 h
  refine Hs (fun j22 : (List G3) => kj22 j22 = some r) (fun j22 => [(0, LS 4 G3.av l), (3, .dptr (G3.cs x)), (5, OW 1075 4 G3.av j22), (10, LS 4 G3.av l), (11, G0 (l.length : Int)), (12, G0 (i19 : Int))]) (fun j22 => [(1075, .spare 68 4 j22.length j22.length)]) (fun Kj22 ej22 => ?_) ?_
  ·
   refine Gi ?_
   refine G6 fun K23 hK23 => G2 ?_
   refine JLg (.dptr (G3.cs y19)) (Gw (f := G3.av) (xs := l) (y := y19) O O O Gs hy19 O) ?_
   refine JLg (.agg (G3.cs y19)) (Gg Hp O O O) ?_
   refine JLg (.ptr 1076 0) (H2 1076 4 Hk O O) ?_
   refine H1 (u := .junk) (Gt (u := .agg (G3.cs y19)) (ds := [G0 y19.Box, G0 y19.Slot.G5, G0 y19.Slot.Tier, U8 y19.Slot.Half]) J3 O O O O O O O O) ?_
   refine G8 (hK23 _ _ ?_)
   refine Gm [(0, LS 4 G3.av l), (3, .dptr (G3.cs x)), (5, OW 1075 4 G3.av s19), (7, .dptr (G3.cs y19)), (10, LS 4 G3.av l), (11, G0 (l.length : Int)), (12, G0 (i19 : Int))] [(1075, .spare 68 4 s19.length s19.length)] 1076 rfl rfl rfl ⟨⟨_, rfl, .same⟩, trivial⟩ rfl (by repeat' (first | exact .ptr | constructor)) ?_
   refine G6 fun K24 hK24 => G2 ?_
   refine JLg (.dptr (G3.cs y19)) (Gb Hn O O O) ?_
   refine JLg (G0 y19.Box) (Gf Ga O O O) ?_
   refine JLg (.dptr (G3.cs x)) (Gb Hn O O O) ?_
   refine JLg (G0 x.Box) (Gf Ga O O O) ?_
   refine JLg (BL (decide (y19.Box < x.Box))) (He O O O) ?_
   refine G8 (hK24 _ _ ?_)
   refine Gh O (fun hb => ?_) (fun hb => ?_)
   ·
    replace h := bif_t hb h
    refine G2 ?_
    refine JLg (OW 1075 4 G3.av s19) (G7 O O) ?_
    refine JLg (.agg (G3.cs y19)) (Gg Hp O O O) ?_
    refine JLg (LS 4 G3.av [y19]) (Gu (xs := [.agg (G3.cs y19)]) O ⟨O, O, trivial⟩ Gs Hk O O O O) ?_
    obtain ⟨ha25, h⟩ := Hq h
    refine JLg (OW 1075 4 G3.av (s19 ++ [y19])) (Jd (f := G3.av) (xs := s19) (ys := [y19]) O O O O Gs tf_elem_68 ha25 (fun _ => O) (.inl O) O) ?_
    refine JLg (OW 1075 4 G3.av (s19 ++ [y19])) (G9 O O) ?_
    refine G8 ?_
    exact ej22 _ _ (s19 ++ [y19]) h ⟨(by repeat' constructor), ⟨⟨_, rfl, .same⟩, trivial⟩, rfl⟩
   ·
    replace h := bif_f hb h
    refine Gj ?_
    exact ej22 _ _ s19 h ⟨(by repeat' constructor), ⟨⟨_, rfl, .same⟩, trivial⟩, rfl⟩
  ·intro j22 h
   replace h := app1 hkj22 h
   refine G2 ?_
   refine JLg (G0 ((i19 + 1 : Nat) : Int)) (Hd (idx_succ hk19 hm11) O O O) ?_
   refine JLg (G0 ((i19 + 1 : Nat) : Int)) (G7 O O) ?_
   refine G8 ?_
   exact e19 _ _ (i19 + 1) j22 (app1 hn19 h) (by omega) ⟨(by repeat' constructor), ⟨⟨_, rfl, .same⟩, trivial⟩, rfl⟩
 ·
  have h := app1 hkx19 (Hb hi19 (Gy hb))
  refine H4 ?_
  refine hK3 _ _ ?_
  refine G6 fun K26 hK26 => G2 ?_
  refine JLg (OW 1075 4 G3.av s19) (G7 O O) ?_
  refine JLg (.agg (G3.cs x)) (Gg Hp O O O) ?_
  refine JLg (LS 4 G3.av [x]) (Gu (xs := [.agg (G3.cs x)]) O ⟨O, O, trivial⟩ Gs Hk O O O O) ?_
  obtain ⟨ha27, h⟩ := Hq h
  refine JLg (OW 1075 4 G3.av (s19 ++ [x])) (Jd (f := G3.av) (xs := s19) (ys := [x]) O O O O Gs tf_elem_68 ha27 (fun _ => O) (.inl O) O) ?_
  refine JLg (OW 1075 4 G3.av (s19 ++ [x])) (G9 O O) ?_
  refine G8 (hK26 _ _ ?_)
  refine G6 (fun K28 hK28 => ?_)
  refine G6 fun K29 hK29 => G2 ?_
  refine JLg (LS 4 G3.av l) (G7 O O) ?_
  refine H9 (f := G3.av) (xs := l) Gs O O (fun hm31 => ?_) O O O
  refine JLg (G0 0) (G7 O O) ?_
  refine G8 (hK29 _ _ ?_)
  refine Gi ?_
  obtain ⟨b44, kx44, hb44, hkx44, h⟩ := Hi h
  refine Gz (fun i44 (s44 : (List G3)) => each b44 kx44 (List.drop i44 l) i44 s44 = some r) (fun i44 s44 => [(3, .dptr (G3.cs x)), (5, OW 1075 4 G3.av s44), (30, LS 4 G3.av l), (31, G0 (l.length : Int)), (32, G0 (i44 : Int))]) (fun i44 s44 => [(1075, .spare 68 4 s44.length s44.length)]) (fun i44 => l.length - i44) 0 (s19 ++ [x]) h ⟨(by repeat' constructor), ⟨⟨_, rfl, .same⟩, trivial⟩, rfl⟩ ?_
  clear h
  intro i44 s44 hi44 K44 e44
  refine G6 fun K45 hK45 => G2 ?_
  refine JLg (BL (decide ((i44 : Int) < (l.length : Int)))) (He O O O) ?_
  refine G8 (hK45 _ _ ?_)
  refine G6 (fun K46 hK46 => ?_)
  refine Gh O (fun hb => ?_) (fun hb => ?_)
  ·
   have hk44 := lt_len hb
   obtain ⟨y44, nx44, hy44, hn44, h⟩ := Ha hi44 hk44
   replace h := app4 hb44 h
   refine Gj ?_
   refine hK46 _ _ ?_
   obtain ⟨kj47, hkj47, h⟩ := J6 h
   refine Hs (fun j47 : (List G3) => kj47 j47 = some r) (fun j47 => [(3, .dptr (G3.cs x)), (5, OW 1075 4 G3.av j47), (30, LS 4 G3.av l), (31, G0 (l.length : Int)), (32, G0 (i44 : Int))]) (fun j47 => [(1075, .spare 68 4 j47.length j47.length)]) (fun Kj47 ej47 => ?_) ?_
   ·
    refine Gi ?_
    refine G6 fun K48 hK48 => G2 ?_
    refine JLg (.dptr (G3.cs y44)) (Gw (f := G3.av) (xs := l) (y := y44) O O O Gs hy44 O) ?_
    refine JLg (.agg (G3.cs y44)) (Gg Hp O O O) ?_
    refine JLg (.ptr 1077 0) (H2 1077 4 Hk O O) ?_
    refine H1 (u := .junk) (Gt (u := .agg (G3.cs y44)) (ds := [G0 y44.Box, G0 y44.Slot.G5, G0 y44.Slot.Tier, U8 y44.Slot.Half]) J3 O O O O O O O O) ?_
    refine G8 (hK48 _ _ ?_)
    refine Gm [(3, .dptr (G3.cs x)), (5, OW 1075 4 G3.av s44), (9, .dptr (G3.cs y44)), (30, LS 4 G3.av l), (31, G0 (l.length : Int)), (32, G0 (i44 : Int))] [(1075, .spare 68 4 s44.length s44.length)] 1077 rfl rfl rfl ⟨⟨_, rfl, .same⟩, trivial⟩ rfl (by repeat' (first | exact .ptr | constructor)) ?_
    refine G6 fun K49 hK49 => G2 ?_
    refine JLg (.dptr (G3.cs y44)) (Gb Hn O O O) ?_
    refine JLg (G0 y44.Box) (Gf Ga O O O) ?_
    refine JLg (.dptr (G3.cs x)) (Gb Hn O O O) ?_
    refine JLg (G0 x.Box) (Gf Ga O O O) ?_
    refine JLg (BL (decide (x.Box < y44.Box))) (A_gtr O O O) ?_
    refine G8 (hK49 _ _ ?_)
    refine Gh O (fun hb => ?_) (fun hb => ?_)
    ·
     replace h := bif_t hb h
     refine G2 ?_
     refine JLg (OW 1075 4 G3.av s44) (G7 O O) ?_
     refine JLg (.agg (G3.cs y44)) (Gg Hp O O O) ?_
     refine JLg (LS 4 G3.av [y44]) (Gu (xs := [.agg (G3.cs y44)]) O ⟨O, O, trivial⟩ Gs Hk O O O O) ?_
     obtain ⟨ha50, h⟩ := Hq h
     refine JLg (OW 1075 4 G3.av (s44 ++ [y44])) (Jd (f := G3.av) (xs := s44) (ys := [y44]) O O O O Gs tf_elem_68 ha50 (fun _ => O) (.inl O) O) ?_
     refine JLg (OW 1075 4 G3.av (s44 ++ [y44])) (G9 O O) ?_
     refine G8 ?_
     exact ej47 _ _ (s44 ++ [y44]) h ⟨(by repeat' constructor), ⟨⟨_, rfl, .same⟩, trivial⟩, rfl⟩
    ·
     replace h := bif_f hb h
     refine Gj ?_
     exact ej47 _ _ s44 h ⟨(by repeat' constructor), ⟨⟨_, rfl, .same⟩, trivial⟩, rfl⟩
   ·intro j47 h
    replace h := app1 hkj47 h
    refine G2 ?_
    refine JLg (G0 ((i44 + 1 : Nat) : Int)) (Hd (idx_succ hk44 hm31) O O O) ?_
    refine JLg (G0 ((i44 + 1 : Nat) : Int)) (G7 O O) ?_
    refine G8 ?_
    exact e44 _ _ (i44 + 1) j47 (app1 hn44 h) (by omega) ⟨(by repeat' constructor), ⟨⟨_, rfl, .same⟩, trivial⟩, rfl⟩
  ·
   have h := app1 hkx44 (Hb hi44 (Gy hb))
   refine H4 ?_
   refine hK28 _ _ ?_
   refine G6 fun K51 hK51 => G2 ?_
   refine JLg (OW 1075 4 G3.av s44) (G7 O O) ?_
   refine JLg (OW 1075 4 G3.av s44) (G9 O O) ?_
   refine G8 (hK51 _ _ ?_)
   refine Gq ?_
   exact ⟨[LS 4 G3.av s44], [], trivial, O, ⟨⟨_, O, .conv (.list O)⟩, trivial⟩, O, congrArg (fun r : (List G3) => (LS 4 G3.av r : AV)) (Option.some.inj h)⟩

def M_stow_taken (l : List G3) : Option (List Slot) :=
 each (fun y17 i17 (s17 : (List Slot)) nx17 =>
  need (decide ((s17.length + [y17.Slot].length) * 24 ≤ 140737488355328 ∧ s17.length + [y17.Slot].length ≤ maxLen)) <|
  nx17 (s17 ++ [y17.Slot]))
 (fun (s17 : (List Slot)) =>
  some s17) l 0 []
theorem M_stow_taken_w (l : List G3) (r : (List Slot)) (h : M_stow_taken l = some r) : Pure Tryz.prog 45 [LS 4 G3.av l] (· = LS 3 Slot.av r) := by
 unfold M_stow_taken at h
 refine Gx [.tmp 2] Tryz.func45 O O ?_
 refine G6 fun K1 hK1 => G2 ?_
 refine JLg (LS 3 Slot.av ([] : List Slot)) (Hw 3 O O) ?_
 refine G8 (hK1 _ _ ?_)
 refine G6 fun K2 hK2 => G2 ?_
 refine JLg (OW 1113 3 Slot.av ([] : List Slot)) (A_nilOwn 1113 51 3 O O O) ?_
 refine G8 (hK2 _ _ ?_)
 refine G6 (fun K3 hK3 => ?_)
 refine G6 fun K4 hK4 => G2 ?_
 refine JLg (LS 4 G3.av l) (G7 O O) ?_
 refine H9 (f := G3.av) (xs := l) Gs O O (fun hm7 => ?_) O O O
 refine JLg (G0 0) (G7 O O) ?_
 refine G8 (hK4 _ _ ?_)
 refine Gi ?_
 obtain ⟨b17, kx17, hb17, hkx17, h⟩ := Hi h
 refine Gz (fun i17 (s17 : (List Slot)) => each b17 kx17 (List.drop i17 l) i17 s17 = some r) (fun i17 s17 => [(3, OW 1113 3 Slot.av s17), (6, LS 4 G3.av l), (7, G0 (l.length : Int)), (8, G0 (i17 : Int))]) (fun i17 s17 => [(1113, .spare 51 3 s17.length s17.length)]) (fun i17 => l.length - i17) 0 [] h ⟨(by repeat' constructor), ⟨⟨_, rfl, .same⟩, trivial⟩, rfl⟩ ?_
 clear h
 intro i17 s17 hi17 K17 e17
 refine G6 fun K18 hK18 => G2 ?_
 refine JLg (BL (decide ((i17 : Int) < (l.length : Int)))) (He O O O) ?_
 refine G8 (hK18 _ _ ?_)
 refine G6 (fun K19 hK19 => ?_)
 refine Gh O (fun hb => ?_) (fun hb => ?_)
 ·
  have hk17 := lt_len hb
  obtain ⟨y17, nx17, hy17, hn17, h⟩ := Ha hi17 hk17
  replace h := app4 hb17 h
  refine Gj ?_
  refine hK19 _ _ ?_
  refine G6 (fun K20 hK20 => ?_)
  refine Gi ?_
  refine G6 fun K21 hK21 => G2 ?_
  refine JLg (.dptr (G3.cs y17)) (Gw (f := G3.av) (xs := l) (y := y17) O O O Gs hy17 O) ?_
  refine JLg (.agg (G3.cs y17)) (Gg Hp O O O) ?_
  refine JLg (.ptr 1114 0) (H2 1114 4 Hk O O) ?_
  refine H1 (u := .junk) (Gt (u := .agg (G3.cs y17)) (ds := [G0 y17.Box, G0 y17.Slot.G5, G0 y17.Slot.Tier, U8 y17.Slot.Half]) J3 O O O O O O O O) ?_
  refine G8 (hK21 _ _ ?_)
  refine Gm [(3, OW 1113 3 Slot.av s17), (5, .dptr (G3.cs y17)), (6, LS 4 G3.av l), (7, G0 (l.length : Int)), (8, G0 (i17 : Int))] [(1113, .spare 51 3 s17.length s17.length)] 1114 rfl rfl rfl ⟨⟨_, rfl, .same⟩, trivial⟩ rfl (by repeat' (first | exact .ptr | constructor)) ?_
  refine G2 ?_
  refine JLg (OW 1113 3 Slot.av s17) (G7 O O) ?_
  refine JLg (.dptr (Slot.cs y17.Slot)) (Gb Hg O O O) ?_
  refine JLg (.agg (Slot.cs y17.Slot)) (Gg Hr O O O) ?_
  refine JLg (LS 3 Slot.av [y17.Slot]) (Gu (xs := [.agg (Slot.cs y17.Slot)]) O ⟨O, O, trivial⟩ Jj Q5 O O O O) ?_
  obtain ⟨ha22, h⟩ := Hq h
  refine JLg (OW 1113 3 Slot.av (s17 ++ [y17.Slot])) (Jd (f := Slot.av) (xs := s17) (ys := [y17.Slot]) O O O O Jj tf_elem_51 ha22 (fun _ => O) (.inl O) O) ?_
  refine JLg (OW 1113 3 Slot.av (s17 ++ [y17.Slot])) (G9 O O) ?_
  refine G8 (hK20 _ _ ?_)
  refine G2 ?_
  refine JLg (G0 ((i17 + 1 : Nat) : Int)) (Hd (idx_succ hk17 hm7) O O O) ?_
  refine JLg (G0 ((i17 + 1 : Nat) : Int)) (G7 O O) ?_
  refine G8 ?_
  exact e17 _ _ (i17 + 1) (s17 ++ [y17.Slot]) (app1 hn17 h) (by omega) ⟨(by repeat' constructor), ⟨⟨_, rfl, .same⟩, trivial⟩, rfl⟩
 ·
  have h := app1 hkx17 (Hb hi17 (Gy hb))
  refine H4 ?_
  refine hK3 _ _ ?_
  refine G6 fun K23 hK23 => G2 ?_
  refine JLg (OW 1113 3 Slot.av s17) (G7 O O) ?_
  refine JLg (OW 1113 3 Slot.av s17) (G9 O O) ?_
  refine G8 (hK23 _ _ ?_)
  refine Gq ?_
  exact ⟨[LS 3 Slot.av s17], [], trivial, O, ⟨⟨_, O, .conv (.list O)⟩, trivial⟩, O, congrArg (fun r : (List Slot) => (LS 3 Slot.av r : AV)) (Option.some.inj h)⟩

def M_stow_Find_1 (b : Box) (p1 : Int) : Option Bool :=
 some (decide (b.ID = p1))
theorem M_stow_Find_1_w (b : Box) (p1 : Int) (r : Bool) (h : M_stow_Find_1 b p1 = some r) : Pure Tryz.prog 69 [.agg (Box.cs b), .dptr [G0 p1]] (· = BL r) := by
 unfold M_stow_Find_1 at h
 refine Gx [.tmp 3] Tryz.func69 O O ?_
 refine G6 fun K1 hK1 => G2 ?_
 refine JLg (.ptr 1145 0) (J1 (u := .agg (Box.cs b)) (cs := (Box.cs b)) 1145 O O O O O) ?_
 refine JLg (BL false) (G9 O O) ?_
 refine G8 (hK1 _ _ ?_)
 refine Gm [(1, .dptr [G0 p1]), (2, .dptr (Box.cs b))] [] 1145 rfl rfl rfl trivial rfl (by exact ⟨.conv (.same rfl), .ptr, trivial⟩) ?_
 refine G6 fun K2 hK2 => G2 ?_
 refine JLg (.dptr (Box.cs b)) (Gb J4 O O O) ?_
 refine JLg (G0 b.ID) (Gf Ga O O O) ?_
 refine JLg (G0 p1) (Gf Ga O O O) ?_
 refine JLg (BL (decide (b.ID = p1))) (Hx O O O) ?_
 refine JLg (BL (decide (b.ID = p1))) (G9 O O) ?_
 refine G8 (hK2 _ _ ?_)
 refine Gq ?_
 exact ⟨[BL (decide (b.ID = p1))], [], trivial, O, ⟨⟨_, O, .conv (.same O)⟩, trivial⟩, O, congrArg (fun r : Bool => (BL r : AV)) (Option.some.inj h)⟩

def M_slices_IndexFunc_apiBox (s : List Box) (f : Box → Option Bool) : Option Int :=
 each (fun y20 i20 (s20 : Unit) nx20 =>
  bnd (f y20) fun r26 =>
  bif r26 then
  (some (i20 : Int))
  else
  (nx20 ()))
 (fun (s20 : Unit) =>
  some (-1)) s 0 ()
theorem M_slices_IndexFunc_apiBox_w (s : List Box) (f : Box → Option Bool) (f_f : FuncId) (f_c : List AV) (f_B : callB Tryz.prog f_f = true) (f_d : refsL (fun _ => false) f_c = true) (f_w : ∀ a0 q, f a0 = some q → Pure Tryz.prog f_f ([.agg (Box.cs a0)] ++ f_c) (· = BL q)) (r : Int) (h : M_slices_IndexFunc_apiBox s f = some r) : Pure Tryz.prog 68 [LS 9 Box.av s, .fn f_f f_c] (· = G0 r) := by
 unfold M_slices_IndexFunc_apiBox at h
 refine Gx [.tmp 4] Tryz.func68 O O ?_
 refine G6 fun K1 hK1 => G2 ?_
 refine JLg (G0 0) (G9 O O) ?_
 refine G8 (hK1 _ _ ?_)
 refine G6 (fun K2 hK2 => ?_)
 refine G6 fun K3 hK3 => G2 ?_
 refine JLg (LS 9 Box.av s) (G7 O O) ?_
 refine H9 (f := Box.av) (xs := s) Hv O O (fun hm7 => ?_) O O O
 refine JLg (G0 0) (G7 O O) ?_
 refine G8 (hK3 _ _ ?_)
 refine Gi ?_
 obtain ⟨b20, kx20, hb20, hkx20, h⟩ := Hi h
 refine Gz (fun i20 (s20 : Unit) => each b20 kx20 (List.drop i20 s) i20 s20 = some r) (fun i20 s20 => [(0, LS 9 Box.av s), (1, .fn f_f f_c), (7, G0 (s.length : Int)), (8, G0 (i20 : Int))]) (fun i20 s20 => []) (fun i20 => s.length - i20) 0 () h ⟨⟨.same O, .same (refsL_any _ _ f_d), .same O, .same O, trivial⟩, trivial, O⟩ ?_
 clear h
 intro i20 s20 hi20 K20 e20
 refine G6 fun K21 hK21 => G2 ?_
 refine JLg (BL (decide ((i20 : Int) < (s.length : Int)))) (He O O O) ?_
 refine G8 (hK21 _ _ ?_)
 refine G6 (fun K22 hK22 => ?_)
 refine Gh O (fun hb => ?_) (fun hb => ?_)
 ·
  have hk20 := lt_len hb
  obtain ⟨y20, nx20, hy20, hn20, h⟩ := Ha hi20 hk20
  replace h := app4 hb20 h
  refine Gj ?_
  refine hK22 _ _ ?_
  refine G6 (fun K23 hK23 => ?_)
  refine Gi ?_
  refine G6 fun K24 hK24 => G2 ?_
  refine JLg (G0 (i20 : Int)) (G7 O O) ?_
  refine JLg (G0 (i20 : Int)) (G9 O O) ?_
  refine G8 (hK24 _ _ ?_)
  refine G6 fun K25 hK25 => G2 ?_
  refine JLg (.fn f_f f_c) (G7 O O) ?_
  refine JLg (LS 9 Box.av s) (G7 O O) ?_
  refine JLg (G0 (i20 : Int)) (G7 O O) ?_
  refine JLg (.dptr (Box.cs y20)) (Gw (f := Box.av) (xs := s) (y := y20) O O O Hv hy20 O) ?_
  refine JLg (.agg (Box.cs y20)) (Gg Q1 O O O) ?_
  obtain ⟨r26, hr26, h⟩ := Ge h
  refine JLg (BL r26) (Q8 (args := [.agg (Box.cs y20)]) (caps := f_c) O O (f_w y20 _ hr26) f_B ⟨O, O, trivial⟩ f_d) ?_
  refine G8 (hK25 _ _ ?_)
  refine Gh O (fun hb => ?_) (fun hb => ?_)
  ·
   replace h := bif_t hb h
   refine G6 fun K27 hK27 => G2 ?_
   refine JLg (G0 (i20 : Int)) (G7 O O) ?_
   refine JLg (G0 (i20 : Int)) (G9 O O) ?_
   refine G8 (hK27 _ _ ?_)
   refine Gq ?_
   exact ⟨[G0 (i20 : Int)], [], trivial, O, ⟨⟨_, O, .conv (.same O)⟩, trivial⟩, O, congrArg (fun r : Int => (G0 r : AV)) (Option.some.inj h)⟩
  ·
   replace h := bif_f hb h
   refine Gj ?_
   refine hK23 _ _ ?_
   refine G2 ?_
   refine JLg (G0 ((i20 + 1 : Nat) : Int)) (Hd (idx_succ hk20 hm7) O O O) ?_
   refine JLg (G0 ((i20 + 1 : Nat) : Int)) (G7 O O) ?_
   refine G8 ?_
   exact e20 _ _ (i20 + 1) () (app1 hn20 h) (by omega) ⟨⟨.same rfl, .same (refsL_any _ _ f_d), .same rfl, .same rfl, trivial⟩, trivial, rfl⟩
 ·
  have h := app1 hkx20 (Hb hi20 (Gy hb))
  refine H4 ?_
  refine hK2 _ _ ?_
  refine G6 fun K28 hK28 => G2 ?_
  refine JLg (G0 (-1)) (G9 O O) ?_
  refine G8 (hK28 _ _ ?_)
  refine Gq ?_
  exact ⟨[G0 (-1)], [], trivial, O, ⟨⟨_, O, .conv (.same O)⟩, trivial⟩, O, congrArg (fun r : Int => (G0 r : AV)) (Option.some.inj h)⟩

def M_stow_Find (boxes : List Box) (id_ : Int) : Option (Box × Bool) :=
 bnd (M_slices_IndexFunc_apiBox boxes (fun z0 => M_stow_Find_1 z0 id_)) fun r3 =>
 bif decide (r3 < 0) then
 (some ((Box.mk 0 ByteArray.empty 0 false 0 0 0 0 false), false))
 else
 (gidx boxes r3 fun y8 =>
  some (y8, true))
theorem M_stow_Find_w (boxes : List Box) (id_ : Int) (r : Box × Bool) (h : M_stow_Find boxes id_ = some r) : Pure Tryz.prog 46 [LS 9 Box.av boxes, G0 id_] (· = .tup [.agg (Box.cs r.1), BL r.2]) := by
 unfold M_stow_Find at h
 refine Gx [.cell 4 81, .tmp 5] Tryz.func46 O O ?_
 refine G6 fun K1 hK1 => G2 ?_
 refine JLg (.ptr 1115 0) (J1 (u := G0 id_) (cs := [G0 id_]) 1115 O O O O O) ?_
 refine JLg (.ptr 1116 0) (A_allocZ 1116 [G0 0, ST ByteArray.empty, U8 0, BL false, G0 0, G0 0, G0 0, U8 0, BL false] [.int .i64 0, .string ByteArray.empty, .int .u8 0, .bool false, .int .i64 0, .int .i64 0, .int .i64 0, .int .u8 0, .bool false] tf_zero_81 ⟨.inl O, .inl O, .inl O, .inl O, .inl O, .inl O, .inl O, .inl O, .inl O, trivial⟩ O O) ?_
 refine JLg (BL false) (G9 O O) ?_
 refine G8 (hK1 _ _ ?_)
 refine Gm [(0, LS 9 Box.av boxes), (3, .dptr [G0 id_]), (4, .ptr 1116 0)] [(1116, .box 81 [G0 0, ST ByteArray.empty, U8 0, BL false, G0 0, G0 0, G0 0, U8 0, BL false])] 1115 rfl rfl rfl ⟨⟨_, rfl, .boxEq rfl rfl⟩, trivial⟩ rfl (by exact ⟨.conv (.same rfl), .ptr, .conv (.same rfl), trivial⟩) ?_
 refine G6 fun K2 hK2 => G2 ?_
 refine JLg (LS 9 Box.av boxes) (G7 O O) ?_
 refine JLg (.fn 69 [.dptr [G0 id_]]) (A_makeFunc (cs := [.dptr [G0 id_]]) O O) ?_
 obtain ⟨r3, hr3, h⟩ := Ge h
 refine JLg (G0 r3) (Gr (args := [LS 9 Box.av boxes, .fn 69 [.dptr [G0 id_]]]) O (M_slices_IndexFunc_apiBox_w boxes (fun z0 => M_stow_Find_1 z0 id_) 69 [.dptr [G0 id_]] tf_call_69 O (fun z0 q hq => M_stow_Find_1_w z0 id_ q hq) r3 hr3) tf_call_68 ⟨O, O, O, O, trivial⟩) ?_
 refine JLg (G0 r3) (G9 O O) ?_
 refine G8 (hK2 _ _ ?_)
 refine G6 (fun K4 hK4 => ?_)
 refine G6 fun K5 hK5 => G2 ?_
 refine JLg (G0 r3) (G7 O O) ?_
 refine JLg (BL (decide (r3 < 0))) (He O O O) ?_
 refine G8 (hK5 _ _ ?_)
 refine Gh O (fun hb => ?_) (fun hb => ?_)
 ·
  replace h := bif_t hb h
  refine G6 fun K6 hK6 => G2 ?_
  refine JLg (.agg [G0 0, ST ByteArray.empty, U8 0, BL false, G0 0, G0 0, G0 0, U8 0, BL false]) (H8 (cs := [G0 0, ST ByteArray.empty, U8 0, BL false, G0 0, G0 0, G0 0, U8 0, BL false]) [(0, 1), (1, 1), (2, 1), (3, 1), (4, 1), (5, 1), (6, 1), (7, 1), (8, 1)] [G0 0, ST ByteArray.empty, U8 0, BL false, G0 0, G0 0, G0 0, U8 0, BL false] [.int .i64 0, .string ByteArray.empty, .int .u8 0, .bool false, .int .i64 0, .int .i64 0, .int .i64 0, .int .u8 0, .bool false] tf_places_81 tf_zero_81 ⟨.inl O, .inl O, .inl O, .inl O, .inl O, .inl O, .inl O, .inl O, .inl O, trivial⟩ O O) ?_
  refine H1 (u := .junk) (Gt (u := .agg [G0 0, ST ByteArray.empty, U8 0, BL false, G0 0, G0 0, G0 0, U8 0, BL false]) (ds := [G0 0, ST ByteArray.empty, U8 0, BL false, G0 0, G0 0, G0 0, U8 0, BL false]) tf_size_81 O O O O O O O O) ?_
  refine JLg (BL false) (G9 O O) ?_
  refine G8 (hK6 _ _ ?_)
  refine Gq ?_
  exact ⟨[.agg [G0 0, ST ByteArray.empty, U8 0, BL false, G0 0, G0 0, G0 0, U8 0, BL false], BL false], [], trivial, O, ⟨⟨_, ⟨_, _, _, _, O, O, O, .inl ⟨Q1, O⟩⟩, .conv (.same O)⟩, ⟨_, O, .conv (.same O)⟩, trivial⟩, O, congrArg (fun r : Box × Bool => (.tup [.agg (Box.cs r.1), BL r.2] : AV)) (Option.some.inj h)⟩
 ·
  replace h := bif_f hb h
  refine Gj ?_
  refine hK4 _ _ ?_
  refine G6 fun K7 hK7 => G2 ?_
  refine JLg (LS 9 Box.av boxes) (G7 O O) ?_
  refine JLg (G0 r3) (G7 O O) ?_
  obtain ⟨m9, y8, hm9, hy8, h⟩ := Jq h
  refine JLg (.dptr (Box.cs y8)) (Gw (f := Box.av) (xs := boxes) (y := y8) O O O Hv hy8 hm9) ?_
  refine JLg (.agg (Box.cs y8)) (Gg Q1 O O O) ?_
  refine H1 (u := .junk) (Gt (u := .agg (Box.cs y8)) (ds := (Box.cs y8)) tf_size_81 O O O O O O O O) ?_
  refine JLg (BL true) (G9 O O) ?_
  refine G8 (hK7 _ _ ?_)
  refine Gq ?_
  exact ⟨[.agg (Box.cs y8), BL true], [], trivial, O, ⟨⟨_, ⟨_, _, _, _, O, O, O, .inl ⟨Q1, O⟩⟩, .conv (.same O)⟩, ⟨_, O, .conv (.same O)⟩, trivial⟩, O, congrArg (fun r : Box × Bool => (.tup [.agg (Box.cs r.1), BL r.2] : AV)) (Option.some.inj h)⟩

def M_slices_Index_uint8 (s : List Int) (v : Int) : Option Int :=
 each (fun y18 i18 (s18 : Unit) nx18 =>
  bif decide (v = y18) then
  (some (i18 : Int))
  else
  (nx18 ()))
 (fun (s18 : Unit) =>
  some (-1)) s 0 ()
theorem M_slices_Index_uint8_w (s : List Int) (v : Int) (r : Int) (h : M_slices_Index_uint8 s v = some r) : Pure Tryz.prog 98 [LS 1 U8 s, U8 v] (· = G0 r) := by
 unfold M_slices_Index_uint8 at h
 refine Gx [.tmp 4] Tryz.func98 O O ?_
 refine G6 fun K1 hK1 => G2 ?_
 refine JLg (G0 0) (G9 O O) ?_
 refine G8 (hK1 _ _ ?_)
 refine G6 (fun K2 hK2 => ?_)
 refine G6 fun K3 hK3 => G2 ?_
 refine JLg (LS 1 U8 s) (G7 O O) ?_
 refine H9 (f := U8) (xs := s) tf_slice_154 O O (fun hm7 => ?_) O O O
 refine JLg (G0 0) (G7 O O) ?_
 refine G8 (hK3 _ _ ?_)
 refine Gi ?_
 obtain ⟨b18, kx18, hb18, hkx18, h⟩ := Hi h
 refine Gz (fun i18 (s18 : Unit) => each b18 kx18 (List.drop i18 s) i18 s18 = some r) (fun i18 s18 => [(0, LS 1 U8 s), (1, U8 v), (7, G0 (s.length : Int)), (8, G0 (i18 : Int))]) (fun i18 s18 => []) (fun i18 => s.length - i18) 0 () h ⟨(by repeat' constructor), trivial, rfl⟩ ?_
 clear h
 intro i18 s18 hi18 K18 e18
 refine G6 fun K19 hK19 => G2 ?_
 refine JLg (BL (decide ((i18 : Int) < (s.length : Int)))) (He O O O) ?_
 refine G8 (hK19 _ _ ?_)
 refine G6 (fun K20 hK20 => ?_)
 refine Gh O (fun hb => ?_) (fun hb => ?_)
 ·
  have hk18 := lt_len hb
  obtain ⟨y18, nx18, hy18, hn18, h⟩ := Ha hi18 hk18
  replace h := app4 hb18 h
  refine Gj ?_
  refine hK20 _ _ ?_
  refine G6 (fun K21 hK21 => ?_)
  refine Gi ?_
  refine G6 fun K22 hK22 => G2 ?_
  refine JLg (G0 (i18 : Int)) (G7 O O) ?_
  refine JLg (G0 (i18 : Int)) (G9 O O) ?_
  refine G8 (hK22 _ _ ?_)
  refine G6 fun K23 hK23 => G2 ?_
  refine JLg (U8 v) (G7 O O) ?_
  refine JLg (LS 1 U8 s) (G7 O O) ?_
  refine JLg (G0 (i18 : Int)) (G7 O O) ?_
  refine JLg (.dptr [U8 y18]) (Gw (f := U8) (xs := s) (y := y18) O O O tf_slice_154 hy18 O) ?_
  refine JLg (U8 y18) (Gf H7 O O O) ?_
  refine JLg (BL (decide (v = y18))) (Hx O O O) ?_
  refine G8 (hK23 _ _ ?_)
  refine Gh O (fun hb => ?_) (fun hb => ?_)
  ·
   replace h := bif_t hb h
   refine G6 fun K24 hK24 => G2 ?_
   refine JLg (G0 (i18 : Int)) (G7 O O) ?_
   refine JLg (G0 (i18 : Int)) (G9 O O) ?_
   refine G8 (hK24 _ _ ?_)
   refine Gq ?_
   exact ⟨[G0 (i18 : Int)], [], trivial, O, ⟨⟨_, O, .conv (.same O)⟩, trivial⟩, O, congrArg (fun r : Int => (G0 r : AV)) (Option.some.inj h)⟩
  ·
   replace h := bif_f hb h
   refine Gj ?_
   refine hK21 _ _ ?_
   refine G2 ?_
   refine JLg (G0 ((i18 + 1 : Nat) : Int)) (Hd (idx_succ hk18 hm7) O O O) ?_
   refine JLg (G0 ((i18 + 1 : Nat) : Int)) (G7 O O) ?_
   refine G8 ?_
   exact e18 _ _ (i18 + 1) () (app1 hn18 h) (by omega) ⟨(by repeat' constructor), trivial, rfl⟩
 ·
  have h := app1 hkx18 (Hb hi18 (Gy hb))
  refine H4 ?_
  refine hK2 _ _ ?_
  refine G6 fun K25 hK25 => G2 ?_
  refine JLg (G0 (-1)) (G9 O O) ?_
  refine G8 (hK25 _ _ ?_)
  refine Gq ?_
  exact ⟨[G0 (-1)], [], trivial, O, ⟨⟨_, O, .conv (.same O)⟩, trivial⟩, O, congrArg (fun r : Int => (G0 r : AV)) (Option.some.inj h)⟩

def M_slices_Contains_uint8 (s : List Int) (v : Int) : Option Bool :=
 bnd (M_slices_Index_uint8 s v) fun r3 =>
 some (decide (0 ≤ r3))
theorem M_slices_Contains_uint8_w (s : List Int) (v : Int) (r : Bool) (h : M_slices_Contains_uint8 s v = some r) : Pure Tryz.prog 70 [LS 1 U8 s, U8 v] (· = BL r) := by
 unfold M_slices_Contains_uint8 at h
 refine Gx [.tmp 4] Tryz.func70 O O ?_
 refine G6 fun K1 hK1 => G2 ?_
 refine JLg (BL false) (G9 O O) ?_
 refine G8 (hK1 _ _ ?_)
 refine G6 fun K2 hK2 => G2 ?_
 refine JLg (LS 1 U8 s) (G7 O O) ?_
 refine JLg (U8 v) (G7 O O) ?_
 obtain ⟨r3, hr3, h⟩ := Ge h
 refine JLg (G0 r3) (Gr (args := [LS 1 U8 s, U8 v]) O (M_slices_Index_uint8_w s v r3 hr3) tf_call_98 ⟨O, O, O, O, trivial⟩) ?_
 refine JLg (BL (decide (0 ≤ r3))) (A_geq O O O) ?_
 refine JLg (BL (decide (0 ≤ r3))) (G9 O O) ?_
 refine G8 (hK2 _ _ ?_)
 refine Gq ?_
 exact ⟨[BL (decide (0 ≤ r3))], [], trivial, O, ⟨⟨_, O, .conv (.same O)⟩, trivial⟩, O, congrArg (fun r : Bool => (BL r : AV)) (Option.some.inj h)⟩

def M_slot_Right (s : Ship) (x : Slot) (size : Int) : Option Bool :=
 bnd (bif (((decide (0 ≤ x.G5)) && (decide (x.G5 < (s.Columns.length : Int)))) && (decide (0 ≤ x.Tier))) then gidx s.Columns x.G5 some else some default) fun y3 =>
 bnd (bif ((((decide (0 ≤ x.G5)) && (decide (x.G5 < (s.Columns.length : Int)))) && (decide (0 ≤ x.Tier))) && (decide (x.Tier < y3.Tiers))) then M_slot_halves size else some default) fun r4 =>
 bnd (bif ((((decide (0 ≤ x.G5)) && (decide (x.G5 < (s.Columns.length : Int)))) && (decide (0 ≤ x.Tier))) && (decide (x.Tier < y3.Tiers))) then M_slices_Contains_uint8 r4 x.Half else some default) fun r5 =>
 some (((((decide (0 ≤ x.G5)) && (decide (x.G5 < (s.Columns.length : Int)))) && (decide (0 ≤ x.Tier))) && (decide (x.Tier < y3.Tiers))) && r5)
theorem M_slot_Right_w (s : Ship) (x : Slot) (size : Int) (r : Bool) (h : M_slot_Right s x size = some r) : Pure Tryz.prog 47 [.agg (Ship.cs s), .agg [G0 x.G5, G0 x.Tier, U8 x.Half], U8 size] (· = BL r) := by
 unfold M_slot_Right at h
 refine Gx [.tmp 6] Tryz.func47 O O ?_
 refine G6 fun K1 hK1 => G2 ?_
 refine JLg (.ptr 1117 0) (J1 (u := .agg (Ship.cs s)) (cs := (Ship.cs s)) 1117 O O O O O) ?_
 refine JLg (.ptr 1118 0) (J1 (u := .agg [G0 x.G5, G0 x.Tier, U8 x.Half]) (cs := [G0 x.G5, G0 x.Tier, U8 x.Half]) 1118 O O O O O) ?_
 refine JLg (BL false) (G9 O O) ?_
 refine G8 (hK1 _ _ ?_)
 refine Gm [(2, U8 size), (3, .dptr (Ship.cs s)), (4, .ptr 1118 0)] [(1118, .box 51 [G0 x.G5, G0 x.Tier, U8 x.Half])] 1117 rfl rfl rfl ⟨⟨_, rfl, .boxEq rfl rfl⟩, trivial⟩ rfl (by exact ⟨.conv (.same rfl), .ptr, .conv (.same rfl), trivial⟩) ?_
 refine Gm [(2, U8 size), (3, .dptr (Ship.cs s)), (4, .dptr [G0 x.G5, G0 x.Tier, U8 x.Half])] [] 1118 rfl rfl rfl trivial rfl (by exact ⟨.conv (.same rfl), .conv (.same rfl), .ptr, trivial⟩) ?_
 refine G6 (fun K2 hK2 => ?_)
 obtain ⟨y3, hy3, h⟩ := Ge h
 obtain ⟨r4, hr4, h⟩ := Ge h
 obtain ⟨r5, hr5, h⟩ := Ge h
 refine Jc [] [0, 0, 0, 0, 0, 0, 0, 0, 0, 0, 0, 0, 0, 0, 0, 0, 0, 0, 0, 0, 0, 0, 0, 0, 0, 0, 0, 0, 0, 0, 0, 0, 0, 0, 0, 0] [0, 0, 0, 0, 0, 0, 0, 0, 0, 0, 0, 0, 0, 0, 0, 0, 0, 0, 0, 0, 0, 0, 0, 0, 0, 0, 0, 0, 0, 0, 0, 0, 0, 0, 0, 0] [[]] J5 (by kernel_rfl) rfl rfl ?_
 refine Gn (u := .dptr [G0 x.G5, G0 x.Tier, U8 x.Half]) O O ⟨Gp (Gb Hh O O O) O, trivial⟩ ?_
 refine Gn (u := G0 x.G5) O O ⟨Gp (Gf Ga O O O) O, trivial⟩ ?_
 refine Gn (u := BL (decide (0 ≤ x.G5))) O O ⟨Gp (A_geq O O O) O, trivial⟩ ?_
 refine Gn (u := BL (decide (0 ≤ x.G5))) O O ⟨Gp (G7 O O) O, trivial⟩ ?_
 refine Gn (u := .opt (decide (0 ≤ x.G5)) (.dptr [G0 x.G5, G0 x.Tier, U8 x.Half])) O O ⟨H3 [] O O O .sct trivial (fun hc => Gb Hh O O O) O, trivial⟩ ?_
 refine Gn (u := .opt (decide (0 ≤ x.G5)) (G0 x.G5)) O O ⟨H3 [(11, .dptr [G0 x.G5, G0 x.Tier, U8 x.Half])] O O O .sct ⟨.all id, trivial⟩ (fun hc => Gf Ga O O O) O, trivial⟩ ?_
 refine Gn (u := .opt (decide (0 ≤ x.G5)) (.dptr (Ship.cs s))) O O ⟨H3 [] O O O .sct trivial (fun hc => Gb Hc O O O) O, trivial⟩ ?_
 refine Gn (u := .opt (decide (0 ≤ x.G5)) (LS 12 G5.av s.Columns)) O O ⟨H3 [(13, .dptr (Ship.cs s))] O O O .sct ⟨.all id, trivial⟩ (fun hc => Gf Hj O O O) O, trivial⟩ ?_
 refine Gn (u := .opt (decide (0 ≤ x.G5)) (G0 (s.Columns.length : Int))) O O ⟨H3 [(14, LS 12 G5.av s.Columns)] O O O .sct ⟨.all id, trivial⟩ (fun hc => A_lenM (f := G5.av) (xs := s.Columns) Hf O O) O, trivial⟩ ?_
 refine Gn (u := .opt (decide (0 ≤ x.G5)) (BL (decide (x.G5 < (s.Columns.length : Int))))) O O ⟨H3 [(12, G0 x.G5), (15, G0 (s.Columns.length : Int))] O O O .sct ⟨.all id, .all id, trivial⟩ (fun hc => He O O O) O, trivial⟩ ?_
 refine Gn (u := BL ((decide (0 ≤ x.G5)) && (decide (x.G5 < (s.Columns.length : Int))))) O O ⟨Gp (J2 O O O O) O, trivial⟩ ?_
 refine Gn (u := BL ((decide (0 ≤ x.G5)) && (decide (x.G5 < (s.Columns.length : Int))))) O O ⟨Gp (G7 O O) O, trivial⟩ ?_
 refine Gn (u := .opt ((decide (0 ≤ x.G5)) && (decide (x.G5 < (s.Columns.length : Int)))) (.dptr [G0 x.Tier, U8 x.Half])) O O ⟨H3 [] O O O .sct trivial (fun hc => Gb Hz O O O) O, trivial⟩ ?_
 refine Gn (u := .opt ((decide (0 ≤ x.G5)) && (decide (x.G5 < (s.Columns.length : Int)))) (G0 x.Tier)) O O ⟨H3 [(19, .dptr [G0 x.Tier, U8 x.Half])] O O O .sct ⟨.all id, trivial⟩ (fun hc => Gf Ga O O O) O, trivial⟩ ?_
 refine Gn (u := .opt ((decide (0 ≤ x.G5)) && (decide (x.G5 < (s.Columns.length : Int)))) (BL (decide (0 ≤ x.Tier)))) O O ⟨H3 [(20, G0 x.Tier)] O O O .sct ⟨.all id, trivial⟩ (fun hc => A_geq O O O) O, trivial⟩ ?_
 refine Gn (u := BL (((decide (0 ≤ x.G5)) && (decide (x.G5 < (s.Columns.length : Int)))) && (decide (0 ≤ x.Tier)))) O O ⟨Gp (J2 O O O O) O, trivial⟩ ?_
 refine Gn (u := BL (((decide (0 ≤ x.G5)) && (decide (x.G5 < (s.Columns.length : Int)))) && (decide (0 ≤ x.Tier)))) O O ⟨Gp (G7 O O) O, trivial⟩ ?_
 refine Gn (u := .opt (((decide (0 ≤ x.G5)) && (decide (x.G5 < (s.Columns.length : Int)))) && (decide (0 ≤ x.Tier))) (.dptr [G0 x.Tier, U8 x.Half])) O O ⟨H3 [] O O O .sct trivial (fun hc => Gb Hz O O O) O, trivial⟩ ?_
 refine Gn (u := .opt (((decide (0 ≤ x.G5)) && (decide (x.G5 < (s.Columns.length : Int)))) && (decide (0 ≤ x.Tier))) (G0 x.Tier)) O O ⟨H3 [(24, .dptr [G0 x.Tier, U8 x.Half])] O O O .sct ⟨.all id, trivial⟩ (fun hc => Gf Ga O O O) O, trivial⟩ ?_
 refine Gn (u := .opt (((decide (0 ≤ x.G5)) && (decide (x.G5 < (s.Columns.length : Int)))) && (decide (0 ≤ x.Tier))) (.dptr (Ship.cs s))) O O ⟨H3 [] O O O .sct trivial (fun hc => Gb Hc O O O) O, trivial⟩ ?_
 refine Gn (u := .opt (((decide (0 ≤ x.G5)) && (decide (x.G5 < (s.Columns.length : Int)))) && (decide (0 ≤ x.Tier))) (LS 12 G5.av s.Columns)) O O ⟨H3 [(26, .dptr (Ship.cs s))] O O O .sct ⟨.all id, trivial⟩ (fun hc => Gf Hj O O O) O, trivial⟩ ?_
 refine Gn (u := .opt (((decide (0 ≤ x.G5)) && (decide (x.G5 < (s.Columns.length : Int)))) && (decide (0 ≤ x.Tier))) (.dptr [G0 x.G5, G0 x.Tier, U8 x.Half])) O O ⟨H3 [] O O O .sct trivial (fun hc => Gb Hh O O O) O, trivial⟩ ?_
 refine Gn (u := .opt (((decide (0 ≤ x.G5)) && (decide (x.G5 < (s.Columns.length : Int)))) && (decide (0 ≤ x.Tier))) (G0 x.G5)) O O ⟨H3 [(28, .dptr [G0 x.G5, G0 x.Tier, U8 x.Half])] O O O .sct ⟨.all id, trivial⟩ (fun hc => Gf Ga O O O) O, trivial⟩ ?_
 refine Gn (u := .opt (((decide (0 ≤ x.G5)) && (decide (x.G5 < (s.Columns.length : Int)))) && (decide (0 ≤ x.Tier))) (.dptr (G5.cs y3))) O O ⟨H3 [(27, LS 12 G5.av s.Columns), (29, G0 x.G5)] O O O .sct ⟨.all id, .all id, trivial⟩ (fun hc => (match Q2 (bif_t hc hy3) with | ⟨_, hm_, hy_⟩ => Gw (f := G5.av) (xs := s.Columns) (y := y3) O O O Hf hy_ hm_)) O, trivial⟩ ?_
 refine Gn (u := .opt (((decide (0 ≤ x.G5)) && (decide (x.G5 < (s.Columns.length : Int)))) && (decide (0 ≤ x.Tier))) (.dptr ((G5.cs y3).drop 3))) O O ⟨H3 [(30, .dptr (G5.cs y3))] O O O .sct ⟨.all id, trivial⟩ (fun hc => Gb tf_field_56_3 O O O) O, trivial⟩ ?_
 refine Gn (u := .opt (((decide (0 ≤ x.G5)) && (decide (x.G5 < (s.Columns.length : Int)))) && (decide (0 ≤ x.Tier))) (G0 y3.Tiers)) O O ⟨H3 [(31, .dptr ((G5.cs y3).drop 3))] O O O .sct ⟨.all id, trivial⟩ (fun hc => Gf Ga O O O) O, trivial⟩ ?_
 refine Gn (u := .opt (((decide (0 ≤ x.G5)) && (decide (x.G5 < (s.Columns.length : Int)))) && (decide (0 ≤ x.Tier))) (BL (decide (x.Tier < y3.Tiers)))) O O ⟨H3 [(25, G0 x.Tier), (32, G0 y3.Tiers)] O O O .sct ⟨.all id, .all id, trivial⟩ (fun hc => He O O O) O, trivial⟩ ?_
 refine Gn (u := BL ((((decide (0 ≤ x.G5)) && (decide (x.G5 < (s.Columns.length : Int)))) && (decide (0 ≤ x.Tier))) && (decide (x.Tier < y3.Tiers)))) O O ⟨Gp (J2 O O O O) O, trivial⟩ ?_
 refine Gn (u := BL ((((decide (0 ≤ x.G5)) && (decide (x.G5 < (s.Columns.length : Int)))) && (decide (0 ≤ x.Tier))) && (decide (x.Tier < y3.Tiers)))) O O ⟨Gp (G7 O O) O, trivial⟩ ?_
 refine Gn (u := .opt ((((decide (0 ≤ x.G5)) && (decide (x.G5 < (s.Columns.length : Int)))) && (decide (0 ≤ x.Tier))) && (decide (x.Tier < y3.Tiers))) (U8 size)) O O ⟨H3 [] O O O .sct trivial (fun hc => G7 O O) O, trivial⟩ ?_
 refine Gn (u := .opt ((((decide (0 ≤ x.G5)) && (decide (x.G5 < (s.Columns.length : Int)))) && (decide (0 ≤ x.Tier))) && (decide (x.Tier < y3.Tiers))) (LS 1 U8 r4)) O O ⟨H3 [(36, U8 size)] O O O .sct ⟨.all id, trivial⟩ (fun hc => Gr (args := [U8 size]) O (M_slot_halves_w size r4 (bif_t hc hr4)) tf_call_71 ⟨O, O, trivial⟩) O, trivial⟩ ?_
 refine Gn (u := .opt ((((decide (0 ≤ x.G5)) && (decide (x.G5 < (s.Columns.length : Int)))) && (decide (0 ≤ x.Tier))) && (decide (x.Tier < y3.Tiers))) (.dptr [U8 x.Half])) O O ⟨H3 [] O O O .sct trivial (fun hc => Gb Jg O O O) O, trivial⟩ ?_
 refine Gn (u := .opt ((((decide (0 ≤ x.G5)) && (decide (x.G5 < (s.Columns.length : Int)))) && (decide (0 ≤ x.Tier))) && (decide (x.Tier < y3.Tiers))) (U8 x.Half)) O O ⟨H3 [(38, .dptr [U8 x.Half])] O O O .sct ⟨.all id, trivial⟩ (fun hc => Gf H7 O O O) O, trivial⟩ ?_
 refine Gn (u := .opt ((((decide (0 ≤ x.G5)) && (decide (x.G5 < (s.Columns.length : Int)))) && (decide (0 ≤ x.Tier))) && (decide (x.Tier < y3.Tiers))) (BL r5)) O O ⟨H3 [(37, LS 1 U8 r4), (39, U8 x.Half)] O O O .sct ⟨.all id, .all id, trivial⟩ (fun hc => Gr (args := [LS 1 U8 r4, U8 x.Half]) O (M_slices_Contains_uint8_w r4 x.Half r5 (bif_t hc hr5)) tf_call_70 ⟨O, O, O, O, trivial⟩) O, trivial⟩ ?_
 refine Gn (u := BL (((((decide (0 ≤ x.G5)) && (decide (x.G5 < (s.Columns.length : Int)))) && (decide (0 ≤ x.Tier))) && (decide (x.Tier < y3.Tiers))) && r5)) O O ⟨Gp (J2 O O O O) O, trivial⟩ ?_
 refine Gn (u := BL (((((decide (0 ≤ x.G5)) && (decide (x.G5 < (s.Columns.length : Int)))) && (decide (0 ≤ x.Tier))) && (decide (x.Tier < y3.Tiers))) && r5)) O O ⟨Gp (G9 O O) O, trivial⟩ ?_
 refine D_nil ?_
 refine hK2 _ _ ?_
 refine Gq ?_
 exact ⟨[BL (((((decide (0 ≤ x.G5)) && (decide (x.G5 < (s.Columns.length : Int)))) && (decide (0 ≤ x.Tier))) && (decide (x.Tier < y3.Tiers))) && r5)], [], trivial, O, ⟨⟨_, O, .conv (.same O)⟩, trivial⟩, O, congrArg (fun r : Bool => (BL r : AV)) (Option.some.inj h)⟩

def M_slices_Index_apiSlot (s : List Slot) (v : Slot) : Option Int :=
 each (fun y18 i18 (s18 : Unit) nx18 =>
  bif decide (v = y18) then
  (some (i18 : Int))
  else
  (nx18 ()))
 (fun (s18 : Unit) =>
  some (-1)) s 0 ()
theorem M_slices_Index_apiSlot_w (s : List Slot) (v : Slot) (r : Int) (h : M_slices_Index_apiSlot s v = some r) : Pure Tryz.prog 99 [LS 3 Slot.av s, .agg [G0 v.G5, G0 v.Tier, U8 v.Half]] (· = G0 r) := by
 unfold M_slices_Index_apiSlot at h
 refine Gx [.tmp 4] Tryz.func99 O O ?_
 refine G6 fun K1 hK1 => G2 ?_
 refine JLg (.ptr 1156 0) (J1 (u := .agg [G0 v.G5, G0 v.Tier, U8 v.Half]) (cs := [G0 v.G5, G0 v.Tier, U8 v.Half]) 1156 O O O O O) ?_
 refine JLg (G0 0) (G9 O O) ?_
 refine G8 (hK1 _ _ ?_)
 refine Gm [(0, LS 3 Slot.av s), (3, .dptr [G0 v.G5, G0 v.Tier, U8 v.Half])] [] 1156 rfl rfl rfl trivial rfl (by exact ⟨.conv (.same rfl), .ptr, trivial⟩) ?_
 refine G6 (fun K2 hK2 => ?_)
 refine G6 fun K3 hK3 => G2 ?_
 refine JLg (LS 3 Slot.av s) (G7 O O) ?_
 refine H9 (f := Slot.av) (xs := s) Jj O O (fun hm7 => ?_) O O O
 refine JLg (G0 0) (G7 O O) ?_
 refine G8 (hK3 _ _ ?_)
 refine Gi ?_
 obtain ⟨b18, kx18, hb18, hkx18, h⟩ := Hi h
 refine Gz (fun i18 (s18 : Unit) => each b18 kx18 (List.drop i18 s) i18 s18 = some r) (fun i18 s18 => [(0, LS 3 Slot.av s), (3, .dptr [G0 v.G5, G0 v.Tier, U8 v.Half]), (7, G0 (s.length : Int)), (8, G0 (i18 : Int))]) (fun i18 s18 => []) (fun i18 => s.length - i18) 0 () h ⟨(by repeat' constructor), trivial, rfl⟩ ?_
 clear h
 intro i18 s18 hi18 K18 e18
 refine G6 fun K19 hK19 => G2 ?_
 refine JLg (BL (decide ((i18 : Int) < (s.length : Int)))) (He O O O) ?_
 refine G8 (hK19 _ _ ?_)
 refine G6 (fun K20 hK20 => ?_)
 refine Gh O (fun hb => ?_) (fun hb => ?_)
 ·
  have hk18 := lt_len hb
  obtain ⟨y18, nx18, hy18, hn18, h⟩ := Ha hi18 hk18
  replace h := app4 hb18 h
  refine Gj ?_
  refine hK20 _ _ ?_
  refine G6 (fun K21 hK21 => ?_)
  refine Gi ?_
  refine G6 fun K22 hK22 => G2 ?_
  refine JLg (G0 (i18 : Int)) (G7 O O) ?_
  refine JLg (G0 (i18 : Int)) (G9 O O) ?_
  refine G8 (hK22 _ _ ?_)
  refine G6 (fun K23 hK23 => ?_)
  refine Jc [] [0, 0, 0, 0, 0, 0] [0, 0, 0, 0, 0, 0] [[]] J5 (by kernel_rfl) rfl rfl ?_
  refine Gn (u := .agg [G0 v.G5, G0 v.Tier, U8 v.Half]) O O ⟨Gp (Gg Hr O O O) O, trivial⟩ ?_
  refine Gn (u := LS 3 Slot.av s) O O ⟨Gp (G7 O O) O, trivial⟩ ?_
  refine Gn (u := G0 (i18 : Int)) O O ⟨Gp (G7 O O) O, trivial⟩ ?_
  refine Gn (u := .dptr (Slot.cs y18)) O O ⟨Gp (Gw (f := Slot.av) (xs := s) (y := y18) O O O Jj hy18 O) O, trivial⟩ ?_
  refine Gn (u := .agg (Slot.cs y18)) O O ⟨Gp (Gg Hr O O O) O, trivial⟩ ?_
  refine Gn (u := BL (decide (v = y18))) O O ⟨Gp (A_eqAgg (vs := [.int .i64 v.G5, .int .i64 v.Tier, .int .u8 v.Half]) (us := [.int .i64 y18.G5, .int .i64 y18.Tier, .int .u8 y18.Half]) 4 O (tq_51 v y18) tf_aggof_51 tf_eqg_51 O O O) O, trivial⟩ ?_
  refine D_nil ?_
  refine hK23 _ _ ?_
  refine Gh O (fun hb => ?_) (fun hb => ?_)
  ·
   replace h := bif_t hb h
   refine G6 fun K24 hK24 => G2 ?_
   refine JLg (G0 (i18 : Int)) (G7 O O) ?_
   refine JLg (G0 (i18 : Int)) (G9 O O) ?_
   refine G8 (hK24 _ _ ?_)
   refine Gq ?_
   exact ⟨[G0 (i18 : Int)], [], trivial, O, ⟨⟨_, O, .conv (.same O)⟩, trivial⟩, O, congrArg (fun r : Int => (G0 r : AV)) (Option.some.inj h)⟩
  ·
   replace h := bif_f hb h
   refine Gj ?_
   refine hK21 _ _ ?_
   refine G2 ?_
   refine JLg (G0 ((i18 + 1 : Nat) : Int)) (Hd (idx_succ hk18 hm7) O O O) ?_
   refine JLg (G0 ((i18 + 1 : Nat) : Int)) (G7 O O) ?_
   refine G8 ?_
   exact e18 _ _ (i18 + 1) () (app1 hn18 h) (by omega) ⟨(by repeat' constructor), trivial, rfl⟩
 ·
  have h := app1 hkx18 (Hb hi18 (Gy hb))
  refine H4 ?_
  refine hK2 _ _ ?_
  refine G6 fun K25 hK25 => G2 ?_
  refine JLg (G0 (-1)) (G9 O O) ?_
  refine G8 (hK25 _ _ ?_)
  refine Gq ?_
  exact ⟨[G0 (-1)], [], trivial, O, ⟨⟨_, O, .conv (.same O)⟩, trivial⟩, O, congrArg (fun r : Int => (G0 r : AV)) (Option.some.inj h)⟩

def M_slices_Contains_apiSlot (s : List Slot) (v : Slot) : Option Bool :=
 bnd (M_slices_Index_apiSlot s v) fun r3 =>
 some (decide (0 ≤ r3))
theorem M_slices_Contains_apiSlot_w (s : List Slot) (v : Slot) (r : Bool) (h : M_slices_Contains_apiSlot s v = some r) : Pure Tryz.prog 73 [LS 3 Slot.av s, .agg [G0 v.G5, G0 v.Tier, U8 v.Half]] (· = BL r) := by
 unfold M_slices_Contains_apiSlot at h
 refine Gx [.tmp 4] Tryz.func73 O O ?_
 refine G6 fun K1 hK1 => G2 ?_
 refine JLg (.ptr 1146 0) (J1 (u := .agg [G0 v.G5, G0 v.Tier, U8 v.Half]) (cs := [G0 v.G5, G0 v.Tier, U8 v.Half]) 1146 O O O O O) ?_
 refine JLg (BL false) (G9 O O) ?_
 refine G8 (hK1 _ _ ?_)
 refine Gm [(0, LS 3 Slot.av s), (3, .dptr [G0 v.G5, G0 v.Tier, U8 v.Half])] [] 1146 rfl rfl rfl trivial rfl (by exact ⟨.conv (.same rfl), .ptr, trivial⟩) ?_
 refine G6 fun K2 hK2 => G2 ?_
 refine JLg (LS 3 Slot.av s) (G7 O O) ?_
 refine JLg (.agg [G0 v.G5, G0 v.Tier, U8 v.Half]) (Gg Hr O O O) ?_
 obtain ⟨r3, hr3, h⟩ := Ge h
 refine JLg (G0 r3) (Gr (args := [LS 3 Slot.av s, .agg [G0 v.G5, G0 v.Tier, U8 v.Half]]) O (M_slices_Index_apiSlot_w s v r3 hr3) tf_call_99 ⟨O, O, O, O, trivial⟩) ?_
 refine JLg (BL (decide (0 ≤ r3))) (A_geq O O O) ?_
 refine JLg (BL (decide (0 ≤ r3))) (G9 O O) ?_
 refine G8 (hK2 _ _ ?_)
 refine Gq ?_
 exact ⟨[BL (decide (0 ≤ r3))], [], trivial, O, ⟨⟨_, O, .conv (.same O)⟩, trivial⟩, O, congrArg (fun r : Bool => (BL r : AV)) (Option.some.inj h)⟩

def M_slot_Held_1 (half : Int) (p1 : List Slot) (p2 : Slot) : Option Bool :=
 chk (p2.Tier - 1) fun v3 =>
 bnd (M_slices_Contains_apiSlot p1 (Slot.mk p2.G5 v3 half)) fun r4 =>
 some r4
theorem M_slot_Held_1_w (half : Int) (p1 : List Slot) (p2 : Slot) (r : Bool) (h : M_slot_Held_1 half p1 p2 = some r) : Pure Tryz.prog 72 [U8 half, .dptr [LS 3 Slot.av p1], .dptr [G0 p2.G5, G0 p2.Tier, U8 p2.Half]] (· = BL r) := by
 unfold M_slot_Held_1 at h
 refine Gx [.tmp 4] Tryz.func72 O O ?_
 refine G6 fun K1 hK1 => G2 ?_
 refine JLg (BL false) (G9 O O) ?_
 refine G8 (hK1 _ _ ?_)
 refine G6 fun K2 hK2 => G2 ?_
 refine JLg (LS 3 Slot.av p1) (Gf tf_scalar_105 O O O) ?_
 refine JLg (.dptr [G0 p2.G5, G0 p2.Tier, U8 p2.Half]) (Gb Hh O O O) ?_
 refine JLg (G0 p2.G5) (Gf Ga O O O) ?_
 refine JLg (.dptr [G0 p2.Tier, U8 p2.Half]) (Gb Hz O O O) ?_
 refine JLg (G0 p2.Tier) (Gf Ga O O O) ?_
 obtain ⟨v3, hv3, h⟩ := H6 h
 refine JLg (G0 v3) (Jx hv3 O O O) ?_
 refine JLg (U8 half) (G7 O O) ?_
 refine JLg (.agg [G0 p2.G5, G0 v3, U8 half]) (H8 (cs := [G0 p2.G5, G0 v3, U8 half]) [(0, 1), (1, 1), (2, 1)] [G0 0, G0 0, U8 0] [.int .i64 0, .int .i64 0, .int .u8 0] tf_places_51 tf_zero_51 ⟨.inl O, .inl O, .inl O, trivial⟩ O O) ?_
 obtain ⟨r4, hr4, h⟩ := Ge h
 refine JLg (BL r4) (Gr (args := [LS 3 Slot.av p1, .agg [G0 p2.G5, G0 v3, U8 half]]) O (M_slices_Contains_apiSlot_w p1 (Slot.mk p2.G5 v3 half) r4 hr4) tf_call_73 ⟨O, O, O, O, trivial⟩) ?_
 refine JLg (BL r4) (G9 O O) ?_
 refine G8 (hK2 _ _ ?_)
 refine Gq ?_
 exact ⟨[BL r4], [], trivial, O, ⟨⟨_, O, .conv (.same O)⟩, trivial⟩, O, congrArg (fun r : Bool => (BL r : AV)) (Option.some.inj h)⟩

def M_slot_Held (x : Slot) (l : List Slot) : Option Bool :=
 bif decide (x.Tier ≤ 0) then
 (some true)
 else
 (bnd (M_slot_Held_1 x.Half l x) fun r7 =>
  bnd (bif ((!r7) && (decide (x.Half = 0))) then M_slot_Held_1 1 l x else some default) fun r8 =>
  bnd (bif ((!r7) && ((decide (x.Half = 0)) && r8)) then M_slot_Held_1 2 l x else some default) fun r9 =>
  some (r7 || (((decide (x.Half = 0)) && r8) && r9)))
theorem M_slot_Held_w (x : Slot) (l : List Slot) (r : Bool) (h : M_slot_Held x l = some r) : Pure Tryz.prog 48 [.agg [G0 x.G5, G0 x.Tier, U8 x.Half], LS 3 Slot.av l] (· = BL r) := by
 unfold M_slot_Held at h
 refine Gx [.tmp 4] Tryz.func48 O O ?_
 refine G6 fun K1 hK1 => G2 ?_
 refine JLg (.ptr 1119 0) (J1 (u := .agg [G0 x.G5, G0 x.Tier, U8 x.Half]) (cs := [G0 x.G5, G0 x.Tier, U8 x.Half]) 1119 O O O O O) ?_
 refine JLg (.ptr 1120 0) (J1 (u := LS 3 Slot.av l) (cs := [LS 3 Slot.av l]) 1120 O O O O O) ?_
 refine JLg (BL false) (G9 O O) ?_
 refine G8 (hK1 _ _ ?_)
 refine Gm [(2, .dptr [G0 x.G5, G0 x.Tier, U8 x.Half]), (3, .ptr 1120 0)] [(1120, .box 105 [LS 3 Slot.av l])] 1119 rfl rfl rfl ⟨⟨_, rfl, .boxEq rfl rfl⟩, trivial⟩ rfl (by exact ⟨.ptr, .conv (.same rfl), trivial⟩) ?_
 refine Gm [(2, .dptr [G0 x.G5, G0 x.Tier, U8 x.Half]), (3, .dptr [LS 3 Slot.av l])] [] 1120 rfl rfl rfl trivial rfl (by exact ⟨.conv (.same rfl), .ptr, trivial⟩) ?_
 refine G6 (fun K2 hK2 => ?_)
 refine G6 fun K3 hK3 => G2 ?_
 refine JLg (.dptr [G0 x.Tier, U8 x.Half]) (Gb Hz O O O) ?_
 refine JLg (G0 x.Tier) (Gf Ga O O O) ?_
 refine JLg (BL (decide (x.Tier ≤ 0))) (A_leq O O O) ?_
 refine G8 (hK3 _ _ ?_)
 refine Gh O (fun hb => ?_) (fun hb => ?_)
 ·
  replace h := bif_t hb h
  refine G6 fun K4 hK4 => G2 ?_
  refine JLg (BL true) (G9 O O) ?_
  refine G8 (hK4 _ _ ?_)
  refine Gq ?_
  exact ⟨[BL true], [], trivial, O, ⟨⟨_, O, .conv (.same O)⟩, trivial⟩, O, congrArg (fun r : Bool => (BL r : AV)) (Option.some.inj h)⟩
 ·
  replace h := bif_f hb h
  refine Gj ?_
  refine hK2 _ _ ?_
  refine G6 fun K5 hK5 => G2 ?_
  refine JLg (.fn 72 [.dptr [LS 3 Slot.av l], .dptr [G0 x.G5, G0 x.Tier, U8 x.Half]]) (A_makeFunc (cs := [.dptr [LS 3 Slot.av l], .dptr [G0 x.G5, G0 x.Tier, U8 x.Half]]) O O) ?_
  refine JLg (.fn 72 [.dptr [LS 3 Slot.av l], .dptr [G0 x.G5, G0 x.Tier, U8 x.Half]]) (G9 O O) ?_
  refine G8 (hK5 _ _ ?_)
  refine G6 fun K6 hK6 => G2 ?_
  refine JLg (.fn 72 [.dptr [LS 3 Slot.av l], .dptr [G0 x.G5, G0 x.Tier, U8 x.Half]]) (G7 O O) ?_
  refine JLg (.dptr [U8 x.Half]) (Gb Jg O O O) ?_
  refine JLg (U8 x.Half) (Gf H7 O O O) ?_
  obtain ⟨r7, hr7, h⟩ := Ge h
  refine JLg (BL r7) (Q8 (args := [U8 x.Half]) (caps := [.dptr [LS 3 Slot.av l], .dptr [G0 x.G5, G0 x.Tier, U8 x.Half]]) O O (M_slot_Held_1_w x.Half l x r7 hr7) tf_call_72 ⟨O, O, trivial⟩ O) ?_
  refine JLg (BL r7) (G7 O O) ?_
  refine Gd (u := .dptr [U8 x.Half]) [] O O O .scf trivial (fun hc => Gb Jg O O O) ?_
  refine Gd (u := U8 x.Half) [(15, .dptr [U8 x.Half])] O O O .scf ⟨.all id, trivial⟩ (fun hc => Gf H7 O O O) ?_
  refine Gd (u := BL (decide (x.Half = 0))) [(16, U8 x.Half)] O O O .scf ⟨.all id, trivial⟩ (fun hc => Hx O O O) ?_
  refine Gd (u := BL (decide (x.Half = 0))) [(17, BL (decide (x.Half = 0)))] O O O .scf ⟨.all id, trivial⟩ (fun hc => G7 O O) ?_
  refine Gd (u := .fn 72 [.dptr [LS 3 Slot.av l], .dptr [G0 x.G5, G0 x.Tier, U8 x.Half]]) [] O O O .optt trivial (fun hc => G7 O O) ?_
  obtain ⟨r8, hr8, h⟩ := Ge h
  refine Gd (u := BL r8) [(19, .fn 72 [.dptr [LS 3 Slot.av l], .dptr [G0 x.G5, G0 x.Tier, U8 x.Half]])] O O O .optt ⟨.all id, trivial⟩ (fun hc => Q8 (args := [U8 1]) (caps := [.dptr [LS 3 Slot.av l], .dptr [G0 x.G5, G0 x.Tier, U8 x.Half]]) O O (M_slot_Held_1_w 1 l x r8 (bif_t hc hr8)) tf_call_72 ⟨O, O, trivial⟩ O) ?_
  refine Gd (u := BL ((decide (x.Half = 0)) && r8)) [(18, BL (decide (x.Half = 0))), (20, _)] O O O .scf ⟨.all id, .part, trivial⟩ (fun hc => J2 O O O O) ?_
  refine Gd (u := BL ((decide (x.Half = 0)) && r8)) [(21, BL ((decide (x.Half = 0)) && r8))] O O O .scf ⟨.all id, trivial⟩ (fun hc => G7 O O) ?_
  refine Gd (u := .fn 72 [.dptr [LS 3 Slot.av l], .dptr [G0 x.G5, G0 x.Tier, U8 x.Half]]) [] O O O .optt trivial (fun hc => G7 O O) ?_
  obtain ⟨r9, hr9, h⟩ := Ge h
  refine Gd (u := BL r9) [(23, .fn 72 [.dptr [LS 3 Slot.av l], .dptr [G0 x.G5, G0 x.Tier, U8 x.Half]])] O O O .optt ⟨.all id, trivial⟩ (fun hc => Q8 (args := [U8 2]) (caps := [.dptr [LS 3 Slot.av l], .dptr [G0 x.G5, G0 x.Tier, U8 x.Half]]) O O (M_slot_Held_1_w 2 l x r9 (bif_t hc hr9)) tf_call_72 ⟨O, O, trivial⟩ O) ?_
  refine Gd (u := BL (((decide (x.Half = 0)) && r8) && r9)) [(22, BL ((decide (x.Half = 0)) && r8)), (24, _)] O O O .scf ⟨.all id, .part, trivial⟩ (fun hc => J2 O O O O) ?_
  refine JLg (BL (r7 || (((decide (x.Half = 0)) && r8) && r9))) (Q0 O O O O) ?_
  refine JLg (BL (r7 || (((decide (x.Half = 0)) && r8) && r9))) (G9 O O) ?_
  refine G8 (hK6 _ _ ?_)
  refine Gq ?_
  exact ⟨[BL (r7 || (((decide (x.Half = 0)) && r8) && r9))], [], trivial, O, ⟨⟨_, O, .conv (.same O)⟩, trivial⟩, O, congrArg (fun r : Bool => (BL r : AV)) (Option.some.inj h)⟩

def M_slot_shares (a : Int) (b : Int) : Option Bool :=
 some (((decide (a = b)) || (decide (a = 0))) || (decide (b = 0)))
theorem M_slot_shares_w (a : Int) (b : Int) (r : Bool) (h : M_slot_shares a b = some r) : Pure Tryz.prog 74 [U8 a, U8 b] (· = BL r) := by
 unfold M_slot_shares at h
 refine Gx [.tmp 4] Tryz.func74 O O ?_
 refine G6 fun K1 hK1 => G2 ?_
 refine JLg (BL false) (G9 O O) ?_
 refine G8 (hK1 _ _ ?_)
 refine G6 fun K2 hK2 => G2 ?_
 refine JLg (U8 a) (G7 O O) ?_
 refine JLg (U8 b) (G7 O O) ?_
 refine JLg (BL (decide (a = b))) (Hx O O O) ?_
 refine JLg (BL (decide (a = b))) (G7 O O) ?_
 refine Gd (u := U8 a) [] O O O .scf trivial (fun hc => G7 O O) ?_
 refine Gd (u := BL (decide (a = 0))) [(9, U8 a)] O O O .scf ⟨.all id, trivial⟩ (fun hc => Hx O O O) ?_
 refine JLg (BL ((decide (a = b)) || (decide (a = 0)))) (Q0 O O O O) ?_
 refine JLg (BL ((decide (a = b)) || (decide (a = 0)))) (G7 O O) ?_
 refine Gd (u := U8 b) [] O O O .scf trivial (fun hc => G7 O O) ?_
 refine Gd (u := BL (decide (b = 0))) [(13, U8 b)] O O O .scf ⟨.all id, trivial⟩ (fun hc => Hx O O O) ?_
 refine JLg (BL (((decide (a = b)) || (decide (a = 0))) || (decide (b = 0)))) (Q0 O O O O) ?_
 refine JLg (BL (((decide (a = b)) || (decide (a = 0))) || (decide (b = 0)))) (G9 O O) ?_
 refine G8 (hK2 _ _ ?_)
 refine Gq ?_
 exact ⟨[BL (((decide (a = b)) || (decide (a = 0))) || (decide (b = 0)))], [], trivial, O, ⟨⟨_, O, .conv (.same O)⟩, trivial⟩, O, congrArg (fun r : Bool => (BL r : AV)) (Option.some.inj h)⟩

def M_slot_Meet (a : Slot) (b : Slot) : Option Bool :=
 bnd (bif ((decide (a.G5 = b.G5)) && (decide (a.Tier = b.Tier))) then M_slot_shares a.Half b.Half else some default) fun r3 =>
 some (((decide (a.G5 = b.G5)) && (decide (a.Tier = b.Tier))) && r3)
theorem M_slot_Meet_w (a : Slot) (b : Slot) (r : Bool) (h : M_slot_Meet a b = some r) : Pure Tryz.prog 49 [.agg [G0 a.G5, G0 a.Tier, U8 a.Half], .agg [G0 b.G5, G0 b.Tier, U8 b.Half]] (· = BL r) := by
 unfold M_slot_Meet at h
 refine Gx [.tmp 4] Tryz.func49 O O ?_
 refine G6 fun K1 hK1 => G2 ?_
 refine JLg (.ptr 1121 0) (J1 (u := .agg [G0 a.G5, G0 a.Tier, U8 a.Half]) (cs := [G0 a.G5, G0 a.Tier, U8 a.Half]) 1121 O O O O O) ?_
 refine JLg (.ptr 1122 0) (J1 (u := .agg [G0 b.G5, G0 b.Tier, U8 b.Half]) (cs := [G0 b.G5, G0 b.Tier, U8 b.Half]) 1122 O O O O O) ?_
 refine JLg (BL false) (G9 O O) ?_
 refine G8 (hK1 _ _ ?_)
 refine Gm [(2, .dptr [G0 a.G5, G0 a.Tier, U8 a.Half]), (3, .ptr 1122 0)] [(1122, .box 51 [G0 b.G5, G0 b.Tier, U8 b.Half])] 1121 rfl rfl rfl ⟨⟨_, rfl, .boxEq rfl rfl⟩, trivial⟩ rfl (by exact ⟨.ptr, .conv (.same rfl), trivial⟩) ?_
 refine Gm [(2, .dptr [G0 a.G5, G0 a.Tier, U8 a.Half]), (3, .dptr [G0 b.G5, G0 b.Tier, U8 b.Half])] [] 1122 rfl rfl rfl trivial rfl (by exact ⟨.conv (.same rfl), .ptr, trivial⟩) ?_
 refine G6 fun K2 hK2 => G2 ?_
 refine JLg (.dptr [G0 a.G5, G0 a.Tier, U8 a.Half]) (Gb Hh O O O) ?_
 refine JLg (G0 a.G5) (Gf Ga O O O) ?_
 refine JLg (.dptr [G0 b.G5, G0 b.Tier, U8 b.Half]) (Gb Hh O O O) ?_
 refine JLg (G0 b.G5) (Gf Ga O O O) ?_
 refine JLg (BL (decide (a.G5 = b.G5))) (Hx O O O) ?_
 refine JLg (BL (decide (a.G5 = b.G5))) (G7 O O) ?_
 refine Gd (u := .dptr [G0 a.Tier, U8 a.Half]) [] O O O .sct trivial (fun hc => Gb Hz O O O) ?_
 refine Gd (u := G0 a.Tier) [(11, .dptr [G0 a.Tier, U8 a.Half])] O O O .sct ⟨.all id, trivial⟩ (fun hc => Gf Ga O O O) ?_
 refine Gd (u := .dptr [G0 b.Tier, U8 b.Half]) [] O O O .sct trivial (fun hc => Gb Hz O O O) ?_
 refine Gd (u := G0 b.Tier) [(13, .dptr [G0 b.Tier, U8 b.Half])] O O O .sct ⟨.all id, trivial⟩ (fun hc => Gf Ga O O O) ?_
 refine Gd (u := BL (decide (a.Tier = b.Tier))) [(12, G0 a.Tier), (14, G0 b.Tier)] O O O .sct ⟨.all id, .all id, trivial⟩ (fun hc => Hx O O O) ?_
 refine JLg (BL ((decide (a.G5 = b.G5)) && (decide (a.Tier = b.Tier)))) (J2 O O O O) ?_
 refine JLg (BL ((decide (a.G5 = b.G5)) && (decide (a.Tier = b.Tier)))) (G7 O O) ?_
 refine Gd (u := .dptr [U8 a.Half]) [] O O O .sct trivial (fun hc => Gb Jg O O O) ?_
 refine Gd (u := U8 a.Half) [(18, .dptr [U8 a.Half])] O O O .sct ⟨.all id, trivial⟩ (fun hc => Gf H7 O O O) ?_
 refine Gd (u := .dptr [U8 b.Half]) [] O O O .sct trivial (fun hc => Gb Jg O O O) ?_
 refine Gd (u := U8 b.Half) [(20, .dptr [U8 b.Half])] O O O .sct ⟨.all id, trivial⟩ (fun hc => Gf H7 O O O) ?_
 obtain ⟨r3, hr3, h⟩ := Ge h
 refine Gd (u := BL r3) [(19, U8 a.Half), (21, U8 b.Half)] O O O .sct ⟨.all id, .all id, trivial⟩ (fun hc => Gr (args := [U8 a.Half, U8 b.Half]) O (M_slot_shares_w a.Half b.Half r3 (bif_t hc hr3)) tf_call_74 ⟨O, O, O, O, trivial⟩) ?_
 refine JLg (BL (((decide (a.G5 = b.G5)) && (decide (a.Tier = b.Tier))) && r3)) (J2 O O O O) ?_
 refine JLg (BL (((decide (a.G5 = b.G5)) && (decide (a.Tier = b.Tier))) && r3)) (G9 O O) ?_
 refine G8 (hK2 _ _ ?_)
 refine Gq ?_
 exact ⟨[BL (((decide (a.G5 = b.G5)) && (decide (a.Tier = b.Tier))) && r3)], [], trivial, O, ⟨⟨_, O, .conv (.same O)⟩, trivial⟩, O, congrArg (fun r : Bool => (BL r : AV)) (Option.some.inj h)⟩

def M_stow_tall (b : Box) : Option Int :=
 bif b.High then
 (some 2896)
 else
 (some 2591)
theorem M_stow_tall_w (b : Box) (r : Int) (h : M_stow_tall b = some r) : Pure Tryz.prog 100 [.agg (Box.cs b)] (· = G0 r) := by
 unfold M_stow_tall at h
 refine Gx [.tmp 2] Tryz.func100 O O ?_
 refine G6 fun K1 hK1 => G2 ?_
 refine JLg (.ptr 1157 0) (J1 (u := .agg (Box.cs b)) (cs := (Box.cs b)) 1157 O O O O O) ?_
 refine JLg (G0 0) (G9 O O) ?_
 refine G8 (hK1 _ _ ?_)
 refine Gm [(1, .dptr (Box.cs b))] [] 1157 rfl rfl rfl trivial rfl (by exact ⟨.ptr, trivial⟩) ?_
 refine G6 (fun K2 hK2 => ?_)
 refine G6 fun K3 hK3 => G2 ?_
 refine JLg (.dptr [BL b.High, G0 b.Kilos, G0 b.Load, G0 b.Discharge, U8 b.Class, BL b.Reefer]) (Gb tf_field_81_3 O O O) ?_
 refine JLg (BL b.High) (Gf J9 O O O) ?_
 refine G8 (hK3 _ _ ?_)
 refine Gh O (fun hb => ?_) (fun hb => ?_)
 ·
  replace h := bif_t hb h
  refine G6 fun K4 hK4 => G2 ?_
  refine JLg (G0 2896) (G9 O O) ?_
  refine G8 (hK4 _ _ ?_)
  refine Gq ?_
  exact ⟨[G0 2896], [], trivial, O, ⟨⟨_, O, .conv (.same O)⟩, trivial⟩, O, congrArg (fun r : Int => (G0 r : AV)) (Option.some.inj h)⟩
 ·
  replace h := bif_f hb h
  refine Gj ?_
  refine hK2 _ _ ?_
  refine G6 fun K5 hK5 => G2 ?_
  refine JLg (G0 2591) (G9 O O) ?_
  refine G8 (hK5 _ _ ?_)
  refine Gq ?_
  exact ⟨[G0 2591], [], trivial, O, ⟨⟨_, O, .conv (.same O)⟩, trivial⟩, O, congrArg (fun r : Int => (G0 r : AV)) (Option.some.inj h)⟩

def M_stow_Height (boxes : List Box) (l : List G3) (column : Int) (half : Int) : Option Int :=
 each (fun y27 i27 (s27 : Int) nx27 =>
  jp (fun kj30 =>
   bif ((decide (y27.Slot.G5 = column)) && ((decide (y27.Slot.Half = half)) || (decide (y27.Slot.Half = 0)))) then
   (bnd (M_stow_Find boxes y27.Box) fun r34 =>
    bif r34.2 then
    (bnd (M_stow_tall r34.1) fun r36 =>
     chk (s27 + r36) fun v37 =>
     kj30 v37)
    else
    (kj30 s27))
   else
   (kj30 s27)) fun (j30 : Int) =>
  nx27 j30)
 (fun (s27 : Int) =>
  some s27) l 0 0
theorem M_stow_Height_w (boxes : List Box) (l : List G3) (column : Int) (half : Int) (r : Int) (h : M_stow_Height boxes l column half = some r) : Pure Tryz.prog 75 [LS 9 Box.av boxes, LS 4 G3.av l, G0 column, U8 half] (· = G0 r) := by
 unfold M_stow_Height at h
 refine Gx [.tmp 8] Tryz.func75 O O ?_
 refine G6 fun K1 hK1 => G2 ?_
 refine JLg (G0 0) (G9 O O) ?_
 refine G8 (hK1 _ _ ?_)
 refine G6 fun K2 hK2 => G2 ?_
 refine JLg (G0 0) (G9 O O) ?_
 refine G8 (hK2 _ _ ?_)
 refine G6 (fun K3 hK3 => ?_)
 refine G6 fun K4 hK4 => G2 ?_
 refine JLg (LS 4 G3.av l) (G7 O O) ?_
 refine H9 (f := G3.av) (xs := l) Gs O O (fun hm15 => ?_) O O O
 refine JLg (G0 0) (G7 O O) ?_
 refine G8 (hK4 _ _ ?_)
 refine Gi ?_
 obtain ⟨b27, kx27, hb27, hkx27, h⟩ := Hi h
 refine Gz (fun i27 (s27 : Int) => each b27 kx27 (List.drop i27 l) i27 s27 = some r) (fun i27 s27 => [(0, LS 9 Box.av boxes), (2, G0 column), (3, U8 half), (9, G0 s27), (14, LS 4 G3.av l), (15, G0 (l.length : Int)), (16, G0 (i27 : Int))]) (fun i27 s27 => []) (fun i27 => l.length - i27) 0 0 h ⟨(by repeat' constructor), trivial, rfl⟩ ?_
 clear h
 intro i27 s27 hi27 K27 e27
 refine G6 fun K28 hK28 => G2 ?_
 refine JLg (BL (decide ((i27 : Int) < (l.length : Int)))) (He O O O) ?_
 refine G8 (hK28 _ _ ?_)
 refine G6 (fun K29 hK29 => ?_)
 refine Gh O (fun hb => ?_) (fun hb => ?_)
 ·
  have hk27 := lt_len hb
  obtain ⟨y27, nx27, hy27, hn27, h⟩ := Ha hi27 hk27
  replace h := app4 hb27 h
  refine Gj ?_
  refine hK29 _ _ ?_
  obtain ⟨kj30, hkj30, h⟩ := J6 h
  refine Hs (fun j30 : Int => kj30 j30 = some r) (fun j30 => [(0, LS 9 Box.av boxes), (2, G0 column), (3, U8 half), (9, G0 j30), (14, LS 4 G3.av l), (15, G0 (l.length : Int)), (16, G0 (i27 : Int))]) (fun j30 => []) (fun Kj30 ej30 => ?_) ?_
  ·
   refine Gi ?_
   refine G6 fun K31 hK31 => G2 ?_
   refine JLg (.dptr (G3.cs y27)) (Gw (f := G3.av) (xs := l) (y := y27) O O O Gs hy27 O) ?_
   refine JLg (.agg (G3.cs y27)) (Gg Hp O O O) ?_
   refine JLg (.ptr 1147 0) (H2 1147 4 Hk O O) ?_
   refine H1 (u := .junk) (Gt (u := .agg (G3.cs y27)) (ds := [G0 y27.Box, G0 y27.Slot.G5, G0 y27.Slot.Tier, U8 y27.Slot.Half]) J3 O O O O O O O O) ?_
   refine G8 (hK31 _ _ ?_)
   refine Gm [(0, LS 9 Box.av boxes), (2, G0 column), (3, U8 half), (9, G0 s27), (11, .dptr (G3.cs y27)), (14, LS 4 G3.av l), (15, G0 (l.length : Int)), (16, G0 (i27 : Int))] [] 1147 rfl rfl rfl trivial rfl (by repeat' (first | exact .ptr | constructor)) ?_
   refine G6 fun K32 hK32 => G2 ?_
   refine JLg (.dptr (Slot.cs y27.Slot)) (Gb Hg O O O) ?_
   refine JLg (.dptr (Slot.cs y27.Slot)) (Gb Hh O O O) ?_
   refine JLg (G0 y27.Slot.G5) (Gf Ga O O O) ?_
   refine JLg (G0 column) (G7 O O) ?_
   refine JLg (BL (decide (y27.Slot.G5 = column))) (Hx O O O) ?_
   refine JLg (BL (decide (y27.Slot.G5 = column))) (G7 O O) ?_
   refine Gd (u := .dptr (Slot.cs y27.Slot)) [] O O O .sct trivial (fun hc => Gb Hg O O O) ?_
   refine Gd (u := .dptr [U8 y27.Slot.Half]) [(26, .dptr (Slot.cs y27.Slot))] O O O .sct ⟨.all id, trivial⟩ (fun hc => Gb Jg O O O) ?_
   refine Gd (u := U8 y27.Slot.Half) [(27, .dptr [U8 y27.Slot.Half])] O O O .sct ⟨.all id, trivial⟩ (fun hc => Gf H7 O O O) ?_
   refine Gd (u := U8 half) [] O O O .sct trivial (fun hc => G7 O O) ?_
   refine Gd (u := BL (decide (y27.Slot.Half = half))) [(28, U8 y27.Slot.Half), (29, U8 half)] O O O .sct ⟨.all id, .all id, trivial⟩ (fun hc => Hx O O O) ?_
   refine Gd (u := BL (decide (y27.Slot.Half = half))) [(30, BL (decide (y27.Slot.Half = half)))] O O O .sct ⟨.all id, trivial⟩ (fun hc => G7 O O) ?_
   refine Gd (u := .dptr (Slot.cs y27.Slot)) [] O O O .optf trivial (fun hc => Gb Hg O O O) ?_
   refine Gd (u := .dptr [U8 y27.Slot.Half]) [(32, .dptr (Slot.cs y27.Slot))] O O O .optf ⟨.all id, trivial⟩ (fun hc => Gb Jg O O O) ?_
   refine Gd (u := U8 y27.Slot.Half) [(33, .dptr [U8 y27.Slot.Half])] O O O .optf ⟨.all id, trivial⟩ (fun hc => Gf H7 O O O) ?_
   refine Gd (u := BL (decide (y27.Slot.Half = 0))) [(34, U8 y27.Slot.Half)] O O O .optf ⟨.all id, trivial⟩ (fun hc => Hx O O O) ?_
   refine Gd (u := BL ((decide (y27.Slot.Half = half)) || (decide (y27.Slot.Half = 0)))) [(31, BL (decide (y27.Slot.Half = half))), (35, _)] O O O .sct ⟨.all id, .part, trivial⟩ (fun hc => Q0 O O O O) ?_
   refine JLg (BL ((decide (y27.Slot.G5 = column)) && ((decide (y27.Slot.Half = half)) || (decide (y27.Slot.Half = 0))))) (J2 O O O O) ?_
   refine G8 (hK32 _ _ ?_)
   refine Gh O (fun hb => ?_) (fun hb => ?_)
   ·
    replace h := bif_t hb h
    refine G6 fun K33 hK33 => G2 ?_
    refine JLg (LS 9 Box.av boxes) (G7 O O) ?_
    refine JLg (.dptr (G3.cs y27)) (Gb Hn O O O) ?_
    refine JLg (G0 y27.Box) (Gf Ga O O O) ?_
    obtain ⟨r34, hr34, h⟩ := Ge h
    refine JLg (.tup [.agg (Box.cs r34.1), BL r34.2]) (Gr (args := [LS 9 Box.av boxes, G0 y27.Box]) O (M_stow_Find_w boxes y27.Box r34 hr34) tf_call_46 ⟨O, O, O, O, trivial⟩) ?_
    refine JLg (.tup [.agg (Box.cs r34.1), BL r34.2]) (G7 O O) ?_
    refine JLg (.agg (Box.cs r34.1)) (Gv O O O) ?_
    refine JLg (BL r34.2) (Gv O O O) ?_
    refine JLg (.ptr 1148 0) (H2 1148 9 Jo O O) ?_
    refine H1 (u := .junk) (Gt (u := .agg (Box.cs r34.1)) (ds := (Box.cs r34.1)) tf_size_81 O O O O O O O O) ?_
    refine JLg (BL r34.2) (G9 O O) ?_
    refine G8 (hK33 _ _ ?_)
    refine Gm [(0, LS 9 Box.av boxes), (2, G0 column), (3, U8 half), (9, G0 s27), (12, .dptr (Box.cs r34.1)), (13, BL r34.2), (14, LS 4 G3.av l), (15, G0 (l.length : Int)), (16, G0 (i27 : Int))] [] 1148 rfl rfl rfl trivial rfl (by repeat' (first | exact .ptr | constructor)) ?_
    refine G6 fun K35 hK35 => G2 ?_
    refine JLg (BL r34.2) (G7 O O) ?_
    refine G8 (hK35 _ _ ?_)
    refine Gh O (fun hb => ?_) (fun hb => ?_)
    ·
     replace h := bif_t hb h
     refine G2 ?_
     refine JLg (G0 s27) (G7 O O) ?_
     refine JLg (.agg (Box.cs r34.1)) (Gg Q1 O O O) ?_
     obtain ⟨r36, hr36, h⟩ := Ge h
     refine JLg (G0 r36) (Gr (args := [.agg (Box.cs r34.1)]) O (M_stow_tall_w r34.1 r36 hr36) tf_call_100 ⟨O, O, trivial⟩) ?_
     obtain ⟨v37, hv37, h⟩ := H6 h
     refine JLg (G0 v37) (Hd hv37 O O O) ?_
     refine JLg (G0 v37) (G9 O O) ?_
     refine G8 ?_
     exact ej30 _ _ v37 h ⟨(by repeat' constructor), trivial, rfl⟩
    ·
     replace h := bif_f hb h
     refine Gj ?_
     exact ej30 _ _ s27 h ⟨(by repeat' constructor), trivial, rfl⟩
   ·
    replace h := bif_f hb h
    refine Gj ?_
    exact ej30 _ _ s27 h ⟨(by repeat' constructor), trivial, rfl⟩
  ·intro j30 h
   replace h := app1 hkj30 h
   refine G2 ?_
   refine JLg (G0 ((i27 + 1 : Nat) : Int)) (Hd (idx_succ hk27 hm15) O O O) ?_
   refine JLg (G0 ((i27 + 1 : Nat) : Int)) (G7 O O) ?_
   refine G8 ?_
   exact e27 _ _ (i27 + 1) j30 (app1 hn27 h) (by omega) ⟨(by repeat' constructor), trivial, rfl⟩
 ·
  have h := app1 hkx27 (Hb hi27 (Gy hb))
  refine H4 ?_
  refine hK3 _ _ ?_
  refine G6 fun K38 hK38 => G2 ?_
  refine JLg (G0 s27) (G7 O O) ?_
  refine JLg (G0 s27) (G9 O O) ?_
  refine G8 (hK38 _ _ ?_)
  refine Gq ?_
  exact ⟨[G0 s27], [], trivial, O, ⟨⟨_, O, .conv (.same O)⟩, trivial⟩, O, congrArg (fun r : Int => (G0 r : AV)) (Option.some.inj h)⟩

def M_stow_fits (s : Ship) (boxes : List Box) (l : List G3) (column : Int) : Option Bool :=
 gidx s.Columns column fun y3 =>
 bnd (bif (!(decide (y3.Height ≤ 0))) then M_stow_Height boxes l column 1 else some default) fun r6 =>
 bnd (bif ((!(decide (y3.Height ≤ 0))) && (decide (r6 ≤ y3.Height))) then M_stow_Height boxes l column 2 else some default) fun r7 =>
 some ((decide (y3.Height ≤ 0)) || ((decide (r6 ≤ y3.Height)) && (decide (r7 ≤ y3.Height))))
theorem M_stow_fits_w (s : Ship) (boxes : List Box) (l : List G3) (column : Int) (r : Bool) (h : M_stow_fits s boxes l column = some r) : Pure Tryz.prog 50 [.agg (Ship.cs s), LS 9 Box.av boxes, LS 4 G3.av l, G0 column] (· = BL r) := by
 unfold M_stow_fits at h
 refine Gx [.tmp 8] Tryz.func50 O O ?_
 refine G6 fun K1 hK1 => G2 ?_
 refine JLg (.ptr 1123 0) (J1 (u := .agg (Ship.cs s)) (cs := (Ship.cs s)) 1123 O O O O O) ?_
 refine JLg (BL false) (G9 O O) ?_
 refine G8 (hK1 _ _ ?_)
 refine Gm [(1, LS 9 Box.av boxes), (2, LS 4 G3.av l), (3, G0 column), (4, .dptr (Ship.cs s))] [] 1123 rfl rfl rfl trivial rfl (by repeat' (first | exact .ptr | constructor)) ?_
 refine G6 fun K2 hK2 => G2 ?_
 refine JLg (.dptr (Ship.cs s)) (Gb Hc O O O) ?_
 refine JLg (LS 12 G5.av s.Columns) (Gf Hj O O O) ?_
 refine JLg (G0 column) (G7 O O) ?_
 obtain ⟨m4, y3, hm4, hy3, h⟩ := Jq h
 refine JLg (.dptr (G5.cs y3)) (Gw (f := G5.av) (xs := s.Columns) (y := y3) O O O Hf hy3 hm4) ?_
 refine JLg (.dptr ((G5.cs y3).drop 4)) (Gb tf_field_56_4 O O O) ?_
 refine JLg (G0 y3.Height) (Gf Ga O O O) ?_
 refine JLg (G0 y3.Height) (G9 O O) ?_
 refine G8 (hK2 _ _ ?_)
 refine G6 fun K5 hK5 => G2 ?_
 refine JLg (G0 y3.Height) (G7 O O) ?_
 refine JLg (BL (decide (y3.Height ≤ 0))) (A_leq O O O) ?_
 refine JLg (BL (decide (y3.Height ≤ 0))) (G7 O O) ?_
 refine Gd (u := LS 9 Box.av boxes) [] O O O .scf trivial (fun hc => G7 O O) ?_
 refine Gd (u := LS 4 G3.av l) [] O O O .scf trivial (fun hc => G7 O O) ?_
 refine Gd (u := G0 column) [] O O O .scf trivial (fun hc => G7 O O) ?_
 obtain ⟨r6, hr6, h⟩ := Ge h
 refine Gd (u := G0 r6) [(19, LS 9 Box.av boxes), (20, LS 4 G3.av l), (21, G0 column)] O O O .scf ⟨.all id, .all id, .all id, trivial⟩ (fun hc => Gr (args := [LS 9 Box.av boxes, LS 4 G3.av l, G0 column, U8 1]) O (M_stow_Height_w boxes l column 1 r6 (bif_t hc hr6)) tf_call_75 ⟨O, O, O, O, O, O, O, O, trivial⟩) ?_
 refine Gd (u := G0 y3.Height) [] O O O .scf trivial (fun hc => G7 O O) ?_
 refine Gd (u := BL (decide (r6 ≤ y3.Height))) [(22, G0 r6), (23, G0 y3.Height)] O O O .scf ⟨.all id, .all id, trivial⟩ (fun hc => A_leq O O O) ?_
 refine Gd (u := BL (decide (r6 ≤ y3.Height))) [(24, BL (decide (r6 ≤ y3.Height)))] O O O .scf ⟨.all id, trivial⟩ (fun hc => G7 O O) ?_
 refine Gd (u := LS 9 Box.av boxes) [] O O O .optt trivial (fun hc => G7 O O) ?_
 refine Gd (u := LS 4 G3.av l) [] O O O .optt trivial (fun hc => G7 O O) ?_
 refine Gd (u := G0 column) [] O O O .optt trivial (fun hc => G7 O O) ?_
 obtain ⟨r7, hr7, h⟩ := Ge h
 refine Gd (u := G0 r7) [(26, LS 9 Box.av boxes), (27, LS 4 G3.av l), (28, G0 column)] O O O .optt ⟨.all id, .all id, .all id, trivial⟩ (fun hc => Gr (args := [LS 9 Box.av boxes, LS 4 G3.av l, G0 column, U8 2]) O (M_stow_Height_w boxes l column 2 r7 (bif_t hc hr7)) tf_call_75 ⟨O, O, O, O, O, O, O, O, trivial⟩) ?_
 refine Gd (u := G0 y3.Height) [] O O O .optt trivial (fun hc => G7 O O) ?_
 refine Gd (u := BL (decide (r7 ≤ y3.Height))) [(29, G0 r7), (30, G0 y3.Height)] O O O .optt ⟨.all id, .all id, trivial⟩ (fun hc => A_leq O O O) ?_
 refine Gd (u := BL ((decide (r6 ≤ y3.Height)) && (decide (r7 ≤ y3.Height)))) [(25, BL (decide (r6 ≤ y3.Height))), (31, _)] O O O .scf ⟨.all id, .part, trivial⟩ (fun hc => J2 O O O O) ?_
 refine JLg (BL ((decide (y3.Height ≤ 0)) || ((decide (r6 ≤ y3.Height)) && (decide (r7 ≤ y3.Height))))) (Q0 O O O O) ?_
 refine JLg (BL ((decide (y3.Height ≤ 0)) || ((decide (r6 ≤ y3.Height)) && (decide (r7 ≤ y3.Height))))) (G9 O O) ?_
 refine G8 (hK5 _ _ ?_)
 refine Gq ?_
 exact ⟨[BL ((decide (y3.Height ≤ 0)) || ((decide (r6 ≤ y3.Height)) && (decide (r7 ≤ y3.Height))))], [], trivial, O, ⟨⟨_, O, .conv (.same O)⟩, trivial⟩, O, congrArg (fun r : Bool => (BL r : AV)) (Option.some.inj h)⟩

def M_stow_Right (s : Ship) (boxes : List Box) (l : List G3) : Option Bool :=
 bnd (S_ship_Right s) fun r4 =>
 bif (!r4) then
 (some false)
 else
 (bnd (M_stow_taken l) fun r7 =>
  each (fun y10 i10 (s10 : Unit) nx10 =>
   bnd (M_stow_Find boxes y10.Box) fun r16 =>
   bnd (bif ((!(!r16.2)) && (decide (0 < (i10 : Int)))) then chk ((i10 : Int) - 1) some else some 0) fun v19 =>
   bnd (bif ((!(!r16.2)) && (decide (0 < (i10 : Int)))) then gidx l v19 some else some default) fun y20 =>
   bnd (bif (!((!r16.2) || ((decide (0 < (i10 : Int))) && (decide (y10.Box ≤ y20.Box))))) then M_slot_Right s y10.Slot r16.1.Size else some default) fun r21 =>
   bnd (bif (!(((!r16.2) || ((decide (0 < (i10 : Int))) && (decide (y10.Box ≤ y20.Box)))) || (!r21))) then M_slot_Held y10.Slot r7 else some default) fun r22 =>
   bif ((((!r16.2) || ((decide (0 < (i10 : Int))) && (decide (y10.Box ≤ y20.Box)))) || (!r21)) || (!r22)) then
   (some false)
   else
   (bnd (natIn (i10 : Int) r7.length) fun m25 =>
    each (fun y42 i42 (s42 : Unit) nx42 =>
     bnd (M_slot_Meet y10.Slot y42) fun r48 =>
     bif r48 then
     (some false)
     else
     (nx42 ()))
    (fun (s42 : Unit) =>
     nx10 ()) (r7.take m25) 0 ()))
  (fun (s10 : Unit) =>
   each (fun y64 i64 (s64 : Unit) nx64 =>
    bnd (M_stow_fits s boxes l (i64 : Int)) fun r70 =>
    bif (!r70) then
    (some false)
    else
    (nx64 ()))
   (fun (s64 : Unit) =>
    some true) s.Columns 0 ()) l 0 ())
theorem M_stow_Right_w (s : Ship) (boxes : List Box) (l : List G3) (r : Bool) (h : M_stow_Right s boxes l = some r) : Pure Tryz.prog 28 [.agg (Ship.cs s), LS 9 Box.av boxes, LS 4 G3.av l] (· = BL r) := by
 unfold M_stow_Right at h
 refine Gx [.tmp 6] Tryz.func28 O O ?_
 refine G6 fun K1 hK1 => G2 ?_
 refine JLg (.ptr 1078 0) (J1 (u := .agg (Ship.cs s)) (cs := (Ship.cs s)) 1078 O O O O O) ?_
 refine JLg (BL false) (G9 O O) ?_
 refine G8 (hK1 _ _ ?_)
 refine Gm [(1, LS 9 Box.av boxes), (2, LS 4 G3.av l), (3, .dptr (Ship.cs s))] [] 1078 rfl rfl rfl trivial rfl (by exact ⟨.conv (.same rfl), .conv (.same rfl), .ptr, trivial⟩) ?_
 refine G6 (fun K2 hK2 => ?_)
 refine G6 fun K3 hK3 => G2 ?_
 refine JLg (.agg (Ship.cs s)) (Gg H5 O O O) ?_
 obtain ⟨r4, hr4, h⟩ := Ge h
 refine JLg (BL r4) (Gr (args := [.agg (Ship.cs s)]) O (S_ship_Right_w.down s r4 hr4) tf_call_15 ⟨O, O, trivial⟩) ?_
 refine JLg (BL (!r4)) (A_not (b := r4) O O) ?_
 refine G8 (hK3 _ _ ?_)
 refine Gh O (fun hb => ?_) (fun hb => ?_)
 ·
  replace h := bif_t hb h
  refine G6 fun K5 hK5 => G2 ?_
  refine JLg (BL false) (G9 O O) ?_
  refine G8 (hK5 _ _ ?_)
  refine Gq ?_
  exact ⟨[BL false], [], trivial, O, ⟨⟨_, O, .conv (.same O)⟩, trivial⟩, O, congrArg (fun r : Bool => (BL r : AV)) (Option.some.inj h)⟩
 ·
  replace h := bif_f hb h
  refine Gj ?_
  refine hK2 _ _ ?_
  refine G6 fun K6 hK6 => G2 ?_
  refine JLg (LS 4 G3.av l) (G7 O O) ?_
  obtain ⟨r7, hr7, h⟩ := Ge h
  refine JLg (LS 3 Slot.av r7) (Gr (args := [LS 4 G3.av l]) O (M_stow_taken_w l r7 hr7) tf_call_45 ⟨O, O, trivial⟩) ?_
  refine JLg (LS 3 Slot.av r7) (G9 O O) ?_
  refine G8 (hK6 _ _ ?_)
  refine G6 (fun K8 hK8 => ?_)
  refine G6 fun K9 hK9 => G2 ?_
  refine JLg (LS 4 G3.av l) (G7 O O) ?_
  refine H9 (f := G3.av) (xs := l) Gs O O (fun hm21 => ?_) O O O
  refine JLg (G0 0) (G7 O O) ?_
  refine G8 (hK9 _ _ ?_)
  refine Gi ?_
  obtain ⟨b10, kx10, hb10, hkx10, h⟩ := Hi h
  refine Gz (fun i10 (s10 : Unit) => each b10 kx10 (List.drop i10 l) i10 s10 = some r) (fun i10 s10 => [(1, LS 9 Box.av boxes), (2, LS 4 G3.av l), (3, .dptr (Ship.cs s)), (7, LS 3 Slot.av r7), (20, LS 4 G3.av l), (21, G0 (l.length : Int)), (22, G0 (i10 : Int))]) (fun i10 s10 => []) (fun i10 => l.length - i10) 0 () h ⟨(by repeat' constructor), trivial, rfl⟩ ?_
  clear h
  intro i10 s10 hi10 K10 e10
  refine G6 fun K11 hK11 => G2 ?_
  refine JLg (BL (decide ((i10 : Int) < (l.length : Int)))) (He O O O) ?_
  refine G8 (hK11 _ _ ?_)
  refine G6 (fun K12 hK12 => ?_)
  refine Gh O (fun hb => ?_) (fun hb => ?_)
  ·
   have hk10 := lt_len hb
   obtain ⟨y10, nx10, hy10, hn10, h⟩ := Ha hi10 hk10
   replace h := app4 hb10 h
   refine Gj ?_
   refine hK12 _ _ ?_
   refine G6 (fun K13 hK13 => ?_)
   refine Gi ?_
   refine G6 fun K14 hK14 => G2 ?_
   refine JLg (G0 (i10 : Int)) (G7 O O) ?_
   refine JLg (.dptr (G3.cs y10)) (Gw (f := G3.av) (xs := l) (y := y10) O O O Gs hy10 O) ?_
   refine JLg (.agg (G3.cs y10)) (Gg Hp O O O) ?_
   refine JLg (.ptr 1079 0) (H2 1079 4 Hk O O) ?_
   refine JLg (G0 (i10 : Int)) (G9 O O) ?_
   refine H1 (u := .junk) (Gt (u := .agg (G3.cs y10)) (ds := [G0 y10.Box, G0 y10.Slot.G5, G0 y10.Slot.Tier, U8 y10.Slot.Half]) J3 O O O O O O O O) ?_
   refine G8 (hK14 _ _ ?_)
   refine Gm [(1, LS 9 Box.av boxes), (2, LS 4 G3.av l), (3, .dptr (Ship.cs s)), (7, LS 3 Slot.av r7), (8, G0 (i10 : Int)), (9, .dptr (G3.cs y10)), (20, LS 4 G3.av l), (21, G0 (l.length : Int)), (22, G0 (i10 : Int))] [] 1079 rfl rfl rfl trivial rfl (by repeat' (first | exact .ptr | constructor)) ?_
   refine G6 fun K15 hK15 => G2 ?_
   refine JLg (LS 9 Box.av boxes) (G7 O O) ?_
   refine JLg (.dptr (G3.cs y10)) (Gb Hn O O O) ?_
   refine JLg (G0 y10.Box) (Gf Ga O O O) ?_
   obtain ⟨r16, hr16, h⟩ := Ge h
   refine JLg (.tup [.agg (Box.cs r16.1), BL r16.2]) (Gr (args := [LS 9 Box.av boxes, G0 y10.Box]) O (M_stow_Find_w boxes y10.Box r16 hr16) tf_call_46 ⟨O, O, O, O, trivial⟩) ?_
   refine JLg (.tup [.agg (Box.cs r16.1), BL r16.2]) (G7 O O) ?_
   refine JLg (.agg (Box.cs r16.1)) (Gv O O O) ?_
   refine JLg (BL r16.2) (Gv O O O) ?_
   refine JLg (.ptr 1080 0) (H2 1080 9 Jo O O) ?_
   refine H1 (u := .junk) (Gt (u := .agg (Box.cs r16.1)) (ds := (Box.cs r16.1)) tf_size_81 O O O O O O O O) ?_
   refine JLg (BL r16.2) (G9 O O) ?_
   refine G8 (hK15 _ _ ?_)
   refine Gm [(1, LS 9 Box.av boxes), (2, LS 4 G3.av l), (3, .dptr (Ship.cs s)), (7, LS 3 Slot.av r7), (8, G0 (i10 : Int)), (9, .dptr (G3.cs y10)), (10, .dptr (Box.cs r16.1)), (11, BL r16.2), (20, LS 4 G3.av l), (21, G0 (l.length : Int)), (22, G0 (i10 : Int))] [] 1080 rfl rfl rfl trivial rfl (by repeat' (first | exact .ptr | constructor)) ?_
   refine G6 (fun K17 hK17 => ?_)
   refine G6 (fun K18 hK18 => ?_)
   obtain ⟨v19, hv19, h⟩ := Ge h
   obtain ⟨y20, hy20, h⟩ := Ge h
   obtain ⟨r21, hr21, h⟩ := Ge h
   obtain ⟨r22, hr22, h⟩ := Ge h
   refine Jc [] [0, 0, 0, 0, 0, 0, 0, 0, 0, 0, 0, 0, 0, 0, 0, 0, 0, 0, 0, 0, 0, 0, 0, 0, 0, 0, 0, 0, 0, 0, 0, 0, 0] [0, 0, 0, 0, 0, 0, 0, 0, 0, 0, 0, 0, 0, 0, 0, 0, 0, 0, 0, 0, 0, 0, 0, 0, 0, 0, 0, 0, 0, 0, 0, 0, 0] [[]] J5 (by kernel_rfl) rfl rfl ?_
   refine Gn (u := BL r16.2) O O ⟨Gp (G7 O O) O, trivial⟩ ?_
   refine Gn (u := BL (!r16.2)) O O ⟨Gp (A_not (b := r16.2) O O) O, trivial⟩ ?_
   refine Gn (u := BL (!r16.2)) O O ⟨Gp (G7 O O) O, trivial⟩ ?_
   refine Gn (u := .opt (!(!r16.2)) (G0 (i10 : Int))) O O ⟨H3 [] O O O .scf trivial (fun hc => G7 O O) O, trivial⟩ ?_
   refine Gn (u := .opt (!(!r16.2)) (BL (decide (0 < (i10 : Int))))) O O ⟨H3 [(37, G0 (i10 : Int))] O O O .scf ⟨.all id, trivial⟩ (fun hc => A_gtr O O O) O, trivial⟩ ?_
   refine Gn (u := .opt (!(!r16.2)) (BL (decide (0 < (i10 : Int))))) O O ⟨H3 [(38, BL (decide (0 < (i10 : Int))))] O O O .scf ⟨.all id, trivial⟩ (fun hc => G7 O O) O, trivial⟩ ?_
   refine Gn (u := .opt ((!(!r16.2)) && (decide (0 < (i10 : Int)))) (.dptr (G3.cs y10))) O O ⟨H3 [] O O O .optt trivial (fun hc => Gb Hn O O O) O, trivial⟩ ?_
   refine Gn (u := .opt ((!(!r16.2)) && (decide (0 < (i10 : Int)))) (G0 y10.Box)) O O ⟨H3 [(40, .dptr (G3.cs y10))] O O O .optt ⟨.all id, trivial⟩ (fun hc => Gf Ga O O O) O, trivial⟩ ?_
   refine Gn (u := .opt ((!(!r16.2)) && (decide (0 < (i10 : Int)))) (LS 4 G3.av l)) O O ⟨H3 [] O O O .optt trivial (fun hc => G7 O O) O, trivial⟩ ?_
   refine Gn (u := .opt ((!(!r16.2)) && (decide (0 < (i10 : Int)))) (G0 (i10 : Int))) O O ⟨H3 [] O O O .optt trivial (fun hc => G7 O O) O, trivial⟩ ?_
   refine Gn (u := .opt ((!(!r16.2)) && (decide (0 < (i10 : Int)))) (G0 v19)) O O ⟨H3 [(43, G0 (i10 : Int))] O O O .optt ⟨.all id, trivial⟩ (fun hc => Jx (chk_some (bif_t hc hv19)) O O O) O, trivial⟩ ?_
   refine Gn (u := .opt ((!(!r16.2)) && (decide (0 < (i10 : Int)))) (.dptr (G3.cs y20))) O O ⟨H3 [(42, LS 4 G3.av l), (44, G0 v19)] O O O .optt ⟨.all id, .all id, trivial⟩ (fun hc => (match Q2 (bif_t hc hy20) with | ⟨_, hm_, hy_⟩ => Gw (f := G3.av) (xs := l) (y := y20) O O O Gs hy_ hm_)) O, trivial⟩ ?_
   refine Gn (u := .opt ((!(!r16.2)) && (decide (0 < (i10 : Int)))) (.dptr (G3.cs y20))) O O ⟨H3 [(45, .dptr (G3.cs y20))] O O O .optt ⟨.all id, trivial⟩ (fun hc => Gb Hn O O O) O, trivial⟩ ?_
   refine Gn (u := .opt ((!(!r16.2)) && (decide (0 < (i10 : Int)))) (G0 y20.Box)) O O ⟨H3 [(46, .dptr (G3.cs y20))] O O O .optt ⟨.all id, trivial⟩ (fun hc => Gf Ga O O O) O, trivial⟩ ?_
   refine Gn (u := .opt ((!(!r16.2)) && (decide (0 < (i10 : Int)))) (BL (decide (y10.Box ≤ y20.Box)))) O O ⟨H3 [(41, G0 y10.Box), (47, G0 y20.Box)] O O O .optt ⟨.all id, .all id, trivial⟩ (fun hc => A_leq O O O) O, trivial⟩ ?_
   refine Gn (u := .opt (!(!r16.2)) (BL ((decide (0 < (i10 : Int))) && (decide (y10.Box ≤ y20.Box))))) O O ⟨H3 [(39, BL (decide (0 < (i10 : Int)))), (48, _)] O O O .scf ⟨.all id, .part, trivial⟩ (fun hc => J2 O O O O) O, trivial⟩ ?_
   refine Gn (u := BL ((!r16.2) || ((decide (0 < (i10 : Int))) && (decide (y10.Box ≤ y20.Box))))) O O ⟨Gp (Q0 O O O O) O, trivial⟩ ?_
   refine Gn (u := BL ((!r16.2) || ((decide (0 < (i10 : Int))) && (decide (y10.Box ≤ y20.Box))))) O O ⟨Gp (G7 O O) O, trivial⟩ ?_
   refine Gn (u := .opt (!((!r16.2) || ((decide (0 < (i10 : Int))) && (decide (y10.Box ≤ y20.Box))))) (.agg (Ship.cs s))) O O ⟨H3 [] O O O .scf trivial (fun hc => Gg H5 O O O) O, trivial⟩ ?_
   refine Gn (u := .opt (!((!r16.2) || ((decide (0 < (i10 : Int))) && (decide (y10.Box ≤ y20.Box))))) (.dptr (Slot.cs y10.Slot))) O O ⟨H3 [] O O O .scf trivial (fun hc => Gb Hg O O O) O, trivial⟩ ?_
   refine Gn (u := .opt (!((!r16.2) || ((decide (0 < (i10 : Int))) && (decide (y10.Box ≤ y20.Box))))) (.agg (Slot.cs y10.Slot))) O O ⟨H3 [(53, .dptr (Slot.cs y10.Slot))] O O O .scf ⟨.all id, trivial⟩ (fun hc => Gg Hr O O O) O, trivial⟩ ?_
   refine Gn (u := .opt (!((!r16.2) || ((decide (0 < (i10 : Int))) && (decide (y10.Box ≤ y20.Box))))) (.dptr ((Box.cs r16.1).drop 2))) O O ⟨H3 [] O O O .scf trivial (fun hc => Gb tf_field_81_2 O O O) O, trivial⟩ ?_
   refine Gn (u := .opt (!((!r16.2) || ((decide (0 < (i10 : Int))) && (decide (y10.Box ≤ y20.Box))))) (U8 r16.1.Size)) O O ⟨H3 [(55, .dptr ((Box.cs r16.1).drop 2))] O O O .scf ⟨.all id, trivial⟩ (fun hc => Gf H7 O O O) O, trivial⟩ ?_
   refine Gn (u := .opt (!((!r16.2) || ((decide (0 < (i10 : Int))) && (decide (y10.Box ≤ y20.Box))))) (BL r21)) O O ⟨H3 [(52, .agg (Ship.cs s)), (54, .agg (Slot.cs y10.Slot)), (56, U8 r16.1.Size)] O O O .scf ⟨.all id, .all id, .all id, trivial⟩ (fun hc => Gr (args := [.agg (Ship.cs s), .agg (Slot.cs y10.Slot), U8 r16.1.Size]) O (M_slot_Right_w s y10.Slot r16.1.Size r21 (bif_t hc hr21)) tf_call_47 ⟨O, O, O, O, O, O, trivial⟩) O, trivial⟩ ?_
   refine Gn (u := .opt (!((!r16.2) || ((decide (0 < (i10 : Int))) && (decide (y10.Box ≤ y20.Box))))) (BL (!r21))) O O ⟨H3 [(57, BL r21)] O O O .scf ⟨.all id, trivial⟩ (fun hc => A_not (b := r21) O O) O, trivial⟩ ?_
   refine Gn (u := BL (((!r16.2) || ((decide (0 < (i10 : Int))) && (decide (y10.Box ≤ y20.Box)))) || (!r21))) O O ⟨Gp (Q0 O O O O) O, trivial⟩ ?_
   refine Gn (u := BL (((!r16.2) || ((decide (0 < (i10 : Int))) && (decide (y10.Box ≤ y20.Box)))) || (!r21))) O O ⟨Gp (G7 O O) O, trivial⟩ ?_
   refine Gn (u := .opt (!(((!r16.2) || ((decide (0 < (i10 : Int))) && (decide (y10.Box ≤ y20.Box)))) || (!r21))) (.dptr (Slot.cs y10.Slot))) O O ⟨H3 [] O O O .scf trivial (fun hc => Gb Hg O O O) O, trivial⟩ ?_
   refine Gn (u := .opt (!(((!r16.2) || ((decide (0 < (i10 : Int))) && (decide (y10.Box ≤ y20.Box)))) || (!r21))) (.agg (Slot.cs y10.Slot))) O O ⟨H3 [(61, .dptr (Slot.cs y10.Slot))] O O O .scf ⟨.all id, trivial⟩ (fun hc => Gg Hr O O O) O, trivial⟩ ?_
   refine Gn (u := .opt (!(((!r16.2) || ((decide (0 < (i10 : Int))) && (decide (y10.Box ≤ y20.Box)))) || (!r21))) (LS 3 Slot.av r7)) O O ⟨H3 [] O O O .scf trivial (fun hc => G7 O O) O, trivial⟩ ?_
   refine Gn (u := .opt (!(((!r16.2) || ((decide (0 < (i10 : Int))) && (decide (y10.Box ≤ y20.Box)))) || (!r21))) (BL r22)) O O ⟨H3 [(62, .agg (Slot.cs y10.Slot)), (63, LS 3 Slot.av r7)] O O O .scf ⟨.all id, .all id, trivial⟩ (fun hc => Gr (args := [.agg (Slot.cs y10.Slot), LS 3 Slot.av r7]) O (M_slot_Held_w y10.Slot r7 r22 (bif_t hc hr22)) tf_call_48 ⟨O, O, O, O, trivial⟩) O, trivial⟩ ?_
   refine Gn (u := .opt (!(((!r16.2) || ((decide (0 < (i10 : Int))) && (decide (y10.Box ≤ y20.Box)))) || (!r21))) (BL (!r22))) O O ⟨H3 [(64, BL r22)] O O O .scf ⟨.all id, trivial⟩ (fun hc => A_not (b := r22) O O) O, trivial⟩ ?_
   refine Gn (u := BL ((((!r16.2) || ((decide (0 < (i10 : Int))) && (decide (y10.Box ≤ y20.Box)))) || (!r21)) || (!r22))) O O ⟨Gp (Q0 O O O O) O, trivial⟩ ?_
   refine D_nil ?_
   refine hK18 _ _ ?_
   refine Gh O (fun hb => ?_) (fun hb => ?_)
   ·
    replace h := bif_t hb h
    refine G6 fun K23 hK23 => G2 ?_
    refine JLg (BL false) (G9 O O) ?_
    refine G8 (hK23 _ _ ?_)
    refine Gq ?_
    exact ⟨[BL false], [], trivial, O, ⟨⟨_, O, .conv (.same O)⟩, trivial⟩, O, congrArg (fun r : Bool => (BL r : AV)) (Option.some.inj h)⟩
   ·
    replace h := bif_f hb h
    refine Gj ?_
    refine hK17 _ _ ?_
    refine G6 fun K24 hK24 => G2 ?_
    refine JLg (LS 3 Slot.av r7) (G7 O O) ?_
    refine JLg (G0 (i10 : Int)) (G7 O O) ?_
    obtain ⟨m25, hm25, h⟩ := Ge h
    refine JLg (LS 3 Slot.av (r7.take m25)) (A_sliceHiM (f := Slot.av) (xs := r7) O O O Jj (natIn_out hm25)) ?_
    refine H9 (f := Slot.av) (xs := (r7.take m25)) Jj O O (fun hm70 => ?_) O O O
    refine JLg (G0 0) (G7 O O) ?_
    refine G8 (hK24 _ _ ?_)
    refine Gi ?_
    obtain ⟨b42, kx42, hb42, hkx42, h⟩ := Hi h
    refine Gz (fun i42 (s42 : Unit) => each b42 kx42 (List.drop i42 (r7.take m25)) i42 s42 = some r) (fun i42 s42 => [(1, LS 9 Box.av boxes), (2, LS 4 G3.av l), (3, .dptr (Ship.cs s)), (7, LS 3 Slot.av r7), (9, .dptr (G3.cs y10)), (20, LS 4 G3.av l), (21, G0 (l.length : Int)), (22, G0 (i10 : Int)), (69, LS 3 Slot.av (r7.take m25)), (70, G0 ((r7.take m25).length : Int)), (71, G0 (i42 : Int))]) (fun i42 s42 => []) (fun i42 => (r7.take m25).length - i42) 0 () h ⟨(by repeat' constructor), trivial, rfl⟩ ?_
    clear h
    intro i42 s42 hi42 K42 e42
    refine G6 fun K43 hK43 => G2 ?_
    refine JLg (BL (decide ((i42 : Int) < ((r7.take m25).length : Int)))) (He O O O) ?_
    refine G8 (hK43 _ _ ?_)
    refine G6 (fun K44 hK44 => ?_)
    refine Gh O (fun hb => ?_) (fun hb => ?_)
    ·
     have hk42 := lt_len hb
     obtain ⟨y42, nx42, hy42, hn42, h⟩ := Ha hi42 hk42
     replace h := app4 hb42 h
     refine Gj ?_
     refine hK44 _ _ ?_
     refine G6 (fun K45 hK45 => ?_)
     refine Gi ?_
     refine G6 fun K46 hK46 => G2 ?_
     refine JLg (.dptr (Slot.cs y42)) (Gw (f := Slot.av) (xs := (r7.take m25)) (y := y42) O O O Jj hy42 O) ?_
     refine JLg (.agg (Slot.cs y42)) (Gg Hr O O O) ?_
     refine JLg (.ptr 1081 0) (H2 1081 3 Q5 O O) ?_
     refine H1 (u := .junk) (Gt (u := .agg (Slot.cs y42)) (ds := [G0 y42.G5, G0 y42.Tier, U8 y42.Half]) tf_size_51 O O O O O O O O) ?_
     refine G8 (hK46 _ _ ?_)
     refine Gm [(1, LS 9 Box.av boxes), (2, LS 4 G3.av l), (3, .dptr (Ship.cs s)), (7, LS 3 Slot.av r7), (9, .dptr (G3.cs y10)), (13, .dptr (Slot.cs y42)), (20, LS 4 G3.av l), (21, G0 (l.length : Int)), (22, G0 (i10 : Int)), (69, LS 3 Slot.av (r7.take m25)), (70, G0 ((r7.take m25).length : Int)), (71, G0 (i42 : Int))] [] 1081 rfl rfl rfl trivial rfl (by repeat' (first | exact .ptr | constructor)) ?_
     refine G6 fun K47 hK47 => G2 ?_
     refine JLg (.dptr (Slot.cs y10.Slot)) (Gb Hg O O O) ?_
     refine JLg (.agg (Slot.cs y10.Slot)) (Gg Hr O O O) ?_
     refine JLg (.agg (Slot.cs y42)) (Gg Hr O O O) ?_
     obtain ⟨r48, hr48, h⟩ := Ge h
     refine JLg (BL r48) (Gr (args := [.agg (Slot.cs y10.Slot), .agg (Slot.cs y42)]) O (M_slot_Meet_w y10.Slot y42 r48 hr48) tf_call_49 ⟨O, O, O, O, trivial⟩) ?_
     refine G8 (hK47 _ _ ?_)
     refine Gh O (fun hb => ?_) (fun hb => ?_)
     ·
      replace h := bif_t hb h
      refine G6 fun K49 hK49 => G2 ?_
      refine JLg (BL false) (G9 O O) ?_
      refine G8 (hK49 _ _ ?_)
      refine Gq ?_
      exact ⟨[BL false], [], trivial, O, ⟨⟨_, O, .conv (.same O)⟩, trivial⟩, O, congrArg (fun r : Bool => (BL r : AV)) (Option.some.inj h)⟩
     ·
      replace h := bif_f hb h
      refine Gj ?_
      refine hK45 _ _ ?_
      refine G2 ?_
      refine JLg (G0 ((i42 + 1 : Nat) : Int)) (Hd (idx_succ hk42 hm70) O O O) ?_
      refine JLg (G0 ((i42 + 1 : Nat) : Int)) (G7 O O) ?_
      refine G8 ?_
      exact e42 _ _ (i42 + 1) () (app1 hn42 h) (by omega) ⟨(by repeat' constructor), trivial, rfl⟩
    ·
     have h := app1 hkx42 (Hb hi42 (Gy hb))
     refine H4 ?_
     refine hK13 _ _ ?_
     refine G2 ?_
     refine JLg (G0 ((i10 + 1 : Nat) : Int)) (Hd (idx_succ hk10 hm21) O O O) ?_
     refine JLg (G0 ((i10 + 1 : Nat) : Int)) (G7 O O) ?_
     refine G8 ?_
     exact e10 _ _ (i10 + 1) () (app1 hn10 h) (by omega) ⟨(by repeat' constructor), trivial, rfl⟩
  ·
   have h := app1 hkx10 (Hb hi10 (Gy hb))
   refine H4 ?_
   refine hK8 _ _ ?_
   refine G6 (fun K50 hK50 => ?_)
   refine G6 fun K51 hK51 => G2 ?_
   refine JLg (.dptr (Ship.cs s)) (Gb Hc O O O) ?_
   refine JLg (LS 12 G5.av s.Columns) (Gf Hj O O O) ?_
   refine H9 (f := G5.av) (xs := s.Columns) Hf O O (fun hm83 => ?_) O O O
   refine JLg (G0 0) (G7 O O) ?_
   refine G8 (hK51 _ _ ?_)
   refine Gi ?_
   obtain ⟨b64, kx64, hb64, hkx64, h⟩ := Hi h
   refine Gz (fun i64 (s64 : Unit) => each b64 kx64 (List.drop i64 s.Columns) i64 s64 = some r) (fun i64 s64 => [(1, LS 9 Box.av boxes), (2, LS 4 G3.av l), (3, .dptr (Ship.cs s)), (83, G0 (s.Columns.length : Int)), (84, G0 (i64 : Int))]) (fun i64 s64 => []) (fun i64 => s.Columns.length - i64) 0 () h ⟨(by repeat' constructor), trivial, rfl⟩ ?_
   clear h
   intro i64 s64 hi64 K64 e64
   refine G6 fun K65 hK65 => G2 ?_
   refine JLg (BL (decide ((i64 : Int) < (s.Columns.length : Int)))) (He O O O) ?_
   refine G8 (hK65 _ _ ?_)
   refine G6 (fun K66 hK66 => ?_)
   refine Gh O (fun hb => ?_) (fun hb => ?_)
   ·
    have hk64 := lt_len hb
    obtain ⟨y64, nx64, hy64, hn64, h⟩ := Ha hi64 hk64
    replace h := app4 hb64 h
    refine Gj ?_
    refine hK66 _ _ ?_
    refine G6 (fun K67 hK67 => ?_)
    refine Gi ?_
    refine G6 fun K68 hK68 => G2 ?_
    refine JLg (G0 (i64 : Int)) (G7 O O) ?_
    refine JLg (G0 (i64 : Int)) (G9 O O) ?_
    refine G8 (hK68 _ _ ?_)
    refine G6 fun K69 hK69 => G2 ?_
    refine JLg (.agg (Ship.cs s)) (Gg H5 O O O) ?_
    refine JLg (LS 9 Box.av boxes) (G7 O O) ?_
    refine JLg (LS 4 G3.av l) (G7 O O) ?_
    refine JLg (G0 (i64 : Int)) (G7 O O) ?_
    obtain ⟨r70, hr70, h⟩ := Ge h
    refine JLg (BL r70) (Gr (args := [.agg (Ship.cs s), LS 9 Box.av boxes, LS 4 G3.av l, G0 (i64 : Int)]) O (M_stow_fits_w s boxes l (i64 : Int) r70 hr70) tf_call_50 ⟨O, O, O, O, O, O, O, O, trivial⟩) ?_
    refine JLg (BL (!r70)) (A_not (b := r70) O O) ?_
    refine G8 (hK69 _ _ ?_)
    refine Gh O (fun hb => ?_) (fun hb => ?_)
    ·
     replace h := bif_t hb h
     refine G6 fun K71 hK71 => G2 ?_
     refine JLg (BL false) (G9 O O) ?_
     refine G8 (hK71 _ _ ?_)
     refine Gq ?_
     exact ⟨[BL false], [], trivial, O, ⟨⟨_, O, .conv (.same O)⟩, trivial⟩, O, congrArg (fun r : Bool => (BL r : AV)) (Option.some.inj h)⟩
    ·
     replace h := bif_f hb h
     refine Gj ?_
     refine hK67 _ _ ?_
     refine G2 ?_
     refine JLg (G0 ((i64 + 1 : Nat) : Int)) (Hd (idx_succ hk64 hm83) O O O) ?_
     refine JLg (G0 ((i64 + 1 : Nat) : Int)) (G7 O O) ?_
     refine G8 ?_
     exact e64 _ _ (i64 + 1) () (app1 hn64 h) (by omega) ⟨(by repeat' constructor), trivial, rfl⟩
   ·
    have h := app1 hkx64 (Hb hi64 (Gy hb))
    refine H4 ?_
    refine hK50 _ _ ?_
    refine G6 fun K72 hK72 => G2 ?_
    refine JLg (BL true) (G9 O O) ?_
    refine G8 (hK72 _ _ ?_)
    refine Gq ?_
    exact ⟨[BL true], [], trivial, O, ⟨⟨_, O, .conv (.same O)⟩, trivial⟩, O, congrArg (fun r : Bool => (BL r : AV)) (Option.some.inj h)⟩

def M_twistlocklaw23_holds (l : List G3) (id_ : Int) : Option Bool :=
 each (fun y18 i18 (s18 : Unit) nx18 =>
  bif decide (y18.Box = id_) then
  (some true)
  else
  (nx18 ()))
 (fun (s18 : Unit) =>
  some false) l 0 ()
theorem M_twistlocklaw23_holds_w (l : List G3) (id_ : Int) (r : Bool) (h : M_twistlocklaw23_holds l id_ = some r) : Pure Tryz.prog 29 [LS 4 G3.av l, G0 id_] (· = BL r) := by
 unfold M_twistlocklaw23_holds at h
 refine Gx [.tmp 4] Tryz.func29 O O ?_
 refine G6 fun K1 hK1 => G2 ?_
 refine JLg (BL false) (G9 O O) ?_
 refine G8 (hK1 _ _ ?_)
 refine G6 (fun K2 hK2 => ?_)
 refine G6 fun K3 hK3 => G2 ?_
 refine JLg (LS 4 G3.av l) (G7 O O) ?_
 refine H9 (f := G3.av) (xs := l) Gs O O (fun hm8 => ?_) O O O
 refine JLg (G0 0) (G7 O O) ?_
 refine G8 (hK3 _ _ ?_)
 refine Gi ?_
 obtain ⟨b18, kx18, hb18, hkx18, h⟩ := Hi h
 refine Gz (fun i18 (s18 : Unit) => each b18 kx18 (List.drop i18 l) i18 s18 = some r) (fun i18 s18 => [(1, G0 id_), (7, LS 4 G3.av l), (8, G0 (l.length : Int)), (9, G0 (i18 : Int))]) (fun i18 s18 => []) (fun i18 => l.length - i18) 0 () h ⟨(by repeat' constructor), trivial, rfl⟩ ?_
 clear h
 intro i18 s18 hi18 K18 e18
 refine G6 fun K19 hK19 => G2 ?_
 refine JLg (BL (decide ((i18 : Int) < (l.length : Int)))) (He O O O) ?_
 refine G8 (hK19 _ _ ?_)
 refine G6 (fun K20 hK20 => ?_)
 refine Gh O (fun hb => ?_) (fun hb => ?_)
 ·
  have hk18 := lt_len hb
  obtain ⟨y18, nx18, hy18, hn18, h⟩ := Ha hi18 hk18
  replace h := app4 hb18 h
  refine Gj ?_
  refine hK20 _ _ ?_
  refine G6 (fun K21 hK21 => ?_)
  refine Gi ?_
  refine G6 fun K22 hK22 => G2 ?_
  refine JLg (.dptr (G3.cs y18)) (Gw (f := G3.av) (xs := l) (y := y18) O O O Gs hy18 O) ?_
  refine JLg (.agg (G3.cs y18)) (Gg Hp O O O) ?_
  refine JLg (.ptr 1082 0) (H2 1082 4 Hk O O) ?_
  refine H1 (u := .junk) (Gt (u := .agg (G3.cs y18)) (ds := [G0 y18.Box, G0 y18.Slot.G5, G0 y18.Slot.Tier, U8 y18.Slot.Half]) J3 O O O O O O O O) ?_
  refine G8 (hK22 _ _ ?_)
  refine Gm [(1, G0 id_), (6, .dptr (G3.cs y18)), (7, LS 4 G3.av l), (8, G0 (l.length : Int)), (9, G0 (i18 : Int))] [] 1082 rfl rfl rfl trivial rfl (by repeat' (first | exact .ptr | constructor)) ?_
  refine G6 fun K23 hK23 => G2 ?_
  refine JLg (.dptr (G3.cs y18)) (Gb Hn O O O) ?_
  refine JLg (G0 y18.Box) (Gf Ga O O O) ?_
  refine JLg (G0 id_) (G7 O O) ?_
  refine JLg (BL (decide (y18.Box = id_))) (Hx O O O) ?_
  refine G8 (hK23 _ _ ?_)
  refine Gh O (fun hb => ?_) (fun hb => ?_)
  ·
   replace h := bif_t hb h
   refine G6 fun K24 hK24 => G2 ?_
   refine JLg (BL true) (G9 O O) ?_
   refine G8 (hK24 _ _ ?_)
   refine Gq ?_
   exact ⟨[BL true], [], trivial, O, ⟨⟨_, O, .conv (.same O)⟩, trivial⟩, O, congrArg (fun r : Bool => (BL r : AV)) (Option.some.inj h)⟩
  ·
   replace h := bif_f hb h
   refine Gj ?_
   refine hK21 _ _ ?_
   refine G2 ?_
   refine JLg (G0 ((i18 + 1 : Nat) : Int)) (Hd (idx_succ hk18 hm8) O O O) ?_
   refine JLg (G0 ((i18 + 1 : Nat) : Int)) (G7 O O) ?_
   refine G8 ?_
   exact e18 _ _ (i18 + 1) () (app1 hn18 h) (by omega) ⟨(by repeat' constructor), trivial, rfl⟩
 ·
  have h := app1 hkx18 (Hb hi18 (Gy hb))
  refine H4 ?_
  refine hK2 _ _ ?_
  refine G6 fun K25 hK25 => G2 ?_
  refine JLg (BL false) (G9 O O) ?_
  refine G8 (hK25 _ _ ?_)
  refine Gq ?_
  exact ⟨[BL false], [], trivial, O, ⟨⟨_, O, .conv (.same O)⟩, trivial⟩, O, congrArg (fun r : Bool => (BL r : AV)) (Option.some.inj h)⟩

def M_slot_slots (s : Ship) (size : Int) : Option Unit :=
 some ()
theorem M_slot_slots_w (s : Ship) (size : Int) (r : Unit) (h : M_slot_slots s size = some r) : Pure Tryz.prog 51 [.agg (Ship.cs s), U8 size] (· = .fn 76 [.dptr (Ship.cs s), .dptr [U8 size]]) := by
 unfold M_slot_slots at h
 refine Gx [.tmp 4] Tryz.func51 O O ?_
 refine G6 fun K1 hK1 => G2 ?_
 refine JLg (.ptr 1124 0) (J1 (u := .agg (Ship.cs s)) (cs := (Ship.cs s)) 1124 O O O O O) ?_
 refine JLg (.ptr 1125 0) (J1 (u := U8 size) (cs := [U8 size]) 1125 O O O O O) ?_
 refine JLg (.sc .nilFunc) (G9 O O) ?_
 refine G8 (hK1 _ _ ?_)
 refine Gm [(2, .dptr (Ship.cs s)), (3, .ptr 1125 0)] [(1125, .box 5 [U8 size])] 1124 rfl rfl rfl ⟨⟨_, rfl, .boxEq rfl rfl⟩, trivial⟩ rfl (by exact ⟨.ptr, .conv (.same rfl), trivial⟩) ?_
 refine Gm [(2, .dptr (Ship.cs s)), (3, .dptr [U8 size])] [] 1125 rfl rfl rfl trivial rfl (by exact ⟨.conv (.same rfl), .ptr, trivial⟩) ?_
 refine G6 fun K2 hK2 => G2 ?_
 refine JLg (.fn 76 [.dptr (Ship.cs s), .dptr [U8 size]]) (A_makeFunc (cs := [.dptr (Ship.cs s), .dptr [U8 size]]) O O) ?_
 refine JLg (.fn 76 [.dptr (Ship.cs s), .dptr [U8 size]]) (G9 O O) ?_
 refine G8 (hK2 _ _ ?_)
 refine Gq ?_
 exact ⟨[.fn 76 [.dptr (Ship.cs s), .dptr [U8 size]]], [], trivial, O, ⟨⟨_, O, .conv (.same O)⟩, trivial⟩, O, congrArg (fun _ : Unit => (.fn 76 [.dptr (Ship.cs s), .dptr [U8 size]] : AV)) (Option.some.inj h)⟩

def M_slot_All (s : Ship) (size : Int) : Option (List Slot) :=
 bnd (M_slot_slots s size) fun r5 =>
 bnd (S_slot_slots_1 s size) fun ys8 =>
 each (fun y8 i8 (s8 : (List Slot)) nx8 =>
  need (decide ((s8.length + [y8].length) * 24 ≤ 140737488355328 ∧ s8.length + [y8].length ≤ maxLen)) <|
  nx8 (s8 ++ [y8]))
 (fun (s8 : (List Slot)) =>
  some s8) ys8 0 []
theorem M_slot_All_w (s : Ship) (size : Int) (r : (List Slot)) (h : M_slot_All s size = some r) : Pure Tryz.prog 30 [.agg (Ship.cs s), U8 size] (· = LS 3 Slot.av r) := by
 unfold M_slot_All at h
 refine Gx [.tmp 4] Tryz.func30 O O ?_
 refine G6 fun K1 hK1 => G2 ?_
 refine JLg (.ptr 1083 0) (J1 (u := .agg (Ship.cs s)) (cs := (Ship.cs s)) 1083 O O O O O) ?_
 refine JLg (LS 3 Slot.av ([] : List Slot)) (Hw 3 O O) ?_
 refine G8 (hK1 _ _ ?_)
 refine Gm [(1, U8 size), (2, .dptr (Ship.cs s))] [] 1083 rfl rfl rfl trivial rfl (by exact ⟨.conv (.same rfl), .ptr, trivial⟩) ?_
 refine G6 fun K2 hK2 => G2 ?_
 refine JLg (.ptr 1084 0) (A_allocZ 1084 [.sc (.slice none 0 0)] [.slice none 0 0] tf_zero_105 ⟨.inl O, trivial⟩ O O) ?_
 refine JL_ownCell 1084 0 1086 51 3 O O O (cs' := [OW 1086 3 Slot.av ([] : List Slot)]) O ?_
 refine G8 (hK2 _ _ ?_)
 refine G6 (fun K3 hK3 => ?_)
 refine G6 fun K4 hK4 => G2 ?_
 refine JLg (.agg (Ship.cs s)) (Gg H5 O O O) ?_
 refine JLg (U8 size) (G7 O O) ?_
 obtain ⟨r5, hr5, h⟩ := Ge h
 refine JLg (.fn 76 [.dptr (Ship.cs s), .dptr [U8 size]]) (Gr (args := [.agg (Ship.cs s), U8 size]) O (M_slot_slots_w s size r5 hr5) tf_call_51 ⟨O, O, O, O, trivial⟩) ?_
 refine G8 (hK4 _ _ ?_)
 refine Gi ?_
 obtain ⟨ys8, hy_8, h⟩ := Ge h
 obtain ⟨b8, kx8, hb8, hkx8, h⟩ := Hi h
 refine JC_rangeFunc (ps := [10]) [(5, .ptr 1084 0), (9, .fn 76 [.dptr (Ship.cs s), .dptr [U8 size]])] (ys8.map (fun y : Slot => [.agg [G0 y.G5, G0 y.Tier, U8 y.Half]])) (fun i8 (s8 : (List Slot)) => each b8 kx8 (List.drop i8 ys8) i8 s8 = some r) (fun s8 => [(1086, .spare 51 3 s8.length s8.length), (1084, .box 105 [OW 1086 3 Slot.av s8])]) [] rfl rfl rfl tf_call_76 (S_slot_slots_1_w.down s size ys8 hy_8) h ⟨⟨.same rfl, .same rfl, trivial⟩, ⟨⟨_, rfl, .same⟩, ⟨_, rfl, .boxL rfl ⟨.same rfl, trivial⟩⟩, trivial⟩, rfl⟩ rfl (fun us_ hus_ => by obtain ⟨_, _, rfl⟩ := List.mem_map.1 hus_; rfl) (fun p_ hp_ => Nat.blt_eq.mp (by revert p_; decide)) (fun _ => ⟨.same rfl, .same rfl, trivial⟩) (fun _ => rfl) ?_ ?_
 ·
  intro i8 us_ s8 hu_ hi8 lr_ K8 e8
  obtain ⟨hk8, rfl⟩ := mapf_at hu_
  obtain ⟨y8, nx8, hy8, hn8, h⟩ := Ha hi8 hk8
  replace h := app4 hb8 h
  obtain ⟨_, rfl⟩ := List.getElem?_eq_some_iff.1 hy8
  generalize ys8[i8] = y8 at h ⊢
  change JC _ _ _ _ [(10, .agg [G0 y8.G5, G0 y8.Tier, U8 y8.Half]), (5, .ptr 1084 0), (9, .fn 76 [.dptr (Ship.cs s), .dptr [U8 size]])] [(1086, .spare 51 3 s8.length s8.length), (1084, .box 105 [OW 1086 3 Slot.av s8])]
  refine G2 ?_
  refine JLg (.ptr 1085 0) (H2 1085 3 Q5 O O) ?_
  refine H1 (u := .junk) (Gt (u := .agg [G0 y8.G5, G0 y8.Tier, U8 y8.Half]) (ds := [G0 y8.G5, G0 y8.Tier, U8 y8.Half]) tf_size_51 O O O O O O O O) ?_
  refine G8 ?_
  refine Mid_freeze [(5, .ptr 1084 0), (6, .dptr [G0 y8.G5, G0 y8.Tier, U8 y8.Half])] [(1086, .spare 51 3 s8.length s8.length), (1084, .box 105 [OW 1086 3 Slot.av s8])] 1085 rfl rfl rfl ⟨⟨_, rfl, .same⟩, ⟨_, rfl, .boxEq rfl rfl⟩, trivial⟩ rfl (by exact ⟨.conv (.same rfl), .ptr, trivial⟩) ?_
  refine Mid_go ?_
  refine Gi ?_
  refine G2 ?_
  refine JLg (OW 1086 3 Slot.av s8) (Ht tf_scalar_105 O O O O) ?_
  refine JLg (.agg [G0 y8.G5, G0 y8.Tier, U8 y8.Half]) (Gg Hr O O O) ?_
  refine JLg (LS 3 Slot.av [y8]) (Gu (xs := [.agg [G0 y8.G5, G0 y8.Tier, U8 y8.Half]]) O ⟨O, O, trivial⟩ Jj Q5 O O O O) ?_
  obtain ⟨ha9, h⟩ := Hq h
  refine JLg (OW 1086 3 Slot.av (s8 ++ [y8])) (Jd (f := Slot.av) (xs := s8) (ys := [y8]) O O O O Jj tf_elem_51 ha9 (fun _ => O) (.inl O) O) ?_
  refine H1 (u := .junk) (Gt (u := OW 1086 3 Slot.av (s8 ++ [y8])) (ds := [OW 1086 3 Slot.av (s8 ++ [y8])]) tf_size_105 O O O O O O O O) ?_
  refine G8 ?_
  exact e8 _ _ (s8 ++ [y8]) (app1 hn8 h) ⟨trivial, ⟨⟨_, O, .same⟩, ⟨_, O, .boxL O ⟨.same O, trivial⟩⟩, trivial⟩, O⟩
 ·
  intro s8 h
  rw [List.length_map] at h
  replace h := app1 hkx8 (Hb h (Nat.lt_irrefl _))
  refine hK3 _ _ ?_
  refine G6 fun K10 hK10 => G2 ?_
  refine JLg (OW 1086 3 Slot.av s8) (Ht tf_scalar_105 O O O O) ?_
  refine JLg (OW 1086 3 Slot.av s8) (G9 O O) ?_
  refine G8 (hK10 _ _ ?_)
  refine Ju (l' := [(4, LS 3 Slot.av s8)]) (L' := [(1084, .box 105 [LS 3 Slot.av s8])]) ⟨⟨.list O, trivial⟩, ⟨⟨_, O, .boxL O ⟨.list O, trivial⟩⟩, trivial⟩, O⟩ ?_
  refine Gm [(4, LS 3 Slot.av s8)] [] 1084 rfl rfl rfl trivial rfl (by exact ⟨.conv (.same rfl), trivial⟩) ?_
  refine Gq ?_
  exact ⟨[LS 3 Slot.av s8], [], trivial, O, ⟨⟨_, O, .conv (.same O)⟩, trivial⟩, O, congrArg (fun r : (List Slot) => (LS 3 Slot.av r : AV)) (Option.some.inj h)⟩
end
end Go.Proofs.YtmdnkofmmheoaaaGreat
