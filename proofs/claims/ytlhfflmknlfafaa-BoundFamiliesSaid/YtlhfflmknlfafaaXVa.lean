/-
 Models of functions of the program, and that they return what the models say.
-/
import Derived.Test.YtlhfflmknlfafaaProg
import Derived.Test.YtlhfflmknlfafaaSortM
import Derived.Test.YtlhfflmknlfafaaSortLay
import Derived.Test.YtlhfflmknlfafaaRel
import Derived.Test.YtlhfflmknlfafaaLit0
import Derived.Test.YtlhfflmknlfafaaXA
import Derived.Test.YtlhfflmknlfafaaSpecA
import Derived.Test.YtlhfflmknlfafaaSpecI
import Derived.Test.YtlhfflmknlfafaaSpecG
set_option maxRecDepth 100000
set_option linter.unusedVariables false
set_option linter.unusedSimpArgs false
namespace Go.Proofs.Ytlhfflmknlfafaa
open Go.RowKit
noncomputable section
structure Gb where
 Box : Int
 Slot : Slot
 deriving DecidableEq, Inhabited
def Gb.cs (x : Gb) : List AV := [G2 x.Box, G2 x.Slot.G8, G2 x.Slot.Tier, U8 x.Slot.Half]
def Gb.av (x : Gb) : AV := .agg x.cs
structure law23_Item where
 G8 : Int
 Kilos : Int
 Load : Int
 Stay : Int
 Small : Bool
 High : Bool
 deriving DecidableEq, Inhabited
def law23_Item.cs (x : law23_Item) : List AV := [U8 x.G8, U8 x.Kilos, U8 x.Load, U8 x.Stay, BL x.Small, BL x.High]
def law23_Item.av (x : law23_Item) : AV := .agg x.cs
structure Plan where
 States : List (List Gb)
 Water : List (List Int)
 deriving DecidableEq, Inhabited
def Plan.cs (x : Plan) : List AV := [LS 1 (LS 4 Gb.av) x.States, LS 1 (LS 1 G2) x.Water]
def Plan.av (x : Plan) : AV := .agg x.cs
structure law07_Place where
 Bay : Int
 Row : Int
 Tiers : Int
 Deck : Bool
 deriving DecidableEq, Inhabited
def law07_Place.cs (x : law07_Place) : List AV := [U8 x.Bay, U8 x.Row, U8 x.Tiers, BL x.Deck]
def law07_Place.av (x : law07_Place) : AV := .agg x.cs
namespace XVF
open XAF
theorem tq_98 (a b : Slot) : eqAt Try.prog 4 98 [.int .i64 a.G8, .int .i64 a.Tier, .int .u8 a.Half] [.int .i64 b.G8, .int .i64 b.Tier, .int .u8 b.Half] = some (decide (a = b)) := by
 refine (show _ = some ((a.G8 == b.G8) && ((a.Tier == b.Tier) && ((a.Half == b.Half) && true))) by kernel_rfl).trans (congrArg some ?_)
 rw [Bool.eq_iff_iff]
 simp only [Bool.and_eq_true, beq_iff_eq, decide_eq_true_eq, Bool.and_true]
 constructor
 ·intro h; obtain ⟨_, _, _⟩ := a; obtain ⟨_, _, _⟩ := b; simp_all
 ·intro h; subst h; simp
theorem tf_agg_102 : aggB Try.prog 102 4 = true := by kernel_rfl
theorem Hh : aggB Try.prog 35 13 = true := by kernel_rfl
theorem tf_agg_41 : aggB Try.prog 41 2 = true := by kernel_rfl
theorem tf_agg_61 : aggB Try.prog 61 4 = true := by kernel_rfl
theorem tf_agg_68 : aggB Try.prog 68 6 = true := by kernel_rfl
theorem Jn : aggB Try.prog 98 3 = true := by kernel_rfl
theorem tf_aggof_98 : aggOf Try.prog 98 = true := by kernel_rfl
theorem tf_bool_4 : boolB Try.prog 4 = true := by kernel_rfl
theorem tf_call_10 : callB Try.prog 10 = true := by kernel_rfl
theorem tf_call_11 : callB Try.prog 11 = true := by kernel_rfl
theorem tf_call_26 : callB Try.prog 26 = true := by kernel_rfl
theorem tf_call_27 : callB Try.prog 27 = true := by kernel_rfl
theorem tf_call_28 : callB Try.prog 28 = true := by kernel_rfl
theorem tf_call_29 : callB Try.prog 29 = true := by kernel_rfl
theorem tf_call_30 : callB Try.prog 30 = true := by kernel_rfl
theorem tf_call_31 : callB Try.prog 31 = true := by kernel_rfl
theorem tf_call_32 : callB Try.prog 32 = true := by kernel_rfl
theorem tf_call_48 : callB Try.prog 48 = true := by kernel_rfl
theorem tf_call_49 : callB Try.prog 49 = true := by kernel_rfl
theorem tf_call_50 : callB Try.prog 50 = true := by kernel_rfl
theorem tf_call_51 : callB Try.prog 51 = true := by kernel_rfl
theorem tf_call_52 : callB Try.prog 52 = true := by kernel_rfl
theorem tf_call_53 : callB Try.prog 53 = true := by kernel_rfl
theorem tf_call_54 : callB Try.prog 54 = true := by kernel_rfl
theorem tf_call_62 : callB Try.prog 62 = true := by kernel_rfl
theorem tf_call_63 : callB Try.prog 63 = true := by kernel_rfl
theorem tf_call_64 : callB Try.prog 64 = true := by kernel_rfl
theorem tf_call_66 : callB Try.prog 66 = true := by kernel_rfl
theorem tf_call_67 : callB Try.prog 67 = true := by kernel_rfl
theorem tf_call_68 : callB Try.prog 68 = true := by kernel_rfl
theorem tf_call_69 : callB Try.prog 69 = true := by kernel_rfl
theorem tf_call_70 : callB Try.prog 70 = true := by kernel_rfl
theorem tf_call_85 : callB Try.prog 85 = true := by kernel_rfl
theorem tf_call_86 : callB Try.prog 86 = true := by kernel_rfl
theorem tf_call_87 : callB Try.prog 87 = true := by kernel_rfl
theorem tf_elem_102 : elemB Try.prog 102 4 32 = true := by kernel_rfl
theorem Q0 : elemB Try.prog 3 1 8 = true := by kernel_rfl
theorem tf_elem_50 : elemB Try.prog 50 12 112 = true := by kernel_rfl
theorem tf_elem_65 : elemB Try.prog 65 2 32 = true := by kernel_rfl
theorem tf_elem_70 : elemB Try.prog 70 9 64 = true := by kernel_rfl
theorem tf_elem_96 : elemB Try.prog 96 1 24 = true := by kernel_rfl
theorem tf_elem_98 : elemB Try.prog 98 3 24 = true := by kernel_rfl
theorem tf_eqg_98 : Try.prog.eqGuardType Try.prog.depth 98 = false := by kernel_rfl
theorem Ja : fieldB Try.prog 102 0 0 = true := by kernel_rfl
theorem Jm : fieldB Try.prog 102 1 1 = true := by kernel_rfl
theorem tf_field_41_0 : fieldB Try.prog 41 0 0 = true := by kernel_rfl
theorem tf_field_61_0 : fieldB Try.prog 61 0 0 = true := by kernel_rfl
theorem tf_field_61_1 : fieldB Try.prog 61 1 1 = true := by kernel_rfl
theorem tf_field_61_2 : fieldB Try.prog 61 2 2 = true := by kernel_rfl
theorem tf_field_61_3 : fieldB Try.prog 61 3 3 = true := by kernel_rfl
theorem tf_field_68_0 : fieldB Try.prog 68 0 0 = true := by kernel_rfl
theorem tf_field_68_1 : fieldB Try.prog 68 1 1 = true := by kernel_rfl
theorem tf_field_68_2 : fieldB Try.prog 68 2 2 = true := by kernel_rfl
theorem tf_field_68_3 : fieldB Try.prog 68 3 3 = true := by kernel_rfl
theorem tf_field_68_4 : fieldB Try.prog 68 4 4 = true := by kernel_rfl
theorem tf_field_68_5 : fieldB Try.prog 68 5 5 = true := by kernel_rfl
theorem Hu : fieldB Try.prog 70 0 0 = true := by kernel_rfl
theorem tf_field_70_3 : fieldB Try.prog 70 3 3 = true := by kernel_rfl
theorem Js : fieldB Try.prog 98 0 0 = true := by kernel_rfl
theorem tf_field_98_1 : fieldB Try.prog 98 1 1 = true := by kernel_rfl
theorem tf_field_98_2 : fieldB Try.prog 98 2 2 = true := by kernel_rfl
theorem Jo : intB Try.prog 3 .i64 = true := by kernel_rfl
theorem tf_int_5 : intB Try.prog 5 .u8 = true := by kernel_rfl
theorem tf_map_66 : mapB Try.prog 66 3 3 = true := by kernel_rfl
theorem tf_map_95 : mapB Try.prog 95 3 98 = true := by kernel_rfl
theorem tf_places_102 : placesOf Try.prog 102 = some [(0, 1), (1, 3)] := by kernel_rfl
theorem tf_places_41 : placesOf Try.prog 41 = some [(0, 1), (1, 1)] := by kernel_rfl
theorem tf_places_50 : placesOf Try.prog 50 = some [(0, 1), (1, 1), (2, 1), (3, 1), (4, 1), (5, 1), (6, 1), (7, 1), (8, 1), (9, 1), (10, 1), (11, 1)] := by kernel_rfl
theorem tf_places_65 : placesOf Try.prog 65 = some [(0, 1), (1, 1)] := by kernel_rfl
theorem Jq : placesOf Try.prog 70 = some [(0, 1), (1, 1), (2, 1), (3, 1), (4, 1), (5, 1), (6, 1), (7, 1), (8, 1)] := by kernel_rfl
theorem tf_scalar_105 : scalarB Try.prog 105 = true := by kernel_rfl
theorem tf_scalar_38 : scalarB Try.prog 38 = true := by kernel_rfl
theorem tf_size_102 : sizeB Try.prog 102 4 = true := by kernel_rfl
theorem tf_size_105 : sizeB Try.prog 105 1 = true := by kernel_rfl
theorem tf_size_25 : sizeB Try.prog 25 1 = true := by kernel_rfl
theorem tf_size_26 : sizeB Try.prog 26 1 = true := by kernel_rfl
theorem tf_size_35 : sizeB Try.prog 35 13 = true := by kernel_rfl
theorem tf_size_38 : sizeB Try.prog 38 1 = true := by kernel_rfl
theorem tf_size_4 : sizeB Try.prog 4 1 = true := by kernel_rfl
theorem tf_size_41 : sizeB Try.prog 41 2 = true := by kernel_rfl
theorem tf_size_5 : sizeB Try.prog 5 1 = true := by kernel_rfl
theorem tf_size_61 : sizeB Try.prog 61 4 = true := by kernel_rfl
theorem tf_size_68 : sizeB Try.prog 68 6 = true := by kernel_rfl
theorem tf_size_98 : sizeB Try.prog 98 3 = true := by kernel_rfl
theorem Jg : sliceB Try.prog 105 98 3 = true := by kernel_rfl
theorem tf_slice_22 : sliceB Try.prog 22 61 4 = true := by kernel_rfl
theorem tf_slice_24 : sliceB Try.prog 24 68 6 = true := by kernel_rfl
theorem tf_slice_38 : sliceB Try.prog 38 96 1 = true := by kernel_rfl
theorem Hq : sliceB Try.prog 96 102 4 = true := by kernel_rfl
theorem tf_zero_102 : (Try.prog.info? 102).bind (fun i => i.zero.map Value.cells) = some (List.toArray [.int .i64 0, .int .i64 0, .int .i64 0, .int .u8 0]) := by kernel_rfl
theorem tf_zero_105 : (Try.prog.info? 105).bind (fun i => i.zero.map Value.cells) = some (List.toArray [.slice none 0 0]) := by kernel_rfl
theorem tf_zero_35 : (Try.prog.info? 35).bind (fun i => i.zero.map Value.cells) = some (List.toArray [.slice none 0 0, .slice none 0 0, .int .i64 0, .int .i64 0, .int .i64 0, .int .i64 0, .slice none 0 0, .slice none 0 0, .slice none 0 0, .int .i64 0, .int .i64 0, .int .i64 0, .int .i64 0]) := by kernel_rfl
theorem tf_zero_41 : (Try.prog.info? 41).bind (fun i => i.zero.map Value.cells) = some (List.toArray [.slice none 0 0, .slice none 0 0]) := by kernel_rfl
theorem tf_zero_50 : (Try.prog.info? 50).bind (fun i => i.zero.map Value.cells) = some (List.toArray [.int .i64 0, .int .i64 0, .bool false, .int .i64 0, .int .i64 0, .int .i64 0, .int .i64 0, .int .i64 0, .slice none 0 0, .int .i64 0, .int .i64 0, .int .i64 0]) := by kernel_rfl
theorem tf_zero_65 : (Try.prog.info? 65).bind (fun i => i.zero.map Value.cells) = some (List.toArray [.int .i64 0, .slice none 0 0]) := by kernel_rfl
theorem tf_zero_70 : (Try.prog.info? 70).bind (fun i => i.zero.map Value.cells) = some (List.toArray [.int .i64 0, .string ByteArray.empty, .int .u8 0, .bool false, .int .i64 0, .int .i64 0, .int .i64 0, .int .u8 0, .bool false]) := by kernel_rfl
theorem tf_zero_96 : (Try.prog.info? 96).bind (fun i => i.zero.map Value.cells) = some (List.toArray [.slice none 0 0]) := by kernel_rfl
theorem Ji : zsizeB Try.prog 102 4 = true := by kernel_rfl
theorem tf_zsize_41 : zsizeB Try.prog 41 2 = true := by kernel_rfl
theorem tf_zsize_61 : zsizeB Try.prog 61 4 = true := by kernel_rfl
theorem tf_zsize_68 : zsizeB Try.prog 68 6 = true := by kernel_rfl
theorem tf_zsize_96 : zsizeB Try.prog 96 1 = true := by kernel_rfl
theorem tf_zsize_98 : zsizeB Try.prog 98 3 = true := by kernel_rfl
theorem tf_zv_98 : (Try.prog.info? 98).bind (·.zero) = some (.agg #[.int .i64 0, .int .i64 0, .int .u8 0]) := by kernel_rfl
theorem tk_3 : KeyL Try.prog 3 (fun n : Int => Value.int .i64 n) := KeyL.of_int (by kernel_rfl)
end XVF
open XAF
open XVF

def M_twistlocklaw23_with (l : List Gb) (x : Gb) : Option (List Gb) :=
 each (fun y19 i19 (s19 : (List Gb)) nx19 =>
  jp (fun kj22 =>
   bif decide (y19.Box < x.Box) then
   (need (decide ((s19.length + [y19].length) * 32 ≤ 140737488355328 ∧ s19.length + [y19].length ≤ maxLen)) <|
    kj22 (s19 ++ [y19]))
   else
   (kj22 s19)) fun (j22 : (List Gb)) =>
  nx19 j22)
 (fun (s19 : (List Gb)) =>
  need (decide ((s19.length + [x].length) * 32 ≤ 140737488355328 ∧ s19.length + [x].length ≤ maxLen)) <|
  each (fun y44 i44 (s44 : (List Gb)) nx44 =>
   jp (fun kj47 =>
    bif decide (x.Box < y44.Box) then
    (need (decide ((s44.length + [y44].length) * 32 ≤ 140737488355328 ∧ s44.length + [y44].length ≤ maxLen)) <|
     kj47 (s44 ++ [y44]))
    else
    (kj47 s44)) fun (j47 : (List Gb)) =>
   nx44 j47)
  (fun (s44 : (List Gb)) =>
   some s44) l 0 (s19 ++ [x])) l 0 []
theorem M_twistlocklaw23_with_w (l : List Gb) (x : Gb) (r : (List Gb)) (h : M_twistlocklaw23_with l x = some r) : Pure Try.prog 28 [LS 4 Gb.av l, .agg (Gb.cs x)] (· = LS 4 Gb.av r) := by
 unfold M_twistlocklaw23_with at h
 refine H0 [.tmp 4] Try.func28 rfl rfl ?_
 refine G6 fun K1 hK1 => G3 ?_
 refine G1 (u := .ptr 1083 0) (J2 (u := .agg (Gb.cs x)) (cs := [G2 x.Box, G2 x.Slot.G8, G2 x.Slot.Tier, U8 x.Slot.Half]) 1083 rfl rfl rfl rfl rfl) ?_
 refine G1 (u := LS 4 Gb.av ([] : List Gb)) (J4 4 rfl rfl) ?_
 refine G9 (hK1 _ _ ?_)
 refine Gq [(0, LS 4 Gb.av l), (3, .dptr (Gb.cs x))] [] 1083 rfl rfl rfl trivial rfl (by exact ⟨.conv (.same rfl), .ptr, trivial⟩) ?_
 refine G6 fun K2 hK2 => G3 ?_
 refine G1 (u := OW 1084 4 Gb.av ([] : List Gb)) (A_nilOwn 1084 102 4 rfl rfl rfl) ?_
 refine G9 (hK2 _ _ ?_)
 refine G6 (fun K3 hK3 => ?_)
 refine G6 fun K4 hK4 => G3 ?_
 refine G1 (u := LS 4 Gb.av l) (G5 rfl rfl) ?_
 refine H9 (f := Gb.av) (xs := l) Hq rfl rfl (fun hm11 => ?_) rfl rfl rfl
 refine G1 (u := G2 0) (G5 rfl rfl) ?_
 refine G9 (hK4 _ _ ?_)
 refine Gk ?_
 obtain ⟨b19, kx19, hb19, hkx19, h⟩ := Hj h
 refine H2 (fun i19 (s19 : (List Gb)) => each b19 kx19 (List.drop i19 l) i19 s19 = some r) (fun i19 s19 => [(0, LS 4 Gb.av l), (3, .dptr (Gb.cs x)), (5, OW 1084 4 Gb.av s19), (10, LS 4 Gb.av l), (11, G2 (l.length : Int)), (12, G2 (i19 : Int))]) (fun i19 s19 => [(1084, .spare 102 4 s19.length s19.length)]) (fun i19 => l.length - i19) 0 [] h ⟨(by repeat' constructor), ⟨⟨_, rfl, .same⟩, trivial⟩, rfl⟩ ?_
 clear h
 intro i19 s19 hi19 K19 e19
 refine G6 fun K20 hK20 => G3 ?_
 refine G1 (u := BL (decide ((i19 : Int) < (l.length : Int)))) (Hg rfl rfl rfl) ?_
 refine G9 (hK20 _ _ ?_)
 refine G6 (fun K21 hK21 => ?_)
 refine Gm rfl (fun hb => ?_) (fun hb => ?_)
 ·
  have hk19 := lt_len hb
  obtain ⟨y19, nx19, hy19, hn19, h⟩ := Hc hi19 hk19
  replace h := app4 hb19 h
  refine Gp ?_
  refine hK21 _ _ ?_
  obtain ⟨kj22, hkj22, h⟩ := Jf h
  refine Ht (fun j22 : (List Gb) => kj22 j22 = some r) (fun j22 => [(0, LS 4 Gb.av l), (3, .dptr (Gb.cs x)), (5, OW 1084 4 Gb.av j22), (10, LS 4 Gb.av l), (11, G2 (l.length : Int)), (12, G2 (i19 : Int))]) (fun j22 => [(1084, .spare 102 4 j22.length j22.length)]) (fun Kj22 ej22 => ?_) ?_
  ·
   refine Gk ?_
   refine G6 fun K23 hK23 => G3 ?_
   refine G1 (u := .dptr (Gb.cs y19)) (Gw (f := Gb.av) (xs := l) (y := y19) rfl rfl rfl Hq hy19 rfl) ?_
   refine G1 (u := .agg (Gb.cs y19)) (Gf tf_agg_102 rfl rfl rfl) ?_
   refine G1 (u := .ptr 1085 0) (H8 1085 4 Ji rfl rfl) ?_
   refine H6 (u := .junk) (Gz (u := .agg (Gb.cs y19)) (ds := [G2 y19.Box, G2 y19.Slot.G8, G2 y19.Slot.Tier, U8 y19.Slot.Half]) tf_size_102 rfl rfl rfl rfl rfl rfl rfl rfl) ?_
   refine G9 (hK23 _ _ ?_)
   refine Gq [(0, LS 4 Gb.av l), (3, .dptr (Gb.cs x)), (5, OW 1084 4 Gb.av s19), (7, .dptr (Gb.cs y19)), (10, LS 4 Gb.av l), (11, G2 (l.length : Int)), (12, G2 (i19 : Int))] [(1084, .spare 102 4 s19.length s19.length)] 1085 rfl rfl rfl ⟨⟨_, rfl, .same⟩, trivial⟩ rfl (by repeat' (first | exact .ptr | constructor)) ?_
   refine G6 fun K24 hK24 => G3 ?_
   refine G1 (u := .dptr (Gb.cs y19)) (Gd Ja rfl rfl rfl) ?_
   refine G1 (u := G2 y19.Box) (Gn Gc rfl rfl rfl) ?_
   refine G1 (u := .dptr (Gb.cs x)) (Gd Ja rfl rfl rfl) ?_
   refine G1 (u := G2 x.Box) (Gn Gc rfl rfl rfl) ?_
   refine G1 (u := BL (decide (y19.Box < x.Box))) (Hg rfl rfl rfl) ?_
   refine G9 (hK24 _ _ ?_)
   refine Gm rfl (fun hb => ?_) (fun hb => ?_)
   ·
    replace h := bif_t hb h
    refine G3 ?_
    refine G1 (u := OW 1084 4 Gb.av s19) (G5 rfl rfl) ?_
    refine G1 (u := .agg (Gb.cs y19)) (Gf tf_agg_102 rfl rfl rfl) ?_
    refine G1 (u := LS 4 Gb.av [y19]) (H1 (xs := [.agg (Gb.cs y19)]) rfl ⟨rfl, rfl, trivial⟩ Hq Ji rfl rfl rfl rfl) ?_
    obtain ⟨ha25, h⟩ := He h
    refine G1 (u := OW 1084 4 Gb.av (s19 ++ [y19])) (Hs (f := Gb.av) (xs := s19) (ys := [y19]) rfl rfl rfl rfl Hq tf_elem_102 ha25 (fun _ => rfl) (.inl rfl) rfl) ?_
    refine G1 (u := OW 1084 4 Gb.av (s19 ++ [y19])) (Ga rfl rfl) ?_
    refine G9 ?_
    exact ej22 _ _ (s19 ++ [y19]) h ⟨(by repeat' constructor), ⟨⟨_, rfl, .same⟩, trivial⟩, rfl⟩
   ·
    replace h := bif_f hb h
    refine Gp ?_
    exact ej22 _ _ s19 h ⟨(by repeat' constructor), ⟨⟨_, rfl, .same⟩, trivial⟩, rfl⟩
  ·intro j22 h
   replace h := app1 hkj22 h
   refine G3 ?_
   refine G1 (u := G2 ((i19 + 1 : Nat) : Int)) (H7 (idx_succ hk19 hm11) rfl rfl rfl) ?_
   refine G1 (u := G2 ((i19 + 1 : Nat) : Int)) (G5 rfl rfl) ?_
   refine G9 ?_
   exact e19 _ _ (i19 + 1) j22 (app1 hn19 h) (by omega) ⟨(by repeat' constructor), ⟨⟨_, rfl, .same⟩, trivial⟩, rfl⟩
 ·
  have h := app1 hkx19 (Hd hi19 (H3 hb))
  refine H4 ?_
  refine hK3 _ _ ?_
  refine G6 fun K26 hK26 => G3 ?_
  refine G1 (u := OW 1084 4 Gb.av s19) (G5 rfl rfl) ?_
  refine G1 (u := .agg (Gb.cs x)) (Gf tf_agg_102 rfl rfl rfl) ?_
  refine G1 (u := LS 4 Gb.av [x]) (H1 (xs := [.agg (Gb.cs x)]) rfl ⟨rfl, rfl, trivial⟩ Hq Ji rfl rfl rfl rfl) ?_
  obtain ⟨ha27, h⟩ := He h
  refine G1 (u := OW 1084 4 Gb.av (s19 ++ [x])) (Hs (f := Gb.av) (xs := s19) (ys := [x]) rfl rfl rfl rfl Hq tf_elem_102 ha27 (fun _ => rfl) (.inl rfl) rfl) ?_
  refine G1 (u := OW 1084 4 Gb.av (s19 ++ [x])) (Ga rfl rfl) ?_
  refine G9 (hK26 _ _ ?_)
  refine G6 (fun K28 hK28 => ?_)
  refine G6 fun K29 hK29 => G3 ?_
  refine G1 (u := LS 4 Gb.av l) (G5 rfl rfl) ?_
  refine H9 (f := Gb.av) (xs := l) Hq rfl rfl (fun hm31 => ?_) rfl rfl rfl
  refine G1 (u := G2 0) (G5 rfl rfl) ?_
  refine G9 (hK29 _ _ ?_)
  refine Gk ?_
  obtain ⟨b44, kx44, hb44, hkx44, h⟩ := Hj h
  refine H2 (fun i44 (s44 : (List Gb)) => each b44 kx44 (List.drop i44 l) i44 s44 = some r) (fun i44 s44 => [(3, .dptr (Gb.cs x)), (5, OW 1084 4 Gb.av s44), (30, LS 4 Gb.av l), (31, G2 (l.length : Int)), (32, G2 (i44 : Int))]) (fun i44 s44 => [(1084, .spare 102 4 s44.length s44.length)]) (fun i44 => l.length - i44) 0 (s19 ++ [x]) h ⟨(by repeat' constructor), ⟨⟨_, rfl, .same⟩, trivial⟩, rfl⟩ ?_
  clear h
  intro i44 s44 hi44 K44 e44
  refine G6 fun K45 hK45 => G3 ?_
  refine G1 (u := BL (decide ((i44 : Int) < (l.length : Int)))) (Hg rfl rfl rfl) ?_
  refine G9 (hK45 _ _ ?_)
  refine G6 (fun K46 hK46 => ?_)
  refine Gm rfl (fun hb => ?_) (fun hb => ?_)
  ·
   have hk44 := lt_len hb
   obtain ⟨y44, nx44, hy44, hn44, h⟩ := Hc hi44 hk44
   replace h := app4 hb44 h
   refine Gp ?_
   refine hK46 _ _ ?_
   obtain ⟨kj47, hkj47, h⟩ := Jf h
   refine Ht (fun j47 : (List Gb) => kj47 j47 = some r) (fun j47 => [(3, .dptr (Gb.cs x)), (5, OW 1084 4 Gb.av j47), (30, LS 4 Gb.av l), (31, G2 (l.length : Int)), (32, G2 (i44 : Int))]) (fun j47 => [(1084, .spare 102 4 j47.length j47.length)]) (fun Kj47 ej47 => ?_) ?_
   ·
    refine Gk ?_
    refine G6 fun K48 hK48 => G3 ?_
    refine G1 (u := .dptr (Gb.cs y44)) (Gw (f := Gb.av) (xs := l) (y := y44) rfl rfl rfl Hq hy44 rfl) ?_
    refine G1 (u := .agg (Gb.cs y44)) (Gf tf_agg_102 rfl rfl rfl) ?_
    refine G1 (u := .ptr 1086 0) (H8 1086 4 Ji rfl rfl) ?_
    refine H6 (u := .junk) (Gz (u := .agg (Gb.cs y44)) (ds := [G2 y44.Box, G2 y44.Slot.G8, G2 y44.Slot.Tier, U8 y44.Slot.Half]) tf_size_102 rfl rfl rfl rfl rfl rfl rfl rfl) ?_
    refine G9 (hK48 _ _ ?_)
    refine Gq [(3, .dptr (Gb.cs x)), (5, OW 1084 4 Gb.av s44), (9, .dptr (Gb.cs y44)), (30, LS 4 Gb.av l), (31, G2 (l.length : Int)), (32, G2 (i44 : Int))] [(1084, .spare 102 4 s44.length s44.length)] 1086 rfl rfl rfl ⟨⟨_, rfl, .same⟩, trivial⟩ rfl (by repeat' (first | exact .ptr | constructor)) ?_
    refine G6 fun K49 hK49 => G3 ?_
    refine G1 (u := .dptr (Gb.cs y44)) (Gd Ja rfl rfl rfl) ?_
    refine G1 (u := G2 y44.Box) (Gn Gc rfl rfl rfl) ?_
    refine G1 (u := .dptr (Gb.cs x)) (Gd Ja rfl rfl rfl) ?_
    refine G1 (u := G2 x.Box) (Gn Gc rfl rfl rfl) ?_
    refine G1 (u := BL (decide (x.Box < y44.Box))) (Jy rfl rfl rfl) ?_
    refine G9 (hK49 _ _ ?_)
    refine Gm rfl (fun hb => ?_) (fun hb => ?_)
    ·
     replace h := bif_t hb h
     refine G3 ?_
     refine G1 (u := OW 1084 4 Gb.av s44) (G5 rfl rfl) ?_
     refine G1 (u := .agg (Gb.cs y44)) (Gf tf_agg_102 rfl rfl rfl) ?_
     refine G1 (u := LS 4 Gb.av [y44]) (H1 (xs := [.agg (Gb.cs y44)]) rfl ⟨rfl, rfl, trivial⟩ Hq Ji rfl rfl rfl rfl) ?_
     obtain ⟨ha50, h⟩ := He h
     refine G1 (u := OW 1084 4 Gb.av (s44 ++ [y44])) (Hs (f := Gb.av) (xs := s44) (ys := [y44]) rfl rfl rfl rfl Hq tf_elem_102 ha50 (fun _ => rfl) (.inl rfl) rfl) ?_
     refine G1 (u := OW 1084 4 Gb.av (s44 ++ [y44])) (Ga rfl rfl) ?_
     refine G9 ?_
     exact ej47 _ _ (s44 ++ [y44]) h ⟨(by repeat' constructor), ⟨⟨_, rfl, .same⟩, trivial⟩, rfl⟩
    ·
     replace h := bif_f hb h
     refine Gp ?_
     exact ej47 _ _ s44 h ⟨(by repeat' constructor), ⟨⟨_, rfl, .same⟩, trivial⟩, rfl⟩
   ·intro j47 h
    replace h := app1 hkj47 h
    refine G3 ?_
    refine G1 (u := G2 ((i44 + 1 : Nat) : Int)) (H7 (idx_succ hk44 hm31) rfl rfl rfl) ?_
    refine G1 (u := G2 ((i44 + 1 : Nat) : Int)) (G5 rfl rfl) ?_
    refine G9 ?_
    exact e44 _ _ (i44 + 1) j47 (app1 hn44 h) (by omega) ⟨(by repeat' constructor), ⟨⟨_, rfl, .same⟩, trivial⟩, rfl⟩
  ·
   have h := app1 hkx44 (Hd hi44 (H3 hb))
   refine H4 ?_
   refine hK28 _ _ ?_
   refine G6 fun K51 hK51 => G3 ?_
   refine G1 (u := OW 1084 4 Gb.av s44) (G5 rfl rfl) ?_
   refine G1 (u := OW 1084 4 Gb.av s44) (Ga rfl rfl) ?_
   refine G9 (hK51 _ _ ?_)
   refine Gt ?_
   exact ⟨[LS 4 Gb.av s44], [], trivial, rfl, ⟨⟨_, rfl, .conv (.list rfl)⟩, trivial⟩, rfl, congrArg (fun r : (List Gb) => (LS 4 Gb.av r : AV)) (Option.some.inj h)⟩

def M_stow_taken (l : List Gb) : Option (List Slot) :=
 each (fun y17 i17 (s17 : (List Slot)) nx17 =>
  need (decide ((s17.length + [y17.Slot].length) * 24 ≤ 140737488355328 ∧ s17.length + [y17.Slot].length ≤ maxLen)) <|
  nx17 (s17 ++ [y17.Slot]))
 (fun (s17 : (List Slot)) =>
  some s17) l 0 []
theorem M_stow_taken_w (l : List Gb) (r : (List Slot)) (h : M_stow_taken l = some r) : Pure Try.prog 48 [LS 4 Gb.av l] (· = LS 3 Slot.av r) := by
 unfold M_stow_taken at h
 refine H0 [.tmp 2] Try.func48 rfl rfl ?_
 refine G6 fun K1 hK1 => G3 ?_
 refine G1 (u := LS 3 Slot.av ([] : List Slot)) (J4 3 rfl rfl) ?_
 refine G9 (hK1 _ _ ?_)
 refine G6 fun K2 hK2 => G3 ?_
 refine G1 (u := OW 1116 3 Slot.av ([] : List Slot)) (A_nilOwn 1116 98 3 rfl rfl rfl) ?_
 refine G9 (hK2 _ _ ?_)
 refine G6 (fun K3 hK3 => ?_)
 refine G6 fun K4 hK4 => G3 ?_
 refine G1 (u := LS 4 Gb.av l) (G5 rfl rfl) ?_
 refine H9 (f := Gb.av) (xs := l) Hq rfl rfl (fun hm7 => ?_) rfl rfl rfl
 refine G1 (u := G2 0) (G5 rfl rfl) ?_
 refine G9 (hK4 _ _ ?_)
 refine Gk ?_
 obtain ⟨b17, kx17, hb17, hkx17, h⟩ := Hj h
 refine H2 (fun i17 (s17 : (List Slot)) => each b17 kx17 (List.drop i17 l) i17 s17 = some r) (fun i17 s17 => [(3, OW 1116 3 Slot.av s17), (6, LS 4 Gb.av l), (7, G2 (l.length : Int)), (8, G2 (i17 : Int))]) (fun i17 s17 => [(1116, .spare 98 3 s17.length s17.length)]) (fun i17 => l.length - i17) 0 [] h ⟨(by repeat' constructor), ⟨⟨_, rfl, .same⟩, trivial⟩, rfl⟩ ?_
 clear h
 intro i17 s17 hi17 K17 e17
 refine G6 fun K18 hK18 => G3 ?_
 refine G1 (u := BL (decide ((i17 : Int) < (l.length : Int)))) (Hg rfl rfl rfl) ?_
 refine G9 (hK18 _ _ ?_)
 refine G6 (fun K19 hK19 => ?_)
 refine Gm rfl (fun hb => ?_) (fun hb => ?_)
 ·
  have hk17 := lt_len hb
  obtain ⟨y17, nx17, hy17, hn17, h⟩ := Hc hi17 hk17
  replace h := app4 hb17 h
  refine Gp ?_
  refine hK19 _ _ ?_
  refine G6 (fun K20 hK20 => ?_)
  refine Gk ?_
  refine G6 fun K21 hK21 => G3 ?_
  refine G1 (u := .dptr (Gb.cs y17)) (Gw (f := Gb.av) (xs := l) (y := y17) rfl rfl rfl Hq hy17 rfl) ?_
  refine G1 (u := .agg (Gb.cs y17)) (Gf tf_agg_102 rfl rfl rfl) ?_
  refine G1 (u := .ptr 1117 0) (H8 1117 4 Ji rfl rfl) ?_
  refine H6 (u := .junk) (Gz (u := .agg (Gb.cs y17)) (ds := [G2 y17.Box, G2 y17.Slot.G8, G2 y17.Slot.Tier, U8 y17.Slot.Half]) tf_size_102 rfl rfl rfl rfl rfl rfl rfl rfl) ?_
  refine G9 (hK21 _ _ ?_)
  refine Gq [(3, OW 1116 3 Slot.av s17), (5, .dptr (Gb.cs y17)), (6, LS 4 Gb.av l), (7, G2 (l.length : Int)), (8, G2 (i17 : Int))] [(1116, .spare 98 3 s17.length s17.length)] 1117 rfl rfl rfl ⟨⟨_, rfl, .same⟩, trivial⟩ rfl (by repeat' (first | exact .ptr | constructor)) ?_
  refine G3 ?_
  refine G1 (u := OW 1116 3 Slot.av s17) (G5 rfl rfl) ?_
  refine G1 (u := .dptr (Slot.cs y17.Slot)) (Gd Jm rfl rfl rfl) ?_
  refine G1 (u := .agg (Slot.cs y17.Slot)) (Gf Jn rfl rfl rfl) ?_
  refine G1 (u := LS 3 Slot.av [y17.Slot]) (H1 (xs := [.agg (Slot.cs y17.Slot)]) rfl ⟨rfl, rfl, trivial⟩ Jg tf_zsize_98 rfl rfl rfl rfl) ?_
  obtain ⟨ha22, h⟩ := He h
  refine G1 (u := OW 1116 3 Slot.av (s17 ++ [y17.Slot])) (Hs (f := Slot.av) (xs := s17) (ys := [y17.Slot]) rfl rfl rfl rfl Jg tf_elem_98 ha22 (fun _ => rfl) (.inl rfl) rfl) ?_
  refine G1 (u := OW 1116 3 Slot.av (s17 ++ [y17.Slot])) (Ga rfl rfl) ?_
  refine G9 (hK20 _ _ ?_)
  refine G3 ?_
  refine G1 (u := G2 ((i17 + 1 : Nat) : Int)) (H7 (idx_succ hk17 hm7) rfl rfl rfl) ?_
  refine G1 (u := G2 ((i17 + 1 : Nat) : Int)) (G5 rfl rfl) ?_
  refine G9 ?_
  exact e17 _ _ (i17 + 1) (s17 ++ [y17.Slot]) (app1 hn17 h) (by omega) ⟨(by repeat' constructor), ⟨⟨_, rfl, .same⟩, trivial⟩, rfl⟩
 ·
  have h := app1 hkx17 (Hd hi17 (H3 hb))
  refine H4 ?_
  refine hK3 _ _ ?_
  refine G6 fun K23 hK23 => G3 ?_
  refine G1 (u := OW 1116 3 Slot.av s17) (G5 rfl rfl) ?_
  refine G1 (u := OW 1116 3 Slot.av s17) (Ga rfl rfl) ?_
  refine G9 (hK23 _ _ ?_)
  refine Gt ?_
  exact ⟨[LS 3 Slot.av s17], [], trivial, rfl, ⟨⟨_, rfl, .conv (.list rfl)⟩, trivial⟩, rfl, congrArg (fun r : (List Slot) => (LS 3 Slot.av r : AV)) (Option.some.inj h)⟩

def M_stow_Find_1 (b : Box) (p1 : Int) : Option Bool :=
 some (decide (b.ID = p1))
theorem M_stow_Find_1_w (b : Box) (p1 : Int) (r : Bool) (h : M_stow_Find_1 b p1 = some r) : Pure Try.prog 63 [.agg (Box.cs b), .dptr [G2 p1]] (· = BL r) := by
 unfold M_stow_Find_1 at h
 refine H0 [.tmp 3] Try.func63 rfl rfl ?_
 refine G6 fun K1 hK1 => G3 ?_
 refine G1 (u := .ptr 1130 0) (J2 (u := .agg (Box.cs b)) (cs := (Box.cs b)) 1130 rfl rfl rfl rfl rfl) ?_
 refine G1 (u := BL false) (Ga rfl rfl) ?_
 refine G9 (hK1 _ _ ?_)
 refine Gq [(1, .dptr [G2 p1]), (2, .dptr (Box.cs b))] [] 1130 rfl rfl rfl trivial rfl (by exact ⟨.conv (.same rfl), .ptr, trivial⟩) ?_
 refine G6 fun K2 hK2 => G3 ?_
 refine G1 (u := .dptr (Box.cs b)) (Gd Hu rfl rfl rfl) ?_
 refine G1 (u := G2 b.ID) (Gn Gc rfl rfl rfl) ?_
 refine G1 (u := G2 p1) (Gn Gc rfl rfl rfl) ?_
 refine G1 (u := BL (decide (b.ID = p1))) (Jb rfl rfl rfl) ?_
 refine G1 (u := BL (decide (b.ID = p1))) (Ga rfl rfl) ?_
 refine G9 (hK2 _ _ ?_)
 refine Gt ?_
 exact ⟨[BL (decide (b.ID = p1))], [], trivial, rfl, ⟨⟨_, rfl, .conv (.same rfl)⟩, trivial⟩, rfl, congrArg (fun r : Bool => (BL r : AV)) (Option.some.inj h)⟩

def M_slices_IndexFunc_apiBox (s : List Box) (f : Box → Option Bool) : Option Int :=
 each (fun y20 i20 (s20 : Unit) nx20 =>
  bnd (f y20) fun r26 =>
  bif r26 then
  (some (i20 : Int))
  else
  (nx20 ()))
 (fun (s20 : Unit) =>
  some (-1)) s 0 ()
theorem M_slices_IndexFunc_apiBox_w (s : List Box) (f : Box → Option Bool) (f_f : FuncId) (f_c : List AV) (f_B : callB Try.prog f_f = true) (f_d : refsL (fun _ => false) f_c = true) (f_w : ∀ a0 q, f a0 = some q → Pure Try.prog f_f ([.agg (Box.cs a0)] ++ f_c) (· = BL q)) (r : Int) (h : M_slices_IndexFunc_apiBox s f = some r) : Pure Try.prog 62 [LS 9 Box.av s, .fn f_f f_c] (· = G2 r) := by
 unfold M_slices_IndexFunc_apiBox at h
 refine H0 [.tmp 4] Try.func62 rfl rfl ?_
 refine G6 fun K1 hK1 => G3 ?_
 refine G1 (u := G2 0) (Ga rfl rfl) ?_
 refine G9 (hK1 _ _ ?_)
 refine G6 (fun K2 hK2 => ?_)
 refine G6 fun K3 hK3 => G3 ?_
 refine G1 (u := LS 9 Box.av s) (G5 rfl rfl) ?_
 refine H9 (f := Box.av) (xs := s) Hp rfl rfl (fun hm7 => ?_) rfl rfl rfl
 refine G1 (u := G2 0) (G5 rfl rfl) ?_
 refine G9 (hK3 _ _ ?_)
 refine Gk ?_
 obtain ⟨b20, kx20, hb20, hkx20, h⟩ := Hj h
 refine H2 (fun i20 (s20 : Unit) => each b20 kx20 (List.drop i20 s) i20 s20 = some r) (fun i20 s20 => [(0, LS 9 Box.av s), (1, .fn f_f f_c), (7, G2 (s.length : Int)), (8, G2 (i20 : Int))]) (fun i20 s20 => []) (fun i20 => s.length - i20) 0 () h ⟨⟨.same rfl, .same (refsL_any _ _ f_d), .same rfl, .same rfl, trivial⟩, trivial, rfl⟩ ?_
 clear h
 intro i20 s20 hi20 K20 e20
 refine G6 fun K21 hK21 => G3 ?_
 refine G1 (u := BL (decide ((i20 : Int) < (s.length : Int)))) (Hg rfl rfl rfl) ?_
 refine G9 (hK21 _ _ ?_)
 refine G6 (fun K22 hK22 => ?_)
 refine Gm rfl (fun hb => ?_) (fun hb => ?_)
 ·
  have hk20 := lt_len hb
  obtain ⟨y20, nx20, hy20, hn20, h⟩ := Hc hi20 hk20
  replace h := app4 hb20 h
  refine Gp ?_
  refine hK22 _ _ ?_
  refine G6 (fun K23 hK23 => ?_)
  refine Gk ?_
  refine G6 fun K24 hK24 => G3 ?_
  refine G1 (u := G2 (i20 : Int)) (G5 rfl rfl) ?_
  refine G1 (u := G2 (i20 : Int)) (Ga rfl rfl) ?_
  refine G9 (hK24 _ _ ?_)
  refine G6 fun K25 hK25 => G3 ?_
  refine G1 (u := .fn f_f f_c) (G5 rfl rfl) ?_
  refine G1 (u := LS 9 Box.av s) (G5 rfl rfl) ?_
  refine G1 (u := G2 (i20 : Int)) (G5 rfl rfl) ?_
  refine G1 (u := .dptr (Box.cs y20)) (Gw (f := Box.av) (xs := s) (y := y20) rfl rfl rfl Hp hy20 rfl) ?_
  refine G1 (u := .agg (Box.cs y20)) (Gf Jw rfl rfl rfl) ?_
  obtain ⟨r26, hr26, h⟩ := Gg h
  refine G1 (u := BL r26) (A_callV1 (args := [.agg (Box.cs y20)]) (caps := f_c) rfl rfl (f_w y20 _ hr26) f_B ⟨rfl, rfl, trivial⟩ f_d) ?_
  refine G9 (hK25 _ _ ?_)
  refine Gm rfl (fun hb => ?_) (fun hb => ?_)
  ·
   replace h := bif_t hb h
   refine G6 fun K27 hK27 => G3 ?_
   refine G1 (u := G2 (i20 : Int)) (G5 rfl rfl) ?_
   refine G1 (u := G2 (i20 : Int)) (Ga rfl rfl) ?_
   refine G9 (hK27 _ _ ?_)
   refine Gt ?_
   exact ⟨[G2 (i20 : Int)], [], trivial, rfl, ⟨⟨_, rfl, .conv (.same rfl)⟩, trivial⟩, rfl, congrArg (fun r : Int => (G2 r : AV)) (Option.some.inj h)⟩
  ·
   replace h := bif_f hb h
   refine Gp ?_
   refine hK23 _ _ ?_
   refine G3 ?_
   refine G1 (u := G2 ((i20 + 1 : Nat) : Int)) (H7 (idx_succ hk20 hm7) rfl rfl rfl) ?_
   refine G1 (u := G2 ((i20 + 1 : Nat) : Int)) (G5 rfl rfl) ?_
   refine G9 ?_
   exact e20 _ _ (i20 + 1) () (app1 hn20 h) (by omega) ⟨⟨.same rfl, .same (refsL_any _ _ f_d), .same rfl, .same rfl, trivial⟩, trivial, rfl⟩
 ·
  have h := app1 hkx20 (Hd hi20 (H3 hb))
  refine H4 ?_
  refine hK2 _ _ ?_
  refine G6 fun K28 hK28 => G3 ?_
  refine G1 (u := G2 (-1)) (Ga rfl rfl) ?_
  refine G9 (hK28 _ _ ?_)
  refine Gt ?_
  exact ⟨[G2 (-1)], [], trivial, rfl, ⟨⟨_, rfl, .conv (.same rfl)⟩, trivial⟩, rfl, congrArg (fun r : Int => (G2 r : AV)) (Option.some.inj h)⟩

def M_stow_Find (boxes : List Box) (id_ : Int) : Option (Box × Bool) :=
 bnd (M_slices_IndexFunc_apiBox boxes (fun z0 => M_stow_Find_1 z0 id_)) fun r3 =>
 bif decide (r3 < 0) then
 (some ((Box.mk 0 ByteArray.empty 0 false 0 0 0 0 false), false))
 else
 (gidx boxes r3 fun y8 =>
  some (y8, true))
theorem M_stow_Find_w (boxes : List Box) (id_ : Int) (r : Box × Bool) (h : M_stow_Find boxes id_ = some r) : Pure Try.prog 49 [LS 9 Box.av boxes, G2 id_] (· = .tup [.agg (Box.cs r.1), BL r.2]) := by
 unfold M_stow_Find at h
 refine H0 [.cell 4 70, .tmp 5] Try.func49 rfl rfl ?_
 refine G6 fun K1 hK1 => G3 ?_
 refine G1 (u := .ptr 1118 0) (J2 (u := G2 id_) (cs := [G2 id_]) 1118 rfl rfl rfl rfl rfl) ?_
 refine G1 (u := .ptr 1119 0) (A_allocZ 1119 [G2 0, ST ByteArray.empty, U8 0, BL false, G2 0, G2 0, G2 0, U8 0, BL false] [.int .i64 0, .string ByteArray.empty, .int .u8 0, .bool false, .int .i64 0, .int .i64 0, .int .i64 0, .int .u8 0, .bool false] tf_zero_70 ⟨.inl rfl, .inl rfl, .inl rfl, .inl rfl, .inl rfl, .inl rfl, .inl rfl, .inl rfl, .inl rfl, trivial⟩ rfl rfl) ?_
 refine G1 (u := BL false) (Ga rfl rfl) ?_
 refine G9 (hK1 _ _ ?_)
 refine Gq [(0, LS 9 Box.av boxes), (3, .dptr [G2 id_]), (4, .ptr 1119 0)] [(1119, .box 70 [G2 0, ST ByteArray.empty, U8 0, BL false, G2 0, G2 0, G2 0, U8 0, BL false])] 1118 rfl rfl rfl ⟨⟨_, rfl, .boxEq rfl rfl⟩, trivial⟩ rfl (by exact ⟨.conv (.same rfl), .ptr, .conv (.same rfl), trivial⟩) ?_
 refine G6 fun K2 hK2 => G3 ?_
 refine G1 (u := LS 9 Box.av boxes) (G5 rfl rfl) ?_
 refine G1 (u := .fn 63 [.dptr [G2 id_]]) (A_makeFunc (cs := [.dptr [G2 id_]]) rfl rfl) ?_
 obtain ⟨r3, hr3, h⟩ := Gg h
 refine G1 (u := G2 r3) (Gu (args := [LS 9 Box.av boxes, .fn 63 [.dptr [G2 id_]]]) rfl (M_slices_IndexFunc_apiBox_w boxes (fun z0 => M_stow_Find_1 z0 id_) 63 [.dptr [G2 id_]] tf_call_63 rfl (fun z0 q hq => M_stow_Find_1_w z0 id_ q hq) r3 hr3) tf_call_62 ⟨rfl, rfl, rfl, rfl, trivial⟩) ?_
 refine G1 (u := G2 r3) (Ga rfl rfl) ?_
 refine G9 (hK2 _ _ ?_)
 refine G6 (fun K4 hK4 => ?_)
 refine G6 fun K5 hK5 => G3 ?_
 refine G1 (u := G2 r3) (G5 rfl rfl) ?_
 refine G1 (u := BL (decide (r3 < 0))) (Hg rfl rfl rfl) ?_
 refine G9 (hK5 _ _ ?_)
 refine Gm rfl (fun hb => ?_) (fun hb => ?_)
 ·
  replace h := bif_t hb h
  refine G6 fun K6 hK6 => G3 ?_
  refine G1 (u := .agg [G2 0, ST ByteArray.empty, U8 0, BL false, G2 0, G2 0, G2 0, U8 0, BL false]) (Hn (cs := [G2 0, ST ByteArray.empty, U8 0, BL false, G2 0, G2 0, G2 0, U8 0, BL false]) [(0, 1), (1, 1), (2, 1), (3, 1), (4, 1), (5, 1), (6, 1), (7, 1), (8, 1)] [G2 0, ST ByteArray.empty, U8 0, BL false, G2 0, G2 0, G2 0, U8 0, BL false] [.int .i64 0, .string ByteArray.empty, .int .u8 0, .bool false, .int .i64 0, .int .i64 0, .int .i64 0, .int .u8 0, .bool false] Jq tf_zero_70 ⟨.inl rfl, .inl rfl, .inl rfl, .inl rfl, .inl rfl, .inl rfl, .inl rfl, .inl rfl, .inl rfl, trivial⟩ rfl rfl) ?_
  refine H6 (u := .junk) (Gz (u := .agg [G2 0, ST ByteArray.empty, U8 0, BL false, G2 0, G2 0, G2 0, U8 0, BL false]) (ds := [G2 0, ST ByteArray.empty, U8 0, BL false, G2 0, G2 0, G2 0, U8 0, BL false]) Jx rfl rfl rfl rfl rfl rfl rfl rfl) ?_
  refine G1 (u := BL false) (Ga rfl rfl) ?_
  refine G9 (hK6 _ _ ?_)
  refine Gt ?_
  exact ⟨[.agg [G2 0, ST ByteArray.empty, U8 0, BL false, G2 0, G2 0, G2 0, U8 0, BL false], BL false], [], trivial, rfl, ⟨⟨_, ⟨_, _, _, _, rfl, rfl, rfl, .inl ⟨Jw, rfl⟩⟩, .conv (.same rfl)⟩, ⟨_, rfl, .conv (.same rfl)⟩, trivial⟩, rfl, congrArg (fun r : Box × Bool => (.tup [.agg (Box.cs r.1), BL r.2] : AV)) (Option.some.inj h)⟩
 ·
  replace h := bif_f hb h
  refine Gp ?_
  refine hK4 _ _ ?_
  refine G6 fun K7 hK7 => G3 ?_
  refine G1 (u := LS 9 Box.av boxes) (G5 rfl rfl) ?_
  refine G1 (u := G2 r3) (G5 rfl rfl) ?_
  obtain ⟨m9, y8, hm9, hy8, h⟩ := Je h
  refine G1 (u := .dptr (Box.cs y8)) (Gw (f := Box.av) (xs := boxes) (y := y8) rfl rfl rfl Hp hy8 hm9) ?_
  refine G1 (u := .agg (Box.cs y8)) (Gf Jw rfl rfl rfl) ?_
  refine H6 (u := .junk) (Gz (u := .agg (Box.cs y8)) (ds := (Box.cs y8)) Jx rfl rfl rfl rfl rfl rfl rfl rfl) ?_
  refine G1 (u := BL true) (Ga rfl rfl) ?_
  refine G9 (hK7 _ _ ?_)
  refine Gt ?_
  exact ⟨[.agg (Box.cs y8), BL true], [], trivial, rfl, ⟨⟨_, ⟨_, _, _, _, rfl, rfl, rfl, .inl ⟨Jw, rfl⟩⟩, .conv (.same rfl)⟩, ⟨_, rfl, .conv (.same rfl)⟩, trivial⟩, rfl, congrArg (fun r : Box × Bool => (.tup [.agg (Box.cs r.1), BL r.2] : AV)) (Option.some.inj h)⟩

def M_slices_Index_uint8 (s : List Int) (v : Int) : Option Int :=
 each (fun y18 i18 (s18 : Unit) nx18 =>
  bif decide (v = y18) then
  (some (i18 : Int))
  else
  (nx18 ()))
 (fun (s18 : Unit) =>
  some (-1)) s 0 ()
theorem M_slices_Index_uint8_w (s : List Int) (v : Int) (r : Int) (h : M_slices_Index_uint8 s v = some r) : Pure Try.prog 85 [LS 1 U8 s, U8 v] (· = G2 r) := by
 unfold M_slices_Index_uint8 at h
 refine H0 [.tmp 4] Try.func85 rfl rfl ?_
 refine G6 fun K1 hK1 => G3 ?_
 refine G1 (u := G2 0) (Ga rfl rfl) ?_
 refine G9 (hK1 _ _ ?_)
 refine G6 (fun K2 hK2 => ?_)
 refine G6 fun K3 hK3 => G3 ?_
 refine G1 (u := LS 1 U8 s) (G5 rfl rfl) ?_
 refine H9 (f := U8) (xs := s) tf_slice_145 rfl rfl (fun hm7 => ?_) rfl rfl rfl
 refine G1 (u := G2 0) (G5 rfl rfl) ?_
 refine G9 (hK3 _ _ ?_)
 refine Gk ?_
 obtain ⟨b18, kx18, hb18, hkx18, h⟩ := Hj h
 refine H2 (fun i18 (s18 : Unit) => each b18 kx18 (List.drop i18 s) i18 s18 = some r) (fun i18 s18 => [(0, LS 1 U8 s), (1, U8 v), (7, G2 (s.length : Int)), (8, G2 (i18 : Int))]) (fun i18 s18 => []) (fun i18 => s.length - i18) 0 () h ⟨(by repeat' constructor), trivial, rfl⟩ ?_
 clear h
 intro i18 s18 hi18 K18 e18
 refine G6 fun K19 hK19 => G3 ?_
 refine G1 (u := BL (decide ((i18 : Int) < (s.length : Int)))) (Hg rfl rfl rfl) ?_
 refine G9 (hK19 _ _ ?_)
 refine G6 (fun K20 hK20 => ?_)
 refine Gm rfl (fun hb => ?_) (fun hb => ?_)
 ·
  have hk18 := lt_len hb
  obtain ⟨y18, nx18, hy18, hn18, h⟩ := Hc hi18 hk18
  replace h := app4 hb18 h
  refine Gp ?_
  refine hK20 _ _ ?_
  refine G6 (fun K21 hK21 => ?_)
  refine Gk ?_
  refine G6 fun K22 hK22 => G3 ?_
  refine G1 (u := G2 (i18 : Int)) (G5 rfl rfl) ?_
  refine G1 (u := G2 (i18 : Int)) (Ga rfl rfl) ?_
  refine G9 (hK22 _ _ ?_)
  refine G6 fun K23 hK23 => G3 ?_
  refine G1 (u := U8 v) (G5 rfl rfl) ?_
  refine G1 (u := LS 1 U8 s) (G5 rfl rfl) ?_
  refine G1 (u := G2 (i18 : Int)) (G5 rfl rfl) ?_
  refine G1 (u := .dptr [U8 y18]) (Gw (f := U8) (xs := s) (y := y18) rfl rfl rfl tf_slice_145 hy18 rfl) ?_
  refine G1 (u := U8 y18) (Gn Hk rfl rfl rfl) ?_
  refine G1 (u := BL (decide (v = y18))) (Jb rfl rfl rfl) ?_
  refine G9 (hK23 _ _ ?_)
  refine Gm rfl (fun hb => ?_) (fun hb => ?_)
  ·
   replace h := bif_t hb h
   refine G6 fun K24 hK24 => G3 ?_
   refine G1 (u := G2 (i18 : Int)) (G5 rfl rfl) ?_
   refine G1 (u := G2 (i18 : Int)) (Ga rfl rfl) ?_
   refine G9 (hK24 _ _ ?_)
   refine Gt ?_
   exact ⟨[G2 (i18 : Int)], [], trivial, rfl, ⟨⟨_, rfl, .conv (.same rfl)⟩, trivial⟩, rfl, congrArg (fun r : Int => (G2 r : AV)) (Option.some.inj h)⟩
  ·
   replace h := bif_f hb h
   refine Gp ?_
   refine hK21 _ _ ?_
   refine G3 ?_
   refine G1 (u := G2 ((i18 + 1 : Nat) : Int)) (H7 (idx_succ hk18 hm7) rfl rfl rfl) ?_
   refine G1 (u := G2 ((i18 + 1 : Nat) : Int)) (G5 rfl rfl) ?_
   refine G9 ?_
   exact e18 _ _ (i18 + 1) () (app1 hn18 h) (by omega) ⟨(by repeat' constructor), trivial, rfl⟩
 ·
  have h := app1 hkx18 (Hd hi18 (H3 hb))
  refine H4 ?_
  refine hK2 _ _ ?_
  refine G6 fun K25 hK25 => G3 ?_
  refine G1 (u := G2 (-1)) (Ga rfl rfl) ?_
  refine G9 (hK25 _ _ ?_)
  refine Gt ?_
  exact ⟨[G2 (-1)], [], trivial, rfl, ⟨⟨_, rfl, .conv (.same rfl)⟩, trivial⟩, rfl, congrArg (fun r : Int => (G2 r : AV)) (Option.some.inj h)⟩

def M_slices_Contains_uint8 (s : List Int) (v : Int) : Option Bool :=
 bnd (M_slices_Index_uint8 s v) fun r3 =>
 some (decide (0 ≤ r3))
theorem M_slices_Contains_uint8_w (s : List Int) (v : Int) (r : Bool) (h : M_slices_Contains_uint8 s v = some r) : Pure Try.prog 64 [LS 1 U8 s, U8 v] (· = BL r) := by
 unfold M_slices_Contains_uint8 at h
 refine H0 [.tmp 4] Try.func64 rfl rfl ?_
 refine G6 fun K1 hK1 => G3 ?_
 refine G1 (u := BL false) (Ga rfl rfl) ?_
 refine G9 (hK1 _ _ ?_)
 refine G6 fun K2 hK2 => G3 ?_
 refine G1 (u := LS 1 U8 s) (G5 rfl rfl) ?_
 refine G1 (u := U8 v) (G5 rfl rfl) ?_
 obtain ⟨r3, hr3, h⟩ := Gg h
 refine G1 (u := G2 r3) (Gu (args := [LS 1 U8 s, U8 v]) rfl (M_slices_Index_uint8_w s v r3 hr3) tf_call_85 ⟨rfl, rfl, rfl, rfl, trivial⟩) ?_
 refine G1 (u := BL (decide (0 ≤ r3))) (A_geq rfl rfl rfl) ?_
 refine G1 (u := BL (decide (0 ≤ r3))) (Ga rfl rfl) ?_
 refine G9 (hK2 _ _ ?_)
 refine Gt ?_
 exact ⟨[BL (decide (0 ≤ r3))], [], trivial, rfl, ⟨⟨_, rfl, .conv (.same rfl)⟩, trivial⟩, rfl, congrArg (fun r : Bool => (BL r : AV)) (Option.some.inj h)⟩

def M_slot_Right (s : Ship) (x : Slot) (size : Int) : Option Bool :=
 bnd (bif (((decide (0 ≤ x.G8)) && (decide (x.G8 < (s.Columns.length : Int)))) && (decide (0 ≤ x.Tier))) then gidx s.Columns x.G8 some else some default) fun y3 =>
 bnd (bif ((((decide (0 ≤ x.G8)) && (decide (x.G8 < (s.Columns.length : Int)))) && (decide (0 ≤ x.Tier))) && (decide (x.Tier < y3.Tiers))) then M_slot_halves size else some default) fun r4 =>
 bnd (bif ((((decide (0 ≤ x.G8)) && (decide (x.G8 < (s.Columns.length : Int)))) && (decide (0 ≤ x.Tier))) && (decide (x.Tier < y3.Tiers))) then M_slices_Contains_uint8 r4 x.Half else some default) fun r5 =>
 some (((((decide (0 ≤ x.G8)) && (decide (x.G8 < (s.Columns.length : Int)))) && (decide (0 ≤ x.Tier))) && (decide (x.Tier < y3.Tiers))) && r5)
theorem M_slot_Right_w (s : Ship) (x : Slot) (size : Int) (r : Bool) (h : M_slot_Right s x size = some r) : Pure Try.prog 50 [.agg (Ship.cs s), .agg [G2 x.G8, G2 x.Tier, U8 x.Half], U8 size] (· = BL r) := by
 unfold M_slot_Right at h
 refine H0 [.tmp 6] Try.func50 rfl rfl ?_
 refine G6 fun K1 hK1 => G3 ?_
 refine G1 (u := .ptr 1120 0) (J2 (u := .agg (Ship.cs s)) (cs := (Ship.cs s)) 1120 rfl rfl rfl rfl rfl) ?_
 refine G1 (u := .ptr 1121 0) (J2 (u := .agg [G2 x.G8, G2 x.Tier, U8 x.Half]) (cs := [G2 x.G8, G2 x.Tier, U8 x.Half]) 1121 rfl rfl rfl rfl rfl) ?_
 refine G1 (u := BL false) (Ga rfl rfl) ?_
 refine G9 (hK1 _ _ ?_)
 refine Gq [(2, U8 size), (3, .dptr (Ship.cs s)), (4, .ptr 1121 0)] [(1121, .box 98 [G2 x.G8, G2 x.Tier, U8 x.Half])] 1120 rfl rfl rfl ⟨⟨_, rfl, .boxEq rfl rfl⟩, trivial⟩ rfl (by exact ⟨.conv (.same rfl), .ptr, .conv (.same rfl), trivial⟩) ?_
 refine Gq [(2, U8 size), (3, .dptr (Ship.cs s)), (4, .dptr [G2 x.G8, G2 x.Tier, U8 x.Half])] [] 1121 rfl rfl rfl trivial rfl (by exact ⟨.conv (.same rfl), .conv (.same rfl), .ptr, trivial⟩) ?_
 refine G6 (fun K2 hK2 => ?_)
 obtain ⟨y3, hy3, h⟩ := Gg h
 obtain ⟨r4, hr4, h⟩ := Gg h
 obtain ⟨r5, hr5, h⟩ := Gg h
 refine Hy [] [0, 0, 0, 0, 0, 0, 0, 0, 0, 0, 0, 0, 0, 0, 0, 0, 0, 0, 0, 0, 0, 0, 0, 0, 0, 0, 0, 0, 0, 0, 0, 0, 0, 0, 0, 0] [0, 0, 0, 0, 0, 0, 0, 0, 0, 0, 0, 0, 0, 0, 0, 0, 0, 0, 0, 0, 0, 0, 0, 0, 0, 0, 0, 0, 0, 0, 0, 0, 0, 0, 0, 0] [[]] Hr (by kernel_rfl) rfl rfl ?_
 refine Ge (u := .dptr [G2 x.G8, G2 x.Tier, U8 x.Half]) rfl rfl ⟨Gi (Gd Js rfl rfl rfl) rfl, trivial⟩ ?_
 refine Ge (u := G2 x.G8) rfl rfl ⟨Gi (Gn Gc rfl rfl rfl) rfl, trivial⟩ ?_
 refine Ge (u := BL (decide (0 ≤ x.G8))) rfl rfl ⟨Gi (A_geq rfl rfl rfl) rfl, trivial⟩ ?_
 refine Ge (u := BL (decide (0 ≤ x.G8))) rfl rfl ⟨Gi (G5 rfl rfl) rfl, trivial⟩ ?_
 refine Ge (u := .opt (decide (0 ≤ x.G8)) (.dptr [G2 x.G8, G2 x.Tier, U8 x.Half])) rfl rfl ⟨Gv [] rfl rfl rfl .sct trivial (fun hc => Gd Js rfl rfl rfl) rfl, trivial⟩ ?_
 refine Ge (u := .opt (decide (0 ≤ x.G8)) (G2 x.G8)) rfl rfl ⟨Gv [(11, .dptr [G2 x.G8, G2 x.Tier, U8 x.Half])] rfl rfl rfl .sct ⟨.all id, trivial⟩ (fun hc => Gn Gc rfl rfl rfl) rfl, trivial⟩ ?_
 refine Ge (u := .opt (decide (0 ≤ x.G8)) (.dptr (Ship.cs s))) rfl rfl ⟨Gv [] rfl rfl rfl .sct trivial (fun hc => Gd Hb rfl rfl rfl) rfl, trivial⟩ ?_
 refine Ge (u := .opt (decide (0 ≤ x.G8)) (LS 12 G8.av s.Columns)) rfl rfl ⟨Gv [(13, .dptr (Ship.cs s))] rfl rfl rfl .sct ⟨.all id, trivial⟩ (fun hc => Gn Hm rfl rfl rfl) rfl, trivial⟩ ?_
 refine Ge (u := .opt (decide (0 ≤ x.G8)) (G2 (s.Columns.length : Int))) rfl rfl ⟨Gv [(14, LS 12 G8.av s.Columns)] rfl rfl rfl .sct ⟨.all id, trivial⟩ (fun hc => Jz (f := G8.av) (xs := s.Columns) Ha rfl rfl) rfl, trivial⟩ ?_
 refine Ge (u := .opt (decide (0 ≤ x.G8)) (BL (decide (x.G8 < (s.Columns.length : Int))))) rfl rfl ⟨Gv [(12, G2 x.G8), (15, G2 (s.Columns.length : Int))] rfl rfl rfl .sct ⟨.all id, .all id, trivial⟩ (fun hc => Hg rfl rfl rfl) rfl, trivial⟩ ?_
 refine Ge (u := BL ((decide (0 ≤ x.G8)) && (decide (x.G8 < (s.Columns.length : Int))))) rfl rfl ⟨Gi (Jc rfl rfl rfl rfl) rfl, trivial⟩ ?_
 refine Ge (u := BL ((decide (0 ≤ x.G8)) && (decide (x.G8 < (s.Columns.length : Int))))) rfl rfl ⟨Gi (G5 rfl rfl) rfl, trivial⟩ ?_
 refine Ge (u := .opt ((decide (0 ≤ x.G8)) && (decide (x.G8 < (s.Columns.length : Int)))) (.dptr [G2 x.Tier, U8 x.Half])) rfl rfl ⟨Gv [] rfl rfl rfl .sct trivial (fun hc => Gd tf_field_98_1 rfl rfl rfl) rfl, trivial⟩ ?_
 refine Ge (u := .opt ((decide (0 ≤ x.G8)) && (decide (x.G8 < (s.Columns.length : Int)))) (G2 x.Tier)) rfl rfl ⟨Gv [(19, .dptr [G2 x.Tier, U8 x.Half])] rfl rfl rfl .sct ⟨.all id, trivial⟩ (fun hc => Gn Gc rfl rfl rfl) rfl, trivial⟩ ?_
 refine Ge (u := .opt ((decide (0 ≤ x.G8)) && (decide (x.G8 < (s.Columns.length : Int)))) (BL (decide (0 ≤ x.Tier)))) rfl rfl ⟨Gv [(20, G2 x.Tier)] rfl rfl rfl .sct ⟨.all id, trivial⟩ (fun hc => A_geq rfl rfl rfl) rfl, trivial⟩ ?_
 refine Ge (u := BL (((decide (0 ≤ x.G8)) && (decide (x.G8 < (s.Columns.length : Int)))) && (decide (0 ≤ x.Tier)))) rfl rfl ⟨Gi (Jc rfl rfl rfl rfl) rfl, trivial⟩ ?_
 refine Ge (u := BL (((decide (0 ≤ x.G8)) && (decide (x.G8 < (s.Columns.length : Int)))) && (decide (0 ≤ x.Tier)))) rfl rfl ⟨Gi (G5 rfl rfl) rfl, trivial⟩ ?_
 refine Ge (u := .opt (((decide (0 ≤ x.G8)) && (decide (x.G8 < (s.Columns.length : Int)))) && (decide (0 ≤ x.Tier))) (.dptr [G2 x.Tier, U8 x.Half])) rfl rfl ⟨Gv [] rfl rfl rfl .sct trivial (fun hc => Gd tf_field_98_1 rfl rfl rfl) rfl, trivial⟩ ?_
 refine Ge (u := .opt (((decide (0 ≤ x.G8)) && (decide (x.G8 < (s.Columns.length : Int)))) && (decide (0 ≤ x.Tier))) (G2 x.Tier)) rfl rfl ⟨Gv [(24, .dptr [G2 x.Tier, U8 x.Half])] rfl rfl rfl .sct ⟨.all id, trivial⟩ (fun hc => Gn Gc rfl rfl rfl) rfl, trivial⟩ ?_
 refine Ge (u := .opt (((decide (0 ≤ x.G8)) && (decide (x.G8 < (s.Columns.length : Int)))) && (decide (0 ≤ x.Tier))) (.dptr (Ship.cs s))) rfl rfl ⟨Gv [] rfl rfl rfl .sct trivial (fun hc => Gd Hb rfl rfl rfl) rfl, trivial⟩ ?_
 refine Ge (u := .opt (((decide (0 ≤ x.G8)) && (decide (x.G8 < (s.Columns.length : Int)))) && (decide (0 ≤ x.Tier))) (LS 12 G8.av s.Columns)) rfl rfl ⟨Gv [(26, .dptr (Ship.cs s))] rfl rfl rfl .sct ⟨.all id, trivial⟩ (fun hc => Gn Hm rfl rfl rfl) rfl, trivial⟩ ?_
 refine Ge (u := .opt (((decide (0 ≤ x.G8)) && (decide (x.G8 < (s.Columns.length : Int)))) && (decide (0 ≤ x.Tier))) (.dptr [G2 x.G8, G2 x.Tier, U8 x.Half])) rfl rfl ⟨Gv [] rfl rfl rfl .sct trivial (fun hc => Gd Js rfl rfl rfl) rfl, trivial⟩ ?_
 refine Ge (u := .opt (((decide (0 ≤ x.G8)) && (decide (x.G8 < (s.Columns.length : Int)))) && (decide (0 ≤ x.Tier))) (G2 x.G8)) rfl rfl ⟨Gv [(28, .dptr [G2 x.G8, G2 x.Tier, U8 x.Half])] rfl rfl rfl .sct ⟨.all id, trivial⟩ (fun hc => Gn Gc rfl rfl rfl) rfl, trivial⟩ ?_
 refine Ge (u := .opt (((decide (0 ≤ x.G8)) && (decide (x.G8 < (s.Columns.length : Int)))) && (decide (0 ≤ x.Tier))) (.dptr (G8.cs y3))) rfl rfl ⟨Gv [(27, LS 12 G8.av s.Columns), (29, G2 x.G8)] rfl rfl rfl .sct ⟨.all id, .all id, trivial⟩ (fun hc => (match Jh (bif_t hc hy3) with | ⟨_, hm_, hy_⟩ => Gw (f := G8.av) (xs := s.Columns) (y := y3) rfl rfl rfl Ha hy_ hm_)) rfl, trivial⟩ ?_
 refine Ge (u := .opt (((decide (0 ≤ x.G8)) && (decide (x.G8 < (s.Columns.length : Int)))) && (decide (0 ≤ x.Tier))) (.dptr ((G8.cs y3).drop 3))) rfl rfl ⟨Gv [(30, .dptr (G8.cs y3))] rfl rfl rfl .sct ⟨.all id, trivial⟩ (fun hc => Gd tf_field_50_3 rfl rfl rfl) rfl, trivial⟩ ?_
 refine Ge (u := .opt (((decide (0 ≤ x.G8)) && (decide (x.G8 < (s.Columns.length : Int)))) && (decide (0 ≤ x.Tier))) (G2 y3.Tiers)) rfl rfl ⟨Gv [(31, .dptr ((G8.cs y3).drop 3))] rfl rfl rfl .sct ⟨.all id, trivial⟩ (fun hc => Gn Gc rfl rfl rfl) rfl, trivial⟩ ?_
 refine Ge (u := .opt (((decide (0 ≤ x.G8)) && (decide (x.G8 < (s.Columns.length : Int)))) && (decide (0 ≤ x.Tier))) (BL (decide (x.Tier < y3.Tiers)))) rfl rfl ⟨Gv [(25, G2 x.Tier), (32, G2 y3.Tiers)] rfl rfl rfl .sct ⟨.all id, .all id, trivial⟩ (fun hc => Hg rfl rfl rfl) rfl, trivial⟩ ?_
 refine Ge (u := BL ((((decide (0 ≤ x.G8)) && (decide (x.G8 < (s.Columns.length : Int)))) && (decide (0 ≤ x.Tier))) && (decide (x.Tier < y3.Tiers)))) rfl rfl ⟨Gi (Jc rfl rfl rfl rfl) rfl, trivial⟩ ?_
 refine Ge (u := BL ((((decide (0 ≤ x.G8)) && (decide (x.G8 < (s.Columns.length : Int)))) && (decide (0 ≤ x.Tier))) && (decide (x.Tier < y3.Tiers)))) rfl rfl ⟨Gi (G5 rfl rfl) rfl, trivial⟩ ?_
 refine Ge (u := .opt ((((decide (0 ≤ x.G8)) && (decide (x.G8 < (s.Columns.length : Int)))) && (decide (0 ≤ x.Tier))) && (decide (x.Tier < y3.Tiers))) (U8 size)) rfl rfl ⟨Gv [] rfl rfl rfl .sct trivial (fun hc => G5 rfl rfl) rfl, trivial⟩ ?_
 refine Ge (u := .opt ((((decide (0 ≤ x.G8)) && (decide (x.G8 < (s.Columns.length : Int)))) && (decide (0 ≤ x.Tier))) && (decide (x.Tier < y3.Tiers))) (LS 1 U8 r4)) rfl rfl ⟨Gv [(36, U8 size)] rfl rfl rfl .sct ⟨.all id, trivial⟩ (fun hc => Gu (args := [U8 size]) rfl (M_slot_halves_w size r4 (bif_t hc hr4)) tf_call_65 ⟨rfl, rfl, trivial⟩) rfl, trivial⟩ ?_
 refine Ge (u := .opt ((((decide (0 ≤ x.G8)) && (decide (x.G8 < (s.Columns.length : Int)))) && (decide (0 ≤ x.Tier))) && (decide (x.Tier < y3.Tiers))) (.dptr [U8 x.Half])) rfl rfl ⟨Gv [] rfl rfl rfl .sct trivial (fun hc => Gd tf_field_98_2 rfl rfl rfl) rfl, trivial⟩ ?_
 refine Ge (u := .opt ((((decide (0 ≤ x.G8)) && (decide (x.G8 < (s.Columns.length : Int)))) && (decide (0 ≤ x.Tier))) && (decide (x.Tier < y3.Tiers))) (U8 x.Half)) rfl rfl ⟨Gv [(38, .dptr [U8 x.Half])] rfl rfl rfl .sct ⟨.all id, trivial⟩ (fun hc => Gn Hk rfl rfl rfl) rfl, trivial⟩ ?_
 refine Ge (u := .opt ((((decide (0 ≤ x.G8)) && (decide (x.G8 < (s.Columns.length : Int)))) && (decide (0 ≤ x.Tier))) && (decide (x.Tier < y3.Tiers))) (BL r5)) rfl rfl ⟨Gv [(37, LS 1 U8 r4), (39, U8 x.Half)] rfl rfl rfl .sct ⟨.all id, .all id, trivial⟩ (fun hc => Gu (args := [LS 1 U8 r4, U8 x.Half]) rfl (M_slices_Contains_uint8_w r4 x.Half r5 (bif_t hc hr5)) tf_call_64 ⟨rfl, rfl, rfl, rfl, trivial⟩) rfl, trivial⟩ ?_
 refine Ge (u := BL (((((decide (0 ≤ x.G8)) && (decide (x.G8 < (s.Columns.length : Int)))) && (decide (0 ≤ x.Tier))) && (decide (x.Tier < y3.Tiers))) && r5)) rfl rfl ⟨Gi (Jc rfl rfl rfl rfl) rfl, trivial⟩ ?_
 refine Ge (u := BL (((((decide (0 ≤ x.G8)) && (decide (x.G8 < (s.Columns.length : Int)))) && (decide (0 ≤ x.Tier))) && (decide (x.Tier < y3.Tiers))) && r5)) rfl rfl ⟨Gi (Ga rfl rfl) rfl, trivial⟩ ?_
 refine Q3 ?_
 refine hK2 _ _ ?_
 refine Gt ?_
 exact ⟨[BL (((((decide (0 ≤ x.G8)) && (decide (x.G8 < (s.Columns.length : Int)))) && (decide (0 ≤ x.Tier))) && (decide (x.Tier < y3.Tiers))) && r5)], [], trivial, rfl, ⟨⟨_, rfl, .conv (.same rfl)⟩, trivial⟩, rfl, congrArg (fun r : Bool => (BL r : AV)) (Option.some.inj h)⟩

def M_slices_Index_apiSlot (s : List Slot) (v : Slot) : Option Int :=
 each (fun y18 i18 (s18 : Unit) nx18 =>
  bif decide (v = y18) then
  (some (i18 : Int))
  else
  (nx18 ()))
 (fun (s18 : Unit) =>
  some (-1)) s 0 ()
theorem M_slices_Index_apiSlot_w (s : List Slot) (v : Slot) (r : Int) (h : M_slices_Index_apiSlot s v = some r) : Pure Try.prog 86 [LS 3 Slot.av s, .agg [G2 v.G8, G2 v.Tier, U8 v.Half]] (· = G2 r) := by
 unfold M_slices_Index_apiSlot at h
 refine H0 [.tmp 4] Try.func86 rfl rfl ?_
 refine G6 fun K1 hK1 => G3 ?_
 refine G1 (u := .ptr 1136 0) (J2 (u := .agg [G2 v.G8, G2 v.Tier, U8 v.Half]) (cs := [G2 v.G8, G2 v.Tier, U8 v.Half]) 1136 rfl rfl rfl rfl rfl) ?_
 refine G1 (u := G2 0) (Ga rfl rfl) ?_
 refine G9 (hK1 _ _ ?_)
 refine Gq [(0, LS 3 Slot.av s), (3, .dptr [G2 v.G8, G2 v.Tier, U8 v.Half])] [] 1136 rfl rfl rfl trivial rfl (by exact ⟨.conv (.same rfl), .ptr, trivial⟩) ?_
 refine G6 (fun K2 hK2 => ?_)
 refine G6 fun K3 hK3 => G3 ?_
 refine G1 (u := LS 3 Slot.av s) (G5 rfl rfl) ?_
 refine H9 (f := Slot.av) (xs := s) Jg rfl rfl (fun hm7 => ?_) rfl rfl rfl
 refine G1 (u := G2 0) (G5 rfl rfl) ?_
 refine G9 (hK3 _ _ ?_)
 refine Gk ?_
 obtain ⟨b18, kx18, hb18, hkx18, h⟩ := Hj h
 refine H2 (fun i18 (s18 : Unit) => each b18 kx18 (List.drop i18 s) i18 s18 = some r) (fun i18 s18 => [(0, LS 3 Slot.av s), (3, .dptr [G2 v.G8, G2 v.Tier, U8 v.Half]), (7, G2 (s.length : Int)), (8, G2 (i18 : Int))]) (fun i18 s18 => []) (fun i18 => s.length - i18) 0 () h ⟨(by repeat' constructor), trivial, rfl⟩ ?_
 clear h
 intro i18 s18 hi18 K18 e18
 refine G6 fun K19 hK19 => G3 ?_
 refine G1 (u := BL (decide ((i18 : Int) < (s.length : Int)))) (Hg rfl rfl rfl) ?_
 refine G9 (hK19 _ _ ?_)
 refine G6 (fun K20 hK20 => ?_)
 refine Gm rfl (fun hb => ?_) (fun hb => ?_)
 ·
  have hk18 := lt_len hb
  obtain ⟨y18, nx18, hy18, hn18, h⟩ := Hc hi18 hk18
  replace h := app4 hb18 h
  refine Gp ?_
  refine hK20 _ _ ?_
  refine G6 (fun K21 hK21 => ?_)
  refine Gk ?_
  refine G6 fun K22 hK22 => G3 ?_
  refine G1 (u := G2 (i18 : Int)) (G5 rfl rfl) ?_
  refine G1 (u := G2 (i18 : Int)) (Ga rfl rfl) ?_
  refine G9 (hK22 _ _ ?_)
  refine G6 (fun K23 hK23 => ?_)
  refine Hy [] [0, 0, 0, 0, 0, 0] [0, 0, 0, 0, 0, 0] [[]] Hr (by kernel_rfl) rfl rfl ?_
  refine Ge (u := .agg [G2 v.G8, G2 v.Tier, U8 v.Half]) rfl rfl ⟨Gi (Gf Jn rfl rfl rfl) rfl, trivial⟩ ?_
  refine Ge (u := LS 3 Slot.av s) rfl rfl ⟨Gi (G5 rfl rfl) rfl, trivial⟩ ?_
  refine Ge (u := G2 (i18 : Int)) rfl rfl ⟨Gi (G5 rfl rfl) rfl, trivial⟩ ?_
  refine Ge (u := .dptr (Slot.cs y18)) rfl rfl ⟨Gi (Gw (f := Slot.av) (xs := s) (y := y18) rfl rfl rfl Jg hy18 rfl) rfl, trivial⟩ ?_
  refine Ge (u := .agg (Slot.cs y18)) rfl rfl ⟨Gi (Gf Jn rfl rfl rfl) rfl, trivial⟩ ?_
  refine Ge (u := BL (decide (v = y18))) rfl rfl ⟨Gi (A_eqAgg (vs := [.int .i64 v.G8, .int .i64 v.Tier, .int .u8 v.Half]) (us := [.int .i64 y18.G8, .int .i64 y18.Tier, .int .u8 y18.Half]) 4 rfl (tq_98 v y18) tf_aggof_98 tf_eqg_98 rfl rfl rfl) rfl, trivial⟩ ?_
  refine Q3 ?_
  refine hK23 _ _ ?_
  refine Gm rfl (fun hb => ?_) (fun hb => ?_)
  ·
   replace h := bif_t hb h
   refine G6 fun K24 hK24 => G3 ?_
   refine G1 (u := G2 (i18 : Int)) (G5 rfl rfl) ?_
   refine G1 (u := G2 (i18 : Int)) (Ga rfl rfl) ?_
   refine G9 (hK24 _ _ ?_)
   refine Gt ?_
   exact ⟨[G2 (i18 : Int)], [], trivial, rfl, ⟨⟨_, rfl, .conv (.same rfl)⟩, trivial⟩, rfl, congrArg (fun r : Int => (G2 r : AV)) (Option.some.inj h)⟩
  ·
   replace h := bif_f hb h
   refine Gp ?_
   refine hK21 _ _ ?_
   refine G3 ?_
   refine G1 (u := G2 ((i18 + 1 : Nat) : Int)) (H7 (idx_succ hk18 hm7) rfl rfl rfl) ?_
   refine G1 (u := G2 ((i18 + 1 : Nat) : Int)) (G5 rfl rfl) ?_
   refine G9 ?_
   exact e18 _ _ (i18 + 1) () (app1 hn18 h) (by omega) ⟨(by repeat' constructor), trivial, rfl⟩
 ·
  have h := app1 hkx18 (Hd hi18 (H3 hb))
  refine H4 ?_
  refine hK2 _ _ ?_
  refine G6 fun K25 hK25 => G3 ?_
  refine G1 (u := G2 (-1)) (Ga rfl rfl) ?_
  refine G9 (hK25 _ _ ?_)
  refine Gt ?_
  exact ⟨[G2 (-1)], [], trivial, rfl, ⟨⟨_, rfl, .conv (.same rfl)⟩, trivial⟩, rfl, congrArg (fun r : Int => (G2 r : AV)) (Option.some.inj h)⟩

def M_slices_Contains_apiSlot (s : List Slot) (v : Slot) : Option Bool :=
 bnd (M_slices_Index_apiSlot s v) fun r3 =>
 some (decide (0 ≤ r3))
theorem M_slices_Contains_apiSlot_w (s : List Slot) (v : Slot) (r : Bool) (h : M_slices_Contains_apiSlot s v = some r) : Pure Try.prog 67 [LS 3 Slot.av s, .agg [G2 v.G8, G2 v.Tier, U8 v.Half]] (· = BL r) := by
 unfold M_slices_Contains_apiSlot at h
 refine H0 [.tmp 4] Try.func67 rfl rfl ?_
 refine G6 fun K1 hK1 => G3 ?_
 refine G1 (u := .ptr 1131 0) (J2 (u := .agg [G2 v.G8, G2 v.Tier, U8 v.Half]) (cs := [G2 v.G8, G2 v.Tier, U8 v.Half]) 1131 rfl rfl rfl rfl rfl) ?_
 refine G1 (u := BL false) (Ga rfl rfl) ?_
 refine G9 (hK1 _ _ ?_)
 refine Gq [(0, LS 3 Slot.av s), (3, .dptr [G2 v.G8, G2 v.Tier, U8 v.Half])] [] 1131 rfl rfl rfl trivial rfl (by exact ⟨.conv (.same rfl), .ptr, trivial⟩) ?_
 refine G6 fun K2 hK2 => G3 ?_
 refine G1 (u := LS 3 Slot.av s) (G5 rfl rfl) ?_
 refine G1 (u := .agg [G2 v.G8, G2 v.Tier, U8 v.Half]) (Gf Jn rfl rfl rfl) ?_
 obtain ⟨r3, hr3, h⟩ := Gg h
 refine G1 (u := G2 r3) (Gu (args := [LS 3 Slot.av s, .agg [G2 v.G8, G2 v.Tier, U8 v.Half]]) rfl (M_slices_Index_apiSlot_w s v r3 hr3) tf_call_86 ⟨rfl, rfl, rfl, rfl, trivial⟩) ?_
 refine G1 (u := BL (decide (0 ≤ r3))) (A_geq rfl rfl rfl) ?_
 refine G1 (u := BL (decide (0 ≤ r3))) (Ga rfl rfl) ?_
 refine G9 (hK2 _ _ ?_)
 refine Gt ?_
 exact ⟨[BL (decide (0 ≤ r3))], [], trivial, rfl, ⟨⟨_, rfl, .conv (.same rfl)⟩, trivial⟩, rfl, congrArg (fun r : Bool => (BL r : AV)) (Option.some.inj h)⟩

def M_slot_Held_1 (half : Int) (p1 : List Slot) (p2 : Slot) : Option Bool :=
 chk (p2.Tier - 1) fun v3 =>
 bnd (M_slices_Contains_apiSlot p1 (Slot.mk p2.G8 v3 half)) fun r4 =>
 some r4
theorem M_slot_Held_1_w (half : Int) (p1 : List Slot) (p2 : Slot) (r : Bool) (h : M_slot_Held_1 half p1 p2 = some r) : Pure Try.prog 66 [U8 half, .dptr [LS 3 Slot.av p1], .dptr [G2 p2.G8, G2 p2.Tier, U8 p2.Half]] (· = BL r) := by
 unfold M_slot_Held_1 at h
 refine H0 [.tmp 4] Try.func66 rfl rfl ?_
 refine G6 fun K1 hK1 => G3 ?_
 refine G1 (u := BL false) (Ga rfl rfl) ?_
 refine G9 (hK1 _ _ ?_)
 refine G6 fun K2 hK2 => G3 ?_
 refine G1 (u := LS 3 Slot.av p1) (Gn tf_scalar_105 rfl rfl rfl) ?_
 refine G1 (u := .dptr [G2 p2.G8, G2 p2.Tier, U8 p2.Half]) (Gd Js rfl rfl rfl) ?_
 refine G1 (u := G2 p2.G8) (Gn Gc rfl rfl rfl) ?_
 refine G1 (u := .dptr [G2 p2.Tier, U8 p2.Half]) (Gd tf_field_98_1 rfl rfl rfl) ?_
 refine G1 (u := G2 p2.Tier) (Gn Gc rfl rfl rfl) ?_
 obtain ⟨v3, hv3, h⟩ := Gy h
 refine G1 (u := G2 v3) (A_sub hv3 rfl rfl rfl) ?_
 refine G1 (u := U8 half) (G5 rfl rfl) ?_
 refine G1 (u := .agg [G2 p2.G8, G2 v3, U8 half]) (Hn (cs := [G2 p2.G8, G2 v3, U8 half]) [(0, 1), (1, 1), (2, 1)] [G2 0, G2 0, U8 0] [.int .i64 0, .int .i64 0, .int .u8 0] tf_places_98 tf_zero_98 ⟨.inl rfl, .inl rfl, .inl rfl, trivial⟩ rfl rfl) ?_
 obtain ⟨r4, hr4, h⟩ := Gg h
 refine G1 (u := BL r4) (Gu (args := [LS 3 Slot.av p1, .agg [G2 p2.G8, G2 v3, U8 half]]) rfl (M_slices_Contains_apiSlot_w p1 (Slot.mk p2.G8 v3 half) r4 hr4) tf_call_67 ⟨rfl, rfl, rfl, rfl, trivial⟩) ?_
 refine G1 (u := BL r4) (Ga rfl rfl) ?_
 refine G9 (hK2 _ _ ?_)
 refine Gt ?_
 exact ⟨[BL r4], [], trivial, rfl, ⟨⟨_, rfl, .conv (.same rfl)⟩, trivial⟩, rfl, congrArg (fun r : Bool => (BL r : AV)) (Option.some.inj h)⟩

def M_slot_Held (x : Slot) (l : List Slot) : Option Bool :=
 bif decide (x.Tier ≤ 0) then
 (some true)
 else
 (bnd (M_slot_Held_1 x.Half l x) fun r7 =>
  bnd (bif ((!r7) && (decide (x.Half = 0))) then M_slot_Held_1 1 l x else some default) fun r8 =>
  bnd (bif ((!r7) && ((decide (x.Half = 0)) && r8)) then M_slot_Held_1 2 l x else some default) fun r9 =>
  some (r7 || (((decide (x.Half = 0)) && r8) && r9)))
theorem M_slot_Held_w (x : Slot) (l : List Slot) (r : Bool) (h : M_slot_Held x l = some r) : Pure Try.prog 51 [.agg [G2 x.G8, G2 x.Tier, U8 x.Half], LS 3 Slot.av l] (· = BL r) := by
 unfold M_slot_Held at h
 refine H0 [.tmp 4] Try.func51 rfl rfl ?_
 refine G6 fun K1 hK1 => G3 ?_
 refine G1 (u := .ptr 1122 0) (J2 (u := .agg [G2 x.G8, G2 x.Tier, U8 x.Half]) (cs := [G2 x.G8, G2 x.Tier, U8 x.Half]) 1122 rfl rfl rfl rfl rfl) ?_
 refine G1 (u := .ptr 1123 0) (J2 (u := LS 3 Slot.av l) (cs := [LS 3 Slot.av l]) 1123 rfl rfl rfl rfl rfl) ?_
 refine G1 (u := BL false) (Ga rfl rfl) ?_
 refine G9 (hK1 _ _ ?_)
 refine Gq [(2, .dptr [G2 x.G8, G2 x.Tier, U8 x.Half]), (3, .ptr 1123 0)] [(1123, .box 105 [LS 3 Slot.av l])] 1122 rfl rfl rfl ⟨⟨_, rfl, .boxEq rfl rfl⟩, trivial⟩ rfl (by exact ⟨.ptr, .conv (.same rfl), trivial⟩) ?_
 refine Gq [(2, .dptr [G2 x.G8, G2 x.Tier, U8 x.Half]), (3, .dptr [LS 3 Slot.av l])] [] 1123 rfl rfl rfl trivial rfl (by exact ⟨.conv (.same rfl), .ptr, trivial⟩) ?_
 refine G6 (fun K2 hK2 => ?_)
 refine G6 fun K3 hK3 => G3 ?_
 refine G1 (u := .dptr [G2 x.Tier, U8 x.Half]) (Gd tf_field_98_1 rfl rfl rfl) ?_
 refine G1 (u := G2 x.Tier) (Gn Gc rfl rfl rfl) ?_
 refine G1 (u := BL (decide (x.Tier ≤ 0))) (A_leq rfl rfl rfl) ?_
 refine G9 (hK3 _ _ ?_)
 refine Gm rfl (fun hb => ?_) (fun hb => ?_)
 ·
  replace h := bif_t hb h
  refine G6 fun K4 hK4 => G3 ?_
  refine G1 (u := BL true) (Ga rfl rfl) ?_
  refine G9 (hK4 _ _ ?_)
  refine Gt ?_
  exact ⟨[BL true], [], trivial, rfl, ⟨⟨_, rfl, .conv (.same rfl)⟩, trivial⟩, rfl, congrArg (fun r : Bool => (BL r : AV)) (Option.some.inj h)⟩
 ·
  replace h := bif_f hb h
  refine Gp ?_
  refine hK2 _ _ ?_
  refine G6 fun K5 hK5 => G3 ?_
  refine G1 (u := .fn 66 [.dptr [LS 3 Slot.av l], .dptr [G2 x.G8, G2 x.Tier, U8 x.Half]]) (A_makeFunc (cs := [.dptr [LS 3 Slot.av l], .dptr [G2 x.G8, G2 x.Tier, U8 x.Half]]) rfl rfl) ?_
  refine G1 (u := .fn 66 [.dptr [LS 3 Slot.av l], .dptr [G2 x.G8, G2 x.Tier, U8 x.Half]]) (Ga rfl rfl) ?_
  refine G9 (hK5 _ _ ?_)
  refine G6 fun K6 hK6 => G3 ?_
  refine G1 (u := .fn 66 [.dptr [LS 3 Slot.av l], .dptr [G2 x.G8, G2 x.Tier, U8 x.Half]]) (G5 rfl rfl) ?_
  refine G1 (u := .dptr [U8 x.Half]) (Gd tf_field_98_2 rfl rfl rfl) ?_
  refine G1 (u := U8 x.Half) (Gn Hk rfl rfl rfl) ?_
  obtain ⟨r7, hr7, h⟩ := Gg h
  refine G1 (u := BL r7) (A_callV1 (args := [U8 x.Half]) (caps := [.dptr [LS 3 Slot.av l], .dptr [G2 x.G8, G2 x.Tier, U8 x.Half]]) rfl rfl (M_slot_Held_1_w x.Half l x r7 hr7) tf_call_66 ⟨rfl, rfl, trivial⟩ rfl) ?_
  refine G1 (u := BL r7) (G5 rfl rfl) ?_
  refine Gj (u := .dptr [U8 x.Half]) [] rfl rfl rfl .scf trivial (fun hc => Gd tf_field_98_2 rfl rfl rfl) ?_
  refine Gj (u := U8 x.Half) [(15, .dptr [U8 x.Half])] rfl rfl rfl .scf ⟨.all id, trivial⟩ (fun hc => Gn Hk rfl rfl rfl) ?_
  refine Gj (u := BL (decide (x.Half = 0))) [(16, U8 x.Half)] rfl rfl rfl .scf ⟨.all id, trivial⟩ (fun hc => Jb rfl rfl rfl) ?_
  refine Gj (u := BL (decide (x.Half = 0))) [(17, BL (decide (x.Half = 0)))] rfl rfl rfl .scf ⟨.all id, trivial⟩ (fun hc => G5 rfl rfl) ?_
  refine Gj (u := .fn 66 [.dptr [LS 3 Slot.av l], .dptr [G2 x.G8, G2 x.Tier, U8 x.Half]]) [] rfl rfl rfl .optt trivial (fun hc => G5 rfl rfl) ?_
  obtain ⟨r8, hr8, h⟩ := Gg h
  refine Gj (u := BL r8) [(19, .fn 66 [.dptr [LS 3 Slot.av l], .dptr [G2 x.G8, G2 x.Tier, U8 x.Half]])] rfl rfl rfl .optt ⟨.all id, trivial⟩ (fun hc => A_callV1 (args := [U8 1]) (caps := [.dptr [LS 3 Slot.av l], .dptr [G2 x.G8, G2 x.Tier, U8 x.Half]]) rfl rfl (M_slot_Held_1_w 1 l x r8 (bif_t hc hr8)) tf_call_66 ⟨rfl, rfl, trivial⟩ rfl) ?_
  refine Gj (u := BL ((decide (x.Half = 0)) && r8)) [(18, BL (decide (x.Half = 0))), (20, _)] rfl rfl rfl .scf ⟨.all id, .part, trivial⟩ (fun hc => Jc rfl rfl rfl rfl) ?_
  refine Gj (u := BL ((decide (x.Half = 0)) && r8)) [(21, BL ((decide (x.Half = 0)) && r8))] rfl rfl rfl .scf ⟨.all id, trivial⟩ (fun hc => G5 rfl rfl) ?_
  refine Gj (u := .fn 66 [.dptr [LS 3 Slot.av l], .dptr [G2 x.G8, G2 x.Tier, U8 x.Half]]) [] rfl rfl rfl .optt trivial (fun hc => G5 rfl rfl) ?_
  obtain ⟨r9, hr9, h⟩ := Gg h
  refine Gj (u := BL r9) [(23, .fn 66 [.dptr [LS 3 Slot.av l], .dptr [G2 x.G8, G2 x.Tier, U8 x.Half]])] rfl rfl rfl .optt ⟨.all id, trivial⟩ (fun hc => A_callV1 (args := [U8 2]) (caps := [.dptr [LS 3 Slot.av l], .dptr [G2 x.G8, G2 x.Tier, U8 x.Half]]) rfl rfl (M_slot_Held_1_w 2 l x r9 (bif_t hc hr9)) tf_call_66 ⟨rfl, rfl, trivial⟩ rfl) ?_
  refine Gj (u := BL (((decide (x.Half = 0)) && r8) && r9)) [(22, BL ((decide (x.Half = 0)) && r8)), (24, _)] rfl rfl rfl .scf ⟨.all id, .part, trivial⟩ (fun hc => Jc rfl rfl rfl rfl) ?_
  refine G1 (u := BL (r7 || (((decide (x.Half = 0)) && r8) && r9))) (A_or rfl rfl rfl rfl) ?_
  refine G1 (u := BL (r7 || (((decide (x.Half = 0)) && r8) && r9))) (Ga rfl rfl) ?_
  refine G9 (hK6 _ _ ?_)
  refine Gt ?_
  exact ⟨[BL (r7 || (((decide (x.Half = 0)) && r8) && r9))], [], trivial, rfl, ⟨⟨_, rfl, .conv (.same rfl)⟩, trivial⟩, rfl, congrArg (fun r : Bool => (BL r : AV)) (Option.some.inj h)⟩

def M_slot_shares (a : Int) (b : Int) : Option Bool :=
 some (((decide (a = b)) || (decide (a = 0))) || (decide (b = 0)))
theorem M_slot_shares_w (a : Int) (b : Int) (r : Bool) (h : M_slot_shares a b = some r) : Pure Try.prog 68 [U8 a, U8 b] (· = BL r) := by
 unfold M_slot_shares at h
 refine H0 [.tmp 4] Try.func68 rfl rfl ?_
 refine G6 fun K1 hK1 => G3 ?_
 refine G1 (u := BL false) (Ga rfl rfl) ?_
 refine G9 (hK1 _ _ ?_)
 refine G6 fun K2 hK2 => G3 ?_
 refine G1 (u := U8 a) (G5 rfl rfl) ?_
 refine G1 (u := U8 b) (G5 rfl rfl) ?_
 refine G1 (u := BL (decide (a = b))) (Jb rfl rfl rfl) ?_
 refine G1 (u := BL (decide (a = b))) (G5 rfl rfl) ?_
 refine Gj (u := U8 a) [] rfl rfl rfl .scf trivial (fun hc => G5 rfl rfl) ?_
 refine Gj (u := BL (decide (a = 0))) [(9, U8 a)] rfl rfl rfl .scf ⟨.all id, trivial⟩ (fun hc => Jb rfl rfl rfl) ?_
 refine G1 (u := BL ((decide (a = b)) || (decide (a = 0)))) (A_or rfl rfl rfl rfl) ?_
 refine G1 (u := BL ((decide (a = b)) || (decide (a = 0)))) (G5 rfl rfl) ?_
 refine Gj (u := U8 b) [] rfl rfl rfl .scf trivial (fun hc => G5 rfl rfl) ?_
 refine Gj (u := BL (decide (b = 0))) [(13, U8 b)] rfl rfl rfl .scf ⟨.all id, trivial⟩ (fun hc => Jb rfl rfl rfl) ?_
 refine G1 (u := BL (((decide (a = b)) || (decide (a = 0))) || (decide (b = 0)))) (A_or rfl rfl rfl rfl) ?_
 refine G1 (u := BL (((decide (a = b)) || (decide (a = 0))) || (decide (b = 0)))) (Ga rfl rfl) ?_
 refine G9 (hK2 _ _ ?_)
 refine Gt ?_
 exact ⟨[BL (((decide (a = b)) || (decide (a = 0))) || (decide (b = 0)))], [], trivial, rfl, ⟨⟨_, rfl, .conv (.same rfl)⟩, trivial⟩, rfl, congrArg (fun r : Bool => (BL r : AV)) (Option.some.inj h)⟩

def M_slot_Meet (a : Slot) (b : Slot) : Option Bool :=
 bnd (bif ((decide (a.G8 = b.G8)) && (decide (a.Tier = b.Tier))) then M_slot_shares a.Half b.Half else some default) fun r3 =>
 some (((decide (a.G8 = b.G8)) && (decide (a.Tier = b.Tier))) && r3)
theorem M_slot_Meet_w (a : Slot) (b : Slot) (r : Bool) (h : M_slot_Meet a b = some r) : Pure Try.prog 52 [.agg [G2 a.G8, G2 a.Tier, U8 a.Half], .agg [G2 b.G8, G2 b.Tier, U8 b.Half]] (· = BL r) := by
 unfold M_slot_Meet at h
 refine H0 [.tmp 4] Try.func52 rfl rfl ?_
 refine G6 fun K1 hK1 => G3 ?_
 refine G1 (u := .ptr 1124 0) (J2 (u := .agg [G2 a.G8, G2 a.Tier, U8 a.Half]) (cs := [G2 a.G8, G2 a.Tier, U8 a.Half]) 1124 rfl rfl rfl rfl rfl) ?_
 refine G1 (u := .ptr 1125 0) (J2 (u := .agg [G2 b.G8, G2 b.Tier, U8 b.Half]) (cs := [G2 b.G8, G2 b.Tier, U8 b.Half]) 1125 rfl rfl rfl rfl rfl) ?_
 refine G1 (u := BL false) (Ga rfl rfl) ?_
 refine G9 (hK1 _ _ ?_)
 refine Gq [(2, .dptr [G2 a.G8, G2 a.Tier, U8 a.Half]), (3, .ptr 1125 0)] [(1125, .box 98 [G2 b.G8, G2 b.Tier, U8 b.Half])] 1124 rfl rfl rfl ⟨⟨_, rfl, .boxEq rfl rfl⟩, trivial⟩ rfl (by exact ⟨.ptr, .conv (.same rfl), trivial⟩) ?_
 refine Gq [(2, .dptr [G2 a.G8, G2 a.Tier, U8 a.Half]), (3, .dptr [G2 b.G8, G2 b.Tier, U8 b.Half])] [] 1125 rfl rfl rfl trivial rfl (by exact ⟨.conv (.same rfl), .ptr, trivial⟩) ?_
 refine G6 fun K2 hK2 => G3 ?_
 refine G1 (u := .dptr [G2 a.G8, G2 a.Tier, U8 a.Half]) (Gd Js rfl rfl rfl) ?_
 refine G1 (u := G2 a.G8) (Gn Gc rfl rfl rfl) ?_
 refine G1 (u := .dptr [G2 b.G8, G2 b.Tier, U8 b.Half]) (Gd Js rfl rfl rfl) ?_
 refine G1 (u := G2 b.G8) (Gn Gc rfl rfl rfl) ?_
 refine G1 (u := BL (decide (a.G8 = b.G8))) (Jb rfl rfl rfl) ?_
 refine G1 (u := BL (decide (a.G8 = b.G8))) (G5 rfl rfl) ?_
 refine Gj (u := .dptr [G2 a.Tier, U8 a.Half]) [] rfl rfl rfl .sct trivial (fun hc => Gd tf_field_98_1 rfl rfl rfl) ?_
 refine Gj (u := G2 a.Tier) [(11, .dptr [G2 a.Tier, U8 a.Half])] rfl rfl rfl .sct ⟨.all id, trivial⟩ (fun hc => Gn Gc rfl rfl rfl) ?_
 refine Gj (u := .dptr [G2 b.Tier, U8 b.Half]) [] rfl rfl rfl .sct trivial (fun hc => Gd tf_field_98_1 rfl rfl rfl) ?_
 refine Gj (u := G2 b.Tier) [(13, .dptr [G2 b.Tier, U8 b.Half])] rfl rfl rfl .sct ⟨.all id, trivial⟩ (fun hc => Gn Gc rfl rfl rfl) ?_
 refine Gj (u := BL (decide (a.Tier = b.Tier))) [(12, G2 a.Tier), (14, G2 b.Tier)] rfl rfl rfl .sct ⟨.all id, .all id, trivial⟩ (fun hc => Jb rfl rfl rfl) ?_
 refine G1 (u := BL ((decide (a.G8 = b.G8)) && (decide (a.Tier = b.Tier)))) (Jc rfl rfl rfl rfl) ?_
 refine G1 (u := BL ((decide (a.G8 = b.G8)) && (decide (a.Tier = b.Tier)))) (G5 rfl rfl) ?_
 refine Gj (u := .dptr [U8 a.Half]) [] rfl rfl rfl .sct trivial (fun hc => Gd tf_field_98_2 rfl rfl rfl) ?_
 refine Gj (u := U8 a.Half) [(18, .dptr [U8 a.Half])] rfl rfl rfl .sct ⟨.all id, trivial⟩ (fun hc => Gn Hk rfl rfl rfl) ?_
 refine Gj (u := .dptr [U8 b.Half]) [] rfl rfl rfl .sct trivial (fun hc => Gd tf_field_98_2 rfl rfl rfl) ?_
 refine Gj (u := U8 b.Half) [(20, .dptr [U8 b.Half])] rfl rfl rfl .sct ⟨.all id, trivial⟩ (fun hc => Gn Hk rfl rfl rfl) ?_
 obtain ⟨r3, hr3, h⟩ := Gg h
 refine Gj (u := BL r3) [(19, U8 a.Half), (21, U8 b.Half)] rfl rfl rfl .sct ⟨.all id, .all id, trivial⟩ (fun hc => Gu (args := [U8 a.Half, U8 b.Half]) rfl (M_slot_shares_w a.Half b.Half r3 (bif_t hc hr3)) tf_call_68 ⟨rfl, rfl, rfl, rfl, trivial⟩) ?_
 refine G1 (u := BL (((decide (a.G8 = b.G8)) && (decide (a.Tier = b.Tier))) && r3)) (Jc rfl rfl rfl rfl) ?_
 refine G1 (u := BL (((decide (a.G8 = b.G8)) && (decide (a.Tier = b.Tier))) && r3)) (Ga rfl rfl) ?_
 refine G9 (hK2 _ _ ?_)
 refine Gt ?_
 exact ⟨[BL (((decide (a.G8 = b.G8)) && (decide (a.Tier = b.Tier))) && r3)], [], trivial, rfl, ⟨⟨_, rfl, .conv (.same rfl)⟩, trivial⟩, rfl, congrArg (fun r : Bool => (BL r : AV)) (Option.some.inj h)⟩

def M_stow_tall (b : Box) : Option Int :=
 bif b.High then
 (some 2896)
 else
 (some 2591)
theorem M_stow_tall_w (b : Box) (r : Int) (h : M_stow_tall b = some r) : Pure Try.prog 87 [.agg (Box.cs b)] (· = G2 r) := by
 unfold M_stow_tall at h
 refine H0 [.tmp 2] Try.func87 rfl rfl ?_
 refine G6 fun K1 hK1 => G3 ?_
 refine G1 (u := .ptr 1137 0) (J2 (u := .agg (Box.cs b)) (cs := (Box.cs b)) 1137 rfl rfl rfl rfl rfl) ?_
 refine G1 (u := G2 0) (Ga rfl rfl) ?_
 refine G9 (hK1 _ _ ?_)
 refine Gq [(1, .dptr (Box.cs b))] [] 1137 rfl rfl rfl trivial rfl (by exact ⟨.ptr, trivial⟩) ?_
 refine G6 (fun K2 hK2 => ?_)
 refine G6 fun K3 hK3 => G3 ?_
 refine G1 (u := .dptr ((Box.cs b).drop 3)) (Gd tf_field_70_3 rfl rfl rfl) ?_
 refine G1 (u := BL b.High) (Gn Jk rfl rfl rfl) ?_
 refine G9 (hK3 _ _ ?_)
 refine Gm rfl (fun hb => ?_) (fun hb => ?_)
 ·
  replace h := bif_t hb h
  refine G6 fun K4 hK4 => G3 ?_
  refine G1 (u := G2 2896) (Ga rfl rfl) ?_
  refine G9 (hK4 _ _ ?_)
  refine Gt ?_
  exact ⟨[G2 2896], [], trivial, rfl, ⟨⟨_, rfl, .conv (.same rfl)⟩, trivial⟩, rfl, congrArg (fun r : Int => (G2 r : AV)) (Option.some.inj h)⟩
 ·
  replace h := bif_f hb h
  refine Gp ?_
  refine hK2 _ _ ?_
  refine G6 fun K5 hK5 => G3 ?_
  refine G1 (u := G2 2591) (Ga rfl rfl) ?_
  refine G9 (hK5 _ _ ?_)
  refine Gt ?_
  exact ⟨[G2 2591], [], trivial, rfl, ⟨⟨_, rfl, .conv (.same rfl)⟩, trivial⟩, rfl, congrArg (fun r : Int => (G2 r : AV)) (Option.some.inj h)⟩

def M_stow_Height (boxes : List Box) (l : List Gb) (column : Int) (half : Int) : Option Int :=
 each (fun y27 i27 (s27 : Int) nx27 =>
  jp (fun kj30 =>
   bif ((decide (y27.Slot.G8 = column)) && ((decide (y27.Slot.Half = half)) || (decide (y27.Slot.Half = 0)))) then
   (bnd (M_stow_Find boxes y27.Box) fun r34 =>
    bif r34.2 then
    (bnd (M_stow_tall r34.1) fun r36 =>
     chk (s27 + r36) fun v37 =>
     kj30 v37)
    else
    (kj30 s27))
   else
   (kj30 s27)) fun (j30 : Int) =>
  nx27 j30)
 (fun (s27 : Int) =>
  some s27) l 0 0
theorem M_stow_Height_w (boxes : List Box) (l : List Gb) (column : Int) (half : Int) (r : Int) (h : M_stow_Height boxes l column half = some r) : Pure Try.prog 69 [LS 9 Box.av boxes, LS 4 Gb.av l, G2 column, U8 half] (· = G2 r) := by
 unfold M_stow_Height at h
 refine H0 [.tmp 8] Try.func69 rfl rfl ?_
 refine G6 fun K1 hK1 => G3 ?_
 refine G1 (u := G2 0) (Ga rfl rfl) ?_
 refine G9 (hK1 _ _ ?_)
 refine G6 fun K2 hK2 => G3 ?_
 refine G1 (u := G2 0) (Ga rfl rfl) ?_
 refine G9 (hK2 _ _ ?_)
 refine G6 (fun K3 hK3 => ?_)
 refine G6 fun K4 hK4 => G3 ?_
 refine G1 (u := LS 4 Gb.av l) (G5 rfl rfl) ?_
 refine H9 (f := Gb.av) (xs := l) Hq rfl rfl (fun hm15 => ?_) rfl rfl rfl
 refine G1 (u := G2 0) (G5 rfl rfl) ?_
 refine G9 (hK4 _ _ ?_)
 refine Gk ?_
 obtain ⟨b27, kx27, hb27, hkx27, h⟩ := Hj h
 refine H2 (fun i27 (s27 : Int) => each b27 kx27 (List.drop i27 l) i27 s27 = some r) (fun i27 s27 => [(0, LS 9 Box.av boxes), (2, G2 column), (3, U8 half), (9, G2 s27), (14, LS 4 Gb.av l), (15, G2 (l.length : Int)), (16, G2 (i27 : Int))]) (fun i27 s27 => []) (fun i27 => l.length - i27) 0 0 h ⟨(by repeat' constructor), trivial, rfl⟩ ?_
 clear h
 intro i27 s27 hi27 K27 e27
 refine G6 fun K28 hK28 => G3 ?_
 refine G1 (u := BL (decide ((i27 : Int) < (l.length : Int)))) (Hg rfl rfl rfl) ?_
 refine G9 (hK28 _ _ ?_)
 refine G6 (fun K29 hK29 => ?_)
 refine Gm rfl (fun hb => ?_) (fun hb => ?_)
 ·
  have hk27 := lt_len hb
  obtain ⟨y27, nx27, hy27, hn27, h⟩ := Hc hi27 hk27
  replace h := app4 hb27 h
  refine Gp ?_
  refine hK29 _ _ ?_
  obtain ⟨kj30, hkj30, h⟩ := Jf h
  refine Ht (fun j30 : Int => kj30 j30 = some r) (fun j30 => [(0, LS 9 Box.av boxes), (2, G2 column), (3, U8 half), (9, G2 j30), (14, LS 4 Gb.av l), (15, G2 (l.length : Int)), (16, G2 (i27 : Int))]) (fun j30 => []) (fun Kj30 ej30 => ?_) ?_
  ·
   refine Gk ?_
   refine G6 fun K31 hK31 => G3 ?_
   refine G1 (u := .dptr (Gb.cs y27)) (Gw (f := Gb.av) (xs := l) (y := y27) rfl rfl rfl Hq hy27 rfl) ?_
   refine G1 (u := .agg (Gb.cs y27)) (Gf tf_agg_102 rfl rfl rfl) ?_
   refine G1 (u := .ptr 1132 0) (H8 1132 4 Ji rfl rfl) ?_
   refine H6 (u := .junk) (Gz (u := .agg (Gb.cs y27)) (ds := [G2 y27.Box, G2 y27.Slot.G8, G2 y27.Slot.Tier, U8 y27.Slot.Half]) tf_size_102 rfl rfl rfl rfl rfl rfl rfl rfl) ?_
   refine G9 (hK31 _ _ ?_)
   refine Gq [(0, LS 9 Box.av boxes), (2, G2 column), (3, U8 half), (9, G2 s27), (11, .dptr (Gb.cs y27)), (14, LS 4 Gb.av l), (15, G2 (l.length : Int)), (16, G2 (i27 : Int))] [] 1132 rfl rfl rfl trivial rfl (by repeat' (first | exact .ptr | constructor)) ?_
   refine G6 fun K32 hK32 => G3 ?_
   refine G1 (u := .dptr (Slot.cs y27.Slot)) (Gd Jm rfl rfl rfl) ?_
   refine G1 (u := .dptr (Slot.cs y27.Slot)) (Gd Js rfl rfl rfl) ?_
   refine G1 (u := G2 y27.Slot.G8) (Gn Gc rfl rfl rfl) ?_
   refine G1 (u := G2 column) (G5 rfl rfl) ?_
   refine G1 (u := BL (decide (y27.Slot.G8 = column))) (Jb rfl rfl rfl) ?_
   refine G1 (u := BL (decide (y27.Slot.G8 = column))) (G5 rfl rfl) ?_
   refine Gj (u := .dptr (Slot.cs y27.Slot)) [] rfl rfl rfl .sct trivial (fun hc => Gd Jm rfl rfl rfl) ?_
   refine Gj (u := .dptr [U8 y27.Slot.Half]) [(26, .dptr (Slot.cs y27.Slot))] rfl rfl rfl .sct ⟨.all id, trivial⟩ (fun hc => Gd tf_field_98_2 rfl rfl rfl) ?_
   refine Gj (u := U8 y27.Slot.Half) [(27, .dptr [U8 y27.Slot.Half])] rfl rfl rfl .sct ⟨.all id, trivial⟩ (fun hc => Gn Hk rfl rfl rfl) ?_
   refine Gj (u := U8 half) [] rfl rfl rfl .sct trivial (fun hc => G5 rfl rfl) ?_
   refine Gj (u := BL (decide (y27.Slot.Half = half))) [(28, U8 y27.Slot.Half), (29, U8 half)] rfl rfl rfl .sct ⟨.all id, .all id, trivial⟩ (fun hc => Jb rfl rfl rfl) ?_
   refine Gj (u := BL (decide (y27.Slot.Half = half))) [(30, BL (decide (y27.Slot.Half = half)))] rfl rfl rfl .sct ⟨.all id, trivial⟩ (fun hc => G5 rfl rfl) ?_
   refine Gj (u := .dptr (Slot.cs y27.Slot)) [] rfl rfl rfl .optf trivial (fun hc => Gd Jm rfl rfl rfl) ?_
   refine Gj (u := .dptr [U8 y27.Slot.Half]) [(32, .dptr (Slot.cs y27.Slot))] rfl rfl rfl .optf ⟨.all id, trivial⟩ (fun hc => Gd tf_field_98_2 rfl rfl rfl) ?_
   refine Gj (u := U8 y27.Slot.Half) [(33, .dptr [U8 y27.Slot.Half])] rfl rfl rfl .optf ⟨.all id, trivial⟩ (fun hc => Gn Hk rfl rfl rfl) ?_
   refine Gj (u := BL (decide (y27.Slot.Half = 0))) [(34, U8 y27.Slot.Half)] rfl rfl rfl .optf ⟨.all id, trivial⟩ (fun hc => Jb rfl rfl rfl) ?_
   refine Gj (u := BL ((decide (y27.Slot.Half = half)) || (decide (y27.Slot.Half = 0)))) [(31, BL (decide (y27.Slot.Half = half))), (35, _)] rfl rfl rfl .sct ⟨.all id, .part, trivial⟩ (fun hc => A_or rfl rfl rfl rfl) ?_
   refine G1 (u := BL ((decide (y27.Slot.G8 = column)) && ((decide (y27.Slot.Half = half)) || (decide (y27.Slot.Half = 0))))) (Jc rfl rfl rfl rfl) ?_
   refine G9 (hK32 _ _ ?_)
   refine Gm rfl (fun hb => ?_) (fun hb => ?_)
   ·
    replace h := bif_t hb h
    refine G6 fun K33 hK33 => G3 ?_
    refine G1 (u := LS 9 Box.av boxes) (G5 rfl rfl) ?_
    refine G1 (u := .dptr (Gb.cs y27)) (Gd Ja rfl rfl rfl) ?_
    refine G1 (u := G2 y27.Box) (Gn Gc rfl rfl rfl) ?_
    obtain ⟨r34, hr34, h⟩ := Gg h
    refine G1 (u := .tup [.agg (Box.cs r34.1), BL r34.2]) (Gu (args := [LS 9 Box.av boxes, G2 y27.Box]) rfl (M_stow_Find_w boxes y27.Box r34 hr34) tf_call_49 ⟨rfl, rfl, rfl, rfl, trivial⟩) ?_
    refine G1 (u := .tup [.agg (Box.cs r34.1), BL r34.2]) (G5 rfl rfl) ?_
    refine G1 (u := .agg (Box.cs r34.1)) (Gx rfl rfl rfl) ?_
    refine G1 (u := BL r34.2) (Gx rfl rfl rfl) ?_
    refine G1 (u := .ptr 1133 0) (H8 1133 9 Jd rfl rfl) ?_
    refine H6 (u := .junk) (Gz (u := .agg (Box.cs r34.1)) (ds := (Box.cs r34.1)) Jx rfl rfl rfl rfl rfl rfl rfl rfl) ?_
    refine G1 (u := BL r34.2) (Ga rfl rfl) ?_
    refine G9 (hK33 _ _ ?_)
    refine Gq [(0, LS 9 Box.av boxes), (2, G2 column), (3, U8 half), (9, G2 s27), (12, .dptr (Box.cs r34.1)), (13, BL r34.2), (14, LS 4 Gb.av l), (15, G2 (l.length : Int)), (16, G2 (i27 : Int))] [] 1133 rfl rfl rfl trivial rfl (by repeat' (first | exact .ptr | constructor)) ?_
    refine G6 fun K35 hK35 => G3 ?_
    refine G1 (u := BL r34.2) (G5 rfl rfl) ?_
    refine G9 (hK35 _ _ ?_)
    refine Gm rfl (fun hb => ?_) (fun hb => ?_)
    ·
     replace h := bif_t hb h
     refine G3 ?_
     refine G1 (u := G2 s27) (G5 rfl rfl) ?_
     refine G1 (u := .agg (Box.cs r34.1)) (Gf Jw rfl rfl rfl) ?_
     obtain ⟨r36, hr36, h⟩ := Gg h
     refine G1 (u := G2 r36) (Gu (args := [.agg (Box.cs r34.1)]) rfl (M_stow_tall_w r34.1 r36 hr36) tf_call_87 ⟨rfl, rfl, trivial⟩) ?_
     obtain ⟨v37, hv37, h⟩ := Gy h
     refine G1 (u := G2 v37) (H7 hv37 rfl rfl rfl) ?_
     refine G1 (u := G2 v37) (Ga rfl rfl) ?_
     refine G9 ?_
     exact ej30 _ _ v37 h ⟨(by repeat' constructor), trivial, rfl⟩
    ·
     replace h := bif_f hb h
     refine Gp ?_
     exact ej30 _ _ s27 h ⟨(by repeat' constructor), trivial, rfl⟩
   ·
    replace h := bif_f hb h
    refine Gp ?_
    exact ej30 _ _ s27 h ⟨(by repeat' constructor), trivial, rfl⟩
  ·intro j30 h
   replace h := app1 hkj30 h
   refine G3 ?_
   refine G1 (u := G2 ((i27 + 1 : Nat) : Int)) (H7 (idx_succ hk27 hm15) rfl rfl rfl) ?_
   refine G1 (u := G2 ((i27 + 1 : Nat) : Int)) (G5 rfl rfl) ?_
   refine G9 ?_
   exact e27 _ _ (i27 + 1) j30 (app1 hn27 h) (by omega) ⟨(by repeat' constructor), trivial, rfl⟩
 ·
  have h := app1 hkx27 (Hd hi27 (H3 hb))
  refine H4 ?_
  refine hK3 _ _ ?_
  refine G6 fun K38 hK38 => G3 ?_
  refine G1 (u := G2 s27) (G5 rfl rfl) ?_
  refine G1 (u := G2 s27) (Ga rfl rfl) ?_
  refine G9 (hK38 _ _ ?_)
  refine Gt ?_
  exact ⟨[G2 s27], [], trivial, rfl, ⟨⟨_, rfl, .conv (.same rfl)⟩, trivial⟩, rfl, congrArg (fun r : Int => (G2 r : AV)) (Option.some.inj h)⟩

def M_stow_fits (s : Ship) (boxes : List Box) (l : List Gb) (column : Int) : Option Bool :=
 gidx s.Columns column fun y3 =>
 bnd (bif (!(decide (y3.Height ≤ 0))) then M_stow_Height boxes l column 1 else some default) fun r6 =>
 bnd (bif ((!(decide (y3.Height ≤ 0))) && (decide (r6 ≤ y3.Height))) then M_stow_Height boxes l column 2 else some default) fun r7 =>
 some ((decide (y3.Height ≤ 0)) || ((decide (r6 ≤ y3.Height)) && (decide (r7 ≤ y3.Height))))
theorem M_stow_fits_w (s : Ship) (boxes : List Box) (l : List Gb) (column : Int) (r : Bool) (h : M_stow_fits s boxes l column = some r) : Pure Try.prog 53 [.agg (Ship.cs s), LS 9 Box.av boxes, LS 4 Gb.av l, G2 column] (· = BL r) := by
 unfold M_stow_fits at h
 refine H0 [.tmp 8] Try.func53 rfl rfl ?_
 refine G6 fun K1 hK1 => G3 ?_
 refine G1 (u := .ptr 1126 0) (J2 (u := .agg (Ship.cs s)) (cs := (Ship.cs s)) 1126 rfl rfl rfl rfl rfl) ?_
 refine G1 (u := BL false) (Ga rfl rfl) ?_
 refine G9 (hK1 _ _ ?_)
 refine Gq [(1, LS 9 Box.av boxes), (2, LS 4 Gb.av l), (3, G2 column), (4, .dptr (Ship.cs s))] [] 1126 rfl rfl rfl trivial rfl (by repeat' (first | exact .ptr | constructor)) ?_
 refine G6 fun K2 hK2 => G3 ?_
 refine G1 (u := .dptr (Ship.cs s)) (Gd Hb rfl rfl rfl) ?_
 refine G1 (u := LS 12 G8.av s.Columns) (Gn Hm rfl rfl rfl) ?_
 refine G1 (u := G2 column) (G5 rfl rfl) ?_
 obtain ⟨m4, y3, hm4, hy3, h⟩ := Je h
 refine G1 (u := .dptr (G8.cs y3)) (Gw (f := G8.av) (xs := s.Columns) (y := y3) rfl rfl rfl Ha hy3 hm4) ?_
 refine G1 (u := .dptr ((G8.cs y3).drop 4)) (Gd tf_field_50_4 rfl rfl rfl) ?_
 refine G1 (u := G2 y3.Height) (Gn Gc rfl rfl rfl) ?_
 refine G1 (u := G2 y3.Height) (Ga rfl rfl) ?_
 refine G9 (hK2 _ _ ?_)
 refine G6 fun K5 hK5 => G3 ?_
 refine G1 (u := G2 y3.Height) (G5 rfl rfl) ?_
 refine G1 (u := BL (decide (y3.Height ≤ 0))) (A_leq rfl rfl rfl) ?_
 refine G1 (u := BL (decide (y3.Height ≤ 0))) (G5 rfl rfl) ?_
 refine Gj (u := LS 9 Box.av boxes) [] rfl rfl rfl .scf trivial (fun hc => G5 rfl rfl) ?_
 refine Gj (u := LS 4 Gb.av l) [] rfl rfl rfl .scf trivial (fun hc => G5 rfl rfl) ?_
 refine Gj (u := G2 column) [] rfl rfl rfl .scf trivial (fun hc => G5 rfl rfl) ?_
 obtain ⟨r6, hr6, h⟩ := Gg h
 refine Gj (u := G2 r6) [(19, LS 9 Box.av boxes), (20, LS 4 Gb.av l), (21, G2 column)] rfl rfl rfl .scf ⟨.all id, .all id, .all id, trivial⟩ (fun hc => Gu (args := [LS 9 Box.av boxes, LS 4 Gb.av l, G2 column, U8 1]) rfl (M_stow_Height_w boxes l column 1 r6 (bif_t hc hr6)) tf_call_69 ⟨rfl, rfl, rfl, rfl, rfl, rfl, rfl, rfl, trivial⟩) ?_
 refine Gj (u := G2 y3.Height) [] rfl rfl rfl .scf trivial (fun hc => G5 rfl rfl) ?_
 refine Gj (u := BL (decide (r6 ≤ y3.Height))) [(22, G2 r6), (23, G2 y3.Height)] rfl rfl rfl .scf ⟨.all id, .all id, trivial⟩ (fun hc => A_leq rfl rfl rfl) ?_
 refine Gj (u := BL (decide (r6 ≤ y3.Height))) [(24, BL (decide (r6 ≤ y3.Height)))] rfl rfl rfl .scf ⟨.all id, trivial⟩ (fun hc => G5 rfl rfl) ?_
 refine Gj (u := LS 9 Box.av boxes) [] rfl rfl rfl .optt trivial (fun hc => G5 rfl rfl) ?_
 refine Gj (u := LS 4 Gb.av l) [] rfl rfl rfl .optt trivial (fun hc => G5 rfl rfl) ?_
 refine Gj (u := G2 column) [] rfl rfl rfl .optt trivial (fun hc => G5 rfl rfl) ?_
 obtain ⟨r7, hr7, h⟩ := Gg h
 refine Gj (u := G2 r7) [(26, LS 9 Box.av boxes), (27, LS 4 Gb.av l), (28, G2 column)] rfl rfl rfl .optt ⟨.all id, .all id, .all id, trivial⟩ (fun hc => Gu (args := [LS 9 Box.av boxes, LS 4 Gb.av l, G2 column, U8 2]) rfl (M_stow_Height_w boxes l column 2 r7 (bif_t hc hr7)) tf_call_69 ⟨rfl, rfl, rfl, rfl, rfl, rfl, rfl, rfl, trivial⟩) ?_
 refine Gj (u := G2 y3.Height) [] rfl rfl rfl .optt trivial (fun hc => G5 rfl rfl) ?_
 refine Gj (u := BL (decide (r7 ≤ y3.Height))) [(29, G2 r7), (30, G2 y3.Height)] rfl rfl rfl .optt ⟨.all id, .all id, trivial⟩ (fun hc => A_leq rfl rfl rfl) ?_
 refine Gj (u := BL ((decide (r6 ≤ y3.Height)) && (decide (r7 ≤ y3.Height)))) [(25, BL (decide (r6 ≤ y3.Height))), (31, _)] rfl rfl rfl .scf ⟨.all id, .part, trivial⟩ (fun hc => Jc rfl rfl rfl rfl) ?_
 refine G1 (u := BL ((decide (y3.Height ≤ 0)) || ((decide (r6 ≤ y3.Height)) && (decide (r7 ≤ y3.Height))))) (A_or rfl rfl rfl rfl) ?_
 refine G1 (u := BL ((decide (y3.Height ≤ 0)) || ((decide (r6 ≤ y3.Height)) && (decide (r7 ≤ y3.Height))))) (Ga rfl rfl) ?_
 refine G9 (hK5 _ _ ?_)
 refine Gt ?_
 exact ⟨[BL ((decide (y3.Height ≤ 0)) || ((decide (r6 ≤ y3.Height)) && (decide (r7 ≤ y3.Height))))], [], trivial, rfl, ⟨⟨_, rfl, .conv (.same rfl)⟩, trivial⟩, rfl, congrArg (fun r : Bool => (BL r : AV)) (Option.some.inj h)⟩

def M_stow_Right (s : Ship) (boxes : List Box) (l : List Gb) : Option Bool :=
 bnd (S_ship_Right s) fun r4 =>
 bif (!r4) then
 (some false)
 else
 (bnd (M_stow_taken l) fun r7 =>
  each (fun y10 i10 (s10 : Unit) nx10 =>
   bnd (M_stow_Find boxes y10.Box) fun r16 =>
   bnd (bif ((!(!r16.2)) && (decide (0 < (i10 : Int)))) then chk ((i10 : Int) - 1) some else some 0) fun v19 =>
   bnd (bif ((!(!r16.2)) && (decide (0 < (i10 : Int)))) then gidx l v19 some else some default) fun y20 =>
   bnd (bif (!((!r16.2) || ((decide (0 < (i10 : Int))) && (decide (y10.Box ≤ y20.Box))))) then M_slot_Right s y10.Slot r16.1.Size else some default) fun r21 =>
   bnd (bif (!(((!r16.2) || ((decide (0 < (i10 : Int))) && (decide (y10.Box ≤ y20.Box)))) || (!r21))) then M_slot_Held y10.Slot r7 else some default) fun r22 =>
   bif ((((!r16.2) || ((decide (0 < (i10 : Int))) && (decide (y10.Box ≤ y20.Box)))) || (!r21)) || (!r22)) then
   (some false)
   else
   (bnd (natIn (i10 : Int) r7.length) fun m25 =>
    each (fun y42 i42 (s42 : Unit) nx42 =>
     bnd (M_slot_Meet y10.Slot y42) fun r48 =>
     bif r48 then
     (some false)
     else
     (nx42 ()))
    (fun (s42 : Unit) =>
     nx10 ()) (r7.take m25) 0 ()))
  (fun (s10 : Unit) =>
   each (fun y64 i64 (s64 : Unit) nx64 =>
    bnd (M_stow_fits s boxes l (i64 : Int)) fun r70 =>
    bif (!r70) then
    (some false)
    else
    (nx64 ()))
   (fun (s64 : Unit) =>
    some true) s.Columns 0 ()) l 0 ())
theorem M_stow_Right_w (s : Ship) (boxes : List Box) (l : List Gb) (r : Bool) (h : M_stow_Right s boxes l = some r) : Pure Try.prog 29 [.agg (Ship.cs s), LS 9 Box.av boxes, LS 4 Gb.av l] (· = BL r) := by
 unfold M_stow_Right at h
 refine H0 [.tmp 6] Try.func29 rfl rfl ?_
 refine G6 fun K1 hK1 => G3 ?_
 refine G1 (u := .ptr 1087 0) (J2 (u := .agg (Ship.cs s)) (cs := (Ship.cs s)) 1087 rfl rfl rfl rfl rfl) ?_
 refine G1 (u := BL false) (Ga rfl rfl) ?_
 refine G9 (hK1 _ _ ?_)
 refine Gq [(1, LS 9 Box.av boxes), (2, LS 4 Gb.av l), (3, .dptr (Ship.cs s))] [] 1087 rfl rfl rfl trivial rfl (by exact ⟨.conv (.same rfl), .conv (.same rfl), .ptr, trivial⟩) ?_
 refine G6 (fun K2 hK2 => ?_)
 refine G6 fun K3 hK3 => G3 ?_
 refine G1 (u := .agg (Ship.cs s)) (Gf Hh rfl rfl rfl) ?_
 obtain ⟨r4, hr4, h⟩ := Gg h
 refine G1 (u := BL r4) (Gu (args := [.agg (Ship.cs s)]) rfl (S_ship_Right_w.down s r4 hr4) tf_call_32 ⟨rfl, rfl, trivial⟩) ?_
 refine G1 (u := BL (!r4)) (A_not (b := r4) rfl rfl) ?_
 refine G9 (hK3 _ _ ?_)
 refine Gm rfl (fun hb => ?_) (fun hb => ?_)
 ·
  replace h := bif_t hb h
  refine G6 fun K5 hK5 => G3 ?_
  refine G1 (u := BL false) (Ga rfl rfl) ?_
  refine G9 (hK5 _ _ ?_)
  refine Gt ?_
  exact ⟨[BL false], [], trivial, rfl, ⟨⟨_, rfl, .conv (.same rfl)⟩, trivial⟩, rfl, congrArg (fun r : Bool => (BL r : AV)) (Option.some.inj h)⟩
 ·
  replace h := bif_f hb h
  refine Gp ?_
  refine hK2 _ _ ?_
  refine G6 fun K6 hK6 => G3 ?_
  refine G1 (u := LS 4 Gb.av l) (G5 rfl rfl) ?_
  obtain ⟨r7, hr7, h⟩ := Gg h
  refine G1 (u := LS 3 Slot.av r7) (Gu (args := [LS 4 Gb.av l]) rfl (M_stow_taken_w l r7 hr7) tf_call_48 ⟨rfl, rfl, trivial⟩) ?_
  refine G1 (u := LS 3 Slot.av r7) (Ga rfl rfl) ?_
  refine G9 (hK6 _ _ ?_)
  refine G6 (fun K8 hK8 => ?_)
  refine G6 fun K9 hK9 => G3 ?_
  refine G1 (u := LS 4 Gb.av l) (G5 rfl rfl) ?_
  refine H9 (f := Gb.av) (xs := l) Hq rfl rfl (fun hm21 => ?_) rfl rfl rfl
  refine G1 (u := G2 0) (G5 rfl rfl) ?_
  refine G9 (hK9 _ _ ?_)
  refine Gk ?_
  obtain ⟨b10, kx10, hb10, hkx10, h⟩ := Hj h
  refine H2 (fun i10 (s10 : Unit) => each b10 kx10 (List.drop i10 l) i10 s10 = some r) (fun i10 s10 => [(1, LS 9 Box.av boxes), (2, LS 4 Gb.av l), (3, .dptr (Ship.cs s)), (7, LS 3 Slot.av r7), (20, LS 4 Gb.av l), (21, G2 (l.length : Int)), (22, G2 (i10 : Int))]) (fun i10 s10 => []) (fun i10 => l.length - i10) 0 () h ⟨(by repeat' constructor), trivial, rfl⟩ ?_
  clear h
  intro i10 s10 hi10 K10 e10
  refine G6 fun K11 hK11 => G3 ?_
  refine G1 (u := BL (decide ((i10 : Int) < (l.length : Int)))) (Hg rfl rfl rfl) ?_
  refine G9 (hK11 _ _ ?_)
  refine G6 (fun K12 hK12 => ?_)
  refine Gm rfl (fun hb => ?_) (fun hb => ?_)
  ·
   have hk10 := lt_len hb
   obtain ⟨y10, nx10, hy10, hn10, h⟩ := Hc hi10 hk10
   replace h := app4 hb10 h
   refine Gp ?_
   refine hK12 _ _ ?_
   refine G6 (fun K13 hK13 => ?_)
   refine Gk ?_
   refine G6 fun K14 hK14 => G3 ?_
   refine G1 (u := G2 (i10 : Int)) (G5 rfl rfl) ?_
   refine G1 (u := .dptr (Gb.cs y10)) (Gw (f := Gb.av) (xs := l) (y := y10) rfl rfl rfl Hq hy10 rfl) ?_
   refine G1 (u := .agg (Gb.cs y10)) (Gf tf_agg_102 rfl rfl rfl) ?_
   refine G1 (u := .ptr 1088 0) (H8 1088 4 Ji rfl rfl) ?_
   refine G1 (u := G2 (i10 : Int)) (Ga rfl rfl) ?_
   refine H6 (u := .junk) (Gz (u := .agg (Gb.cs y10)) (ds := [G2 y10.Box, G2 y10.Slot.G8, G2 y10.Slot.Tier, U8 y10.Slot.Half]) tf_size_102 rfl rfl rfl rfl rfl rfl rfl rfl) ?_
   refine G9 (hK14 _ _ ?_)
   refine Gq [(1, LS 9 Box.av boxes), (2, LS 4 Gb.av l), (3, .dptr (Ship.cs s)), (7, LS 3 Slot.av r7), (8, G2 (i10 : Int)), (9, .dptr (Gb.cs y10)), (20, LS 4 Gb.av l), (21, G2 (l.length : Int)), (22, G2 (i10 : Int))] [] 1088 rfl rfl rfl trivial rfl (by repeat' (first | exact .ptr | constructor)) ?_
   refine G6 fun K15 hK15 => G3 ?_
   refine G1 (u := LS 9 Box.av boxes) (G5 rfl rfl) ?_
   refine G1 (u := .dptr (Gb.cs y10)) (Gd Ja rfl rfl rfl) ?_
   refine G1 (u := G2 y10.Box) (Gn Gc rfl rfl rfl) ?_
   obtain ⟨r16, hr16, h⟩ := Gg h
   refine G1 (u := .tup [.agg (Box.cs r16.1), BL r16.2]) (Gu (args := [LS 9 Box.av boxes, G2 y10.Box]) rfl (M_stow_Find_w boxes y10.Box r16 hr16) tf_call_49 ⟨rfl, rfl, rfl, rfl, trivial⟩) ?_
   refine G1 (u := .tup [.agg (Box.cs r16.1), BL r16.2]) (G5 rfl rfl) ?_
   refine G1 (u := .agg (Box.cs r16.1)) (Gx rfl rfl rfl) ?_
   refine G1 (u := BL r16.2) (Gx rfl rfl rfl) ?_
   refine G1 (u := .ptr 1089 0) (H8 1089 9 Jd rfl rfl) ?_
   refine H6 (u := .junk) (Gz (u := .agg (Box.cs r16.1)) (ds := (Box.cs r16.1)) Jx rfl rfl rfl rfl rfl rfl rfl rfl) ?_
   refine G1 (u := BL r16.2) (Ga rfl rfl) ?_
   refine G9 (hK15 _ _ ?_)
   refine Gq [(1, LS 9 Box.av boxes), (2, LS 4 Gb.av l), (3, .dptr (Ship.cs s)), (7, LS 3 Slot.av r7), (8, G2 (i10 : Int)), (9, .dptr (Gb.cs y10)), (10, .dptr (Box.cs r16.1)), (11, BL r16.2), (20, LS 4 Gb.av l), (21, G2 (l.length : Int)), (22, G2 (i10 : Int))] [] 1089 rfl rfl rfl trivial rfl (by repeat' (first | exact .ptr | constructor)) ?_
   refine G6 (fun K17 hK17 => ?_)
   refine G6 (fun K18 hK18 => ?_)
   obtain ⟨v19, hv19, h⟩ := Gg h
   obtain ⟨y20, hy20, h⟩ := Gg h
   obtain ⟨r21, hr21, h⟩ := Gg h
   obtain ⟨r22, hr22, h⟩ := Gg h
   refine Hy [] [0, 0, 0, 0, 0, 0, 0, 0, 0, 0, 0, 0, 0, 0, 0, 0, 0, 0, 0, 0, 0, 0, 0, 0, 0, 0, 0, 0, 0, 0, 0, 0, 0] [0, 0, 0, 0, 0, 0, 0, 0, 0, 0, 0, 0, 0, 0, 0, 0, 0, 0, 0, 0, 0, 0, 0, 0, 0, 0, 0, 0, 0, 0, 0, 0, 0] [[]] Hr (by kernel_rfl) rfl rfl ?_
   refine Ge (u := BL r16.2) rfl rfl ⟨Gi (G5 rfl rfl) rfl, trivial⟩ ?_
   refine Ge (u := BL (!r16.2)) rfl rfl ⟨Gi (A_not (b := r16.2) rfl rfl) rfl, trivial⟩ ?_
   refine Ge (u := BL (!r16.2)) rfl rfl ⟨Gi (G5 rfl rfl) rfl, trivial⟩ ?_
   refine Ge (u := .opt (!(!r16.2)) (G2 (i10 : Int))) rfl rfl ⟨Gv [] rfl rfl rfl .scf trivial (fun hc => G5 rfl rfl) rfl, trivial⟩ ?_
   refine Ge (u := .opt (!(!r16.2)) (BL (decide (0 < (i10 : Int))))) rfl rfl ⟨Gv [(37, G2 (i10 : Int))] rfl rfl rfl .scf ⟨.all id, trivial⟩ (fun hc => Jy rfl rfl rfl) rfl, trivial⟩ ?_
   refine Ge (u := .opt (!(!r16.2)) (BL (decide (0 < (i10 : Int))))) rfl rfl ⟨Gv [(38, BL (decide (0 < (i10 : Int))))] rfl rfl rfl .scf ⟨.all id, trivial⟩ (fun hc => G5 rfl rfl) rfl, trivial⟩ ?_
   refine Ge (u := .opt ((!(!r16.2)) && (decide (0 < (i10 : Int)))) (.dptr (Gb.cs y10))) rfl rfl ⟨Gv [] rfl rfl rfl .optt trivial (fun hc => Gd Ja rfl rfl rfl) rfl, trivial⟩ ?_
   refine Ge (u := .opt ((!(!r16.2)) && (decide (0 < (i10 : Int)))) (G2 y10.Box)) rfl rfl ⟨Gv [(40, .dptr (Gb.cs y10))] rfl rfl rfl .optt ⟨.all id, trivial⟩ (fun hc => Gn Gc rfl rfl rfl) rfl, trivial⟩ ?_
   refine Ge (u := .opt ((!(!r16.2)) && (decide (0 < (i10 : Int)))) (LS 4 Gb.av l)) rfl rfl ⟨Gv [] rfl rfl rfl .optt trivial (fun hc => G5 rfl rfl) rfl, trivial⟩ ?_
   refine Ge (u := .opt ((!(!r16.2)) && (decide (0 < (i10 : Int)))) (G2 (i10 : Int))) rfl rfl ⟨Gv [] rfl rfl rfl .optt trivial (fun hc => G5 rfl rfl) rfl, trivial⟩ ?_
   refine Ge (u := .opt ((!(!r16.2)) && (decide (0 < (i10 : Int)))) (G2 v19)) rfl rfl ⟨Gv [(43, G2 (i10 : Int))] rfl rfl rfl .optt ⟨.all id, trivial⟩ (fun hc => A_sub (chk_some (bif_t hc hv19)) rfl rfl rfl) rfl, trivial⟩ ?_
   refine Ge (u := .opt ((!(!r16.2)) && (decide (0 < (i10 : Int)))) (.dptr (Gb.cs y20))) rfl rfl ⟨Gv [(42, LS 4 Gb.av l), (44, G2 v19)] rfl rfl rfl .optt ⟨.all id, .all id, trivial⟩ (fun hc => (match Jh (bif_t hc hy20) with | ⟨_, hm_, hy_⟩ => Gw (f := Gb.av) (xs := l) (y := y20) rfl rfl rfl Hq hy_ hm_)) rfl, trivial⟩ ?_
   refine Ge (u := .opt ((!(!r16.2)) && (decide (0 < (i10 : Int)))) (.dptr (Gb.cs y20))) rfl rfl ⟨Gv [(45, .dptr (Gb.cs y20))] rfl rfl rfl .optt ⟨.all id, trivial⟩ (fun hc => Gd Ja rfl rfl rfl) rfl, trivial⟩ ?_
   refine Ge (u := .opt ((!(!r16.2)) && (decide (0 < (i10 : Int)))) (G2 y20.Box)) rfl rfl ⟨Gv [(46, .dptr (Gb.cs y20))] rfl rfl rfl .optt ⟨.all id, trivial⟩ (fun hc => Gn Gc rfl rfl rfl) rfl, trivial⟩ ?_
   refine Ge (u := .opt ((!(!r16.2)) && (decide (0 < (i10 : Int)))) (BL (decide (y10.Box ≤ y20.Box)))) rfl rfl ⟨Gv [(41, G2 y10.Box), (47, G2 y20.Box)] rfl rfl rfl .optt ⟨.all id, .all id, trivial⟩ (fun hc => A_leq rfl rfl rfl) rfl, trivial⟩ ?_
   refine Ge (u := .opt (!(!r16.2)) (BL ((decide (0 < (i10 : Int))) && (decide (y10.Box ≤ y20.Box))))) rfl rfl ⟨Gv [(39, BL (decide (0 < (i10 : Int)))), (48, _)] rfl rfl rfl .scf ⟨.all id, .part, trivial⟩ (fun hc => Jc rfl rfl rfl rfl) rfl, trivial⟩ ?_
   refine Ge (u := BL ((!r16.2) || ((decide (0 < (i10 : Int))) && (decide (y10.Box ≤ y20.Box))))) rfl rfl ⟨Gi (A_or rfl rfl rfl rfl) rfl, trivial⟩ ?_
   refine Ge (u := BL ((!r16.2) || ((decide (0 < (i10 : Int))) && (decide (y10.Box ≤ y20.Box))))) rfl rfl ⟨Gi (G5 rfl rfl) rfl, trivial⟩ ?_
   refine Ge (u := .opt (!((!r16.2) || ((decide (0 < (i10 : Int))) && (decide (y10.Box ≤ y20.Box))))) (.agg (Ship.cs s))) rfl rfl ⟨Gv [] rfl rfl rfl .scf trivial (fun hc => Gf Hh rfl rfl rfl) rfl, trivial⟩ ?_
   refine Ge (u := .opt (!((!r16.2) || ((decide (0 < (i10 : Int))) && (decide (y10.Box ≤ y20.Box))))) (.dptr (Slot.cs y10.Slot))) rfl rfl ⟨Gv [] rfl rfl rfl .scf trivial (fun hc => Gd Jm rfl rfl rfl) rfl, trivial⟩ ?_
   refine Ge (u := .opt (!((!r16.2) || ((decide (0 < (i10 : Int))) && (decide (y10.Box ≤ y20.Box))))) (.agg (Slot.cs y10.Slot))) rfl rfl ⟨Gv [(53, .dptr (Slot.cs y10.Slot))] rfl rfl rfl .scf ⟨.all id, trivial⟩ (fun hc => Gf Jn rfl rfl rfl) rfl, trivial⟩ ?_
   refine Ge (u := .opt (!((!r16.2) || ((decide (0 < (i10 : Int))) && (decide (y10.Box ≤ y20.Box))))) (.dptr ((Box.cs r16.1).drop 2))) rfl rfl ⟨Gv [] rfl rfl rfl .scf trivial (fun hc => Gd tf_field_70_2 rfl rfl rfl) rfl, trivial⟩ ?_
   refine Ge (u := .opt (!((!r16.2) || ((decide (0 < (i10 : Int))) && (decide (y10.Box ≤ y20.Box))))) (U8 r16.1.Size)) rfl rfl ⟨Gv [(55, .dptr ((Box.cs r16.1).drop 2))] rfl rfl rfl .scf ⟨.all id, trivial⟩ (fun hc => Gn Hk rfl rfl rfl) rfl, trivial⟩ ?_
   refine Ge (u := .opt (!((!r16.2) || ((decide (0 < (i10 : Int))) && (decide (y10.Box ≤ y20.Box))))) (BL r21)) rfl rfl ⟨Gv [(52, .agg (Ship.cs s)), (54, .agg (Slot.cs y10.Slot)), (56, U8 r16.1.Size)] rfl rfl rfl .scf ⟨.all id, .all id, .all id, trivial⟩ (fun hc => Gu (args := [.agg (Ship.cs s), .agg (Slot.cs y10.Slot), U8 r16.1.Size]) rfl (M_slot_Right_w s y10.Slot r16.1.Size r21 (bif_t hc hr21)) tf_call_50 ⟨rfl, rfl, rfl, rfl, rfl, rfl, trivial⟩) rfl, trivial⟩ ?_
   refine Ge (u := .opt (!((!r16.2) || ((decide (0 < (i10 : Int))) && (decide (y10.Box ≤ y20.Box))))) (BL (!r21))) rfl rfl ⟨Gv [(57, BL r21)] rfl rfl rfl .scf ⟨.all id, trivial⟩ (fun hc => A_not (b := r21) rfl rfl) rfl, trivial⟩ ?_
   refine Ge (u := BL (((!r16.2) || ((decide (0 < (i10 : Int))) && (decide (y10.Box ≤ y20.Box)))) || (!r21))) rfl rfl ⟨Gi (A_or rfl rfl rfl rfl) rfl, trivial⟩ ?_
   refine Ge (u := BL (((!r16.2) || ((decide (0 < (i10 : Int))) && (decide (y10.Box ≤ y20.Box)))) || (!r21))) rfl rfl ⟨Gi (G5 rfl rfl) rfl, trivial⟩ ?_
   refine Ge (u := .opt (!(((!r16.2) || ((decide (0 < (i10 : Int))) && (decide (y10.Box ≤ y20.Box)))) || (!r21))) (.dptr (Slot.cs y10.Slot))) rfl rfl ⟨Gv [] rfl rfl rfl .scf trivial (fun hc => Gd Jm rfl rfl rfl) rfl, trivial⟩ ?_
   refine Ge (u := .opt (!(((!r16.2) || ((decide (0 < (i10 : Int))) && (decide (y10.Box ≤ y20.Box)))) || (!r21))) (.agg (Slot.cs y10.Slot))) rfl rfl ⟨Gv [(61, .dptr (Slot.cs y10.Slot))] rfl rfl rfl .scf ⟨.all id, trivial⟩ (fun hc => Gf Jn rfl rfl rfl) rfl, trivial⟩ ?_
   refine Ge (u := .opt (!(((!r16.2) || ((decide (0 < (i10 : Int))) && (decide (y10.Box ≤ y20.Box)))) || (!r21))) (LS 3 Slot.av r7)) rfl rfl ⟨Gv [] rfl rfl rfl .scf trivial (fun hc => G5 rfl rfl) rfl, trivial⟩ ?_
   refine Ge (u := .opt (!(((!r16.2) || ((decide (0 < (i10 : Int))) && (decide (y10.Box ≤ y20.Box)))) || (!r21))) (BL r22)) rfl rfl ⟨Gv [(62, .agg (Slot.cs y10.Slot)), (63, LS 3 Slot.av r7)] rfl rfl rfl .scf ⟨.all id, .all id, trivial⟩ (fun hc => Gu (args := [.agg (Slot.cs y10.Slot), LS 3 Slot.av r7]) rfl (M_slot_Held_w y10.Slot r7 r22 (bif_t hc hr22)) tf_call_51 ⟨rfl, rfl, rfl, rfl, trivial⟩) rfl, trivial⟩ ?_
   refine Ge (u := .opt (!(((!r16.2) || ((decide (0 < (i10 : Int))) && (decide (y10.Box ≤ y20.Box)))) || (!r21))) (BL (!r22))) rfl rfl ⟨Gv [(64, BL r22)] rfl rfl rfl .scf ⟨.all id, trivial⟩ (fun hc => A_not (b := r22) rfl rfl) rfl, trivial⟩ ?_
   refine Ge (u := BL ((((!r16.2) || ((decide (0 < (i10 : Int))) && (decide (y10.Box ≤ y20.Box)))) || (!r21)) || (!r22))) rfl rfl ⟨Gi (A_or rfl rfl rfl rfl) rfl, trivial⟩ ?_
   refine Q3 ?_
   refine hK18 _ _ ?_
   refine Gm rfl (fun hb => ?_) (fun hb => ?_)
   ·
    replace h := bif_t hb h
    refine G6 fun K23 hK23 => G3 ?_
    refine G1 (u := BL false) (Ga rfl rfl) ?_
    refine G9 (hK23 _ _ ?_)
    refine Gt ?_
    exact ⟨[BL false], [], trivial, rfl, ⟨⟨_, rfl, .conv (.same rfl)⟩, trivial⟩, rfl, congrArg (fun r : Bool => (BL r : AV)) (Option.some.inj h)⟩
   ·
    replace h := bif_f hb h
    refine Gp ?_
    refine hK17 _ _ ?_
    refine G6 fun K24 hK24 => G3 ?_
    refine G1 (u := LS 3 Slot.av r7) (G5 rfl rfl) ?_
    refine G1 (u := G2 (i10 : Int)) (G5 rfl rfl) ?_
    obtain ⟨m25, hm25, h⟩ := Gg h
    refine G1 (u := LS 3 Slot.av (r7.take m25)) (A_sliceHiM (f := Slot.av) (xs := r7) rfl rfl rfl Jg (natIn_out hm25)) ?_
    refine H9 (f := Slot.av) (xs := (r7.take m25)) Jg rfl rfl (fun hm70 => ?_) rfl rfl rfl
    refine G1 (u := G2 0) (G5 rfl rfl) ?_
    refine G9 (hK24 _ _ ?_)
    refine Gk ?_
    obtain ⟨b42, kx42, hb42, hkx42, h⟩ := Hj h
    refine H2 (fun i42 (s42 : Unit) => each b42 kx42 (List.drop i42 (r7.take m25)) i42 s42 = some r) (fun i42 s42 => [(1, LS 9 Box.av boxes), (2, LS 4 Gb.av l), (3, .dptr (Ship.cs s)), (7, LS 3 Slot.av r7), (9, .dptr (Gb.cs y10)), (20, LS 4 Gb.av l), (21, G2 (l.length : Int)), (22, G2 (i10 : Int)), (69, LS 3 Slot.av (r7.take m25)), (70, G2 ((r7.take m25).length : Int)), (71, G2 (i42 : Int))]) (fun i42 s42 => []) (fun i42 => (r7.take m25).length - i42) 0 () h ⟨(by repeat' constructor), trivial, rfl⟩ ?_
    clear h
    intro i42 s42 hi42 K42 e42
    refine G6 fun K43 hK43 => G3 ?_
    refine G1 (u := BL (decide ((i42 : Int) < ((r7.take m25).length : Int)))) (Hg rfl rfl rfl) ?_
    refine G9 (hK43 _ _ ?_)
    refine G6 (fun K44 hK44 => ?_)
    refine Gm rfl (fun hb => ?_) (fun hb => ?_)
    ·
     have hk42 := lt_len hb
     obtain ⟨y42, nx42, hy42, hn42, h⟩ := Hc hi42 hk42
     replace h := app4 hb42 h
     refine Gp ?_
     refine hK44 _ _ ?_
     refine G6 (fun K45 hK45 => ?_)
     refine Gk ?_
     refine G6 fun K46 hK46 => G3 ?_
     refine G1 (u := .dptr (Slot.cs y42)) (Gw (f := Slot.av) (xs := (r7.take m25)) (y := y42) rfl rfl rfl Jg hy42 rfl) ?_
     refine G1 (u := .agg (Slot.cs y42)) (Gf Jn rfl rfl rfl) ?_
     refine G1 (u := .ptr 1090 0) (H8 1090 3 tf_zsize_98 rfl rfl) ?_
     refine H6 (u := .junk) (Gz (u := .agg (Slot.cs y42)) (ds := [G2 y42.G8, G2 y42.Tier, U8 y42.Half]) tf_size_98 rfl rfl rfl rfl rfl rfl rfl rfl) ?_
     refine G9 (hK46 _ _ ?_)
     refine Gq [(1, LS 9 Box.av boxes), (2, LS 4 Gb.av l), (3, .dptr (Ship.cs s)), (7, LS 3 Slot.av r7), (9, .dptr (Gb.cs y10)), (13, .dptr (Slot.cs y42)), (20, LS 4 Gb.av l), (21, G2 (l.length : Int)), (22, G2 (i10 : Int)), (69, LS 3 Slot.av (r7.take m25)), (70, G2 ((r7.take m25).length : Int)), (71, G2 (i42 : Int))] [] 1090 rfl rfl rfl trivial rfl (by repeat' (first | exact .ptr | constructor)) ?_
     refine G6 fun K47 hK47 => G3 ?_
     refine G1 (u := .dptr (Slot.cs y10.Slot)) (Gd Jm rfl rfl rfl) ?_
     refine G1 (u := .agg (Slot.cs y10.Slot)) (Gf Jn rfl rfl rfl) ?_
     refine G1 (u := .agg (Slot.cs y42)) (Gf Jn rfl rfl rfl) ?_
     obtain ⟨r48, hr48, h⟩ := Gg h
     refine G1 (u := BL r48) (Gu (args := [.agg (Slot.cs y10.Slot), .agg (Slot.cs y42)]) rfl (M_slot_Meet_w y10.Slot y42 r48 hr48) tf_call_52 ⟨rfl, rfl, rfl, rfl, trivial⟩) ?_
     refine G9 (hK47 _ _ ?_)
     refine Gm rfl (fun hb => ?_) (fun hb => ?_)
     ·
      replace h := bif_t hb h
      refine G6 fun K49 hK49 => G3 ?_
      refine G1 (u := BL false) (Ga rfl rfl) ?_
      refine G9 (hK49 _ _ ?_)
      refine Gt ?_
      exact ⟨[BL false], [], trivial, rfl, ⟨⟨_, rfl, .conv (.same rfl)⟩, trivial⟩, rfl, congrArg (fun r : Bool => (BL r : AV)) (Option.some.inj h)⟩
     ·
      replace h := bif_f hb h
      refine Gp ?_
      refine hK45 _ _ ?_
      refine G3 ?_
      refine G1 (u := G2 ((i42 + 1 : Nat) : Int)) (H7 (idx_succ hk42 hm70) rfl rfl rfl) ?_
      refine G1 (u := G2 ((i42 + 1 : Nat) : Int)) (G5 rfl rfl) ?_
      refine G9 ?_
      exact e42 _ _ (i42 + 1) () (app1 hn42 h) (by omega) ⟨(by repeat' constructor), trivial, rfl⟩
    ·
     have h := app1 hkx42 (Hd hi42 (H3 hb))
     refine H4 ?_
     refine hK13 _ _ ?_
     refine G3 ?_
     refine G1 (u := G2 ((i10 + 1 : Nat) : Int)) (H7 (idx_succ hk10 hm21) rfl rfl rfl) ?_
     refine G1 (u := G2 ((i10 + 1 : Nat) : Int)) (G5 rfl rfl) ?_
     refine G9 ?_
     exact e10 _ _ (i10 + 1) () (app1 hn10 h) (by omega) ⟨(by repeat' constructor), trivial, rfl⟩
  ·
   have h := app1 hkx10 (Hd hi10 (H3 hb))
   refine H4 ?_
   refine hK8 _ _ ?_
   refine G6 (fun K50 hK50 => ?_)
   refine G6 fun K51 hK51 => G3 ?_
   refine G1 (u := .dptr (Ship.cs s)) (Gd Hb rfl rfl rfl) ?_
   refine G1 (u := LS 12 G8.av s.Columns) (Gn Hm rfl rfl rfl) ?_
   refine H9 (f := G8.av) (xs := s.Columns) Ha rfl rfl (fun hm83 => ?_) rfl rfl rfl
   refine G1 (u := G2 0) (G5 rfl rfl) ?_
   refine G9 (hK51 _ _ ?_)
   refine Gk ?_
   obtain ⟨b64, kx64, hb64, hkx64, h⟩ := Hj h
   refine H2 (fun i64 (s64 : Unit) => each b64 kx64 (List.drop i64 s.Columns) i64 s64 = some r) (fun i64 s64 => [(1, LS 9 Box.av boxes), (2, LS 4 Gb.av l), (3, .dptr (Ship.cs s)), (83, G2 (s.Columns.length : Int)), (84, G2 (i64 : Int))]) (fun i64 s64 => []) (fun i64 => s.Columns.length - i64) 0 () h ⟨(by repeat' constructor), trivial, rfl⟩ ?_
   clear h
   intro i64 s64 hi64 K64 e64
   refine G6 fun K65 hK65 => G3 ?_
   refine G1 (u := BL (decide ((i64 : Int) < (s.Columns.length : Int)))) (Hg rfl rfl rfl) ?_
   refine G9 (hK65 _ _ ?_)
   refine G6 (fun K66 hK66 => ?_)
   refine Gm rfl (fun hb => ?_) (fun hb => ?_)
   ·
    have hk64 := lt_len hb
    obtain ⟨y64, nx64, hy64, hn64, h⟩ := Hc hi64 hk64
    replace h := app4 hb64 h
    refine Gp ?_
    refine hK66 _ _ ?_
    refine G6 (fun K67 hK67 => ?_)
    refine Gk ?_
    refine G6 fun K68 hK68 => G3 ?_
    refine G1 (u := G2 (i64 : Int)) (G5 rfl rfl) ?_
    refine G1 (u := G2 (i64 : Int)) (Ga rfl rfl) ?_
    refine G9 (hK68 _ _ ?_)
    refine G6 fun K69 hK69 => G3 ?_
    refine G1 (u := .agg (Ship.cs s)) (Gf Hh rfl rfl rfl) ?_
    refine G1 (u := LS 9 Box.av boxes) (G5 rfl rfl) ?_
    refine G1 (u := LS 4 Gb.av l) (G5 rfl rfl) ?_
    refine G1 (u := G2 (i64 : Int)) (G5 rfl rfl) ?_
    obtain ⟨r70, hr70, h⟩ := Gg h
    refine G1 (u := BL r70) (Gu (args := [.agg (Ship.cs s), LS 9 Box.av boxes, LS 4 Gb.av l, G2 (i64 : Int)]) rfl (M_stow_fits_w s boxes l (i64 : Int) r70 hr70) tf_call_53 ⟨rfl, rfl, rfl, rfl, rfl, rfl, rfl, rfl, trivial⟩) ?_
    refine G1 (u := BL (!r70)) (A_not (b := r70) rfl rfl) ?_
    refine G9 (hK69 _ _ ?_)
    refine Gm rfl (fun hb => ?_) (fun hb => ?_)
    ·
     replace h := bif_t hb h
     refine G6 fun K71 hK71 => G3 ?_
     refine G1 (u := BL false) (Ga rfl rfl) ?_
     refine G9 (hK71 _ _ ?_)
     refine Gt ?_
     exact ⟨[BL false], [], trivial, rfl, ⟨⟨_, rfl, .conv (.same rfl)⟩, trivial⟩, rfl, congrArg (fun r : Bool => (BL r : AV)) (Option.some.inj h)⟩
    ·
     replace h := bif_f hb h
     refine Gp ?_
     refine hK67 _ _ ?_
     refine G3 ?_
     refine G1 (u := G2 ((i64 + 1 : Nat) : Int)) (H7 (idx_succ hk64 hm83) rfl rfl rfl) ?_
     refine G1 (u := G2 ((i64 + 1 : Nat) : Int)) (G5 rfl rfl) ?_
     refine G9 ?_
     exact e64 _ _ (i64 + 1) () (app1 hn64 h) (by omega) ⟨(by repeat' constructor), trivial, rfl⟩
   ·
    have h := app1 hkx64 (Hd hi64 (H3 hb))
    refine H4 ?_
    refine hK50 _ _ ?_
    refine G6 fun K72 hK72 => G3 ?_
    refine G1 (u := BL true) (Ga rfl rfl) ?_
    refine G9 (hK72 _ _ ?_)
    refine Gt ?_
    exact ⟨[BL true], [], trivial, rfl, ⟨⟨_, rfl, .conv (.same rfl)⟩, trivial⟩, rfl, congrArg (fun r : Bool => (BL r : AV)) (Option.some.inj h)⟩

def M_twistlocklaw23_holds (l : List Gb) (id_ : Int) : Option Bool :=
 each (fun y18 i18 (s18 : Unit) nx18 =>
  bif decide (y18.Box = id_) then
  (some true)
  else
  (nx18 ()))
 (fun (s18 : Unit) =>
  some false) l 0 ()
theorem M_twistlocklaw23_holds_w (l : List Gb) (id_ : Int) (r : Bool) (h : M_twistlocklaw23_holds l id_ = some r) : Pure Try.prog 30 [LS 4 Gb.av l, G2 id_] (· = BL r) := by
 unfold M_twistlocklaw23_holds at h
 refine H0 [.tmp 4] Try.func30 rfl rfl ?_
 refine G6 fun K1 hK1 => G3 ?_
 refine G1 (u := BL false) (Ga rfl rfl) ?_
 refine G9 (hK1 _ _ ?_)
 refine G6 (fun K2 hK2 => ?_)
 refine G6 fun K3 hK3 => G3 ?_
 refine G1 (u := LS 4 Gb.av l) (G5 rfl rfl) ?_
 refine H9 (f := Gb.av) (xs := l) Hq rfl rfl (fun hm8 => ?_) rfl rfl rfl
 refine G1 (u := G2 0) (G5 rfl rfl) ?_
 refine G9 (hK3 _ _ ?_)
 refine Gk ?_
 obtain ⟨b18, kx18, hb18, hkx18, h⟩ := Hj h
 refine H2 (fun i18 (s18 : Unit) => each b18 kx18 (List.drop i18 l) i18 s18 = some r) (fun i18 s18 => [(1, G2 id_), (7, LS 4 Gb.av l), (8, G2 (l.length : Int)), (9, G2 (i18 : Int))]) (fun i18 s18 => []) (fun i18 => l.length - i18) 0 () h ⟨(by repeat' constructor), trivial, rfl⟩ ?_
 clear h
 intro i18 s18 hi18 K18 e18
 refine G6 fun K19 hK19 => G3 ?_
 refine G1 (u := BL (decide ((i18 : Int) < (l.length : Int)))) (Hg rfl rfl rfl) ?_
 refine G9 (hK19 _ _ ?_)
 refine G6 (fun K20 hK20 => ?_)
 refine Gm rfl (fun hb => ?_) (fun hb => ?_)
 ·
  have hk18 := lt_len hb
  obtain ⟨y18, nx18, hy18, hn18, h⟩ := Hc hi18 hk18
  replace h := app4 hb18 h
  refine Gp ?_
  refine hK20 _ _ ?_
  refine G6 (fun K21 hK21 => ?_)
  refine Gk ?_
  refine G6 fun K22 hK22 => G3 ?_
  refine G1 (u := .dptr (Gb.cs y18)) (Gw (f := Gb.av) (xs := l) (y := y18) rfl rfl rfl Hq hy18 rfl) ?_
  refine G1 (u := .agg (Gb.cs y18)) (Gf tf_agg_102 rfl rfl rfl) ?_
  refine G1 (u := .ptr 1091 0) (H8 1091 4 Ji rfl rfl) ?_
  refine H6 (u := .junk) (Gz (u := .agg (Gb.cs y18)) (ds := [G2 y18.Box, G2 y18.Slot.G8, G2 y18.Slot.Tier, U8 y18.Slot.Half]) tf_size_102 rfl rfl rfl rfl rfl rfl rfl rfl) ?_
  refine G9 (hK22 _ _ ?_)
  refine Gq [(1, G2 id_), (6, .dptr (Gb.cs y18)), (7, LS 4 Gb.av l), (8, G2 (l.length : Int)), (9, G2 (i18 : Int))] [] 1091 rfl rfl rfl trivial rfl (by repeat' (first | exact .ptr | constructor)) ?_
  refine G6 fun K23 hK23 => G3 ?_
  refine G1 (u := .dptr (Gb.cs y18)) (Gd Ja rfl rfl rfl) ?_
  refine G1 (u := G2 y18.Box) (Gn Gc rfl rfl rfl) ?_
  refine G1 (u := G2 id_) (G5 rfl rfl) ?_
  refine G1 (u := BL (decide (y18.Box = id_))) (Jb rfl rfl rfl) ?_
  refine G9 (hK23 _ _ ?_)
  refine Gm rfl (fun hb => ?_) (fun hb => ?_)
  ·
   replace h := bif_t hb h
   refine G6 fun K24 hK24 => G3 ?_
   refine G1 (u := BL true) (Ga rfl rfl) ?_
   refine G9 (hK24 _ _ ?_)
   refine Gt ?_
   exact ⟨[BL true], [], trivial, rfl, ⟨⟨_, rfl, .conv (.same rfl)⟩, trivial⟩, rfl, congrArg (fun r : Bool => (BL r : AV)) (Option.some.inj h)⟩
  ·
   replace h := bif_f hb h
   refine Gp ?_
   refine hK21 _ _ ?_
   refine G3 ?_
   refine G1 (u := G2 ((i18 + 1 : Nat) : Int)) (H7 (idx_succ hk18 hm8) rfl rfl rfl) ?_
   refine G1 (u := G2 ((i18 + 1 : Nat) : Int)) (G5 rfl rfl) ?_
   refine G9 ?_
   exact e18 _ _ (i18 + 1) () (app1 hn18 h) (by omega) ⟨(by repeat' constructor), trivial, rfl⟩
 ·
  have h := app1 hkx18 (Hd hi18 (H3 hb))
  refine H4 ?_
  refine hK2 _ _ ?_
  refine G6 fun K25 hK25 => G3 ?_
  refine G1 (u := BL false) (Ga rfl rfl) ?_
  refine G9 (hK25 _ _ ?_)
  refine Gt ?_
  exact ⟨[BL false], [], trivial, rfl, ⟨⟨_, rfl, .conv (.same rfl)⟩, trivial⟩, rfl, congrArg (fun r : Bool => (BL r : AV)) (Option.some.inj h)⟩

def M_slot_slots (s : Ship) (size : Int) : Option Unit :=
 some ()
theorem M_slot_slots_w (s : Ship) (size : Int) (r : Unit) (h : M_slot_slots s size = some r) : Pure Try.prog 54 [.agg (Ship.cs s), U8 size] (· = .fn 70 [.dptr (Ship.cs s), .dptr [U8 size]]) := by
 unfold M_slot_slots at h
 refine H0 [.tmp 4] Try.func54 rfl rfl ?_
 refine G6 fun K1 hK1 => G3 ?_
 refine G1 (u := .ptr 1127 0) (J2 (u := .agg (Ship.cs s)) (cs := (Ship.cs s)) 1127 rfl rfl rfl rfl rfl) ?_
 refine G1 (u := .ptr 1128 0) (J2 (u := U8 size) (cs := [U8 size]) 1128 rfl rfl rfl rfl rfl) ?_
 refine G1 (u := .sc .nilFunc) (Ga rfl rfl) ?_
 refine G9 (hK1 _ _ ?_)
 refine Gq [(2, .dptr (Ship.cs s)), (3, .ptr 1128 0)] [(1128, .box 5 [U8 size])] 1127 rfl rfl rfl ⟨⟨_, rfl, .boxEq rfl rfl⟩, trivial⟩ rfl (by exact ⟨.ptr, .conv (.same rfl), trivial⟩) ?_
 refine Gq [(2, .dptr (Ship.cs s)), (3, .dptr [U8 size])] [] 1128 rfl rfl rfl trivial rfl (by exact ⟨.conv (.same rfl), .ptr, trivial⟩) ?_
 refine G6 fun K2 hK2 => G3 ?_
 refine G1 (u := .fn 70 [.dptr (Ship.cs s), .dptr [U8 size]]) (A_makeFunc (cs := [.dptr (Ship.cs s), .dptr [U8 size]]) rfl rfl) ?_
 refine G1 (u := .fn 70 [.dptr (Ship.cs s), .dptr [U8 size]]) (Ga rfl rfl) ?_
 refine G9 (hK2 _ _ ?_)
 refine Gt ?_
 exact ⟨[.fn 70 [.dptr (Ship.cs s), .dptr [U8 size]]], [], trivial, rfl, ⟨⟨_, rfl, .conv (.same rfl)⟩, trivial⟩, rfl, congrArg (fun _ : Unit => (.fn 70 [.dptr (Ship.cs s), .dptr [U8 size]] : AV)) (Option.some.inj h)⟩

def M_slot_All (s : Ship) (size : Int) : Option (List Slot) :=
 bnd (M_slot_slots s size) fun r5 =>
 bnd (S_slot_slots_1 s size) fun ys8 =>
 each (fun y8 i8 (s8 : (List Slot)) nx8 =>
  need (decide ((s8.length + [y8].length) * 24 ≤ 140737488355328 ∧ s8.length + [y8].length ≤ maxLen)) <|
  nx8 (s8 ++ [y8]))
 (fun (s8 : (List Slot)) =>
  some s8) ys8 0 []
theorem M_slot_All_w (s : Ship) (size : Int) (r : (List Slot)) (h : M_slot_All s size = some r) : Pure Try.prog 31 [.agg (Ship.cs s), U8 size] (· = LS 3 Slot.av r) := by
 unfold M_slot_All at h
 refine H0 [.tmp 4] Try.func31 rfl rfl ?_
 refine G6 fun K1 hK1 => G3 ?_
 refine G1 (u := .ptr 1092 0) (J2 (u := .agg (Ship.cs s)) (cs := (Ship.cs s)) 1092 rfl rfl rfl rfl rfl) ?_
 refine G1 (u := LS 3 Slot.av ([] : List Slot)) (J4 3 rfl rfl) ?_
 refine G9 (hK1 _ _ ?_)
 refine Gq [(1, U8 size), (2, .dptr (Ship.cs s))] [] 1092 rfl rfl rfl trivial rfl (by exact ⟨.conv (.same rfl), .ptr, trivial⟩) ?_
 refine G6 fun K2 hK2 => G3 ?_
 refine G1 (u := .ptr 1093 0) (A_allocZ 1093 [.sc (.slice none 0 0)] [.slice none 0 0] tf_zero_105 ⟨.inl rfl, trivial⟩ rfl rfl) ?_
 refine JL_ownCell 1093 0 1095 98 3 rfl rfl rfl (cs' := [OW 1095 3 Slot.av ([] : List Slot)]) rfl ?_
 refine G9 (hK2 _ _ ?_)
 refine G6 (fun K3 hK3 => ?_)
 refine G6 fun K4 hK4 => G3 ?_
 refine G1 (u := .agg (Ship.cs s)) (Gf Hh rfl rfl rfl) ?_
 refine G1 (u := U8 size) (G5 rfl rfl) ?_
 obtain ⟨r5, hr5, h⟩ := Gg h
 refine G1 (u := .fn 70 [.dptr (Ship.cs s), .dptr [U8 size]]) (Gu (args := [.agg (Ship.cs s), U8 size]) rfl (M_slot_slots_w s size r5 hr5) tf_call_54 ⟨rfl, rfl, rfl, rfl, trivial⟩) ?_
 refine G9 (hK4 _ _ ?_)
 refine Gk ?_
 obtain ⟨ys8, hy_8, h⟩ := Gg h
 obtain ⟨b8, kx8, hb8, hkx8, h⟩ := Hj h
 refine JC_rangeFunc (ps := [10]) [(5, .ptr 1093 0), (9, .fn 70 [.dptr (Ship.cs s), .dptr [U8 size]])] (ys8.map (fun y : Slot => [.agg [G2 y.G8, G2 y.Tier, U8 y.Half]])) (fun i8 (s8 : (List Slot)) => each b8 kx8 (List.drop i8 ys8) i8 s8 = some r) (fun s8 => [(1095, .spare 98 3 s8.length s8.length), (1093, .box 105 [OW 1095 3 Slot.av s8])]) [] rfl rfl rfl tf_call_70 (S_slot_slots_1_w.down s size ys8 hy_8) h ⟨⟨.same rfl, .same rfl, trivial⟩, ⟨⟨_, rfl, .same⟩, ⟨_, rfl, .boxL rfl ⟨.same rfl, trivial⟩⟩, trivial⟩, rfl⟩ rfl (fun us_ hus_ => by obtain ⟨_, _, rfl⟩ := List.mem_map.1 hus_; rfl) (fun p_ hp_ => Nat.blt_eq.mp (by revert p_; decide)) (fun _ => ⟨.same rfl, .same rfl, trivial⟩) (fun _ => rfl) ?_ ?_
 ·
  intro i8 us_ s8 hu_ hi8 lr_ K8 e8
  obtain ⟨hk8, rfl⟩ := mapf_at hu_
  obtain ⟨y8, nx8, hy8, hn8, h⟩ := Hc hi8 hk8
  replace h := app4 hb8 h
  obtain ⟨_, rfl⟩ := List.getElem?_eq_some_iff.1 hy8
  generalize ys8[i8] = y8 at h ⊢
  change JC _ _ _ _ [(10, .agg [G2 y8.G8, G2 y8.Tier, U8 y8.Half]), (5, .ptr 1093 0), (9, .fn 70 [.dptr (Ship.cs s), .dptr [U8 size]])] [(1095, .spare 98 3 s8.length s8.length), (1093, .box 105 [OW 1095 3 Slot.av s8])]
  refine G3 ?_
  refine G1 (u := .ptr 1094 0) (H8 1094 3 tf_zsize_98 rfl rfl) ?_
  refine H6 (u := .junk) (Gz (u := .agg [G2 y8.G8, G2 y8.Tier, U8 y8.Half]) (ds := [G2 y8.G8, G2 y8.Tier, U8 y8.Half]) tf_size_98 rfl rfl rfl rfl rfl rfl rfl rfl) ?_
  refine G9 ?_
  refine Mid_freeze [(5, .ptr 1093 0), (6, .dptr [G2 y8.G8, G2 y8.Tier, U8 y8.Half])] [(1095, .spare 98 3 s8.length s8.length), (1093, .box 105 [OW 1095 3 Slot.av s8])] 1094 rfl rfl rfl ⟨⟨_, rfl, .same⟩, ⟨_, rfl, .boxEq rfl rfl⟩, trivial⟩ rfl (by exact ⟨.conv (.same rfl), .ptr, trivial⟩) ?_
  refine Mid_go ?_
  refine Gk ?_
  refine G3 ?_
  refine G1 (u := OW 1095 3 Slot.av s8) (J5 tf_scalar_105 rfl rfl rfl rfl) ?_
  refine G1 (u := .agg [G2 y8.G8, G2 y8.Tier, U8 y8.Half]) (Gf Jn rfl rfl rfl) ?_
  refine G1 (u := LS 3 Slot.av [y8]) (H1 (xs := [.agg [G2 y8.G8, G2 y8.Tier, U8 y8.Half]]) rfl ⟨rfl, rfl, trivial⟩ Jg tf_zsize_98 rfl rfl rfl rfl) ?_
  obtain ⟨ha9, h⟩ := He h
  refine G1 (u := OW 1095 3 Slot.av (s8 ++ [y8])) (Hs (f := Slot.av) (xs := s8) (ys := [y8]) rfl rfl rfl rfl Jg tf_elem_98 ha9 (fun _ => rfl) (.inl rfl) rfl) ?_
  refine H6 (u := .junk) (Gz (u := OW 1095 3 Slot.av (s8 ++ [y8])) (ds := [OW 1095 3 Slot.av (s8 ++ [y8])]) tf_size_105 rfl rfl rfl rfl rfl rfl rfl rfl) ?_
  refine G9 ?_
  exact e8 _ _ (s8 ++ [y8]) (app1 hn8 h) ⟨trivial, ⟨⟨_, rfl, .same⟩, ⟨_, rfl, .boxL rfl ⟨.same rfl, trivial⟩⟩, trivial⟩, rfl⟩
 ·
  intro s8 h
  rw [List.length_map] at h
  replace h := app1 hkx8 (Hd h (Nat.lt_irrefl _))
  refine hK3 _ _ ?_
  refine G6 fun K10 hK10 => G3 ?_
  refine G1 (u := OW 1095 3 Slot.av s8) (J5 tf_scalar_105 rfl rfl rfl rfl) ?_
  refine G1 (u := OW 1095 3 Slot.av s8) (Ga rfl rfl) ?_
  refine G9 (hK10 _ _ ?_)
  refine J3 (l' := [(4, LS 3 Slot.av s8)]) (L' := [(1093, .box 105 [LS 3 Slot.av s8])]) ⟨⟨.list rfl, trivial⟩, ⟨⟨_, rfl, .boxL rfl ⟨.list rfl, trivial⟩⟩, trivial⟩, rfl⟩ ?_
  refine Gq [(4, LS 3 Slot.av s8)] [] 1093 rfl rfl rfl trivial rfl (by exact ⟨.conv (.same rfl), trivial⟩) ?_
  refine Gt ?_
  exact ⟨[LS 3 Slot.av s8], [], trivial, rfl, ⟨⟨_, rfl, .conv (.same rfl)⟩, trivial⟩, rfl, congrArg (fun r : (List Slot) => (LS 3 Slot.av r : AV)) (Option.some.inj h)⟩
end
end Go.Proofs.Ytlhfflmknlfafaa
