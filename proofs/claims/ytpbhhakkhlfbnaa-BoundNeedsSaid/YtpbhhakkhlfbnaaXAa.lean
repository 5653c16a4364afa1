/-
  Models of functions of the program, and that they return what the models say.
-/
import Derived.Test.YtpbhhakkhlfbnaaProg
import Derived.Test.YtpbhhakkhlfbnaaSortM
import Derived.Test.YtpbhhakkhlfbnaaSortLay
import Derived.Test.YtpbhhakkhlfbnaaRel
set_option maxRecDepth 100000
set_option linter.unusedVariables false
set_option linter.unusedSimpArgs false
namespace Go.Proofs.Ytpbhhakkhlfbnaa
open Go.RowKit
noncomputable section
structure Column where
  Bay : Int
  Row : Int
  Deck : Bool
  Tiers : Int
  Height : Int
  Kilos20 : Int
  Kilos40 : Int
  Lash : Int
  Plugs : List Int
  X : Int
  Y : Int
  Z : Int
  deriving DecidableEq, Inhabited
def Column.cs (x : Column) : List AV := [I64 x.Bay, I64 x.Row, BL x.Deck, I64 x.Tiers, I64 x.Height, I64 x.Kilos20, I64 x.Kilos40, I64 x.Lash, LS 1 I64 x.Plugs, I64 x.X, I64 x.Y, I64 x.Z]
def Column.av (x : Column) : AV := .agg x.cs
structure Cover where
  Bay : Int
  Rows : List Int
  deriving DecidableEq, Inhabited
def Cover.cs (x : Cover) : List AV := [I64 x.Bay, LS 1 I64 x.Rows]
def Cover.av (x : Cover) : AV := .agg x.cs
structure Row where
  Draught : Int
  Kilos : Int
  Buoy : Int
  Metacentre : Int
  Turn : Int
  deriving DecidableEq, Inhabited
def Row.cs (x : Row) : List AV := [I64 x.Draught, I64 x.Kilos, I64 x.Buoy, I64 x.Metacentre, I64 x.Turn]
def Row.av (x : Row) : AV := .agg x.cs
structure Frame where
  X : Int
  Light : Int
  Share : Int
  Shear : Int
  Bend : Int
  deriving DecidableEq, Inhabited
def Frame.cs (x : Frame) : List AV := [I64 x.X, I64 x.Light, I64 x.Share, I64 x.Shear, I64 x.Bend]
def Frame.av (x : Frame) : AV := .agg x.cs
structure Tank where
  Kilos : Int
  X : Int
  Y : Int
  Z : Int
  Surface : Int
  Steps : List Int
  deriving DecidableEq, Inhabited
def Tank.cs (x : Tank) : List AV := [I64 x.Kilos, I64 x.X, I64 x.Y, I64 x.Z, I64 x.Surface, LS 1 I64 x.Steps]
def Tank.av (x : Tank) : AV := .agg x.cs
structure Light where
  Kilos : Int
  X : Int
  Y : Int
  Z : Int
  deriving DecidableEq, Inhabited
def Light.cs (x : Light) : List AV := [I64 x.Kilos, I64 x.X, I64 x.Y, I64 x.Z]
def Light.av (x : Light) : AV := .agg x.cs
structure Limits where
  Tolerance : Int
  Trim : Int
  List_ : Int
  Stability : Int
  deriving DecidableEq, Inhabited
def Limits.cs (x : Limits) : List AV := [I64 x.Tolerance, I64 x.Trim, I64 x.List_, I64 x.Stability]
def Limits.av (x : Limits) : AV := .agg x.cs
structure Ship where
  Columns : List Column
  Covers : List Cover
  Light : Light
  Rows : List Row
  Frames : List Frame
  Tanks : List Tank
  Limits : Limits
  deriving DecidableEq, Inhabited
def Ship.cs (x : Ship) : List AV := [LS 12 Column.av x.Columns, LS 2 Cover.av x.Covers, I64 x.Light.Kilos, I64 x.Light.X, I64 x.Light.Y, I64 x.Light.Z, LS 5 Row.av x.Rows, LS 5 Frame.av x.Frames, LS 6 Tank.av x.Tanks, I64 x.Limits.Tolerance, I64 x.Limits.Trim, I64 x.Limits.List_, I64 x.Limits.Stability]
def Ship.av (x : Ship) : AV := .agg x.cs
structure ship_span where
  n : Int
  low : Int
  high : Int
  deriving DecidableEq, Inhabited
def ship_span.cs (x : ship_span) : List AV := [I64 x.n, I64 x.low, I64 x.high]
def ship_span.av (x : ship_span) : AV := .agg x.cs
structure Arr3Int where
  e0 : Int
  e1 : Int
  e2 : Int
  deriving DecidableEq, Inhabited
def Arr3Int.cs (x : Arr3Int) : List AV := [I64 x.e0, I64 x.e1, I64 x.e2]
def Arr3Int.av (x : Arr3Int) : AV := .agg x.cs
def Arr3Int.ks (x : Arr3Int) : List Value := [.int .i64 x.e0, .int .i64 x.e1, .int .i64 x.e2]
def Arr3Int.kv (x : Arr3Int) : Value := .agg x.ks.toArray
structure Box where
  ID : Int
  Number : ByteArray
  Size : Int
  High : Bool
  Kilos : Int
  Load : Int
  Discharge : Int
  Class : Int
  Reefer : Bool
  deriving DecidableEq, Inhabited
def Box.cs (x : Box) : List AV := [I64 x.ID, ST x.Number, U8 x.Size, BL x.High, I64 x.Kilos, I64 x.Load, I64 x.Discharge, U8 x.Class, BL x.Reefer]
def Box.av (x : Box) : AV := .agg x.cs
structure Group where
  Load : Int
  Discharge : Int
  deriving DecidableEq, Inhabited
def Group.cs (x : Group) : List AV := [I64 x.Load, I64 x.Discharge]
def Group.av (x : Group) : AV := .agg x.cs
structure bound_Count where
  Group : Group
  Whole : Int
  Half : Int
  deriving DecidableEq, Inhabited
def bound_Count.cs (x : bound_Count) : List AV := [I64 x.Group.Load, I64 x.Group.Discharge, I64 x.Whole, I64 x.Half]
def bound_Count.av (x : bound_Count) : AV := .agg x.cs
def Group.ks (x : Group) : List Value := [.int .i64 x.Load, .int .i64 x.Discharge]
def Group.kv (x : Group) : Value := .agg x.ks.toArray
def bound_Count.vs (x : bound_Count) : List Value := [.int .i64 x.Group.Load, .int .i64 x.Group.Discharge, .int .i64 x.Whole, .int .i64 x.Half]
namespace XAF
theorem tq_24 (a b : Group) : eqAt Try.prog 4 24 [.int .i64 a.Load, .int .i64 a.Discharge] [.int .i64 b.Load, .int .i64 b.Discharge] = some (decide (a = b)) := by
  refine (show _ = some ((a.Load == b.Load) && ((a.Discharge == b.Discharge) && true)) by kernel_rfl).trans (congrArg some ?_)
  rw [Bool.eq_iff_iff]
  simp only [Bool.and_eq_true, beq_iff_eq, decide_eq_true_eq, Bool.and_true]
  constructor
  · intro h; obtain ⟨_, _⟩ := a; obtain ⟨_, _⟩ := b; simp_all
  · intro h; subst h; simp
theorem tq_97 (a b : Arr3Int) : eqAt Try.prog 4 97 [.int .i64 a.e0, .int .i64 a.e1, .int .i64 a.e2] [.int .i64 b.e0, .int .i64 b.e1, .int .i64 b.e2] = some (decide (a = b)) := by
  refine (show _ = some ((a.e0 == b.e0) && ((a.e1 == b.e1) && ((a.e2 == b.e2) && true))) by kernel_rfl).trans (congrArg some ?_)
  rw [Bool.eq_iff_iff]
  simp only [Bool.and_eq_true, beq_iff_eq, decide_eq_true_eq, Bool.and_true]
  constructor
  · intro h; obtain ⟨_, _, _⟩ := a; obtain ⟨_, _, _⟩ := b; simp_all
  · intro h; subst h; simp
theorem tf_agg_120 : aggB Try.prog 120 3 = true := by kernel_rfl
theorem tf_agg_24 : aggB Try.prog 24 2 = true := by kernel_rfl
theorem tf_agg_29 : aggB Try.prog 29 4 = true := by kernel_rfl
theorem tf_agg_31 : aggB Try.prog 31 9 = true := by kernel_rfl
theorem tf_agg_47 : aggB Try.prog 47 13 = true := by kernel_rfl
theorem tf_agg_54 : aggB Try.prog 54 12 = true := by kernel_rfl
theorem tf_agg_73 : aggB Try.prog 73 2 = true := by kernel_rfl
theorem tf_aggof_24 : aggOf Try.prog 24 = true := by kernel_rfl
theorem tf_arr_97 : arrB Try.prog 97 3 1 = true := by kernel_rfl
theorem tf_call_11 : callB Try.prog 11 = true := by kernel_rfl
theorem tf_call_15 : callB Try.prog 15 = true := by kernel_rfl
theorem tf_call_16 : callB Try.prog 16 = true := by kernel_rfl
theorem tf_call_17 : callB Try.prog 17 = true := by kernel_rfl
theorem tf_call_20 : callB Try.prog 20 = true := by kernel_rfl
theorem tf_call_24 : callB Try.prog 24 = true := by kernel_rfl
theorem tf_call_30 : callB Try.prog 30 = true := by kernel_rfl
theorem tf_call_33 : callB Try.prog 33 = true := by kernel_rfl
theorem tf_call_34 : callB Try.prog 34 = true := by kernel_rfl
theorem tf_call_37 : callB Try.prog 37 = true := by kernel_rfl
theorem tf_call_39 : callB Try.prog 39 = true := by kernel_rfl
theorem tf_call_40 : callB Try.prog 40 = true := by kernel_rfl
theorem tf_call_41 : callB Try.prog 41 = true := by kernel_rfl
theorem tf_call_42 : callB Try.prog 42 = true := by kernel_rfl
theorem tf_call_43 : callB Try.prog 43 = true := by kernel_rfl
theorem tf_call_44 : callB Try.prog 44 = true := by kernel_rfl
theorem tf_call_45 : callB Try.prog 45 = true := by kernel_rfl
theorem tf_call_46 : callB Try.prog 46 = true := by kernel_rfl
theorem tf_call_47 : callB Try.prog 47 = true := by kernel_rfl
theorem tf_call_58 : callB Try.prog 58 = true := by kernel_rfl
theorem tf_call_59 : callB Try.prog 59 = true := by kernel_rfl
theorem tf_call_60 : callB Try.prog 60 = true := by kernel_rfl
theorem tf_call_61 : callB Try.prog 61 = true := by kernel_rfl
theorem tf_call_68 : callB Try.prog 68 = true := by kernel_rfl
theorem tf_call_7 : callB Try.prog 7 = true := by kernel_rfl
theorem tf_elem_29 : elemB Try.prog 29 4 32 = true := by kernel_rfl
theorem tf_elem_3 : elemB Try.prog 3 1 8 = true := by kernel_rfl
theorem tf_elem_54 : elemB Try.prog 54 12 112 = true := by kernel_rfl
theorem tf_eqg_24 : Try.prog.eqGuardType Try.prog.depth 24 = false := by kernel_rfl
theorem tf_field_120_0 : fieldB Try.prog 120 0 0 = true := by kernel_rfl
theorem tf_field_120_1 : fieldB Try.prog 120 1 1 = true := by kernel_rfl
theorem tf_field_120_2 : fieldB Try.prog 120 2 2 = true := by kernel_rfl
theorem tf_field_24_0 : fieldB Try.prog 24 0 0 = true := by kernel_rfl
theorem tf_field_24_1 : fieldB Try.prog 24 1 1 = true := by kernel_rfl
theorem tf_field_29_0 : fieldB Try.prog 29 0 0 = true := by kernel_rfl
theorem tf_field_29_1 : fieldB Try.prog 29 1 2 = true := by kernel_rfl
theorem tf_field_29_2 : fieldB Try.prog 29 2 3 = true := by kernel_rfl
theorem tf_field_31_0 : fieldB Try.prog 31 0 0 = true := by kernel_rfl
theorem tf_field_31_2 : fieldB Try.prog 31 2 2 = true := by kernel_rfl
theorem tf_field_31_3 : fieldB Try.prog 31 3 3 = true := by kernel_rfl
theorem tf_field_31_5 : fieldB Try.prog 31 5 5 = true := by kernel_rfl
theorem tf_field_31_6 : fieldB Try.prog 31 6 6 = true := by kernel_rfl
theorem tf_field_47_0 : fieldB Try.prog 47 0 0 = true := by kernel_rfl
theorem tf_field_47_1 : fieldB Try.prog 47 1 1 = true := by kernel_rfl
theorem tf_field_54_0 : fieldB Try.prog 54 0 0 = true := by kernel_rfl
theorem tf_field_54_1 : fieldB Try.prog 54 1 1 = true := by kernel_rfl
theorem tf_field_54_10 : fieldB Try.prog 54 10 10 = true := by kernel_rfl
theorem tf_field_54_11 : fieldB Try.prog 54 11 11 = true := by kernel_rfl
theorem tf_field_54_2 : fieldB Try.prog 54 2 2 = true := by kernel_rfl
theorem tf_field_54_3 : fieldB Try.prog 54 3 3 = true := by kernel_rfl
theorem tf_field_54_4 : fieldB Try.prog 54 4 4 = true := by kernel_rfl
theorem tf_field_54_5 : fieldB Try.prog 54 5 5 = true := by kernel_rfl
theorem tf_field_54_6 : fieldB Try.prog 54 6 6 = true := by kernel_rfl
theorem tf_field_54_7 : fieldB Try.prog 54 7 7 = true := by kernel_rfl
theorem tf_field_54_8 : fieldB Try.prog 54 8 8 = true := by kernel_rfl
theorem tf_field_54_9 : fieldB Try.prog 54 9 9 = true := by kernel_rfl
theorem tf_field_73_0 : fieldB Try.prog 73 0 0 = true := by kernel_rfl
theorem tf_field_73_1 : fieldB Try.prog 73 1 1 = true := by kernel_rfl
theorem tf_int_116 : intB Try.prog 116 .u64 = true := by kernel_rfl
theorem tf_int_3 : intB Try.prog 3 .i64 = true := by kernel_rfl
theorem tf_int_35 : intB Try.prog 35 .u32 = true := by kernel_rfl
theorem tf_int_92 : intB Try.prog 92 .u64 = true := by kernel_rfl
theorem tf_map_64 : mapB Try.prog 64 24 29 = true := by kernel_rfl
theorem tf_map_96 : mapB Try.prog 96 97 3 = true := by kernel_rfl
theorem tf_mixed : Try.prog.follows .mixedOrders = true := by kernel_rfl
theorem tf_places_120 : placesOf Try.prog 120 = some [(0, 1), (1, 1), (2, 1)] := by kernel_rfl
theorem tf_places_24 : placesOf Try.prog 24 = some [(0, 1), (1, 1)] := by kernel_rfl
theorem tf_places_31 : placesOf Try.prog 31 = some [(0, 1), (1, 1), (2, 1), (3, 1), (4, 1), (5, 1), (6, 1), (7, 1), (8, 1)] := by kernel_rfl
theorem tf_places_54 : placesOf Try.prog 54 = some [(0, 1), (1, 1), (2, 1), (3, 1), (4, 1), (5, 1), (6, 1), (7, 1), (8, 1), (9, 1), (10, 1), (11, 1)] := by kernel_rfl
theorem tf_scalar_26 : scalarB Try.prog 26 = true := by kernel_rfl
theorem tf_scalar_3 : scalarB Try.prog 3 = true := by kernel_rfl
theorem tf_scalar_37 : scalarB Try.prog 37 = true := by kernel_rfl
theorem tf_scalar_38 : scalarB Try.prog 38 = true := by kernel_rfl
theorem tf_scalar_4 : scalarB Try.prog 4 = true := by kernel_rfl
theorem tf_scalar_5 : scalarB Try.prog 5 = true := by kernel_rfl
theorem tf_scalar_52 : scalarB Try.prog 52 = true := by kernel_rfl
theorem tf_scalar_56 : scalarB Try.prog 56 = true := by kernel_rfl
theorem tf_size_120 : sizeB Try.prog 120 3 = true := by kernel_rfl
theorem tf_size_24 : sizeB Try.prog 24 2 = true := by kernel_rfl
theorem tf_size_29 : sizeB Try.prog 29 4 = true := by kernel_rfl
theorem tf_size_3 : sizeB Try.prog 3 1 = true := by kernel_rfl
theorem tf_size_31 : sizeB Try.prog 31 9 = true := by kernel_rfl
theorem tf_size_37 : sizeB Try.prog 37 1 = true := by kernel_rfl
theorem tf_size_47 : sizeB Try.prog 47 13 = true := by kernel_rfl
theorem tf_size_52 : sizeB Try.prog 52 1 = true := by kernel_rfl
theorem tf_size_54 : sizeB Try.prog 54 12 = true := by kernel_rfl
theorem tf_size_73 : sizeB Try.prog 73 2 = true := by kernel_rfl
theorem tf_slice_118 : sliceB Try.prog 118 120 3 = true := by kernel_rfl
theorem tf_slice_22 : sliceB Try.prog 22 31 9 = true := by kernel_rfl
theorem tf_slice_26 : sliceB Try.prog 26 29 4 = true := by kernel_rfl
theorem tf_slice_37 : sliceB Try.prog 37 54 12 = true := by kernel_rfl
theorem tf_slice_38 : sliceB Try.prog 38 73 2 = true := by kernel_rfl
theorem tf_slice_52 : sliceB Try.prog 52 3 1 = true := by kernel_rfl
theorem tf_slice_56 : sliceB Try.prog 56 24 2 = true := by kernel_rfl
theorem tf_slice_81 : sliceB Try.prog 81 26 1 = true := by kernel_rfl
theorem tf_zero_120 : (Try.prog.info? 120).bind (fun i => i.zero.map Value.cells) = some (List.toArray [.int .i64 0, .int .i64 0, .int .i64 0]) := by kernel_rfl
theorem tf_zero_24 : (Try.prog.info? 24).bind (fun i => i.zero.map Value.cells) = some (List.toArray [.int .i64 0, .int .i64 0]) := by kernel_rfl
theorem tf_zero_3 : (Try.prog.info? 3).bind (fun i => i.zero.map Value.cells) = some (List.toArray [.int .i64 0]) := by kernel_rfl
theorem tf_zero_31 : (Try.prog.info? 31).bind (fun i => i.zero.map Value.cells) = some (List.toArray [.int .i64 0, .string ByteArray.empty, .int .u8 0, .bool false, .int .i64 0, .int .i64 0, .int .i64 0, .int .u8 0, .bool false]) := by kernel_rfl
theorem tf_zero_47 : (Try.prog.info? 47).bind (fun i => i.zero.map Value.cells) = some (List.toArray [.slice none 0 0, .slice none 0 0, .int .i64 0, .int .i64 0, .int .i64 0, .int .i64 0, .slice none 0 0, .slice none 0 0, .slice none 0 0, .int .i64 0, .int .i64 0, .int .i64 0, .int .i64 0]) := by kernel_rfl
theorem tf_zero_54 : (Try.prog.info? 54).bind (fun i => i.zero.map Value.cells) = some (List.toArray [.int .i64 0, .int .i64 0, .bool false, .int .i64 0, .int .i64 0, .int .i64 0, .int .i64 0, .int .i64 0, .slice none 0 0, .int .i64 0, .int .i64 0, .int .i64 0]) := by kernel_rfl
theorem tf_zero_97 : (Try.prog.info? 97).bind (fun i => i.zero.map Value.cells) = some (List.toArray [.int .i64 0, .int .i64 0, .int .i64 0]) := by kernel_rfl
theorem tf_zsize_120 : zsizeB Try.prog 120 3 = true := by kernel_rfl
theorem tf_zsize_24 : zsizeB Try.prog 24 2 = true := by kernel_rfl
theorem tf_zsize_29 : zsizeB Try.prog 29 4 = true := by kernel_rfl
theorem tf_zsize_3 : zsizeB Try.prog 3 1 = true := by kernel_rfl
theorem tf_zsize_31 : zsizeB Try.prog 31 9 = true := by kernel_rfl
theorem tf_zsize_52 : zsizeB Try.prog 52 1 = true := by kernel_rfl
theorem tf_zsize_54 : zsizeB Try.prog 54 12 = true := by kernel_rfl
theorem tf_zsize_73 : zsizeB Try.prog 73 2 = true := by kernel_rfl
theorem tf_zv_29 : (Try.prog.info? 29).bind (·.zero) = some (.agg #[.int .i64 0, .int .i64 0, .int .i64 0, .int .i64 0]) := by kernel_rfl
theorem tf_zv_3 : (Try.prog.info? 3).bind (·.zero) = some (.int .i64 0) := by kernel_rfl
theorem tk_24 : KeyL Try.prog 24 Group.kv := KeyL.of_eq Group.ks (by kernel_rfl) (fun a b h => by simp only [Group.ks, List.cons.injEq, Value.int.injEq, Value.bool.injEq, Value.string.injEq, true_and, and_true] at h; obtain ⟨_, _⟩ := a; obtain ⟨_, _⟩ := b; simp_all) 4 (by decide) (fun a b => tq_24 a b) (fun a => by kernel_rfl) (fun a => by simp [Instr.sameBits, Group.ks])
theorem tk_97 : KeyL Try.prog 97 Arr3Int.kv := KeyL.of_eq Arr3Int.ks (by kernel_rfl) (fun a b h => by simp only [Arr3Int.ks, List.cons.injEq, Value.int.injEq, Value.bool.injEq, Value.string.injEq, true_and, and_true] at h; obtain ⟨_, _, _⟩ := a; obtain ⟨_, _, _⟩ := b; simp_all) 4 (by decide) (fun a b => tq_97 a b) (fun a => by kernel_rfl) (fun a => by simp [Instr.sameBits, Arr3Int.ks])
end XAF
open XAF

def M_twistlocklaw27_tower (columns : Int) : Option Ship :=
  need (decide (columns ≤ 9223372036854775807)) <|
  upto (fun i21 (s21 : (List Column) × (List Cover) × Int × Int × Int × Int × (List Row) × (List Frame) × (List Tank) × Int × Int × Int × Int) nx21 =>
    need (decide ((s21.1.length + [(Column.mk 0 (i21 : Int) false 2 0 0 0 0 [] 0 0 0)].length) * 112 ≤ 140737488355328 ∧ s21.1.length + [(Column.mk 0 (i21 : Int) false 2 0 0 0 0 [] 0 0 0)].length ≤ maxLen)) <|
    nx21 ((s21.1 ++ [(Column.mk 0 (i21 : Int) false 2 0 0 0 0 [] 0 0 0)]), s21.2.1, s21.2.2.1, s21.2.2.2.1, s21.2.2.2.2.1, s21.2.2.2.2.2.1, s21.2.2.2.2.2.2.1, s21.2.2.2.2.2.2.2.1, s21.2.2.2.2.2.2.2.2.1, s21.2.2.2.2.2.2.2.2.2.1, s21.2.2.2.2.2.2.2.2.2.2.1, s21.2.2.2.2.2.2.2.2.2.2.2.1, s21.2.2.2.2.2.2.2.2.2.2.2.2))
  (fun (s21 : (List Column) × (List Cover) × Int × Int × Int × Int × (List Row) × (List Frame) × (List Tank) × Int × Int × Int × Int) =>
    some (Ship.mk s21.1 s21.2.1 (Light.mk s21.2.2.1 s21.2.2.2.1 s21.2.2.2.2.1 s21.2.2.2.2.2.1) s21.2.2.2.2.2.2.1 s21.2.2.2.2.2.2.2.1 s21.2.2.2.2.2.2.2.2.1 (Limits.mk s21.2.2.2.2.2.2.2.2.2.1 s21.2.2.2.2.2.2.2.2.2.2.1 s21.2.2.2.2.2.2.2.2.2.2.2.1 s21.2.2.2.2.2.2.2.2.2.2.2.2))) columns.toNat 0 ([], [], 0, 0, 0, 0, [], [], [], 0, 0, 0, 0)
theorem M_twistlocklaw27_tower_w (columns : Int) (r : Ship) (h : M_twistlocklaw27_tower columns = some r) : Pure Try.prog 11 [I64 columns] (· = .agg (Ship.cs r)) := by
  unfold M_twistlocklaw27_tower at h
  refine Pure_ofG [.cell 2 47] Try.func11 rfl rfl ?_
  refine JC_seq (fun K1 hK1 => ?_)
  refine JC_region ?_
  refine JL_go (u := .ptr 120000002 0) (A_allocZ 120000002 [LS 12 Column.av ([] : List Column), LS 2 Cover.av ([] : List Cover), I64 0, I64 0, I64 0, I64 0, LS 5 Row.av ([] : List Row), LS 5 Frame.av ([] : List Frame), LS 6 Tank.av ([] : List Tank), I64 0, I64 0, I64 0, I64 0] [.slice none 0 0, .slice none 0 0, .int .i64 0, .int .i64 0, .int .i64 0, .int .i64 0, .slice none 0 0, .slice none 0 0, .slice none 0 0, .int .i64 0, .int .i64 0, .int .i64 0, .int .i64 0] tf_zero_47 ⟨.inr ⟨_, rfl, rfl⟩, .inr ⟨_, rfl, rfl⟩, .inl rfl, .inl rfl, .inl rfl, .inl rfl, .inr ⟨_, rfl, rfl⟩, .inr ⟨_, rfl, rfl⟩, .inr ⟨_, rfl, rfl⟩, .inl rfl, .inl rfl, .inl rfl, .inl rfl, trivial⟩ rfl rfl) ?_ rfl rfl rfl
  refine JL_nil ?_
  refine hK1 _ _ ?_
  refine JC_seq (fun K2 hK2 => ?_)
  refine JC_region ?_
  refine JL_go (u := .ptr 120000003 0) (A_allocZ 120000003 [.sc (.slice none 0 0), LS 2 Cover.av ([] : List Cover), I64 0, I64 0, I64 0, I64 0, LS 5 Row.av ([] : List Row), LS 5 Frame.av ([] : List Frame), LS 6 Tank.av ([] : List Tank), I64 0, I64 0, I64 0, I64 0] [.slice none 0 0, .slice none 0 0, .int .i64 0, .int .i64 0, .int .i64 0, .int .i64 0, .slice none 0 0, .slice none 0 0, .slice none 0 0, .int .i64 0, .int .i64 0, .int .i64 0, .int .i64 0] tf_zero_47 ⟨.inl rfl, .inr ⟨_, rfl, rfl⟩, .inl rfl, .inl rfl, .inl rfl, .inl rfl, .inr ⟨_, rfl, rfl⟩, .inr ⟨_, rfl, rfl⟩, .inr ⟨_, rfl, rfl⟩, .inl rfl, .inl rfl, .inl rfl, .inl rfl, trivial⟩ rfl rfl) ?_ rfl rfl rfl
  refine JL_ownCell 120000003 0 120004000 54 12 rfl rfl rfl (cs' := [OW 120004000 12 Column.av ([] : List Column), LS 2 Cover.av ([] : List Cover), I64 0, I64 0, I64 0, I64 0, LS 5 Row.av ([] : List Row), LS 5 Frame.av ([] : List Frame), LS 6 Tank.av ([] : List Tank), I64 0, I64 0, I64 0, I64 0]) rfl ?_
  refine JL_nil ?_
  refine hK2 _ _ ?_
  refine JC_seq (fun K3 hK3 => ?_)
  refine JC_seq (fun K4 hK4 => ?_)
  refine JC_region ?_
  refine JL_go (u := I64 columns) (A_move rfl rfl) ?_ rfl rfl rfl
  refine JL_go (u := I64 0) (A_move rfl rfl) ?_ rfl rfl rfl
  refine JL_nil ?_
  refine hK4 _ _ ?_
  refine JC_block ?_
  obtain ⟨hx21, h⟩ := need_out h
  obtain ⟨b21, kx21, hb21, hkx21, h⟩ := upto_in h
  refine JC_loop2 (fun i21 (s21 : (List Column) × (List Cover) × Int × Int × Int × Int × (List Row) × (List Frame) × (List Tank) × Int × Int × Int × Int) => upto b21 kx21 (columns.toNat - i21) i21 s21 = some r) (fun i21 s21 => [(2, .ptr 120000002 0), (3, .ptr 120000003 0), (5, I64 columns), (6, I64 (i21 : Int))]) (fun i21 s21 => [(120004000, .spare 54 12 s21.1.length s21.1.length), (120000002, .box 47 [LS 12 Column.av ([] : List Column), LS 2 Cover.av ([] : List Cover), I64 0, I64 0, I64 0, I64 0, LS 5 Row.av ([] : List Row), LS 5 Frame.av ([] : List Frame), LS 6 Tank.av ([] : List Tank), I64 0, I64 0, I64 0, I64 0]), (120000003, .box 47 [OW 120004000 12 Column.av s21.1, LS 2 Cover.av s21.2.1, I64 s21.2.2.1, I64 s21.2.2.2.1, I64 s21.2.2.2.2.1, I64 s21.2.2.2.2.2.1, LS 5 Row.av s21.2.2.2.2.2.2.1, LS 5 Frame.av s21.2.2.2.2.2.2.2.1, LS 6 Tank.av s21.2.2.2.2.2.2.2.2.1, I64 s21.2.2.2.2.2.2.2.2.2.1, I64 s21.2.2.2.2.2.2.2.2.2.2.1, I64 s21.2.2.2.2.2.2.2.2.2.2.2.1, I64 s21.2.2.2.2.2.2.2.2.2.2.2.2])]) (fun i21 => columns.toNat - i21) 0 ([], [], 0, 0, 0, 0, [], [], [], 0, 0, 0, 0) h ⟨⟨.same rfl, .same rfl, .same rfl, .same rfl, trivial⟩, ⟨⟨_, rfl, .same⟩, ⟨_, rfl, .boxL rfl ⟨.same rfl, .same rfl, .same rfl, .same rfl, .same rfl, .same rfl, .same rfl, .same rfl, .same rfl, .same rfl, .same rfl, .same rfl, .same rfl, trivial⟩⟩, ⟨_, rfl, .boxL rfl ⟨.same rfl, .same rfl, .same rfl, .same rfl, .same rfl, .same rfl, .same rfl, .same rfl, .same rfl, .same rfl, .same rfl, .same rfl, .same rfl, trivial⟩⟩, trivial⟩, rfl⟩ ?_
  clear h
  intro i21 s21 hi21 K21 e21
  refine JC_seq (fun K22 hK22 => ?_)
  refine JC_region ?_
  refine JL_go (u := BL (decide ((i21 : Int) < columns))) (A_lss rfl rfl rfl) ?_ rfl rfl rfl
  refine JL_nil ?_
  refine hK22 _ _ ?_
  refine JC_seq (fun K23 hK23 => ?_)
  refine JC_cond rfl (fun hb => ?_) (fun hb => ?_)
  ·
    have hk21 := lt_toNat hb
    obtain ⟨nx21, hn21, h⟩ := upto_out hi21 hk21
    replace h := app3 hb21 h
    refine JC_skip ?_
    refine hK23 _ _ ?_
    refine JC_seq (fun K24 hK24 => ?_)
    refine JC_block ?_
    refine JC_seq (fun K25 hK25 => ?_)
    refine JC_region ?_
    refine JL_go (u := I64 (i21 : Int)) (A_move rfl rfl) ?_ rfl rfl rfl
    refine JL_go (u := I64 (i21 : Int)) (A_assign rfl rfl) ?_ rfl rfl rfl
    refine JL_nil ?_
    refine hK25 _ _ ?_
    refine JC_region ?_
    refine JL_go (u := .ptr 120000003 0) (A_fieldL tf_field_47_0 rfl rfl) ?_ rfl rfl rfl
    refine JL_go (u := OW 120004000 12 Column.av s21.1) (A_loadL tf_scalar_37 rfl rfl rfl rfl) ?_ rfl rfl rfl
    refine JL_go (u := I64 (i21 : Int)) (A_move rfl rfl) ?_ rfl rfl rfl
    refine JL_go (u := .agg [I64 0, I64 (i21 : Int), BL false, I64 2, I64 0, I64 0, I64 0, I64 0, LS 1 I64 ([] : List Int), I64 0, I64 0, I64 0]) (A_buildZ (cs := [I64 0, I64 (i21 : Int), BL false, I64 2, I64 0, I64 0, I64 0, I64 0, LS 1 I64 ([] : List Int), I64 0, I64 0, I64 0]) [(0, 1), (1, 1), (2, 1), (3, 1), (4, 1), (5, 1), (6, 1), (7, 1), (8, 1), (9, 1), (10, 1), (11, 1)] [I64 0, I64 0, BL false, I64 0, I64 0, I64 0, I64 0, I64 0, LS 1 I64 ([] : List Int), I64 0, I64 0, I64 0] [.int .i64 0, .int .i64 0, .bool false, .int .i64 0, .int .i64 0, .int .i64 0, .int .i64 0, .int .i64 0, .slice none 0 0, .int .i64 0, .int .i64 0, .int .i64 0] tf_places_54 tf_zero_54 ⟨.inl rfl, .inl rfl, .inl rfl, .inl rfl, .inl rfl, .inl rfl, .inl rfl, .inl rfl, .inr ⟨_, rfl, rfl⟩, .inl rfl, .inl rfl, .inl rfl, trivial⟩ rfl rfl) ?_ rfl rfl rfl
    refine JL_go (u := LS 12 Column.av ([(Column.mk 0 (i21 : Int) false 2 0 0 0 0 [] 0 0 0)])) (A_buildSlice (xs := [.agg [I64 0, I64 (i21 : Int), BL false, I64 2, I64 0, I64 0, I64 0, I64 0, LS 1 I64 ([] : List Int), I64 0, I64 0, I64 0]]) rfl ⟨rfl, rfl, trivial⟩ tf_slice_37 tf_zsize_54 rfl rfl rfl rfl) ?_ rfl rfl rfl
    obtain ⟨ha26, h⟩ := need_out h
    refine JL_go (u := OW 120004000 12 Column.av (s21.1 ++ [(Column.mk 0 (i21 : Int) false 2 0 0 0 0 [] 0 0 0)])) (A_appendM (f := Column.av) (xs := s21.1) (ys := [(Column.mk 0 (i21 : Int) false 2 0 0 0 0 [] 0 0 0)]) rfl rfl rfl rfl tf_slice_37 tf_elem_54 ha26 (fun _ => rfl) (.inl rfl) rfl) ?_ rfl rfl rfl
    refine JL_go (u := .ptr 120000003 0) (A_fieldL tf_field_47_0 rfl rfl) ?_ rfl rfl rfl
    refine JL_go0 (u := .junk) (A_store (u := OW 120004000 12 Column.av (s21.1 ++ [(Column.mk 0 (i21 : Int) false 2 0 0 0 0 [] 0 0 0)])) (ds := [OW 120004000 12 Column.av (s21.1 ++ [(Column.mk 0 (i21 : Int) false 2 0 0 0 0 [] 0 0 0)]), LS 2 Cover.av s21.2.1, I64 s21.2.2.1, I64 s21.2.2.2.1, I64 s21.2.2.2.2.1, I64 s21.2.2.2.2.2.1, LS 5 Row.av s21.2.2.2.2.2.2.1, LS 5 Frame.av s21.2.2.2.2.2.2.2.1, LS 6 Tank.av s21.2.2.2.2.2.2.2.2.1, I64 s21.2.2.2.2.2.2.2.2.2.1, I64 s21.2.2.2.2.2.2.2.2.2.2.1, I64 s21.2.2.2.2.2.2.2.2.2.2.2.1, I64 s21.2.2.2.2.2.2.2.2.2.2.2.2]) tf_size_37 rfl rfl rfl rfl rfl rfl rfl rfl) ?_ rfl rfl
    refine JL_nil ?_
    refine hK24 _ _ ?_
    refine JC_region ?_
    refine JL_go (u := I64 ((i21 + 1 : Nat) : Int)) (A_add (idx_succ hk21 (toNat_max hx21)) rfl rfl rfl) ?_ rfl rfl rfl
    refine JL_go (u := I64 ((i21 + 1 : Nat) : Int)) (A_move rfl rfl) ?_ rfl rfl rfl
    refine JL_nil ?_
    exact e21 _ _ (i21 + 1) ((s21.1 ++ [(Column.mk 0 (i21 : Int) false 2 0 0 0 0 [] 0 0 0)]), s21.2.1, s21.2.2.1, s21.2.2.2.1, s21.2.2.2.2.1, s21.2.2.2.2.2.1, s21.2.2.2.2.2.2.1, s21.2.2.2.2.2.2.2.1, s21.2.2.2.2.2.2.2.2.1, s21.2.2.2.2.2.2.2.2.2.1, s21.2.2.2.2.2.2.2.2.2.2.1, s21.2.2.2.2.2.2.2.2.2.2.2.1, s21.2.2.2.2.2.2.2.2.2.2.2.2) (app1 hn21 h) (by omega) ⟨⟨.same rfl, .same rfl, .same rfl, .same rfl, trivial⟩, ⟨⟨_, rfl, .same⟩, ⟨_, rfl, .boxL rfl ⟨.same rfl, .same rfl, .same rfl, .same rfl, .same rfl, .same rfl, .same rfl, .same rfl, .same rfl, .same rfl, .same rfl, .same rfl, .same rfl, trivial⟩⟩, ⟨_, rfl, .boxL rfl ⟨.same rfl, .same rfl, .same rfl, .same rfl, .same rfl, .same rfl, .same rfl, .same rfl, .same rfl, .same rfl, .same rfl, .same rfl, .same rfl, trivial⟩⟩, trivial⟩, rfl⟩
  ·
    have h := app1 hkx21 (upto_nil hi21 (not_lt_toNat hb))
    refine JC_exit ?_
    refine hK3 _ _ ?_
    refine JC_seq (fun K27 hK27 => ?_)
    refine JC_region ?_
    refine JL_go (u := .agg [OW 120004000 12 Column.av s21.1, LS 2 Cover.av s21.2.1, I64 s21.2.2.1, I64 s21.2.2.2.1, I64 s21.2.2.2.2.1, I64 s21.2.2.2.2.2.1, LS 5 Row.av s21.2.2.2.2.2.2.1, LS 5 Frame.av s21.2.2.2.2.2.2.2.1, LS 6 Tank.av s21.2.2.2.2.2.2.2.2.1, I64 s21.2.2.2.2.2.2.2.2.2.1, I64 s21.2.2.2.2.2.2.2.2.2.2.1, I64 s21.2.2.2.2.2.2.2.2.2.2.2.1, I64 s21.2.2.2.2.2.2.2.2.2.2.2.2]) (A_loadAggL tf_agg_47 rfl rfl rfl rfl) ?_ rfl rfl rfl
    refine JL_go0 (u := .junk) (A_store (u := .agg [OW 120004000 12 Column.av s21.1, LS 2 Cover.av s21.2.1, I64 s21.2.2.1, I64 s21.2.2.2.1, I64 s21.2.2.2.2.1, I64 s21.2.2.2.2.2.1, LS 5 Row.av s21.2.2.2.2.2.2.1, LS 5 Frame.av s21.2.2.2.2.2.2.2.1, LS 6 Tank.av s21.2.2.2.2.2.2.2.2.1, I64 s21.2.2.2.2.2.2.2.2.2.1, I64 s21.2.2.2.2.2.2.2.2.2.2.1, I64 s21.2.2.2.2.2.2.2.2.2.2.2.1, I64 s21.2.2.2.2.2.2.2.2.2.2.2.2]) (ds := [OW 120004000 12 Column.av s21.1, LS 2 Cover.av s21.2.1, I64 s21.2.2.1, I64 s21.2.2.2.1, I64 s21.2.2.2.2.1, I64 s21.2.2.2.2.2.1, LS 5 Row.av s21.2.2.2.2.2.2.1, LS 5 Frame.av s21.2.2.2.2.2.2.2.1, LS 6 Tank.av s21.2.2.2.2.2.2.2.2.1, I64 s21.2.2.2.2.2.2.2.2.2.1, I64 s21.2.2.2.2.2.2.2.2.2.2.1, I64 s21.2.2.2.2.2.2.2.2.2.2.2.1, I64 s21.2.2.2.2.2.2.2.2.2.2.2.2]) tf_size_47 rfl rfl rfl rfl rfl rfl rfl rfl) ?_ rfl rfl
    refine JL_nil ?_
    refine hK27 _ _ ?_
    refine JC_ret ?_
    exact ⟨[.agg [LS 12 Column.av s21.1, LS 2 Cover.av s21.2.1, I64 s21.2.2.1, I64 s21.2.2.2.1, I64 s21.2.2.2.2.1, I64 s21.2.2.2.2.2.1, LS 5 Row.av s21.2.2.2.2.2.2.1, LS 5 Frame.av s21.2.2.2.2.2.2.2.1, LS 6 Tank.av s21.2.2.2.2.2.2.2.2.1, I64 s21.2.2.2.2.2.2.2.2.2.1, I64 s21.2.2.2.2.2.2.2.2.2.2.1, I64 s21.2.2.2.2.2.2.2.2.2.2.2.1, I64 s21.2.2.2.2.2.2.2.2.2.2.2.2]], [], trivial, rfl, ⟨⟨_, ⟨_, _, _, _, rfl, rfl, rfl, .inl ⟨tf_agg_47, rfl⟩⟩, .agg ⟨.list rfl, .same rfl, .same rfl, .same rfl, .same rfl, .same rfl, .same rfl, .same rfl, .same rfl, .same rfl, .same rfl, .same rfl, .same rfl, trivial⟩⟩, trivial⟩, rfl, congrArg (fun r : Ship => (.agg (Ship.cs r) : AV)) (Option.some.inj h)⟩

def M_ship_right_1 (l : List ship_span) : Option Bool :=
  each (fun y18 i18 (s18 : Unit) nx18 =>
    bif ((decide (y18.n < y18.low)) || (decide (y18.high < y18.n))) then
    (some false)
    else
    (nx18 ()))
  (fun (s18 : Unit) =>
    some true) l 0 ()
theorem M_ship_right_1_w (l : List ship_span) (r : Bool) (h : M_ship_right_1 l = some r) : Pure Try.prog 59 [LS 3 ship_span.av l] (· = BL r) := by
  unfold M_ship_right_1 at h
  refine Pure_ofG [.tmp 2] Try.func59 rfl rfl ?_
  refine JC_seq (fun K1 hK1 => ?_)
  refine JC_region ?_
  refine JL_go (u := BL false) (A_assign rfl rfl) ?_ rfl rfl rfl
  refine JL_nil ?_
  refine hK1 _ _ ?_
  refine JC_seq (fun K2 hK2 => ?_)
  refine JC_seq (fun K3 hK3 => ?_)
  refine JC_region ?_
  refine JL_go (u := LS 3 ship_span.av l) (A_move rfl rfl) ?_ rfl rfl rfl
  refine JL_lenM (f := ship_span.av) (xs := l) tf_slice_118 rfl rfl (fun hm6 => ?_) rfl rfl rfl
  refine JL_go (u := I64 0) (A_move rfl rfl) ?_ rfl rfl rfl
  refine JL_nil ?_
  refine hK3 _ _ ?_
  refine JC_block ?_
  obtain ⟨b18, kx18, hb18, hkx18, h⟩ := each_in h
  refine JC_loop2 (fun i18 (s18 : Unit) => each b18 kx18 (List.drop i18 l) i18 s18 = some r) (fun i18 s18 => [(5, LS 3 ship_span.av l), (6, I64 (l.length : Int)), (7, I64 (i18 : Int))]) (fun i18 s18 => []) (fun i18 => l.length - i18) 0 () h ⟨⟨.same rfl, .same rfl, .same rfl, trivial⟩, trivial, rfl⟩ ?_
  clear h
  intro i18 s18 hi18 K18 e18
  refine JC_seq (fun K19 hK19 => ?_)
  refine JC_region ?_
  refine JL_go (u := BL (decide ((i18 : Int) < (l.length : Int)))) (A_lss rfl rfl rfl) ?_ rfl rfl rfl
  refine JL_nil ?_
  refine hK19 _ _ ?_
  refine JC_seq (fun K20 hK20 => ?_)
  refine JC_cond rfl (fun hb => ?_) (fun hb => ?_)
  ·
    have hk18 := lt_len hb
    obtain ⟨y18, nx18, hy18, hn18, h⟩ := each_out hi18 hk18
    replace h := app4 hb18 h
    refine JC_skip ?_
    refine hK20 _ _ ?_
    refine JC_seq (fun K21 hK21 => ?_)
    refine JC_block ?_
    refine JC_seq (fun K22 hK22 => ?_)
    refine JC_region ?_
    refine JL_go (u := .dptr [I64 y18.n, I64 y18.low, I64 y18.high]) (A_indexM (f := ship_span.av) (xs := l) (y := y18) rfl rfl rfl tf_slice_118 hy18 rfl) ?_ rfl rfl rfl
    refine JL_go (u := .agg [I64 y18.n, I64 y18.low, I64 y18.high]) (A_loadAgg tf_agg_120 rfl rfl rfl) ?_ rfl rfl rfl
    refine JL_go (u := .ptr 600000004 0) (A_allocJ 600000004 3 tf_zsize_120 rfl rfl) ?_ rfl rfl rfl
    refine JL_go0 (u := .junk) (A_store (u := .agg [I64 y18.n, I64 y18.low, I64 y18.high]) (ds := [I64 y18.n, I64 y18.low, I64 y18.high]) tf_size_120 rfl rfl rfl rfl rfl rfl rfl rfl) ?_ rfl rfl
    refine JL_nil ?_
    refine hK22 _ _ ?_
    refine JC_freeze [(4, .dptr [I64 y18.n, I64 y18.low, I64 y18.high]), (5, LS 3 ship_span.av l), (6, I64 (l.length : Int)), (7, I64 (i18 : Int))] [] 600000004 rfl rfl rfl trivial rfl (by exact ⟨.ptr, .conv (.same rfl), .conv (.same rfl), .conv (.same rfl), trivial⟩) ?_
    refine JC_seq (fun K23 hK23 => ?_)
    refine JC_region ?_
    refine JL_go (u := .dptr [I64 y18.n, I64 y18.low, I64 y18.high]) (A_fieldM tf_field_120_0 rfl rfl rfl) ?_ rfl rfl rfl
    refine JL_go (u := I64 y18.n) (A_load tf_scalar_3 rfl rfl rfl) ?_ rfl rfl rfl
    refine JL_go (u := .dptr [I64 y18.low, I64 y18.high]) (A_fieldM tf_field_120_1 rfl rfl rfl) ?_ rfl rfl rfl
    refine JL_go (u := I64 y18.low) (A_load tf_scalar_3 rfl rfl rfl) ?_ rfl rfl rfl
    refine JL_go (u := BL (decide (y18.n < y18.low))) (A_lss rfl rfl rfl) ?_ rfl rfl rfl
    refine JL_go (u := BL (decide (y18.n < y18.low))) (A_move rfl rfl) ?_ rfl rfl rfl
    refine JL_opt (u := .dptr [I64 y18.n, I64 y18.low, I64 y18.high]) [] rfl rfl rfl .scf trivial (fun hc => A_fieldM tf_field_120_0 rfl rfl rfl) ?_ rfl rfl rfl
    refine JL_opt (u := I64 y18.n) [(17, .dptr [I64 y18.n, I64 y18.low, I64 y18.high])] rfl rfl rfl .scf ⟨.all id, trivial⟩ (fun hc => A_load tf_scalar_3 rfl rfl rfl) ?_ rfl rfl rfl
    refine JL_opt (u := .dptr [I64 y18.high]) [] rfl rfl rfl .scf trivial (fun hc => A_fieldM tf_field_120_2 rfl rfl rfl) ?_ rfl rfl rfl
    refine JL_opt (u := I64 y18.high) [(19, .dptr [I64 y18.high])] rfl rfl rfl .scf ⟨.all id, trivial⟩ (fun hc => A_load tf_scalar_3 rfl rfl rfl) ?_ rfl rfl rfl
    refine JL_opt (u := BL (decide (y18.high < y18.n))) [(18, I64 y18.n), (20, I64 y18.high)] rfl rfl rfl .scf ⟨.all id, .all id, trivial⟩ (fun hc => A_gtr rfl rfl rfl) ?_ rfl rfl rfl
    refine JL_go (u := BL ((decide (y18.n < y18.low)) || (decide (y18.high < y18.n)))) (A_or rfl rfl rfl rfl) ?_ rfl rfl rfl
    refine JL_nil ?_
    refine hK23 _ _ ?_
    refine JC_cond rfl (fun hb => ?_) (fun hb => ?_)
    ·
      replace h := bif_t hb h
      refine JC_seq (fun K24 hK24 => ?_)
      refine JC_region ?_
      refine JL_go (u := BL false) (A_assign rfl rfl) ?_ rfl rfl rfl
      refine JL_nil ?_
      refine hK24 _ _ ?_
      refine JC_ret ?_
      exact ⟨[BL false], [], trivial, rfl, ⟨⟨_, rfl, .conv (.same rfl)⟩, trivial⟩, rfl, congrArg (fun r : Bool => (BL r : AV)) (Option.some.inj h)⟩
    ·
      replace h := bif_f hb h
      refine JC_skip ?_
      refine hK21 _ _ ?_
      refine JC_region ?_
      refine JL_go (u := I64 ((i18 + 1 : Nat) : Int)) (A_add (idx_succ hk18 hm6) rfl rfl rfl) ?_ rfl rfl rfl
      refine JL_go (u := I64 ((i18 + 1 : Nat) : Int)) (A_move rfl rfl) ?_ rfl rfl rfl
      refine JL_nil ?_
      exact e18 _ _ (i18 + 1) () (app1 hn18 h) (by omega) ⟨⟨.same rfl, .same rfl, .same rfl, trivial⟩, trivial, rfl⟩
  ·
    have h := app1 hkx18 (each_nil hi18 (not_lt_len hb))
    refine JC_exit ?_
    refine hK2 _ _ ?_
    refine JC_seq (fun K25 hK25 => ?_)
    refine JC_region ?_
    refine JL_go (u := BL true) (A_assign rfl rfl) ?_ rfl rfl rfl
    refine JL_nil ?_
    refine hK25 _ _ ?_
    refine JC_ret ?_
    exact ⟨[BL true], [], trivial, rfl, ⟨⟨_, rfl, .conv (.same rfl)⟩, trivial⟩, rfl, congrArg (fun r : Bool => (BL r : AV)) (Option.some.inj h)⟩

def M_ship_right (c : Column) : Option Bool :=
  each (fun y27 i27 (s27 : Unit) nx27 =>
    chk (c.Tiers - 1) fun v33 =>
    bnd (M_ship_right_1 [(ship_span.mk y27 0 v33)]) fun r34 =>
    bnd (bif ((!(!r34)) && (decide (0 < (i27 : Int)))) then chk ((i27 : Int) - 1) some else some 0) fun v35 =>
    bnd (bif ((!(!r34)) && (decide (0 < (i27 : Int)))) then gidx c.Plugs v35 some else some default) fun y36 =>
    bif ((!r34) || ((decide (0 < (i27 : Int))) && (decide (y27 ≤ y36)))) then
    (some false)
    else
    (nx27 ()))
  (fun (s27 : Unit) =>
    bnd (M_ship_right_1 [(ship_span.mk c.Bay 0 39), (ship_span.mk c.Row 0 30), (ship_span.mk c.Tiers 1 10), (ship_span.mk c.Height 0 40000), (ship_span.mk c.Kilos20 0 500000000), (ship_span.mk c.Kilos40 0 500000000), (ship_span.mk c.Lash 0 1000000000000), (ship_span.mk c.X (-500000) 500000), (ship_span.mk c.Y (-500000) 500000), (ship_span.mk c.Z (-500000) 500000)]) fun r39 =>
    some r39) c.Plugs 0 ()
theorem M_ship_right_w (c : Column) (r : Bool) (h : M_ship_right c = some r) : Pure Try.prog 37 [.agg (Column.cs c)] (· = BL r) := by
  unfold M_ship_right at h
  refine Pure_ofG [.tmp 2] Try.func37 rfl rfl ?_
  refine JC_seq (fun K1 hK1 => ?_)
  refine JC_region ?_
  refine JL_go (u := .ptr 380000001 0) (A_box (u := .agg (Column.cs c)) (cs := [I64 c.Bay, I64 c.Row, BL c.Deck, I64 c.Tiers, I64 c.Height, I64 c.Kilos20, I64 c.Kilos40, I64 c.Lash, LS 1 I64 c.Plugs, I64 c.X, I64 c.Y, I64 c.Z]) 380000001 rfl rfl rfl rfl rfl) ?_ rfl rfl rfl
  refine JL_go (u := BL false) (A_assign rfl rfl) ?_ rfl rfl rfl
  refine JL_nil ?_
  refine hK1 _ _ ?_
  refine JC_freeze [(1, .dptr (Column.cs c))] [] 380000001 rfl rfl rfl trivial rfl (by exact ⟨.ptr, trivial⟩) ?_
  refine JC_seq (fun K2 hK2 => ?_)
  refine JC_region ?_
  refine JL_go (u := .fn 59 []) (A_assign rfl rfl) ?_ rfl rfl rfl
  refine JL_nil ?_
  refine hK2 _ _ ?_
  refine JC_seq (fun K3 hK3 => ?_)
  refine JC_seq (fun K4 hK4 => ?_)
  refine JC_region ?_
  refine JL_go (u := .dptr ((Column.cs c).drop 8)) (A_fieldM tf_field_54_8 rfl rfl rfl) ?_ rfl rfl rfl
  refine JL_go (u := LS 1 I64 c.Plugs) (A_load tf_scalar_52 rfl rfl rfl) ?_ rfl rfl rfl
  refine JL_lenM (f := I64) (xs := c.Plugs) tf_slice_52 rfl rfl (fun hm8 => ?_) rfl rfl rfl
  refine JL_go (u := I64 0) (A_move rfl rfl) ?_ rfl rfl rfl
  refine JL_nil ?_
  refine hK4 _ _ ?_
  refine JC_block ?_
  obtain ⟨b27, kx27, hb27, hkx27, h⟩ := each_in h
  refine JC_loop2 (fun i27 (s27 : Unit) => each b27 kx27 (List.drop i27 c.Plugs) i27 s27 = some r) (fun i27 s27 => [(1, .dptr (Column.cs c)), (3, .fn 59 []), (7, LS 1 I64 c.Plugs), (8, I64 (c.Plugs.length : Int)), (9, I64 (i27 : Int))]) (fun i27 s27 => []) (fun i27 => c.Plugs.length - i27) 0 () h ⟨⟨.same rfl, .same rfl, .same rfl, .same rfl, .same rfl, trivial⟩, trivial, rfl⟩ ?_
  clear h
  intro i27 s27 hi27 K27 e27
  refine JC_seq (fun K28 hK28 => ?_)
  refine JC_region ?_
  refine JL_go (u := BL (decide ((i27 : Int) < (c.Plugs.length : Int)))) (A_lss rfl rfl rfl) ?_ rfl rfl rfl
  refine JL_nil ?_
  refine hK28 _ _ ?_
  refine JC_seq (fun K29 hK29 => ?_)
  refine JC_cond rfl (fun hb => ?_) (fun hb => ?_)
  ·
    have hk27 := lt_len hb
    obtain ⟨y27, nx27, hy27, hn27, h⟩ := each_out hi27 hk27
    replace h := app4 hb27 h
    refine JC_skip ?_
    refine hK29 _ _ ?_
    refine JC_seq (fun K30 hK30 => ?_)
    refine JC_block ?_
    refine JC_seq (fun K31 hK31 => ?_)
    refine JC_region ?_
    refine JL_go (u := I64 (i27 : Int)) (A_move rfl rfl) ?_ rfl rfl rfl
    refine JL_go (u := .dptr [I64 y27]) (A_indexM (f := I64) (xs := c.Plugs) (y := y27) rfl rfl rfl tf_slice_52 hy27 rfl) ?_ rfl rfl rfl
    refine JL_go (u := I64 y27) (A_load tf_scalar_3 rfl rfl rfl) ?_ rfl rfl rfl
    refine JL_go (u := I64 (i27 : Int)) (A_assign rfl rfl) ?_ rfl rfl rfl
    refine JL_go (u := I64 y27) (A_assign rfl rfl) ?_ rfl rfl rfl
    refine JL_nil ?_
    refine hK31 _ _ ?_
    refine JC_seq (fun K32 hK32 => ?_)
    refine JC_region ?_
    refine JL_go (u := .fn 59 []) (A_move rfl rfl) ?_ rfl rfl rfl
    refine JL_go (u := I64 y27) (A_move rfl rfl) ?_ rfl rfl rfl
    refine JL_go (u := .dptr ((Column.cs c).drop 3)) (A_fieldM tf_field_54_3 rfl rfl rfl) ?_ rfl rfl rfl
    refine JL_go (u := I64 c.Tiers) (A_load tf_scalar_3 rfl rfl rfl) ?_ rfl rfl rfl
    obtain ⟨v33, hv33, h⟩ := chk_out h
    refine JL_go (u := I64 v33) (A_sub hv33 rfl rfl rfl) ?_ rfl rfl rfl
    refine JL_go (u := .agg [I64 y27, I64 0, I64 v33]) (A_buildZ (cs := [I64 y27, I64 0, I64 v33]) [(0, 1), (1, 1), (2, 1)] [I64 0, I64 0, I64 0] [.int .i64 0, .int .i64 0, .int .i64 0] tf_places_120 tf_zero_120 ⟨.inl rfl, .inl rfl, .inl rfl, trivial⟩ rfl rfl) ?_ rfl rfl rfl
    refine JL_go (u := LS 3 ship_span.av [(ship_span.mk y27 0 v33)]) (A_buildSlice (xs := [.agg [I64 y27, I64 0, I64 v33]]) rfl ⟨rfl, rfl, trivial⟩ tf_slice_118 tf_zsize_120 rfl rfl rfl rfl) ?_ rfl rfl rfl
    obtain ⟨r34, hr34, h⟩ := bnd_out h
    refine JL_go (u := BL r34) (A_callV1 (args := [LS 3 ship_span.av [(ship_span.mk y27 0 v33)]]) (caps := []) rfl rfl (M_ship_right_1_w [(ship_span.mk y27 0 v33)] r34 hr34) tf_call_59 ⟨rfl, rfl, trivial⟩ rfl) ?_ rfl rfl rfl
    refine JL_go (u := BL (!r34)) (A_not rfl rfl) ?_ rfl rfl rfl
    refine JL_go (u := BL (!r34)) (A_move rfl rfl) ?_ rfl rfl rfl
    refine JL_opt (u := I64 (i27 : Int)) [] rfl rfl rfl .scf trivial (fun hc => A_move rfl rfl) ?_ rfl rfl rfl
    refine JL_opt (u := BL (decide (0 < (i27 : Int)))) [(24, I64 (i27 : Int))] rfl rfl rfl .scf ⟨.all id, trivial⟩ (fun hc => A_gtr rfl rfl rfl) ?_ rfl rfl rfl
    refine JL_opt (u := BL (decide (0 < (i27 : Int)))) [(25, BL (decide (0 < (i27 : Int))))] rfl rfl rfl .scf ⟨.all id, trivial⟩ (fun hc => A_move rfl rfl) ?_ rfl rfl rfl
    refine JL_opt (u := I64 y27) [] rfl rfl rfl .optt trivial (fun hc => A_move rfl rfl) ?_ rfl rfl rfl
    refine JL_opt (u := .dptr ((Column.cs c).drop 8)) [] rfl rfl rfl .optt trivial (fun hc => A_fieldM tf_field_54_8 rfl rfl rfl) ?_ rfl rfl rfl
    refine JL_opt (u := LS 1 I64 c.Plugs) [(28, .dptr ((Column.cs c).drop 8))] rfl rfl rfl .optt ⟨.all id, trivial⟩ (fun hc => A_load tf_scalar_52 rfl rfl rfl) ?_ rfl rfl rfl
    refine JL_opt (u := I64 (i27 : Int)) [] rfl rfl rfl .optt trivial (fun hc => A_move rfl rfl) ?_ rfl rfl rfl
    obtain ⟨v35, hv35, h⟩ := bnd_out h
    refine JL_opt (u := I64 v35) [(30, I64 (i27 : Int))] rfl rfl rfl .optt ⟨.all id, trivial⟩ (fun hc => A_sub (chk_some (bif_t hc hv35)) rfl rfl rfl) ?_ rfl rfl rfl
    obtain ⟨y36, hy36, h⟩ := bnd_out h
    refine JL_opt (u := .dptr [I64 y36]) [(29, LS 1 I64 c.Plugs), (31, I64 v35)] rfl rfl rfl .optt ⟨.all id, .all id, trivial⟩ (fun hc => (match gidx_some (bif_t hc hy36) with | ⟨_, hm_, hy_⟩ => A_indexM (f := I64) (xs := c.Plugs) (y := y36) rfl rfl rfl tf_slice_52 hy_ hm_)) ?_ rfl rfl rfl
    refine JL_opt (u := I64 y36) [(32, .dptr [I64 y36])] rfl rfl rfl .optt ⟨.all id, trivial⟩ (fun hc => A_load tf_scalar_3 rfl rfl rfl) ?_ rfl rfl rfl
    refine JL_opt (u := BL (decide (y27 ≤ y36))) [(27, I64 y27), (33, I64 y36)] rfl rfl rfl .optt ⟨.all id, .all id, trivial⟩ (fun hc => A_leq rfl rfl rfl) ?_ rfl rfl rfl
    refine JL_opt (u := BL ((decide (0 < (i27 : Int))) && (decide (y27 ≤ y36)))) [(26, BL (decide (0 < (i27 : Int)))), (34, _)] rfl rfl rfl .scf ⟨.all id, .part, trivial⟩ (fun hc => A_and rfl rfl rfl rfl) ?_ rfl rfl rfl
    refine JL_go (u := BL ((!r34) || ((decide (0 < (i27 : Int))) && (decide (y27 ≤ y36))))) (A_or rfl rfl rfl rfl) ?_ rfl rfl rfl
    refine JL_nil ?_
    refine hK32 _ _ ?_
    refine JC_cond rfl (fun hb => ?_) (fun hb => ?_)
    ·
      replace h := bif_t hb h
      refine JC_seq (fun K37 hK37 => ?_)
      refine JC_region ?_
      refine JL_go (u := BL false) (A_assign rfl rfl) ?_ rfl rfl rfl
      refine JL_nil ?_
      refine hK37 _ _ ?_
      refine JC_ret ?_
      exact ⟨[BL false], [], trivial, rfl, ⟨⟨_, rfl, .conv (.same rfl)⟩, trivial⟩, rfl, congrArg (fun r : Bool => (BL r : AV)) (Option.some.inj h)⟩
    ·
      replace h := bif_f hb h
      refine JC_skip ?_
      refine hK30 _ _ ?_
      refine JC_region ?_
      refine JL_go (u := I64 ((i27 + 1 : Nat) : Int)) (A_add (idx_succ hk27 hm8) rfl rfl rfl) ?_ rfl rfl rfl
      refine JL_go (u := I64 ((i27 + 1 : Nat) : Int)) (A_move rfl rfl) ?_ rfl rfl rfl
      refine JL_nil ?_
      exact e27 _ _ (i27 + 1) () (app1 hn27 h) (by omega) ⟨⟨.same rfl, .same rfl, .same rfl, .same rfl, .same rfl, trivial⟩, trivial, rfl⟩
  ·
    have h := app1 hkx27 (each_nil hi27 (not_lt_len hb))
    refine JC_exit ?_
    refine hK3 _ _ ?_
    refine JC_seq (fun K38 hK38 => ?_)
    refine JC_region ?_
    refine JL_go (u := .fn 59 []) (A_move rfl rfl) ?_ rfl rfl rfl
    refine JL_go (u := .dptr (Column.cs c)) (A_fieldM tf_field_54_0 rfl rfl rfl) ?_ rfl rfl rfl
    refine JL_go (u := I64 c.Bay) (A_load tf_scalar_3 rfl rfl rfl) ?_ rfl rfl rfl
    refine JL_go (u := .agg [I64 c.Bay, I64 0, I64 39]) (A_buildZ (cs := [I64 c.Bay, I64 0, I64 39]) [(0, 1), (1, 1), (2, 1)] [I64 0, I64 0, I64 0] [.int .i64 0, .int .i64 0, .int .i64 0] tf_places_120 tf_zero_120 ⟨.inl rfl, .inl rfl, .inl rfl, trivial⟩ rfl rfl) ?_ rfl rfl rfl
    refine JL_go (u := .dptr ((Column.cs c).drop 1)) (A_fieldM tf_field_54_1 rfl rfl rfl) ?_ rfl rfl rfl
    refine JL_go (u := I64 c.Row) (A_load tf_scalar_3 rfl rfl rfl) ?_ rfl rfl rfl
    refine JL_go (u := .agg [I64 c.Row, I64 0, I64 30]) (A_buildZ (cs := [I64 c.Row, I64 0, I64 30]) [(0, 1), (1, 1), (2, 1)] [I64 0, I64 0, I64 0] [.int .i64 0, .int .i64 0, .int .i64 0] tf_places_120 tf_zero_120 ⟨.inl rfl, .inl rfl, .inl rfl, trivial⟩ rfl rfl) ?_ rfl rfl rfl
    refine JL_go (u := .dptr ((Column.cs c).drop 3)) (A_fieldM tf_field_54_3 rfl rfl rfl) ?_ rfl rfl rfl
    refine JL_go (u := I64 c.Tiers) (A_load tf_scalar_3 rfl rfl rfl) ?_ rfl rfl rfl
    refine JL_go (u := .agg [I64 c.Tiers, I64 1, I64 10]) (A_buildZ (cs := [I64 c.Tiers, I64 1, I64 10]) [(0, 1), (1, 1), (2, 1)] [I64 0, I64 0, I64 0] [.int .i64 0, .int .i64 0, .int .i64 0] tf_places_120 tf_zero_120 ⟨.inl rfl, .inl rfl, .inl rfl, trivial⟩ rfl rfl) ?_ rfl rfl rfl
    refine JL_go (u := .dptr ((Column.cs c).drop 4)) (A_fieldM tf_field_54_4 rfl rfl rfl) ?_ rfl rfl rfl
    refine JL_go (u := I64 c.Height) (A_load tf_scalar_3 rfl rfl rfl) ?_ rfl rfl rfl
    refine JL_go (u := .agg [I64 c.Height, I64 0, I64 40000]) (A_buildZ (cs := [I64 c.Height, I64 0, I64 40000]) [(0, 1), (1, 1), (2, 1)] [I64 0, I64 0, I64 0] [.int .i64 0, .int .i64 0, .int .i64 0] tf_places_120 tf_zero_120 ⟨.inl rfl, .inl rfl, .inl rfl, trivial⟩ rfl rfl) ?_ rfl rfl rfl
    refine JL_go (u := .dptr ((Column.cs c).drop 5)) (A_fieldM tf_field_54_5 rfl rfl rfl) ?_ rfl rfl rfl
    refine JL_go (u := I64 c.Kilos20) (A_load tf_scalar_3 rfl rfl rfl) ?_ rfl rfl rfl
    refine JL_go (u := .agg [I64 c.Kilos20, I64 0, I64 500000000]) (A_buildZ (cs := [I64 c.Kilos20, I64 0, I64 500000000]) [(0, 1), (1, 1), (2, 1)] [I64 0, I64 0, I64 0] [.int .i64 0, .int .i64 0, .int .i64 0] tf_places_120 tf_zero_120 ⟨.inl rfl, .inl rfl, .inl rfl, trivial⟩ rfl rfl) ?_ rfl rfl rfl
    refine JL_go (u := .dptr ((Column.cs c).drop 6)) (A_fieldM tf_field_54_6 rfl rfl rfl) ?_ rfl rfl rfl
    refine JL_go (u := I64 c.Kilos40) (A_load tf_scalar_3 rfl rfl rfl) ?_ rfl rfl rfl
    refine JL_go (u := .agg [I64 c.Kilos40, I64 0, I64 500000000]) (A_buildZ (cs := [I64 c.Kilos40, I64 0, I64 500000000]) [(0, 1), (1, 1), (2, 1)] [I64 0, I64 0, I64 0] [.int .i64 0, .int .i64 0, .int .i64 0] tf_places_120 tf_zero_120 ⟨.inl rfl, .inl rfl, .inl rfl, trivial⟩ rfl rfl) ?_ rfl rfl rfl
    refine JL_go (u := .dptr ((Column.cs c).drop 7)) (A_fieldM tf_field_54_7 rfl rfl rfl) ?_ rfl rfl rfl
    refine JL_go (u := I64 c.Lash) (A_load tf_scalar_3 rfl rfl rfl) ?_ rfl rfl rfl
    refine JL_go (u := .agg [I64 c.Lash, I64 0, I64 1000000000000]) (A_buildZ (cs := [I64 c.Lash, I64 0, I64 1000000000000]) [(0, 1), (1, 1), (2, 1)] [I64 0, I64 0, I64 0] [.int .i64 0, .int .i64 0, .int .i64 0] tf_places_120 tf_zero_120 ⟨.inl rfl, .inl rfl, .inl rfl, trivial⟩ rfl rfl) ?_ rfl rfl rfl
    refine JL_go (u := .dptr [I64 c.X, I64 c.Y, I64 c.Z]) (A_fieldM tf_field_54_9 rfl rfl rfl) ?_ rfl rfl rfl
    refine JL_go (u := I64 c.X) (A_load tf_scalar_3 rfl rfl rfl) ?_ rfl rfl rfl
    refine JL_go (u := .agg [I64 c.X, I64 (-500000), I64 500000]) (A_buildZ (cs := [I64 c.X, I64 (-500000), I64 500000]) [(0, 1), (1, 1), (2, 1)] [I64 0, I64 0, I64 0] [.int .i64 0, .int .i64 0, .int .i64 0] tf_places_120 tf_zero_120 ⟨.inl rfl, .inl rfl, .inl rfl, trivial⟩ rfl rfl) ?_ rfl rfl rfl
    refine JL_go (u := .dptr [I64 c.Y, I64 c.Z]) (A_fieldM tf_field_54_10 rfl rfl rfl) ?_ rfl rfl rfl
    refine JL_go (u := I64 c.Y) (A_load tf_scalar_3 rfl rfl rfl) ?_ rfl rfl rfl
    refine JL_go (u := .agg [I64 c.Y, I64 (-500000), I64 500000]) (A_buildZ (cs := [I64 c.Y, I64 (-500000), I64 500000]) [(0, 1), (1, 1), (2, 1)] [I64 0, I64 0, I64 0] [.int .i64 0, .int .i64 0, .int .i64 0] tf_places_120 tf_zero_120 ⟨.inl rfl, .inl rfl, .inl rfl, trivial⟩ rfl rfl) ?_ rfl rfl rfl
    refine JL_go (u := .dptr [I64 c.Z]) (A_fieldM tf_field_54_11 rfl rfl rfl) ?_ rfl rfl rfl
    refine JL_go (u := I64 c.Z) (A_load tf_scalar_3 rfl rfl rfl) ?_ rfl rfl rfl
    refine JL_go (u := .agg [I64 c.Z, I64 (-500000), I64 500000]) (A_buildZ (cs := [I64 c.Z, I64 (-500000), I64 500000]) [(0, 1), (1, 1), (2, 1)] [I64 0, I64 0, I64 0] [.int .i64 0, .int .i64 0, .int .i64 0] tf_places_120 tf_zero_120 ⟨.inl rfl, .inl rfl, .inl rfl, trivial⟩ rfl rfl) ?_ rfl rfl rfl
    refine JL_go (u := LS 3 ship_span.av [(ship_span.mk c.Bay 0 39), (ship_span.mk c.Row 0 30), (ship_span.mk c.Tiers 1 10), (ship_span.mk c.Height 0 40000), (ship_span.mk c.Kilos20 0 500000000), (ship_span.mk c.Kilos40 0 500000000), (ship_span.mk c.Lash 0 1000000000000), (ship_span.mk c.X (-500000) 500000), (ship_span.mk c.Y (-500000) 500000), (ship_span.mk c.Z (-500000) 500000)]) (A_buildSlice (xs := [.agg [I64 c.Bay, I64 0, I64 39], .agg [I64 c.Row, I64 0, I64 30], .agg [I64 c.Tiers, I64 1, I64 10], .agg [I64 c.Height, I64 0, I64 40000], .agg [I64 c.Kilos20, I64 0, I64 500000000], .agg [I64 c.Kilos40, I64 0, I64 500000000], .agg [I64 c.Lash, I64 0, I64 1000000000000], .agg [I64 c.X, I64 (-500000), I64 500000], .agg [I64 c.Y, I64 (-500000), I64 500000], .agg [I64 c.Z, I64 (-500000), I64 500000]]) rfl ⟨rfl, rfl, rfl, rfl, rfl, rfl, rfl, rfl, rfl, rfl, rfl, rfl, rfl, rfl, rfl, rfl, rfl, rfl, rfl, rfl, trivial⟩ tf_slice_118 tf_zsize_120 rfl rfl rfl rfl) ?_ rfl rfl rfl
    obtain ⟨r39, hr39, h⟩ := bnd_out h
    refine JL_go (u := BL r39) (A_callV1 (args := [LS 3 ship_span.av [(ship_span.mk c.Bay 0 39), (ship_span.mk c.Row 0 30), (ship_span.mk c.Tiers 1 10), (ship_span.mk c.Height 0 40000), (ship_span.mk c.Kilos20 0 500000000), (ship_span.mk c.Kilos40 0 500000000), (ship_span.mk c.Lash 0 1000000000000), (ship_span.mk c.X (-500000) 500000), (ship_span.mk c.Y (-500000) 500000), (ship_span.mk c.Z (-500000) 500000)]]) (caps := []) rfl rfl (M_ship_right_1_w [(ship_span.mk c.Bay 0 39), (ship_span.mk c.Row 0 30), (ship_span.mk c.Tiers 1 10), (ship_span.mk c.Height 0 40000), (ship_span.mk c.Kilos20 0 500000000), (ship_span.mk c.Kilos40 0 500000000), (ship_span.mk c.Lash 0 1000000000000), (ship_span.mk c.X (-500000) 500000), (ship_span.mk c.Y (-500000) 500000), (ship_span.mk c.Z (-500000) 500000)] r39 hr39) tf_call_59 ⟨rfl, rfl, trivial⟩ rfl) ?_ rfl rfl rfl
    refine JL_go (u := BL r39) (A_assign rfl rfl) ?_ rfl rfl rfl
    refine JL_nil ?_
    refine hK38 _ _ ?_
    refine JC_ret ?_
    exact ⟨[BL r39], [], trivial, rfl, ⟨⟨_, rfl, .conv (.same rfl)⟩, trivial⟩, rfl, congrArg (fun r : Bool => (BL r : AV)) (Option.some.inj h)⟩

def M_ship_Right (s : Ship) (Rp : Bool → Prop) : Option Prop :=
  bif (((decide ((s.Columns.length : Int) < 1)) || (decide (200 < (s.Columns.length : Int)))) || (decide (40 < (s.Covers.length : Int)))) then
  (some (Rp false))
  else
  (each (fun y68 i68 (s68 : (AMap Arr3Int Int)) nx68 =>
      jp (fun kj74 =>
        bif y68.Deck then
        (kj74 1)
        else
        (kj74 0)) fun (j74 : Int) =>
      bnd (some (AMap.get s68 (Arr3Int.mk y68.Bay y68.Row j74) 0)) fun v77 =>
      chk (v77 + 1) fun v78 =>
      bnd (M_ship_right y68) fun r80 =>
      bif (!r80) then
      (some (Rp false))
      else
      (nx68 (AMap.put s68 (Arr3Int.mk y68.Bay y68.Row j74) v78)))
    (fun (s68 : (AMap Arr3Int Int)) =>
      each (fun y84 i84 (s84 : (AMap Arr3Int Int)) nx84 =>
        bif (((decide (y84.Bay < 0)) || (decide (40 ≤ y84.Bay))) || (decide ((y84.Rows.length : Int) = 0))) then
        (some (Rp false))
        else
        (each (fun y157 i157 (s157 : (AMap Arr3Int Int)) nx157 =>
            bnd (bif ((!((decide (y157 < 0)) || (decide (30 < y157)))) && (decide (0 < (i157 : Int)))) then chk ((i157 : Int) - 1) some else some 0) fun v164 =>
            bnd (bif ((!((decide (y157 < 0)) || (decide (30 < y157)))) && (decide (0 < (i157 : Int)))) then gidx y84.Rows v164 some else some default) fun y165 =>
            bif (((decide (y157 < 0)) || (decide (30 < y157))) || ((decide (0 < (i157 : Int))) && (decide (y157 ≤ y165)))) then
            (some (Rp false))
            else
            (bnd (some (AMap.get s157 (Arr3Int.mk y84.Bay y157 2) 0)) fun v167 =>
              chk (v167 + 1) fun v168 =>
              nx157 (AMap.put s157 (Arr3Int.mk y84.Bay y157 2) v168)))
          (fun (s157 : (AMap Arr3Int Int)) =>
            nx84 s157) y84.Rows 0 s84))
      (fun (s84 : (AMap Arr3Int Int)) =>
        eachM (fun (x176 : Arr3Int × Int) (s176 : Unit) nx176 =>
          bif decide (1 < x176.2) then
          (lft (some (Rp false)))
          else
          (nx176 ()))
        (fun (s176 : Unit) =>
          some (Rp true)) (AMap.l s84) ()) s.Covers 0 s68) s.Columns 0 (AMap.empty : AMap Arr3Int Int))
def D_ship_Right (s : Ship) : Option Bool :=
  bif (((decide ((s.Columns.length : Int) < 1)) || (decide (200 < (s.Columns.length : Int)))) || (decide (40 < (s.Covers.length : Int)))) then
  (some (id false))
  else
  (each (fun y68 i68 (s68 : (AMap Arr3Int Int)) nx68 =>
      jp (fun kj74 =>
        bif y68.Deck then
        (kj74 1)
        else
        (kj74 0)) fun (j74 : Int) =>
      bnd (some (AMap.get s68 (Arr3Int.mk y68.Bay y68.Row j74) 0)) fun v77 =>
      chk (v77 + 1) fun v78 =>
      bnd (M_ship_right y68) fun r80 =>
      bif (!r80) then
      (some (id false))
      else
      (nx68 (AMap.put s68 (Arr3Int.mk y68.Bay y68.Row j74) v78)))
    (fun (s68 : (AMap Arr3Int Int)) =>
      each (fun y84 i84 (s84 : (AMap Arr3Int Int)) nx84 =>
        bif (((decide (y84.Bay < 0)) || (decide (40 ≤ y84.Bay))) || (decide ((y84.Rows.length : Int) = 0))) then
        (some (id false))
        else
        (each (fun y157 i157 (s157 : (AMap Arr3Int Int)) nx157 =>
            bnd (bif ((!((decide (y157 < 0)) || (decide (30 < y157)))) && (decide (0 < (i157 : Int)))) then chk ((i157 : Int) - 1) some else some 0) fun v164 =>
            bnd (bif ((!((decide (y157 < 0)) || (decide (30 < y157)))) && (decide (0 < (i157 : Int)))) then gidx y84.Rows v164 some else some default) fun y165 =>
            bif (((decide (y157 < 0)) || (decide (30 < y157))) || ((decide (0 < (i157 : Int))) && (decide (y157 ≤ y165)))) then
            (some (id false))
            else
            (bnd (some (AMap.get s157 (Arr3Int.mk y84.Bay y157 2) 0)) fun v167 =>
              chk (v167 + 1) fun v168 =>
              nx157 (AMap.put s157 (Arr3Int.mk y84.Bay y157 2) v168)))
          (fun (s157 : (AMap Arr3Int Int)) =>
            nx84 s157) y84.Rows 0 s84))
      (fun (s84 : (AMap Arr3Int Int)) =>
        runM (fun (x176 : Arr3Int × Int) (s176 : Unit) nx176 =>
          bif decide (1 < x176.2) then
          (lft (some (id false)))
          else
          (nx176 ()))
        (fun (s176 : Unit) =>
          some (id true)) (AMap.l s84) ()) s.Covers 0 s68) s.Columns 0 (AMap.empty : AMap Arr3Int Int))
theorem M_ship_Right_w (s : Ship) (Rp : Bool → Prop) (p : Prop) (h : M_ship_Right s Rp = some p) (hp : p) : Pure Try.prog 19 [.agg (Ship.cs s)] (fun av => ∃ r, Rp r ∧ av = BL r) := by
  unfold M_ship_Right at h
  refine Pure_ofG [.tmp 2] Try.func19 rfl rfl ?_
  refine JC_seq (fun K1 hK1 => ?_)
  refine JC_region ?_
  refine JL_go (u := .ptr 200000001 0) (A_box (u := .agg (Ship.cs s)) (cs := [LS 12 Column.av s.Columns, LS 2 Cover.av s.Covers, I64 s.Light.Kilos, I64 s.Light.X, I64 s.Light.Y, I64 s.Light.Z, LS 5 Row.av s.Rows, LS 5 Frame.av s.Frames, LS 6 Tank.av s.Tanks, I64 s.Limits.Tolerance, I64 s.Limits.Trim, I64 s.Limits.List_, I64 s.Limits.Stability]) 200000001 rfl rfl rfl rfl rfl) ?_ rfl rfl rfl
  refine JL_go (u := BL false) (A_assign rfl rfl) ?_ rfl rfl rfl
  refine JL_nil ?_
  refine hK1 _ _ ?_
  refine JC_freeze [(1, .dptr (Ship.cs s))] [] 200000001 rfl rfl rfl trivial rfl (by exact ⟨.ptr, trivial⟩) ?_
  refine JC_seq (fun K2 hK2 => ?_)
  refine JC_seq (fun K3 hK3 => ?_)
  refine JC_region ?_
  refine JL_go (u := .dptr (Ship.cs s)) (A_fieldM tf_field_47_0 rfl rfl rfl) ?_ rfl rfl rfl
  refine JL_go (u := LS 12 Column.av s.Columns) (A_load tf_scalar_37 rfl rfl rfl) ?_ rfl rfl rfl
  refine JL_lenM (f := Column.av) (xs := s.Columns) tf_slice_37 rfl rfl (fun hm15 => ?_) rfl rfl rfl
  refine JL_go (u := BL (decide ((s.Columns.length : Int) < 1))) (A_lss rfl rfl rfl) ?_ rfl rfl rfl
  refine JL_go (u := BL (decide ((s.Columns.length : Int) < 1))) (A_move rfl rfl) ?_ rfl rfl rfl
  refine JL_opt (u := .dptr (Ship.cs s)) [] rfl rfl rfl .scf trivial (fun hc => A_fieldM tf_field_47_0 rfl rfl rfl) ?_ rfl rfl rfl
  refine JL_opt (u := LS 12 Column.av s.Columns) [(18, .dptr (Ship.cs s))] rfl rfl rfl .scf ⟨.all id, trivial⟩ (fun hc => A_load tf_scalar_37 rfl rfl rfl) ?_ rfl rfl rfl
  refine JL_opt (u := I64 (s.Columns.length : Int)) [(19, LS 12 Column.av s.Columns)] rfl rfl rfl .scf ⟨.all id, trivial⟩ (fun hc => A_lenM (f := Column.av) (xs := s.Columns) tf_slice_37 rfl rfl) ?_ rfl rfl rfl
  refine JL_opt (u := BL (decide (200 < (s.Columns.length : Int)))) [(20, I64 (s.Columns.length : Int))] rfl rfl rfl .scf ⟨.all id, trivial⟩ (fun hc => A_gtr rfl rfl rfl) ?_ rfl rfl rfl
  refine JL_go (u := BL ((decide ((s.Columns.length : Int) < 1)) || (decide (200 < (s.Columns.length : Int))))) (A_or rfl rfl rfl rfl) ?_ rfl rfl rfl
  refine JL_go (u := BL ((decide ((s.Columns.length : Int) < 1)) || (decide (200 < (s.Columns.length : Int))))) (A_move rfl rfl) ?_ rfl rfl rfl
  refine JL_opt (u := .dptr ((Ship.cs s).drop 1)) [] rfl rfl rfl .scf trivial (fun hc => A_fieldM tf_field_47_1 rfl rfl rfl) ?_ rfl rfl rfl
  refine JL_opt (u := LS 2 Cover.av s.Covers) [(24, .dptr ((Ship.cs s).drop 1))] rfl rfl rfl .scf ⟨.all id, trivial⟩ (fun hc => A_load tf_scalar_38 rfl rfl rfl) ?_ rfl rfl rfl
  refine JL_opt (u := I64 (s.Covers.length : Int)) [(25, LS 2 Cover.av s.Covers)] rfl rfl rfl .scf ⟨.all id, trivial⟩ (fun hc => A_lenM (f := Cover.av) (xs := s.Covers) tf_slice_38 rfl rfl) ?_ rfl rfl rfl
  refine JL_opt (u := BL (decide (40 < (s.Covers.length : Int)))) [(26, I64 (s.Covers.length : Int))] rfl rfl rfl .scf ⟨.all id, trivial⟩ (fun hc => A_gtr rfl rfl rfl) ?_ rfl rfl rfl
  refine JL_go (u := BL (((decide ((s.Columns.length : Int) < 1)) || (decide (200 < (s.Columns.length : Int)))) || (decide (40 < (s.Covers.length : Int))))) (A_or rfl rfl rfl rfl) ?_ rfl rfl rfl
  refine JL_nil ?_
  refine hK3 _ _ ?_
  refine JC_cond rfl (fun hb => ?_) (fun hb => ?_)
  ·
    replace h := bif_t hb h
    refine JC_seq (fun K4 hK4 => ?_)
    refine JC_region ?_
    refine JL_go (u := BL false) (A_assign rfl rfl) ?_ rfl rfl rfl
    refine JL_nil ?_
    refine hK4 _ _ ?_
    refine JC_ret ?_
    exact ⟨[BL false], [], trivial, rfl, ⟨⟨_, rfl, .conv (.same rfl)⟩, trivial⟩, rfl, false, Eq.mpr (Option.some.inj h) hp, rfl⟩
  ·
    replace h := bif_f hb h
    refine JC_skip ?_
    refine hK2 _ _ ?_
    refine JC_seq (fun K5 hK5 => ?_)
    refine JC_region ?_
    refine JL_go (u := .mp 200000029) (A_makeMapM 200000029 Arr3Int.kv I64 rfl rfl) ?_ rfl rfl rfl
    refine JL_go (u := .mp 200000029) (A_assign rfl rfl) ?_ rfl rfl rfl
    refine JL_nil ?_
    refine hK5 _ _ ?_
    refine JC_seq (fun K6 hK6 => ?_)
    refine JC_seq (fun K7 hK7 => ?_)
    refine JC_region ?_
    refine JL_go (u := .dptr (Ship.cs s)) (A_fieldM tf_field_47_0 rfl rfl rfl) ?_ rfl rfl rfl
    refine JL_go (u := LS 12 Column.av s.Columns) (A_load tf_scalar_37 rfl rfl rfl) ?_ rfl rfl rfl
    refine JL_lenM (f := Column.av) (xs := s.Columns) tf_slice_37 rfl rfl (fun hm32 => ?_) rfl rfl rfl
    refine JL_go (u := I64 0) (A_move rfl rfl) ?_ rfl rfl rfl
    refine JL_nil ?_
    refine hK7 _ _ ?_
    refine JC_block ?_
    obtain ⟨b68, kx68, hb68, hkx68, h⟩ := each_in h
    refine JC_loop2 (fun i68 (s68 : (AMap Arr3Int Int)) => each b68 kx68 (List.drop i68 s.Columns) i68 s68 = some p) (fun i68 s68 => [(1, .dptr (Ship.cs s)), (3, .mp 200000029), (31, LS 12 Column.av s.Columns), (32, I64 (s.Columns.length : Int)), (33, I64 (i68 : Int))]) (fun i68 s68 => [(200000029, MP 96 Arr3Int.kv I64 s68)]) (fun i68 => s.Columns.length - i68) 0 (AMap.empty : AMap Arr3Int Int) h ⟨⟨.same rfl, .same rfl, .same rfl, .same rfl, .same rfl, trivial⟩, ⟨⟨_, rfl, .map⟩, trivial⟩, rfl⟩ ?_
    clear h
    intro i68 s68 hi68 K68 e68
    refine JC_seq (fun K69 hK69 => ?_)
    refine JC_region ?_
    refine JL_go (u := BL (decide ((i68 : Int) < (s.Columns.length : Int)))) (A_lss rfl rfl rfl) ?_ rfl rfl rfl
    refine JL_nil ?_
    refine hK69 _ _ ?_
    refine JC_seq (fun K70 hK70 => ?_)
    refine JC_cond rfl (fun hb => ?_) (fun hb => ?_)
    ·
      have hk68 := lt_len hb
      obtain ⟨y68, nx68, hy68, hn68, h⟩ := each_out hi68 hk68
      replace h := app4 hb68 h
      refine JC_skip ?_
      refine hK70 _ _ ?_
      refine JC_seq (fun K71 hK71 => ?_)
      refine JC_block ?_
      refine JC_seq (fun K72 hK72 => ?_)
      refine JC_region ?_
      refine JL_go (u := .dptr (Column.cs y68)) (A_indexM (f := Column.av) (xs := s.Columns) (y := y68) rfl rfl rfl tf_slice_37 hy68 rfl) ?_ rfl rfl rfl
      refine JL_go (u := .agg (Column.cs y68)) (A_loadAgg tf_agg_54 rfl rfl rfl) ?_ rfl rfl rfl
      refine JL_go (u := .ptr 200000005 0) (A_allocJ 200000005 12 tf_zsize_54 rfl rfl) ?_ rfl rfl rfl
      refine JL_go0 (u := .junk) (A_store (u := .agg (Column.cs y68)) (ds := [I64 y68.Bay, I64 y68.Row, BL y68.Deck, I64 y68.Tiers, I64 y68.Height, I64 y68.Kilos20, I64 y68.Kilos40, I64 y68.Lash, LS 1 I64 y68.Plugs, I64 y68.X, I64 y68.Y, I64 y68.Z]) tf_size_54 rfl rfl rfl rfl rfl rfl rfl rfl) ?_ rfl rfl
      refine JL_nil ?_
      refine hK72 _ _ ?_
      refine JC_freeze [(1, .dptr (Ship.cs s)), (3, .mp 200000029), (5, .dptr (Column.cs y68)), (31, LS 12 Column.av s.Columns), (32, I64 (s.Columns.length : Int)), (33, I64 (i68 : Int))] [(200000029, MP 96 Arr3Int.kv I64 s68)] 200000005 rfl rfl rfl ⟨⟨_, rfl, .map⟩, trivial⟩ rfl (by exact ⟨.conv (.same rfl), .conv (.same rfl), .ptr, .conv (.same rfl), .conv (.same rfl), .conv (.same rfl), trivial⟩) ?_
      refine JC_seq (fun K73 hK73 => ?_)
      refine JC_region ?_
      refine JL_go (u := I64 0) (A_assign rfl rfl) ?_ rfl rfl rfl
      refine JL_nil ?_
      refine hK73 _ _ ?_
      obtain ⟨kj74, hkj74, h⟩ := jp_out h
      refine JC_seqJ (fun j74 : Int => kj74 j74 = some p) (fun j74 => [(1, .dptr (Ship.cs s)), (3, .mp 200000029), (5, .dptr (Column.cs y68)), (6, I64 j74), (31, LS 12 Column.av s.Columns), (32, I64 (s.Columns.length : Int)), (33, I64 (i68 : Int))]) (fun j74 => [(200000029, MP 96 Arr3Int.kv I64 s68)]) (fun Kj74 ej74 => ?_) ?_
      ·
        refine JC_seq (fun K75 hK75 => ?_)
        refine JC_region ?_
        refine JL_go (u := .dptr ((Column.cs y68).drop 2)) (A_fieldM tf_field_54_2 rfl rfl rfl) ?_ rfl rfl rfl
        refine JL_go (u := BL y68.Deck) (A_load tf_scalar_4 rfl rfl rfl) ?_ rfl rfl rfl
        refine JL_nil ?_
        refine hK75 _ _ ?_
        refine JC_cond rfl (fun hb => ?_) (fun hb => ?_)
        ·
          replace h := bif_t hb h
          refine JC_region ?_
          refine JL_go (u := I64 1) (A_assign rfl rfl) ?_ rfl rfl rfl
          refine JL_nil ?_
          exact ej74 _ _ 1 h ⟨⟨.same rfl, .same rfl, .same rfl, .same rfl, .same rfl, .same rfl, .same rfl, trivial⟩, ⟨⟨_, rfl, .map⟩, trivial⟩, rfl⟩
        ·
          replace h := bif_f hb h
          refine JC_skip ?_
          exact ej74 _ _ 0 h ⟨⟨.same rfl, .same rfl, .same rfl, .same rfl, .same rfl, .same rfl, .same rfl, trivial⟩, ⟨⟨_, rfl, .map⟩, trivial⟩, rfl⟩
      · intro j74 h
        replace h := app1 hkj74 h
        refine JC_seq (fun K76 hK76 => ?_)
        refine JC_fits (l' := [(1, .dptr (Ship.cs s)), (3, .mp 200000029), (5, .dptr (Column.cs y68)), (6, I64 j74), (31, LS 12 Column.av s.Columns), (32, I64 (s.Columns.length : Int)), (33, I64 (i68 : Int))]) (L' := [(200000029, MP 96 Arr3Int.kv I64 s68)]) ⟨⟨.same rfl, .same rfl, .same rfl, .same rfl, .same rfl, .same rfl, .same rfl, trivial⟩, ⟨⟨_, rfl, .map⟩, trivial⟩, rfl⟩ ?_
        obtain ⟨v77, hv77, h⟩ := bnd_out h
        obtain ⟨v78, hv78, h⟩ := chk_out h
        refine JC_draw [9, 11] [0, 0, 0, 0, 0, 0, 0, 0, 0, 0, 1, 0] [0, 0, 0, 0, 0, 0, 0, 1, 1, 0, 1, 0] [[(200000029, MP 96 Arr3Int.kv I64 s68)], ((200000029, MI 96 Arr3Int.kv I64 s68 (Arr3Int.mk y68.Bay y68.Row j74) 0) :: [(200000029, MP 96 Arr3Int.kv I64 s68)]), ((200000029, MP 96 Arr3Int.kv I64 (AMap.put s68 (Arr3Int.mk y68.Bay y68.Row j74) v78)) :: ((200000029, MI 96 Arr3Int.kv I64 s68 (Arr3Int.mk y68.Bay y68.Row j74) 0) :: [(200000029, MP 96 Arr3Int.kv I64 s68)]))] tf_mixed (by kernel_rfl) rfl rfl ?_
        refine D_ro (u := .mp 200000029) rfl rfl ⟨O_go (A_move rfl rfl) rfl, trivial⟩ ?_ rfl
        refine D_ro (u := .dptr (Column.cs y68)) rfl rfl ⟨O_go (A_fieldM tf_field_54_0 rfl rfl rfl) rfl, trivial⟩ ?_ rfl
        refine D_ro (u := I64 y68.Bay) rfl rfl ⟨O_go (A_load tf_scalar_3 rfl rfl rfl) rfl, trivial⟩ ?_ rfl
        refine D_ro (u := .dptr ((Column.cs y68).drop 1)) rfl rfl ⟨O_go (A_fieldM tf_field_54_1 rfl rfl rfl) rfl, trivial⟩ ?_ rfl
        refine D_ro (u := I64 y68.Row) rfl rfl ⟨O_go (A_load tf_scalar_3 rfl rfl rfl) rfl, trivial⟩ ?_ rfl
        refine D_ro (u := I64 j74) rfl rfl ⟨O_go (A_move rfl rfl) rfl, trivial⟩ ?_ rfl
        refine D_ro (u := .agg [I64 y68.Bay, I64 y68.Row, I64 j74]) rfl rfl ⟨O_go (A_buildArr (cs := [I64 y68.Bay, I64 y68.Row, I64 j74]) [.int .i64 0, .int .i64 0, .int .i64 0] tf_arr_97 tf_zero_97 rfl rfl) rfl, trivial⟩ ?_ rfl
        refine D_ro (u := I64 v77) rfl rfl ⟨O_go (((Option.some.inj hv77) ▸ A_lookupM0 (av := I64) (m := s68) (a := (Arr3Int.mk y68.Bay y68.Row j74)) 0 (.int .i64 0) rfl rfl rfl rfl tk_97 tf_map_96 tf_zv_3 rfl)) rfl, O_go (((Option.some.inj hv77) ▸ A_lookupMI (av := I64) (m := s68) (a := (Arr3Int.mk y68.Bay y68.Row j74)) 0 (.int .i64 0) rfl rfl rfl rfl tk_97 tf_map_96 tf_zv_3 rfl)) rfl, trivial⟩ ?_ rfl
        refine D_ro (u := I64 v78) rfl rfl ⟨O_go (A_add hv78 rfl rfl rfl) rfl, O_go (A_add hv78 rfl rfl rfl) rfl, trivial⟩ ?_ rfl
        refine D_w (u := .tup [.junk, I64 (midx (AMap.l s68) (Arr3Int.mk y68.Bay y68.Row j74) : Int)]) rfl rfl rfl rfl (O_go (A_mapEntryM (m := s68) (a := (Arr3Int.mk y68.Bay y68.Row j74)) 0 (.int .i64 0) rfl rfl rfl rfl tk_97 tf_map_96 tf_zv_3 rfl) rfl) ?_ rfl
        refine D_ro (u := I64 (midx (AMap.l s68) (Arr3Int.mk y68.Bay y68.Row j74) : Int)) rfl rfl ⟨O_go (A_extract rfl rfl rfl) rfl, trivial⟩ ?_ rfl
        refine D_w0 (u := .junk) rfl rfl rfl rfl (O_go (A_entryStoreM (m := s68) (a := (Arr3Int.mk y68.Bay y68.Row j74)) (v := v78) 0 rfl rfl rfl rfl rfl rfl) rfl) ?_
        refine D_nil ?_
        refine hK76 _ _ ?_
        refine JC_seq (fun K79 hK79 => ?_)
        refine JC_region ?_
        refine JL_go (u := .agg (Column.cs y68)) (A_loadAgg tf_agg_54 rfl rfl rfl) ?_ rfl rfl rfl
        obtain ⟨r80, hr80, h⟩ := bnd_out h
        refine JL_go (u := BL r80) (A_call1 (args := [.agg (Column.cs y68)]) rfl (M_ship_right_w y68 r80 hr80) tf_call_37 ⟨rfl, rfl, trivial⟩) ?_ rfl rfl rfl
        refine JL_go (u := BL (!r80)) (A_not rfl rfl) ?_ rfl rfl rfl
        refine JL_nil ?_
        refine hK79 _ _ ?_
        refine JC_cond rfl (fun hb => ?_) (fun hb => ?_)
        ·
          replace h := bif_t hb h
          refine JC_seq (fun K81 hK81 => ?_)
          refine JC_region ?_
          refine JL_go (u := BL false) (A_assign rfl rfl) ?_ rfl rfl rfl
          refine JL_nil ?_
          refine hK81 _ _ ?_
          refine JC_ret ?_
          exact ⟨[BL false], [], trivial, rfl, ⟨⟨_, rfl, .conv (.same rfl)⟩, trivial⟩, rfl, false, Eq.mpr (Option.some.inj h) hp, rfl⟩
        ·
          replace h := bif_f hb h
          refine JC_skip ?_
          refine hK71 _ _ ?_
          refine JC_region ?_
          refine JL_go (u := I64 ((i68 + 1 : Nat) : Int)) (A_add (idx_succ hk68 hm32) rfl rfl rfl) ?_ rfl rfl rfl
          refine JL_go (u := I64 ((i68 + 1 : Nat) : Int)) (A_move rfl rfl) ?_ rfl rfl rfl
          refine JL_nil ?_
          exact e68 _ _ (i68 + 1) (AMap.put s68 (Arr3Int.mk y68.Bay y68.Row j74) v78) (app1 hn68 h) (by omega) ⟨⟨.same rfl, .same rfl, .same rfl, .same rfl, .same rfl, trivial⟩, ⟨⟨_, rfl, .map⟩, trivial⟩, rfl⟩
    ·
      have h := app1 hkx68 (each_nil hi68 (not_lt_len hb))
      refine JC_exit ?_
      refine hK6 _ _ ?_
      refine JC_seq (fun K82 hK82 => ?_)
      refine JC_seq (fun K83 hK83 => ?_)
      refine JC_region ?_
      refine JL_go (u := .dptr ((Ship.cs s).drop 1)) (A_fieldM tf_field_47_1 rfl rfl rfl) ?_ rfl rfl rfl
      refine JL_go (u := LS 2 Cover.av s.Covers) (A_load tf_scalar_38 rfl rfl rfl) ?_ rfl rfl rfl
      refine JL_lenM (f := Cover.av) (xs := s.Covers) tf_slice_38 rfl rfl (fun hm56 => ?_) rfl rfl rfl
      refine JL_go (u := I64 0) (A_move rfl rfl) ?_ rfl rfl rfl
      refine JL_nil ?_
      refine hK83 _ _ ?_
      refine JC_block ?_
      obtain ⟨b84, kx84, hb84, hkx84, h⟩ := each_in h
      refine JC_loop2 (fun i84 (s84 : (AMap Arr3Int Int)) => each b84 kx84 (List.drop i84 s.Covers) i84 s84 = some p) (fun i84 s84 => [(3, .mp 200000029), (55, LS 2 Cover.av s.Covers), (56, I64 (s.Covers.length : Int)), (57, I64 (i84 : Int))]) (fun i84 s84 => [(200000029, MP 96 Arr3Int.kv I64 s84)]) (fun i84 => s.Covers.length - i84) 0 s68 h ⟨⟨.same rfl, .same rfl, .same rfl, .same rfl, trivial⟩, ⟨⟨_, rfl, .map⟩, trivial⟩, rfl⟩ ?_
      clear h
      intro i84 s84 hi84 K84 e84
      refine JC_seq (fun K85 hK85 => ?_)
      refine JC_region ?_
      refine JL_go (u := BL (decide ((i84 : Int) < (s.Covers.length : Int)))) (A_lss rfl rfl rfl) ?_ rfl rfl rfl
      refine JL_nil ?_
      refine hK85 _ _ ?_
      refine JC_seq (fun K86 hK86 => ?_)
      refine JC_cond rfl (fun hb => ?_) (fun hb => ?_)
      ·
        have hk84 := lt_len hb
        obtain ⟨y84, nx84, hy84, hn84, h⟩ := each_out hi84 hk84
        replace h := app4 hb84 h
        refine JC_skip ?_
        refine hK86 _ _ ?_
        refine JC_seq (fun K87 hK87 => ?_)
        refine JC_block ?_
        refine JC_seq (fun K88 hK88 => ?_)
        refine JC_region ?_
        refine JL_go (u := .dptr [I64 y84.Bay, LS 1 I64 y84.Rows]) (A_indexM (f := Cover.av) (xs := s.Covers) (y := y84) rfl rfl rfl tf_slice_38 hy84 rfl) ?_ rfl rfl rfl
        refine JL_go (u := .agg [I64 y84.Bay, LS 1 I64 y84.Rows]) (A_loadAgg tf_agg_73 rfl rfl rfl) ?_ rfl rfl rfl
        refine JL_go (u := .ptr 200000008 0) (A_allocJ 200000008 2 tf_zsize_73 rfl rfl) ?_ rfl rfl rfl
        refine JL_go0 (u := .junk) (A_store (u := .agg [I64 y84.Bay, LS 1 I64 y84.Rows]) (ds := [I64 y84.Bay, LS 1 I64 y84.Rows]) tf_size_73 rfl rfl rfl rfl rfl rfl rfl rfl) ?_ rfl rfl
        refine JL_nil ?_
        refine hK88 _ _ ?_
        refine JC_freeze [(3, .mp 200000029), (8, .dptr [I64 y84.Bay, LS 1 I64 y84.Rows]), (55, LS 2 Cover.av s.Covers), (56, I64 (s.Covers.length : Int)), (57, I64 (i84 : Int))] [(200000029, MP 96 Arr3Int.kv I64 s84)] 200000008 rfl rfl rfl ⟨⟨_, rfl, .map⟩, trivial⟩ rfl (by exact ⟨.conv (.same rfl), .ptr, .conv (.same rfl), .conv (.same rfl), .conv (.same rfl), trivial⟩) ?_
        refine JC_seq (fun K89 hK89 => ?_)
        refine JC_seq (fun K90 hK90 => ?_)
        refine JC_region ?_
        refine JL_go (u := .dptr [I64 y84.Bay, LS 1 I64 y84.Rows]) (A_fieldM tf_field_73_0 rfl rfl rfl) ?_ rfl rfl rfl
        refine JL_go (u := I64 y84.Bay) (A_load tf_scalar_3 rfl rfl rfl) ?_ rfl rfl rfl
        refine JL_go (u := BL (decide (y84.Bay < 0))) (A_lss rfl rfl rfl) ?_ rfl rfl rfl
        refine JL_go (u := BL (decide (y84.Bay < 0))) (A_move rfl rfl) ?_ rfl rfl rfl
        refine JL_opt (u := .dptr [I64 y84.Bay, LS 1 I64 y84.Rows]) [] rfl rfl rfl .scf trivial (fun hc => A_fieldM tf_field_73_0 rfl rfl rfl) ?_ rfl rfl rfl
        refine JL_opt (u := I64 y84.Bay) [(65, .dptr [I64 y84.Bay, LS 1 I64 y84.Rows])] rfl rfl rfl .scf ⟨.all id, trivial⟩ (fun hc => A_load tf_scalar_3 rfl rfl rfl) ?_ rfl rfl rfl
        refine JL_opt (u := BL (decide (40 ≤ y84.Bay))) [(66, I64 y84.Bay)] rfl rfl rfl .scf ⟨.all id, trivial⟩ (fun hc => A_geq rfl rfl rfl) ?_ rfl rfl rfl
        refine JL_go (u := BL ((decide (y84.Bay < 0)) || (decide (40 ≤ y84.Bay)))) (A_or rfl rfl rfl rfl) ?_ rfl rfl rfl
        refine JL_go (u := BL ((decide (y84.Bay < 0)) || (decide (40 ≤ y84.Bay)))) (A_move rfl rfl) ?_ rfl rfl rfl
        refine JL_opt (u := .dptr [LS 1 I64 y84.Rows]) [] rfl rfl rfl .scf trivial (fun hc => A_fieldM tf_field_73_1 rfl rfl rfl) ?_ rfl rfl rfl
        refine JL_opt (u := LS 1 I64 y84.Rows) [(70, .dptr [LS 1 I64 y84.Rows])] rfl rfl rfl .scf ⟨.all id, trivial⟩ (fun hc => A_load tf_scalar_52 rfl rfl rfl) ?_ rfl rfl rfl
        refine JL_opt (u := I64 (y84.Rows.length : Int)) [(71, LS 1 I64 y84.Rows)] rfl rfl rfl .scf ⟨.all id, trivial⟩ (fun hc => A_lenM (f := I64) (xs := y84.Rows) tf_slice_52 rfl rfl) ?_ rfl rfl rfl
        refine JL_opt (u := BL (decide ((y84.Rows.length : Int) = 0))) [(72, I64 (y84.Rows.length : Int))] rfl rfl rfl .scf ⟨.all id, trivial⟩ (fun hc => A_eql rfl rfl rfl) ?_ rfl rfl rfl
        refine JL_go (u := BL (((decide (y84.Bay < 0)) || (decide (40 ≤ y84.Bay))) || (decide ((y84.Rows.length : Int) = 0)))) (A_or rfl rfl rfl rfl) ?_ rfl rfl rfl
        refine JL_nil ?_
        refine hK90 _ _ ?_
        refine JC_cond rfl (fun hb => ?_) (fun hb => ?_)
        ·
          replace h := bif_t hb h
          refine JC_seq (fun K91 hK91 => ?_)
          refine JC_region ?_
          refine JL_go (u := BL false) (A_assign rfl rfl) ?_ rfl rfl rfl
          refine JL_nil ?_
          refine hK91 _ _ ?_
          refine JC_ret ?_
          exact ⟨[BL false], [], trivial, rfl, ⟨⟨_, rfl, .conv (.same rfl)⟩, trivial⟩, rfl, false, Eq.mpr (Option.some.inj h) hp, rfl⟩
        ·
          replace h := bif_f hb h
          refine JC_skip ?_
          refine hK89 _ _ ?_
          refine JC_seq (fun K92 hK92 => ?_)
          refine JC_region ?_
          refine JL_go (u := .dptr [LS 1 I64 y84.Rows]) (A_fieldM tf_field_73_1 rfl rfl rfl) ?_ rfl rfl rfl
          refine JL_go (u := LS 1 I64 y84.Rows) (A_load tf_scalar_52 rfl rfl rfl) ?_ rfl rfl rfl
          refine JL_lenM (f := I64) (xs := y84.Rows) tf_slice_52 rfl rfl (fun hm77 => ?_) rfl rfl rfl
          refine JL_go (u := I64 0) (A_move rfl rfl) ?_ rfl rfl rfl
          refine JL_nil ?_
          refine hK92 _ _ ?_
          refine JC_block ?_
          obtain ⟨b157, kx157, hb157, hkx157, h⟩ := each_in h
          refine JC_loop2 (fun i157 (s157 : (AMap Arr3Int Int)) => each b157 kx157 (List.drop i157 y84.Rows) i157 s157 = some p) (fun i157 s157 => [(3, .mp 200000029), (8, .dptr [I64 y84.Bay, LS 1 I64 y84.Rows]), (55, LS 2 Cover.av s.Covers), (56, I64 (s.Covers.length : Int)), (57, I64 (i84 : Int)), (76, LS 1 I64 y84.Rows), (77, I64 (y84.Rows.length : Int)), (78, I64 (i157 : Int))]) (fun i157 s157 => [(200000029, MP 96 Arr3Int.kv I64 s157)]) (fun i157 => y84.Rows.length - i157) 0 s84 h ⟨⟨.same rfl, .same rfl, .same rfl, .same rfl, .same rfl, .same rfl, .same rfl, .same rfl, trivial⟩, ⟨⟨_, rfl, .map⟩, trivial⟩, rfl⟩ ?_
          clear h
          intro i157 s157 hi157 K157 e157
          refine JC_seq (fun K158 hK158 => ?_)
          refine JC_region ?_
          refine JL_go (u := BL (decide ((i157 : Int) < (y84.Rows.length : Int)))) (A_lss rfl rfl rfl) ?_ rfl rfl rfl
          refine JL_nil ?_
          refine hK158 _ _ ?_
          refine JC_seq (fun K159 hK159 => ?_)
          refine JC_cond rfl (fun hb => ?_) (fun hb => ?_)
          ·
            have hk157 := lt_len hb
            obtain ⟨y157, nx157, hy157, hn157, h⟩ := each_out hi157 hk157
            replace h := app4 hb157 h
            refine JC_skip ?_
            refine hK159 _ _ ?_
            refine JC_seq (fun K160 hK160 => ?_)
            refine JC_block ?_
            refine JC_seq (fun K161 hK161 => ?_)
            refine JC_region ?_
            refine JL_go (u := I64 (i157 : Int)) (A_move rfl rfl) ?_ rfl rfl rfl
            refine JL_go (u := .dptr [I64 y157]) (A_indexM (f := I64) (xs := y84.Rows) (y := y157) rfl rfl rfl tf_slice_52 hy157 rfl) ?_ rfl rfl rfl
            refine JL_go (u := I64 y157) (A_load tf_scalar_3 rfl rfl rfl) ?_ rfl rfl rfl
            refine JL_go (u := I64 (i157 : Int)) (A_assign rfl rfl) ?_ rfl rfl rfl
            refine JL_go (u := I64 y157) (A_assign rfl rfl) ?_ rfl rfl rfl
            refine JL_nil ?_
            refine hK161 _ _ ?_
            refine JC_seq (fun K162 hK162 => ?_)
            refine JC_seq (fun K163 hK163 => ?_)
            refine JC_region ?_
            refine JL_go (u := I64 y157) (A_move rfl rfl) ?_ rfl rfl rfl
            refine JL_go (u := BL (decide (y157 < 0))) (A_lss rfl rfl rfl) ?_ rfl rfl rfl
            refine JL_go (u := BL (decide (y157 < 0))) (A_move rfl rfl) ?_ rfl rfl rfl
            refine JL_opt (u := I64 y157) [] rfl rfl rfl .scf trivial (fun hc => A_move rfl rfl) ?_ rfl rfl rfl
            refine JL_opt (u := BL (decide (30 < y157))) [(86, I64 y157)] rfl rfl rfl .scf ⟨.all id, trivial⟩ (fun hc => A_gtr rfl rfl rfl) ?_ rfl rfl rfl
            refine JL_go (u := BL ((decide (y157 < 0)) || (decide (30 < y157)))) (A_or rfl rfl rfl rfl) ?_ rfl rfl rfl
            refine JL_go (u := BL ((decide (y157 < 0)) || (decide (30 < y157)))) (A_move rfl rfl) ?_ rfl rfl rfl
            refine JL_opt (u := I64 (i157 : Int)) [] rfl rfl rfl .scf trivial (fun hc => A_move rfl rfl) ?_ rfl rfl rfl
            refine JL_opt (u := BL (decide (0 < (i157 : Int)))) [(90, I64 (i157 : Int))] rfl rfl rfl .scf ⟨.all id, trivial⟩ (fun hc => A_gtr rfl rfl rfl) ?_ rfl rfl rfl
            refine JL_opt (u := BL (decide (0 < (i157 : Int)))) [(91, BL (decide (0 < (i157 : Int))))] rfl rfl rfl .scf ⟨.all id, trivial⟩ (fun hc => A_move rfl rfl) ?_ rfl rfl rfl
            refine JL_opt (u := I64 y157) [] rfl rfl rfl .optt trivial (fun hc => A_move rfl rfl) ?_ rfl rfl rfl
            refine JL_opt (u := .dptr [LS 1 I64 y84.Rows]) [] rfl rfl rfl .optt trivial (fun hc => A_fieldM tf_field_73_1 rfl rfl rfl) ?_ rfl rfl rfl
            refine JL_opt (u := LS 1 I64 y84.Rows) [(94, .dptr [LS 1 I64 y84.Rows])] rfl rfl rfl .optt ⟨.all id, trivial⟩ (fun hc => A_load tf_scalar_52 rfl rfl rfl) ?_ rfl rfl rfl
            refine JL_opt (u := I64 (i157 : Int)) [] rfl rfl rfl .optt trivial (fun hc => A_move rfl rfl) ?_ rfl rfl rfl
            obtain ⟨v164, hv164, h⟩ := bnd_out h
            refine JL_opt (u := I64 v164) [(96, I64 (i157 : Int))] rfl rfl rfl .optt ⟨.all id, trivial⟩ (fun hc => A_sub (chk_some (bif_t hc hv164)) rfl rfl rfl) ?_ rfl rfl rfl
            obtain ⟨y165, hy165, h⟩ := bnd_out h
            refine JL_opt (u := .dptr [I64 y165]) [(95, LS 1 I64 y84.Rows), (97, I64 v164)] rfl rfl rfl .optt ⟨.all id, .all id, trivial⟩ (fun hc => (match gidx_some (bif_t hc hy165) with | ⟨_, hm_, hy_⟩ => A_indexM (f := I64) (xs := y84.Rows) (y := y165) rfl rfl rfl tf_slice_52 hy_ hm_)) ?_ rfl rfl rfl
            refine JL_opt (u := I64 y165) [(98, .dptr [I64 y165])] rfl rfl rfl .optt ⟨.all id, trivial⟩ (fun hc => A_load tf_scalar_3 rfl rfl rfl) ?_ rfl rfl rfl
            refine JL_opt (u := BL (decide (y157 ≤ y165))) [(93, I64 y157), (99, I64 y165)] rfl rfl rfl .optt ⟨.all id, .all id, trivial⟩ (fun hc => A_leq rfl rfl rfl) ?_ rfl rfl rfl
            refine JL_opt (u := BL ((decide (0 < (i157 : Int))) && (decide (y157 ≤ y165)))) [(92, BL (decide (0 < (i157 : Int)))), (100, _)] rfl rfl rfl .scf ⟨.all id, .part, trivial⟩ (fun hc => A_and rfl rfl rfl rfl) ?_ rfl rfl rfl
            refine JL_go (u := BL (((decide (y157 < 0)) || (decide (30 < y157))) || ((decide (0 < (i157 : Int))) && (decide (y157 ≤ y165))))) (A_or rfl rfl rfl rfl) ?_ rfl rfl rfl
            refine JL_nil ?_
            refine hK163 _ _ ?_
            refine JC_cond rfl (fun hb => ?_) (fun hb => ?_)
            ·
              replace h := bif_t hb h
              refine JC_seq (fun K166 hK166 => ?_)
              refine JC_region ?_
              refine JL_go (u := BL false) (A_assign rfl rfl) ?_ rfl rfl rfl
              refine JL_nil ?_
              refine hK166 _ _ ?_
              refine JC_ret ?_
              exact ⟨[BL false], [], trivial, rfl, ⟨⟨_, rfl, .conv (.same rfl)⟩, trivial⟩, rfl, false, Eq.mpr (Option.some.inj h) hp, rfl⟩
            ·
              replace h := bif_f hb h
              refine JC_skip ?_
              refine hK162 _ _ ?_
              refine JC_fits (l' := [(3, .mp 200000029), (8, .dptr [I64 y84.Bay, LS 1 I64 y84.Rows]), (10, I64 y157), (55, LS 2 Cover.av s.Covers), (56, I64 (s.Covers.length : Int)), (57, I64 (i84 : Int)), (76, LS 1 I64 y84.Rows), (77, I64 (y84.Rows.length : Int)), (78, I64 (i157 : Int))]) (L' := [(200000029, MP 96 Arr3Int.kv I64 s157)]) ⟨⟨.same rfl, .same rfl, .same rfl, .same rfl, .same rfl, .same rfl, .same rfl, .same rfl, .same rfl, trivial⟩, ⟨⟨_, rfl, .map⟩, trivial⟩, rfl⟩ ?_
              obtain ⟨v167, hv167, h⟩ := bnd_out h
              obtain ⟨v168, hv168, h⟩ := chk_out h
              refine JC_draw [7, 9] [0, 0, 0, 0, 0, 0, 0, 0, 1, 0] [0, 0, 0, 0, 0, 1, 1, 0, 1, 0] [[(200000029, MP 96 Arr3Int.kv I64 s157)], ((200000029, MI 96 Arr3Int.kv I64 s157 (Arr3Int.mk y84.Bay y157 2) 0) :: [(200000029, MP 96 Arr3Int.kv I64 s157)]), ((200000029, MP 96 Arr3Int.kv I64 (AMap.put s157 (Arr3Int.mk y84.Bay y157 2) v168)) :: ((200000029, MI 96 Arr3Int.kv I64 s157 (Arr3Int.mk y84.Bay y157 2) 0) :: [(200000029, MP 96 Arr3Int.kv I64 s157)]))] tf_mixed (by kernel_rfl) rfl rfl ?_
              refine D_ro (u := .mp 200000029) rfl rfl ⟨O_go (A_move rfl rfl) rfl, trivial⟩ ?_ rfl
              refine D_ro (u := .dptr [I64 y84.Bay, LS 1 I64 y84.Rows]) rfl rfl ⟨O_go (A_fieldM tf_field_73_0 rfl rfl rfl) rfl, trivial⟩ ?_ rfl
              refine D_ro (u := I64 y84.Bay) rfl rfl ⟨O_go (A_load tf_scalar_3 rfl rfl rfl) rfl, trivial⟩ ?_ rfl
              refine D_ro (u := I64 y157) rfl rfl ⟨O_go (A_move rfl rfl) rfl, trivial⟩ ?_ rfl
              refine D_ro (u := .agg [I64 y84.Bay, I64 y157, I64 2]) rfl rfl ⟨O_go (A_buildArr (cs := [I64 y84.Bay, I64 y157, I64 2]) [.int .i64 0, .int .i64 0, .int .i64 0] tf_arr_97 tf_zero_97 rfl rfl) rfl, trivial⟩ ?_ rfl
              refine D_ro (u := I64 v167) rfl rfl ⟨O_go (((Option.some.inj hv167) ▸ A_lookupM0 (av := I64) (m := s157) (a := (Arr3Int.mk y84.Bay y157 2)) 0 (.int .i64 0) rfl rfl rfl rfl tk_97 tf_map_96 tf_zv_3 rfl)) rfl, O_go (((Option.some.inj hv167) ▸ A_lookupMI (av := I64) (m := s157) (a := (Arr3Int.mk y84.Bay y157 2)) 0 (.int .i64 0) rfl rfl rfl rfl tk_97 tf_map_96 tf_zv_3 rfl)) rfl, trivial⟩ ?_ rfl
              refine D_ro (u := I64 v168) rfl rfl ⟨O_go (A_add hv168 rfl rfl rfl) rfl, O_go (A_add hv168 rfl rfl rfl) rfl, trivial⟩ ?_ rfl
              refine D_w (u := .tup [.junk, I64 (midx (AMap.l s157) (Arr3Int.mk y84.Bay y157 2) : Int)]) rfl rfl rfl rfl (O_go (A_mapEntryM (m := s157) (a := (Arr3Int.mk y84.Bay y157 2)) 0 (.int .i64 0) rfl rfl rfl rfl tk_97 tf_map_96 tf_zv_3 rfl) rfl) ?_ rfl
              refine D_ro (u := I64 (midx (AMap.l s157) (Arr3Int.mk y84.Bay y157 2) : Int)) rfl rfl ⟨O_go (A_extract rfl rfl rfl) rfl, trivial⟩ ?_ rfl
              refine D_w0 (u := .junk) rfl rfl rfl rfl (O_go (A_entryStoreM (m := s157) (a := (Arr3Int.mk y84.Bay y157 2)) (v := v168) 0 rfl rfl rfl rfl rfl rfl) rfl) ?_
              refine D_nil ?_
              refine hK160 _ _ ?_
              refine JC_region ?_
              refine JL_go (u := I64 ((i157 + 1 : Nat) : Int)) (A_add (idx_succ hk157 hm77) rfl rfl rfl) ?_ rfl rfl rfl
              refine JL_go (u := I64 ((i157 + 1 : Nat) : Int)) (A_move rfl rfl) ?_ rfl rfl rfl
              refine JL_nil ?_
              exact e157 _ _ (i157 + 1) (AMap.put s157 (Arr3Int.mk y84.Bay y157 2) v168) (app1 hn157 h) (by omega) ⟨⟨.same rfl, .same rfl, .same rfl, .same rfl, .same rfl, .same rfl, .same rfl, .same rfl, trivial⟩, ⟨⟨_, rfl, .map⟩, trivial⟩, rfl⟩
          ·
            have h := app1 hkx157 (each_nil hi157 (not_lt_len hb))
            refine JC_exit ?_
            refine hK87 _ _ ?_
            refine JC_region ?_
            refine JL_go (u := I64 ((i84 + 1 : Nat) : Int)) (A_add (idx_succ hk84 hm56) rfl rfl rfl) ?_ rfl rfl rfl
            refine JL_go (u := I64 ((i84 + 1 : Nat) : Int)) (A_move rfl rfl) ?_ rfl rfl rfl
            refine JL_nil ?_
            exact e84 _ _ (i84 + 1) s157 (app1 hn84 h) (by omega) ⟨⟨.same rfl, .same rfl, .same rfl, .same rfl, trivial⟩, ⟨⟨_, rfl, .map⟩, trivial⟩, rfl⟩
      ·
        have h := app1 hkx84 (each_nil hi84 (not_lt_len hb))
        refine JC_exit ?_
        refine hK82 _ _ ?_
        refine JC_seq (fun K169 hK169 => ?_)
        refine JC_seq (fun K170 hK170 => ?_)
        refine JC_region ?_
        refine JL_go (u := .mp 200000029) (A_move rfl rfl) ?_ rfl rfl rfl
        refine JL_go (u := .it 200000115) (A_rangeM 200000115 (m := s84) rfl rfl rfl rfl tf_map_96) ?_ rfl rfl rfl
        refine JL_nil ?_
        refine hK170 _ _ ?_
        refine JC_block ?_
        obtain ⟨b176, kx176, hb176, hkx176, h⟩ := eachM_in h
        refine JC_loopM (AMap.size s84) (fun i176 (s176 : Unit) => MInv b176 kx176 (AMap.l s84) i176 s176) (fun i176 s176 => [(115, .it 200000115)]) (fun i176 s176 => [(200000029, MP 96 Arr3Int.kv I64 s84), (200000115, .iter 200000029 (AMap.size s84) i176)]) () (MInv.start h hp) ⟨⟨.same rfl, trivial⟩, ⟨⟨_, rfl, .map⟩, ⟨_, rfl, .iter rfl⟩, trivial⟩, rfl⟩ ?_
        clear h hp
        intro i176 s176 hi176 K176 e176
        refine JC_seq (fun K177 hK177 => ?_)
        refine JC_region ?_
        refine JL_step rfl rfl rfl (A_nextM (m := s84) rfl rfl rfl rfl) ?_
        intro u_ L_ hn_
        rcases hn_ with ⟨q176, x176, he176, hs176, rfl, rfl⟩ | ⟨ha176, rfl, rfl⟩
        ·
          obtain ⟨o176, h, ho1_176, ho2_176⟩ := hi176.step he176 hs176
          replace h := app3 hb176 h
          refine JL_go (u := BL true) (A_extract rfl rfl rfl) ?_ rfl rfl rfl
          refine JL_nil ?_
          refine hK177 _ _ ?_
          refine JC_seq (fun K178 hK178 => ?_)
          refine JC_condT rfl ?_
          refine JC_skip ?_
          refine hK178 _ _ ?_
          refine JC_block ?_
          refine JC_seq (fun K179 hK179 => ?_)
          refine JC_region ?_
          refine JL_go (u := .tup [.agg (Arr3Int.cs x176.1), I64 x176.2]) (A_entryM (kv := Arr3Int.kv) (av := I64) (m := s84) (q := q176) (seen := i176) (e := x176) rfl rfl rfl rfl he176) ?_ rfl rfl rfl
          refine JL_go (u := I64 x176.2) (A_extract rfl rfl rfl) ?_ rfl rfl rfl
          refine JL_go (u := I64 x176.2) (A_assign rfl rfl) ?_ rfl rfl rfl
          refine JL_nil ?_
          refine hK179 _ _ ?_
          refine JC_seq (fun K180 hK180 => ?_)
          refine JC_region ?_
          refine JL_go (u := I64 x176.2) (A_move rfl rfl) ?_ rfl rfl rfl
          refine JL_go (u := BL (decide (1 < x176.2))) (A_gtr rfl rfl rfl) ?_ rfl rfl rfl
          refine JL_nil ?_
          refine hK180 _ _ ?_
          refine JC_cond rfl (fun hb => ?_) (fun hb => ?_)
          ·
            replace h := bif_t hb h
            refine JC_seq (fun K181 hK181 => ?_)
            refine JC_region ?_
            refine JL_go (u := BL false) (A_assign rfl rfl) ?_ rfl rfl rfl
            refine JL_nil ?_
            refine hK181 _ _ ?_
            refine JC_ret ?_
            obtain ⟨y_, hy_, hl_⟩ := lft_out h
            exact ⟨[BL false], [], trivial, rfl, ⟨⟨_, rfl, .conv (.same rfl)⟩, trivial⟩, rfl, false, Eq.mpr (Option.some.inj hl_) (ho1_176 y_ hy_), rfl⟩
          ·
            replace h := bif_f hb h
            refine JC_skip ?_
            exact e176 _ _ (i176 ++ [q176]) () (ho2_176 _ (Option.some.inj h).symm) (unseen_lt (List.getElem?_eq_some_iff.1 he176).1 hs176) ⟨⟨.same rfl, trivial⟩, ⟨⟨_, rfl, .map⟩, ⟨_, rfl, .iter rfl⟩, trivial⟩, rfl⟩
        ·
          obtain ⟨p_, h, hp⟩ := hi176.done ha176
          replace h := app1 hkx176 h
          refine JL_go (u := BL false) (A_extract rfl rfl rfl) ?_ rfl rfl rfl
          refine JL_nil ?_
          refine hK177 _ _ ?_
          refine JC_seq (fun K182 hK182 => ?_)
          refine JC_condF rfl ?_
          refine JC_exit ?_
          refine hK169 _ _ ?_
          refine JC_seq (fun K183 hK183 => ?_)
          refine JC_region ?_
          refine JL_go (u := BL true) (A_assign rfl rfl) ?_ rfl rfl rfl
          refine JL_nil ?_
          refine hK183 _ _ ?_
          refine JC_ret ?_
          exact ⟨[BL true], [], trivial, rfl, ⟨⟨_, rfl, .conv (.same rfl)⟩, trivial⟩, rfl, true, Eq.mpr (Option.some.inj h) hp, rfl⟩
theorem M_ship_Right_s (S_ : (Ship) → Option Bool) (hS_ : ∀ s r, S_ s = some r → ∃ p : Prop, M_ship_Right s (fun r_ => r_ = r) = some p ∧ p) (s : Ship) (r : Bool) (h : S_ s = some r) : Pure Try.prog 19 [.agg (Ship.cs s)] (· = BL r) := by
  obtain ⟨p, h1, h2⟩ := hS_ s r h
  exact (M_ship_Right_w s _ p h1 h2).monoP (fun av hh => by obtain ⟨r_, rfl, ha⟩ := hh; exact ha)

def M_plan_Boxes (boxes : List Box) (calls : Int) : Option Bool :=
  bif (((decide (calls < 1)) || (decide (20 < calls))) || (decide (2000 < (boxes.length : Int)))) then
  (some false)
  else
  (each (fun y28 i28 (s28 : Int) nx28 =>
      bif ((((((decide (y28.ID ≤ s28)) || (decide (999999 < y28.ID))) || ((decide (y28.Size ≠ 40)) && ((decide (y28.Size ≠ 20)) || y28.High))) || (decide (y28.Load < 0))) || (decide (y28.Discharge ≤ y28.Load))) || (decide (calls ≤ y28.Discharge))) then
      (some false)
      else
      (nx28 y28.ID))
    (fun (s28 : Int) =>
      some true) boxes 0 0)
theorem M_plan_Boxes_w (boxes : List Box) (calls : Int) (r : Bool) (h : M_plan_Boxes boxes calls = some r) : Pure Try.prog 38 [LS 9 Box.av boxes, I64 calls] (· = BL r) := by
  unfold M_plan_Boxes at h
  refine Pure_ofG [.tmp 4] Try.func38 rfl rfl ?_
  refine JC_seq (fun K1 hK1 => ?_)
  refine JC_region ?_
  refine JL_go (u := BL false) (A_assign rfl rfl) ?_ rfl rfl rfl
  refine JL_nil ?_
  refine hK1 _ _ ?_
  refine JC_seq (fun K2 hK2 => ?_)
  refine JC_seq (fun K3 hK3 => ?_)
  refine JC_region ?_
  refine JL_go (u := I64 calls) (A_move rfl rfl) ?_ rfl rfl rfl
  refine JL_go (u := BL (decide (calls < 1))) (A_lss rfl rfl rfl) ?_ rfl rfl rfl
  refine JL_go (u := BL (decide (calls < 1))) (A_move rfl rfl) ?_ rfl rfl rfl
  refine JL_opt (u := I64 calls) [] rfl rfl rfl .scf trivial (fun hc => A_move rfl rfl) ?_ rfl rfl rfl
  refine JL_opt (u := BL (decide (20 < calls))) [(11, I64 calls)] rfl rfl rfl .scf ⟨.all id, trivial⟩ (fun hc => A_gtr rfl rfl rfl) ?_ rfl rfl rfl
  refine JL_go (u := BL ((decide (calls < 1)) || (decide (20 < calls)))) (A_or rfl rfl rfl rfl) ?_ rfl rfl rfl
  refine JL_go (u := BL ((decide (calls < 1)) || (decide (20 < calls)))) (A_move rfl rfl) ?_ rfl rfl rfl
  refine JL_opt (u := LS 9 Box.av boxes) [] rfl rfl rfl .scf trivial (fun hc => A_move rfl rfl) ?_ rfl rfl rfl
  refine JL_opt (u := I64 (boxes.length : Int)) [(15, LS 9 Box.av boxes)] rfl rfl rfl .scf ⟨.all id, trivial⟩ (fun hc => A_lenM (f := Box.av) (xs := boxes) tf_slice_22 rfl rfl) ?_ rfl rfl rfl
  refine JL_opt (u := BL (decide (2000 < (boxes.length : Int)))) [(16, I64 (boxes.length : Int))] rfl rfl rfl .scf ⟨.all id, trivial⟩ (fun hc => A_gtr rfl rfl rfl) ?_ rfl rfl rfl
  refine JL_go (u := BL (((decide (calls < 1)) || (decide (20 < calls))) || (decide (2000 < (boxes.length : Int))))) (A_or rfl rfl rfl rfl) ?_ rfl rfl rfl
  refine JL_nil ?_
  refine hK3 _ _ ?_
  refine JC_cond rfl (fun hb => ?_) (fun hb => ?_)
  ·
    replace h := bif_t hb h
    refine JC_seq (fun K4 hK4 => ?_)
    refine JC_region ?_
    refine JL_go (u := BL false) (A_assign rfl rfl) ?_ rfl rfl rfl
    refine JL_nil ?_
    refine hK4 _ _ ?_
    refine JC_ret ?_
    exact ⟨[BL false], [], trivial, rfl, ⟨⟨_, rfl, .conv (.same rfl)⟩, trivial⟩, rfl, congrArg (fun r : Bool => (BL r : AV)) (Option.some.inj h)⟩
  ·
    replace h := bif_f hb h
    refine JC_skip ?_
    refine hK2 _ _ ?_
    refine JC_seq (fun K5 hK5 => ?_)
    refine JC_region ?_
    refine JL_go (u := I64 0) (A_assign rfl rfl) ?_ rfl rfl rfl
    refine JL_nil ?_
    refine hK5 _ _ ?_
    refine JC_seq (fun K6 hK6 => ?_)
    refine JC_seq (fun K7 hK7 => ?_)
    refine JC_region ?_
    refine JL_go (u := LS 9 Box.av boxes) (A_move rfl rfl) ?_ rfl rfl rfl
    refine JL_lenM (f := Box.av) (xs := boxes) tf_slice_22 rfl rfl (fun hm20 => ?_) rfl rfl rfl
    refine JL_go (u := I64 0) (A_move rfl rfl) ?_ rfl rfl rfl
    refine JL_nil ?_
    refine hK7 _ _ ?_
    refine JC_block ?_
    obtain ⟨b28, kx28, hb28, hkx28, h⟩ := each_in h
    refine JC_loop2 (fun i28 (s28 : Int) => each b28 kx28 (List.drop i28 boxes) i28 s28 = some r) (fun i28 s28 => [(1, I64 calls), (5, I64 s28), (19, LS 9 Box.av boxes), (20, I64 (boxes.length : Int)), (21, I64 (i28 : Int))]) (fun i28 s28 => []) (fun i28 => boxes.length - i28) 0 0 h ⟨⟨.same rfl, .same rfl, .same rfl, .same rfl, .same rfl, trivial⟩, trivial, rfl⟩ ?_
    clear h
    intro i28 s28 hi28 K28 e28
    refine JC_seq (fun K29 hK29 => ?_)
    refine JC_region ?_
    refine JL_go (u := BL (decide ((i28 : Int) < (boxes.length : Int)))) (A_lss rfl rfl rfl) ?_ rfl rfl rfl
    refine JL_nil ?_
    refine hK29 _ _ ?_
    refine JC_seq (fun K30 hK30 => ?_)
    refine JC_cond rfl (fun hb => ?_) (fun hb => ?_)
    ·
      have hk28 := lt_len hb
      obtain ⟨y28, nx28, hy28, hn28, h⟩ := each_out hi28 hk28
      replace h := app4 hb28 h
      refine JC_skip ?_
      refine hK30 _ _ ?_
      refine JC_seq (fun K31 hK31 => ?_)
      refine JC_block ?_
      refine JC_seq (fun K32 hK32 => ?_)
      refine JC_region ?_
      refine JL_go (u := .dptr (Box.cs y28)) (A_indexM (f := Box.av) (xs := boxes) (y := y28) rfl rfl rfl tf_slice_22 hy28 rfl) ?_ rfl rfl rfl
      refine JL_go (u := .agg (Box.cs y28)) (A_loadAgg tf_agg_31 rfl rfl rfl) ?_ rfl rfl rfl
      refine JL_go (u := .ptr 390000007 0) (A_allocJ 390000007 9 tf_zsize_31 rfl rfl) ?_ rfl rfl rfl
      refine JL_go0 (u := .junk) (A_store (u := .agg (Box.cs y28)) (ds := [I64 y28.ID, ST y28.Number, U8 y28.Size, BL y28.High, I64 y28.Kilos, I64 y28.Load, I64 y28.Discharge, U8 y28.Class, BL y28.Reefer]) tf_size_31 rfl rfl rfl rfl rfl rfl rfl rfl) ?_ rfl rfl
      refine JL_nil ?_
      refine hK32 _ _ ?_
      refine JC_freeze [(1, I64 calls), (5, I64 s28), (7, .dptr (Box.cs y28)), (19, LS 9 Box.av boxes), (20, I64 (boxes.length : Int)), (21, I64 (i28 : Int))] [] 390000007 rfl rfl rfl trivial rfl (by exact ⟨.conv (.same rfl), .conv (.same rfl), .ptr, .conv (.same rfl), .conv (.same rfl), .conv (.same rfl), trivial⟩) ?_
      refine JC_seq (fun K33 hK33 => ?_)
      refine JC_seq (fun K34 hK34 => ?_)
      refine JC_region ?_
      refine JL_go (u := .dptr (Box.cs y28)) (A_fieldM tf_field_31_0 rfl rfl rfl) ?_ rfl rfl rfl
      refine JL_go (u := I64 y28.ID) (A_load tf_scalar_3 rfl rfl rfl) ?_ rfl rfl rfl
      refine JL_go (u := I64 s28) (A_move rfl rfl) ?_ rfl rfl rfl
      refine JL_go (u := BL (decide (y28.ID ≤ s28))) (A_leq rfl rfl rfl) ?_ rfl rfl rfl
      refine JL_go (u := BL (decide (y28.ID ≤ s28))) (A_move rfl rfl) ?_ rfl rfl rfl
      refine JL_opt (u := .dptr (Box.cs y28)) [] rfl rfl rfl .scf trivial (fun hc => A_fieldM tf_field_31_0 rfl rfl rfl) ?_ rfl rfl rfl
      refine JL_opt (u := I64 y28.ID) [(30, .dptr (Box.cs y28))] rfl rfl rfl .scf ⟨.all id, trivial⟩ (fun hc => A_load tf_scalar_3 rfl rfl rfl) ?_ rfl rfl rfl
      refine JL_opt (u := BL (decide (999999 < y28.ID))) [(31, I64 y28.ID)] rfl rfl rfl .scf ⟨.all id, trivial⟩ (fun hc => A_gtr rfl rfl rfl) ?_ rfl rfl rfl
      refine JL_go (u := BL ((decide (y28.ID ≤ s28)) || (decide (999999 < y28.ID)))) (A_or rfl rfl rfl rfl) ?_ rfl rfl rfl
      refine JL_go (u := BL ((decide (y28.ID ≤ s28)) || (decide (999999 < y28.ID)))) (A_move rfl rfl) ?_ rfl rfl rfl
      refine JL_opt (u := .dptr ((Box.cs y28).drop 2)) [] rfl rfl rfl .scf trivial (fun hc => A_fieldM tf_field_31_2 rfl rfl rfl) ?_ rfl rfl rfl
      refine JL_opt (u := U8 y28.Size) [(35, .dptr ((Box.cs y28).drop 2))] rfl rfl rfl .scf ⟨.all id, trivial⟩ (fun hc => A_load tf_scalar_5 rfl rfl rfl) ?_ rfl rfl rfl
      refine JL_opt (u := BL (decide (y28.Size ≠ 40))) [(36, U8 y28.Size)] rfl rfl rfl .scf ⟨.all id, trivial⟩ (fun hc => A_neq rfl rfl rfl) ?_ rfl rfl rfl
      refine JL_opt (u := BL (decide (y28.Size ≠ 40))) [(37, BL (decide (y28.Size ≠ 40)))] rfl rfl rfl .scf ⟨.all id, trivial⟩ (fun hc => A_move rfl rfl) ?_ rfl rfl rfl
      refine JL_opt (u := .dptr ((Box.cs y28).drop 2)) [] rfl rfl rfl .optt trivial (fun hc => A_fieldM tf_field_31_2 rfl rfl rfl) ?_ rfl rfl rfl
      refine JL_opt (u := U8 y28.Size) [(39, .dptr ((Box.cs y28).drop 2))] rfl rfl rfl .optt ⟨.all id, trivial⟩ (fun hc => A_load tf_scalar_5 rfl rfl rfl) ?_ rfl rfl rfl
      refine JL_opt (u := BL (decide (y28.Size ≠ 20))) [(40, U8 y28.Size)] rfl rfl rfl .optt ⟨.all id, trivial⟩ (fun hc => A_neq rfl rfl rfl) ?_ rfl rfl rfl
      refine JL_opt (u := BL (decide (y28.Size ≠ 20))) [(41, BL (decide (y28.Size ≠ 20)))] rfl rfl rfl .optt ⟨.all id, trivial⟩ (fun hc => A_move rfl rfl) ?_ rfl rfl rfl
      refine JL_opt (u := .dptr ((Box.cs y28).drop 3)) [] rfl rfl rfl .optf trivial (fun hc => A_fieldM tf_field_31_3 rfl rfl rfl) ?_ rfl rfl rfl
      refine JL_opt (u := BL y28.High) [(43, .dptr ((Box.cs y28).drop 3))] rfl rfl rfl .optf ⟨.all id, trivial⟩ (fun hc => A_load tf_scalar_4 rfl rfl rfl) ?_ rfl rfl rfl
      refine JL_opt (u := BL ((decide (y28.Size ≠ 20)) || y28.High)) [(42, BL (decide (y28.Size ≠ 20))), (44, _)] rfl rfl rfl .optt ⟨.all id, .part, trivial⟩ (fun hc => A_or rfl rfl rfl rfl) ?_ rfl rfl rfl
      refine JL_opt (u := BL ((decide (y28.Size ≠ 40)) && ((decide (y28.Size ≠ 20)) || y28.High))) [(38, BL (decide (y28.Size ≠ 40))), (45, _)] rfl rfl rfl .scf ⟨.all id, .part, trivial⟩ (fun hc => A_and rfl rfl rfl rfl) ?_ rfl rfl rfl
      refine JL_go (u := BL (((decide (y28.ID ≤ s28)) || (decide (999999 < y28.ID))) || ((decide (y28.Size ≠ 40)) && ((decide (y28.Size ≠ 20)) || y28.High)))) (A_or rfl rfl rfl rfl) ?_ rfl rfl rfl
      refine JL_go (u := BL (((decide (y28.ID ≤ s28)) || (decide (999999 < y28.ID))) || ((decide (y28.Size ≠ 40)) && ((decide (y28.Size ≠ 20)) || y28.High)))) (A_move rfl rfl) ?_ rfl rfl rfl
      refine JL_opt (u := .dptr ((Box.cs y28).drop 5)) [] rfl rfl rfl .scf trivial (fun hc => A_fieldM tf_field_31_5 rfl rfl rfl) ?_ rfl rfl rfl
      refine JL_opt (u := I64 y28.Load) [(49, .dptr ((Box.cs y28).drop 5))] rfl rfl rfl .scf ⟨.all id, trivial⟩ (fun hc => A_load tf_scalar_3 rfl rfl rfl) ?_ rfl rfl rfl
      refine JL_opt (u := BL (decide (y28.Load < 0))) [(50, I64 y28.Load)] rfl rfl rfl .scf ⟨.all id, trivial⟩ (fun hc => A_lss rfl rfl rfl) ?_ rfl rfl rfl
      refine JL_go (u := BL ((((decide (y28.ID ≤ s28)) || (decide (999999 < y28.ID))) || ((decide (y28.Size ≠ 40)) && ((decide (y28.Size ≠ 20)) || y28.High))) || (decide (y28.Load < 0)))) (A_or rfl rfl rfl rfl) ?_ rfl rfl rfl
      refine JL_go (u := BL ((((decide (y28.ID ≤ s28)) || (decide (999999 < y28.ID))) || ((decide (y28.Size ≠ 40)) && ((decide (y28.Size ≠ 20)) || y28.High))) || (decide (y28.Load < 0)))) (A_move rfl rfl) ?_ rfl rfl rfl
      refine JL_opt (u := .dptr ((Box.cs y28).drop 5)) [] rfl rfl rfl .scf trivial (fun hc => A_fieldM tf_field_31_5 rfl rfl rfl) ?_ rfl rfl rfl
      refine JL_opt (u := I64 y28.Load) [(54, .dptr ((Box.cs y28).drop 5))] rfl rfl rfl .scf ⟨.all id, trivial⟩ (fun hc => A_load tf_scalar_3 rfl rfl rfl) ?_ rfl rfl rfl
      refine JL_opt (u := .dptr ((Box.cs y28).drop 6)) [] rfl rfl rfl .scf trivial (fun hc => A_fieldM tf_field_31_6 rfl rfl rfl) ?_ rfl rfl rfl
      refine JL_opt (u := I64 y28.Discharge) [(56, .dptr ((Box.cs y28).drop 6))] rfl rfl rfl .scf ⟨.all id, trivial⟩ (fun hc => A_load tf_scalar_3 rfl rfl rfl) ?_ rfl rfl rfl
      refine JL_opt (u := BL (decide (y28.Discharge ≤ y28.Load))) [(55, I64 y28.Load), (57, I64 y28.Discharge)] rfl rfl rfl .scf ⟨.all id, .all id, trivial⟩ (fun hc => A_geq rfl rfl rfl) ?_ rfl rfl rfl
      refine JL_go (u := BL (((((decide (y28.ID ≤ s28)) || (decide (999999 < y28.ID))) || ((decide (y28.Size ≠ 40)) && ((decide (y28.Size ≠ 20)) || y28.High))) || (decide (y28.Load < 0))) || (decide (y28.Discharge ≤ y28.Load)))) (A_or rfl rfl rfl rfl) ?_ rfl rfl rfl
      refine JL_go (u := BL (((((decide (y28.ID ≤ s28)) || (decide (999999 < y28.ID))) || ((decide (y28.Size ≠ 40)) && ((decide (y28.Size ≠ 20)) || y28.High))) || (decide (y28.Load < 0))) || (decide (y28.Discharge ≤ y28.Load)))) (A_move rfl rfl) ?_ rfl rfl rfl
      refine JL_opt (u := .dptr ((Box.cs y28).drop 6)) [] rfl rfl rfl .scf trivial (fun hc => A_fieldM tf_field_31_6 rfl rfl rfl) ?_ rfl rfl rfl
      refine JL_opt (u := I64 y28.Discharge) [(61, .dptr ((Box.cs y28).drop 6))] rfl rfl rfl .scf ⟨.all id, trivial⟩ (fun hc => A_load tf_scalar_3 rfl rfl rfl) ?_ rfl rfl rfl
      refine JL_opt (u := I64 calls) [] rfl rfl rfl .scf trivial (fun hc => A_move rfl rfl) ?_ rfl rfl rfl
      refine JL_opt (u := BL (decide (calls ≤ y28.Discharge))) [(62, I64 y28.Discharge), (63, I64 calls)] rfl rfl rfl .scf ⟨.all id, .all id, trivial⟩ (fun hc => A_geq rfl rfl rfl) ?_ rfl rfl rfl
      refine JL_go (u := BL ((((((decide (y28.ID ≤ s28)) || (decide (999999 < y28.ID))) || ((decide (y28.Size ≠ 40)) && ((decide (y28.Size ≠ 20)) || y28.High))) || (decide (y28.Load < 0))) || (decide (y28.Discharge ≤ y28.Load))) || (decide (calls ≤ y28.Discharge)))) (A_or rfl rfl rfl rfl) ?_ rfl rfl rfl
      refine JL_nil ?_
      refine hK34 _ _ ?_
      refine JC_cond rfl (fun hb => ?_) (fun hb => ?_)
      ·
        replace h := bif_t hb h
        refine JC_seq (fun K35 hK35 => ?_)
        refine JC_region ?_
        refine JL_go (u := BL false) (A_assign rfl rfl) ?_ rfl rfl rfl
        refine JL_nil ?_
        refine hK35 _ _ ?_
        refine JC_ret ?_
        exact ⟨[BL false], [], trivial, rfl, ⟨⟨_, rfl, .conv (.same rfl)⟩, trivial⟩, rfl, congrArg (fun r : Bool => (BL r : AV)) (Option.some.inj h)⟩
      ·
        replace h := bif_f hb h
        refine JC_skip ?_
        refine hK33 _ _ ?_
        refine JC_region ?_
        refine JL_go (u := .dptr (Box.cs y28)) (A_fieldM tf_field_31_0 rfl rfl rfl) ?_ rfl rfl rfl
        refine JL_go (u := I64 y28.ID) (A_load tf_scalar_3 rfl rfl rfl) ?_ rfl rfl rfl
        refine JL_go (u := I64 y28.ID) (A_assign rfl rfl) ?_ rfl rfl rfl
        refine JL_nil ?_
        refine hK31 _ _ ?_
        refine JC_region ?_
        refine JL_go (u := I64 ((i28 + 1 : Nat) : Int)) (A_add (idx_succ hk28 hm20) rfl rfl rfl) ?_ rfl rfl rfl
        refine JL_go (u := I64 ((i28 + 1 : Nat) : Int)) (A_move rfl rfl) ?_ rfl rfl rfl
        refine JL_nil ?_
        exact e28 _ _ (i28 + 1) y28.ID (app1 hn28 h) (by omega) ⟨⟨.same rfl, .same rfl, .same rfl, .same rfl, .same rfl, trivial⟩, trivial, rfl⟩
    ·
      have h := app1 hkx28 (each_nil hi28 (not_lt_len hb))
      refine JC_exit ?_
      refine hK6 _ _ ?_
      refine JC_seq (fun K36 hK36 => ?_)
      refine JC_region ?_
      refine JL_go (u := BL true) (A_assign rfl rfl) ?_ rfl rfl rfl
      refine JL_nil ?_
      refine hK36 _ _ ?_
      refine JC_ret ?_
      exact ⟨[BL true], [], trivial, rfl, ⟨⟨_, rfl, .conv (.same rfl)⟩, trivial⟩, rfl, congrArg (fun r : Bool => (BL r : AV)) (Option.some.inj h)⟩

def M_cmp_isNaN_int (x : Int) : Option Bool :=
  some (decide (x ≠ x))
theorem M_cmp_isNaN_int_w (x : Int) (r : Bool) (h : M_cmp_isNaN_int x = some r) : Pure Try.prog 58 [I64 x] (· = BL r) := by
  unfold M_cmp_isNaN_int at h
  refine Pure_ofG [.tmp 2] Try.func58 rfl rfl ?_
  refine JC_seq (fun K1 hK1 => ?_)
  refine JC_region ?_
  refine JL_go (u := BL false) (A_assign rfl rfl) ?_ rfl rfl rfl
  refine JL_nil ?_
  refine hK1 _ _ ?_
  refine JC_seq (fun K2 hK2 => ?_)
  refine JC_region ?_
  refine JL_go (u := I64 x) (A_move rfl rfl) ?_ rfl rfl rfl
  refine JL_go (u := I64 x) (A_move rfl rfl) ?_ rfl rfl rfl
  refine JL_go (u := BL (decide (x ≠ x))) (A_neq rfl rfl rfl) ?_ rfl rfl rfl
  refine JL_go (u := BL (decide (x ≠ x))) (A_assign rfl rfl) ?_ rfl rfl rfl
  refine JL_nil ?_
  refine hK2 _ _ ?_
  refine JC_ret ?_
  exact ⟨[BL (decide (x ≠ x))], [], trivial, rfl, ⟨⟨_, rfl, .conv (.same rfl)⟩, trivial⟩, rfl, congrArg (fun r : Bool => (BL r : AV)) (Option.some.inj h)⟩

def M_cmp_Compare_int (x : Int) (y : Int) : Option Int :=
  bnd (M_cmp_isNaN_int x) fun r3 =>
  bnd (M_cmp_isNaN_int y) fun r5 =>
  bif r3 then
  (bif r5 then
    (some 0)
    else
    (some (-1)))
  else
  (bif r5 then
    (some 1)
    else
    (bif decide (x < y) then
      (some (-1))
      else
      (bif decide (y < x) then
        (some 1)
        else
        (some 0))))
theorem M_cmp_Compare_int_w (x : Int) (y : Int) (r : Int) (h : M_cmp_Compare_int x y = some r) : Pure Try.prog 34 [I64 x, I64 y] (· = I64 r) := by
  unfold M_cmp_Compare_int at h
  refine Pure_ofG [.tmp 4] Try.func34 rfl rfl ?_
  refine JC_seq (fun K1 hK1 => ?_)
  refine JC_region ?_
  refine JL_go (u := I64 0) (A_assign rfl rfl) ?_ rfl rfl rfl
  refine JL_nil ?_
  refine hK1 _ _ ?_
  refine JC_seq (fun K2 hK2 => ?_)
  refine JC_region ?_
  refine JL_go (u := I64 x) (A_move rfl rfl) ?_ rfl rfl rfl
  obtain ⟨r3, hr3, h⟩ := bnd_out h
  refine JL_go (u := BL r3) (A_call1 (args := [I64 x]) rfl (M_cmp_isNaN_int_w x r3 hr3) tf_call_58 ⟨rfl, rfl, trivial⟩) ?_ rfl rfl rfl
  refine JL_go (u := BL r3) (A_assign rfl rfl) ?_ rfl rfl rfl
  refine JL_nil ?_
  refine hK2 _ _ ?_
  refine JC_seq (fun K4 hK4 => ?_)
  refine JC_region ?_
  refine JL_go (u := I64 y) (A_move rfl rfl) ?_ rfl rfl rfl
  obtain ⟨r5, hr5, h⟩ := bnd_out h
  refine JL_go (u := BL r5) (A_call1 (args := [I64 y]) rfl (M_cmp_isNaN_int_w y r5 hr5) tf_call_58 ⟨rfl, rfl, trivial⟩) ?_ rfl rfl rfl
  refine JL_go (u := BL r5) (A_assign rfl rfl) ?_ rfl rfl rfl
  refine JL_nil ?_
  refine hK4 _ _ ?_
  refine JC_seq (fun K6 hK6 => ?_)
  refine JC_seq (fun K7 hK7 => ?_)
  refine JC_region ?_
  refine JL_go (u := BL r3) (A_move rfl rfl) ?_ rfl rfl rfl
  refine JL_nil ?_
  refine hK7 _ _ ?_
  refine JC_cond rfl (fun hb => ?_) (fun hb => ?_)
  ·
    replace h := bif_t hb h
    refine JC_seq (fun K8 hK8 => ?_)
    refine JC_seq (fun K9 hK9 => ?_)
    refine JC_region ?_
    refine JL_go (u := BL r5) (A_move rfl rfl) ?_ rfl rfl rfl
    refine JL_nil ?_
    refine hK9 _ _ ?_
    refine JC_cond rfl (fun hb => ?_) (fun hb => ?_)
    ·
      replace h := bif_t hb h
      refine JC_seq (fun K10 hK10 => ?_)
      refine JC_region ?_
      refine JL_go (u := I64 0) (A_assign rfl rfl) ?_ rfl rfl rfl
      refine JL_nil ?_
      refine hK10 _ _ ?_
      refine JC_ret ?_
      exact ⟨[I64 0], [], trivial, rfl, ⟨⟨_, rfl, .conv (.same rfl)⟩, trivial⟩, rfl, congrArg (fun r : Int => (I64 r : AV)) (Option.some.inj h)⟩
    ·
      replace h := bif_f hb h
      refine JC_skip ?_
      refine hK8 _ _ ?_
      refine JC_seq (fun K11 hK11 => ?_)
      refine JC_region ?_
      refine JL_go (u := I64 (-1)) (A_assign rfl rfl) ?_ rfl rfl rfl
      refine JL_nil ?_
      refine hK11 _ _ ?_
      refine JC_ret ?_
      exact ⟨[I64 (-1)], [], trivial, rfl, ⟨⟨_, rfl, .conv (.same rfl)⟩, trivial⟩, rfl, congrArg (fun r : Int => (I64 r : AV)) (Option.some.inj h)⟩
  ·
    replace h := bif_f hb h
    refine JC_skip ?_
    refine hK6 _ _ ?_
    refine JC_seq (fun K12 hK12 => ?_)
    refine JC_seq (fun K13 hK13 => ?_)
    refine JC_region ?_
    refine JL_go (u := BL r5) (A_move rfl rfl) ?_ rfl rfl rfl
    refine JL_nil ?_
    refine hK13 _ _ ?_
    refine JC_cond rfl (fun hb => ?_) (fun hb => ?_)
    ·
      replace h := bif_t hb h
      refine JC_seq (fun K14 hK14 => ?_)
      refine JC_region ?_
      refine JL_go (u := I64 1) (A_assign rfl rfl) ?_ rfl rfl rfl
      refine JL_nil ?_
      refine hK14 _ _ ?_
      refine JC_ret ?_
      exact ⟨[I64 1], [], trivial, rfl, ⟨⟨_, rfl, .conv (.same rfl)⟩, trivial⟩, rfl, congrArg (fun r : Int => (I64 r : AV)) (Option.some.inj h)⟩
    ·
      replace h := bif_f hb h
      refine JC_skip ?_
      refine hK12 _ _ ?_
      refine JC_seq (fun K15 hK15 => ?_)
      refine JC_seq (fun K16 hK16 => ?_)
      refine JC_region ?_
      refine JL_go (u := I64 x) (A_move rfl rfl) ?_ rfl rfl rfl
      refine JL_go (u := I64 y) (A_move rfl rfl) ?_ rfl rfl rfl
      refine JL_go (u := BL (decide (x < y))) (A_lss rfl rfl rfl) ?_ rfl rfl rfl
      refine JL_nil ?_
      refine hK16 _ _ ?_
      refine JC_cond rfl (fun hb => ?_) (fun hb => ?_)
      ·
        replace h := bif_t hb h
        refine JC_seq (fun K17 hK17 => ?_)
        refine JC_region ?_
        refine JL_go (u := I64 (-1)) (A_assign rfl rfl) ?_ rfl rfl rfl
        refine JL_nil ?_
        refine hK17 _ _ ?_
        refine JC_ret ?_
        exact ⟨[I64 (-1)], [], trivial, rfl, ⟨⟨_, rfl, .conv (.same rfl)⟩, trivial⟩, rfl, congrArg (fun r : Int => (I64 r : AV)) (Option.some.inj h)⟩
      ·
        replace h := bif_f hb h
        refine JC_skip ?_
        refine hK15 _ _ ?_
        refine JC_seq (fun K18 hK18 => ?_)
        refine JC_seq (fun K19 hK19 => ?_)
        refine JC_region ?_
        refine JL_go (u := I64 x) (A_move rfl rfl) ?_ rfl rfl rfl
        refine JL_go (u := I64 y) (A_move rfl rfl) ?_ rfl rfl rfl
        refine JL_go (u := BL (decide (y < x))) (A_gtr rfl rfl rfl) ?_ rfl rfl rfl
        refine JL_nil ?_
        refine hK19 _ _ ?_
        refine JC_cond rfl (fun hb => ?_) (fun hb => ?_)
        ·
          replace h := bif_t hb h
          refine JC_seq (fun K20 hK20 => ?_)
          refine JC_region ?_
          refine JL_go (u := I64 1) (A_assign rfl rfl) ?_ rfl rfl rfl
          refine JL_nil ?_
          refine hK20 _ _ ?_
          refine JC_ret ?_
          exact ⟨[I64 1], [], trivial, rfl, ⟨⟨_, rfl, .conv (.same rfl)⟩, trivial⟩, rfl, congrArg (fun r : Int => (I64 r : AV)) (Option.some.inj h)⟩
        ·
          replace h := bif_f hb h
          refine JC_skip ?_
          refine hK18 _ _ ?_
          refine JC_seq (fun K21 hK21 => ?_)
          refine JC_region ?_
          refine JL_go (u := I64 0) (A_assign rfl rfl) ?_ rfl rfl rfl
          refine JL_nil ?_
          refine hK21 _ _ ?_
          refine JC_ret ?_
          exact ⟨[I64 0], [], trivial, rfl, ⟨⟨_, rfl, .conv (.same rfl)⟩, trivial⟩, rfl, congrArg (fun r : Int => (I64 r : AV)) (Option.some.inj h)⟩

def M_cmp_Or_int (vals : List Int) : Option Int :=
  each (fun y19 i19 (s19 : Unit) nx19 =>
    bif decide (y19 ≠ 0) then
    (some y19)
    else
    (nx19 ()))
  (fun (s19 : Unit) =>
    some 0) vals 0 ()
theorem M_cmp_Or_int_w (vals : List Int) (r : Int) (h : M_cmp_Or_int vals = some r) : Pure Try.prog 33 [LS 1 I64 vals] (· = I64 r) := by
  unfold M_cmp_Or_int at h
  refine Pure_ofG [.tmp 2] Try.func33 rfl rfl ?_
  refine JC_seq (fun K1 hK1 => ?_)
  refine JC_region ?_
  refine JL_go (u := I64 0) (A_assign rfl rfl) ?_ rfl rfl rfl
  refine JL_nil ?_
  refine hK1 _ _ ?_
  refine JC_seq (fun K2 hK2 => ?_)
  refine JC_region ?_
  refine JL_go (u := I64 0) (A_assign rfl rfl) ?_ rfl rfl rfl
  refine JL_nil ?_
  refine hK2 _ _ ?_
  refine JC_seq (fun K3 hK3 => ?_)
  refine JC_seq (fun K4 hK4 => ?_)
  refine JC_region ?_
  refine JL_go (u := LS 1 I64 vals) (A_move rfl rfl) ?_ rfl rfl rfl
  refine JL_lenM (f := I64) (xs := vals) tf_slice_52 rfl rfl (fun hm7 => ?_) rfl rfl rfl
  refine JL_go (u := I64 0) (A_move rfl rfl) ?_ rfl rfl rfl
  refine JL_nil ?_
  refine hK4 _ _ ?_
  refine JC_block ?_
  obtain ⟨b19, kx19, hb19, hkx19, h⟩ := each_in h
  refine JC_loop2 (fun i19 (s19 : Unit) => each b19 kx19 (List.drop i19 vals) i19 s19 = some r) (fun i19 s19 => [(3, I64 0), (6, LS 1 I64 vals), (7, I64 (vals.length : Int)), (8, I64 (i19 : Int))]) (fun i19 s19 => []) (fun i19 => vals.length - i19) 0 () h ⟨⟨.same rfl, .same rfl, .same rfl, .same rfl, trivial⟩, trivial, rfl⟩ ?_
  clear h
  intro i19 s19 hi19 K19 e19
  refine JC_seq (fun K20 hK20 => ?_)
  refine JC_region ?_
  refine JL_go (u := BL (decide ((i19 : Int) < (vals.length : Int)))) (A_lss rfl rfl rfl) ?_ rfl rfl rfl
  refine JL_nil ?_
  refine hK20 _ _ ?_
  refine JC_seq (fun K21 hK21 => ?_)
  refine JC_cond rfl (fun hb => ?_) (fun hb => ?_)
  ·
    have hk19 := lt_len hb
    obtain ⟨y19, nx19, hy19, hn19, h⟩ := each_out hi19 hk19
    replace h := app4 hb19 h
    refine JC_skip ?_
    refine hK21 _ _ ?_
    refine JC_seq (fun K22 hK22 => ?_)
    refine JC_block ?_
    refine JC_seq (fun K23 hK23 => ?_)
    refine JC_region ?_
    refine JL_go (u := .dptr [I64 y19]) (A_indexM (f := I64) (xs := vals) (y := y19) rfl rfl rfl tf_slice_52 hy19 rfl) ?_ rfl rfl rfl
    refine JL_go (u := I64 y19) (A_load tf_scalar_3 rfl rfl rfl) ?_ rfl rfl rfl
    refine JL_go (u := I64 y19) (A_assign rfl rfl) ?_ rfl rfl rfl
    refine JL_nil ?_
    refine hK23 _ _ ?_
    refine JC_seq (fun K24 hK24 => ?_)
    refine JC_region ?_
    refine JL_go (u := I64 y19) (A_move rfl rfl) ?_ rfl rfl rfl
    refine JL_go (u := I64 0) (A_move rfl rfl) ?_ rfl rfl rfl
    refine JL_go (u := BL (decide (y19 ≠ 0))) (A_neq rfl rfl rfl) ?_ rfl rfl rfl
    refine JL_nil ?_
    refine hK24 _ _ ?_
    refine JC_cond rfl (fun hb => ?_) (fun hb => ?_)
    ·
      replace h := bif_t hb h
      refine JC_seq (fun K25 hK25 => ?_)
      refine JC_region ?_
      refine JL_go (u := I64 y19) (A_move rfl rfl) ?_ rfl rfl rfl
      refine JL_go (u := I64 y19) (A_assign rfl rfl) ?_ rfl rfl rfl
      refine JL_nil ?_
      refine hK25 _ _ ?_
      refine JC_ret ?_
      exact ⟨[I64 y19], [], trivial, rfl, ⟨⟨_, rfl, .conv (.same rfl)⟩, trivial⟩, rfl, congrArg (fun r : Int => (I64 r : AV)) (Option.some.inj h)⟩
    ·
      replace h := bif_f hb h
      refine JC_skip ?_
      refine hK22 _ _ ?_
      refine JC_region ?_
      refine JL_go (u := I64 ((i19 + 1 : Nat) : Int)) (A_add (idx_succ hk19 hm7) rfl rfl rfl) ?_ rfl rfl rfl
      refine JL_go (u := I64 ((i19 + 1 : Nat) : Int)) (A_move rfl rfl) ?_ rfl rfl rfl
      refine JL_nil ?_
      exact e19 _ _ (i19 + 1) () (app1 hn19 h) (by omega) ⟨⟨.same rfl, .same rfl, .same rfl, .same rfl, trivial⟩, trivial, rfl⟩
  ·
    have h := app1 hkx19 (each_nil hi19 (not_lt_len hb))
    refine JC_exit ?_
    refine hK3 _ _ ?_
    refine JC_seq (fun K26 hK26 => ?_)
    refine JC_region ?_
    refine JL_go (u := I64 0) (A_move rfl rfl) ?_ rfl rfl rfl
    refine JL_go (u := I64 0) (A_assign rfl rfl) ?_ rfl rfl rfl
    refine JL_nil ?_
    refine hK26 _ _ ?_
    refine JC_ret ?_
    exact ⟨[I64 0], [], trivial, rfl, ⟨⟨_, rfl, .conv (.same rfl)⟩, trivial⟩, rfl, congrArg (fun r : Int => (I64 r : AV)) (Option.some.inj h)⟩

def M_bound_compare (a : Group) (b : Group) : Option Int :=
  bnd (M_cmp_Compare_int a.Load b.Load) fun r3 =>
  bnd (M_cmp_Compare_int a.Discharge b.Discharge) fun r4 =>
  bnd (M_cmp_Or_int [r3, r4]) fun r5 =>
  some r5
theorem M_bound_compare_w (a : Group) (b : Group) (r : Int) (h : M_bound_compare a b = some r) : Pure Try.prog 17 [.agg [I64 a.Load, I64 a.Discharge], .agg [I64 b.Load, I64 b.Discharge]] (· = I64 r) := by
  unfold M_bound_compare at h
  refine Pure_ofG [.tmp 4] Try.func17 rfl rfl ?_
  refine JC_seq (fun K1 hK1 => ?_)
  refine JC_region ?_
  refine JL_go (u := .ptr 180000002 0) (A_box (u := .agg [I64 a.Load, I64 a.Discharge]) (cs := [I64 a.Load, I64 a.Discharge]) 180000002 rfl rfl rfl rfl rfl) ?_ rfl rfl rfl
  refine JL_go (u := .ptr 180000003 0) (A_box (u := .agg [I64 b.Load, I64 b.Discharge]) (cs := [I64 b.Load, I64 b.Discharge]) 180000003 rfl rfl rfl rfl rfl) ?_ rfl rfl rfl
  refine JL_go (u := I64 0) (A_assign rfl rfl) ?_ rfl rfl rfl
  refine JL_nil ?_
  refine hK1 _ _ ?_
  refine JC_freeze [(2, .dptr [I64 a.Load, I64 a.Discharge]), (3, .ptr 180000003 0)] [(180000003, .box 24 [I64 b.Load, I64 b.Discharge])] 180000002 rfl rfl rfl ⟨⟨_, rfl, .boxEq rfl rfl⟩, trivial⟩ rfl (by exact ⟨.ptr, .conv (.same rfl), trivial⟩) ?_
  refine JC_freeze [(2, .dptr [I64 a.Load, I64 a.Discharge]), (3, .dptr [I64 b.Load, I64 b.Discharge])] [] 180000003 rfl rfl rfl trivial rfl (by exact ⟨.conv (.same rfl), .ptr, trivial⟩) ?_
  refine JC_seq (fun K2 hK2 => ?_)
  obtain ⟨r3, hr3, h⟩ := bnd_out h
  obtain ⟨r4, hr4, h⟩ := bnd_out h
  obtain ⟨r5, hr5, h⟩ := bnd_out h
  refine JC_draw [] [0, 0, 0, 0, 0, 0, 0, 0, 0, 0, 0, 0, 0] [0, 0, 0, 0, 0, 0, 0, 0, 0, 0, 0, 0, 0] [[]] tf_mixed (by kernel_rfl) rfl rfl ?_
  refine D_ro (u := .dptr [I64 a.Load, I64 a.Discharge]) rfl rfl ⟨O_go (A_fieldM tf_field_24_0 rfl rfl rfl) rfl, trivial⟩ ?_ rfl
  refine D_ro (u := I64 a.Load) rfl rfl ⟨O_go (A_load tf_scalar_3 rfl rfl rfl) rfl, trivial⟩ ?_ rfl
  refine D_ro (u := .dptr [I64 b.Load, I64 b.Discharge]) rfl rfl ⟨O_go (A_fieldM tf_field_24_0 rfl rfl rfl) rfl, trivial⟩ ?_ rfl
  refine D_ro (u := I64 b.Load) rfl rfl ⟨O_go (A_load tf_scalar_3 rfl rfl rfl) rfl, trivial⟩ ?_ rfl
  refine D_ro (u := I64 r3) rfl rfl ⟨O_go (A_call1 (args := [I64 a.Load, I64 b.Load]) rfl (M_cmp_Compare_int_w a.Load b.Load r3 hr3) tf_call_34 ⟨rfl, rfl, rfl, rfl, trivial⟩) rfl, trivial⟩ ?_ rfl
  refine D_ro (u := .dptr [I64 a.Discharge]) rfl rfl ⟨O_go (A_fieldM tf_field_24_1 rfl rfl rfl) rfl, trivial⟩ ?_ rfl
  refine D_ro (u := I64 a.Discharge) rfl rfl ⟨O_go (A_load tf_scalar_3 rfl rfl rfl) rfl, trivial⟩ ?_ rfl
  refine D_ro (u := .dptr [I64 b.Discharge]) rfl rfl ⟨O_go (A_fieldM tf_field_24_1 rfl rfl rfl) rfl, trivial⟩ ?_ rfl
  refine D_ro (u := I64 b.Discharge) rfl rfl ⟨O_go (A_load tf_scalar_3 rfl rfl rfl) rfl, trivial⟩ ?_ rfl
  refine D_ro (u := I64 r4) rfl rfl ⟨O_go (A_call1 (args := [I64 a.Discharge, I64 b.Discharge]) rfl (M_cmp_Compare_int_w a.Discharge b.Discharge r4 hr4) tf_call_34 ⟨rfl, rfl, rfl, rfl, trivial⟩) rfl, trivial⟩ ?_ rfl
  refine D_ro (u := LS 1 I64 [r3, r4]) rfl rfl ⟨O_go (A_buildSlice (xs := [I64 r3, I64 r4]) rfl ⟨rfl, rfl, rfl, rfl, trivial⟩ tf_slice_52 tf_zsize_3 rfl rfl rfl rfl) rfl, trivial⟩ ?_ rfl
  refine D_ro (u := I64 r5) rfl rfl ⟨O_go (A_call1 (args := [LS 1 I64 [r3, r4]]) rfl (M_cmp_Or_int_w [r3, r4] r5 hr5) tf_call_33 ⟨rfl, rfl, trivial⟩) rfl, trivial⟩ ?_ rfl
  refine D_ro (u := I64 r5) rfl rfl ⟨O_go (A_assign rfl rfl) rfl, trivial⟩ ?_ rfl
  refine D_nil ?_
  refine hK2 _ _ ?_
  refine JC_ret ?_
  exact ⟨[I64 r5], [], trivial, rfl, ⟨⟨_, rfl, .conv (.same rfl)⟩, trivial⟩, rfl, congrArg (fun r : Int => (I64 r : AV)) (Option.some.inj h)⟩

def M_bound_Groups_1 (a : bound_Count) (b : bound_Count) : Option Int :=
  bnd (M_bound_compare a.Group b.Group) fun r3 =>
  some r3
theorem M_bound_Groups_1_w (a : bound_Count) (b : bound_Count) (r : Int) (h : M_bound_Groups_1 a b = some r) : Pure Try.prog 16 [.agg [I64 a.Group.Load, I64 a.Group.Discharge, I64 a.Whole, I64 a.Half], .agg (bound_Count.cs b)] (· = I64 r) := by
  unfold M_bound_Groups_1 at h
  refine Pure_ofG [.tmp 4] Try.func16 rfl rfl ?_
  refine JC_seq (fun K1 hK1 => ?_)
  refine JC_region ?_
  refine JL_go (u := .ptr 170000002 0) (A_box (u := .agg [I64 a.Group.Load, I64 a.Group.Discharge, I64 a.Whole, I64 a.Half]) (cs := [I64 a.Group.Load, I64 a.Group.Discharge, I64 a.Whole, I64 a.Half]) 170000002 rfl rfl rfl rfl rfl) ?_ rfl rfl rfl
  refine JL_go (u := .ptr 170000003 0) (A_box (u := .agg (bound_Count.cs b)) (cs := [I64 b.Group.Load, I64 b.Group.Discharge, I64 b.Whole, I64 b.Half]) 170000003 rfl rfl rfl rfl rfl) ?_ rfl rfl rfl
  refine JL_go (u := I64 0) (A_assign rfl rfl) ?_ rfl rfl rfl
  refine JL_nil ?_
  refine hK1 _ _ ?_
  refine JC_freeze [(2, .dptr [I64 a.Group.Load, I64 a.Group.Discharge, I64 a.Whole, I64 a.Half]), (3, .ptr 170000003 0)] [(170000003, .box 29 [I64 b.Group.Load, I64 b.Group.Discharge, I64 b.Whole, I64 b.Half])] 170000002 rfl rfl rfl ⟨⟨_, rfl, .boxEq rfl rfl⟩, trivial⟩ rfl (by exact ⟨.ptr, .conv (.same rfl), trivial⟩) ?_
  refine JC_freeze [(2, .dptr [I64 a.Group.Load, I64 a.Group.Discharge, I64 a.Whole, I64 a.Half]), (3, .dptr (bound_Count.cs b))] [] 170000003 rfl rfl rfl trivial rfl (by exact ⟨.conv (.same rfl), .ptr, trivial⟩) ?_
  refine JC_seq (fun K2 hK2 => ?_)
  refine JC_region ?_
  refine JL_go (u := .dptr [I64 a.Group.Load, I64 a.Group.Discharge, I64 a.Whole, I64 a.Half]) (A_fieldM tf_field_29_0 rfl rfl rfl) ?_ rfl rfl rfl
  refine JL_go (u := .agg [I64 a.Group.Load, I64 a.Group.Discharge]) (A_loadAgg tf_agg_24 rfl rfl rfl) ?_ rfl rfl rfl
  refine JL_go (u := .dptr (bound_Count.cs b)) (A_fieldM tf_field_29_0 rfl rfl rfl) ?_ rfl rfl rfl
  refine JL_go (u := .agg [I64 b.Group.Load, I64 b.Group.Discharge]) (A_loadAgg tf_agg_24 rfl rfl rfl) ?_ rfl rfl rfl
  obtain ⟨r3, hr3, h⟩ := bnd_out h
  refine JL_go (u := I64 r3) (A_call1 (args := [.agg [I64 a.Group.Load, I64 a.Group.Discharge], .agg [I64 b.Group.Load, I64 b.Group.Discharge]]) rfl (M_bound_compare_w a.Group b.Group r3 hr3) tf_call_17 ⟨rfl, rfl, rfl, rfl, trivial⟩) ?_ rfl rfl rfl
  refine JL_go (u := I64 r3) (A_assign rfl rfl) ?_ rfl rfl rfl
  refine JL_nil ?_
  refine hK2 _ _ ?_
  refine JC_ret ?_
  exact ⟨[I64 r3], [], trivial, rfl, ⟨⟨_, rfl, .conv (.same rfl)⟩, trivial⟩, rfl, congrArg (fun r : Int => (I64 r : AV)) (Option.some.inj h)⟩

def M_bound_Groups (boxes : List Box) (Rp : (List bound_Count) → Prop) : Option Prop :=
  each (fun y85 i85 (s85 : (AMap Group bound_Count)) nx85 =>
    jp (fun kj88 =>
      bnd (some (AMap.get s85 (Group.mk y85.Load y85.Discharge) (bound_Count.mk (Group.mk 0 0) 0 0))) fun v92 =>
      jp (fun kj94 =>
        bif decide (y85.Size = 40) then
        (chk (v92.Whole + 1) fun v97 =>
          kj94 (v97, v92.Half))
        else
        (bif decide (y85.Size = 20) then
          (chk (v92.Half + 1) fun v99 =>
            kj94 (v92.Whole, v99))
          else
          (kj88 (s85, v92.Whole, v92.Half)))) fun (j94 : Int × Int) =>
      kj88 ((AMap.put s85 (Group.mk y85.Load y85.Discharge) (bound_Count.mk (Group.mk y85.Load y85.Discharge) j94.1 j94.2)), j94.1, j94.2)) fun (j88 : (AMap Group bound_Count) × Int × Int) =>
    nx85 j88.1)
  (fun (s85 : (AMap Group bound_Count)) =>
    eachM (fun (x111 : Group × bound_Count) (s111 : (List bound_Count)) nx111 =>
      need (decide ((s111.length + [x111.2].length) * 32 ≤ 140737488355328 ∧ s111.length + [x111.2].length ≤ maxLen)) <|
      nx111 (s111 ++ [x111.2]))
    (fun (s111 : (List bound_Count)) =>
      bnd (sortM (fun z0 z1 => M_bound_Groups_1 z0 z1) s111) fun r118 =>
      some (Rp r118)) (AMap.l s85) []) boxes 0 (AMap.empty : AMap Group bound_Count)
def D_bound_Groups (boxes : List Box) : Option (List bound_Count) :=
  each (fun y85 i85 (s85 : (AMap Group bound_Count)) nx85 =>
    jp (fun kj88 =>
      bnd (some (AMap.get s85 (Group.mk y85.Load y85.Discharge) (bound_Count.mk (Group.mk 0 0) 0 0))) fun v92 =>
      jp (fun kj94 =>
        bif decide (y85.Size = 40) then
        (chk (v92.Whole + 1) fun v97 =>
          kj94 (v97, v92.Half))
        else
        (bif decide (y85.Size = 20) then
          (chk (v92.Half + 1) fun v99 =>
            kj94 (v92.Whole, v99))
          else
          (kj88 (s85, v92.Whole, v92.Half)))) fun (j94 : Int × Int) =>
      kj88 ((AMap.put s85 (Group.mk y85.Load y85.Discharge) (bound_Count.mk (Group.mk y85.Load y85.Discharge) j94.1 j94.2)), j94.1, j94.2)) fun (j88 : (AMap Group bound_Count) × Int × Int) =>
    nx85 j88.1)
  (fun (s85 : (AMap Group bound_Count)) =>
    runM (fun (x111 : Group × bound_Count) (s111 : (List bound_Count)) nx111 =>
      need (decide ((s111.length + [x111.2].length) * 32 ≤ 140737488355328 ∧ s111.length + [x111.2].length ≤ maxLen)) <|
      nx111 (s111 ++ [x111.2]))
    (fun (s111 : (List bound_Count)) =>
      bnd (sortM (fun z0 z1 => M_bound_Groups_1 z0 z1) s111) fun r118 =>
      some (id r118)) (AMap.l s85) []) boxes 0 (AMap.empty : AMap Group bound_Count)
theorem M_bound_Groups_w (boxes : List Box) (Rp : (List bound_Count) → Prop) (p : Prop) (h : M_bound_Groups boxes Rp = some p) (hp : p) : Pure Try.prog 6 [LS 9 Box.av boxes] (fun av => ∃ r, Rp r ∧ av = LS 4 bound_Count.av r) := by
  unfold M_bound_Groups at h
  refine Pure_ofG [.tmp 2] Try.func6 rfl rfl ?_
  refine JC_seq (fun K1 hK1 => ?_)
  refine JC_region ?_
  refine JL_go (u := LS 4 bound_Count.av ([] : List bound_Count)) (A_nilList 4 rfl rfl) ?_ rfl rfl rfl
  refine JL_nil ?_
  refine hK1 _ _ ?_
  refine JC_seq (fun K2 hK2 => ?_)
  refine JC_region ?_
  refine JL_go (u := .mp 70000011) (A_makeMapM 70000011 Group.kv bound_Count.av rfl rfl) ?_ rfl rfl rfl
  refine JL_go (u := .mp 70000011) (A_assign rfl rfl) ?_ rfl rfl rfl
  refine JL_nil ?_
  refine hK2 _ _ ?_
  refine JC_seq (fun K3 hK3 => ?_)
  refine JC_seq (fun K4 hK4 => ?_)
  refine JC_region ?_
  refine JL_go (u := LS 9 Box.av boxes) (A_move rfl rfl) ?_ rfl rfl rfl
  refine JL_lenM (f := Box.av) (xs := boxes) tf_slice_22 rfl rfl (fun hm13 => ?_) rfl rfl rfl
  refine JL_go (u := I64 0) (A_move rfl rfl) ?_ rfl rfl rfl
  refine JL_nil ?_
  refine hK4 _ _ ?_
  refine JC_block ?_
  obtain ⟨b85, kx85, hb85, hkx85, h⟩ := each_in h
  refine JC_loop2 (fun i85 (s85 : (AMap Group bound_Count)) => each b85 kx85 (List.drop i85 boxes) i85 s85 = some p) (fun i85 s85 => [(3, .mp 70000011), (12, LS 9 Box.av boxes), (13, I64 (boxes.length : Int)), (14, I64 (i85 : Int))]) (fun i85 s85 => [(70000011, MP 64 Group.kv bound_Count.av s85)]) (fun i85 => boxes.length - i85) 0 (AMap.empty : AMap Group bound_Count) h ⟨⟨.same rfl, .same rfl, .same rfl, .same rfl, trivial⟩, ⟨⟨_, rfl, .map⟩, trivial⟩, rfl⟩ ?_
  clear h
  intro i85 s85 hi85 K85 e85
  refine JC_seq (fun K86 hK86 => ?_)
  refine JC_region ?_
  refine JL_go (u := BL (decide ((i85 : Int) < (boxes.length : Int)))) (A_lss rfl rfl rfl) ?_ rfl rfl rfl
  refine JL_nil ?_
  refine hK86 _ _ ?_
  refine JC_seq (fun K87 hK87 => ?_)
  refine JC_cond rfl (fun hb => ?_) (fun hb => ?_)
  ·
    have hk85 := lt_len hb
    obtain ⟨y85, nx85, hy85, hn85, h⟩ := each_out hi85 hk85
    replace h := app4 hb85 h
    refine JC_skip ?_
    refine hK87 _ _ ?_
    obtain ⟨kj88, hkj88, h⟩ := jp_out h
    refine JC_seqJ (fun j88 : (AMap Group bound_Count) × Int × Int => kj88 j88 = some p) (fun j88 => [(3, .mp 70000011), (12, LS 9 Box.av boxes), (13, I64 (boxes.length : Int)), (14, I64 (i85 : Int))]) (fun j88 => [(70000011, MP 64 Group.kv bound_Count.av j88.1), (70000007, .box 29 [I64 y85.Load, I64 y85.Discharge, I64 j88.2.1, I64 j88.2.2])]) (fun Kj88 ej88 => ?_) ?_
    ·
      refine JC_block ?_
      refine JC_seq (fun K89 hK89 => ?_)
      refine JC_region ?_
      refine JL_go (u := .dptr (Box.cs y85)) (A_indexM (f := Box.av) (xs := boxes) (y := y85) rfl rfl rfl tf_slice_22 hy85 rfl) ?_ rfl rfl rfl
      refine JL_go (u := .agg (Box.cs y85)) (A_loadAgg tf_agg_31 rfl rfl rfl) ?_ rfl rfl rfl
      refine JL_go (u := .ptr 70000005 0) (A_allocJ 70000005 9 tf_zsize_31 rfl rfl) ?_ rfl rfl rfl
      refine JL_go0 (u := .junk) (A_store (u := .agg (Box.cs y85)) (ds := [I64 y85.ID, ST y85.Number, U8 y85.Size, BL y85.High, I64 y85.Kilos, I64 y85.Load, I64 y85.Discharge, U8 y85.Class, BL y85.Reefer]) tf_size_31 rfl rfl rfl rfl rfl rfl rfl rfl) ?_ rfl rfl
      refine JL_nil ?_
      refine hK89 _ _ ?_
      refine JC_freeze [(3, .mp 70000011), (5, .dptr (Box.cs y85)), (12, LS 9 Box.av boxes), (13, I64 (boxes.length : Int)), (14, I64 (i85 : Int))] [(70000011, MP 64 Group.kv bound_Count.av s85)] 70000005 rfl rfl rfl ⟨⟨_, rfl, .map⟩, trivial⟩ rfl (by exact ⟨.conv (.same rfl), .ptr, .conv (.same rfl), .conv (.same rfl), .conv (.same rfl), trivial⟩) ?_
      refine JC_seq (fun K90 hK90 => ?_)
      refine JC_region ?_
      refine JL_go (u := .dptr ((Box.cs y85).drop 5)) (A_fieldM tf_field_31_5 rfl rfl rfl) ?_ rfl rfl rfl
      refine JL_go (u := I64 y85.Load) (A_load tf_scalar_3 rfl rfl rfl) ?_ rfl rfl rfl
      refine JL_go (u := .dptr ((Box.cs y85).drop 6)) (A_fieldM tf_field_31_6 rfl rfl rfl) ?_ rfl rfl rfl
      refine JL_go (u := I64 y85.Discharge) (A_load tf_scalar_3 rfl rfl rfl) ?_ rfl rfl rfl
      refine JL_go (u := .agg [I64 y85.Load, I64 y85.Discharge]) (A_buildZ (cs := [I64 y85.Load, I64 y85.Discharge]) [(0, 1), (1, 1)] [I64 0, I64 0] [.int .i64 0, .int .i64 0] tf_places_24 tf_zero_24 ⟨.inl rfl, .inl rfl, trivial⟩ rfl rfl) ?_ rfl rfl rfl
      refine JL_go (u := .ptr 70000006 0) (A_allocJ 70000006 2 tf_zsize_24 rfl rfl) ?_ rfl rfl rfl
      refine JL_go0 (u := .junk) (A_store (u := .agg [I64 y85.Load, I64 y85.Discharge]) (ds := [I64 y85.Load, I64 y85.Discharge]) tf_size_24 rfl rfl rfl rfl rfl rfl rfl rfl) ?_ rfl rfl
      refine JL_nil ?_
      refine hK90 _ _ ?_
      refine JC_freeze [(3, .mp 70000011), (5, .dptr (Box.cs y85)), (6, .dptr [I64 y85.Load, I64 y85.Discharge]), (12, LS 9 Box.av boxes), (13, I64 (boxes.length : Int)), (14, I64 (i85 : Int))] [(70000011, MP 64 Group.kv bound_Count.av s85)] 70000006 rfl rfl rfl ⟨⟨_, rfl, .map⟩, trivial⟩ rfl (by exact ⟨.conv (.same rfl), .conv (.same rfl), .ptr, .conv (.same rfl), .conv (.same rfl), .conv (.same rfl), trivial⟩) ?_
      refine JC_seq (fun K91 hK91 => ?_)
      refine JC_region ?_
      refine JL_go (u := .mp 70000011) (A_move rfl rfl) ?_ rfl rfl rfl
      refine JL_go (u := .agg [I64 y85.Load, I64 y85.Discharge]) (A_loadAgg tf_agg_24 rfl rfl rfl) ?_ rfl rfl rfl
      obtain ⟨v92, hv92, h⟩ := bnd_out h
      refine JL_go (u := .agg (bound_Count.cs v92)) (((Option.some.inj hv92) ▸ A_lookupM0 (av := bound_Count.av) (m := s85) (a := (Group.mk y85.Load y85.Discharge)) (bound_Count.mk (Group.mk 0 0) 0 0) (.agg #[.int .i64 0, .int .i64 0, .int .i64 0, .int .i64 0]) rfl rfl rfl rfl tk_24 tf_map_64 tf_zv_29 rfl)) ?_ rfl rfl rfl
      refine JL_go (u := .ptr 70000007 0) (A_allocJ 70000007 4 tf_zsize_29 rfl rfl) ?_ rfl rfl rfl
      refine JL_go0 (u := .junk) (A_store (u := .agg (bound_Count.cs v92)) (ds := [I64 v92.Group.Load, I64 v92.Group.Discharge, I64 v92.Whole, I64 v92.Half]) tf_size_29 rfl rfl rfl rfl rfl rfl rfl rfl) ?_ rfl rfl
      refine JL_nil ?_
      refine hK91 _ _ ?_
      refine JC_seq (fun K93 hK93 => ?_)
      refine JC_region ?_
      refine JL_go (u := .agg [I64 y85.Load, I64 y85.Discharge]) (A_loadAgg tf_agg_24 rfl rfl rfl) ?_ rfl rfl rfl
      refine JL_go (u := .ptr 70000007 0) (A_fieldL tf_field_29_0 rfl rfl) ?_ rfl rfl rfl
      refine JL_go0 (u := .junk) (A_store (u := .agg [I64 y85.Load, I64 y85.Discharge]) (ds := [I64 y85.Load, I64 y85.Discharge, I64 v92.Whole, I64 v92.Half]) tf_size_24 rfl rfl rfl rfl rfl rfl rfl rfl) ?_ rfl rfl
      refine JL_nil ?_
      refine hK93 _ _ ?_
      obtain ⟨kj94, hkj94, h⟩ := jp_out h
      refine JC_seqJ (fun j94 : Int × Int => kj94 j94 = some p) (fun j94 => [(3, .mp 70000011), (6, .dptr [I64 y85.Load, I64 y85.Discharge]), (7, .ptr 70000007 0), (12, LS 9 Box.av boxes), (13, I64 (boxes.length : Int)), (14, I64 (i85 : Int))]) (fun j94 => [(70000011, MP 64 Group.kv bound_Count.av s85), (70000007, .box 29 [I64 y85.Load, I64 y85.Discharge, I64 j94.1, I64 j94.2])]) (fun Kj94 ej94 => ?_) ?_
      ·
        refine JC_seq (fun K95 hK95 => ?_)
        refine JC_region ?_
        refine JL_go (u := .dptr ((Box.cs y85).drop 2)) (A_fieldM tf_field_31_2 rfl rfl rfl) ?_ rfl rfl rfl
        refine JL_go (u := U8 y85.Size) (A_load tf_scalar_5 rfl rfl rfl) ?_ rfl rfl rfl
        refine JL_nil ?_
        refine hK95 _ _ ?_
        refine JC_block ?_
        refine JC_seq (fun K96 hK96 => ?_)
        refine JC_region ?_
        refine JL_go (u := BL (decide (y85.Size = 40))) (A_eql rfl rfl rfl) ?_ rfl rfl rfl
        refine JL_go (u := BL (decide (y85.Size = 40))) (A_assign rfl rfl) ?_ rfl rfl rfl
        refine JL_nil ?_
        refine hK96 _ _ ?_
        refine JC_cond rfl (fun hb => ?_) (fun hb => ?_)
        ·
          replace h := bif_t hb h
          refine JC_region ?_
          refine JL_go (u := .ptr 70000007 2) (A_fieldL tf_field_29_1 rfl rfl) ?_ rfl rfl rfl
          refine JL_go (u := I64 v92.Whole) (A_loadL tf_scalar_3 rfl rfl rfl rfl) ?_ rfl rfl rfl
          obtain ⟨v97, hv97, h⟩ := chk_out h
          refine JL_go (u := I64 v97) (A_add hv97 rfl rfl rfl) ?_ rfl rfl rfl
          refine JL_go (u := .ptr 70000007 2) (A_fieldL tf_field_29_1 rfl rfl) ?_ rfl rfl rfl
          refine JL_go0 (u := .junk) (A_store (u := I64 v97) (ds := [I64 y85.Load, I64 y85.Discharge, I64 v97, I64 v92.Half]) tf_size_3 rfl rfl rfl rfl rfl rfl rfl rfl) ?_ rfl rfl
          refine JL_nil ?_
          exact ej94 _ _ (v97, v92.Half) h ⟨⟨.same rfl, .same rfl, .same rfl, .same rfl, .same rfl, .same rfl, trivial⟩, ⟨⟨_, rfl, .map⟩, ⟨_, rfl, .boxL rfl ⟨.same rfl, .same rfl, .same rfl, .same rfl, trivial⟩⟩, trivial⟩, rfl⟩
        ·
          replace h := bif_f hb h
          refine JC_seq (fun K98 hK98 => ?_)
          refine JC_region ?_
          refine JL_go (u := BL (decide (y85.Size = 20))) (A_eql rfl rfl rfl) ?_ rfl rfl rfl
          refine JL_go (u := BL (decide (y85.Size = 20))) (A_assign rfl rfl) ?_ rfl rfl rfl
          refine JL_nil ?_
          refine hK98 _ _ ?_
          refine JC_cond rfl (fun hb => ?_) (fun hb => ?_)
          ·
            replace h := bif_t hb h
            refine JC_region ?_
            refine JL_go (u := .ptr 70000007 3) (A_fieldL tf_field_29_2 rfl rfl) ?_ rfl rfl rfl
            refine JL_go (u := I64 v92.Half) (A_loadL tf_scalar_3 rfl rfl rfl rfl) ?_ rfl rfl rfl
            obtain ⟨v99, hv99, h⟩ := chk_out h
            refine JL_go (u := I64 v99) (A_add hv99 rfl rfl rfl) ?_ rfl rfl rfl
            refine JL_go (u := .ptr 70000007 3) (A_fieldL tf_field_29_2 rfl rfl) ?_ rfl rfl rfl
            refine JL_go0 (u := .junk) (A_store (u := I64 v99) (ds := [I64 y85.Load, I64 y85.Discharge, I64 v92.Whole, I64 v99]) tf_size_3 rfl rfl rfl rfl rfl rfl rfl rfl) ?_ rfl rfl
            refine JL_nil ?_
            exact ej94 _ _ (v92.Whole, v99) h ⟨⟨.same rfl, .same rfl, .same rfl, .same rfl, .same rfl, .same rfl, trivial⟩, ⟨⟨_, rfl, .map⟩, ⟨_, rfl, .boxL rfl ⟨.same rfl, .same rfl, .same rfl, .same rfl, trivial⟩⟩, trivial⟩, rfl⟩
          ·
            replace h := bif_f hb h
            refine JC_exit ?_
            exact ej88 _ _ (s85, v92.Whole, v92.Half) h ⟨⟨.same rfl, .same rfl, .same rfl, .same rfl, trivial⟩, ⟨⟨_, rfl, .map⟩, ⟨_, rfl, .boxL rfl ⟨.same rfl, .same rfl, .same rfl, .same rfl, trivial⟩⟩, trivial⟩, rfl⟩
      · intro j94 h
        replace h := app1 hkj94 h
        refine JC_region ?_
        refine JL_go (u := .mp 70000011) (A_move rfl rfl) ?_ rfl rfl rfl
        refine JL_go (u := .agg [I64 y85.Load, I64 y85.Discharge]) (A_loadAgg tf_agg_24 rfl rfl rfl) ?_ rfl rfl rfl
        refine JL_go (u := .agg [I64 y85.Load, I64 y85.Discharge, I64 j94.1, I64 j94.2]) (A_loadAggL tf_agg_29 rfl rfl rfl rfl) ?_ rfl rfl rfl
        refine JL_go0 (u := .junk) (A_mapUpdateM (m := s85) (a := (Group.mk y85.Load y85.Discharge)) (v := (bound_Count.mk (Group.mk y85.Load y85.Discharge) j94.1 j94.2)) rfl rfl rfl rfl rfl rfl tk_24 tf_map_64) ?_ rfl rfl
        refine JL_nil ?_
        exact ej88 _ _ ((AMap.put s85 (Group.mk y85.Load y85.Discharge) (bound_Count.mk (Group.mk y85.Load y85.Discharge) j94.1 j94.2)), j94.1, j94.2) h ⟨⟨.same rfl, .same rfl, .same rfl, .same rfl, trivial⟩, ⟨⟨_, rfl, .map⟩, ⟨_, rfl, .boxL rfl ⟨.same rfl, .same rfl, .same rfl, .same rfl, trivial⟩⟩, trivial⟩, rfl⟩
    · intro j88 h
      replace h := app1 hkj88 h
      refine JC_region ?_
      refine JL_go (u := I64 ((i85 + 1 : Nat) : Int)) (A_add (idx_succ hk85 hm13) rfl rfl rfl) ?_ rfl rfl rfl
      refine JL_go (u := I64 ((i85 + 1 : Nat) : Int)) (A_move rfl rfl) ?_ rfl rfl rfl
      refine JL_nil ?_
      exact e85 _ _ (i85 + 1) j88.1 (app1 hn85 h) (by omega) ⟨⟨.same rfl, .same rfl, .same rfl, .same rfl, trivial⟩, ⟨⟨_, rfl, .map⟩, trivial⟩, rfl⟩
  ·
    have h := app1 hkx85 (each_nil hi85 (not_lt_len hb))
    refine JC_exit ?_
    refine hK3 _ _ ?_
    refine JC_seq (fun K100 hK100 => ?_)
    refine JC_region ?_
    refine JL_go (u := .vec 70000008 (([] : List bound_Count).length) 4 (([] : List bound_Count).length)) (A_vnil 70000008 29 4 rfl rfl rfl) ?_ rfl rfl rfl
    refine JL_nil ?_
    refine hK100 _ _ ?_
    refine JC_seq (fun K101 hK101 => ?_)
    refine JC_seq (fun K102 hK102 => ?_)
    refine JC_region ?_
    refine JL_go (u := .mp 70000011) (A_move rfl rfl) ?_ rfl rfl rfl
    refine JL_go (u := .it 70000047) (A_rangeM 70000047 (m := s85) rfl rfl rfl rfl tf_map_64) ?_ rfl rfl rfl
    refine JL_nil ?_
    refine hK102 _ _ ?_
    refine JC_block ?_
    obtain ⟨b111, kx111, hb111, hkx111, h⟩ := eachM_in h
    refine JC_loopM (AMap.size s85) (fun i111 (s111 : (List bound_Count)) => MInv b111 kx111 (AMap.l s85) i111 s111) (fun i111 s111 => [(8, .vec 70000008 s111.length 4 s111.length), (47, .it 70000047)]) (fun i111 s111 => [(70000011, MP 64 Group.kv bound_Count.av s85), (70000008, .vec 29 4 s111.length (s111.map bound_Count.av)), (70000047, .iter 70000011 (AMap.size s85) i111)]) [] (MInv.start h hp) ⟨⟨.same rfl, .same rfl, trivial⟩, ⟨⟨_, rfl, .map⟩, ⟨_, rfl, .vec⟩, ⟨_, rfl, .iter rfl⟩, trivial⟩, rfl⟩ ?_
    clear h hp
    intro i111 s111 hi111 K111 e111
    refine JC_seq (fun K112 hK112 => ?_)
    refine JC_region ?_
    refine JL_step rfl rfl rfl (A_nextM (m := s85) rfl rfl rfl rfl) ?_
    intro u_ L_ hn_
    rcases hn_ with ⟨q111, x111, he111, hs111, rfl, rfl⟩ | ⟨ha111, rfl, rfl⟩
    ·
      obtain ⟨o111, h, ho1_111, ho2_111⟩ := hi111.step he111 hs111
      replace h := app3 hb111 h
      refine JL_go (u := BL true) (A_extract rfl rfl rfl) ?_ rfl rfl rfl
      refine JL_nil ?_
      refine hK112 _ _ ?_
      refine JC_seq (fun K113 hK113 => ?_)
      refine JC_condT rfl ?_
      refine JC_skip ?_
      refine hK113 _ _ ?_
      refine JC_block ?_
      refine JC_seq (fun K114 hK114 => ?_)
      refine JC_region ?_
      refine JL_go (u := .tup [.agg [I64 x111.1.Load, I64 x111.1.Discharge], .agg (bound_Count.cs x111.2)]) (A_entryM (kv := Group.kv) (av := bound_Count.av) (m := s85) (q := q111) (seen := i111) (e := x111) rfl rfl rfl rfl he111) ?_ rfl rfl rfl
      refine JL_go (u := .agg (bound_Count.cs x111.2)) (A_extract rfl rfl rfl) ?_ rfl rfl rfl
      refine JL_go (u := .ptr 70000010 0) (A_allocJ 70000010 4 tf_zsize_29 rfl rfl) ?_ rfl rfl rfl
      refine JL_go0 (u := .junk) (A_store (u := .agg (bound_Count.cs x111.2)) (ds := [I64 x111.2.Group.Load, I64 x111.2.Group.Discharge, I64 x111.2.Whole, I64 x111.2.Half]) tf_size_29 rfl rfl rfl rfl rfl rfl rfl rfl) ?_ rfl rfl
      refine JL_nil ?_
      refine hK114 _ _ ?_
      refine JC_freeze [(8, .vec 70000008 s111.length 4 s111.length), (10, .dptr (bound_Count.cs x111.2)), (47, .it 70000047)] [(70000011, MP 64 Group.kv bound_Count.av s85), (70000008, .vec 29 4 s111.length (s111.map bound_Count.av)), (70000047, .iter 70000011 (AMap.size s85) (i111 ++ [q111]))] 70000010 rfl rfl rfl ⟨⟨_, rfl, .map⟩, ⟨_, rfl, .vec⟩, ⟨_, rfl, .iter rfl⟩, trivial⟩ rfl (by exact ⟨.conv (.same rfl), .ptr, .conv (.same rfl), trivial⟩) ?_
      refine JC_region ?_
      refine JL_go (u := .vec 70000008 s111.length 4 s111.length) (A_move rfl rfl) ?_ rfl rfl rfl
      refine JL_go (u := .agg (bound_Count.cs x111.2)) (A_loadAgg tf_agg_29 rfl rfl rfl) ?_ rfl rfl rfl
      refine JL_go (u := LS 4 bound_Count.av [x111.2]) (A_buildSlice (xs := [.agg (bound_Count.cs x111.2)]) rfl ⟨rfl, rfl, trivial⟩ tf_slice_26 tf_zsize_29 rfl rfl rfl rfl) ?_ rfl rfl rfl
      obtain ⟨ha115, h⟩ := need_out h
      refine JL_go (u := .vec 70000008 ((s111 ++ [x111.2]).length) 4 ((s111 ++ [x111.2]).length)) (A_vappendM (f := bound_Count.av) (xs := s111) (ys := [x111.2]) (ver1 := (s111 ++ [x111.2]).length) rfl rfl rfl rfl tf_slice_26 tf_elem_29 ha115 (fun _ => rfl) (.inl rfl) (by simp)) ?_ rfl rfl rfl
      refine JL_go (u := .vec 70000008 ((s111 ++ [x111.2]).length) 4 ((s111 ++ [x111.2]).length)) (A_assign rfl rfl) ?_ rfl rfl rfl
      refine JL_nil ?_
      exact e111 _ _ (i111 ++ [q111]) (s111 ++ [x111.2]) (ho2_111 _ (Option.some.inj h).symm) (unseen_lt (List.getElem?_eq_some_iff.1 he111).1 hs111) ⟨⟨.same rfl, .same rfl, trivial⟩, ⟨⟨_, rfl, .map⟩, ⟨_, rfl, .vec⟩, ⟨_, rfl, .iter rfl⟩, trivial⟩, rfl⟩
    ·
      obtain ⟨p_, h, hp⟩ := hi111.done ha111
      replace h := app1 hkx111 h
      refine JL_go (u := BL false) (A_extract rfl rfl rfl) ?_ rfl rfl rfl
      refine JL_nil ?_
      refine hK112 _ _ ?_
      refine JC_seq (fun K116 hK116 => ?_)
      refine JC_condF rfl ?_
      refine JC_exit ?_
      refine hK101 _ _ ?_
      refine JC_seq (fun K117 hK117 => ?_)
      refine JC_region ?_
      refine JL_go (u := .vec 70000008 s111.length 4 s111.length) (A_move rfl rfl) ?_ rfl rfl rfl
      obtain ⟨r118, hr118, h⟩ := bnd_out h
      refine JL_go (u := .tup []) (A_sortM (f := bound_Count.av) (cmp := (fun z0 z1 => M_bound_Groups_1 z0 z1)) (xs := s111) (r := r118) bound_Count.vs rfl sortLaw_15 sortNone_15 (fun _ => rfl) (fun _ => rfl) (fun _ => cells1 rfl) tf_call_15 tf_call_16 rfl rfl rfl rfl rfl hr118 (fun z0 z1 q hq => M_bound_Groups_1_w z0 z1 q hq) rfl) ?_ rfl rfl rfl
      refine JL_nil ?_
      refine hK117 _ _ ?_
      refine JC_seq (fun K119 hK119 => ?_)
      refine JC_region ?_
      refine JL_go (u := .vec 70000008 s111.length 4 s111.length) (A_move rfl rfl) ?_ rfl rfl rfl
      refine JL_go (u := .vec 70000008 s111.length 4 s111.length) (A_assign rfl rfl) ?_ rfl rfl rfl
      refine JL_nil ?_
      refine hK119 _ _ ?_
      refine JC_vfreeze [(2, LS 4 bound_Count.av r118)] [(70000011, MP 64 Group.kv bound_Count.av s85), (70000047, .iter 70000011 (AMap.size s85) i111)] 70000008 rfl rfl ⟨⟨_, rfl, .map⟩, ⟨_, rfl, .iter rfl⟩, trivial⟩ rfl (by exact ⟨.vec, trivial⟩) ?_
      refine JC_ret ?_
      exact ⟨[LS 4 bound_Count.av r118], [], trivial, rfl, ⟨⟨_, rfl, .conv (.same rfl)⟩, trivial⟩, rfl, r118, Eq.mpr (Option.some.inj h) hp, rfl⟩
theorem M_bound_Groups_s (S_ : (List Box) → Option (List bound_Count)) (hS_ : ∀ boxes r, S_ boxes = some r → ∃ p : Prop, M_bound_Groups boxes (fun r_ => r_ = r) = some p ∧ p) (boxes : List Box) (r : (List bound_Count)) (h : S_ boxes = some r) : Pure Try.prog 6 [LS 9 Box.av boxes] (· = LS 4 bound_Count.av r) := by
  obtain ⟨p, h1, h2⟩ := hS_ boxes r h
  exact (M_bound_Groups_w boxes _ p h1 h2).monoP (fun av hh => by obtain ⟨r_, rfl, ha⟩ := hh; exact ha)

def M_bound_family_1 (c : bound_Count) (p1 : Group) : Option Bool :=
  some (decide (c.Group = p1))
theorem M_bound_family_1_w (c : bound_Count) (p1 : Group) (r : Bool) (h : M_bound_family_1 c p1 = some r) : Pure Try.prog 40 [.agg (bound_Count.cs c), .dptr [I64 p1.Load, I64 p1.Discharge]] (· = BL r) := by
  unfold M_bound_family_1 at h
  refine Pure_ofG [.tmp 3] Try.func40 rfl rfl ?_
  refine JC_seq (fun K1 hK1 => ?_)
  refine JC_region ?_
  refine JL_go (u := .ptr 410000002 0) (A_box (u := .agg (bound_Count.cs c)) (cs := [I64 c.Group.Load, I64 c.Group.Discharge, I64 c.Whole, I64 c.Half]) 410000002 rfl rfl rfl rfl rfl) ?_ rfl rfl rfl
  refine JL_go (u := BL false) (A_assign rfl rfl) ?_ rfl rfl rfl
  refine JL_nil ?_
  refine hK1 _ _ ?_
  refine JC_freeze [(1, .dptr [I64 p1.Load, I64 p1.Discharge]), (2, .dptr (bound_Count.cs c))] [] 410000002 rfl rfl rfl trivial rfl (by exact ⟨.conv (.same rfl), .ptr, trivial⟩) ?_
  refine JC_seq (fun K2 hK2 => ?_)
  refine JC_region ?_
  refine JL_go (u := .dptr (bound_Count.cs c)) (A_fieldM tf_field_29_0 rfl rfl rfl) ?_ rfl rfl rfl
  refine JL_go (u := .agg [I64 c.Group.Load, I64 c.Group.Discharge]) (A_loadAgg tf_agg_24 rfl rfl rfl) ?_ rfl rfl rfl
  refine JL_go (u := .agg [I64 p1.Load, I64 p1.Discharge]) (A_loadAgg tf_agg_24 rfl rfl rfl) ?_ rfl rfl rfl
  refine JL_go (u := BL (decide (c.Group = p1))) (A_eqAgg (vs := [.int .i64 c.Group.Load, .int .i64 c.Group.Discharge]) (us := [.int .i64 p1.Load, .int .i64 p1.Discharge]) 4 rfl (tq_24 c.Group p1) tf_aggof_24 tf_eqg_24 rfl rfl rfl) ?_ rfl rfl rfl
  refine JL_go (u := BL (decide (c.Group = p1))) (A_assign rfl rfl) ?_ rfl rfl rfl
  refine JL_nil ?_
  refine hK2 _ _ ?_
  refine JC_ret ?_
  exact ⟨[BL (decide (c.Group = p1))], [], trivial, rfl, ⟨⟨_, rfl, .conv (.same rfl)⟩, trivial⟩, rfl, congrArg (fun r : Bool => (BL r : AV)) (Option.some.inj h)⟩

def M_slices_IndexFunc_boundCount (s : List bound_Count) (f : bound_Count → Option Bool) : Option Int :=
  each (fun y20 i20 (s20 : Unit) nx20 =>
    bnd (f y20) fun r26 =>
    bif r26 then
    (some (i20 : Int))
    else
    (nx20 ()))
  (fun (s20 : Unit) =>
    some (-1)) s 0 ()
theorem M_slices_IndexFunc_boundCount_w (s : List bound_Count) (f : bound_Count → Option Bool) (f_f : FuncId) (f_c : List AV) (f_B : callB Try.prog f_f = true) (f_d : refsL (fun _ => false) f_c = true) (f_w : ∀ a0 q, f a0 = some q → Pure Try.prog f_f ([.agg (bound_Count.cs a0)] ++ f_c) (· = BL q)) (r : Int) (h : M_slices_IndexFunc_boundCount s f = some r) : Pure Try.prog 39 [LS 4 bound_Count.av s, .fn f_f f_c] (· = I64 r) := by
  unfold M_slices_IndexFunc_boundCount at h
  refine Pure_ofG [.tmp 4] Try.func39 rfl rfl ?_
  refine JC_seq (fun K1 hK1 => ?_)
  refine JC_region ?_
  refine JL_go (u := I64 0) (A_assign rfl rfl) ?_ rfl rfl rfl
  refine JL_nil ?_
  refine hK1 _ _ ?_
  refine JC_seq (fun K2 hK2 => ?_)
  refine JC_seq (fun K3 hK3 => ?_)
  refine JC_region ?_
  refine JL_go (u := LS 4 bound_Count.av s) (A_move rfl rfl) ?_ rfl rfl rfl
  refine JL_lenM (f := bound_Count.av) (xs := s) tf_slice_26 rfl rfl (fun hm7 => ?_) rfl rfl rfl
  refine JL_go (u := I64 0) (A_move rfl rfl) ?_ rfl rfl rfl
  refine JL_nil ?_
  refine hK3 _ _ ?_
  refine JC_block ?_
  obtain ⟨b20, kx20, hb20, hkx20, h⟩ := each_in h
  refine JC_loop2 (fun i20 (s20 : Unit) => each b20 kx20 (List.drop i20 s) i20 s20 = some r) (fun i20 s20 => [(0, LS 4 bound_Count.av s), (1, .fn f_f f_c), (7, I64 (s.length : Int)), (8, I64 (i20 : Int))]) (fun i20 s20 => []) (fun i20 => s.length - i20) 0 () h ⟨⟨.same rfl, .same (refsL_any _ _ f_d), .same rfl, .same rfl, trivial⟩, trivial, rfl⟩ ?_
  clear h
  intro i20 s20 hi20 K20 e20
  refine JC_seq (fun K21 hK21 => ?_)
  refine JC_region ?_
  refine JL_go (u := BL (decide ((i20 : Int) < (s.length : Int)))) (A_lss rfl rfl rfl) ?_ rfl rfl rfl
  refine JL_nil ?_
  refine hK21 _ _ ?_
  refine JC_seq (fun K22 hK22 => ?_)
  refine JC_cond rfl (fun hb => ?_) (fun hb => ?_)
  ·
    have hk20 := lt_len hb
    obtain ⟨y20, nx20, hy20, hn20, h⟩ := each_out hi20 hk20
    replace h := app4 hb20 h
    refine JC_skip ?_
    refine hK22 _ _ ?_
    refine JC_seq (fun K23 hK23 => ?_)
    refine JC_block ?_
    refine JC_seq (fun K24 hK24 => ?_)
    refine JC_region ?_
    refine JL_go (u := I64 (i20 : Int)) (A_move rfl rfl) ?_ rfl rfl rfl
    refine JL_go (u := I64 (i20 : Int)) (A_assign rfl rfl) ?_ rfl rfl rfl
    refine JL_nil ?_
    refine hK24 _ _ ?_
    refine JC_seq (fun K25 hK25 => ?_)
    refine JC_region ?_
    refine JL_go (u := .fn f_f f_c) (A_move rfl rfl) ?_ rfl rfl rfl
    refine JL_go (u := LS 4 bound_Count.av s) (A_move rfl rfl) ?_ rfl rfl rfl
    refine JL_go (u := I64 (i20 : Int)) (A_move rfl rfl) ?_ rfl rfl rfl
    refine JL_go (u := .dptr (bound_Count.cs y20)) (A_indexM (f := bound_Count.av) (xs := s) (y := y20) rfl rfl rfl tf_slice_26 hy20 rfl) ?_ rfl rfl rfl
    refine JL_go (u := .agg (bound_Count.cs y20)) (A_loadAgg tf_agg_29 rfl rfl rfl) ?_ rfl rfl rfl
    obtain ⟨r26, hr26, h⟩ := bnd_out h
    refine JL_go (u := BL r26) (A_callV1 (args := [.agg (bound_Count.cs y20)]) (caps := f_c) rfl rfl (f_w y20 _ hr26) f_B ⟨rfl, rfl, trivial⟩ f_d) ?_ rfl rfl rfl
    refine JL_nil ?_
    refine hK25 _ _ ?_
    refine JC_cond rfl (fun hb => ?_) (fun hb => ?_)
    ·
      replace h := bif_t hb h
      refine JC_seq (fun K27 hK27 => ?_)
      refine JC_region ?_
      refine JL_go (u := I64 (i20 : Int)) (A_move rfl rfl) ?_ rfl rfl rfl
      refine JL_go (u := I64 (i20 : Int)) (A_assign rfl rfl) ?_ rfl rfl rfl
      refine JL_nil ?_
      refine hK27 _ _ ?_
      refine JC_ret ?_
      exact ⟨[I64 (i20 : Int)], [], trivial, rfl, ⟨⟨_, rfl, .conv (.same rfl)⟩, trivial⟩, rfl, congrArg (fun r : Int => (I64 r : AV)) (Option.some.inj h)⟩
    ·
      replace h := bif_f hb h
      refine JC_skip ?_
      refine hK23 _ _ ?_
      refine JC_region ?_
      refine JL_go (u := I64 ((i20 + 1 : Nat) : Int)) (A_add (idx_succ hk20 hm7) rfl rfl rfl) ?_ rfl rfl rfl
      refine JL_go (u := I64 ((i20 + 1 : Nat) : Int)) (A_move rfl rfl) ?_ rfl rfl rfl
      refine JL_nil ?_
      exact e20 _ _ (i20 + 1) () (app1 hn20 h) (by omega) ⟨⟨.same rfl, .same (refsL_any _ _ f_d), .same rfl, .same rfl, trivial⟩, trivial, rfl⟩
  ·
    have h := app1 hkx20 (each_nil hi20 (not_lt_len hb))
    refine JC_exit ?_
    refine hK2 _ _ ?_
    refine JC_seq (fun K28 hK28 => ?_)
    refine JC_region ?_
    refine JL_go (u := I64 (-1)) (A_assign rfl rfl) ?_ rfl rfl rfl
    refine JL_nil ?_
    refine hK28 _ _ ?_
    refine JC_ret ?_
    exact ⟨[I64 (-1)], [], trivial, rfl, ⟨⟨_, rfl, .conv (.same rfl)⟩, trivial⟩, rfl, congrArg (fun r : Int => (I64 r : AV)) (Option.some.inj h)⟩

def M_bound_Cross (a : Group) (b : Group) : Option Bool :=
  some (((decide (a.Load < b.Load)) && (decide (b.Load < a.Discharge))) && (decide (a.Discharge < b.Discharge)))
theorem M_bound_Cross_w (a : Group) (b : Group) (r : Bool) (h : M_bound_Cross a b = some r) : Pure Try.prog 7 [.agg [I64 a.Load, I64 a.Discharge], .agg [I64 b.Load, I64 b.Discharge]] (· = BL r) := by
  unfold M_bound_Cross at h
  refine Pure_ofG [.tmp 4] Try.func7 rfl rfl ?_
  refine JC_seq (fun K1 hK1 => ?_)
  refine JC_region ?_
  refine JL_go (u := .ptr 80000002 0) (A_box (u := .agg [I64 a.Load, I64 a.Discharge]) (cs := [I64 a.Load, I64 a.Discharge]) 80000002 rfl rfl rfl rfl rfl) ?_ rfl rfl rfl
  refine JL_go (u := .ptr 80000003 0) (A_box (u := .agg [I64 b.Load, I64 b.Discharge]) (cs := [I64 b.Load, I64 b.Discharge]) 80000003 rfl rfl rfl rfl rfl) ?_ rfl rfl rfl
  refine JL_go (u := BL false) (A_assign rfl rfl) ?_ rfl rfl rfl
  refine JL_nil ?_
  refine hK1 _ _ ?_
  refine JC_freeze [(2, .dptr [I64 a.Load, I64 a.Discharge]), (3, .ptr 80000003 0)] [(80000003, .box 24 [I64 b.Load, I64 b.Discharge])] 80000002 rfl rfl rfl ⟨⟨_, rfl, .boxEq rfl rfl⟩, trivial⟩ rfl (by exact ⟨.ptr, .conv (.same rfl), trivial⟩) ?_
  refine JC_freeze [(2, .dptr [I64 a.Load, I64 a.Discharge]), (3, .dptr [I64 b.Load, I64 b.Discharge])] [] 80000003 rfl rfl rfl trivial rfl (by exact ⟨.conv (.same rfl), .ptr, trivial⟩) ?_
  refine JC_seq (fun K2 hK2 => ?_)
  refine JC_region ?_
  refine JL_go (u := .dptr [I64 a.Load, I64 a.Discharge]) (A_fieldM tf_field_24_0 rfl rfl rfl) ?_ rfl rfl rfl
  refine JL_go (u := I64 a.Load) (A_load tf_scalar_3 rfl rfl rfl) ?_ rfl rfl rfl
  refine JL_go (u := .dptr [I64 b.Load, I64 b.Discharge]) (A_fieldM tf_field_24_0 rfl rfl rfl) ?_ rfl rfl rfl
  refine JL_go (u := I64 b.Load) (A_load tf_scalar_3 rfl rfl rfl) ?_ rfl rfl rfl
  refine JL_go (u := BL (decide (a.Load < b.Load))) (A_lss rfl rfl rfl) ?_ rfl rfl rfl
  refine JL_go (u := BL (decide (a.Load < b.Load))) (A_move rfl rfl) ?_ rfl rfl rfl
  refine JL_opt (u := .dptr [I64 b.Load, I64 b.Discharge]) [] rfl rfl rfl .sct trivial (fun hc => A_fieldM tf_field_24_0 rfl rfl rfl) ?_ rfl rfl rfl
  refine JL_opt (u := I64 b.Load) [(11, .dptr [I64 b.Load, I64 b.Discharge])] rfl rfl rfl .sct ⟨.all id, trivial⟩ (fun hc => A_load tf_scalar_3 rfl rfl rfl) ?_ rfl rfl rfl
  refine JL_opt (u := .dptr [I64 a.Discharge]) [] rfl rfl rfl .sct trivial (fun hc => A_fieldM tf_field_24_1 rfl rfl rfl) ?_ rfl rfl rfl
  refine JL_opt (u := I64 a.Discharge) [(13, .dptr [I64 a.Discharge])] rfl rfl rfl .sct ⟨.all id, trivial⟩ (fun hc => A_load tf_scalar_3 rfl rfl rfl) ?_ rfl rfl rfl
  refine JL_opt (u := BL (decide (b.Load < a.Discharge))) [(12, I64 b.Load), (14, I64 a.Discharge)] rfl rfl rfl .sct ⟨.all id, .all id, trivial⟩ (fun hc => A_lss rfl rfl rfl) ?_ rfl rfl rfl
  refine JL_go (u := BL ((decide (a.Load < b.Load)) && (decide (b.Load < a.Discharge)))) (A_and rfl rfl rfl rfl) ?_ rfl rfl rfl
  refine JL_go (u := BL ((decide (a.Load < b.Load)) && (decide (b.Load < a.Discharge)))) (A_move rfl rfl) ?_ rfl rfl rfl
  refine JL_opt (u := .dptr [I64 a.Discharge]) [] rfl rfl rfl .sct trivial (fun hc => A_fieldM tf_field_24_1 rfl rfl rfl) ?_ rfl rfl rfl
  refine JL_opt (u := I64 a.Discharge) [(18, .dptr [I64 a.Discharge])] rfl rfl rfl .sct ⟨.all id, trivial⟩ (fun hc => A_load tf_scalar_3 rfl rfl rfl) ?_ rfl rfl rfl
  refine JL_opt (u := .dptr [I64 b.Discharge]) [] rfl rfl rfl .sct trivial (fun hc => A_fieldM tf_field_24_1 rfl rfl rfl) ?_ rfl rfl rfl
  refine JL_opt (u := I64 b.Discharge) [(20, .dptr [I64 b.Discharge])] rfl rfl rfl .sct ⟨.all id, trivial⟩ (fun hc => A_load tf_scalar_3 rfl rfl rfl) ?_ rfl rfl rfl
  refine JL_opt (u := BL (decide (a.Discharge < b.Discharge))) [(19, I64 a.Discharge), (21, I64 b.Discharge)] rfl rfl rfl .sct ⟨.all id, .all id, trivial⟩ (fun hc => A_lss rfl rfl rfl) ?_ rfl rfl rfl
  refine JL_go (u := BL (((decide (a.Load < b.Load)) && (decide (b.Load < a.Discharge))) && (decide (a.Discharge < b.Discharge)))) (A_and rfl rfl rfl rfl) ?_ rfl rfl rfl
  refine JL_go (u := BL (((decide (a.Load < b.Load)) && (decide (b.Load < a.Discharge))) && (decide (a.Discharge < b.Discharge)))) (A_assign rfl rfl) ?_ rfl rfl rfl
  refine JL_nil ?_
  refine hK2 _ _ ?_
  refine JC_ret ?_
  exact ⟨[BL (((decide (a.Load < b.Load)) && (decide (b.Load < a.Discharge))) && (decide (a.Discharge < b.Discharge)))], [], trivial, rfl, ⟨⟨_, rfl, .conv (.same rfl)⟩, trivial⟩, rfl, congrArg (fun r : Bool => (BL r : AV)) (Option.some.inj h)⟩

def M_bound_family_2 (h_ : Group) (p1 : Group) : Option Bool :=
  bnd (M_bound_Cross p1 h_) fun r3 =>
  some (!r3)
theorem M_bound_family_2_w (h_ : Group) (p1 : Group) (r : Bool) (h : M_bound_family_2 h_ p1 = some r) : Pure Try.prog 42 [.agg [I64 h_.Load, I64 h_.Discharge], .dptr [I64 p1.Load, I64 p1.Discharge]] (· = BL r) := by
  unfold M_bound_family_2 at h
  refine Pure_ofG [.tmp 3] Try.func42 rfl rfl ?_
  refine JC_seq (fun K1 hK1 => ?_)
  refine JC_region ?_
  refine JL_go (u := .ptr 430000002 0) (A_box (u := .agg [I64 h_.Load, I64 h_.Discharge]) (cs := [I64 h_.Load, I64 h_.Discharge]) 430000002 rfl rfl rfl rfl rfl) ?_ rfl rfl rfl
  refine JL_go (u := BL false) (A_assign rfl rfl) ?_ rfl rfl rfl
  refine JL_nil ?_
  refine hK1 _ _ ?_
  refine JC_freeze [(1, .dptr [I64 p1.Load, I64 p1.Discharge]), (2, .dptr [I64 h_.Load, I64 h_.Discharge])] [] 430000002 rfl rfl rfl trivial rfl (by exact ⟨.conv (.same rfl), .ptr, trivial⟩) ?_
  refine JC_seq (fun K2 hK2 => ?_)
  refine JC_region ?_
  refine JL_go (u := .agg [I64 p1.Load, I64 p1.Discharge]) (A_loadAgg tf_agg_24 rfl rfl rfl) ?_ rfl rfl rfl
  refine JL_go (u := .agg [I64 h_.Load, I64 h_.Discharge]) (A_loadAgg tf_agg_24 rfl rfl rfl) ?_ rfl rfl rfl
  obtain ⟨r3, hr3, h⟩ := bnd_out h
  refine JL_go (u := BL r3) (A_call1 (args := [.agg [I64 p1.Load, I64 p1.Discharge], .agg [I64 h_.Load, I64 h_.Discharge]]) rfl (M_bound_Cross_w p1 h_ r3 hr3) tf_call_7 ⟨rfl, rfl, rfl, rfl, trivial⟩) ?_ rfl rfl rfl
  refine JL_go (u := BL (!r3)) (A_not rfl rfl) ?_ rfl rfl rfl
  refine JL_go (u := BL (!r3)) (A_assign rfl rfl) ?_ rfl rfl rfl
  refine JL_nil ?_
  refine hK2 _ _ ?_
  refine JC_ret ?_
  exact ⟨[BL (!r3)], [], trivial, rfl, ⟨⟨_, rfl, .conv (.same rfl)⟩, trivial⟩, rfl, congrArg (fun r : Bool => (BL r : AV)) (Option.some.inj h)⟩

def M_slices_IndexFunc_apiGroup (s : List Group) (f : Group → Option Bool) : Option Int :=
  each (fun y20 i20 (s20 : Unit) nx20 =>
    bnd (f y20) fun r26 =>
    bif r26 then
    (some (i20 : Int))
    else
    (nx20 ()))
  (fun (s20 : Unit) =>
    some (-1)) s 0 ()
theorem M_slices_IndexFunc_apiGroup_w (s : List Group) (f : Group → Option Bool) (f_f : FuncId) (f_c : List AV) (f_B : callB Try.prog f_f = true) (f_d : refsL (fun _ => false) f_c = true) (f_w : ∀ a0 q, f a0 = some q → Pure Try.prog f_f ([.agg [I64 a0.Load, I64 a0.Discharge]] ++ f_c) (· = BL q)) (r : Int) (h : M_slices_IndexFunc_apiGroup s f = some r) : Pure Try.prog 60 [LS 2 Group.av s, .fn f_f f_c] (· = I64 r) := by
  unfold M_slices_IndexFunc_apiGroup at h
  refine Pure_ofG [.tmp 4] Try.func60 rfl rfl ?_
  refine JC_seq (fun K1 hK1 => ?_)
  refine JC_region ?_
  refine JL_go (u := I64 0) (A_assign rfl rfl) ?_ rfl rfl rfl
  refine JL_nil ?_
  refine hK1 _ _ ?_
  refine JC_seq (fun K2 hK2 => ?_)
  refine JC_seq (fun K3 hK3 => ?_)
  refine JC_region ?_
  refine JL_go (u := LS 2 Group.av s) (A_move rfl rfl) ?_ rfl rfl rfl
  refine JL_lenM (f := Group.av) (xs := s) tf_slice_56 rfl rfl (fun hm7 => ?_) rfl rfl rfl
  refine JL_go (u := I64 0) (A_move rfl rfl) ?_ rfl rfl rfl
  refine JL_nil ?_
  refine hK3 _ _ ?_
  refine JC_block ?_
  obtain ⟨b20, kx20, hb20, hkx20, h⟩ := each_in h
  refine JC_loop2 (fun i20 (s20 : Unit) => each b20 kx20 (List.drop i20 s) i20 s20 = some r) (fun i20 s20 => [(0, LS 2 Group.av s), (1, .fn f_f f_c), (7, I64 (s.length : Int)), (8, I64 (i20 : Int))]) (fun i20 s20 => []) (fun i20 => s.length - i20) 0 () h ⟨⟨.same rfl, .same (refsL_any _ _ f_d), .same rfl, .same rfl, trivial⟩, trivial, rfl⟩ ?_
  clear h
  intro i20 s20 hi20 K20 e20
  refine JC_seq (fun K21 hK21 => ?_)
  refine JC_region ?_
  refine JL_go (u := BL (decide ((i20 : Int) < (s.length : Int)))) (A_lss rfl rfl rfl) ?_ rfl rfl rfl
  refine JL_nil ?_
  refine hK21 _ _ ?_
  refine JC_seq (fun K22 hK22 => ?_)
  refine JC_cond rfl (fun hb => ?_) (fun hb => ?_)
  ·
    have hk20 := lt_len hb
    obtain ⟨y20, nx20, hy20, hn20, h⟩ := each_out hi20 hk20
    replace h := app4 hb20 h
    refine JC_skip ?_
    refine hK22 _ _ ?_
    refine JC_seq (fun K23 hK23 => ?_)
    refine JC_block ?_
    refine JC_seq (fun K24 hK24 => ?_)
    refine JC_region ?_
    refine JL_go (u := I64 (i20 : Int)) (A_move rfl rfl) ?_ rfl rfl rfl
    refine JL_go (u := I64 (i20 : Int)) (A_assign rfl rfl) ?_ rfl rfl rfl
    refine JL_nil ?_
    refine hK24 _ _ ?_
    refine JC_seq (fun K25 hK25 => ?_)
    refine JC_region ?_
    refine JL_go (u := .fn f_f f_c) (A_move rfl rfl) ?_ rfl rfl rfl
    refine JL_go (u := LS 2 Group.av s) (A_move rfl rfl) ?_ rfl rfl rfl
    refine JL_go (u := I64 (i20 : Int)) (A_move rfl rfl) ?_ rfl rfl rfl
    refine JL_go (u := .dptr [I64 y20.Load, I64 y20.Discharge]) (A_indexM (f := Group.av) (xs := s) (y := y20) rfl rfl rfl tf_slice_56 hy20 rfl) ?_ rfl rfl rfl
    refine JL_go (u := .agg [I64 y20.Load, I64 y20.Discharge]) (A_loadAgg tf_agg_24 rfl rfl rfl) ?_ rfl rfl rfl
    obtain ⟨r26, hr26, h⟩ := bnd_out h
    refine JL_go (u := BL r26) (A_callV1 (args := [.agg [I64 y20.Load, I64 y20.Discharge]]) (caps := f_c) rfl rfl (f_w y20 _ hr26) f_B ⟨rfl, rfl, trivial⟩ f_d) ?_ rfl rfl rfl
    refine JL_nil ?_
    refine hK25 _ _ ?_
    refine JC_cond rfl (fun hb => ?_) (fun hb => ?_)
    ·
      replace h := bif_t hb h
      refine JC_seq (fun K27 hK27 => ?_)
      refine JC_region ?_
      refine JL_go (u := I64 (i20 : Int)) (A_move rfl rfl) ?_ rfl rfl rfl
      refine JL_go (u := I64 (i20 : Int)) (A_assign rfl rfl) ?_ rfl rfl rfl
      refine JL_nil ?_
      refine hK27 _ _ ?_
      refine JC_ret ?_
      exact ⟨[I64 (i20 : Int)], [], trivial, rfl, ⟨⟨_, rfl, .conv (.same rfl)⟩, trivial⟩, rfl, congrArg (fun r : Int => (I64 r : AV)) (Option.some.inj h)⟩
    ·
      replace h := bif_f hb h
      refine JC_skip ?_
      refine hK23 _ _ ?_
      refine JC_region ?_
      refine JL_go (u := I64 ((i20 + 1 : Nat) : Int)) (A_add (idx_succ hk20 hm7) rfl rfl rfl) ?_ rfl rfl rfl
      refine JL_go (u := I64 ((i20 + 1 : Nat) : Int)) (A_move rfl rfl) ?_ rfl rfl rfl
      refine JL_nil ?_
      exact e20 _ _ (i20 + 1) () (app1 hn20 h) (by omega) ⟨⟨.same rfl, .same (refsL_any _ _ f_d), .same rfl, .same rfl, trivial⟩, trivial, rfl⟩
  ·
    have h := app1 hkx20 (each_nil hi20 (not_lt_len hb))
    refine JC_exit ?_
    refine hK2 _ _ ?_
    refine JC_seq (fun K28 hK28 => ?_)
    refine JC_region ?_
    refine JL_go (u := I64 (-1)) (A_assign rfl rfl) ?_ rfl rfl rfl
    refine JL_nil ?_
    refine hK28 _ _ ?_
    refine JC_ret ?_
    exact ⟨[I64 (-1)], [], trivial, rfl, ⟨⟨_, rfl, .conv (.same rfl)⟩, trivial⟩, rfl, congrArg (fun r : Int => (I64 r : AV)) (Option.some.inj h)⟩

def M_slices_ContainsFunc_apiGroup (s : List Group) (f : Group → Option Bool) : Option Bool :=
  bnd (M_slices_IndexFunc_apiGroup s f) fun r3 =>
  some (decide (0 ≤ r3))
theorem M_slices_ContainsFunc_apiGroup_w (s : List Group) (f : Group → Option Bool) (f_f : FuncId) (f_c : List AV) (f_B : callB Try.prog f_f = true) (f_d : refsL (fun _ => false) f_c = true) (f_w : ∀ a0 q, f a0 = some q → Pure Try.prog f_f ([.agg [I64 a0.Load, I64 a0.Discharge]] ++ f_c) (· = BL q)) (r : Bool) (h : M_slices_ContainsFunc_apiGroup s f = some r) : Pure Try.prog 41 [LS 2 Group.av s, .fn f_f f_c] (· = BL r) := by
  unfold M_slices_ContainsFunc_apiGroup at h
  refine Pure_ofG [.tmp 4] Try.func41 rfl rfl ?_
  refine JC_seq (fun K1 hK1 => ?_)
  refine JC_region ?_
  refine JL_go (u := BL false) (A_assign rfl rfl) ?_ rfl rfl rfl
  refine JL_nil ?_
  refine hK1 _ _ ?_
  refine JC_seq (fun K2 hK2 => ?_)
  refine JC_region ?_
  refine JL_go (u := LS 2 Group.av s) (A_move rfl rfl) ?_ rfl rfl rfl
  refine JL_go (u := .fn f_f f_c) (A_move rfl rfl) ?_ rfl rfl rfl
  obtain ⟨r3, hr3, h⟩ := bnd_out h
  refine JL_go (u := I64 r3) (A_call1 (args := [LS 2 Group.av s, .fn f_f f_c]) rfl (M_slices_IndexFunc_apiGroup_w s f f_f f_c f_B f_d f_w r3 hr3) tf_call_60 ⟨rfl, rfl, rfl, f_d, trivial⟩) ?_ rfl rfl rfl
  refine JL_go (u := BL (decide (0 ≤ r3))) (A_geq rfl rfl rfl) ?_ rfl rfl rfl
  refine JL_go (u := BL (decide (0 ≤ r3))) (A_assign rfl rfl) ?_ rfl rfl rfl
  refine JL_nil ?_
  refine hK2 _ _ ?_
  refine JC_ret ?_
  exact ⟨[BL (decide (0 ≤ r3))], [], trivial, rfl, ⟨⟨_, rfl, .conv (.same rfl)⟩, trivial⟩, rfl, congrArg (fun r : Bool => (BL r : AV)) (Option.some.inj h)⟩

def M_bound_family (counts : List bound_Count) (l : List Group) : Option ((List bound_Count) × Int) :=
  each (fun y47 i47 (s47 : (List bound_Count)) nx47 =>
    bnd (M_slices_IndexFunc_boundCount counts (fun z0 => M_bound_family_1 z0 y47)) fun r53 =>
    bnd (bif (!(decide (r53 < 0))) then chk ((i47 : Int) + 1) some else some 0) fun v56 =>
    bnd (bif (!(decide (r53 < 0))) then natIn v56 l.length else some 0) fun m57 =>
    bnd (bif (!(decide (r53 < 0))) then M_slices_ContainsFunc_apiGroup (l.drop m57) (fun z0 => M_bound_family_2 z0 y47) else some default) fun r58 =>
    bif ((decide (r53 < 0)) || r58) then
    (some ([], 270))
    else
    (gidx counts r53 fun y60 =>
      need (decide ((s47.length + [y60].length) * 32 ≤ 140737488355328 ∧ s47.length + [y60].length ≤ maxLen)) <|
      nx47 (s47 ++ [y60])))
  (fun (s47 : (List bound_Count)) =>
    some (s47, 0)) l 0 []
theorem M_bound_family_w (counts : List bound_Count) (l : List Group) (r : (List bound_Count) × Int) (h : M_bound_family counts l = some r) : Pure Try.prog 23 [LS 4 bound_Count.av counts, LS 2 Group.av l] (· = .tup [LS 4 bound_Count.av r.1, I64 r.2]) := by
  unfold M_bound_family at h
  refine Pure_ofG [.tmp 4, .tmp 5] Try.func23 rfl rfl ?_
  refine JC_seq (fun K1 hK1 => ?_)
  refine JC_region ?_
  refine JL_go (u := LS 4 bound_Count.av ([] : List bound_Count)) (A_nilList 4 rfl rfl) ?_ rfl rfl rfl
  refine JL_go (u := I64 0) (A_assign rfl rfl) ?_ rfl rfl rfl
  refine JL_nil ?_
  refine hK1 _ _ ?_
  refine JC_seq (fun K2 hK2 => ?_)
  refine JC_region ?_
  refine JL_go (u := OW 240000006 4 bound_Count.av ([] : List bound_Count)) (A_nilOwn 240000006 29 4 rfl rfl rfl) ?_ rfl rfl rfl
  refine JL_nil ?_
  refine hK2 _ _ ?_
  refine JC_seq (fun K3 hK3 => ?_)
  refine JC_seq (fun K4 hK4 => ?_)
  refine JC_region ?_
  refine JL_go (u := LS 2 Group.av l) (A_move rfl rfl) ?_ rfl rfl rfl
  refine JL_lenM (f := Group.av) (xs := l) tf_slice_56 rfl rfl (fun hm11 => ?_) rfl rfl rfl
  refine JL_go (u := I64 0) (A_move rfl rfl) ?_ rfl rfl rfl
  refine JL_nil ?_
  refine hK4 _ _ ?_
  refine JC_block ?_
  obtain ⟨b47, kx47, hb47, hkx47, h⟩ := each_in h
  refine JC_loop2 (fun i47 (s47 : (List bound_Count)) => each b47 kx47 (List.drop i47 l) i47 s47 = some r) (fun i47 s47 => [(0, LS 4 bound_Count.av counts), (1, LS 2 Group.av l), (6, OW 240000006 4 bound_Count.av s47), (10, LS 2 Group.av l), (11, I64 (l.length : Int)), (12, I64 (i47 : Int))]) (fun i47 s47 => [(240000006, .spare 29 4 s47.length s47.length)]) (fun i47 => l.length - i47) 0 [] h ⟨⟨.same rfl, .same rfl, .same rfl, .same rfl, .same rfl, .same rfl, trivial⟩, ⟨⟨_, rfl, .same⟩, trivial⟩, rfl⟩ ?_
  clear h
  intro i47 s47 hi47 K47 e47
  refine JC_seq (fun K48 hK48 => ?_)
  refine JC_region ?_
  refine JL_go (u := BL (decide ((i47 : Int) < (l.length : Int)))) (A_lss rfl rfl rfl) ?_ rfl rfl rfl
  refine JL_nil ?_
  refine hK48 _ _ ?_
  refine JC_seq (fun K49 hK49 => ?_)
  refine JC_cond rfl (fun hb => ?_) (fun hb => ?_)
  ·
    have hk47 := lt_len hb
    obtain ⟨y47, nx47, hy47, hn47, h⟩ := each_out hi47 hk47
    replace h := app4 hb47 h
    refine JC_skip ?_
    refine hK49 _ _ ?_
    refine JC_seq (fun K50 hK50 => ?_)
    refine JC_block ?_
    refine JC_seq (fun K51 hK51 => ?_)
    refine JC_region ?_
    refine JL_go (u := I64 (i47 : Int)) (A_move rfl rfl) ?_ rfl rfl rfl
    refine JL_go (u := .dptr [I64 y47.Load, I64 y47.Discharge]) (A_indexM (f := Group.av) (xs := l) (y := y47) rfl rfl rfl tf_slice_56 hy47 rfl) ?_ rfl rfl rfl
    refine JL_go (u := .agg [I64 y47.Load, I64 y47.Discharge]) (A_loadAgg tf_agg_24 rfl rfl rfl) ?_ rfl rfl rfl
    refine JL_go (u := .ptr 240000008 0) (A_allocJ 240000008 2 tf_zsize_24 rfl rfl) ?_ rfl rfl rfl
    refine JL_go (u := I64 (i47 : Int)) (A_assign rfl rfl) ?_ rfl rfl rfl
    refine JL_go0 (u := .junk) (A_store (u := .agg [I64 y47.Load, I64 y47.Discharge]) (ds := [I64 y47.Load, I64 y47.Discharge]) tf_size_24 rfl rfl rfl rfl rfl rfl rfl rfl) ?_ rfl rfl
    refine JL_nil ?_
    refine hK51 _ _ ?_
    refine JC_freeze [(0, LS 4 bound_Count.av counts), (1, LS 2 Group.av l), (6, OW 240000006 4 bound_Count.av s47), (7, I64 (i47 : Int)), (8, .dptr [I64 y47.Load, I64 y47.Discharge]), (10, LS 2 Group.av l), (11, I64 (l.length : Int)), (12, I64 (i47 : Int))] [(240000006, .spare 29 4 s47.length s47.length)] 240000008 rfl rfl rfl ⟨⟨_, rfl, .same⟩, trivial⟩ rfl (by exact ⟨.conv (.same rfl), .conv (.same rfl), .conv (.same rfl), .conv (.same rfl), .ptr, .conv (.same rfl), .conv (.same rfl), .conv (.same rfl), trivial⟩) ?_
    refine JC_seq (fun K52 hK52 => ?_)
    refine JC_region ?_
    refine JL_go (u := LS 4 bound_Count.av counts) (A_move rfl rfl) ?_ rfl rfl rfl
    refine JL_go (u := .fn 40 [.dptr [I64 y47.Load, I64 y47.Discharge]]) (A_makeFunc (cs := [.dptr [I64 y47.Load, I64 y47.Discharge]]) rfl rfl) ?_ rfl rfl rfl
    obtain ⟨r53, hr53, h⟩ := bnd_out h
    refine JL_go (u := I64 r53) (A_call1 (args := [LS 4 bound_Count.av counts, .fn 40 [.dptr [I64 y47.Load, I64 y47.Discharge]]]) rfl (M_slices_IndexFunc_boundCount_w counts (fun z0 => M_bound_family_1 z0 y47) 40 [.dptr [I64 y47.Load, I64 y47.Discharge]] tf_call_40 rfl (fun z0 q hq => M_bound_family_1_w z0 y47 q hq) r53 hr53) tf_call_39 ⟨rfl, rfl, rfl, rfl, trivial⟩) ?_ rfl rfl rfl
    refine JL_go (u := I64 r53) (A_assign rfl rfl) ?_ rfl rfl rfl
    refine JL_nil ?_
    refine hK52 _ _ ?_
    refine JC_seq (fun K54 hK54 => ?_)
    refine JC_seq (fun K55 hK55 => ?_)
    refine JC_region ?_
    refine JL_go (u := I64 r53) (A_move rfl rfl) ?_ rfl rfl rfl
    refine JL_go (u := BL (decide (r53 < 0))) (A_lss rfl rfl rfl) ?_ rfl rfl rfl
    refine JL_go (u := BL (decide (r53 < 0))) (A_move rfl rfl) ?_ rfl rfl rfl
    refine JL_opt (u := LS 2 Group.av l) [] rfl rfl rfl .scf trivial (fun hc => A_move rfl rfl) ?_ rfl rfl rfl
    refine JL_opt (u := I64 (i47 : Int)) [] rfl rfl rfl .scf trivial (fun hc => A_move rfl rfl) ?_ rfl rfl rfl
    obtain ⟨v56, hv56, h⟩ := bnd_out h
    refine JL_opt (u := I64 v56) [(24, I64 (i47 : Int))] rfl rfl rfl .scf ⟨.all id, trivial⟩ (fun hc => A_add (chk_some (bif_t hc hv56)) rfl rfl rfl) ?_ rfl rfl rfl
    obtain ⟨m57, hm57, h⟩ := bnd_out h
    refine JL_opt (u := LS 2 Group.av (l.drop m57)) [(23, LS 2 Group.av l), (25, I64 v56)] rfl rfl rfl .scf ⟨.all id, .all id, trivial⟩ (fun hc => A_sliceLoM (f := Group.av) (xs := l) rfl rfl rfl tf_slice_56 (natIn_out (bif_t hc hm57))) ?_ rfl rfl rfl
    refine JL_opt (u := .fn 42 [.dptr [I64 y47.Load, I64 y47.Discharge]]) [] rfl rfl rfl .scf trivial (fun hc => A_makeFunc (cs := [.dptr [I64 y47.Load, I64 y47.Discharge]]) rfl rfl) ?_ rfl rfl rfl
    obtain ⟨r58, hr58, h⟩ := bnd_out h
    refine JL_opt (u := BL r58) [(26, LS 2 Group.av (l.drop m57)), (27, .fn 42 [.dptr [I64 y47.Load, I64 y47.Discharge]])] rfl rfl rfl .scf ⟨.all id, .all id, trivial⟩ (fun hc => A_call1 (args := [LS 2 Group.av (l.drop m57), .fn 42 [.dptr [I64 y47.Load, I64 y47.Discharge]]]) rfl (M_slices_ContainsFunc_apiGroup_w (l.drop m57) (fun z0 => M_bound_family_2 z0 y47) 42 [.dptr [I64 y47.Load, I64 y47.Discharge]] tf_call_42 rfl (fun z0 q hq => M_bound_family_2_w z0 y47 q hq) r58 (bif_t hc hr58)) tf_call_41 ⟨rfl, rfl, rfl, rfl, trivial⟩) ?_ rfl rfl rfl
    refine JL_go (u := BL ((decide (r53 < 0)) || r58)) (A_or rfl rfl rfl rfl) ?_ rfl rfl rfl
    refine JL_nil ?_
    refine hK55 _ _ ?_
    refine JC_cond rfl (fun hb => ?_) (fun hb => ?_)
    ·
      replace h := bif_t hb h
      refine JC_seq (fun K59 hK59 => ?_)
      refine JC_region ?_
      refine JL_go (u := LS 4 bound_Count.av ([] : List bound_Count)) (A_nilList 4 rfl rfl) ?_ rfl rfl rfl
      refine JL_go (u := I64 270) (A_assign rfl rfl) ?_ rfl rfl rfl
      refine JL_nil ?_
      refine hK59 _ _ ?_
      refine JC_ret ?_
      exact ⟨[LS 4 bound_Count.av ([] : List bound_Count), I64 270], [], trivial, rfl, ⟨⟨_, rfl, .conv (.same rfl)⟩, ⟨_, rfl, .conv (.same rfl)⟩, trivial⟩, rfl, congrArg (fun r : (List bound_Count) × Int => (.tup [LS 4 bound_Count.av r.1, I64 r.2] : AV)) (Option.some.inj h)⟩
    ·
      replace h := bif_f hb h
      refine JC_skip ?_
      refine hK54 _ _ ?_
      refine JC_region ?_
      refine JL_go (u := OW 240000006 4 bound_Count.av s47) (A_move rfl rfl) ?_ rfl rfl rfl
      refine JL_go (u := LS 4 bound_Count.av counts) (A_move rfl rfl) ?_ rfl rfl rfl
      refine JL_go (u := I64 r53) (A_move rfl rfl) ?_ rfl rfl rfl
      obtain ⟨m61, y60, hm61, hy60, h⟩ := gidx_out h
      refine JL_go (u := .dptr (bound_Count.cs y60)) (A_indexM (f := bound_Count.av) (xs := counts) (y := y60) rfl rfl rfl tf_slice_26 hy60 hm61) ?_ rfl rfl rfl
      refine JL_go (u := .agg (bound_Count.cs y60)) (A_loadAgg tf_agg_29 rfl rfl rfl) ?_ rfl rfl rfl
      refine JL_go (u := LS 4 bound_Count.av [y60]) (A_buildSlice (xs := [.agg (bound_Count.cs y60)]) rfl ⟨rfl, rfl, trivial⟩ tf_slice_26 tf_zsize_29 rfl rfl rfl rfl) ?_ rfl rfl rfl
      obtain ⟨ha62, h⟩ := need_out h
      refine JL_go (u := OW 240000006 4 bound_Count.av (s47 ++ [y60])) (A_appendM (f := bound_Count.av) (xs := s47) (ys := [y60]) rfl rfl rfl rfl tf_slice_26 tf_elem_29 ha62 (fun _ => rfl) (.inl rfl) rfl) ?_ rfl rfl rfl
      refine JL_go (u := OW 240000006 4 bound_Count.av (s47 ++ [y60])) (A_assign rfl rfl) ?_ rfl rfl rfl
      refine JL_nil ?_
      refine hK50 _ _ ?_
      refine JC_region ?_
      refine JL_go (u := I64 ((i47 + 1 : Nat) : Int)) (A_add (idx_succ hk47 hm11) rfl rfl rfl) ?_ rfl rfl rfl
      refine JL_go (u := I64 ((i47 + 1 : Nat) : Int)) (A_move rfl rfl) ?_ rfl rfl rfl
      refine JL_nil ?_
      exact e47 _ _ (i47 + 1) (s47 ++ [y60]) (app1 hn47 h) (by omega) ⟨⟨.same rfl, .same rfl, .same rfl, .same rfl, .same rfl, .same rfl, trivial⟩, ⟨⟨_, rfl, .same⟩, trivial⟩, rfl⟩
  ·
    have h := app1 hkx47 (each_nil hi47 (not_lt_len hb))
    refine JC_exit ?_
    refine hK3 _ _ ?_
    refine JC_seq (fun K63 hK63 => ?_)
    refine JC_region ?_
    refine JL_go (u := OW 240000006 4 bound_Count.av s47) (A_move rfl rfl) ?_ rfl rfl rfl
    refine JL_go (u := OW 240000006 4 bound_Count.av s47) (A_assign rfl rfl) ?_ rfl rfl rfl
    refine JL_go (u := I64 0) (A_assign rfl rfl) ?_ rfl rfl rfl
    refine JL_nil ?_
    refine hK63 _ _ ?_
    refine JC_ret ?_
    exact ⟨[LS 4 bound_Count.av s47, I64 0], [], trivial, rfl, ⟨⟨_, rfl, .conv (.list rfl)⟩, ⟨_, rfl, .conv (.same rfl)⟩, trivial⟩, rfl, congrArg (fun r : (List bound_Count) × Int => (.tup [LS 4 bound_Count.av r.1, I64 r.2] : AV)) (Option.some.inj h)⟩

def M_ship_Tallest (s : Ship) : Option Int :=
  each (fun y17 i17 (s17 : Int) nx17 =>
    jp (fun kj20 =>
      bif ((decide ((i17 : Int) = 0)) || (decide (s17 < y17.Tiers))) then
      (kj20 y17.Tiers)
      else
      (kj20 s17)) fun (j20 : Int) =>
    nx17 j20)
  (fun (s17 : Int) =>
    some s17) s.Columns 0 0
theorem M_ship_Tallest_w (s : Ship) (r : Int) (h : M_ship_Tallest s = some r) : Pure Try.prog 20 [.agg (Ship.cs s)] (· = I64 r) := by
  unfold M_ship_Tallest at h
  refine Pure_ofG [.tmp 2] Try.func20 rfl rfl ?_
  refine JC_seq (fun K1 hK1 => ?_)
  refine JC_region ?_
  refine JL_go (u := .ptr 210000001 0) (A_box (u := .agg (Ship.cs s)) (cs := [LS 12 Column.av s.Columns, LS 2 Cover.av s.Covers, I64 s.Light.Kilos, I64 s.Light.X, I64 s.Light.Y, I64 s.Light.Z, LS 5 Row.av s.Rows, LS 5 Frame.av s.Frames, LS 6 Tank.av s.Tanks, I64 s.Limits.Tolerance, I64 s.Limits.Trim, I64 s.Limits.List_, I64 s.Limits.Stability]) 210000001 rfl rfl rfl rfl rfl) ?_ rfl rfl rfl
  refine JL_go (u := I64 0) (A_assign rfl rfl) ?_ rfl rfl rfl
  refine JL_nil ?_
  refine hK1 _ _ ?_
  refine JC_freeze [(1, .dptr (Ship.cs s))] [] 210000001 rfl rfl rfl trivial rfl (by exact ⟨.ptr, trivial⟩) ?_
  refine JC_seq (fun K2 hK2 => ?_)
  refine JC_region ?_
  refine JL_go (u := I64 0) (A_assign rfl rfl) ?_ rfl rfl rfl
  refine JL_nil ?_
  refine hK2 _ _ ?_
  refine JC_seq (fun K3 hK3 => ?_)
  refine JC_seq (fun K4 hK4 => ?_)
  refine JC_region ?_
  refine JL_go (u := .dptr (Ship.cs s)) (A_fieldM tf_field_47_0 rfl rfl rfl) ?_ rfl rfl rfl
  refine JL_go (u := LS 12 Column.av s.Columns) (A_load tf_scalar_37 rfl rfl rfl) ?_ rfl rfl rfl
  refine JL_lenM (f := Column.av) (xs := s.Columns) tf_slice_37 rfl rfl (fun hm8 => ?_) rfl rfl rfl
  refine JL_go (u := I64 0) (A_move rfl rfl) ?_ rfl rfl rfl
  refine JL_nil ?_
  refine hK4 _ _ ?_
  refine JC_block ?_
  obtain ⟨b17, kx17, hb17, hkx17, h⟩ := each_in h
  refine JC_loop2 (fun i17 (s17 : Int) => each b17 kx17 (List.drop i17 s.Columns) i17 s17 = some r) (fun i17 s17 => [(3, I64 s17), (7, LS 12 Column.av s.Columns), (8, I64 (s.Columns.length : Int)), (9, I64 (i17 : Int))]) (fun i17 s17 => []) (fun i17 => s.Columns.length - i17) 0 0 h ⟨⟨.same rfl, .same rfl, .same rfl, .same rfl, trivial⟩, trivial, rfl⟩ ?_
  clear h
  intro i17 s17 hi17 K17 e17
  refine JC_seq (fun K18 hK18 => ?_)
  refine JC_region ?_
  refine JL_go (u := BL (decide ((i17 : Int) < (s.Columns.length : Int)))) (A_lss rfl rfl rfl) ?_ rfl rfl rfl
  refine JL_nil ?_
  refine hK18 _ _ ?_
  refine JC_seq (fun K19 hK19 => ?_)
  refine JC_cond rfl (fun hb => ?_) (fun hb => ?_)
  ·
    have hk17 := lt_len hb
    obtain ⟨y17, nx17, hy17, hn17, h⟩ := each_out hi17 hk17
    replace h := app4 hb17 h
    refine JC_skip ?_
    refine hK19 _ _ ?_
    obtain ⟨kj20, hkj20, h⟩ := jp_out h
    refine JC_seqJ (fun j20 : Int => kj20 j20 = some r) (fun j20 => [(3, I64 j20), (7, LS 12 Column.av s.Columns), (8, I64 (s.Columns.length : Int)), (9, I64 (i17 : Int))]) (fun j20 => []) (fun Kj20 ej20 => ?_) ?_
    ·
      refine JC_block ?_
      refine JC_seq (fun K21 hK21 => ?_)
      refine JC_region ?_
      refine JL_go (u := I64 (i17 : Int)) (A_move rfl rfl) ?_ rfl rfl rfl
      refine JL_go (u := .dptr (Column.cs y17)) (A_indexM (f := Column.av) (xs := s.Columns) (y := y17) rfl rfl rfl tf_slice_37 hy17 rfl) ?_ rfl rfl rfl
      refine JL_go (u := .agg (Column.cs y17)) (A_loadAgg tf_agg_54 rfl rfl rfl) ?_ rfl rfl rfl
      refine JL_go (u := .ptr 210000005 0) (A_allocJ 210000005 12 tf_zsize_54 rfl rfl) ?_ rfl rfl rfl
      refine JL_go (u := I64 (i17 : Int)) (A_assign rfl rfl) ?_ rfl rfl rfl
      refine JL_go0 (u := .junk) (A_store (u := .agg (Column.cs y17)) (ds := [I64 y17.Bay, I64 y17.Row, BL y17.Deck, I64 y17.Tiers, I64 y17.Height, I64 y17.Kilos20, I64 y17.Kilos40, I64 y17.Lash, LS 1 I64 y17.Plugs, I64 y17.X, I64 y17.Y, I64 y17.Z]) tf_size_54 rfl rfl rfl rfl rfl rfl rfl rfl) ?_ rfl rfl
      refine JL_nil ?_
      refine hK21 _ _ ?_
      refine JC_freeze [(3, I64 s17), (4, I64 (i17 : Int)), (5, .dptr (Column.cs y17)), (7, LS 12 Column.av s.Columns), (8, I64 (s.Columns.length : Int)), (9, I64 (i17 : Int))] [] 210000005 rfl rfl rfl trivial rfl (by exact ⟨.conv (.same rfl), .conv (.same rfl), .ptr, .conv (.same rfl), .conv (.same rfl), .conv (.same rfl), trivial⟩) ?_
      refine JC_seq (fun K22 hK22 => ?_)
      refine JC_region ?_
      refine JL_go (u := I64 (i17 : Int)) (A_move rfl rfl) ?_ rfl rfl rfl
      refine JL_go (u := BL (decide ((i17 : Int) = 0))) (A_eql rfl rfl rfl) ?_ rfl rfl rfl
      refine JL_go (u := BL (decide ((i17 : Int) = 0))) (A_move rfl rfl) ?_ rfl rfl rfl
      refine JL_opt (u := .dptr ((Column.cs y17).drop 3)) [] rfl rfl rfl .scf trivial (fun hc => A_fieldM tf_field_54_3 rfl rfl rfl) ?_ rfl rfl rfl
      refine JL_opt (u := I64 y17.Tiers) [(17, .dptr ((Column.cs y17).drop 3))] rfl rfl rfl .scf ⟨.all id, trivial⟩ (fun hc => A_load tf_scalar_3 rfl rfl rfl) ?_ rfl rfl rfl
      refine JL_opt (u := I64 s17) [] rfl rfl rfl .scf trivial (fun hc => A_move rfl rfl) ?_ rfl rfl rfl
      refine JL_opt (u := BL (decide (s17 < y17.Tiers))) [(18, I64 y17.Tiers), (19, I64 s17)] rfl rfl rfl .scf ⟨.all id, .all id, trivial⟩ (fun hc => A_gtr rfl rfl rfl) ?_ rfl rfl rfl
      refine JL_go (u := BL ((decide ((i17 : Int) = 0)) || (decide (s17 < y17.Tiers)))) (A_or rfl rfl rfl rfl) ?_ rfl rfl rfl
      refine JL_nil ?_
      refine hK22 _ _ ?_
      refine JC_cond rfl (fun hb => ?_) (fun hb => ?_)
      ·
        replace h := bif_t hb h
        refine JC_region ?_
        refine JL_go (u := .dptr ((Column.cs y17).drop 3)) (A_fieldM tf_field_54_3 rfl rfl rfl) ?_ rfl rfl rfl
        refine JL_go (u := I64 y17.Tiers) (A_load tf_scalar_3 rfl rfl rfl) ?_ rfl rfl rfl
        refine JL_go (u := I64 y17.Tiers) (A_assign rfl rfl) ?_ rfl rfl rfl
        refine JL_nil ?_
        exact ej20 _ _ y17.Tiers h ⟨⟨.same rfl, .same rfl, .same rfl, .same rfl, trivial⟩, trivial, rfl⟩
      ·
        replace h := bif_f hb h
        refine JC_skip ?_
        exact ej20 _ _ s17 h ⟨⟨.same rfl, .same rfl, .same rfl, .same rfl, trivial⟩, trivial, rfl⟩
    · intro j20 h
      replace h := app1 hkj20 h
      refine JC_region ?_
      refine JL_go (u := I64 ((i17 + 1 : Nat) : Int)) (A_add (idx_succ hk17 hm8) rfl rfl rfl) ?_ rfl rfl rfl
      refine JL_go (u := I64 ((i17 + 1 : Nat) : Int)) (A_move rfl rfl) ?_ rfl rfl rfl
      refine JL_nil ?_
      exact e17 _ _ (i17 + 1) j20 (app1 hn17 h) (by omega) ⟨⟨.same rfl, .same rfl, .same rfl, .same rfl, trivial⟩, trivial, rfl⟩
  ·
    have h := app1 hkx17 (each_nil hi17 (not_lt_len hb))
    refine JC_exit ?_
    refine hK3 _ _ ?_
    refine JC_seq (fun K23 hK23 => ?_)
    refine JC_region ?_
    refine JL_go (u := I64 s17) (A_move rfl rfl) ?_ rfl rfl rfl
    refine JL_go (u := I64 s17) (A_assign rfl rfl) ?_ rfl rfl rfl
    refine JL_nil ?_
    refine hK23 _ _ ?_
    refine JC_ret ?_
    exact ⟨[I64 s17], [], trivial, rfl, ⟨⟨_, rfl, .conv (.same rfl)⟩, trivial⟩, rfl, congrArg (fun r : Int => (I64 r : AV)) (Option.some.inj h)⟩

def M_math_bits_Mul32 (x : Int) (y : Int) : Option (Int × Int) :=
  some (IntKind.u32.wrap (shrN .u64 (IntKind.u64.wrap ((IntKind.u64.wrap x) * (IntKind.u64.wrap y))) 32), IntKind.u32.wrap (IntKind.u64.wrap ((IntKind.u64.wrap x) * (IntKind.u64.wrap y))))
theorem M_math_bits_Mul32_w (x : Int) (y : Int) (r : Int × Int) (h : M_math_bits_Mul32 x y = some r) : Pure Try.prog 67 [.sc (.int .u32 x), .sc (.int .u32 y)] (· = .tup [.sc (.int .u32 r.1), .sc (.int .u32 r.2)]) := by
  unfold M_math_bits_Mul32 at h
  refine Pure_ofG [.tmp 4, .tmp 5] Try.func67 rfl rfl ?_
  refine JC_seq (fun K1 hK1 => ?_)
  refine JC_region ?_
  refine JL_go (u := .sc (.int .u32 0)) (A_assign rfl rfl) ?_ rfl rfl rfl
  refine JL_go (u := .sc (.int .u32 0)) (A_assign rfl rfl) ?_ rfl rfl rfl
  refine JL_nil ?_
  refine hK1 _ _ ?_
  refine JC_seq (fun K2 hK2 => ?_)
  refine JC_region ?_
  refine JL_go (u := .sc (.int .u32 x)) (A_move rfl rfl) ?_ rfl rfl rfl
  refine JL_go (u := .sc (.int .u64 (IntKind.u64.wrap x))) (A_conv tf_int_116 tf_int_35 rfl rfl rfl) ?_ rfl rfl rfl
  refine JL_go (u := .sc (.int .u32 y)) (A_move rfl rfl) ?_ rfl rfl rfl
  refine JL_go (u := .sc (.int .u64 (IntKind.u64.wrap y))) (A_conv tf_int_116 tf_int_35 rfl rfl rfl) ?_ rfl rfl rfl
  refine JL_go (u := .sc (.int .u64 (IntKind.u64.wrap ((IntKind.u64.wrap x) * (IntKind.u64.wrap y))))) (A_mul rfl rfl rfl rfl) ?_ rfl rfl rfl
  refine JL_go (u := .sc (.int .u64 (IntKind.u64.wrap ((IntKind.u64.wrap x) * (IntKind.u64.wrap y))))) (A_assign rfl rfl) ?_ rfl rfl rfl
  refine JL_nil ?_
  refine hK2 _ _ ?_
  refine JC_seq (fun K3 hK3 => ?_)
  refine JC_region ?_
  refine JL_go (u := .sc (.int .u64 (IntKind.u64.wrap ((IntKind.u64.wrap x) * (IntKind.u64.wrap y))))) (A_move rfl rfl) ?_ rfl rfl rfl
  refine JL_go (u := .sc (.int .u64 (shrN .u64 (IntKind.u64.wrap ((IntKind.u64.wrap x) * (IntKind.u64.wrap y))) 32))) (A_shrM (s := 32) rfl rfl rfl rfl) ?_ rfl rfl rfl
  refine JL_go (u := .sc (.int .u32 (IntKind.u32.wrap (shrN .u64 (IntKind.u64.wrap ((IntKind.u64.wrap x) * (IntKind.u64.wrap y))) 32)))) (A_conv tf_int_35 tf_int_116 rfl rfl rfl) ?_ rfl rfl rfl
  refine JL_go (u := .sc (.int .u64 (IntKind.u64.wrap ((IntKind.u64.wrap x) * (IntKind.u64.wrap y))))) (A_move rfl rfl) ?_ rfl rfl rfl
  refine JL_go (u := .sc (.int .u32 (IntKind.u32.wrap (IntKind.u64.wrap ((IntKind.u64.wrap x) * (IntKind.u64.wrap y)))))) (A_conv tf_int_35 tf_int_116 rfl rfl rfl) ?_ rfl rfl rfl
  refine JL_go (u := .sc (.int .u32 (IntKind.u32.wrap (shrN .u64 (IntKind.u64.wrap ((IntKind.u64.wrap x) * (IntKind.u64.wrap y))) 32)))) (A_assign rfl rfl) ?_ rfl rfl rfl
  refine JL_go (u := .sc (.int .u32 (IntKind.u32.wrap (IntKind.u64.wrap ((IntKind.u64.wrap x) * (IntKind.u64.wrap y)))))) (A_assign rfl rfl) ?_ rfl rfl rfl
  refine JL_nil ?_
  refine hK3 _ _ ?_
  refine JC_ret ?_
  exact ⟨[.sc (.int .u32 (IntKind.u32.wrap (shrN .u64 (IntKind.u64.wrap ((IntKind.u64.wrap x) * (IntKind.u64.wrap y))) 32))), .sc (.int .u32 (IntKind.u32.wrap (IntKind.u64.wrap ((IntKind.u64.wrap x) * (IntKind.u64.wrap y)))))], [], trivial, rfl, ⟨⟨_, rfl, .conv (.same rfl)⟩, ⟨_, rfl, .conv (.same rfl)⟩, trivial⟩, rfl, congrArg (fun r : Int × Int => (.tup [.sc (.int .u32 r.1), .sc (.int .u32 r.2)] : AV)) (Option.some.inj h)⟩

def M_math_bits_Mul64 (x : Int) (y : Int) : Option (Int × Int) :=
  some (IntKind.u64.wrap ((IntKind.u64.wrap ((IntKind.u64.wrap ((shrN .u64 x 32) * (shrN .u64 y 32))) + (shrN .u64 (IntKind.u64.wrap ((IntKind.u64.wrap ((shrN .u64 x 32) * (band .u64 y 4294967295))) + (shrN .u64 (IntKind.u64.wrap ((band .u64 x 4294967295) * (band .u64 y 4294967295))) 32))) 32))) + (shrN .u64 (IntKind.u64.wrap ((band .u64 (IntKind.u64.wrap ((IntKind.u64.wrap ((shrN .u64 x 32) * (band .u64 y 4294967295))) + (shrN .u64 (IntKind.u64.wrap ((band .u64 x 4294967295) * (band .u64 y 4294967295))) 32))) 4294967295) + (IntKind.u64.wrap ((band .u64 x 4294967295) * (shrN .u64 y 32))))) 32)), IntKind.u64.wrap (x * y))
theorem M_math_bits_Mul64_w (x : Int) (y : Int) (r : Int × Int) (h : M_math_bits_Mul64 x y = some r) : Pure Try.prog 68 [.sc (.int .u64 x), .sc (.int .u64 y)] (· = .tup [.sc (.int .u64 r.1), .sc (.int .u64 r.2)]) := by
  unfold M_math_bits_Mul64 at h
  refine Pure_ofG [.tmp 4, .tmp 5] Try.func68 rfl rfl ?_
  refine JC_seq (fun K1 hK1 => ?_)
  refine JC_region ?_
  refine JL_go (u := .sc (.int .u64 0)) (A_assign rfl rfl) ?_ rfl rfl rfl
  refine JL_go (u := .sc (.int .u64 0)) (A_assign rfl rfl) ?_ rfl rfl rfl
  refine JL_nil ?_
  refine hK1 _ _ ?_
  refine JC_seq (fun K2 hK2 => ?_)
  refine JC_region ?_
  refine JL_go (u := .sc (.int .u64 x)) (A_move rfl rfl) ?_ rfl rfl rfl
  refine JL_go (u := .sc (.int .u64 (band .u64 x 4294967295))) (A_band rfl rfl rfl) ?_ rfl rfl rfl
  refine JL_go (u := .sc (.int .u64 (band .u64 x 4294967295))) (A_assign rfl rfl) ?_ rfl rfl rfl
  refine JL_nil ?_
  refine hK2 _ _ ?_
  refine JC_seq (fun K3 hK3 => ?_)
  refine JC_region ?_
  refine JL_go (u := .sc (.int .u64 x)) (A_move rfl rfl) ?_ rfl rfl rfl
  refine JL_go (u := .sc (.int .u64 (shrN .u64 x 32))) (A_shrM (s := 32) rfl rfl rfl rfl) ?_ rfl rfl rfl
  refine JL_go (u := .sc (.int .u64 (shrN .u64 x 32))) (A_assign rfl rfl) ?_ rfl rfl rfl
  refine JL_nil ?_
  refine hK3 _ _ ?_
  refine JC_seq (fun K4 hK4 => ?_)
  refine JC_region ?_
  refine JL_go (u := .sc (.int .u64 y)) (A_move rfl rfl) ?_ rfl rfl rfl
  refine JL_go (u := .sc (.int .u64 (band .u64 y 4294967295))) (A_band rfl rfl rfl) ?_ rfl rfl rfl
  refine JL_go (u := .sc (.int .u64 (band .u64 y 4294967295))) (A_assign rfl rfl) ?_ rfl rfl rfl
  refine JL_nil ?_
  refine hK4 _ _ ?_
  refine JC_seq (fun K5 hK5 => ?_)
  refine JC_region ?_
  refine JL_go (u := .sc (.int .u64 y)) (A_move rfl rfl) ?_ rfl rfl rfl
  refine JL_go (u := .sc (.int .u64 (shrN .u64 y 32))) (A_shrM (s := 32) rfl rfl rfl rfl) ?_ rfl rfl rfl
  refine JL_go (u := .sc (.int .u64 (shrN .u64 y 32))) (A_assign rfl rfl) ?_ rfl rfl rfl
  refine JL_nil ?_
  refine hK5 _ _ ?_
  refine JC_seq (fun K6 hK6 => ?_)
  refine JC_region ?_
  refine JL_go (u := .sc (.int .u64 (band .u64 x 4294967295))) (A_move rfl rfl) ?_ rfl rfl rfl
  refine JL_go (u := .sc (.int .u64 (band .u64 y 4294967295))) (A_move rfl rfl) ?_ rfl rfl rfl
  refine JL_go (u := .sc (.int .u64 (IntKind.u64.wrap ((band .u64 x 4294967295) * (band .u64 y 4294967295))))) (A_mul rfl rfl rfl rfl) ?_ rfl rfl rfl
  refine JL_go (u := .sc (.int .u64 (IntKind.u64.wrap ((band .u64 x 4294967295) * (band .u64 y 4294967295))))) (A_assign rfl rfl) ?_ rfl rfl rfl
  refine JL_nil ?_
  refine hK6 _ _ ?_
  refine JC_seq (fun K7 hK7 => ?_)
  refine JC_region ?_
  refine JL_go (u := .sc (.int .u64 (shrN .u64 x 32))) (A_move rfl rfl) ?_ rfl rfl rfl
  refine JL_go (u := .sc (.int .u64 (band .u64 y 4294967295))) (A_move rfl rfl) ?_ rfl rfl rfl
  refine JL_go (u := .sc (.int .u64 (IntKind.u64.wrap ((shrN .u64 x 32) * (band .u64 y 4294967295))))) (A_mul rfl rfl rfl rfl) ?_ rfl rfl rfl
  refine JL_go (u := .sc (.int .u64 (IntKind.u64.wrap ((band .u64 x 4294967295) * (band .u64 y 4294967295))))) (A_move rfl rfl) ?_ rfl rfl rfl
  refine JL_go (u := .sc (.int .u64 (shrN .u64 (IntKind.u64.wrap ((band .u64 x 4294967295) * (band .u64 y 4294967295))) 32))) (A_shrM (s := 32) rfl rfl rfl rfl) ?_ rfl rfl rfl
  refine JL_go (u := .sc (.int .u64 (IntKind.u64.wrap ((IntKind.u64.wrap ((shrN .u64 x 32) * (band .u64 y 4294967295))) + (shrN .u64 (IntKind.u64.wrap ((band .u64 x 4294967295) * (band .u64 y 4294967295))) 32))))) (A_add rfl rfl rfl rfl) ?_ rfl rfl rfl
  refine JL_go (u := .sc (.int .u64 (IntKind.u64.wrap ((IntKind.u64.wrap ((shrN .u64 x 32) * (band .u64 y 4294967295))) + (shrN .u64 (IntKind.u64.wrap ((band .u64 x 4294967295) * (band .u64 y 4294967295))) 32))))) (A_assign rfl rfl) ?_ rfl rfl rfl
  refine JL_nil ?_
  refine hK7 _ _ ?_
  refine JC_seq (fun K8 hK8 => ?_)
  refine JC_region ?_
  refine JL_go (u := .sc (.int .u64 (IntKind.u64.wrap ((IntKind.u64.wrap ((shrN .u64 x 32) * (band .u64 y 4294967295))) + (shrN .u64 (IntKind.u64.wrap ((band .u64 x 4294967295) * (band .u64 y 4294967295))) 32))))) (A_move rfl rfl) ?_ rfl rfl rfl
  refine JL_go (u := .sc (.int .u64 (band .u64 (IntKind.u64.wrap ((IntKind.u64.wrap ((shrN .u64 x 32) * (band .u64 y 4294967295))) + (shrN .u64 (IntKind.u64.wrap ((band .u64 x 4294967295) * (band .u64 y 4294967295))) 32))) 4294967295))) (A_band rfl rfl rfl) ?_ rfl rfl rfl
  refine JL_go (u := .sc (.int .u64 (band .u64 (IntKind.u64.wrap ((IntKind.u64.wrap ((shrN .u64 x 32) * (band .u64 y 4294967295))) + (shrN .u64 (IntKind.u64.wrap ((band .u64 x 4294967295) * (band .u64 y 4294967295))) 32))) 4294967295))) (A_assign rfl rfl) ?_ rfl rfl rfl
  refine JL_nil ?_
  refine hK8 _ _ ?_
  refine JC_seq (fun K9 hK9 => ?_)
  refine JC_region ?_
  refine JL_go (u := .sc (.int .u64 (IntKind.u64.wrap ((IntKind.u64.wrap ((shrN .u64 x 32) * (band .u64 y 4294967295))) + (shrN .u64 (IntKind.u64.wrap ((band .u64 x 4294967295) * (band .u64 y 4294967295))) 32))))) (A_move rfl rfl) ?_ rfl rfl rfl
  refine JL_go (u := .sc (.int .u64 (shrN .u64 (IntKind.u64.wrap ((IntKind.u64.wrap ((shrN .u64 x 32) * (band .u64 y 4294967295))) + (shrN .u64 (IntKind.u64.wrap ((band .u64 x 4294967295) * (band .u64 y 4294967295))) 32))) 32))) (A_shrM (s := 32) rfl rfl rfl rfl) ?_ rfl rfl rfl
  refine JL_go (u := .sc (.int .u64 (shrN .u64 (IntKind.u64.wrap ((IntKind.u64.wrap ((shrN .u64 x 32) * (band .u64 y 4294967295))) + (shrN .u64 (IntKind.u64.wrap ((band .u64 x 4294967295) * (band .u64 y 4294967295))) 32))) 32))) (A_assign rfl rfl) ?_ rfl rfl rfl
  refine JL_nil ?_
  refine hK9 _ _ ?_
  refine JC_seq (fun K10 hK10 => ?_)
  refine JC_region ?_
  refine JL_go (u := .sc (.int .u64 (band .u64 (IntKind.u64.wrap ((IntKind.u64.wrap ((shrN .u64 x 32) * (band .u64 y 4294967295))) + (shrN .u64 (IntKind.u64.wrap ((band .u64 x 4294967295) * (band .u64 y 4294967295))) 32))) 4294967295))) (A_move rfl rfl) ?_ rfl rfl rfl
  refine JL_go (u := .sc (.int .u64 (band .u64 x 4294967295))) (A_move rfl rfl) ?_ rfl rfl rfl
  refine JL_go (u := .sc (.int .u64 (shrN .u64 y 32))) (A_move rfl rfl) ?_ rfl rfl rfl
  refine JL_go (u := .sc (.int .u64 (IntKind.u64.wrap ((band .u64 x 4294967295) * (shrN .u64 y 32))))) (A_mul rfl rfl rfl rfl) ?_ rfl rfl rfl
  refine JL_go (u := .sc (.int .u64 (IntKind.u64.wrap ((band .u64 (IntKind.u64.wrap ((IntKind.u64.wrap ((shrN .u64 x 32) * (band .u64 y 4294967295))) + (shrN .u64 (IntKind.u64.wrap ((band .u64 x 4294967295) * (band .u64 y 4294967295))) 32))) 4294967295) + (IntKind.u64.wrap ((band .u64 x 4294967295) * (shrN .u64 y 32))))))) (A_add rfl rfl rfl rfl) ?_ rfl rfl rfl
  refine JL_go (u := .sc (.int .u64 (IntKind.u64.wrap ((band .u64 (IntKind.u64.wrap ((IntKind.u64.wrap ((shrN .u64 x 32) * (band .u64 y 4294967295))) + (shrN .u64 (IntKind.u64.wrap ((band .u64 x 4294967295) * (band .u64 y 4294967295))) 32))) 4294967295) + (IntKind.u64.wrap ((band .u64 x 4294967295) * (shrN .u64 y 32))))))) (A_assign rfl rfl) ?_ rfl rfl rfl
  refine JL_nil ?_
  refine hK10 _ _ ?_
  refine JC_seq (fun K11 hK11 => ?_)
  refine JC_region ?_
  refine JL_go (u := .sc (.int .u64 (shrN .u64 x 32))) (A_move rfl rfl) ?_ rfl rfl rfl
  refine JL_go (u := .sc (.int .u64 (shrN .u64 y 32))) (A_move rfl rfl) ?_ rfl rfl rfl
  refine JL_go (u := .sc (.int .u64 (IntKind.u64.wrap ((shrN .u64 x 32) * (shrN .u64 y 32))))) (A_mul rfl rfl rfl rfl) ?_ rfl rfl rfl
  refine JL_go (u := .sc (.int .u64 (shrN .u64 (IntKind.u64.wrap ((IntKind.u64.wrap ((shrN .u64 x 32) * (band .u64 y 4294967295))) + (shrN .u64 (IntKind.u64.wrap ((band .u64 x 4294967295) * (band .u64 y 4294967295))) 32))) 32))) (A_move rfl rfl) ?_ rfl rfl rfl
  refine JL_go (u := .sc (.int .u64 (IntKind.u64.wrap ((IntKind.u64.wrap ((shrN .u64 x 32) * (shrN .u64 y 32))) + (shrN .u64 (IntKind.u64.wrap ((IntKind.u64.wrap ((shrN .u64 x 32) * (band .u64 y 4294967295))) + (shrN .u64 (IntKind.u64.wrap ((band .u64 x 4294967295) * (band .u64 y 4294967295))) 32))) 32))))) (A_add rfl rfl rfl rfl) ?_ rfl rfl rfl
  refine JL_go (u := .sc (.int .u64 (IntKind.u64.wrap ((band .u64 (IntKind.u64.wrap ((IntKind.u64.wrap ((shrN .u64 x 32) * (band .u64 y 4294967295))) + (shrN .u64 (IntKind.u64.wrap ((band .u64 x 4294967295) * (band .u64 y 4294967295))) 32))) 4294967295) + (IntKind.u64.wrap ((band .u64 x 4294967295) * (shrN .u64 y 32))))))) (A_move rfl rfl) ?_ rfl rfl rfl
  refine JL_go (u := .sc (.int .u64 (shrN .u64 (IntKind.u64.wrap ((band .u64 (IntKind.u64.wrap ((IntKind.u64.wrap ((shrN .u64 x 32) * (band .u64 y 4294967295))) + (shrN .u64 (IntKind.u64.wrap ((band .u64 x 4294967295) * (band .u64 y 4294967295))) 32))) 4294967295) + (IntKind.u64.wrap ((band .u64 x 4294967295) * (shrN .u64 y 32))))) 32))) (A_shrM (s := 32) rfl rfl rfl rfl) ?_ rfl rfl rfl
  refine JL_go (u := .sc (.int .u64 (IntKind.u64.wrap ((IntKind.u64.wrap ((IntKind.u64.wrap ((shrN .u64 x 32) * (shrN .u64 y 32))) + (shrN .u64 (IntKind.u64.wrap ((IntKind.u64.wrap ((shrN .u64 x 32) * (band .u64 y 4294967295))) + (shrN .u64 (IntKind.u64.wrap ((band .u64 x 4294967295) * (band .u64 y 4294967295))) 32))) 32))) + (shrN .u64 (IntKind.u64.wrap ((band .u64 (IntKind.u64.wrap ((IntKind.u64.wrap ((shrN .u64 x 32) * (band .u64 y 4294967295))) + (shrN .u64 (IntKind.u64.wrap ((band .u64 x 4294967295) * (band .u64 y 4294967295))) 32))) 4294967295) + (IntKind.u64.wrap ((band .u64 x 4294967295) * (shrN .u64 y 32))))) 32))))) (A_add rfl rfl rfl rfl) ?_ rfl rfl rfl
  refine JL_go (u := .sc (.int .u64 (IntKind.u64.wrap ((IntKind.u64.wrap ((IntKind.u64.wrap ((shrN .u64 x 32) * (shrN .u64 y 32))) + (shrN .u64 (IntKind.u64.wrap ((IntKind.u64.wrap ((shrN .u64 x 32) * (band .u64 y 4294967295))) + (shrN .u64 (IntKind.u64.wrap ((band .u64 x 4294967295) * (band .u64 y 4294967295))) 32))) 32))) + (shrN .u64 (IntKind.u64.wrap ((band .u64 (IntKind.u64.wrap ((IntKind.u64.wrap ((shrN .u64 x 32) * (band .u64 y 4294967295))) + (shrN .u64 (IntKind.u64.wrap ((band .u64 x 4294967295) * (band .u64 y 4294967295))) 32))) 4294967295) + (IntKind.u64.wrap ((band .u64 x 4294967295) * (shrN .u64 y 32))))) 32))))) (A_assign rfl rfl) ?_ rfl rfl rfl
  refine JL_nil ?_
  refine hK11 _ _ ?_
  refine JC_seq (fun K12 hK12 => ?_)
  refine JC_region ?_
  refine JL_go (u := .sc (.int .u64 x)) (A_move rfl rfl) ?_ rfl rfl rfl
  refine JL_go (u := .sc (.int .u64 y)) (A_move rfl rfl) ?_ rfl rfl rfl
  refine JL_go (u := .sc (.int .u64 (IntKind.u64.wrap (x * y)))) (A_mul rfl rfl rfl rfl) ?_ rfl rfl rfl
  refine JL_go (u := .sc (.int .u64 (IntKind.u64.wrap (x * y)))) (A_assign rfl rfl) ?_ rfl rfl rfl
  refine JL_nil ?_
  refine hK12 _ _ ?_
  refine JC_ret ?_
  exact ⟨[.sc (.int .u64 (IntKind.u64.wrap ((IntKind.u64.wrap ((IntKind.u64.wrap ((shrN .u64 x 32) * (shrN .u64 y 32))) + (shrN .u64 (IntKind.u64.wrap ((IntKind.u64.wrap ((shrN .u64 x 32) * (band .u64 y 4294967295))) + (shrN .u64 (IntKind.u64.wrap ((band .u64 x 4294967295) * (band .u64 y 4294967295))) 32))) 32))) + (shrN .u64 (IntKind.u64.wrap ((band .u64 (IntKind.u64.wrap ((IntKind.u64.wrap ((shrN .u64 x 32) * (band .u64 y 4294967295))) + (shrN .u64 (IntKind.u64.wrap ((band .u64 x 4294967295) * (band .u64 y 4294967295))) 32))) 4294967295) + (IntKind.u64.wrap ((band .u64 x 4294967295) * (shrN .u64 y 32))))) 32)))), .sc (.int .u64 (IntKind.u64.wrap (x * y)))], [], trivial, rfl, ⟨⟨_, rfl, .conv (.same rfl)⟩, ⟨_, rfl, .conv (.same rfl)⟩, trivial⟩, rfl, congrArg (fun r : Int × Int => (.tup [.sc (.int .u64 r.1), .sc (.int .u64 r.2)] : AV)) (Option.some.inj h)⟩

def M_math_bits_Mul (x : Int) (y : Int) : Option (Int × Int) :=
  bnd (M_math_bits_Mul64 x y) fun r4 =>
  some (r4.1, r4.2)
theorem M_math_bits_Mul_w (x : Int) (y : Int) (r : Int × Int) (h : M_math_bits_Mul x y = some r) : Pure Try.prog 61 [.sc (.int .u64 x), .sc (.int .u64 y)] (· = .tup [.sc (.int .u64 r.1), .sc (.int .u64 r.2)]) := by
  unfold M_math_bits_Mul at h
  refine Pure_ofG [.tmp 4, .tmp 5] Try.func61 rfl rfl ?_
  refine JC_seq (fun K1 hK1 => ?_)
  refine JC_region ?_
  refine JL_go (u := .sc (.int .u64 0)) (A_assign rfl rfl) ?_ rfl rfl rfl
  refine JL_go (u := .sc (.int .u64 0)) (A_assign rfl rfl) ?_ rfl rfl rfl
  refine JL_nil ?_
  refine hK1 _ _ ?_
  refine JC_seq (fun K2 hK2 => ?_)
  refine JC_condF rfl ?_
  refine JC_skip ?_
  refine hK2 _ _ ?_
  refine JC_seq (fun K3 hK3 => ?_)
  refine JC_region ?_
  refine JL_go (u := .sc (.int .u64 x)) (A_move rfl rfl) ?_ rfl rfl rfl
  refine JL_go (u := .sc (.int .u64 y)) (A_move rfl rfl) ?_ rfl rfl rfl
  obtain ⟨r4, hr4, h⟩ := bnd_out h
  refine JL_go (u := .tup [.sc (.int .u64 r4.1), .sc (.int .u64 r4.2)]) (A_call1 (args := [.sc (.int .u64 x), .sc (.int .u64 y)]) rfl (M_math_bits_Mul64_w x y r4 hr4) tf_call_68 ⟨rfl, rfl, rfl, rfl, trivial⟩) ?_ rfl rfl rfl
  refine JL_go (u := .tup [.sc (.int .u64 r4.1), .sc (.int .u64 r4.2)]) (A_move rfl rfl) ?_ rfl rfl rfl
  refine JL_go (u := .sc (.int .u64 r4.1)) (A_extract rfl rfl rfl) ?_ rfl rfl rfl
  refine JL_go (u := .sc (.int .u64 r4.2)) (A_extract rfl rfl rfl) ?_ rfl rfl rfl
  refine JL_go (u := .sc (.int .u64 r4.1)) (A_assign rfl rfl) ?_ rfl rfl rfl
  refine JL_go (u := .sc (.int .u64 r4.2)) (A_assign rfl rfl) ?_ rfl rfl rfl
  refine JL_nil ?_
  refine hK3 _ _ ?_
  refine JC_seq (fun K5 hK5 => ?_)
  refine JC_region ?_
  refine JL_go (u := .sc (.int .u64 r4.1)) (A_move rfl rfl) ?_ rfl rfl rfl
  refine JL_go (u := .sc (.int .u64 r4.2)) (A_move rfl rfl) ?_ rfl rfl rfl
  refine JL_go (u := .sc (.int .u64 r4.1)) (A_assign rfl rfl) ?_ rfl rfl rfl
  refine JL_go (u := .sc (.int .u64 r4.2)) (A_assign rfl rfl) ?_ rfl rfl rfl
  refine JL_nil ?_
  refine hK5 _ _ ?_
  refine JC_ret ?_
  exact ⟨[.sc (.int .u64 r4.1), .sc (.int .u64 r4.2)], [], trivial, rfl, ⟨⟨_, rfl, .conv (.same rfl)⟩, ⟨_, rfl, .conv (.same rfl)⟩, trivial⟩, rfl, congrArg (fun r : Int × Int => (.tup [.sc (.int .u64 r.1), .sc (.int .u64 r.2)] : AV)) (Option.some.inj h)⟩

def M_slices_Repeat_int (F : Nat) (x : List Int) (count : Int) : Option (List Int) :=
  bif decide (count < 0) then
  (none)
  else
  (bnd (M_math_bits_Mul (IntKind.u64.wrap (x.length : Int)) (IntKind.u64.wrap count)) fun r5 =>
    bif ((decide (0 < r5.1)) || (decide (9223372036854775807 < r5.2))) then
    (none)
    else
    (chk (r5.2) fun v9 =>
      bnd (natOf v9) fun m10 =>
      need (decide (8 * m10 ≤ 281474976710656 ∧ m10 ≤ maxLen ∧ m10 * 1 ≤ 16777216)) <|
      loop (fun nx26 (s26 : Int × (List Int)) =>
        bif decide (s26.1 < (s26.2.length : Int)) then
        (bnd (natIn s26.1 s26.2.length) fun m29 =>
          bnd (natIn s26.1 s26.2.length) fun m30 =>
          chk (s26.1 + ((min ((s26.2.drop 0).take m30).length (s26.2.length - m29) : Nat) : Int)) fun v31 =>
          nx26 (v31, (overlay s26.2 m29 ((s26.2.drop 0).take m30) (s26.2.length - m29))))
        else
        (some s26.2)) F (((min x.length ((List.replicate m10 (0 : Int)).length) : Nat) : Int), (overlay (List.replicate m10 (0 : Int)) 0 x ((List.replicate m10 (0 : Int)).length)))))
theorem M_slices_Repeat_int_w (F : Nat) (x : List Int) (count : Int) (r : (List Int)) (h : M_slices_Repeat_int F x count = some r) : Pure Try.prog 44 [LS 1 I64 x, I64 count] (· = LS 1 I64 r) := by
  unfold M_slices_Repeat_int at h
  refine Pure_ofG [.tmp 4] Try.func44 rfl rfl ?_
  refine JC_seq (fun K1 hK1 => ?_)
  refine JC_region ?_
  refine JL_go (u := LS 1 I64 ([] : List Int)) (A_nilList 1 rfl rfl) ?_ rfl rfl rfl
  refine JL_nil ?_
  refine hK1 _ _ ?_
  refine JC_seq (fun K2 hK2 => ?_)
  refine JC_seq (fun K3 hK3 => ?_)
  refine JC_region ?_
  refine JL_go (u := I64 count) (A_move rfl rfl) ?_ rfl rfl rfl
  refine JL_go (u := BL (decide (count < 0))) (A_lss rfl rfl rfl) ?_ rfl rfl rfl
  refine JL_nil ?_
  refine hK3 _ _ ?_
  refine JC_cond rfl (fun hb => ?_) (fun hb => ?_)
  ·
    replace h := bif_t hb h
    cases h
  ·
    replace h := bif_f hb h
    refine JC_skip ?_
    refine hK2 _ _ ?_
    refine JC_seq (fun K4 hK4 => ?_)
    refine JC_region ?_
    refine JL_go (u := LS 1 I64 x) (A_move rfl rfl) ?_ rfl rfl rfl
    refine JL_lenM (f := I64) (xs := x) tf_slice_52 rfl rfl (fun hm14 => ?_) rfl rfl rfl
    refine JL_go (u := .sc (.int .u64 (IntKind.u64.wrap (x.length : Int)))) (A_conv tf_int_92 tf_int_3 rfl rfl rfl) ?_ rfl rfl rfl
    refine JL_go (u := I64 count) (A_move rfl rfl) ?_ rfl rfl rfl
    refine JL_go (u := .sc (.int .u64 (IntKind.u64.wrap count))) (A_conv tf_int_92 tf_int_3 rfl rfl rfl) ?_ rfl rfl rfl
    obtain ⟨r5, hr5, h⟩ := bnd_out h
    refine JL_go (u := .tup [.sc (.int .u64 r5.1), .sc (.int .u64 r5.2)]) (A_call1 (args := [.sc (.int .u64 (IntKind.u64.wrap (x.length : Int))), .sc (.int .u64 (IntKind.u64.wrap count))]) rfl (M_math_bits_Mul_w (IntKind.u64.wrap (x.length : Int)) (IntKind.u64.wrap count) r5 hr5) tf_call_61 ⟨rfl, rfl, rfl, rfl, trivial⟩) ?_ rfl rfl rfl
    refine JL_go (u := .tup [.sc (.int .u64 r5.1), .sc (.int .u64 r5.2)]) (A_move rfl rfl) ?_ rfl rfl rfl
    refine JL_go (u := .sc (.int .u64 r5.1)) (A_extract rfl rfl rfl) ?_ rfl rfl rfl
    refine JL_go (u := .sc (.int .u64 r5.2)) (A_extract rfl rfl rfl) ?_ rfl rfl rfl
    refine JL_go (u := .sc (.int .u64 r5.1)) (A_assign rfl rfl) ?_ rfl rfl rfl
    refine JL_go (u := .sc (.int .u64 r5.2)) (A_assign rfl rfl) ?_ rfl rfl rfl
    refine JL_nil ?_
    refine hK4 _ _ ?_
    refine JC_seq (fun K6 hK6 => ?_)
    refine JC_seq (fun K7 hK7 => ?_)
    refine JC_region ?_
    refine JL_go (u := .sc (.int .u64 r5.1)) (A_move rfl rfl) ?_ rfl rfl rfl
    refine JL_go (u := BL (decide (0 < r5.1))) (A_gtr rfl rfl rfl) ?_ rfl rfl rfl
    refine JL_go (u := BL (decide (0 < r5.1))) (A_move rfl rfl) ?_ rfl rfl rfl
    refine JL_opt (u := .sc (.int .u64 r5.2)) [] rfl rfl rfl .scf trivial (fun hc => A_move rfl rfl) ?_ rfl rfl rfl
    refine JL_opt (u := BL (decide (9223372036854775807 < r5.2))) [(24, .sc (.int .u64 r5.2))] rfl rfl rfl .scf ⟨.all id, trivial⟩ (fun hc => A_gtr rfl rfl rfl) ?_ rfl rfl rfl
    refine JL_go (u := BL ((decide (0 < r5.1)) || (decide (9223372036854775807 < r5.2)))) (A_or rfl rfl rfl rfl) ?_ rfl rfl rfl
    refine JL_nil ?_
    refine hK7 _ _ ?_
    refine JC_cond rfl (fun hb => ?_) (fun hb => ?_)
    ·
      replace h := bif_t hb h
      cases h
    ·
      replace h := bif_f hb h
      refine JC_skip ?_
      refine hK6 _ _ ?_
      refine JC_seq (fun K8 hK8 => ?_)
      refine JC_region ?_
      refine JL_go (u := .sc (.int .u64 r5.2)) (A_move rfl rfl) ?_ rfl rfl rfl
      obtain ⟨v9, hv9, h⟩ := chk_out h
      refine JL_go (u := I64 v9) (A_conv tf_int_3 tf_int_92 hv9 rfl rfl) ?_ rfl rfl rfl
      obtain ⟨m10, hm10, h⟩ := bnd_out h
      obtain ⟨ha11, h⟩ := need_out h
      refine JL_go (u := .vec 450000030 0 1 ((List.replicate m10 (0 : Int)).length)) (A_vmakeM 450000030 (f := I64) (n := m10) 0 [.int .i64 0] rfl rfl rfl rfl tf_slice_52 tf_elem_3 tf_zero_3 (natOf_out hm10) (natOf_out hm10) ha11 ⟨.inl rfl, trivial⟩ rfl) ?_ rfl rfl rfl
      refine JL_go (u := .vec 450000030 0 1 ((List.replicate m10 (0 : Int)).length)) (A_assign rfl rfl) ?_ rfl rfl rfl
      refine JL_nil ?_
      refine hK8 _ _ ?_
      refine JC_seq (fun K12 hK12 => ?_)
      refine JC_region ?_
      refine JL_go (u := .vec 450000030 0 1 ((List.replicate m10 (0 : Int)).length)) (A_move rfl rfl) ?_ rfl rfl rfl
      refine JL_go (u := LS 1 I64 x) (A_move rfl rfl) ?_ rfl rfl rfl
      refine JL_go (u := I64 ((min x.length ((List.replicate m10 (0 : Int)).length) : Nat) : Int)) (A_copyM (f := I64) (xs := (List.replicate m10 (0 : Int))) (ys := x) (off := 0) (n := ((List.replicate m10 (0 : Int)).length)) rfl tf_slice_52 (.inl ⟨rfl, rfl⟩) rfl (Src_list (ys := x) rfl (.inl rfl)) (fun _ => rfl)) ?_ rfl rfl rfl
      refine JL_go (u := I64 ((min x.length ((List.replicate m10 (0 : Int)).length) : Nat) : Int)) (A_assign rfl rfl) ?_ rfl rfl rfl
      refine JL_nil ?_
      refine hK12 _ _ ?_
      refine JC_seq (fun K13 hK13 => ?_)
      refine JC_block ?_
      obtain ⟨b26, hb26, h⟩ := loop_in h
      refine JC_loop2 (fun i26 (s26 : Int × (List Int)) => loop b26 i26 s26 = some r) (fun i26 s26 => [(7, .vec 450000030 0 1 ((List.replicate m10 (0 : Int)).length)), (8, I64 s26.1)]) (fun i26 s26 => [(450000030, .vec 3 1 0 (s26.2.map I64))]) (fun i26 => i26) F (((min x.length ((List.replicate m10 (0 : Int)).length) : Nat) : Int), (overlay (List.replicate m10 (0 : Int)) 0 x ((List.replicate m10 (0 : Int)).length))) h ⟨⟨.same rfl, .same rfl, trivial⟩, ⟨⟨_, rfl, .vec⟩, trivial⟩, rfl⟩ ?_
      clear h
      intro i26 s26 hi26 K26 e26
      obtain ⟨m26, nx26, hm_26, hn26, h⟩ := loop_out hi26
      replace h := app2 hb26 h
      refine JC_seq (fun K27 hK27 => ?_)
      refine JC_seq (fun K28 hK28 => ?_)
      refine JC_region ?_
      refine JL_go (u := I64 s26.1) (A_move rfl rfl) ?_ rfl rfl rfl
      refine JL_go (u := .vec 450000030 0 1 ((List.replicate m10 (0 : Int)).length)) (A_move rfl rfl) ?_ rfl rfl rfl
      refine JL_vlenM (f := I64) (xs := s26.2) tf_slice_52 rfl rfl rfl (fun hm36 => ?_) rfl rfl rfl
      refine JL_go (u := BL (decide (s26.1 < (s26.2.length : Int)))) (A_lss rfl rfl rfl) ?_ rfl rfl rfl
      refine JL_nil ?_
      refine hK28 _ _ ?_
      refine JC_cond rfl (fun hb => ?_) (fun hb => ?_)
      ·
        replace h := bif_t hb h
        refine JC_skip ?_
        refine hK27 _ _ ?_
        refine JC_block ?_
        refine JC_fits (l' := [(7, .vec 450000030 0 1 ((List.replicate m10 (0 : Int)).length)), (8, I64 s26.1)]) (L' := [(450000030, .vec 3 1 0 (s26.2.map I64))]) ⟨⟨.same rfl, .same rfl, trivial⟩, ⟨⟨_, rfl, .vec⟩, trivial⟩, rfl⟩ ?_
        obtain ⟨m29, hm29, h⟩ := bnd_out h
        obtain ⟨m30, hm30, h⟩ := bnd_out h
        obtain ⟨v31, hv31, h⟩ := chk_out h
        refine JC_draw [7] [0, 0, 0, 0, 0, 0, 0, 0, 1, 1] [1, 0, 0, 0, 0, 0, 0, 0, 1, 1] [[(450000030, .vec 3 1 0 (s26.2.map I64))], ((450000030, .vec 3 1 0 ((overlay s26.2 m29 ((s26.2.drop 0).take m30) (s26.2.length - m29)).map I64)) :: [(450000030, .vec 3 1 0 (s26.2.map I64))])] tf_mixed (by kernel_rfl) rfl rfl ?_
        refine D_ro (u := I64 s26.1) rfl rfl ⟨O_go (A_move rfl rfl) rfl, O_go (A_move rfl rfl) rfl, trivial⟩ ?_ rfl
        refine D_ro (u := .vec 450000030 0 1 ((List.replicate m10 (0 : Int)).length)) rfl rfl ⟨O_go (A_move rfl rfl) rfl, trivial⟩ ?_ rfl
        refine D_ro (u := I64 s26.1) rfl rfl ⟨O_go (A_move rfl rfl) rfl, trivial⟩ ?_ rfl
        refine D_ro (u := .vsl 450000030 0 1 m29 (s26.2.length - m29)) rfl rfl ⟨O_go (A_vsubLoM (f := I64) (xs := s26.2) rfl rfl rfl rfl tf_slice_52 (natIn_out hm29)) rfl, trivial⟩ ?_ rfl
        refine D_ro (u := .vec 450000030 0 1 ((List.replicate m10 (0 : Int)).length)) rfl rfl ⟨O_go (A_move rfl rfl) rfl, trivial⟩ ?_ rfl
        refine D_ro (u := I64 s26.1) rfl rfl ⟨O_go (A_move rfl rfl) rfl, trivial⟩ ?_ rfl
        refine D_ro (u := .vsl 450000030 0 1 0 m30) rfl rfl ⟨O_go (A_vsubHiM (f := I64) (xs := s26.2) rfl rfl rfl rfl tf_slice_52 (natIn_out hm30)) rfl, trivial⟩ ?_ rfl
        refine D_w (u := I64 ((min ((s26.2.drop 0).take m30).length (s26.2.length - m29) : Nat) : Int)) rfl rfl rfl rfl (O_go (A_copyM (f := I64) (xs := s26.2) (ys := ((s26.2.drop 0).take m30)) (off := m29) (n := (s26.2.length - m29)) rfl tf_slice_52 (.inr rfl) rfl (Src_vsl (zs := s26.2) rfl rfl) (fun _ => rfl)) rfl) ?_ rfl
        refine D_ro (u := I64 v31) rfl rfl ⟨O_go (A_add hv31 rfl rfl rfl) rfl, trivial⟩ ?_ rfl
        refine D_ro (u := I64 v31) rfl rfl ⟨O_go (A_assign rfl rfl) rfl, trivial⟩ ?_ rfl
        refine D_nil ?_
        exact e26 _ _ m26 (v31, (overlay s26.2 m29 ((s26.2.drop 0).take m30) (s26.2.length - m29))) (app1 hn26 h) (by omega) ⟨⟨.same rfl, .same rfl, trivial⟩, ⟨⟨_, rfl, .vec⟩, trivial⟩, rfl⟩
      ·
        replace h := bif_f hb h
        refine JC_exit ?_
        refine hK13 _ _ ?_
        refine JC_seq (fun K32 hK32 => ?_)
        refine JC_region ?_
        refine JL_go (u := .vec 450000030 0 1 ((List.replicate m10 (0 : Int)).length)) (A_move rfl rfl) ?_ rfl rfl rfl
        refine JL_go (u := .vec 450000030 0 1 ((List.replicate m10 (0 : Int)).length)) (A_assign rfl rfl) ?_ rfl rfl rfl
        refine JL_nil ?_
        refine hK32 _ _ ?_
        refine JC_vfreeze [(4, LS 1 I64 s26.2)] [] 450000030 rfl rfl trivial rfl (by exact ⟨.vec, trivial⟩) ?_
        refine JC_ret ?_
        exact ⟨[LS 1 I64 s26.2], [], trivial, rfl, ⟨⟨_, rfl, .conv (.same rfl)⟩, trivial⟩, rfl, congrArg (fun r : (List Int) => (LS 1 I64 r : AV)) (Option.some.inj h)⟩

def M_bound_out (F : Nat) (c : bound_Count) (tiers : Int) (halves : Int) : Option Int :=
  chk (c.Whole + c.Half) fun v3 =>
  loop (fun nx29 (s29 : Int × Int) =>
    bnd (quo64 halves 2) fun v32 =>
    chk (tiers * v32) fun v33 =>
    bif decide (s29.2 ≤ (min c.Whole v33)) then
    (chk (tiers * halves) fun v36 =>
      chk (2 * s29.2) fun v37 =>
      chk (v36 - v37) fun v38 =>
      chk (c.Whole - s29.2) fun v39 =>
      chk (v39 + c.Half) fun v40 =>
      chk (v40 - (min c.Half v38)) fun v41 =>
      chk (s29.2 + 1) fun v42 =>
      nx29 ((min s29.1 v41), v42))
    else
    (some s29.1)) F (v3, 0)
theorem M_bound_out_w (F : Nat) (c : bound_Count) (tiers : Int) (halves : Int) (r : Int) (h : M_bound_out F c tiers halves = some r) : Pure Try.prog 45 [.agg (bound_Count.cs c), I64 tiers, I64 halves] (· = I64 r) := by
  unfold M_bound_out at h
  refine Pure_ofG [.tmp 6] Try.func45 rfl rfl ?_
  refine JC_seq (fun K1 hK1 => ?_)
  refine JC_region ?_
  refine JL_go (u := .ptr 460000003 0) (A_box (u := .agg (bound_Count.cs c)) (cs := [I64 c.Group.Load, I64 c.Group.Discharge, I64 c.Whole, I64 c.Half]) 460000003 rfl rfl rfl rfl rfl) ?_ rfl rfl rfl
  refine JL_go (u := I64 0) (A_assign rfl rfl) ?_ rfl rfl rfl
  refine JL_nil ?_
  refine hK1 _ _ ?_
  refine JC_freeze [(1, I64 tiers), (2, I64 halves), (3, .dptr (bound_Count.cs c))] [] 460000003 rfl rfl rfl trivial rfl (by exact ⟨.conv (.same rfl), .conv (.same rfl), .ptr, trivial⟩) ?_
  refine JC_seq (fun K2 hK2 => ?_)
  refine JC_region ?_
  refine JL_go (u := .dptr [I64 c.Whole, I64 c.Half]) (A_fieldM tf_field_29_1 rfl rfl rfl) ?_ rfl rfl rfl
  refine JL_go (u := I64 c.Whole) (A_load tf_scalar_3 rfl rfl rfl) ?_ rfl rfl rfl
  refine JL_go (u := .dptr [I64 c.Half]) (A_fieldM tf_field_29_2 rfl rfl rfl) ?_ rfl rfl rfl
  refine JL_go (u := I64 c.Half) (A_load tf_scalar_3 rfl rfl rfl) ?_ rfl rfl rfl
  obtain ⟨v3, hv3, h⟩ := chk_out h
  refine JL_go (u := I64 v3) (A_add hv3 rfl rfl rfl) ?_ rfl rfl rfl
  refine JL_go (u := I64 v3) (A_assign rfl rfl) ?_ rfl rfl rfl
  refine JL_nil ?_
  refine hK2 _ _ ?_
  refine JC_seq (fun K4 hK4 => ?_)
  refine JC_seq (fun K5 hK5 => ?_)
  refine JC_region ?_
  refine JL_go (u := I64 0) (A_assign rfl rfl) ?_ rfl rfl rfl
  refine JL_nil ?_
  refine hK5 _ _ ?_
  refine JC_block ?_
  obtain ⟨b29, hb29, h⟩ := loop_in h
  refine JC_loop2 (fun i29 (s29 : Int × Int) => loop b29 i29 s29 = some r) (fun i29 s29 => [(1, I64 tiers), (2, I64 halves), (3, .dptr (bound_Count.cs c)), (7, I64 s29.1), (8, I64 s29.2)]) (fun i29 s29 => []) (fun i29 => i29) F (v3, 0) h ⟨⟨.same rfl, .same rfl, .same rfl, .same rfl, .same rfl, trivial⟩, trivial, rfl⟩ ?_
  clear h
  intro i29 s29 hi29 K29 e29
  obtain ⟨m29, nx29, hm_29, hn29, h⟩ := loop_out hi29
  replace h := app2 hb29 h
  refine JC_seq (fun K30 hK30 => ?_)
  refine JC_seq (fun K31 hK31 => ?_)
  refine JC_region ?_
  refine JL_go (u := I64 s29.2) (A_move rfl rfl) ?_ rfl rfl rfl
  refine JL_go (u := .dptr [I64 c.Whole, I64 c.Half]) (A_fieldM tf_field_29_1 rfl rfl rfl) ?_ rfl rfl rfl
  refine JL_go (u := I64 c.Whole) (A_load tf_scalar_3 rfl rfl rfl) ?_ rfl rfl rfl
  refine JL_go (u := I64 tiers) (A_move rfl rfl) ?_ rfl rfl rfl
  refine JL_go (u := I64 halves) (A_move rfl rfl) ?_ rfl rfl rfl
  obtain ⟨v32, hv32, h⟩ := bnd_out h
  refine JL_go (u := I64 v32) (A_quo (quo64_out hv32).1 (quo64_out hv32).2 rfl rfl rfl) ?_ rfl rfl rfl
  obtain ⟨v33, hv33, h⟩ := chk_out h
  refine JL_go (u := I64 v33) (A_mul hv33 rfl rfl rfl) ?_ rfl rfl rfl
  refine JL_go (u := I64 (min c.Whole v33)) (A_min rfl rfl rfl) ?_ rfl rfl rfl
  refine JL_go (u := BL (decide (s29.2 ≤ (min c.Whole v33)))) (A_leq rfl rfl rfl) ?_ rfl rfl rfl
  refine JL_nil ?_
  refine hK31 _ _ ?_
  refine JC_cond rfl (fun hb => ?_) (fun hb => ?_)
  ·
    replace h := bif_t hb h
    refine JC_skip ?_
    refine hK30 _ _ ?_
    refine JC_seq (fun K34 hK34 => ?_)
    refine JC_block ?_
    refine JC_seq (fun K35 hK35 => ?_)
    refine JC_region ?_
    refine JL_go (u := .dptr [I64 c.Half]) (A_fieldM tf_field_29_2 rfl rfl rfl) ?_ rfl rfl rfl
    refine JL_go (u := I64 c.Half) (A_load tf_scalar_3 rfl rfl rfl) ?_ rfl rfl rfl
    refine JL_go (u := I64 tiers) (A_move rfl rfl) ?_ rfl rfl rfl
    refine JL_go (u := I64 halves) (A_move rfl rfl) ?_ rfl rfl rfl
    obtain ⟨v36, hv36, h⟩ := chk_out h
    refine JL_go (u := I64 v36) (A_mul hv36 rfl rfl rfl) ?_ rfl rfl rfl
    refine JL_go (u := I64 s29.2) (A_move rfl rfl) ?_ rfl rfl rfl
    obtain ⟨v37, hv37, h⟩ := chk_out h
    refine JL_go (u := I64 v37) (A_mul hv37 rfl rfl rfl) ?_ rfl rfl rfl
    obtain ⟨v38, hv38, h⟩ := chk_out h
    refine JL_go (u := I64 v38) (A_sub hv38 rfl rfl rfl) ?_ rfl rfl rfl
    refine JL_go (u := I64 (min c.Half v38)) (A_min rfl rfl rfl) ?_ rfl rfl rfl
    refine JL_go (u := I64 (min c.Half v38)) (A_assign rfl rfl) ?_ rfl rfl rfl
    refine JL_nil ?_
    refine hK35 _ _ ?_
    refine JC_region ?_
    refine JL_go (u := I64 s29.1) (A_move rfl rfl) ?_ rfl rfl rfl
    refine JL_go (u := .dptr [I64 c.Whole, I64 c.Half]) (A_fieldM tf_field_29_1 rfl rfl rfl) ?_ rfl rfl rfl
    refine JL_go (u := I64 c.Whole) (A_load tf_scalar_3 rfl rfl rfl) ?_ rfl rfl rfl
    refine JL_go (u := I64 s29.2) (A_move rfl rfl) ?_ rfl rfl rfl
    obtain ⟨v39, hv39, h⟩ := chk_out h
    refine JL_go (u := I64 v39) (A_sub hv39 rfl rfl rfl) ?_ rfl rfl rfl
    refine JL_go (u := .dptr [I64 c.Half]) (A_fieldM tf_field_29_2 rfl rfl rfl) ?_ rfl rfl rfl
    refine JL_go (u := I64 c.Half) (A_load tf_scalar_3 rfl rfl rfl) ?_ rfl rfl rfl
    obtain ⟨v40, hv40, h⟩ := chk_out h
    refine JL_go (u := I64 v40) (A_add hv40 rfl rfl rfl) ?_ rfl rfl rfl
    refine JL_go (u := I64 (min c.Half v38)) (A_move rfl rfl) ?_ rfl rfl rfl
    obtain ⟨v41, hv41, h⟩ := chk_out h
    refine JL_go (u := I64 v41) (A_sub hv41 rfl rfl rfl) ?_ rfl rfl rfl
    refine JL_go (u := I64 (min s29.1 v41)) (A_min rfl rfl rfl) ?_ rfl rfl rfl
    refine JL_go (u := I64 (min s29.1 v41)) (A_assign rfl rfl) ?_ rfl rfl rfl
    refine JL_nil ?_
    refine hK34 _ _ ?_
    refine JC_region ?_
    refine JL_go (u := I64 s29.2) (A_move rfl rfl) ?_ rfl rfl rfl
    obtain ⟨v42, hv42, h⟩ := chk_out h
    refine JL_go (u := I64 v42) (A_add hv42 rfl rfl rfl) ?_ rfl rfl rfl
    refine JL_go (u := I64 v42) (A_assign rfl rfl) ?_ rfl rfl rfl
    refine JL_nil ?_
    exact e29 _ _ m29 ((min s29.1 v41), v42) (app1 hn29 h) (by omega) ⟨⟨.same rfl, .same rfl, .same rfl, .same rfl, .same rfl, trivial⟩, trivial, rfl⟩
  ·
    replace h := bif_f hb h
    refine JC_exit ?_
    refine hK4 _ _ ?_
    refine JC_seq (fun K43 hK43 => ?_)
    refine JC_region ?_
    refine JL_go (u := I64 s29.1) (A_move rfl rfl) ?_ rfl rfl rfl
    refine JL_go (u := I64 s29.1) (A_assign rfl rfl) ?_ rfl rfl rfl
    refine JL_nil ?_
    refine hK43 _ _ ?_
    refine JC_ret ?_
    exact ⟨[I64 s29.1], [], trivial, rfl, ⟨⟨_, rfl, .conv (.same rfl)⟩, trivial⟩, rfl, congrArg (fun r : Int => (I64 r : AV)) (Option.some.inj h)⟩


theorem M_slices_Repeat_int_n (F : Nat) (x : List Int) (count : Int) (r : (List Int)) (h : M_slices_Repeat_int F x count = some r) : ACalls Try.prog 44 [LS 1 I64 x, I64 count] [] (fun av L' => ∃ p : Nat, av = .vec 450000030 p 1 r.length ∧ L' = [(450000030, .vec 3 1 p (r.map I64))]) := by
  unfold M_slices_Repeat_int at h
  refine ACalls_ofG [] [.tmp 4] Try.func44 rfl rfl (inAll rfl) ?_
  refine JC_seq (fun K1 hK1 => ?_)
  refine JC_region ?_
  refine JL_go (u := .vec 450000004 (([] : List Int).length) 1 (([] : List Int).length)) (A_vnil 450000004 3 1 rfl rfl rfl) ?_ rfl rfl rfl
  refine JL_nil ?_
  refine hK1 _ _ ?_
  refine JC_seq (fun K2 hK2 => ?_)
  refine JC_seq (fun K3 hK3 => ?_)
  refine JC_region ?_
  refine JL_go (u := I64 count) (A_move rfl rfl) ?_ rfl rfl rfl
  refine JL_go (u := BL (decide (count < 0))) (A_lss rfl rfl rfl) ?_ rfl rfl rfl
  refine JL_nil ?_
  refine hK3 _ _ ?_
  refine JC_cond rfl (fun hb => ?_) (fun hb => ?_)
  ·
    replace h := bif_t hb h
    cases h
  ·
    replace h := bif_f hb h
    refine JC_skip ?_
    refine hK2 _ _ ?_
    refine JC_seq (fun K4 hK4 => ?_)
    refine JC_region ?_
    refine JL_go (u := LS 1 I64 x) (A_move rfl rfl) ?_ rfl rfl rfl
    refine JL_lenM (f := I64) (xs := x) tf_slice_52 rfl rfl (fun hm14 => ?_) rfl rfl rfl
    refine JL_go (u := .sc (.int .u64 (IntKind.u64.wrap (x.length : Int)))) (A_conv tf_int_92 tf_int_3 rfl rfl rfl) ?_ rfl rfl rfl
    refine JL_go (u := I64 count) (A_move rfl rfl) ?_ rfl rfl rfl
    refine JL_go (u := .sc (.int .u64 (IntKind.u64.wrap count))) (A_conv tf_int_92 tf_int_3 rfl rfl rfl) ?_ rfl rfl rfl
    obtain ⟨r5, hr5, h⟩ := bnd_out h
    refine JL_go (u := .tup [.sc (.int .u64 r5.1), .sc (.int .u64 r5.2)]) (A_call1 (args := [.sc (.int .u64 (IntKind.u64.wrap (x.length : Int))), .sc (.int .u64 (IntKind.u64.wrap count))]) rfl (M_math_bits_Mul_w (IntKind.u64.wrap (x.length : Int)) (IntKind.u64.wrap count) r5 hr5) tf_call_61 ⟨rfl, rfl, rfl, rfl, trivial⟩) ?_ rfl rfl rfl
    refine JL_go (u := .tup [.sc (.int .u64 r5.1), .sc (.int .u64 r5.2)]) (A_move rfl rfl) ?_ rfl rfl rfl
    refine JL_go (u := .sc (.int .u64 r5.1)) (A_extract rfl rfl rfl) ?_ rfl rfl rfl
    refine JL_go (u := .sc (.int .u64 r5.2)) (A_extract rfl rfl rfl) ?_ rfl rfl rfl
    refine JL_go (u := .sc (.int .u64 r5.1)) (A_assign rfl rfl) ?_ rfl rfl rfl
    refine JL_go (u := .sc (.int .u64 r5.2)) (A_assign rfl rfl) ?_ rfl rfl rfl
    refine JL_nil ?_
    refine hK4 _ _ ?_
    refine JC_seq (fun K6 hK6 => ?_)
    refine JC_seq (fun K7 hK7 => ?_)
    refine JC_region ?_
    refine JL_go (u := .sc (.int .u64 r5.1)) (A_move rfl rfl) ?_ rfl rfl rfl
    refine JL_go (u := BL (decide (0 < r5.1))) (A_gtr rfl rfl rfl) ?_ rfl rfl rfl
    refine JL_go (u := BL (decide (0 < r5.1))) (A_move rfl rfl) ?_ rfl rfl rfl
    refine JL_opt (u := .sc (.int .u64 r5.2)) [] rfl rfl rfl .scf trivial (fun hc => A_move rfl rfl) ?_ rfl rfl rfl
    refine JL_opt (u := BL (decide (9223372036854775807 < r5.2))) [(24, .sc (.int .u64 r5.2))] rfl rfl rfl .scf ⟨.all id, trivial⟩ (fun hc => A_gtr rfl rfl rfl) ?_ rfl rfl rfl
    refine JL_go (u := BL ((decide (0 < r5.1)) || (decide (9223372036854775807 < r5.2)))) (A_or rfl rfl rfl rfl) ?_ rfl rfl rfl
    refine JL_nil ?_
    refine hK7 _ _ ?_
    refine JC_cond rfl (fun hb => ?_) (fun hb => ?_)
    ·
      replace h := bif_t hb h
      cases h
    ·
      replace h := bif_f hb h
      refine JC_skip ?_
      refine hK6 _ _ ?_
      refine JC_seq (fun K8 hK8 => ?_)
      refine JC_region ?_
      refine JL_go (u := .sc (.int .u64 r5.2)) (A_move rfl rfl) ?_ rfl rfl rfl
      obtain ⟨v9, hv9, h⟩ := chk_out h
      refine JL_go (u := I64 v9) (A_conv tf_int_3 tf_int_92 hv9 rfl rfl) ?_ rfl rfl rfl
      obtain ⟨m10, hm10, h⟩ := bnd_out h
      obtain ⟨ha11, h⟩ := need_out h
      refine JL_go (u := .vec 450000030 0 1 ((List.replicate m10 (0 : Int)).length)) (A_vmakeM 450000030 (f := I64) (n := m10) 0 [.int .i64 0] rfl rfl rfl rfl tf_slice_52 tf_elem_3 tf_zero_3 (natOf_out hm10) (natOf_out hm10) ha11 ⟨.inl rfl, trivial⟩ rfl) ?_ rfl rfl rfl
      refine JL_go (u := .vec 450000030 0 1 ((List.replicate m10 (0 : Int)).length)) (A_assign rfl rfl) ?_ rfl rfl rfl
      refine JL_nil ?_
      refine hK8 _ _ ?_
      refine JC_seq (fun K12 hK12 => ?_)
      refine JC_region ?_
      refine JL_go (u := .vec 450000030 0 1 ((List.replicate m10 (0 : Int)).length)) (A_move rfl rfl) ?_ rfl rfl rfl
      refine JL_go (u := LS 1 I64 x) (A_move rfl rfl) ?_ rfl rfl rfl
      refine JL_go (u := I64 ((min x.length ((List.replicate m10 (0 : Int)).length) : Nat) : Int)) (A_copyM (f := I64) (xs := (List.replicate m10 (0 : Int))) (ys := x) (off := 0) (n := ((List.replicate m10 (0 : Int)).length)) rfl tf_slice_52 (.inl ⟨rfl, rfl⟩) rfl (Src_list (ys := x) rfl (.inl rfl)) (fun _ => rfl)) ?_ rfl rfl rfl
      refine JL_go (u := I64 ((min x.length ((List.replicate m10 (0 : Int)).length) : Nat) : Int)) (A_assign rfl rfl) ?_ rfl rfl rfl
      refine JL_nil ?_
      refine hK12 _ _ ?_
      refine JC_seq (fun K13 hK13 => ?_)
      refine JC_block ?_
      obtain ⟨b26, hb26, h⟩ := loop_in h
      refine JC_loop2 (fun i26 (s26 : Int × (List Int)) => loop b26 i26 s26 = some r) (fun i26 s26 => [(7, .vec 450000030 0 1 ((List.replicate m10 (0 : Int)).length)), (8, I64 s26.1)]) (fun i26 s26 => [(450000004, .vec 3 1 (([] : List Int).length) (([] : List Int).map I64)), (450000030, .vec 3 1 0 (s26.2.map I64))]) (fun i26 => i26) F (((min x.length ((List.replicate m10 (0 : Int)).length) : Nat) : Int), (overlay (List.replicate m10 (0 : Int)) 0 x ((List.replicate m10 (0 : Int)).length))) h ⟨⟨.same rfl, .same rfl, trivial⟩, ⟨⟨_, rfl, .vec⟩, ⟨_, rfl, .vec⟩, trivial⟩, rfl⟩ ?_
      clear h
      intro i26 s26 hi26 K26 e26
      obtain ⟨m26, nx26, hm_26, hn26, h⟩ := loop_out hi26
      replace h := app2 hb26 h
      refine JC_seq (fun K27 hK27 => ?_)
      refine JC_seq (fun K28 hK28 => ?_)
      refine JC_region ?_
      refine JL_go (u := I64 s26.1) (A_move rfl rfl) ?_ rfl rfl rfl
      refine JL_go (u := .vec 450000030 0 1 ((List.replicate m10 (0 : Int)).length)) (A_move rfl rfl) ?_ rfl rfl rfl
      refine JL_vlenM (f := I64) (xs := s26.2) tf_slice_52 rfl rfl rfl (fun hm36 => ?_) rfl rfl rfl
      refine JL_go (u := BL (decide (s26.1 < (s26.2.length : Int)))) (A_lss rfl rfl rfl) ?_ rfl rfl rfl
      refine JL_nil ?_
      refine hK28 _ _ ?_
      refine JC_cond rfl (fun hb => ?_) (fun hb => ?_)
      ·
        replace h := bif_t hb h
        refine JC_skip ?_
        refine hK27 _ _ ?_
        refine JC_block ?_
        refine JC_fits (l' := [(7, .vec 450000030 0 1 ((List.replicate m10 (0 : Int)).length)), (8, I64 s26.1)]) (L' := [(450000004, .vec 3 1 (([] : List Int).length) (([] : List Int).map I64)), (450000030, .vec 3 1 0 (s26.2.map I64))]) ⟨⟨.same rfl, .same rfl, trivial⟩, ⟨⟨_, rfl, .vec⟩, ⟨_, rfl, .vec⟩, trivial⟩, rfl⟩ ?_
        obtain ⟨m29, hm29, h⟩ := bnd_out h
        obtain ⟨m30, hm30, h⟩ := bnd_out h
        obtain ⟨v31, hv31, h⟩ := chk_out h
        refine JC_draw [7] [0, 0, 0, 0, 0, 0, 0, 0, 1, 1] [1, 0, 0, 0, 0, 0, 0, 0, 1, 1] [[(450000004, .vec 3 1 (([] : List Int).length) (([] : List Int).map I64)), (450000030, .vec 3 1 0 (s26.2.map I64))], ((450000030, .vec 3 1 0 ((overlay s26.2 m29 ((s26.2.drop 0).take m30) (s26.2.length - m29)).map I64)) :: [(450000004, .vec 3 1 (([] : List Int).length) (([] : List Int).map I64)), (450000030, .vec 3 1 0 (s26.2.map I64))])] tf_mixed (by kernel_rfl) rfl rfl ?_
        refine D_ro (u := I64 s26.1) rfl rfl ⟨O_go (A_move rfl rfl) rfl, O_go (A_move rfl rfl) rfl, trivial⟩ ?_ rfl
        refine D_ro (u := .vec 450000030 0 1 ((List.replicate m10 (0 : Int)).length)) rfl rfl ⟨O_go (A_move rfl rfl) rfl, trivial⟩ ?_ rfl
        refine D_ro (u := I64 s26.1) rfl rfl ⟨O_go (A_move rfl rfl) rfl, trivial⟩ ?_ rfl
        refine D_ro (u := .vsl 450000030 0 1 m29 (s26.2.length - m29)) rfl rfl ⟨O_go (A_vsubLoM (f := I64) (xs := s26.2) rfl rfl rfl rfl tf_slice_52 (natIn_out hm29)) rfl, trivial⟩ ?_ rfl
        refine D_ro (u := .vec 450000030 0 1 ((List.replicate m10 (0 : Int)).length)) rfl rfl ⟨O_go (A_move rfl rfl) rfl, trivial⟩ ?_ rfl
        refine D_ro (u := I64 s26.1) rfl rfl ⟨O_go (A_move rfl rfl) rfl, trivial⟩ ?_ rfl
        refine D_ro (u := .vsl 450000030 0 1 0 m30) rfl rfl ⟨O_go (A_vsubHiM (f := I64) (xs := s26.2) rfl rfl rfl rfl tf_slice_52 (natIn_out hm30)) rfl, trivial⟩ ?_ rfl
        refine D_w (u := I64 ((min ((s26.2.drop 0).take m30).length (s26.2.length - m29) : Nat) : Int)) rfl rfl rfl rfl (O_go (A_copyM (f := I64) (xs := s26.2) (ys := ((s26.2.drop 0).take m30)) (off := m29) (n := (s26.2.length - m29)) rfl tf_slice_52 (.inr rfl) rfl (Src_vsl (zs := s26.2) rfl rfl) (fun _ => rfl)) rfl) ?_ rfl
        refine D_ro (u := I64 v31) rfl rfl ⟨O_go (A_add hv31 rfl rfl rfl) rfl, trivial⟩ ?_ rfl
        refine D_ro (u := I64 v31) rfl rfl ⟨O_go (A_assign rfl rfl) rfl, trivial⟩ ?_ rfl
        refine D_nil ?_
        exact e26 _ _ m26 (v31, (overlay s26.2 m29 ((s26.2.drop 0).take m30) (s26.2.length - m29))) (app1 hn26 h) (by omega) ⟨⟨.same rfl, .same rfl, trivial⟩, ⟨⟨_, rfl, .vec⟩, ⟨_, rfl, .vec⟩, trivial⟩, rfl⟩
      ·
        replace h := bif_f hb h
        refine JC_exit ?_
        refine hK13 _ _ ?_
        refine JC_seq (fun K32 hK32 => ?_)
        refine JC_region ?_
        refine JL_go (u := .vec 450000030 0 1 ((List.replicate m10 (0 : Int)).length)) (A_move rfl rfl) ?_ rfl rfl rfl
        refine JL_go (u := .vec 450000030 0 1 ((List.replicate m10 (0 : Int)).length)) (A_assign rfl rfl) ?_ rfl rfl rfl
        refine JL_nil ?_
        refine hK32 _ _ ?_
        refine JC_vlen 4 rfl rfl (fun hn_ => ?_)
        refine JC_ret ?_
        obtain rfl := Option.some.inj h
        exact ⟨[.vec 450000030 0 1 ((List.replicate m10 (0 : Int)).length)], [(450000030, .vec 3 1 0 (s26.2.map I64))], ⟨⟨_, rfl, .vec⟩, trivial⟩, rfl, ⟨⟨_, rfl, .conv (.same rfl)⟩, trivial⟩, 0, congrArg (fun n_ : Nat => (.vec 450000030 0 1 n_ : AV)) (hn_.trans (List.length_map _)), rfl⟩
end
end Go.Proofs.Ytpbhhakkhlfbnaa
