/-
 Models of functions of the program, and that they return what the models say.
-/
import Derived.Test.YtlhfflmknlfafaaProg
import Derived.Test.YtlhfflmknlfafaaSortM
import Derived.Test.YtlhfflmknlfafaaSortLay
import Derived.Test.YtlhfflmknlfafaaRel
import Derived.Test.YtlhfflmknlfafaaLit0
set_option maxRecDepth 100000
set_option linter.unusedVariables false
set_option linter.unusedSimpArgs false
namespace Go.Proofs.Ytlhfflmknlfafaa
open Go.RowKit
noncomputable section
structure ship_span where
 n : Int
 low : Int
 high : Int
 deriving DecidableEq, Inhabited
def ship_span.cs (x : ship_span) : List AV := [G2 x.n, G2 x.low, G2 x.high]
def ship_span.av (x : ship_span) : AV := .agg x.cs
structure G8 where
 Bay : Int
 Row : Int
 Deck : Bool
 Tiers : Int
 Height : Int
 Kilos20 : Int
 Kilos40 : Int
 Lash : Int
 Plugs : List Int
 X : Int
 Y : Int
 Z : Int
 deriving DecidableEq, Inhabited
def G8.cs (x : G8) : List AV := [G2 x.Bay, G2 x.Row, BL x.Deck, G2 x.Tiers, G2 x.Height, G2 x.Kilos20, G2 x.Kilos40, G2 x.Lash, LS 1 G2 x.Plugs, G2 x.X, G2 x.Y, G2 x.Z]
def G8.av (x : G8) : AV := .agg x.cs
structure Cover where
 Bay : Int
 Rows : List Int
 deriving DecidableEq, Inhabited
def Cover.cs (x : Cover) : List AV := [G2 x.Bay, LS 1 G2 x.Rows]
def Cover.av (x : Cover) : AV := .agg x.cs
structure Light where
 Kilos : Int
 X : Int
 Y : Int
 Z : Int
 deriving DecidableEq, Inhabited
def Light.cs (x : Light) : List AV := [G2 x.Kilos, G2 x.X, G2 x.Y, G2 x.Z]
def Light.av (x : Light) : AV := .agg x.cs
structure Row where
 Draught : Int
 Kilos : Int
 Buoy : Int
 Metacentre : Int
 Turn : Int
 deriving DecidableEq, Inhabited
def Row.cs (x : Row) : List AV := [G2 x.Draught, G2 x.Kilos, G2 x.Buoy, G2 x.Metacentre, G2 x.Turn]
def Row.av (x : Row) : AV := .agg x.cs
structure Frame where
 X : Int
 Light : Int
 Share : Int
 Shear : Int
 Bend : Int
 deriving DecidableEq, Inhabited
def Frame.cs (x : Frame) : List AV := [G2 x.X, G2 x.Light, G2 x.Share, G2 x.Shear, G2 x.Bend]
def Frame.av (x : Frame) : AV := .agg x.cs
structure Tank where
 Kilos : Int
 X : Int
 Y : Int
 Z : Int
 Surface : Int
 Steps : List Int
 deriving DecidableEq, Inhabited
def Tank.cs (x : Tank) : List AV := [G2 x.Kilos, G2 x.X, G2 x.Y, G2 x.Z, G2 x.Surface, LS 1 G2 x.Steps]
def Tank.av (x : Tank) : AV := .agg x.cs
structure G4 where
 Tolerance : Int
 Trim : Int
 List_ : Int
 Stability : Int
 deriving DecidableEq, Inhabited
def G4.cs (x : G4) : List AV := [G2 x.Tolerance, G2 x.Trim, G2 x.List_, G2 x.Stability]
def G4.av (x : G4) : AV := .agg x.cs
structure Ship where
 Columns : List G8
 Covers : List Cover
 Light : Light
 Rows : List Row
 Frames : List Frame
 Tanks : List Tank
 G4 : G4
 deriving DecidableEq, Inhabited
def Ship.cs (x : Ship) : List AV := [LS 12 G8.av x.Columns, LS 2 Cover.av x.Covers, G2 x.Light.Kilos, G2 x.Light.X, G2 x.Light.Y, G2 x.Light.Z, LS 5 Row.av x.Rows, LS 5 Frame.av x.Frames, LS 6 Tank.av x.Tanks, G2 x.G4.Tolerance, G2 x.G4.Trim, G2 x.G4.List_, G2 x.G4.Stability]
def Ship.av (x : Ship) : AV := .agg x.cs
structure Arr3Int where
 e0 : Int
 e1 : Int
 e2 : Int
 deriving DecidableEq, Inhabited
def Arr3Int.cs (x : Arr3Int) : List AV := [G2 x.e0, G2 x.e1, G2 x.e2]
def Arr3Int.av (x : Arr3Int) : AV := .agg x.cs
def Arr3Int.ks (x : Arr3Int) : List Value := [.int .i64 x.e0, .int .i64 x.e1, .int .i64 x.e2]
def Arr3Int.kv (x : Arr3Int) : Value := .agg x.ks.toArray
structure Slot where
 G8 : Int
 Tier : Int
 Half : Int
 deriving DecidableEq, Inhabited
def Slot.cs (x : Slot) : List AV := [G2 x.G8, G2 x.Tier, U8 x.Half]
def Slot.av (x : Slot) : AV := .agg x.cs
structure G7 where
 Load : Int
 Discharge : Int
 deriving DecidableEq, Inhabited
def G7.cs (x : G7) : List AV := [G2 x.Load, G2 x.Discharge]
def G7.av (x : G7) : AV := .agg x.cs
structure G0 where
 G7 : G7
 Whole : Int
 Half : Int
 deriving DecidableEq, Inhabited
def G0.cs (x : G0) : List AV := [G2 x.G7.Load, G2 x.G7.Discharge, G2 x.Whole, G2 x.Half]
def G0.av (x : G0) : AV := .agg x.cs
structure Box where
 ID : Int
 Number : ByteArray
 Size : Int
 High : Bool
 Kilos : Int
 Load : Int
 Discharge : Int
 Class : Int
 Reefer : Bool
 deriving DecidableEq, Inhabited
def Box.cs (x : Box) : List AV := [G2 x.ID, ST x.Number, U8 x.Size, BL x.High, G2 x.Kilos, G2 x.Load, G2 x.Discharge, U8 x.Class, BL x.Reefer]
def Box.av (x : Box) : AV := .agg x.cs
def G7.ks (x : G7) : List Value := [.int .i64 x.Load, .int .i64 x.Discharge]
def G7.kv (x : G7) : Value := .agg x.ks.toArray
def G0.vs (x : G0) : List Value := [.int .i64 x.G7.Load, .int .i64 x.G7.Discharge, .int .i64 x.Whole, .int .i64 x.Half]
namespace XAF
theorem tq_134 (a b : Arr3Int) : eqAt Try.prog 4 134 [.int .i64 a.e0, .int .i64 a.e1, .int .i64 a.e2] [.int .i64 b.e0, .int .i64 b.e1, .int .i64 b.e2] = some (decide (a = b)) := by
 refine (show _ = some ((a.e0 == b.e0) && ((a.e1 == b.e1) && ((a.e2 == b.e2) && true))) by kernel_rfl).trans (congrArg some ?_)
 rw [Bool.eq_iff_iff]
 simp only [Bool.and_eq_true, beq_iff_eq, decide_eq_true_eq, Bool.and_true]
 constructor
 ·intro h; obtain ⟨_, _, _⟩ := a; obtain ⟨_, _, _⟩ := b; simp_all
 ·intro h; subst h; simp
theorem tq_56 (a b : G7) : eqAt Try.prog 4 56 [.int .i64 a.Load, .int .i64 a.Discharge] [.int .i64 b.Load, .int .i64 b.Discharge] = some (decide (a = b)) := by
 refine (show _ = some ((a.Load == b.Load) && ((a.Discharge == b.Discharge) && true)) by kernel_rfl).trans (congrArg some ?_)
 rw [Bool.eq_iff_iff]
 simp only [Bool.and_eq_true, beq_iff_eq, decide_eq_true_eq, Bool.and_true]
 constructor
 ·intro h; obtain ⟨_, _⟩ := a; obtain ⟨_, _⟩ := b; simp_all
 ·intro h; subst h; simp
theorem tf_agg_154 : aggB Try.prog 154 3 = true := by kernel_rfl
theorem tf_agg_50 : aggB Try.prog 50 12 = true := by kernel_rfl
theorem Hf : aggB Try.prog 56 2 = true := by kernel_rfl
theorem tf_agg_65 : aggB Try.prog 65 2 = true := by kernel_rfl
theorem Jw : aggB Try.prog 70 9 = true := by kernel_rfl
theorem Hv : aggB Try.prog 83 4 = true := by kernel_rfl
theorem tf_arr_134 : arrB Try.prog 134 3 1 = true := by kernel_rfl
theorem tf_call_34 : callB Try.prog 34 = true := by kernel_rfl
theorem tf_call_35 : callB Try.prog 35 = true := by kernel_rfl
theorem tf_call_36 : callB Try.prog 36 = true := by kernel_rfl
theorem tf_call_55 : callB Try.prog 55 = true := by kernel_rfl
theorem tf_call_58 : callB Try.prog 58 = true := by kernel_rfl
theorem tf_call_59 : callB Try.prog 59 = true := by kernel_rfl
theorem tf_call_65 : callB Try.prog 65 = true := by kernel_rfl
theorem tf_call_71 : callB Try.prog 71 = true := by kernel_rfl
theorem tf_call_82 : callB Try.prog 82 = true := by kernel_rfl
theorem tf_elem_83 : elemB Try.prog 83 4 32 = true := by kernel_rfl
theorem tf_field_154_0 : fieldB Try.prog 154 0 0 = true := by kernel_rfl
theorem tf_field_154_1 : fieldB Try.prog 154 1 1 = true := by kernel_rfl
theorem tf_field_154_2 : fieldB Try.prog 154 2 2 = true := by kernel_rfl
theorem Hb : fieldB Try.prog 35 0 0 = true := by kernel_rfl
theorem tf_field_35_1 : fieldB Try.prog 35 1 1 = true := by kernel_rfl
theorem tf_field_50_0 : fieldB Try.prog 50 0 0 = true := by kernel_rfl
theorem tf_field_50_1 : fieldB Try.prog 50 1 1 = true := by kernel_rfl
theorem tf_field_50_10 : fieldB Try.prog 50 10 10 = true := by kernel_rfl
theorem tf_field_50_11 : fieldB Try.prog 50 11 11 = true := by kernel_rfl
theorem tf_field_50_2 : fieldB Try.prog 50 2 2 = true := by kernel_rfl
theorem tf_field_50_3 : fieldB Try.prog 50 3 3 = true := by kernel_rfl
theorem tf_field_50_4 : fieldB Try.prog 50 4 4 = true := by kernel_rfl
theorem tf_field_50_5 : fieldB Try.prog 50 5 5 = true := by kernel_rfl
theorem tf_field_50_6 : fieldB Try.prog 50 6 6 = true := by kernel_rfl
theorem tf_field_50_7 : fieldB Try.prog 50 7 7 = true := by kernel_rfl
theorem tf_field_50_8 : fieldB Try.prog 50 8 8 = true := by kernel_rfl
theorem tf_field_50_9 : fieldB Try.prog 50 9 9 = true := by kernel_rfl
theorem J9 : fieldB Try.prog 56 0 0 = true := by kernel_rfl
theorem J8 : fieldB Try.prog 56 1 1 = true := by kernel_rfl
theorem tf_field_65_0 : fieldB Try.prog 65 0 0 = true := by kernel_rfl
theorem tf_field_65_1 : fieldB Try.prog 65 1 1 = true := by kernel_rfl
theorem tf_field_70_2 : fieldB Try.prog 70 2 2 = true := by kernel_rfl
theorem Jv : fieldB Try.prog 70 5 5 = true := by kernel_rfl
theorem tf_field_70_6 : fieldB Try.prog 70 6 6 = true := by kernel_rfl
theorem Ho : fieldB Try.prog 83 0 0 = true := by kernel_rfl
theorem Ju : fieldB Try.prog 83 1 2 = true := by kernel_rfl
theorem Jt : fieldB Try.prog 83 2 3 = true := by kernel_rfl
theorem tf_map_109 : mapB Try.prog 109 56 83 = true := by kernel_rfl
theorem tf_map_133 : mapB Try.prog 133 134 3 = true := by kernel_rfl
theorem Hr : Try.prog.follows .mixedOrders = true := by kernel_rfl
theorem J7 : placesOf Try.prog 154 = some [(0, 1), (1, 1), (2, 1)] := by kernel_rfl
theorem tf_places_56 : placesOf Try.prog 56 = some [(0, 1), (1, 1)] := by kernel_rfl
theorem tf_places_98 : placesOf Try.prog 98 = some [(0, 1), (1, 1), (2, 1)] := by kernel_rfl
theorem Hm : scalarB Try.prog 25 = true := by kernel_rfl
theorem tf_scalar_26 : scalarB Try.prog 26 = true := by kernel_rfl
theorem Gc : scalarB Try.prog 3 = true := by kernel_rfl
theorem Jk : scalarB Try.prog 4 = true := by kernel_rfl
theorem tf_scalar_48 : scalarB Try.prog 48 = true := by kernel_rfl
theorem Hk : scalarB Try.prog 5 = true := by kernel_rfl
theorem tf_size_154 : sizeB Try.prog 154 3 = true := by kernel_rfl
theorem J0 : sizeB Try.prog 3 1 = true := by kernel_rfl
theorem tf_size_50 : sizeB Try.prog 50 12 = true := by kernel_rfl
theorem tf_size_56 : sizeB Try.prog 56 2 = true := by kernel_rfl
theorem tf_size_65 : sizeB Try.prog 65 2 = true := by kernel_rfl
theorem Jx : sizeB Try.prog 70 9 = true := by kernel_rfl
theorem tf_size_83 : sizeB Try.prog 83 4 = true := by kernel_rfl
theorem tf_slice_145 : sliceB Try.prog 145 5 1 = true := by kernel_rfl
theorem tf_slice_152 : sliceB Try.prog 152 154 3 = true := by kernel_rfl
theorem Ha : sliceB Try.prog 25 50 12 = true := by kernel_rfl
theorem tf_slice_26 : sliceB Try.prog 26 65 2 = true := by kernel_rfl
theorem Hp : sliceB Try.prog 37 70 9 = true := by kernel_rfl
theorem Gr : sliceB Try.prog 48 3 1 = true := by kernel_rfl
theorem Gs : sliceB Try.prog 74 83 4 = true := by kernel_rfl
theorem tf_zero_134 : (Try.prog.info? 134).bind (fun i => i.zero.map Value.cells) = some (List.toArray [.int .i64 0, .int .i64 0, .int .i64 0]) := by kernel_rfl
theorem Jj : (Try.prog.info? 154).bind (fun i => i.zero.map Value.cells) = some (List.toArray [.int .i64 0, .int .i64 0, .int .i64 0]) := by kernel_rfl
theorem tf_zero_56 : (Try.prog.info? 56).bind (fun i => i.zero.map Value.cells) = some (List.toArray [.int .i64 0, .int .i64 0]) := by kernel_rfl
theorem tf_zero_98 : (Try.prog.info? 98).bind (fun i => i.zero.map Value.cells) = some (List.toArray [.int .i64 0, .int .i64 0, .int .u8 0]) := by kernel_rfl
theorem tf_zsize_154 : zsizeB Try.prog 154 3 = true := by kernel_rfl
theorem tf_zsize_3 : zsizeB Try.prog 3 1 = true := by kernel_rfl
theorem tf_zsize_5 : zsizeB Try.prog 5 1 = true := by kernel_rfl
theorem Q1 : zsizeB Try.prog 50 12 = true := by kernel_rfl
theorem Jr : zsizeB Try.prog 56 2 = true := by kernel_rfl
theorem tf_zsize_65 : zsizeB Try.prog 65 2 = true := by kernel_rfl
theorem Jd : zsizeB Try.prog 70 9 = true := by kernel_rfl
theorem Hw : zsizeB Try.prog 83 4 = true := by kernel_rfl
theorem tf_zv_3 : (Try.prog.info? 3).bind (·.zero) = some (.int .i64 0) := by kernel_rfl
theorem tf_zv_83 : (Try.prog.info? 83).bind (·.zero) = some (.agg #[.int .i64 0, .int .i64 0, .int .i64 0, .int .i64 0]) := by kernel_rfl
theorem tk_134 : KeyL Try.prog 134 Arr3Int.kv := KeyL.of_eq Arr3Int.ks (by kernel_rfl) (fun a b h => by simp only [Arr3Int.ks, List.cons.injEq, Value.int.injEq, Value.bool.injEq, Value.string.injEq, true_and, and_true] at h; obtain ⟨_, _, _⟩ := a; obtain ⟨_, _, _⟩ := b; simp_all) 4 (by decide) (fun a b => tq_134 a b) (fun a => by kernel_rfl) (fun a => by simp [Instr.sameBits, Arr3Int.ks])
theorem tk_56 : KeyL Try.prog 56 G7.kv := KeyL.of_eq G7.ks (by kernel_rfl) (fun a b h => by simp only [G7.ks, List.cons.injEq, Value.int.injEq, Value.bool.injEq, Value.string.injEq, true_and, and_true] at h; obtain ⟨_, _⟩ := a; obtain ⟨_, _⟩ := b; simp_all) 4 (by decide) (fun a b => tq_56 a b) (fun a => by kernel_rfl) (fun a => by simp [Instr.sameBits, G7.ks])
end XAF
open XAF

def M_ship_right_1 (l : List ship_span) : Option Bool :=
 each (fun y18 i18 (s18 : Unit) nx18 =>
  bif ((decide (y18.n < y18.low)) || (decide (y18.high < y18.n))) then
  (some false)
  else
  (nx18 ()))
 (fun (s18 : Unit) =>
  some true) l 0 ()
theorem M_ship_right_1_w (l : List ship_span) (r : Bool) (h : M_ship_right_1 l = some r) : Pure Try.prog 71 [LS 3 ship_span.av l] (· = BL r) := by
 unfold M_ship_right_1 at h
 refine H0 [.tmp 2] Try.func71 rfl rfl ?_
 refine G6 fun K1 hK1 => G3 ?_
 refine G1 (u := BL false) (Ga rfl rfl) ?_
 refine G9 (hK1 _ _ ?_)
 refine G6 (fun K2 hK2 => ?_)
 refine G6 fun K3 hK3 => G3 ?_
 refine G1 (u := LS 3 ship_span.av l) (G5 rfl rfl) ?_
 refine H9 (f := ship_span.av) (xs := l) tf_slice_152 rfl rfl (fun hm6 => ?_) rfl rfl rfl
 refine G1 (u := G2 0) (G5 rfl rfl) ?_
 refine G9 (hK3 _ _ ?_)
 refine Gk ?_
 obtain ⟨b18, kx18, hb18, hkx18, h⟩ := Hj h
 refine H2 (fun i18 (s18 : Unit) => each b18 kx18 (List.drop i18 l) i18 s18 = some r) (fun i18 s18 => [(5, LS 3 ship_span.av l), (6, G2 (l.length : Int)), (7, G2 (i18 : Int))]) (fun i18 s18 => []) (fun i18 => l.length - i18) 0 () h ⟨⟨.same rfl, .same rfl, .same rfl, trivial⟩, trivial, rfl⟩ ?_
 clear h
 intro i18 s18 hi18 K18 e18
 refine G6 fun K19 hK19 => G3 ?_
 refine G1 (u := BL (decide ((i18 : Int) < (l.length : Int)))) (Hg rfl rfl rfl) ?_
 refine G9 (hK19 _ _ ?_)
 refine G6 (fun K20 hK20 => ?_)
 refine Gm rfl (fun hb => ?_) (fun hb => ?_)
 ·
  have hk18 := lt_len hb
  obtain ⟨y18, nx18, hy18, hn18, h⟩ := Hc hi18 hk18
  replace h := app4 hb18 h
  refine Gp ?_
  refine hK20 _ _ ?_
  refine G6 (fun K21 hK21 => ?_)
  refine Gk ?_
  refine G6 fun K22 hK22 => G3 ?_
  refine G1 (u := .dptr [G2 y18.n, G2 y18.low, G2 y18.high]) (Gw (f := ship_span.av) (xs := l) (y := y18) rfl rfl rfl tf_slice_152 hy18 rfl) ?_
  refine G1 (u := .agg [G2 y18.n, G2 y18.low, G2 y18.high]) (Gf tf_agg_154 rfl rfl rfl) ?_
  refine G1 (u := .ptr 1135 0) (H8 1135 3 tf_zsize_154 rfl rfl) ?_
  refine H6 (u := .junk) (Gz (u := .agg [G2 y18.n, G2 y18.low, G2 y18.high]) (ds := [G2 y18.n, G2 y18.low, G2 y18.high]) tf_size_154 rfl rfl rfl rfl rfl rfl rfl rfl) ?_
  refine G9 (hK22 _ _ ?_)
  refine Gq [(4, .dptr [G2 y18.n, G2 y18.low, G2 y18.high]), (5, LS 3 ship_span.av l), (6, G2 (l.length : Int)), (7, G2 (i18 : Int))] [] 1135 rfl rfl rfl trivial rfl (by repeat' (first | exact .ptr | constructor)) ?_
  refine G6 fun K23 hK23 => G3 ?_
  refine G1 (u := .dptr [G2 y18.n, G2 y18.low, G2 y18.high]) (Gd tf_field_154_0 rfl rfl rfl) ?_
  refine G1 (u := G2 y18.n) (Gn Gc rfl rfl rfl) ?_
  refine G1 (u := .dptr [G2 y18.low, G2 y18.high]) (Gd tf_field_154_1 rfl rfl rfl) ?_
  refine G1 (u := G2 y18.low) (Gn Gc rfl rfl rfl) ?_
  refine G1 (u := BL (decide (y18.n < y18.low))) (Hg rfl rfl rfl) ?_
  refine G1 (u := BL (decide (y18.n < y18.low))) (G5 rfl rfl) ?_
  refine Gj (u := .dptr [G2 y18.n, G2 y18.low, G2 y18.high]) [] rfl rfl rfl .scf trivial (fun hc => Gd tf_field_154_0 rfl rfl rfl) ?_
  refine Gj (u := G2 y18.n) [(17, .dptr [G2 y18.n, G2 y18.low, G2 y18.high])] rfl rfl rfl .scf ⟨.all id, trivial⟩ (fun hc => Gn Gc rfl rfl rfl) ?_
  refine Gj (u := .dptr [G2 y18.high]) [] rfl rfl rfl .scf trivial (fun hc => Gd tf_field_154_2 rfl rfl rfl) ?_
  refine Gj (u := G2 y18.high) [(19, .dptr [G2 y18.high])] rfl rfl rfl .scf ⟨.all id, trivial⟩ (fun hc => Gn Gc rfl rfl rfl) ?_
  refine Gj (u := BL (decide (y18.high < y18.n))) [(18, G2 y18.n), (20, G2 y18.high)] rfl rfl rfl .scf ⟨.all id, .all id, trivial⟩ (fun hc => Jy rfl rfl rfl) ?_
  refine G1 (u := BL ((decide (y18.n < y18.low)) || (decide (y18.high < y18.n)))) (A_or rfl rfl rfl rfl) ?_
  refine G9 (hK23 _ _ ?_)
  refine Gm rfl (fun hb => ?_) (fun hb => ?_)
  ·
   replace h := bif_t hb h
   refine G6 fun K24 hK24 => G3 ?_
   refine G1 (u := BL false) (Ga rfl rfl) ?_
   refine G9 (hK24 _ _ ?_)
   refine Gt ?_
   exact ⟨[BL false], [], trivial, rfl, ⟨⟨_, rfl, .conv (.same rfl)⟩, trivial⟩, rfl, congrArg (fun r : Bool => (BL r : AV)) (Option.some.inj h)⟩
  ·
   replace h := bif_f hb h
   refine Gp ?_
   refine hK21 _ _ ?_
   refine G3 ?_
   refine G1 (u := G2 ((i18 + 1 : Nat) : Int)) (H7 (idx_succ hk18 hm6) rfl rfl rfl) ?_
   refine G1 (u := G2 ((i18 + 1 : Nat) : Int)) (G5 rfl rfl) ?_
   refine G9 ?_
   exact e18 _ _ (i18 + 1) () (app1 hn18 h) (by omega) ⟨⟨.same rfl, .same rfl, .same rfl, trivial⟩, trivial, rfl⟩
 ·
  have h := app1 hkx18 (Hd hi18 (H3 hb))
  refine H4 ?_
  refine hK2 _ _ ?_
  refine G6 fun K25 hK25 => G3 ?_
  refine G1 (u := BL true) (Ga rfl rfl) ?_
  refine G9 (hK25 _ _ ?_)
  refine Gt ?_
  exact ⟨[BL true], [], trivial, rfl, ⟨⟨_, rfl, .conv (.same rfl)⟩, trivial⟩, rfl, congrArg (fun r : Bool => (BL r : AV)) (Option.some.inj h)⟩

def M_ship_right (c : G8) : Option Bool :=
 each (fun y27 i27 (s27 : Unit) nx27 =>
  chk (c.Tiers - 1) fun v33 =>
  bnd (M_ship_right_1 [(ship_span.mk y27 0 v33)]) fun r34 =>
  bnd (bif ((!(!r34)) && (decide (0 < (i27 : Int)))) then chk ((i27 : Int) - 1) some else some 0) fun v35 =>
  bnd (bif ((!(!r34)) && (decide (0 < (i27 : Int)))) then gidx c.Plugs v35 some else some default) fun y36 =>
  bif ((!r34) || ((decide (0 < (i27 : Int))) && (decide (y27 ≤ y36)))) then
  (some false)
  else
  (nx27 ()))
 (fun (s27 : Unit) =>
  bnd (M_ship_right_1 [(ship_span.mk c.Bay 0 39), (ship_span.mk c.Row 0 30), (ship_span.mk c.Tiers 1 10), (ship_span.mk c.Height 0 40000), (ship_span.mk c.Kilos20 0 500000000), (ship_span.mk c.Kilos40 0 500000000), (ship_span.mk c.Lash 0 1000000000000), (ship_span.mk c.X (-500000) 500000), (ship_span.mk c.Y (-500000) 500000), (ship_span.mk c.Z (-500000) 500000)]) fun r39 =>
  some r39) c.Plugs 0 ()
theorem M_ship_right_w (c : G8) (r : Bool) (h : M_ship_right c = some r) : Pure Try.prog 55 [.agg (G8.cs c)] (· = BL r) := by
 unfold M_ship_right at h
 refine H0 [.tmp 2] Try.func55 rfl rfl ?_
 refine G6 fun K1 hK1 => G3 ?_
 refine G1 (u := .ptr 1129 0) (J2 (u := .agg (G8.cs c)) (cs := (G8.cs c)) 1129 rfl rfl rfl rfl rfl) ?_
 refine G1 (u := BL false) (Ga rfl rfl) ?_
 refine G9 (hK1 _ _ ?_)
 refine Gq [(1, .dptr (G8.cs c))] [] 1129 rfl rfl rfl trivial rfl (by exact ⟨.ptr, trivial⟩) ?_
 refine G6 fun K2 hK2 => G3 ?_
 refine G1 (u := .fn 71 []) (Ga rfl rfl) ?_
 refine G9 (hK2 _ _ ?_)
 refine G6 (fun K3 hK3 => ?_)
 refine G6 fun K4 hK4 => G3 ?_
 refine G1 (u := .dptr [LS 1 G2 c.Plugs, G2 c.X, G2 c.Y, G2 c.Z]) (Gd tf_field_50_8 rfl rfl rfl) ?_
 refine G1 (u := LS 1 G2 c.Plugs) (Gn tf_scalar_48 rfl rfl rfl) ?_
 refine H9 (f := G2) (xs := c.Plugs) Gr rfl rfl (fun hm8 => ?_) rfl rfl rfl
 refine G1 (u := G2 0) (G5 rfl rfl) ?_
 refine G9 (hK4 _ _ ?_)
 refine Gk ?_
 obtain ⟨b27, kx27, hb27, hkx27, h⟩ := Hj h
 refine H2 (fun i27 (s27 : Unit) => each b27 kx27 (List.drop i27 c.Plugs) i27 s27 = some r) (fun i27 s27 => [(1, .dptr (G8.cs c)), (3, .fn 71 []), (7, LS 1 G2 c.Plugs), (8, G2 (c.Plugs.length : Int)), (9, G2 (i27 : Int))]) (fun i27 s27 => []) (fun i27 => c.Plugs.length - i27) 0 () h ⟨(by repeat' constructor), trivial, rfl⟩ ?_
 clear h
 intro i27 s27 hi27 K27 e27
 refine G6 fun K28 hK28 => G3 ?_
 refine G1 (u := BL (decide ((i27 : Int) < (c.Plugs.length : Int)))) (Hg rfl rfl rfl) ?_
 refine G9 (hK28 _ _ ?_)
 refine G6 (fun K29 hK29 => ?_)
 refine Gm rfl (fun hb => ?_) (fun hb => ?_)
 ·
  have hk27 := lt_len hb
  obtain ⟨y27, nx27, hy27, hn27, h⟩ := Hc hi27 hk27
  replace h := app4 hb27 h
  refine Gp ?_
  refine hK29 _ _ ?_
  refine G6 (fun K30 hK30 => ?_)
  refine Gk ?_
  refine G6 fun K31 hK31 => G3 ?_
  refine G1 (u := G2 (i27 : Int)) (G5 rfl rfl) ?_
  refine G1 (u := .dptr [G2 y27]) (Gw (f := G2) (xs := c.Plugs) (y := y27) rfl rfl rfl Gr hy27 rfl) ?_
  refine G1 (u := G2 y27) (Gn Gc rfl rfl rfl) ?_
  refine G1 (u := G2 (i27 : Int)) (Ga rfl rfl) ?_
  refine G1 (u := G2 y27) (Ga rfl rfl) ?_
  refine G9 (hK31 _ _ ?_)
  refine G6 fun K32 hK32 => G3 ?_
  refine G1 (u := .fn 71 []) (G5 rfl rfl) ?_
  refine G1 (u := G2 y27) (G5 rfl rfl) ?_
  refine G1 (u := .dptr [G2 c.Tiers, G2 c.Height, G2 c.Kilos20, G2 c.Kilos40, G2 c.Lash, LS 1 G2 c.Plugs, G2 c.X, G2 c.Y, G2 c.Z]) (Gd tf_field_50_3 rfl rfl rfl) ?_
  refine G1 (u := G2 c.Tiers) (Gn Gc rfl rfl rfl) ?_
  obtain ⟨v33, hv33, h⟩ := Gy h
  refine G1 (u := G2 v33) (A_sub hv33 rfl rfl rfl) ?_
  refine G1 (u := .agg [G2 y27, G2 0, G2 v33]) (Hn (cs := [G2 y27, G2 0, G2 v33]) [(0, 1), (1, 1), (2, 1)] [G2 0, G2 0, G2 0] [.int .i64 0, .int .i64 0, .int .i64 0] J7 Jj ⟨.inl rfl, .inl rfl, .inl rfl, trivial⟩ rfl rfl) ?_
  refine G1 (u := LS 3 ship_span.av [(ship_span.mk y27 0 v33)]) (H1 (xs := [.agg [G2 y27, G2 0, G2 v33]]) rfl ⟨rfl, rfl, trivial⟩ tf_slice_152 tf_zsize_154 rfl rfl rfl rfl) ?_
  obtain ⟨r34, hr34, h⟩ := Gg h
  refine G1 (u := BL r34) (A_callV1 (args := [LS 3 ship_span.av [(ship_span.mk y27 0 v33)]]) (caps := []) rfl rfl (M_ship_right_1_w [(ship_span.mk y27 0 v33)] r34 hr34) tf_call_71 ⟨rfl, rfl, trivial⟩ rfl) ?_
  refine G1 (u := BL (!r34)) (A_not (b := r34) rfl rfl) ?_
  refine G1 (u := BL (!r34)) (G5 rfl rfl) ?_
  refine Gj (u := G2 (i27 : Int)) [] rfl rfl rfl .scf trivial (fun hc => G5 rfl rfl) ?_
  refine Gj (u := BL (decide (0 < (i27 : Int)))) [(24, G2 (i27 : Int))] rfl rfl rfl .scf ⟨.all id, trivial⟩ (fun hc => Jy rfl rfl rfl) ?_
  refine Gj (u := BL (decide (0 < (i27 : Int)))) [(25, BL (decide (0 < (i27 : Int))))] rfl rfl rfl .scf ⟨.all id, trivial⟩ (fun hc => G5 rfl rfl) ?_
  refine Gj (u := G2 y27) [] rfl rfl rfl .optt trivial (fun hc => G5 rfl rfl) ?_
  refine Gj (u := .dptr [LS 1 G2 c.Plugs, G2 c.X, G2 c.Y, G2 c.Z]) [] rfl rfl rfl .optt trivial (fun hc => Gd tf_field_50_8 rfl rfl rfl) ?_
  refine Gj (u := LS 1 G2 c.Plugs) [(28, .dptr [LS 1 G2 c.Plugs, G2 c.X, G2 c.Y, G2 c.Z])] rfl rfl rfl .optt ⟨.all id, trivial⟩ (fun hc => Gn tf_scalar_48 rfl rfl rfl) ?_
  refine Gj (u := G2 (i27 : Int)) [] rfl rfl rfl .optt trivial (fun hc => G5 rfl rfl) ?_
  obtain ⟨v35, hv35, h⟩ := Gg h
  refine Gj (u := G2 v35) [(30, G2 (i27 : Int))] rfl rfl rfl .optt ⟨.all id, trivial⟩ (fun hc => A_sub (chk_some (bif_t hc hv35)) rfl rfl rfl) ?_
  obtain ⟨y36, hy36, h⟩ := Gg h
  refine Gj (u := .dptr [G2 y36]) [(29, LS 1 G2 c.Plugs), (31, G2 v35)] rfl rfl rfl .optt ⟨.all id, .all id, trivial⟩ (fun hc => (match Jh (bif_t hc hy36) with | ⟨_, hm_, hy_⟩ => Gw (f := G2) (xs := c.Plugs) (y := y36) rfl rfl rfl Gr hy_ hm_)) ?_
  refine Gj (u := G2 y36) [(32, .dptr [G2 y36])] rfl rfl rfl .optt ⟨.all id, trivial⟩ (fun hc => Gn Gc rfl rfl rfl) ?_
  refine Gj (u := BL (decide (y27 ≤ y36))) [(27, G2 y27), (33, G2 y36)] rfl rfl rfl .optt ⟨.all id, .all id, trivial⟩ (fun hc => A_leq rfl rfl rfl) ?_
  refine Gj (u := BL ((decide (0 < (i27 : Int))) && (decide (y27 ≤ y36)))) [(26, BL (decide (0 < (i27 : Int)))), (34, _)] rfl rfl rfl .scf ⟨.all id, .part, trivial⟩ (fun hc => Jc rfl rfl rfl rfl) ?_
  refine G1 (u := BL ((!r34) || ((decide (0 < (i27 : Int))) && (decide (y27 ≤ y36))))) (A_or rfl rfl rfl rfl) ?_
  refine G9 (hK32 _ _ ?_)
  refine Gm rfl (fun hb => ?_) (fun hb => ?_)
  ·
   replace h := bif_t hb h
   refine G6 fun K37 hK37 => G3 ?_
   refine G1 (u := BL false) (Ga rfl rfl) ?_
   refine G9 (hK37 _ _ ?_)
   refine Gt ?_
   exact ⟨[BL false], [], trivial, rfl, ⟨⟨_, rfl, .conv (.same rfl)⟩, trivial⟩, rfl, congrArg (fun r : Bool => (BL r : AV)) (Option.some.inj h)⟩
  ·
   replace h := bif_f hb h
   refine Gp ?_
   refine hK30 _ _ ?_
   refine G3 ?_
   refine G1 (u := G2 ((i27 + 1 : Nat) : Int)) (H7 (idx_succ hk27 hm8) rfl rfl rfl) ?_
   refine G1 (u := G2 ((i27 + 1 : Nat) : Int)) (G5 rfl rfl) ?_
   refine G9 ?_
   exact e27 _ _ (i27 + 1) () (app1 hn27 h) (by omega) ⟨(by repeat' constructor), trivial, rfl⟩
 ·
  have h := app1 hkx27 (Hd hi27 (H3 hb))
  refine H4 ?_
  refine hK3 _ _ ?_
  refine G6 fun K38 hK38 => G3 ?_
  refine G1 (u := .fn 71 []) (G5 rfl rfl) ?_
  refine G1 (u := .dptr (G8.cs c)) (Gd tf_field_50_0 rfl rfl rfl) ?_
  refine G1 (u := G2 c.Bay) (Gn Gc rfl rfl rfl) ?_
  refine G1 (u := .agg [G2 c.Bay, G2 0, G2 39]) (Hn (cs := [G2 c.Bay, G2 0, G2 39]) [(0, 1), (1, 1), (2, 1)] [G2 0, G2 0, G2 0] [.int .i64 0, .int .i64 0, .int .i64 0] J7 Jj ⟨.inl rfl, .inl rfl, .inl rfl, trivial⟩ rfl rfl) ?_
  refine G1 (u := .dptr [G2 c.Row, BL c.Deck, G2 c.Tiers, G2 c.Height, G2 c.Kilos20, G2 c.Kilos40, G2 c.Lash, LS 1 G2 c.Plugs, G2 c.X, G2 c.Y, G2 c.Z]) (Gd tf_field_50_1 rfl rfl rfl) ?_
  refine G1 (u := G2 c.Row) (Gn Gc rfl rfl rfl) ?_
  refine G1 (u := .agg [G2 c.Row, G2 0, G2 30]) (Hn (cs := [G2 c.Row, G2 0, G2 30]) [(0, 1), (1, 1), (2, 1)] [G2 0, G2 0, G2 0] [.int .i64 0, .int .i64 0, .int .i64 0] J7 Jj ⟨.inl rfl, .inl rfl, .inl rfl, trivial⟩ rfl rfl) ?_
  refine G1 (u := .dptr [G2 c.Tiers, G2 c.Height, G2 c.Kilos20, G2 c.Kilos40, G2 c.Lash, LS 1 G2 c.Plugs, G2 c.X, G2 c.Y, G2 c.Z]) (Gd tf_field_50_3 rfl rfl rfl) ?_
  refine G1 (u := G2 c.Tiers) (Gn Gc rfl rfl rfl) ?_
  refine G1 (u := .agg [G2 c.Tiers, G2 1, G2 10]) (Hn (cs := [G2 c.Tiers, G2 1, G2 10]) [(0, 1), (1, 1), (2, 1)] [G2 0, G2 0, G2 0] [.int .i64 0, .int .i64 0, .int .i64 0] J7 Jj ⟨.inl rfl, .inl rfl, .inl rfl, trivial⟩ rfl rfl) ?_
  refine G1 (u := .dptr [G2 c.Height, G2 c.Kilos20, G2 c.Kilos40, G2 c.Lash, LS 1 G2 c.Plugs, G2 c.X, G2 c.Y, G2 c.Z]) (Gd tf_field_50_4 rfl rfl rfl) ?_
  refine G1 (u := G2 c.Height) (Gn Gc rfl rfl rfl) ?_
  refine G1 (u := .agg [G2 c.Height, G2 0, G2 40000]) (Hn (cs := [G2 c.Height, G2 0, G2 40000]) [(0, 1), (1, 1), (2, 1)] [G2 0, G2 0, G2 0] [.int .i64 0, .int .i64 0, .int .i64 0] J7 Jj ⟨.inl rfl, .inl rfl, .inl rfl, trivial⟩ rfl rfl) ?_
  refine G1 (u := .dptr [G2 c.Kilos20, G2 c.Kilos40, G2 c.Lash, LS 1 G2 c.Plugs, G2 c.X, G2 c.Y, G2 c.Z]) (Gd tf_field_50_5 rfl rfl rfl) ?_
  refine G1 (u := G2 c.Kilos20) (Gn Gc rfl rfl rfl) ?_
  refine G1 (u := .agg [G2 c.Kilos20, G2 0, G2 500000000]) (Hn (cs := [G2 c.Kilos20, G2 0, G2 500000000]) [(0, 1), (1, 1), (2, 1)] [G2 0, G2 0, G2 0] [.int .i64 0, .int .i64 0, .int .i64 0] J7 Jj ⟨.inl rfl, .inl rfl, .inl rfl, trivial⟩ rfl rfl) ?_
  refine G1 (u := .dptr [G2 c.Kilos40, G2 c.Lash, LS 1 G2 c.Plugs, G2 c.X, G2 c.Y, G2 c.Z]) (Gd tf_field_50_6 rfl rfl rfl) ?_
  refine G1 (u := G2 c.Kilos40) (Gn Gc rfl rfl rfl) ?_
  refine G1 (u := .agg [G2 c.Kilos40, G2 0, G2 500000000]) (Hn (cs := [G2 c.Kilos40, G2 0, G2 500000000]) [(0, 1), (1, 1), (2, 1)] [G2 0, G2 0, G2 0] [.int .i64 0, .int .i64 0, .int .i64 0] J7 Jj ⟨.inl rfl, .inl rfl, .inl rfl, trivial⟩ rfl rfl) ?_
  refine G1 (u := .dptr [G2 c.Lash, LS 1 G2 c.Plugs, G2 c.X, G2 c.Y, G2 c.Z]) (Gd tf_field_50_7 rfl rfl rfl) ?_
  refine G1 (u := G2 c.Lash) (Gn Gc rfl rfl rfl) ?_
  refine G1 (u := .agg [G2 c.Lash, G2 0, G2 1000000000000]) (Hn (cs := [G2 c.Lash, G2 0, G2 1000000000000]) [(0, 1), (1, 1), (2, 1)] [G2 0, G2 0, G2 0] [.int .i64 0, .int .i64 0, .int .i64 0] J7 Jj ⟨.inl rfl, .inl rfl, .inl rfl, trivial⟩ rfl rfl) ?_
  refine G1 (u := .dptr [G2 c.X, G2 c.Y, G2 c.Z]) (Gd tf_field_50_9 rfl rfl rfl) ?_
  refine G1 (u := G2 c.X) (Gn Gc rfl rfl rfl) ?_
  refine G1 (u := .agg [G2 c.X, G2 (-500000), G2 500000]) (Hn (cs := [G2 c.X, G2 (-500000), G2 500000]) [(0, 1), (1, 1), (2, 1)] [G2 0, G2 0, G2 0] [.int .i64 0, .int .i64 0, .int .i64 0] J7 Jj ⟨.inl rfl, .inl rfl, .inl rfl, trivial⟩ rfl rfl) ?_
  refine G1 (u := .dptr [G2 c.Y, G2 c.Z]) (Gd tf_field_50_10 rfl rfl rfl) ?_
  refine G1 (u := G2 c.Y) (Gn Gc rfl rfl rfl) ?_
  refine G1 (u := .agg [G2 c.Y, G2 (-500000), G2 500000]) (Hn (cs := [G2 c.Y, G2 (-500000), G2 500000]) [(0, 1), (1, 1), (2, 1)] [G2 0, G2 0, G2 0] [.int .i64 0, .int .i64 0, .int .i64 0] J7 Jj ⟨.inl rfl, .inl rfl, .inl rfl, trivial⟩ rfl rfl) ?_
  refine G1 (u := .dptr [G2 c.Z]) (Gd tf_field_50_11 rfl rfl rfl) ?_
  refine G1 (u := G2 c.Z) (Gn Gc rfl rfl rfl) ?_
  refine G1 (u := .agg [G2 c.Z, G2 (-500000), G2 500000]) (Hn (cs := [G2 c.Z, G2 (-500000), G2 500000]) [(0, 1), (1, 1), (2, 1)] [G2 0, G2 0, G2 0] [.int .i64 0, .int .i64 0, .int .i64 0] J7 Jj ⟨.inl rfl, .inl rfl, .inl rfl, trivial⟩ rfl rfl) ?_
  refine G1 (u := LS 3 ship_span.av [(ship_span.mk c.Bay 0 39), (ship_span.mk c.Row 0 30), (ship_span.mk c.Tiers 1 10), (ship_span.mk c.Height 0 40000), (ship_span.mk c.Kilos20 0 500000000), (ship_span.mk c.Kilos40 0 500000000), (ship_span.mk c.Lash 0 1000000000000), (ship_span.mk c.X (-500000) 500000), (ship_span.mk c.Y (-500000) 500000), (ship_span.mk c.Z (-500000) 500000)]) (H1 (xs := [.agg [G2 c.Bay, G2 0, G2 39], .agg [G2 c.Row, G2 0, G2 30], .agg [G2 c.Tiers, G2 1, G2 10], .agg [G2 c.Height, G2 0, G2 40000], .agg [G2 c.Kilos20, G2 0, G2 500000000], .agg [G2 c.Kilos40, G2 0, G2 500000000], .agg [G2 c.Lash, G2 0, G2 1000000000000], .agg [G2 c.X, G2 (-500000), G2 500000], .agg [G2 c.Y, G2 (-500000), G2 500000], .agg [G2 c.Z, G2 (-500000), G2 500000]]) rfl ⟨rfl, rfl, rfl, rfl, rfl, rfl, rfl, rfl, rfl, rfl, rfl, rfl, rfl, rfl, rfl, rfl, rfl, rfl, rfl, rfl, trivial⟩ tf_slice_152 tf_zsize_154 rfl rfl rfl rfl) ?_
  obtain ⟨r39, hr39, h⟩ := Gg h
  refine G1 (u := BL r39) (A_callV1 (args := [LS 3 ship_span.av [(ship_span.mk c.Bay 0 39), (ship_span.mk c.Row 0 30), (ship_span.mk c.Tiers 1 10), (ship_span.mk c.Height 0 40000), (ship_span.mk c.Kilos20 0 500000000), (ship_span.mk c.Kilos40 0 500000000), (ship_span.mk c.Lash 0 1000000000000), (ship_span.mk c.X (-500000) 500000), (ship_span.mk c.Y (-500000) 500000), (ship_span.mk c.Z (-500000) 500000)]]) (caps := []) rfl rfl (M_ship_right_1_w [(ship_span.mk c.Bay 0 39), (ship_span.mk c.Row 0 30), (ship_span.mk c.Tiers 1 10), (ship_span.mk c.Height 0 40000), (ship_span.mk c.Kilos20 0 500000000), (ship_span.mk c.Kilos40 0 500000000), (ship_span.mk c.Lash 0 1000000000000), (ship_span.mk c.X (-500000) 500000), (ship_span.mk c.Y (-500000) 500000), (ship_span.mk c.Z (-500000) 500000)] r39 hr39) tf_call_71 ⟨rfl, rfl, trivial⟩ rfl) ?_
  refine G1 (u := BL r39) (Ga rfl rfl) ?_
  refine G9 (hK38 _ _ ?_)
  refine Gt ?_
  exact ⟨[BL r39], [], trivial, rfl, ⟨⟨_, rfl, .conv (.same rfl)⟩, trivial⟩, rfl, congrArg (fun r : Bool => (BL r : AV)) (Option.some.inj h)⟩

def M_ship_Right (s : Ship) (Rp : Bool → Prop) : Option Prop :=
 bif (((decide ((s.Columns.length : Int) < 1)) || (decide (200 < (s.Columns.length : Int)))) || (decide (40 < (s.Covers.length : Int)))) then
 (some (Rp false))
 else
 (each (fun y68 i68 (s68 : (AMap Arr3Int Int)) nx68 =>
   jp (fun kj74 =>
    bif y68.Deck then
    (kj74 1)
    else
    (kj74 0)) fun (j74 : Int) =>
   bnd (some (AMap.get s68 (Arr3Int.mk y68.Bay y68.Row j74) 0)) fun v77 =>
   chk (v77 + 1) fun v78 =>
   bnd (M_ship_right y68) fun r80 =>
   bif (!r80) then
   (some (Rp false))
   else
   (nx68 (AMap.put s68 (Arr3Int.mk y68.Bay y68.Row j74) v78)))
  (fun (s68 : (AMap Arr3Int Int)) =>
   each (fun y84 i84 (s84 : (AMap Arr3Int Int)) nx84 =>
    bif (((decide (y84.Bay < 0)) || (decide (40 ≤ y84.Bay))) || (decide ((y84.Rows.length : Int) = 0))) then
    (some (Rp false))
    else
    (each (fun y157 i157 (s157 : (AMap Arr3Int Int)) nx157 =>
      bnd (bif ((!((decide (y157 < 0)) || (decide (30 < y157)))) && (decide (0 < (i157 : Int)))) then chk ((i157 : Int) - 1) some else some 0) fun v164 =>
      bnd (bif ((!((decide (y157 < 0)) || (decide (30 < y157)))) && (decide (0 < (i157 : Int)))) then gidx y84.Rows v164 some else some default) fun y165 =>
      bif (((decide (y157 < 0)) || (decide (30 < y157))) || ((decide (0 < (i157 : Int))) && (decide (y157 ≤ y165)))) then
      (some (Rp false))
      else
      (bnd (some (AMap.get s157 (Arr3Int.mk y84.Bay y157 2) 0)) fun v167 =>
       chk (v167 + 1) fun v168 =>
       nx157 (AMap.put s157 (Arr3Int.mk y84.Bay y157 2) v168)))
     (fun (s157 : (AMap Arr3Int Int)) =>
      nx84 s157) y84.Rows 0 s84))
   (fun (s84 : (AMap Arr3Int Int)) =>
    eachM (fun (x176 : Arr3Int × Int) (s176 : Unit) nx176 =>
     bif decide (1 < x176.2) then
     (lft (some (Rp false)))
     else
     (nx176 ()))
    (fun (s176 : Unit) =>
     some (Rp true)) (AMap.l s84) ()) s.Covers 0 s68) s.Columns 0 (AMap.empty : AMap Arr3Int Int))
def D_ship_Right (s : Ship) : Option Bool :=
 bif (((decide ((s.Columns.length : Int) < 1)) || (decide (200 < (s.Columns.length : Int)))) || (decide (40 < (s.Covers.length : Int)))) then
 (some (id false))
 else
 (each (fun y68 i68 (s68 : (AMap Arr3Int Int)) nx68 =>
   jp (fun kj74 =>
    bif y68.Deck then
    (kj74 1)
    else
    (kj74 0)) fun (j74 : Int) =>
   bnd (some (AMap.get s68 (Arr3Int.mk y68.Bay y68.Row j74) 0)) fun v77 =>
   chk (v77 + 1) fun v78 =>
   bnd (M_ship_right y68) fun r80 =>
   bif (!r80) then
   (some (id false))
   else
   (nx68 (AMap.put s68 (Arr3Int.mk y68.Bay y68.Row j74) v78)))
  (fun (s68 : (AMap Arr3Int Int)) =>
   each (fun y84 i84 (s84 : (AMap Arr3Int Int)) nx84 =>
    bif (((decide (y84.Bay < 0)) || (decide (40 ≤ y84.Bay))) || (decide ((y84.Rows.length : Int) = 0))) then
    (some (id false))
    else
    (each (fun y157 i157 (s157 : (AMap Arr3Int Int)) nx157 =>
      bnd (bif ((!((decide (y157 < 0)) || (decide (30 < y157)))) && (decide (0 < (i157 : Int)))) then chk ((i157 : Int) - 1) some else some 0) fun v164 =>
      bnd (bif ((!((decide (y157 < 0)) || (decide (30 < y157)))) && (decide (0 < (i157 : Int)))) then gidx y84.Rows v164 some else some default) fun y165 =>
      bif (((decide (y157 < 0)) || (decide (30 < y157))) || ((decide (0 < (i157 : Int))) && (decide (y157 ≤ y165)))) then
      (some (id false))
      else
      (bnd (some (AMap.get s157 (Arr3Int.mk y84.Bay y157 2) 0)) fun v167 =>
       chk (v167 + 1) fun v168 =>
       nx157 (AMap.put s157 (Arr3Int.mk y84.Bay y157 2) v168)))
     (fun (s157 : (AMap Arr3Int Int)) =>
      nx84 s157) y84.Rows 0 s84))
   (fun (s84 : (AMap Arr3Int Int)) =>
    runM (fun (x176 : Arr3Int × Int) (s176 : Unit) nx176 =>
     bif decide (1 < x176.2) then
     (lft (some (id false)))
     else
     (nx176 ()))
    (fun (s176 : Unit) =>
     some (id true)) (AMap.l s84) ()) s.Covers 0 s68) s.Columns 0 (AMap.empty : AMap Arr3Int Int))
theorem M_ship_Right_w (s : Ship) (Rp : Bool → Prop) (p : Prop) (h : M_ship_Right s Rp = some p) (hp : p) : Pure Try.prog 32 [.agg (Ship.cs s)] (fun av => ∃ r, Rp r ∧ av = BL r) := by
 unfold M_ship_Right at h
 refine H0 [.tmp 2] Try.func32 rfl rfl ?_
 refine G6 fun K1 hK1 => G3 ?_
 refine G1 (u := .ptr 1096 0) (J2 (u := .agg (Ship.cs s)) (cs := (Ship.cs s)) 1096 rfl rfl rfl rfl rfl) ?_
 refine G1 (u := BL false) (Ga rfl rfl) ?_
 refine G9 (hK1 _ _ ?_)
 refine Gq [(1, .dptr (Ship.cs s))] [] 1096 rfl rfl rfl trivial rfl (by exact ⟨.ptr, trivial⟩) ?_
 refine G6 (fun K2 hK2 => ?_)
 refine G6 fun K3 hK3 => G3 ?_
 refine G1 (u := .dptr (Ship.cs s)) (Gd Hb rfl rfl rfl) ?_
 refine G1 (u := LS 12 G8.av s.Columns) (Gn Hm rfl rfl rfl) ?_
 refine H9 (f := G8.av) (xs := s.Columns) Ha rfl rfl (fun hm15 => ?_) rfl rfl rfl
 refine G1 (u := BL (decide ((s.Columns.length : Int) < 1))) (Hg rfl rfl rfl) ?_
 refine G1 (u := BL (decide ((s.Columns.length : Int) < 1))) (G5 rfl rfl) ?_
 refine Gj (u := .dptr (Ship.cs s)) [] rfl rfl rfl .scf trivial (fun hc => Gd Hb rfl rfl rfl) ?_
 refine Gj (u := LS 12 G8.av s.Columns) [(18, .dptr (Ship.cs s))] rfl rfl rfl .scf ⟨.all id, trivial⟩ (fun hc => Gn Hm rfl rfl rfl) ?_
 refine Gj (u := G2 (s.Columns.length : Int)) [(19, LS 12 G8.av s.Columns)] rfl rfl rfl .scf ⟨.all id, trivial⟩ (fun hc => Jz (f := G8.av) (xs := s.Columns) Ha rfl rfl) ?_
 refine Gj (u := BL (decide (200 < (s.Columns.length : Int)))) [(20, G2 (s.Columns.length : Int))] rfl rfl rfl .scf ⟨.all id, trivial⟩ (fun hc => Jy rfl rfl rfl) ?_
 refine G1 (u := BL ((decide ((s.Columns.length : Int) < 1)) || (decide (200 < (s.Columns.length : Int))))) (A_or rfl rfl rfl rfl) ?_
 refine G1 (u := BL ((decide ((s.Columns.length : Int) < 1)) || (decide (200 < (s.Columns.length : Int))))) (G5 rfl rfl) ?_
 refine Gj (u := .dptr [LS 2 Cover.av s.Covers, G2 s.Light.Kilos, G2 s.Light.X, G2 s.Light.Y, G2 s.Light.Z, LS 5 Row.av s.Rows, LS 5 Frame.av s.Frames, LS 6 Tank.av s.Tanks, G2 s.G4.Tolerance, G2 s.G4.Trim, G2 s.G4.List_, G2 s.G4.Stability]) [] rfl rfl rfl .scf trivial (fun hc => Gd tf_field_35_1 rfl rfl rfl) ?_
 refine Gj (u := LS 2 Cover.av s.Covers) [(24, .dptr [LS 2 Cover.av s.Covers, G2 s.Light.Kilos, G2 s.Light.X, G2 s.Light.Y, G2 s.Light.Z, LS 5 Row.av s.Rows, LS 5 Frame.av s.Frames, LS 6 Tank.av s.Tanks, G2 s.G4.Tolerance, G2 s.G4.Trim, G2 s.G4.List_, G2 s.G4.Stability])] rfl rfl rfl .scf ⟨.all id, trivial⟩ (fun hc => Gn tf_scalar_26 rfl rfl rfl) ?_
 refine Gj (u := G2 (s.Covers.length : Int)) [(25, LS 2 Cover.av s.Covers)] rfl rfl rfl .scf ⟨.all id, trivial⟩ (fun hc => Jz (f := Cover.av) (xs := s.Covers) tf_slice_26 rfl rfl) ?_
 refine Gj (u := BL (decide (40 < (s.Covers.length : Int)))) [(26, G2 (s.Covers.length : Int))] rfl rfl rfl .scf ⟨.all id, trivial⟩ (fun hc => Jy rfl rfl rfl) ?_
 refine G1 (u := BL (((decide ((s.Columns.length : Int) < 1)) || (decide (200 < (s.Columns.length : Int)))) || (decide (40 < (s.Covers.length : Int))))) (A_or rfl rfl rfl rfl) ?_
 refine G9 (hK3 _ _ ?_)
 refine Gm rfl (fun hb => ?_) (fun hb => ?_)
 ·
  replace h := bif_t hb h
  refine G6 fun K4 hK4 => G3 ?_
  refine G1 (u := BL false) (Ga rfl rfl) ?_
  refine G9 (hK4 _ _ ?_)
  refine Gt ?_
  exact ⟨[BL false], [], trivial, rfl, ⟨⟨_, rfl, .conv (.same rfl)⟩, trivial⟩, rfl, false, Eq.mpr (Option.some.inj h) hp, rfl⟩
 ·
  replace h := bif_f hb h
  refine Gp ?_
  refine hK2 _ _ ?_
  refine G6 fun K5 hK5 => G3 ?_
  refine G1 (u := .mp 1099) (A_makeMapM 1099 Arr3Int.kv G2 rfl rfl) ?_
  refine G1 (u := .mp 1099) (Ga rfl rfl) ?_
  refine G9 (hK5 _ _ ?_)
  refine G6 (fun K6 hK6 => ?_)
  refine G6 fun K7 hK7 => G3 ?_
  refine G1 (u := .dptr (Ship.cs s)) (Gd Hb rfl rfl rfl) ?_
  refine G1 (u := LS 12 G8.av s.Columns) (Gn Hm rfl rfl rfl) ?_
  refine H9 (f := G8.av) (xs := s.Columns) Ha rfl rfl (fun hm32 => ?_) rfl rfl rfl
  refine G1 (u := G2 0) (G5 rfl rfl) ?_
  refine G9 (hK7 _ _ ?_)
  refine Gk ?_
  obtain ⟨b68, kx68, hb68, hkx68, h⟩ := Hj h
  refine H2 (fun i68 (s68 : (AMap Arr3Int Int)) => each b68 kx68 (List.drop i68 s.Columns) i68 s68 = some p) (fun i68 s68 => [(1, .dptr (Ship.cs s)), (3, .mp 1099), (31, LS 12 G8.av s.Columns), (32, G2 (s.Columns.length : Int)), (33, G2 (i68 : Int))]) (fun i68 s68 => [(1099, MP 133 Arr3Int.kv G2 s68)]) (fun i68 => s.Columns.length - i68) 0 (AMap.empty : AMap Arr3Int Int) h ⟨(by repeat' constructor), ⟨⟨_, rfl, .map⟩, trivial⟩, rfl⟩ ?_
  clear h
  intro i68 s68 hi68 K68 e68
  refine G6 fun K69 hK69 => G3 ?_
  refine G1 (u := BL (decide ((i68 : Int) < (s.Columns.length : Int)))) (Hg rfl rfl rfl) ?_
  refine G9 (hK69 _ _ ?_)
  refine G6 (fun K70 hK70 => ?_)
  refine Gm rfl (fun hb => ?_) (fun hb => ?_)
  ·
   have hk68 := lt_len hb
   obtain ⟨y68, nx68, hy68, hn68, h⟩ := Hc hi68 hk68
   replace h := app4 hb68 h
   refine Gp ?_
   refine hK70 _ _ ?_
   refine G6 (fun K71 hK71 => ?_)
   refine Gk ?_
   refine G6 fun K72 hK72 => G3 ?_
   refine G1 (u := .dptr (G8.cs y68)) (Gw (f := G8.av) (xs := s.Columns) (y := y68) rfl rfl rfl Ha hy68 rfl) ?_
   refine G1 (u := .agg (G8.cs y68)) (Gf tf_agg_50 rfl rfl rfl) ?_
   refine G1 (u := .ptr 1097 0) (H8 1097 12 Q1 rfl rfl) ?_
   refine H6 (u := .junk) (Gz (u := .agg (G8.cs y68)) (ds := (G8.cs y68)) tf_size_50 rfl rfl rfl rfl rfl rfl rfl rfl) ?_
   refine G9 (hK72 _ _ ?_)
   refine Gq [(1, .dptr (Ship.cs s)), (3, .mp 1099), (5, .dptr (G8.cs y68)), (31, LS 12 G8.av s.Columns), (32, G2 (s.Columns.length : Int)), (33, G2 (i68 : Int))] [(1099, MP 133 Arr3Int.kv G2 s68)] 1097 rfl rfl rfl ⟨⟨_, rfl, .map⟩, trivial⟩ rfl (by repeat' (first | exact .ptr | constructor)) ?_
   refine G6 fun K73 hK73 => G3 ?_
   refine G1 (u := G2 0) (Ga rfl rfl) ?_
   refine G9 (hK73 _ _ ?_)
   obtain ⟨kj74, hkj74, h⟩ := Jf h
   refine Ht (fun j74 : Int => kj74 j74 = some p) (fun j74 => [(1, .dptr (Ship.cs s)), (3, .mp 1099), (5, .dptr (G8.cs y68)), (6, G2 j74), (31, LS 12 G8.av s.Columns), (32, G2 (s.Columns.length : Int)), (33, G2 (i68 : Int))]) (fun j74 => [(1099, MP 133 Arr3Int.kv G2 s68)]) (fun Kj74 ej74 => ?_) ?_
   ·
    refine G6 fun K75 hK75 => G3 ?_
    refine G1 (u := .dptr ((G8.cs y68).drop 2)) (Gd tf_field_50_2 rfl rfl rfl) ?_
    refine G1 (u := BL y68.Deck) (Gn Jk rfl rfl rfl) ?_
    refine G9 (hK75 _ _ ?_)
    refine Gm rfl (fun hb => ?_) (fun hb => ?_)
    ·
     replace h := bif_t hb h
     refine G3 ?_
     refine G1 (u := G2 1) (Ga rfl rfl) ?_
     refine G9 ?_
     exact ej74 _ _ 1 h ⟨(by repeat' constructor), ⟨⟨_, rfl, .map⟩, trivial⟩, rfl⟩
    ·
     replace h := bif_f hb h
     refine Gp ?_
     exact ej74 _ _ 0 h ⟨(by repeat' constructor), ⟨⟨_, rfl, .map⟩, trivial⟩, rfl⟩
   ·intro j74 h
    replace h := app1 hkj74 h
    refine G6 (fun K76 hK76 => ?_)
    refine J3 (l' := [(1, .dptr (Ship.cs s)), (3, .mp 1099), (5, .dptr (G8.cs y68)), (6, G2 j74), (31, LS 12 G8.av s.Columns), (32, G2 (s.Columns.length : Int)), (33, G2 (i68 : Int))]) (L' := [(1099, MP 133 Arr3Int.kv G2 s68)]) ⟨(by repeat' constructor), ⟨⟨_, rfl, .map⟩, trivial⟩, rfl⟩ ?_
    obtain ⟨v77, hv77, h⟩ := Gg h
    obtain ⟨v78, hv78, h⟩ := Gy h
    refine Hy [9, 11] [0, 0, 0, 0, 0, 0, 0, 0, 0, 0, 1, 0] [0, 0, 0, 0, 0, 0, 0, 1, 1, 0, 1, 0] [[(1099, MP 133 Arr3Int.kv G2 s68)], ((1099, MI 133 Arr3Int.kv G2 s68 (Arr3Int.mk y68.Bay y68.Row j74) 0) :: [(1099, MP 133 Arr3Int.kv G2 s68)]), ((1099, MP 133 Arr3Int.kv G2 (AMap.put s68 (Arr3Int.mk y68.Bay y68.Row j74) v78)) :: ((1099, MI 133 Arr3Int.kv G2 s68 (Arr3Int.mk y68.Bay y68.Row j74) 0) :: [(1099, MP 133 Arr3Int.kv G2 s68)]))] Hr (by kernel_rfl) rfl rfl ?_
    refine Ge (u := .mp 1099) rfl rfl ⟨Gi (G5 rfl rfl) rfl, trivial⟩ ?_
    refine Ge (u := .dptr (G8.cs y68)) rfl rfl ⟨Gi (Gd tf_field_50_0 rfl rfl rfl) rfl, trivial⟩ ?_
    refine Ge (u := G2 y68.Bay) rfl rfl ⟨Gi (Gn Gc rfl rfl rfl) rfl, trivial⟩ ?_
    refine Ge (u := .dptr ((G8.cs y68).drop 1)) rfl rfl ⟨Gi (Gd tf_field_50_1 rfl rfl rfl) rfl, trivial⟩ ?_
    refine Ge (u := G2 y68.Row) rfl rfl ⟨Gi (Gn Gc rfl rfl rfl) rfl, trivial⟩ ?_
    refine Ge (u := G2 j74) rfl rfl ⟨Gi (G5 rfl rfl) rfl, trivial⟩ ?_
    refine Ge (u := .agg [G2 y68.Bay, G2 y68.Row, G2 j74]) rfl rfl ⟨Gi (A_buildArr (cs := [G2 y68.Bay, G2 y68.Row, G2 j74]) [.int .i64 0, .int .i64 0, .int .i64 0] tf_arr_134 tf_zero_134 rfl rfl) rfl, trivial⟩ ?_
    refine Ge (u := G2 v77) rfl rfl ⟨Gi (((Option.some.inj hv77) ▸ A_lookupM0 (av := G2) (m := s68) (a := (Arr3Int.mk y68.Bay y68.Row j74)) 0 (.int .i64 0) rfl rfl rfl rfl tk_134 tf_map_133 tf_zv_3 rfl)) rfl, Gi (((Option.some.inj hv77) ▸ A_lookupMI (av := G2) (m := s68) (a := (Arr3Int.mk y68.Bay y68.Row j74)) 0 (.int .i64 0) rfl rfl rfl rfl tk_134 tf_map_133 tf_zv_3 rfl)) rfl, trivial⟩ ?_
    refine Ge (u := G2 v78) rfl rfl ⟨Gi (H7 hv78 rfl rfl rfl) rfl, Gi (H7 hv78 rfl rfl rfl) rfl, trivial⟩ ?_
    refine D_w (u := .tup [.junk, G2 (midx (AMap.l s68) (Arr3Int.mk y68.Bay y68.Row j74) : Int)]) rfl rfl rfl rfl (Gi (A_mapEntryM (m := s68) (a := (Arr3Int.mk y68.Bay y68.Row j74)) 0 (.int .i64 0) rfl rfl rfl rfl tk_134 tf_map_133 tf_zv_3 rfl) rfl) ?_
    refine Ge (u := G2 (midx (AMap.l s68) (Arr3Int.mk y68.Bay y68.Row j74) : Int)) rfl rfl ⟨Gi (Gx rfl rfl rfl) rfl, trivial⟩ ?_
    refine D_w0 (u := .junk) rfl rfl rfl rfl (Gi (A_entryStoreM (m := s68) (a := (Arr3Int.mk y68.Bay y68.Row j74)) (v := v78) 0 rfl rfl rfl rfl rfl rfl) rfl) ?_
    refine Q3 ?_
    refine hK76 _ _ ?_
    refine G6 fun K79 hK79 => G3 ?_
    refine G1 (u := .agg (G8.cs y68)) (Gf tf_agg_50 rfl rfl rfl) ?_
    obtain ⟨r80, hr80, h⟩ := Gg h
    refine G1 (u := BL r80) (Gu (args := [.agg (G8.cs y68)]) rfl (M_ship_right_w y68 r80 hr80) tf_call_55 ⟨rfl, rfl, trivial⟩) ?_
    refine G1 (u := BL (!r80)) (A_not (b := r80) rfl rfl) ?_
    refine G9 (hK79 _ _ ?_)
    refine Gm rfl (fun hb => ?_) (fun hb => ?_)
    ·
     replace h := bif_t hb h
     refine G6 fun K81 hK81 => G3 ?_
     refine G1 (u := BL false) (Ga rfl rfl) ?_
     refine G9 (hK81 _ _ ?_)
     refine Gt ?_
     exact ⟨[BL false], [], trivial, rfl, ⟨⟨_, rfl, .conv (.same rfl)⟩, trivial⟩, rfl, false, Eq.mpr (Option.some.inj h) hp, rfl⟩
    ·
     replace h := bif_f hb h
     refine Gp ?_
     refine hK71 _ _ ?_
     refine G3 ?_
     refine G1 (u := G2 ((i68 + 1 : Nat) : Int)) (H7 (idx_succ hk68 hm32) rfl rfl rfl) ?_
     refine G1 (u := G2 ((i68 + 1 : Nat) : Int)) (G5 rfl rfl) ?_
     refine G9 ?_
     exact e68 _ _ (i68 + 1) (AMap.put s68 (Arr3Int.mk y68.Bay y68.Row j74) v78) (app1 hn68 h) (by omega) ⟨(by repeat' constructor), ⟨⟨_, rfl, .map⟩, trivial⟩, rfl⟩
  ·
   have h := app1 hkx68 (Hd hi68 (H3 hb))
   refine H4 ?_
   refine hK6 _ _ ?_
   refine G6 (fun K82 hK82 => ?_)
   refine G6 fun K83 hK83 => G3 ?_
   refine G1 (u := .dptr [LS 2 Cover.av s.Covers, G2 s.Light.Kilos, G2 s.Light.X, G2 s.Light.Y, G2 s.Light.Z, LS 5 Row.av s.Rows, LS 5 Frame.av s.Frames, LS 6 Tank.av s.Tanks, G2 s.G4.Tolerance, G2 s.G4.Trim, G2 s.G4.List_, G2 s.G4.Stability]) (Gd tf_field_35_1 rfl rfl rfl) ?_
   refine G1 (u := LS 2 Cover.av s.Covers) (Gn tf_scalar_26 rfl rfl rfl) ?_
   refine H9 (f := Cover.av) (xs := s.Covers) tf_slice_26 rfl rfl (fun hm56 => ?_) rfl rfl rfl
   refine G1 (u := G2 0) (G5 rfl rfl) ?_
   refine G9 (hK83 _ _ ?_)
   refine Gk ?_
   obtain ⟨b84, kx84, hb84, hkx84, h⟩ := Hj h
   refine H2 (fun i84 (s84 : (AMap Arr3Int Int)) => each b84 kx84 (List.drop i84 s.Covers) i84 s84 = some p) (fun i84 s84 => [(3, .mp 1099), (55, LS 2 Cover.av s.Covers), (56, G2 (s.Covers.length : Int)), (57, G2 (i84 : Int))]) (fun i84 s84 => [(1099, MP 133 Arr3Int.kv G2 s84)]) (fun i84 => s.Covers.length - i84) 0 s68 h ⟨(by repeat' constructor), ⟨⟨_, rfl, .map⟩, trivial⟩, rfl⟩ ?_
   clear h
   intro i84 s84 hi84 K84 e84
   refine G6 fun K85 hK85 => G3 ?_
   refine G1 (u := BL (decide ((i84 : Int) < (s.Covers.length : Int)))) (Hg rfl rfl rfl) ?_
   refine G9 (hK85 _ _ ?_)
   refine G6 (fun K86 hK86 => ?_)
   refine Gm rfl (fun hb => ?_) (fun hb => ?_)
   ·
    have hk84 := lt_len hb
    obtain ⟨y84, nx84, hy84, hn84, h⟩ := Hc hi84 hk84
    replace h := app4 hb84 h
    refine Gp ?_
    refine hK86 _ _ ?_
    refine G6 (fun K87 hK87 => ?_)
    refine Gk ?_
    refine G6 fun K88 hK88 => G3 ?_
    refine G1 (u := .dptr [G2 y84.Bay, LS 1 G2 y84.Rows]) (Gw (f := Cover.av) (xs := s.Covers) (y := y84) rfl rfl rfl tf_slice_26 hy84 rfl) ?_
    refine G1 (u := .agg [G2 y84.Bay, LS 1 G2 y84.Rows]) (Gf tf_agg_65 rfl rfl rfl) ?_
    refine G1 (u := .ptr 1098 0) (H8 1098 2 tf_zsize_65 rfl rfl) ?_
    refine H6 (u := .junk) (Gz (u := .agg [G2 y84.Bay, LS 1 G2 y84.Rows]) (ds := [G2 y84.Bay, LS 1 G2 y84.Rows]) tf_size_65 rfl rfl rfl rfl rfl rfl rfl rfl) ?_
    refine G9 (hK88 _ _ ?_)
    refine Gq [(3, .mp 1099), (8, .dptr [G2 y84.Bay, LS 1 G2 y84.Rows]), (55, LS 2 Cover.av s.Covers), (56, G2 (s.Covers.length : Int)), (57, G2 (i84 : Int))] [(1099, MP 133 Arr3Int.kv G2 s84)] 1098 rfl rfl rfl ⟨⟨_, rfl, .map⟩, trivial⟩ rfl (by repeat' (first | exact .ptr | constructor)) ?_
    refine G6 (fun K89 hK89 => ?_)
    refine G6 fun K90 hK90 => G3 ?_
    refine G1 (u := .dptr [G2 y84.Bay, LS 1 G2 y84.Rows]) (Gd tf_field_65_0 rfl rfl rfl) ?_
    refine G1 (u := G2 y84.Bay) (Gn Gc rfl rfl rfl) ?_
    refine G1 (u := BL (decide (y84.Bay < 0))) (Hg rfl rfl rfl) ?_
    refine G1 (u := BL (decide (y84.Bay < 0))) (G5 rfl rfl) ?_
    refine Gj (u := .dptr [G2 y84.Bay, LS 1 G2 y84.Rows]) [] rfl rfl rfl .scf trivial (fun hc => Gd tf_field_65_0 rfl rfl rfl) ?_
    refine Gj (u := G2 y84.Bay) [(65, .dptr [G2 y84.Bay, LS 1 G2 y84.Rows])] rfl rfl rfl .scf ⟨.all id, trivial⟩ (fun hc => Gn Gc rfl rfl rfl) ?_
    refine Gj (u := BL (decide (40 ≤ y84.Bay))) [(66, G2 y84.Bay)] rfl rfl rfl .scf ⟨.all id, trivial⟩ (fun hc => A_geq rfl rfl rfl) ?_
    refine G1 (u := BL ((decide (y84.Bay < 0)) || (decide (40 ≤ y84.Bay)))) (A_or rfl rfl rfl rfl) ?_
    refine G1 (u := BL ((decide (y84.Bay < 0)) || (decide (40 ≤ y84.Bay)))) (G5 rfl rfl) ?_
    refine Gj (u := .dptr [LS 1 G2 y84.Rows]) [] rfl rfl rfl .scf trivial (fun hc => Gd tf_field_65_1 rfl rfl rfl) ?_
    refine Gj (u := LS 1 G2 y84.Rows) [(70, .dptr [LS 1 G2 y84.Rows])] rfl rfl rfl .scf ⟨.all id, trivial⟩ (fun hc => Gn tf_scalar_48 rfl rfl rfl) ?_
    refine Gj (u := G2 (y84.Rows.length : Int)) [(71, LS 1 G2 y84.Rows)] rfl rfl rfl .scf ⟨.all id, trivial⟩ (fun hc => Jz (f := G2) (xs := y84.Rows) Gr rfl rfl) ?_
    refine Gj (u := BL (decide ((y84.Rows.length : Int) = 0))) [(72, G2 (y84.Rows.length : Int))] rfl rfl rfl .scf ⟨.all id, trivial⟩ (fun hc => Jb rfl rfl rfl) ?_
    refine G1 (u := BL (((decide (y84.Bay < 0)) || (decide (40 ≤ y84.Bay))) || (decide ((y84.Rows.length : Int) = 0)))) (A_or rfl rfl rfl rfl) ?_
    refine G9 (hK90 _ _ ?_)
    refine Gm rfl (fun hb => ?_) (fun hb => ?_)
    ·
     replace h := bif_t hb h
     refine G6 fun K91 hK91 => G3 ?_
     refine G1 (u := BL false) (Ga rfl rfl) ?_
     refine G9 (hK91 _ _ ?_)
     refine Gt ?_
     exact ⟨[BL false], [], trivial, rfl, ⟨⟨_, rfl, .conv (.same rfl)⟩, trivial⟩, rfl, false, Eq.mpr (Option.some.inj h) hp, rfl⟩
    ·
     replace h := bif_f hb h
     refine Gp ?_
     refine hK89 _ _ ?_
     refine G6 fun K92 hK92 => G3 ?_
     refine G1 (u := .dptr [LS 1 G2 y84.Rows]) (Gd tf_field_65_1 rfl rfl rfl) ?_
     refine G1 (u := LS 1 G2 y84.Rows) (Gn tf_scalar_48 rfl rfl rfl) ?_
     refine H9 (f := G2) (xs := y84.Rows) Gr rfl rfl (fun hm77 => ?_) rfl rfl rfl
     refine G1 (u := G2 0) (G5 rfl rfl) ?_
     refine G9 (hK92 _ _ ?_)
     refine Gk ?_
     obtain ⟨b157, kx157, hb157, hkx157, h⟩ := Hj h
     refine H2 (fun i157 (s157 : (AMap Arr3Int Int)) => each b157 kx157 (List.drop i157 y84.Rows) i157 s157 = some p) (fun i157 s157 => [(3, .mp 1099), (8, .dptr [G2 y84.Bay, LS 1 G2 y84.Rows]), (55, LS 2 Cover.av s.Covers), (56, G2 (s.Covers.length : Int)), (57, G2 (i84 : Int)), (76, LS 1 G2 y84.Rows), (77, G2 (y84.Rows.length : Int)), (78, G2 (i157 : Int))]) (fun i157 s157 => [(1099, MP 133 Arr3Int.kv G2 s157)]) (fun i157 => y84.Rows.length - i157) 0 s84 h ⟨(by repeat' constructor), ⟨⟨_, rfl, .map⟩, trivial⟩, rfl⟩ ?_
     clear h
     intro i157 s157 hi157 K157 e157
     refine G6 fun K158 hK158 => G3 ?_
     refine G1 (u := BL (decide ((i157 : Int) < (y84.Rows.length : Int)))) (Hg rfl rfl rfl) ?_
     refine G9 (hK158 _ _ ?_)
     refine G6 (fun K159 hK159 => ?_)
     refine Gm rfl (fun hb => ?_) (fun hb => ?_)
     ·
      have hk157 := lt_len hb
      obtain ⟨y157, nx157, hy157, hn157, h⟩ := Hc hi157 hk157
      replace h := app4 hb157 h
      refine Gp ?_
      refine hK159 _ _ ?_
      refine G6 (fun K160 hK160 => ?_)
      refine Gk ?_
      refine G6 fun K161 hK161 => G3 ?_
      refine G1 (u := G2 (i157 : Int)) (G5 rfl rfl) ?_
      refine G1 (u := .dptr [G2 y157]) (Gw (f := G2) (xs := y84.Rows) (y := y157) rfl rfl rfl Gr hy157 rfl) ?_
      refine G1 (u := G2 y157) (Gn Gc rfl rfl rfl) ?_
      refine G1 (u := G2 (i157 : Int)) (Ga rfl rfl) ?_
      refine G1 (u := G2 y157) (Ga rfl rfl) ?_
      refine G9 (hK161 _ _ ?_)
      refine G6 (fun K162 hK162 => ?_)
      refine G6 fun K163 hK163 => G3 ?_
      refine G1 (u := G2 y157) (G5 rfl rfl) ?_
      refine G1 (u := BL (decide (y157 < 0))) (Hg rfl rfl rfl) ?_
      refine G1 (u := BL (decide (y157 < 0))) (G5 rfl rfl) ?_
      refine Gj (u := G2 y157) [] rfl rfl rfl .scf trivial (fun hc => G5 rfl rfl) ?_
      refine Gj (u := BL (decide (30 < y157))) [(86, G2 y157)] rfl rfl rfl .scf ⟨.all id, trivial⟩ (fun hc => Jy rfl rfl rfl) ?_
      refine G1 (u := BL ((decide (y157 < 0)) || (decide (30 < y157)))) (A_or rfl rfl rfl rfl) ?_
      refine G1 (u := BL ((decide (y157 < 0)) || (decide (30 < y157)))) (G5 rfl rfl) ?_
      refine Gj (u := G2 (i157 : Int)) [] rfl rfl rfl .scf trivial (fun hc => G5 rfl rfl) ?_
      refine Gj (u := BL (decide (0 < (i157 : Int)))) [(90, G2 (i157 : Int))] rfl rfl rfl .scf ⟨.all id, trivial⟩ (fun hc => Jy rfl rfl rfl) ?_
      refine Gj (u := BL (decide (0 < (i157 : Int)))) [(91, BL (decide (0 < (i157 : Int))))] rfl rfl rfl .scf ⟨.all id, trivial⟩ (fun hc => G5 rfl rfl) ?_
      refine Gj (u := G2 y157) [] rfl rfl rfl .optt trivial (fun hc => G5 rfl rfl) ?_
      refine Gj (u := .dptr [LS 1 G2 y84.Rows]) [] rfl rfl rfl .optt trivial (fun hc => Gd tf_field_65_1 rfl rfl rfl) ?_
      refine Gj (u := LS 1 G2 y84.Rows) [(94, .dptr [LS 1 G2 y84.Rows])] rfl rfl rfl .optt ⟨.all id, trivial⟩ (fun hc => Gn tf_scalar_48 rfl rfl rfl) ?_
      refine Gj (u := G2 (i157 : Int)) [] rfl rfl rfl .optt trivial (fun hc => G5 rfl rfl) ?_
      obtain ⟨v164, hv164, h⟩ := Gg h
      refine Gj (u := G2 v164) [(96, G2 (i157 : Int))] rfl rfl rfl .optt ⟨.all id, trivial⟩ (fun hc => A_sub (chk_some (bif_t hc hv164)) rfl rfl rfl) ?_
      obtain ⟨y165, hy165, h⟩ := Gg h
      refine Gj (u := .dptr [G2 y165]) [(95, LS 1 G2 y84.Rows), (97, G2 v164)] rfl rfl rfl .optt ⟨.all id, .all id, trivial⟩ (fun hc => (match Jh (bif_t hc hy165) with | ⟨_, hm_, hy_⟩ => Gw (f := G2) (xs := y84.Rows) (y := y165) rfl rfl rfl Gr hy_ hm_)) ?_
      refine Gj (u := G2 y165) [(98, .dptr [G2 y165])] rfl rfl rfl .optt ⟨.all id, trivial⟩ (fun hc => Gn Gc rfl rfl rfl) ?_
      refine Gj (u := BL (decide (y157 ≤ y165))) [(93, G2 y157), (99, G2 y165)] rfl rfl rfl .optt ⟨.all id, .all id, trivial⟩ (fun hc => A_leq rfl rfl rfl) ?_
      refine Gj (u := BL ((decide (0 < (i157 : Int))) && (decide (y157 ≤ y165)))) [(92, BL (decide (0 < (i157 : Int)))), (100, _)] rfl rfl rfl .scf ⟨.all id, .part, trivial⟩ (fun hc => Jc rfl rfl rfl rfl) ?_
      refine G1 (u := BL (((decide (y157 < 0)) || (decide (30 < y157))) || ((decide (0 < (i157 : Int))) && (decide (y157 ≤ y165))))) (A_or rfl rfl rfl rfl) ?_
      refine G9 (hK163 _ _ ?_)
      refine Gm rfl (fun hb => ?_) (fun hb => ?_)
      ·
       replace h := bif_t hb h
       refine G6 fun K166 hK166 => G3 ?_
       refine G1 (u := BL false) (Ga rfl rfl) ?_
       refine G9 (hK166 _ _ ?_)
       refine Gt ?_
       exact ⟨[BL false], [], trivial, rfl, ⟨⟨_, rfl, .conv (.same rfl)⟩, trivial⟩, rfl, false, Eq.mpr (Option.some.inj h) hp, rfl⟩
      ·
       replace h := bif_f hb h
       refine Gp ?_
       refine hK162 _ _ ?_
       refine J3 (l' := [(3, .mp 1099), (8, .dptr [G2 y84.Bay, LS 1 G2 y84.Rows]), (10, G2 y157), (55, LS 2 Cover.av s.Covers), (56, G2 (s.Covers.length : Int)), (57, G2 (i84 : Int)), (76, LS 1 G2 y84.Rows), (77, G2 (y84.Rows.length : Int)), (78, G2 (i157 : Int))]) (L' := [(1099, MP 133 Arr3Int.kv G2 s157)]) ⟨(by repeat' constructor), ⟨⟨_, rfl, .map⟩, trivial⟩, rfl⟩ ?_
       obtain ⟨v167, hv167, h⟩ := Gg h
       obtain ⟨v168, hv168, h⟩ := Gy h
       refine Hy [7, 9] [0, 0, 0, 0, 0, 0, 0, 0, 1, 0] [0, 0, 0, 0, 0, 1, 1, 0, 1, 0] [[(1099, MP 133 Arr3Int.kv G2 s157)], ((1099, MI 133 Arr3Int.kv G2 s157 (Arr3Int.mk y84.Bay y157 2) 0) :: [(1099, MP 133 Arr3Int.kv G2 s157)]), ((1099, MP 133 Arr3Int.kv G2 (AMap.put s157 (Arr3Int.mk y84.Bay y157 2) v168)) :: ((1099, MI 133 Arr3Int.kv G2 s157 (Arr3Int.mk y84.Bay y157 2) 0) :: [(1099, MP 133 Arr3Int.kv G2 s157)]))] Hr (by kernel_rfl) rfl rfl ?_
       refine Ge (u := .mp 1099) rfl rfl ⟨Gi (G5 rfl rfl) rfl, trivial⟩ ?_
       refine Ge (u := .dptr [G2 y84.Bay, LS 1 G2 y84.Rows]) rfl rfl ⟨Gi (Gd tf_field_65_0 rfl rfl rfl) rfl, trivial⟩ ?_
       refine Ge (u := G2 y84.Bay) rfl rfl ⟨Gi (Gn Gc rfl rfl rfl) rfl, trivial⟩ ?_
       refine Ge (u := G2 y157) rfl rfl ⟨Gi (G5 rfl rfl) rfl, trivial⟩ ?_
       refine Ge (u := .agg [G2 y84.Bay, G2 y157, G2 2]) rfl rfl ⟨Gi (A_buildArr (cs := [G2 y84.Bay, G2 y157, G2 2]) [.int .i64 0, .int .i64 0, .int .i64 0] tf_arr_134 tf_zero_134 rfl rfl) rfl, trivial⟩ ?_
       refine Ge (u := G2 v167) rfl rfl ⟨Gi (((Option.some.inj hv167) ▸ A_lookupM0 (av := G2) (m := s157) (a := (Arr3Int.mk y84.Bay y157 2)) 0 (.int .i64 0) rfl rfl rfl rfl tk_134 tf_map_133 tf_zv_3 rfl)) rfl, Gi (((Option.some.inj hv167) ▸ A_lookupMI (av := G2) (m := s157) (a := (Arr3Int.mk y84.Bay y157 2)) 0 (.int .i64 0) rfl rfl rfl rfl tk_134 tf_map_133 tf_zv_3 rfl)) rfl, trivial⟩ ?_
       refine Ge (u := G2 v168) rfl rfl ⟨Gi (H7 hv168 rfl rfl rfl) rfl, Gi (H7 hv168 rfl rfl rfl) rfl, trivial⟩ ?_
       refine D_w (u := .tup [.junk, G2 (midx (AMap.l s157) (Arr3Int.mk y84.Bay y157 2) : Int)]) rfl rfl rfl rfl (Gi (A_mapEntryM (m := s157) (a := (Arr3Int.mk y84.Bay y157 2)) 0 (.int .i64 0) rfl rfl rfl rfl tk_134 tf_map_133 tf_zv_3 rfl) rfl) ?_
       refine Ge (u := G2 (midx (AMap.l s157) (Arr3Int.mk y84.Bay y157 2) : Int)) rfl rfl ⟨Gi (Gx rfl rfl rfl) rfl, trivial⟩ ?_
       refine D_w0 (u := .junk) rfl rfl rfl rfl (Gi (A_entryStoreM (m := s157) (a := (Arr3Int.mk y84.Bay y157 2)) (v := v168) 0 rfl rfl rfl rfl rfl rfl) rfl) ?_
       refine Q3 ?_
       refine hK160 _ _ ?_
       refine G3 ?_
       refine G1 (u := G2 ((i157 + 1 : Nat) : Int)) (H7 (idx_succ hk157 hm77) rfl rfl rfl) ?_
       refine G1 (u := G2 ((i157 + 1 : Nat) : Int)) (G5 rfl rfl) ?_
       refine G9 ?_
       exact e157 _ _ (i157 + 1) (AMap.put s157 (Arr3Int.mk y84.Bay y157 2) v168) (app1 hn157 h) (by omega) ⟨(by repeat' constructor), ⟨⟨_, rfl, .map⟩, trivial⟩, rfl⟩
     ·
      have h := app1 hkx157 (Hd hi157 (H3 hb))
      refine H4 ?_
      refine hK87 _ _ ?_
      refine G3 ?_
      refine G1 (u := G2 ((i84 + 1 : Nat) : Int)) (H7 (idx_succ hk84 hm56) rfl rfl rfl) ?_
      refine G1 (u := G2 ((i84 + 1 : Nat) : Int)) (G5 rfl rfl) ?_
      refine G9 ?_
      exact e84 _ _ (i84 + 1) s157 (app1 hn84 h) (by omega) ⟨(by repeat' constructor), ⟨⟨_, rfl, .map⟩, trivial⟩, rfl⟩
   ·
    have h := app1 hkx84 (Hd hi84 (H3 hb))
    refine H4 ?_
    refine hK82 _ _ ?_
    refine G6 (fun K169 hK169 => ?_)
    refine G6 fun K170 hK170 => G3 ?_
    refine G1 (u := .mp 1099) (G5 rfl rfl) ?_
    refine G1 (u := .it 1100) (A_rangeM 1100 (m := s84) rfl rfl rfl rfl tf_map_133) ?_
    refine G9 (hK170 _ _ ?_)
    refine Gk ?_
    obtain ⟨b176, kx176, hb176, hkx176, h⟩ := eachM_in h
    refine JC_loopM (AMap.size s84) (fun i176 (s176 : Unit) => MInv b176 kx176 (AMap.l s84) i176 s176) (fun i176 s176 => [(115, .it 1100)]) (fun i176 s176 => [(1099, MP 133 Arr3Int.kv G2 s84), (1100, .iter 1099 (AMap.size s84) i176)]) () (MInv.start h hp) ⟨⟨.same rfl, trivial⟩, ⟨⟨_, rfl, .map⟩, ⟨_, rfl, .iter rfl⟩, trivial⟩, rfl⟩ ?_
    clear h hp
    intro i176 s176 hi176 K176 e176
    refine G6 fun K177 hK177 => G3 ?_
    refine JL_step rfl rfl rfl (A_nextM (m := s84) rfl rfl rfl rfl) ?_
    intro u_ L_ hn_
    rcases hn_ with ⟨q176, x176, he176, hs176, rfl, rfl⟩ | ⟨ha176, rfl, rfl⟩
    ·
     obtain ⟨o176, h, ho1_176, ho2_176⟩ := hi176.step he176 hs176
     replace h := app3 hb176 h
     refine G1 (u := BL true) (Gx rfl rfl rfl) ?_
     refine G9 (hK177 _ _ ?_)
     refine G6 (fun K178 hK178 => ?_)
     refine JC_condT rfl ?_
     refine Gp ?_
     refine hK178 _ _ ?_
     refine Gk ?_
     refine G6 fun K179 hK179 => G3 ?_
     refine G1 (u := .tup [.agg (Arr3Int.cs x176.1), G2 x176.2]) (A_entryM (kv := Arr3Int.kv) (av := G2) (m := s84) (q := q176) (seen := i176) (e := x176) rfl rfl rfl rfl he176) ?_
     refine G1 (u := G2 x176.2) (Gx rfl rfl rfl) ?_
     refine G1 (u := G2 x176.2) (Ga rfl rfl) ?_
     refine G9 (hK179 _ _ ?_)
     refine G6 fun K180 hK180 => G3 ?_
     refine G1 (u := G2 x176.2) (G5 rfl rfl) ?_
     refine G1 (u := BL (decide (1 < x176.2))) (Jy rfl rfl rfl) ?_
     refine G9 (hK180 _ _ ?_)
     refine Gm rfl (fun hb => ?_) (fun hb => ?_)
     ·
      replace h := bif_t hb h
      refine G6 fun K181 hK181 => G3 ?_
      refine G1 (u := BL false) (Ga rfl rfl) ?_
      refine G9 (hK181 _ _ ?_)
      refine Gt ?_
      obtain ⟨y_, hy_, hl_⟩ := lft_out h
      exact ⟨[BL false], [], trivial, rfl, ⟨⟨_, rfl, .conv (.same rfl)⟩, trivial⟩, rfl, false, Eq.mpr (Option.some.inj hl_) (ho1_176 y_ hy_), rfl⟩
     ·
      replace h := bif_f hb h
      refine Gp ?_
      exact e176 _ _ (i176 ++ [q176]) () (ho2_176 _ (Option.some.inj h).symm) (unseen_lt (List.getElem?_eq_some_iff.1 he176).1 hs176) ⟨⟨.same rfl, trivial⟩, ⟨⟨_, rfl, .map⟩, ⟨_, rfl, .iter rfl⟩, trivial⟩, rfl⟩
    ·
     obtain ⟨p_, h, hp⟩ := hi176.done ha176
     replace h := app1 hkx176 h
     refine G1 (u := BL false) (Gx rfl rfl rfl) ?_
     refine G9 (hK177 _ _ ?_)
     refine G6 (fun K182 hK182 => ?_)
     refine JC_condF rfl ?_
     refine H4 ?_
     refine hK169 _ _ ?_
     refine G6 fun K183 hK183 => G3 ?_
     refine G1 (u := BL true) (Ga rfl rfl) ?_
     refine G9 (hK183 _ _ ?_)
     refine Gt ?_
     exact ⟨[BL true], [], trivial, rfl, ⟨⟨_, rfl, .conv (.same rfl)⟩, trivial⟩, rfl, true, Eq.mpr (Option.some.inj h) hp, rfl⟩
theorem M_ship_Right_s (S_ : (Ship) → Option Bool) (hS_ : ∀ s r, S_ s = some r → ∃ p : Prop, M_ship_Right s (fun r_ => r_ = r) = some p ∧ p) (s : Ship) (r : Bool) (h : S_ s = some r) : Pure Try.prog 32 [.agg (Ship.cs s)] (· = BL r) := by
 obtain ⟨p, h1, h2⟩ := hS_ s r h
 exact (M_ship_Right_w s _ p h1 h2).monoP (fun av hh => by obtain ⟨r_, rfl, ha⟩ := hh; exact ha)

def M_slot_halves (size : Int) : Option (List Int) :=
 bif decide (size = 40) then
 (some [0])
 else
 (bif decide (size = 20) then
  (some [1, 2])
  else
  (some []))
theorem M_slot_halves_w (size : Int) (r : (List Int)) (h : M_slot_halves size = some r) : Pure Try.prog 65 [U8 size] (· = LS 1 U8 r) := by
 unfold M_slot_halves at h
 refine H0 [.tmp 2] Try.func65 rfl rfl ?_
 refine G6 fun K1 hK1 => G3 ?_
 refine G1 (u := LS 1 U8 ([] : List Int)) (J4 1 rfl rfl) ?_
 refine G9 (hK1 _ _ ?_)
 refine G6 (fun K2 hK2 => ?_)
 refine G6 fun K3 hK3 => G3 ?_
 refine G1 (u := U8 size) (G5 rfl rfl) ?_
 refine G9 (hK3 _ _ ?_)
 refine Gk ?_
 refine G6 fun K4 hK4 => G3 ?_
 refine G1 (u := BL (decide (size = 40))) (Jb rfl rfl rfl) ?_
 refine G1 (u := BL (decide (size = 40))) (Ga rfl rfl) ?_
 refine G9 (hK4 _ _ ?_)
 refine Gm rfl (fun hb => ?_) (fun hb => ?_)
 ·
  replace h := bif_t hb h
  refine G6 fun K5 hK5 => G3 ?_
  refine G1 (u := LS 1 U8 [0]) (H1 (xs := [U8 0]) rfl ⟨rfl, rfl, trivial⟩ tf_slice_145 tf_zsize_5 rfl rfl rfl rfl) ?_
  refine G1 (u := LS 1 U8 [0]) (Ga rfl rfl) ?_
  refine G9 (hK5 _ _ ?_)
  refine Gt ?_
  exact ⟨[LS 1 U8 [0]], [], trivial, rfl, ⟨⟨_, rfl, .conv (.same rfl)⟩, trivial⟩, rfl, congrArg (fun r : (List Int) => (LS 1 U8 r : AV)) (Option.some.inj h)⟩
 ·
  replace h := bif_f hb h
  refine G6 fun K6 hK6 => G3 ?_
  refine G1 (u := BL (decide (size = 20))) (Jb rfl rfl rfl) ?_
  refine G1 (u := BL (decide (size = 20))) (Ga rfl rfl) ?_
  refine G9 (hK6 _ _ ?_)
  refine Gm rfl (fun hb => ?_) (fun hb => ?_)
  ·
   replace h := bif_t hb h
   refine G6 fun K7 hK7 => G3 ?_
   refine G1 (u := LS 1 U8 [1, 2]) (H1 (xs := [U8 1, U8 2]) rfl ⟨rfl, rfl, rfl, rfl, trivial⟩ tf_slice_145 tf_zsize_5 rfl rfl rfl rfl) ?_
   refine G1 (u := LS 1 U8 [1, 2]) (Ga rfl rfl) ?_
   refine G9 (hK7 _ _ ?_)
   refine Gt ?_
   exact ⟨[LS 1 U8 [1, 2]], [], trivial, rfl, ⟨⟨_, rfl, .conv (.same rfl)⟩, trivial⟩, rfl, congrArg (fun r : (List Int) => (LS 1 U8 r : AV)) (Option.some.inj h)⟩
  ·
   replace h := bif_f hb h
   refine Gp ?_
   refine hK2 _ _ ?_
   refine G6 fun K8 hK8 => G3 ?_
   refine G1 (u := LS 1 U8 ([] : List Int)) (J4 1 rfl rfl) ?_
   refine G9 (hK8 _ _ ?_)
   refine Gt ?_
   exact ⟨[LS 1 U8 ([] : List Int)], [], trivial, rfl, ⟨⟨_, rfl, .conv (.same rfl)⟩, trivial⟩, rfl, congrArg (fun r : (List Int) => (LS 1 U8 r : AV)) (Option.some.inj h)⟩

def M_slot_slots_1 (p1 : Ship) (p2 : Int) (ys_ : List Slot) : Option Unit :=
 each (fun y2 i2 (s2 : Nat) nx2 =>
  need (decide ((max y2.Tiers 0) ≤ 9223372036854775807)) <|
  upto (fun i8 (s8 : Nat) nx8 =>
   bnd (M_slot_halves p2) fun r14 =>
   each (fun y29 i29 (s29 : Nat) nx29 =>
    need (decide (ys_[s29]? = some (Slot.mk (i2 : Int) (i8 : Int) y29))) <|
    nx29 (s29 + 1))
   (fun (s29 : Nat) =>
    nx8 s29) r14 0 s8)
  (fun (s8 : Nat) =>
   nx2 s8) (max y2.Tiers 0).toNat 0 s2)
 (fun (s2 : Nat) =>
  need (decide (s2 = ys_.length)) (some ())) p1.Columns 0 0
theorem M_slot_slots_1_w (p1 : Ship) (p2 : Int) (ys_ : List Slot) (q_ : Unit) (h : M_slot_slots_1 p1 p2 ys_ = some q_) : Iter Try.prog 70 [.dptr (Ship.cs p1), .dptr [U8 p2]] (ys_.map (fun y : Slot => [.agg [G2 y.G8, G2 y.Tier, U8 y.Half]])) := by
 unfold M_slot_slots_1 at h
 refine Iter_of Try.func70 rfl rfl ?_
 intro E hE hys
 refine JI_seq (fun K1 hK1 => ?_)
 refine JI_region ?_
 refine Hz (u := .dptr (Ship.cs p1)) hE (Gd Hb rfl rfl rfl) ?_ rfl rfl rfl rfl
 refine Hz (u := LS 12 G8.av p1.Columns) hE (Gn Hm rfl rfl rfl) ?_ rfl rfl rfl rfl
 refine JIL_lenM hE (f := G8.av) (xs := p1.Columns) Ha rfl rfl (fun hm11 => ?_) rfl rfl rfl
 refine Hz (u := G2 0) hE (G5 rfl rfl) ?_ rfl rfl rfl rfl
 refine JIL_nil ?_
 refine hK1 _ _ _ ?_
 refine JI_block ?_
 obtain ⟨b2, kx2, hb2, hkx2, h⟩ := Hj h
 refine JI_loop2 (fun i2 (s2 : Nat) => each b2 kx2 (List.drop i2 p1.Columns) i2 s2 = some q_) (fun i2 s2 => [(0, .sc (.func (.yield E.lp) #[] #[])), (2, .dptr [U8 p2]), (10, LS 12 G8.av p1.Columns), (11, G2 (p1.Columns.length : Int)), (12, G2 (i2 : Int))]) (fun i2 s2 => []) (fun i2 s2 => s2) (fun i2 => p1.Columns.length - i2) 0 0 h ⟨(by repeat' constructor), trivial, rfl⟩ rfl ?_
 clear h
 intro i2 s2 hi2 K2 e2
 refine JI_seq (fun K3 hK3 => ?_)
 refine JI_region ?_
 refine Hz (u := BL (decide ((i2 : Int) < (p1.Columns.length : Int)))) hE (Hg rfl rfl rfl) ?_ rfl rfl rfl rfl
 refine JIL_nil ?_
 refine hK3 _ _ _ ?_
 refine JI_seq (fun K4 hK4 => ?_)
 refine JI_cond rfl (fun hb => ?_) (fun hb => ?_)
 ·
  have hk2 := lt_len hb
  obtain ⟨y2, nx2, hy2, hn2, h⟩ := Hc hi2 hk2
  replace h := app4 hb2 h
  refine JI_skip ?_
  refine hK4 _ _ _ ?_
  refine JI_seq (fun K5 hK5 => ?_)
  refine JI_block ?_
  refine JI_seq (fun K6 hK6 => ?_)
  refine JI_region ?_
  refine Hz (u := G2 (i2 : Int)) hE (G5 rfl rfl) ?_ rfl rfl rfl rfl
  refine Hz (u := .dptr (G8.cs y2)) hE (Gw (f := G8.av) (xs := p1.Columns) (y := y2) rfl rfl rfl Ha hy2 rfl) ?_ rfl rfl rfl rfl
  refine Hz (u := .agg (G8.cs y2)) hE (Gf tf_agg_50 rfl rfl rfl) ?_ rfl rfl rfl rfl
  refine Hz (u := .ptr 1134 0) hE (H8 1134 12 Q1 rfl rfl) ?_ rfl rfl rfl rfl
  refine Hz (u := G2 (i2 : Int)) hE (Ga rfl rfl) ?_ rfl rfl rfl rfl
  refine JIL_go0 (u := .junk) hE (Gz (u := .agg (G8.cs y2)) (ds := (G8.cs y2)) tf_size_50 rfl rfl rfl rfl rfl rfl rfl rfl) ?_ rfl rfl rfl
  refine JIL_nil ?_
  refine hK6 _ _ _ ?_
  refine JI_seq (fun K7 hK7 => ?_)
  refine JI_region ?_
  refine Hz (u := .ptr 1134 3) hE (Hi tf_field_50_3 rfl rfl) ?_ rfl rfl rfl rfl
  refine Hz (u := G2 y2.Tiers) hE (J5 Gc rfl rfl rfl rfl) ?_ rfl rfl rfl rfl
  refine Hz (u := G2 (max y2.Tiers 0)) hE (A_max rfl rfl rfl) ?_ rfl rfl rfl rfl
  refine Hz (u := G2 0) hE (G5 rfl rfl) ?_ rfl rfl rfl rfl
  refine JIL_nil ?_
  refine hK7 _ _ _ ?_
  refine JI_block ?_
  obtain ⟨hx8, h⟩ := He h
  obtain ⟨b8, kx8, hb8, hkx8, h⟩ := upto_in h
  refine JI_loop2 (fun i8 (s8 : Nat) => upto b8 kx8 ((max y2.Tiers 0).toNat - i8) i8 s8 = some q_) (fun i8 s8 => [(0, .sc (.func (.yield E.lp) #[] #[])), (2, .dptr [U8 p2]), (4, G2 (i2 : Int)), (10, LS 12 G8.av p1.Columns), (11, G2 (p1.Columns.length : Int)), (12, G2 (i2 : Int)), (19, G2 (max y2.Tiers 0)), (20, G2 (i8 : Int))]) (fun i8 s8 => [(1134, .box 50 (G8.cs y2))]) (fun i8 s8 => s8) (fun i8 => (max y2.Tiers 0).toNat - i8) 0 s2 h ⟨(by repeat' constructor), ⟨⟨_, rfl, .boxL rfl (by repeat' constructor)⟩, trivial⟩, rfl⟩ rfl ?_
  clear h
  intro i8 s8 hi8 K8 e8
  refine JI_seq (fun K9 hK9 => ?_)
  refine JI_region ?_
  refine Hz (u := BL (decide ((i8 : Int) < (max y2.Tiers 0)))) hE (Hg rfl rfl rfl) ?_ rfl rfl rfl rfl
  refine JIL_nil ?_
  refine hK9 _ _ _ ?_
  refine JI_seq (fun K10 hK10 => ?_)
  refine JI_cond rfl (fun hb => ?_) (fun hb => ?_)
  ·
   have hk8 := lt_toNat hb
   obtain ⟨nx8, hn8, h⟩ := upto_out hi8 hk8
   replace h := app3 hb8 h
   refine JI_skip ?_
   refine hK10 _ _ _ ?_
   refine JI_seq (fun K11 hK11 => ?_)
   refine JI_block ?_
   refine JI_seq (fun K12 hK12 => ?_)
   refine JI_region ?_
   refine Hz (u := G2 (i8 : Int)) hE (G5 rfl rfl) ?_ rfl rfl rfl rfl
   refine Hz (u := G2 (i8 : Int)) hE (Ga rfl rfl) ?_ rfl rfl rfl rfl
   refine JIL_nil ?_
   refine hK12 _ _ _ ?_
   refine JI_seq (fun K13 hK13 => ?_)
   refine JI_region ?_
   refine Hz (u := U8 p2) hE (Gn Hk rfl rfl rfl) ?_ rfl rfl rfl rfl
   obtain ⟨r14, hr14, h⟩ := Gg h
   refine Hz (u := LS 1 U8 r14) hE (Gu (args := [U8 p2]) rfl (M_slot_halves_w p2 r14 hr14) tf_call_65 ⟨rfl, rfl, trivial⟩) ?_ rfl rfl rfl rfl
   refine JIL_lenM hE (f := U8) (xs := r14) tf_slice_145 rfl rfl (fun hm25 => ?_) rfl rfl rfl
   refine Hz (u := G2 0) hE (G5 rfl rfl) ?_ rfl rfl rfl rfl
   refine JIL_nil ?_
   refine hK13 _ _ _ ?_
   refine JI_block ?_
   obtain ⟨b29, kx29, hb29, hkx29, h⟩ := Hj h
   refine JI_loop2 (fun i29 (s29 : Nat) => each b29 kx29 (List.drop i29 r14) i29 s29 = some q_) (fun i29 s29 => [(0, .sc (.func (.yield E.lp) #[] #[])), (2, .dptr [U8 p2]), (4, G2 (i2 : Int)), (6, G2 (i8 : Int)), (10, LS 12 G8.av p1.Columns), (11, G2 (p1.Columns.length : Int)), (12, G2 (i2 : Int)), (19, G2 (max y2.Tiers 0)), (20, G2 (i8 : Int)), (24, LS 1 U8 r14), (25, G2 (r14.length : Int)), (26, G2 (i29 : Int))]) (fun i29 s29 => [(1134, .box 50 (G8.cs y2))]) (fun i29 s29 => s29) (fun i29 => r14.length - i29) 0 s8 h ⟨(by repeat' constructor), ⟨⟨_, rfl, .boxL rfl (by repeat' constructor)⟩, trivial⟩, rfl⟩ rfl ?_
   clear h
   intro i29 s29 hi29 K29 e29
   refine JI_seq (fun K30 hK30 => ?_)
   refine JI_region ?_
   refine Hz (u := BL (decide ((i29 : Int) < (r14.length : Int)))) hE (Hg rfl rfl rfl) ?_ rfl rfl rfl rfl
   refine JIL_nil ?_
   refine hK30 _ _ _ ?_
   refine JI_seq (fun K31 hK31 => ?_)
   refine JI_cond rfl (fun hb => ?_) (fun hb => ?_)
   ·
    have hk29 := lt_len hb
    obtain ⟨y29, nx29, hy29, hn29, h⟩ := Hc hi29 hk29
    replace h := app4 hb29 h
    refine JI_skip ?_
    refine hK31 _ _ _ ?_
    refine JI_seq (fun K32 hK32 => ?_)
    refine JI_block ?_
    refine JI_seq (fun K33 hK33 => ?_)
    refine JI_region ?_
    refine Hz (u := .dptr [U8 y29]) hE (Gw (f := U8) (xs := r14) (y := y29) rfl rfl rfl tf_slice_145 hy29 rfl) ?_ rfl rfl rfl rfl
    refine Hz (u := U8 y29) hE (Gn Hk rfl rfl rfl) ?_ rfl rfl rfl rfl
    refine Hz (u := U8 y29) hE (Ga rfl rfl) ?_ rfl rfl rfl rfl
    refine JIL_nil ?_
    refine hK33 _ _ _ ?_
    refine JI_seq (fun K34 hK34 => ?_)
    refine JI_region ?_
    refine Hz (u := .sc (.func (.yield E.lp) #[] #[])) hE (G5 rfl rfl) ?_ rfl rfl rfl rfl
    refine Hz (u := G2 (i2 : Int)) hE (G5 rfl rfl) ?_ rfl rfl rfl rfl
    refine Hz (u := G2 (i8 : Int)) hE (G5 rfl rfl) ?_ rfl rfl rfl rfl
    refine Hz (u := U8 y29) hE (G5 rfl rfl) ?_ rfl rfl rfl rfl
    refine Hz (u := .agg [G2 (i2 : Int), G2 (i8 : Int), U8 y29]) hE (Hn (cs := [G2 (i2 : Int), G2 (i8 : Int), U8 y29]) [(0, 1), (1, 1), (2, 1)] [G2 0, G2 0, U8 0] [.int .i64 0, .int .i64 0, .int .u8 0] tf_places_98 tf_zero_98 ⟨.inl rfl, .inl rfl, .inl rfl, trivial⟩ rfl rfl) ?_ rfl rfl rfl rfl
    obtain ⟨ha35, h⟩ := He h
    refine JIL_yield (us := [.agg [G2 (i2 : Int), G2 (i8 : Int), U8 y29]]) hE rfl rfl ⟨rfl, rfl, trivial⟩ (yld_at (f := (fun y : Slot => [.agg [G2 y.G8, G2 y.Tier, U8 y.Half]])) (x := (Slot.mk (i2 : Int) (i8 : Int) y29)) hys ha35) ?_ rfl rfl rfl
    refine Hz (u := BL false) hE (A_not (b := true) rfl rfl) ?_ rfl rfl rfl rfl
    refine JIL_nil ?_
    refine hK34 _ _ _ ?_
    refine JI_condF rfl ?_
    refine JI_skip ?_
    refine hK32 _ _ _ ?_
    refine JI_region ?_
    refine Hz (u := G2 ((i29 + 1 : Nat) : Int)) hE (H7 (idx_succ hk29 hm25) rfl rfl rfl) ?_ rfl rfl rfl rfl
    refine Hz (u := G2 ((i29 + 1 : Nat) : Int)) hE (G5 rfl rfl) ?_ rfl rfl rfl rfl
    refine JIL_nil ?_
    exact e29 _ _ (i29 + 1) (s29 + 1) _ (app1 hn29 h) (by omega) ⟨(by repeat' constructor), ⟨⟨_, rfl, .boxL rfl (by repeat' constructor)⟩, trivial⟩, rfl⟩ rfl
   ·
    have h := app1 hkx29 (Hd hi29 (H3 hb))
    refine JI_exit ?_
    refine hK11 _ _ _ ?_
    refine JI_region ?_
    refine Hz (u := G2 ((i8 + 1 : Nat) : Int)) hE (H7 (idx_succ hk8 (toNat_max hx8)) rfl rfl rfl) ?_ rfl rfl rfl rfl
    refine Hz (u := G2 ((i8 + 1 : Nat) : Int)) hE (G5 rfl rfl) ?_ rfl rfl rfl rfl
    refine JIL_nil ?_
    exact e8 _ _ (i8 + 1) s29 _ (app1 hn8 h) (by omega) ⟨(by repeat' constructor), ⟨⟨_, rfl, .boxL rfl (by repeat' constructor)⟩, trivial⟩, rfl⟩ rfl
  ·
   have h := app1 hkx8 (upto_nil hi8 (not_lt_toNat hb))
   refine JI_exit ?_
   refine hK5 _ _ _ ?_
   refine JI_region ?_
   refine Hz (u := G2 ((i2 + 1 : Nat) : Int)) hE (H7 (idx_succ hk2 hm11) rfl rfl rfl) ?_ rfl rfl rfl rfl
   refine Hz (u := G2 ((i2 + 1 : Nat) : Int)) hE (G5 rfl rfl) ?_ rfl rfl rfl rfl
   refine JIL_nil ?_
   exact e2 _ _ (i2 + 1) s8 _ (app1 hn2 h) (by omega) ⟨(by repeat' constructor), trivial, rfl⟩ rfl
 ·
  have h := app1 hkx2 (Hd hi2 (H3 hb))
  refine JI_exit ?_
  exact yld_end (He h).1
theorem M_slot_slots_1_s (S_ : (Ship) → (Int) → Option (List Slot)) (hS_ : ∀ p1 p2 r, S_ p1 p2 = some r → M_slot_slots_1 p1 p2 r = some ()) (p1 : Ship) (p2 : Int) (r : List Slot) (h : S_ p1 p2 = some r) : Iter Try.prog 70 [.dptr (Ship.cs p1), .dptr [U8 p2]] (r.map (fun y : Slot => [.agg [G2 y.G8, G2 y.Tier, U8 y.Half]])) := M_slot_slots_1_w p1 p2 r () (hS_ p1 p2 r h)

def M_cmp_isNaN_int (x : Int) : Option Bool :=
 some (decide (x ≠ x))
theorem M_cmp_isNaN_int_w (x : Int) (r : Bool) (h : M_cmp_isNaN_int x = some r) : Pure Try.prog 82 [G2 x] (· = BL r) := by
 unfold M_cmp_isNaN_int at h
 refine H0 [.tmp 2] Try.func82 rfl rfl ?_
 refine G6 fun K1 hK1 => G3 ?_
 refine G1 (u := BL false) (Ga rfl rfl) ?_
 refine G9 (hK1 _ _ ?_)
 refine G6 fun K2 hK2 => G3 ?_
 refine G1 (u := G2 x) (G5 rfl rfl) ?_
 refine G1 (u := G2 x) (G5 rfl rfl) ?_
 refine G1 (u := BL (decide (x ≠ x))) (A_neq rfl rfl rfl) ?_
 refine G1 (u := BL (decide (x ≠ x))) (Ga rfl rfl) ?_
 refine G9 (hK2 _ _ ?_)
 refine Gt ?_
 exact ⟨[BL (decide (x ≠ x))], [], trivial, rfl, ⟨⟨_, rfl, .conv (.same rfl)⟩, trivial⟩, rfl, congrArg (fun r : Bool => (BL r : AV)) (Option.some.inj h)⟩

def M_cmp_Compare_int (x : Int) (y : Int) : Option Int :=
 bnd (M_cmp_isNaN_int x) fun r3 =>
 bnd (M_cmp_isNaN_int y) fun r5 =>
 bif r3 then
 (bif r5 then
  (some 0)
  else
  (some (-1)))
 else
 (bif r5 then
  (some 1)
  else
  (bif decide (x < y) then
   (some (-1))
   else
   (bif decide (y < x) then
    (some 1)
    else
    (some 0))))
theorem M_cmp_Compare_int_w (x : Int) (y : Int) (r : Int) (h : M_cmp_Compare_int x y = some r) : Pure Try.prog 59 [G2 x, G2 y] (· = G2 r) := by
 unfold M_cmp_Compare_int at h
 refine H0 [.tmp 4] Try.func59 rfl rfl ?_
 refine G6 fun K1 hK1 => G3 ?_
 refine G1 (u := G2 0) (Ga rfl rfl) ?_
 refine G9 (hK1 _ _ ?_)
 refine G6 fun K2 hK2 => G3 ?_
 refine G1 (u := G2 x) (G5 rfl rfl) ?_
 obtain ⟨r3, hr3, h⟩ := Gg h
 refine G1 (u := BL r3) (Gu (args := [G2 x]) rfl (M_cmp_isNaN_int_w x r3 hr3) tf_call_82 ⟨rfl, rfl, trivial⟩) ?_
 refine G1 (u := BL r3) (Ga rfl rfl) ?_
 refine G9 (hK2 _ _ ?_)
 refine G6 fun K4 hK4 => G3 ?_
 refine G1 (u := G2 y) (G5 rfl rfl) ?_
 obtain ⟨r5, hr5, h⟩ := Gg h
 refine G1 (u := BL r5) (Gu (args := [G2 y]) rfl (M_cmp_isNaN_int_w y r5 hr5) tf_call_82 ⟨rfl, rfl, trivial⟩) ?_
 refine G1 (u := BL r5) (Ga rfl rfl) ?_
 refine G9 (hK4 _ _ ?_)
 refine G6 (fun K6 hK6 => ?_)
 refine G6 fun K7 hK7 => G3 ?_
 refine G1 (u := BL r3) (G5 rfl rfl) ?_
 refine G9 (hK7 _ _ ?_)
 refine Gm rfl (fun hb => ?_) (fun hb => ?_)
 ·
  replace h := bif_t hb h
  refine G6 (fun K8 hK8 => ?_)
  refine G6 fun K9 hK9 => G3 ?_
  refine G1 (u := BL r5) (G5 rfl rfl) ?_
  refine G9 (hK9 _ _ ?_)
  refine Gm rfl (fun hb => ?_) (fun hb => ?_)
  ·
   replace h := bif_t hb h
   refine G6 fun K10 hK10 => G3 ?_
   refine G1 (u := G2 0) (Ga rfl rfl) ?_
   refine G9 (hK10 _ _ ?_)
   refine Gt ?_
   exact ⟨[G2 0], [], trivial, rfl, ⟨⟨_, rfl, .conv (.same rfl)⟩, trivial⟩, rfl, congrArg (fun r : Int => (G2 r : AV)) (Option.some.inj h)⟩
  ·
   replace h := bif_f hb h
   refine Gp ?_
   refine hK8 _ _ ?_
   refine G6 fun K11 hK11 => G3 ?_
   refine G1 (u := G2 (-1)) (Ga rfl rfl) ?_
   refine G9 (hK11 _ _ ?_)
   refine Gt ?_
   exact ⟨[G2 (-1)], [], trivial, rfl, ⟨⟨_, rfl, .conv (.same rfl)⟩, trivial⟩, rfl, congrArg (fun r : Int => (G2 r : AV)) (Option.some.inj h)⟩
 ·
  replace h := bif_f hb h
  refine Gp ?_
  refine hK6 _ _ ?_
  refine G6 (fun K12 hK12 => ?_)
  refine G6 fun K13 hK13 => G3 ?_
  refine G1 (u := BL r5) (G5 rfl rfl) ?_
  refine G9 (hK13 _ _ ?_)
  refine Gm rfl (fun hb => ?_) (fun hb => ?_)
  ·
   replace h := bif_t hb h
   refine G6 fun K14 hK14 => G3 ?_
   refine G1 (u := G2 1) (Ga rfl rfl) ?_
   refine G9 (hK14 _ _ ?_)
   refine Gt ?_
   exact ⟨[G2 1], [], trivial, rfl, ⟨⟨_, rfl, .conv (.same rfl)⟩, trivial⟩, rfl, congrArg (fun r : Int => (G2 r : AV)) (Option.some.inj h)⟩
  ·
   replace h := bif_f hb h
   refine Gp ?_
   refine hK12 _ _ ?_
   refine G6 (fun K15 hK15 => ?_)
   refine G6 fun K16 hK16 => G3 ?_
   refine G1 (u := G2 x) (G5 rfl rfl) ?_
   refine G1 (u := G2 y) (G5 rfl rfl) ?_
   refine G1 (u := BL (decide (x < y))) (Hg rfl rfl rfl) ?_
   refine G9 (hK16 _ _ ?_)
   refine Gm rfl (fun hb => ?_) (fun hb => ?_)
   ·
    replace h := bif_t hb h
    refine G6 fun K17 hK17 => G3 ?_
    refine G1 (u := G2 (-1)) (Ga rfl rfl) ?_
    refine G9 (hK17 _ _ ?_)
    refine Gt ?_
    exact ⟨[G2 (-1)], [], trivial, rfl, ⟨⟨_, rfl, .conv (.same rfl)⟩, trivial⟩, rfl, congrArg (fun r : Int => (G2 r : AV)) (Option.some.inj h)⟩
   ·
    replace h := bif_f hb h
    refine Gp ?_
    refine hK15 _ _ ?_
    refine G6 (fun K18 hK18 => ?_)
    refine G6 fun K19 hK19 => G3 ?_
    refine G1 (u := G2 x) (G5 rfl rfl) ?_
    refine G1 (u := G2 y) (G5 rfl rfl) ?_
    refine G1 (u := BL (decide (y < x))) (Jy rfl rfl rfl) ?_
    refine G9 (hK19 _ _ ?_)
    refine Gm rfl (fun hb => ?_) (fun hb => ?_)
    ·
     replace h := bif_t hb h
     refine G6 fun K20 hK20 => G3 ?_
     refine G1 (u := G2 1) (Ga rfl rfl) ?_
     refine G9 (hK20 _ _ ?_)
     refine Gt ?_
     exact ⟨[G2 1], [], trivial, rfl, ⟨⟨_, rfl, .conv (.same rfl)⟩, trivial⟩, rfl, congrArg (fun r : Int => (G2 r : AV)) (Option.some.inj h)⟩
    ·
     replace h := bif_f hb h
     refine Gp ?_
     refine hK18 _ _ ?_
     refine G6 fun K21 hK21 => G3 ?_
     refine G1 (u := G2 0) (Ga rfl rfl) ?_
     refine G9 (hK21 _ _ ?_)
     refine Gt ?_
     exact ⟨[G2 0], [], trivial, rfl, ⟨⟨_, rfl, .conv (.same rfl)⟩, trivial⟩, rfl, congrArg (fun r : Int => (G2 r : AV)) (Option.some.inj h)⟩

def M_cmp_Or_int (vals : List Int) : Option Int :=
 each (fun y19 i19 (s19 : Unit) nx19 =>
  bif decide (y19 ≠ 0) then
  (some y19)
  else
  (nx19 ()))
 (fun (s19 : Unit) =>
  some 0) vals 0 ()
theorem M_cmp_Or_int_w (vals : List Int) (r : Int) (h : M_cmp_Or_int vals = some r) : Pure Try.prog 58 [LS 1 G2 vals] (· = G2 r) := by
 unfold M_cmp_Or_int at h
 refine H0 [.tmp 2] Try.func58 rfl rfl ?_
 refine G6 fun K1 hK1 => G3 ?_
 refine G1 (u := G2 0) (Ga rfl rfl) ?_
 refine G9 (hK1 _ _ ?_)
 refine G6 fun K2 hK2 => G3 ?_
 refine G1 (u := G2 0) (Ga rfl rfl) ?_
 refine G9 (hK2 _ _ ?_)
 refine G6 (fun K3 hK3 => ?_)
 refine G6 fun K4 hK4 => G3 ?_
 refine G1 (u := LS 1 G2 vals) (G5 rfl rfl) ?_
 refine H9 (f := G2) (xs := vals) Gr rfl rfl (fun hm7 => ?_) rfl rfl rfl
 refine G1 (u := G2 0) (G5 rfl rfl) ?_
 refine G9 (hK4 _ _ ?_)
 refine Gk ?_
 obtain ⟨b19, kx19, hb19, hkx19, h⟩ := Hj h
 refine H2 (fun i19 (s19 : Unit) => each b19 kx19 (List.drop i19 vals) i19 s19 = some r) (fun i19 s19 => [(3, G2 0), (6, LS 1 G2 vals), (7, G2 (vals.length : Int)), (8, G2 (i19 : Int))]) (fun i19 s19 => []) (fun i19 => vals.length - i19) 0 () h ⟨(by repeat' constructor), trivial, rfl⟩ ?_
 clear h
 intro i19 s19 hi19 K19 e19
 refine G6 fun K20 hK20 => G3 ?_
 refine G1 (u := BL (decide ((i19 : Int) < (vals.length : Int)))) (Hg rfl rfl rfl) ?_
 refine G9 (hK20 _ _ ?_)
 refine G6 (fun K21 hK21 => ?_)
 refine Gm rfl (fun hb => ?_) (fun hb => ?_)
 ·
  have hk19 := lt_len hb
  obtain ⟨y19, nx19, hy19, hn19, h⟩ := Hc hi19 hk19
  replace h := app4 hb19 h
  refine Gp ?_
  refine hK21 _ _ ?_
  refine G6 (fun K22 hK22 => ?_)
  refine Gk ?_
  refine G6 fun K23 hK23 => G3 ?_
  refine G1 (u := .dptr [G2 y19]) (Gw (f := G2) (xs := vals) (y := y19) rfl rfl rfl Gr hy19 rfl) ?_
  refine G1 (u := G2 y19) (Gn Gc rfl rfl rfl) ?_
  refine G1 (u := G2 y19) (Ga rfl rfl) ?_
  refine G9 (hK23 _ _ ?_)
  refine G6 fun K24 hK24 => G3 ?_
  refine G1 (u := G2 y19) (G5 rfl rfl) ?_
  refine G1 (u := G2 0) (G5 rfl rfl) ?_
  refine G1 (u := BL (decide (y19 ≠ 0))) (A_neq rfl rfl rfl) ?_
  refine G9 (hK24 _ _ ?_)
  refine Gm rfl (fun hb => ?_) (fun hb => ?_)
  ·
   replace h := bif_t hb h
   refine G6 fun K25 hK25 => G3 ?_
   refine G1 (u := G2 y19) (G5 rfl rfl) ?_
   refine G1 (u := G2 y19) (Ga rfl rfl) ?_
   refine G9 (hK25 _ _ ?_)
   refine Gt ?_
   exact ⟨[G2 y19], [], trivial, rfl, ⟨⟨_, rfl, .conv (.same rfl)⟩, trivial⟩, rfl, congrArg (fun r : Int => (G2 r : AV)) (Option.some.inj h)⟩
  ·
   replace h := bif_f hb h
   refine Gp ?_
   refine hK22 _ _ ?_
   refine G3 ?_
   refine G1 (u := G2 ((i19 + 1 : Nat) : Int)) (H7 (idx_succ hk19 hm7) rfl rfl rfl) ?_
   refine G1 (u := G2 ((i19 + 1 : Nat) : Int)) (G5 rfl rfl) ?_
   refine G9 ?_
   exact e19 _ _ (i19 + 1) () (app1 hn19 h) (by omega) ⟨(by repeat' constructor), trivial, rfl⟩
 ·
  have h := app1 hkx19 (Hd hi19 (H3 hb))
  refine H4 ?_
  refine hK3 _ _ ?_
  refine G6 fun K26 hK26 => G3 ?_
  refine G1 (u := G2 0) (G5 rfl rfl) ?_
  refine G1 (u := G2 0) (Ga rfl rfl) ?_
  refine G9 (hK26 _ _ ?_)
  refine Gt ?_
  exact ⟨[G2 0], [], trivial, rfl, ⟨⟨_, rfl, .conv (.same rfl)⟩, trivial⟩, rfl, congrArg (fun r : Int => (G2 r : AV)) (Option.some.inj h)⟩

def M_bound_compare (a : G7) (b : G7) : Option Int :=
 bnd (M_cmp_Compare_int a.Load b.Load) fun r3 =>
 bnd (M_cmp_Compare_int a.Discharge b.Discharge) fun r4 =>
 bnd (M_cmp_Or_int [r3, r4]) fun r5 =>
 some r5
theorem M_bound_compare_w (a : G7) (b : G7) (r : Int) (h : M_bound_compare a b = some r) : Pure Try.prog 36 [.agg [G2 a.Load, G2 a.Discharge], .agg [G2 b.Load, G2 b.Discharge]] (· = G2 r) := by
 unfold M_bound_compare at h
 refine H0 [.tmp 4] Try.func36 rfl rfl ?_
 refine G6 fun K1 hK1 => G3 ?_
 refine G1 (u := .ptr 1104 0) (J2 (u := .agg [G2 a.Load, G2 a.Discharge]) (cs := [G2 a.Load, G2 a.Discharge]) 1104 rfl rfl rfl rfl rfl) ?_
 refine G1 (u := .ptr 1105 0) (J2 (u := .agg [G2 b.Load, G2 b.Discharge]) (cs := [G2 b.Load, G2 b.Discharge]) 1105 rfl rfl rfl rfl rfl) ?_
 refine G1 (u := G2 0) (Ga rfl rfl) ?_
 refine G9 (hK1 _ _ ?_)
 refine Gq [(2, .dptr [G2 a.Load, G2 a.Discharge]), (3, .ptr 1105 0)] [(1105, .box 56 [G2 b.Load, G2 b.Discharge])] 1104 rfl rfl rfl ⟨⟨_, rfl, .boxEq rfl rfl⟩, trivial⟩ rfl (by exact ⟨.ptr, .conv (.same rfl), trivial⟩) ?_
 refine Gq [(2, .dptr [G2 a.Load, G2 a.Discharge]), (3, .dptr [G2 b.Load, G2 b.Discharge])] [] 1105 rfl rfl rfl trivial rfl (by exact ⟨.conv (.same rfl), .ptr, trivial⟩) ?_
 refine G6 (fun K2 hK2 => ?_)
 obtain ⟨r3, hr3, h⟩ := Gg h
 obtain ⟨r4, hr4, h⟩ := Gg h
 obtain ⟨r5, hr5, h⟩ := Gg h
 refine Hy [] [0, 0, 0, 0, 0, 0, 0, 0, 0, 0, 0, 0, 0] [0, 0, 0, 0, 0, 0, 0, 0, 0, 0, 0, 0, 0] [[]] Hr (by kernel_rfl) rfl rfl ?_
 refine Ge (u := .dptr [G2 a.Load, G2 a.Discharge]) rfl rfl ⟨Gi (Gd J9 rfl rfl rfl) rfl, trivial⟩ ?_
 refine Ge (u := G2 a.Load) rfl rfl ⟨Gi (Gn Gc rfl rfl rfl) rfl, trivial⟩ ?_
 refine Ge (u := .dptr [G2 b.Load, G2 b.Discharge]) rfl rfl ⟨Gi (Gd J9 rfl rfl rfl) rfl, trivial⟩ ?_
 refine Ge (u := G2 b.Load) rfl rfl ⟨Gi (Gn Gc rfl rfl rfl) rfl, trivial⟩ ?_
 refine Ge (u := G2 r3) rfl rfl ⟨Gi (Gu (args := [G2 a.Load, G2 b.Load]) rfl (M_cmp_Compare_int_w a.Load b.Load r3 hr3) tf_call_59 ⟨rfl, rfl, rfl, rfl, trivial⟩) rfl, trivial⟩ ?_
 refine Ge (u := .dptr [G2 a.Discharge]) rfl rfl ⟨Gi (Gd J8 rfl rfl rfl) rfl, trivial⟩ ?_
 refine Ge (u := G2 a.Discharge) rfl rfl ⟨Gi (Gn Gc rfl rfl rfl) rfl, trivial⟩ ?_
 refine Ge (u := .dptr [G2 b.Discharge]) rfl rfl ⟨Gi (Gd J8 rfl rfl rfl) rfl, trivial⟩ ?_
 refine Ge (u := G2 b.Discharge) rfl rfl ⟨Gi (Gn Gc rfl rfl rfl) rfl, trivial⟩ ?_
 refine Ge (u := G2 r4) rfl rfl ⟨Gi (Gu (args := [G2 a.Discharge, G2 b.Discharge]) rfl (M_cmp_Compare_int_w a.Discharge b.Discharge r4 hr4) tf_call_59 ⟨rfl, rfl, rfl, rfl, trivial⟩) rfl, trivial⟩ ?_
 refine Ge (u := LS 1 G2 [r3, r4]) rfl rfl ⟨Gi (H1 (xs := [G2 r3, G2 r4]) rfl ⟨rfl, rfl, rfl, rfl, trivial⟩ Gr tf_zsize_3 rfl rfl rfl rfl) rfl, trivial⟩ ?_
 refine Ge (u := G2 r5) rfl rfl ⟨Gi (Gu (args := [LS 1 G2 [r3, r4]]) rfl (M_cmp_Or_int_w [r3, r4] r5 hr5) tf_call_58 ⟨rfl, rfl, trivial⟩) rfl, trivial⟩ ?_
 refine Ge (u := G2 r5) rfl rfl ⟨Gi (Ga rfl rfl) rfl, trivial⟩ ?_
 refine Q3 ?_
 refine hK2 _ _ ?_
 refine Gt ?_
 exact ⟨[G2 r5], [], trivial, rfl, ⟨⟨_, rfl, .conv (.same rfl)⟩, trivial⟩, rfl, congrArg (fun r : Int => (G2 r : AV)) (Option.some.inj h)⟩

def M_bound_Groups_1 (a : G0) (b : G0) : Option Int :=
 bnd (M_bound_compare a.G7 b.G7) fun r3 =>
 some r3
theorem M_bound_Groups_1_w (a : G0) (b : G0) (r : Int) (h : M_bound_Groups_1 a b = some r) : Pure Try.prog 35 [.agg [G2 a.G7.Load, G2 a.G7.Discharge, G2 a.Whole, G2 a.Half], .agg (G0.cs b)] (· = G2 r) := by
 unfold M_bound_Groups_1 at h
 refine H0 [.tmp 4] Try.func35 rfl rfl ?_
 refine G6 fun K1 hK1 => G3 ?_
 refine G1 (u := .ptr 1102 0) (J2 (u := .agg [G2 a.G7.Load, G2 a.G7.Discharge, G2 a.Whole, G2 a.Half]) (cs := [G2 a.G7.Load, G2 a.G7.Discharge, G2 a.Whole, G2 a.Half]) 1102 rfl rfl rfl rfl rfl) ?_
 refine G1 (u := .ptr 1103 0) (J2 (u := .agg (G0.cs b)) (cs := [G2 b.G7.Load, G2 b.G7.Discharge, G2 b.Whole, G2 b.Half]) 1103 rfl rfl rfl rfl rfl) ?_
 refine G1 (u := G2 0) (Ga rfl rfl) ?_
 refine G9 (hK1 _ _ ?_)
 refine Gq [(2, .dptr [G2 a.G7.Load, G2 a.G7.Discharge, G2 a.Whole, G2 a.Half]), (3, .ptr 1103 0)] [(1103, .box 83 [G2 b.G7.Load, G2 b.G7.Discharge, G2 b.Whole, G2 b.Half])] 1102 rfl rfl rfl ⟨⟨_, rfl, .boxEq rfl rfl⟩, trivial⟩ rfl (by exact ⟨.ptr, .conv (.same rfl), trivial⟩) ?_
 refine Gq [(2, .dptr [G2 a.G7.Load, G2 a.G7.Discharge, G2 a.Whole, G2 a.Half]), (3, .dptr (G0.cs b))] [] 1103 rfl rfl rfl trivial rfl (by exact ⟨.conv (.same rfl), .ptr, trivial⟩) ?_
 refine G6 fun K2 hK2 => G3 ?_
 refine G1 (u := .dptr [G2 a.G7.Load, G2 a.G7.Discharge, G2 a.Whole, G2 a.Half]) (Gd Ho rfl rfl rfl) ?_
 refine G1 (u := .agg [G2 a.G7.Load, G2 a.G7.Discharge]) (Gf Hf rfl rfl rfl) ?_
 refine G1 (u := .dptr (G0.cs b)) (Gd Ho rfl rfl rfl) ?_
 refine G1 (u := .agg [G2 b.G7.Load, G2 b.G7.Discharge]) (Gf Hf rfl rfl rfl) ?_
 obtain ⟨r3, hr3, h⟩ := Gg h
 refine G1 (u := G2 r3) (Gu (args := [.agg [G2 a.G7.Load, G2 a.G7.Discharge], .agg [G2 b.G7.Load, G2 b.G7.Discharge]]) rfl (M_bound_compare_w a.G7 b.G7 r3 hr3) tf_call_36 ⟨rfl, rfl, rfl, rfl, trivial⟩) ?_
 refine G1 (u := G2 r3) (Ga rfl rfl) ?_
 refine G9 (hK2 _ _ ?_)
 refine Gt ?_
 exact ⟨[G2 r3], [], trivial, rfl, ⟨⟨_, rfl, .conv (.same rfl)⟩, trivial⟩, rfl, congrArg (fun r : Int => (G2 r : AV)) (Option.some.inj h)⟩

def M_bound_Groups (boxes : List Box) (Rp : (List G0) → Prop) : Option Prop :=
 each (fun y85 i85 (s85 : (AMap G7 G0)) nx85 =>
  jp (fun kj88 =>
   bnd (some (AMap.get s85 (G7.mk y85.Load y85.Discharge) (G0.mk (G7.mk 0 0) 0 0))) fun v92 =>
   jp (fun kj94 =>
    bif decide (y85.Size = 40) then
    (chk (v92.Whole + 1) fun v97 =>
     kj94 (v97, v92.Half))
    else
    (bif decide (y85.Size = 20) then
     (chk (v92.Half + 1) fun v99 =>
      kj94 (v92.Whole, v99))
     else
     (kj88 (s85, v92.Whole, v92.Half)))) fun (j94 : Int × Int) =>
   kj88 ((AMap.put s85 (G7.mk y85.Load y85.Discharge) (G0.mk (G7.mk y85.Load y85.Discharge) j94.1 j94.2)), j94.1, j94.2)) fun (j88 : (AMap G7 G0) × Int × Int) =>
  nx85 j88.1)
 (fun (s85 : (AMap G7 G0)) =>
  eachM (fun (x111 : G7 × G0) (s111 : (List G0)) nx111 =>
   need (decide ((s111.length + [x111.2].length) * 32 ≤ 140737488355328 ∧ s111.length + [x111.2].length ≤ maxLen)) <|
   nx111 (s111 ++ [x111.2]))
  (fun (s111 : (List G0)) =>
   bnd (sortM (fun z0 z1 => M_bound_Groups_1 z0 z1) s111) fun r118 =>
   some (Rp r118)) (AMap.l s85) []) boxes 0 (AMap.empty : AMap G7 G0)
theorem M_bound_Groups_w (boxes : List Box) (Rp : (List G0) → Prop) (p : Prop) (h : M_bound_Groups boxes Rp = some p) (hp : p) : Pure Try.prog 13 [LS 9 Box.av boxes] (fun av => ∃ r, Rp r ∧ av = LS 4 G0.av r) := by
 unfold M_bound_Groups at h
 refine H0 [.tmp 2] Try.func13 rfl rfl ?_
 refine G6 fun K1 hK1 => G3 ?_
 refine G1 (u := LS 4 G0.av ([] : List G0)) (J4 4 rfl rfl) ?_
 refine G9 (hK1 _ _ ?_)
 refine G6 fun K2 hK2 => G3 ?_
 refine G1 (u := .mp 1054) (A_makeMapM 1054 G7.kv G0.av rfl rfl) ?_
 refine G1 (u := .mp 1054) (Ga rfl rfl) ?_
 refine G9 (hK2 _ _ ?_)
 refine G6 (fun K3 hK3 => ?_)
 refine G6 fun K4 hK4 => G3 ?_
 refine G1 (u := LS 9 Box.av boxes) (G5 rfl rfl) ?_
 refine H9 (f := Box.av) (xs := boxes) Hp rfl rfl (fun hm13 => ?_) rfl rfl rfl
 refine G1 (u := G2 0) (G5 rfl rfl) ?_
 refine G9 (hK4 _ _ ?_)
 refine Gk ?_
 obtain ⟨b85, kx85, hb85, hkx85, h⟩ := Hj h
 refine H2 (fun i85 (s85 : (AMap G7 G0)) => each b85 kx85 (List.drop i85 boxes) i85 s85 = some p) (fun i85 s85 => [(3, .mp 1054), (12, LS 9 Box.av boxes), (13, G2 (boxes.length : Int)), (14, G2 (i85 : Int))]) (fun i85 s85 => [(1054, MP 109 G7.kv G0.av s85)]) (fun i85 => boxes.length - i85) 0 (AMap.empty : AMap G7 G0) h ⟨(by repeat' constructor), ⟨⟨_, rfl, .map⟩, trivial⟩, rfl⟩ ?_
 clear h
 intro i85 s85 hi85 K85 e85
 refine G6 fun K86 hK86 => G3 ?_
 refine G1 (u := BL (decide ((i85 : Int) < (boxes.length : Int)))) (Hg rfl rfl rfl) ?_
 refine G9 (hK86 _ _ ?_)
 refine G6 (fun K87 hK87 => ?_)
 refine Gm rfl (fun hb => ?_) (fun hb => ?_)
 ·
  have hk85 := lt_len hb
  obtain ⟨y85, nx85, hy85, hn85, h⟩ := Hc hi85 hk85
  replace h := app4 hb85 h
  refine Gp ?_
  refine hK87 _ _ ?_
  obtain ⟨kj88, hkj88, h⟩ := Jf h
  refine Ht (fun j88 : (AMap G7 G0) × Int × Int => kj88 j88 = some p) (fun j88 => [(3, .mp 1054), (12, LS 9 Box.av boxes), (13, G2 (boxes.length : Int)), (14, G2 (i85 : Int))]) (fun j88 => [(1054, MP 109 G7.kv G0.av j88.1), (1051, .box 83 [G2 y85.Load, G2 y85.Discharge, G2 j88.2.1, G2 j88.2.2])]) (fun Kj88 ej88 => ?_) ?_
  ·
   refine Gk ?_
   refine G6 fun K89 hK89 => G3 ?_
   refine G1 (u := .dptr (Box.cs y85)) (Gw (f := Box.av) (xs := boxes) (y := y85) rfl rfl rfl Hp hy85 rfl) ?_
   refine G1 (u := .agg (Box.cs y85)) (Gf Jw rfl rfl rfl) ?_
   refine G1 (u := .ptr 1049 0) (H8 1049 9 Jd rfl rfl) ?_
   refine H6 (u := .junk) (Gz (u := .agg (Box.cs y85)) (ds := (Box.cs y85)) Jx rfl rfl rfl rfl rfl rfl rfl rfl) ?_
   refine G9 (hK89 _ _ ?_)
   refine Gq [(3, .mp 1054), (5, .dptr (Box.cs y85)), (12, LS 9 Box.av boxes), (13, G2 (boxes.length : Int)), (14, G2 (i85 : Int))] [(1054, MP 109 G7.kv G0.av s85)] 1049 rfl rfl rfl ⟨⟨_, rfl, .map⟩, trivial⟩ rfl (by repeat' (first | exact .ptr | constructor)) ?_
   refine G6 fun K90 hK90 => G3 ?_
   refine G1 (u := .dptr ((Box.cs y85).drop 5)) (Gd Jv rfl rfl rfl) ?_
   refine G1 (u := G2 y85.Load) (Gn Gc rfl rfl rfl) ?_
   refine G1 (u := .dptr ((Box.cs y85).drop 6)) (Gd tf_field_70_6 rfl rfl rfl) ?_
   refine G1 (u := G2 y85.Discharge) (Gn Gc rfl rfl rfl) ?_
   refine G1 (u := .agg [G2 y85.Load, G2 y85.Discharge]) (Hn (cs := [G2 y85.Load, G2 y85.Discharge]) [(0, 1), (1, 1)] [G2 0, G2 0] [.int .i64 0, .int .i64 0] tf_places_56 tf_zero_56 ⟨.inl rfl, .inl rfl, trivial⟩ rfl rfl) ?_
   refine G1 (u := .ptr 1050 0) (H8 1050 2 Jr rfl rfl) ?_
   refine H6 (u := .junk) (Gz (u := .agg [G2 y85.Load, G2 y85.Discharge]) (ds := [G2 y85.Load, G2 y85.Discharge]) tf_size_56 rfl rfl rfl rfl rfl rfl rfl rfl) ?_
   refine G9 (hK90 _ _ ?_)
   refine Gq [(3, .mp 1054), (5, .dptr (Box.cs y85)), (6, .dptr [G2 y85.Load, G2 y85.Discharge]), (12, LS 9 Box.av boxes), (13, G2 (boxes.length : Int)), (14, G2 (i85 : Int))] [(1054, MP 109 G7.kv G0.av s85)] 1050 rfl rfl rfl ⟨⟨_, rfl, .map⟩, trivial⟩ rfl (by repeat' (first | exact .ptr | constructor)) ?_
   refine G6 fun K91 hK91 => G3 ?_
   refine G1 (u := .mp 1054) (G5 rfl rfl) ?_
   refine G1 (u := .agg [G2 y85.Load, G2 y85.Discharge]) (Gf Hf rfl rfl rfl) ?_
   obtain ⟨v92, hv92, h⟩ := Gg h
   refine G1 (u := .agg (G0.cs v92)) (((Option.some.inj hv92) ▸ A_lookupM0 (av := G0.av) (m := s85) (a := (G7.mk y85.Load y85.Discharge)) (G0.mk (G7.mk 0 0) 0 0) (.agg #[.int .i64 0, .int .i64 0, .int .i64 0, .int .i64 0]) rfl rfl rfl rfl tk_56 tf_map_109 tf_zv_83 rfl)) ?_
   refine G1 (u := .ptr 1051 0) (H8 1051 4 Hw rfl rfl) ?_
   refine H6 (u := .junk) (Gz (u := .agg (G0.cs v92)) (ds := [G2 v92.G7.Load, G2 v92.G7.Discharge, G2 v92.Whole, G2 v92.Half]) tf_size_83 rfl rfl rfl rfl rfl rfl rfl rfl) ?_
   refine G9 (hK91 _ _ ?_)
   refine G6 fun K93 hK93 => G3 ?_
   refine G1 (u := .agg [G2 y85.Load, G2 y85.Discharge]) (Gf Hf rfl rfl rfl) ?_
   refine G1 (u := .ptr 1051 0) (Hi Ho rfl rfl) ?_
   refine H6 (u := .junk) (Gz (u := .agg [G2 y85.Load, G2 y85.Discharge]) (ds := [G2 y85.Load, G2 y85.Discharge, G2 v92.Whole, G2 v92.Half]) tf_size_56 rfl rfl rfl rfl rfl rfl rfl rfl) ?_
   refine G9 (hK93 _ _ ?_)
   obtain ⟨kj94, hkj94, h⟩ := Jf h
   refine Ht (fun j94 : Int × Int => kj94 j94 = some p) (fun j94 => [(3, .mp 1054), (6, .dptr [G2 y85.Load, G2 y85.Discharge]), (7, .ptr 1051 0), (12, LS 9 Box.av boxes), (13, G2 (boxes.length : Int)), (14, G2 (i85 : Int))]) (fun j94 => [(1054, MP 109 G7.kv G0.av s85), (1051, .box 83 [G2 y85.Load, G2 y85.Discharge, G2 j94.1, G2 j94.2])]) (fun Kj94 ej94 => ?_) ?_
   ·
    refine G6 fun K95 hK95 => G3 ?_
    refine G1 (u := .dptr ((Box.cs y85).drop 2)) (Gd tf_field_70_2 rfl rfl rfl) ?_
    refine G1 (u := U8 y85.Size) (Gn Hk rfl rfl rfl) ?_
    refine G9 (hK95 _ _ ?_)
    refine Gk ?_
    refine G6 fun K96 hK96 => G3 ?_
    refine G1 (u := BL (decide (y85.Size = 40))) (Jb rfl rfl rfl) ?_
    refine G1 (u := BL (decide (y85.Size = 40))) (Ga rfl rfl) ?_
    refine G9 (hK96 _ _ ?_)
    refine Gm rfl (fun hb => ?_) (fun hb => ?_)
    ·
     replace h := bif_t hb h
     refine G3 ?_
     refine G1 (u := .ptr 1051 2) (Hi Ju rfl rfl) ?_
     refine G1 (u := G2 v92.Whole) (J5 Gc rfl rfl rfl rfl) ?_
     obtain ⟨v97, hv97, h⟩ := Gy h
     refine G1 (u := G2 v97) (H7 hv97 rfl rfl rfl) ?_
     refine G1 (u := .ptr 1051 2) (Hi Ju rfl rfl) ?_
     refine H6 (u := .junk) (Gz (u := G2 v97) (ds := [G2 y85.Load, G2 y85.Discharge, G2 v97, G2 v92.Half]) J0 rfl rfl rfl rfl rfl rfl rfl rfl) ?_
     refine G9 ?_
     exact ej94 _ _ (v97, v92.Half) h ⟨(by repeat' constructor), ⟨⟨_, rfl, .map⟩, ⟨_, rfl, .boxL rfl (by repeat' constructor)⟩, trivial⟩, rfl⟩
    ·
     replace h := bif_f hb h
     refine G6 fun K98 hK98 => G3 ?_
     refine G1 (u := BL (decide (y85.Size = 20))) (Jb rfl rfl rfl) ?_
     refine G1 (u := BL (decide (y85.Size = 20))) (Ga rfl rfl) ?_
     refine G9 (hK98 _ _ ?_)
     refine Gm rfl (fun hb => ?_) (fun hb => ?_)
     ·
      replace h := bif_t hb h
      refine G3 ?_
      refine G1 (u := .ptr 1051 3) (Hi Jt rfl rfl) ?_
      refine G1 (u := G2 v92.Half) (J5 Gc rfl rfl rfl rfl) ?_
      obtain ⟨v99, hv99, h⟩ := Gy h
      refine G1 (u := G2 v99) (H7 hv99 rfl rfl rfl) ?_
      refine G1 (u := .ptr 1051 3) (Hi Jt rfl rfl) ?_
      refine H6 (u := .junk) (Gz (u := G2 v99) (ds := [G2 y85.Load, G2 y85.Discharge, G2 v92.Whole, G2 v99]) J0 rfl rfl rfl rfl rfl rfl rfl rfl) ?_
      refine G9 ?_
      exact ej94 _ _ (v92.Whole, v99) h ⟨(by repeat' constructor), ⟨⟨_, rfl, .map⟩, ⟨_, rfl, .boxL rfl (by repeat' constructor)⟩, trivial⟩, rfl⟩
     ·
      replace h := bif_f hb h
      refine H4 ?_
      exact ej88 _ _ (s85, v92.Whole, v92.Half) h ⟨(by repeat' constructor), ⟨⟨_, rfl, .map⟩, ⟨_, rfl, .boxL rfl (by repeat' constructor)⟩, trivial⟩, rfl⟩
   ·intro j94 h
    replace h := app1 hkj94 h
    refine G3 ?_
    refine G1 (u := .mp 1054) (G5 rfl rfl) ?_
    refine G1 (u := .agg [G2 y85.Load, G2 y85.Discharge]) (Gf Hf rfl rfl rfl) ?_
    refine G1 (u := .agg [G2 y85.Load, G2 y85.Discharge, G2 j94.1, G2 j94.2]) (A_loadAggL Hv rfl rfl rfl rfl) ?_
    refine H6 (u := .junk) (A_mapUpdateM (m := s85) (a := (G7.mk y85.Load y85.Discharge)) (v := (G0.mk (G7.mk y85.Load y85.Discharge) j94.1 j94.2)) rfl rfl rfl rfl rfl rfl tk_56 tf_map_109) ?_
    refine G9 ?_
    exact ej88 _ _ ((AMap.put s85 (G7.mk y85.Load y85.Discharge) (G0.mk (G7.mk y85.Load y85.Discharge) j94.1 j94.2)), j94.1, j94.2) h ⟨(by repeat' constructor), ⟨⟨_, rfl, .map⟩, ⟨_, rfl, .boxL rfl (by repeat' constructor)⟩, trivial⟩, rfl⟩
  ·intro j88 h
   replace h := app1 hkj88 h
   refine G3 ?_
   refine G1 (u := G2 ((i85 + 1 : Nat) : Int)) (H7 (idx_succ hk85 hm13) rfl rfl rfl) ?_
   refine G1 (u := G2 ((i85 + 1 : Nat) : Int)) (G5 rfl rfl) ?_
   refine G9 ?_
   exact e85 _ _ (i85 + 1) j88.1 (app1 hn85 h) (by omega) ⟨(by repeat' constructor), ⟨⟨_, rfl, .map⟩, trivial⟩, rfl⟩
 ·
  have h := app1 hkx85 (Hd hi85 (H3 hb))
  refine H4 ?_
  refine hK3 _ _ ?_
  refine G6 fun K100 hK100 => G3 ?_
  refine G1 (u := .vec 1052 (([] : List G0).length) 4 (([] : List G0).length)) (A_vnil 1052 83 4 rfl rfl rfl) ?_
  refine G9 (hK100 _ _ ?_)
  refine G6 (fun K101 hK101 => ?_)
  refine G6 fun K102 hK102 => G3 ?_
  refine G1 (u := .mp 1054) (G5 rfl rfl) ?_
  refine G1 (u := .it 1055) (A_rangeM 1055 (m := s85) rfl rfl rfl rfl tf_map_109) ?_
  refine G9 (hK102 _ _ ?_)
  refine Gk ?_
  obtain ⟨b111, kx111, hb111, hkx111, h⟩ := eachM_in h
  refine JC_loopM (AMap.size s85) (fun i111 (s111 : (List G0)) => MInv b111 kx111 (AMap.l s85) i111 s111) (fun i111 s111 => [(8, .vec 1052 s111.length 4 s111.length), (47, .it 1055)]) (fun i111 s111 => [(1054, MP 109 G7.kv G0.av s85), (1052, .vec 83 4 s111.length (s111.map G0.av)), (1055, .iter 1054 (AMap.size s85) i111)]) [] (MInv.start h hp) ⟨⟨.same rfl, .same rfl, trivial⟩, ⟨⟨_, rfl, .map⟩, ⟨_, rfl, .vec⟩, ⟨_, rfl, .iter rfl⟩, trivial⟩, rfl⟩ ?_
  clear h hp
  intro i111 s111 hi111 K111 e111
  refine G6 fun K112 hK112 => G3 ?_
  refine JL_step rfl rfl rfl (A_nextM (m := s85) rfl rfl rfl rfl) ?_
  intro u_ L_ hn_
  rcases hn_ with ⟨q111, x111, he111, hs111, rfl, rfl⟩ | ⟨ha111, rfl, rfl⟩
  ·
   obtain ⟨o111, h, ho1_111, ho2_111⟩ := hi111.step he111 hs111
   replace h := app3 hb111 h
   refine G1 (u := BL true) (Gx rfl rfl rfl) ?_
   refine G9 (hK112 _ _ ?_)
   refine G6 (fun K113 hK113 => ?_)
   refine JC_condT rfl ?_
   refine Gp ?_
   refine hK113 _ _ ?_
   refine Gk ?_
   refine G6 fun K114 hK114 => G3 ?_
   refine G1 (u := .tup [.agg [G2 x111.1.Load, G2 x111.1.Discharge], .agg (G0.cs x111.2)]) (A_entryM (kv := G7.kv) (av := G0.av) (m := s85) (q := q111) (seen := i111) (e := x111) rfl rfl rfl rfl he111) ?_
   refine G1 (u := .agg (G0.cs x111.2)) (Gx rfl rfl rfl) ?_
   refine G1 (u := .ptr 1053 0) (H8 1053 4 Hw rfl rfl) ?_
   refine H6 (u := .junk) (Gz (u := .agg (G0.cs x111.2)) (ds := [G2 x111.2.G7.Load, G2 x111.2.G7.Discharge, G2 x111.2.Whole, G2 x111.2.Half]) tf_size_83 rfl rfl rfl rfl rfl rfl rfl rfl) ?_
   refine G9 (hK114 _ _ ?_)
   refine Gq [(8, .vec 1052 s111.length 4 s111.length), (10, .dptr (G0.cs x111.2)), (47, .it 1055)] [(1054, MP 109 G7.kv G0.av s85), (1052, .vec 83 4 s111.length (s111.map G0.av)), (1055, .iter 1054 (AMap.size s85) (i111 ++ [q111]))] 1053 rfl rfl rfl ⟨⟨_, rfl, .map⟩, ⟨_, rfl, .vec⟩, ⟨_, rfl, .iter rfl⟩, trivial⟩ rfl (by exact ⟨.conv (.same rfl), .ptr, .conv (.same rfl), trivial⟩) ?_
   refine G3 ?_
   refine G1 (u := .vec 1052 s111.length 4 s111.length) (G5 rfl rfl) ?_
   refine G1 (u := .agg (G0.cs x111.2)) (Gf Hv rfl rfl rfl) ?_
   refine G1 (u := LS 4 G0.av [x111.2]) (H1 (xs := [.agg (G0.cs x111.2)]) rfl ⟨rfl, rfl, trivial⟩ Gs Hw rfl rfl rfl rfl) ?_
   obtain ⟨ha115, h⟩ := He h
   refine G1 (u := .vec 1052 ((s111 ++ [x111.2]).length) 4 ((s111 ++ [x111.2]).length)) (A_vappendM (f := G0.av) (xs := s111) (ys := [x111.2]) (ver := s111.length) (ver1 := (s111 ++ [x111.2]).length) rfl rfl rfl rfl Gs tf_elem_83 ha115 (fun _ => rfl) (.inl rfl) (by simp)) ?_
   refine G1 (u := .vec 1052 ((s111 ++ [x111.2]).length) 4 ((s111 ++ [x111.2]).length)) (Ga rfl rfl) ?_
   refine G9 ?_
   exact e111 _ _ (i111 ++ [q111]) (s111 ++ [x111.2]) (ho2_111 _ (Option.some.inj h).symm) (unseen_lt (List.getElem?_eq_some_iff.1 he111).1 hs111) ⟨⟨.same rfl, .same rfl, trivial⟩, ⟨⟨_, rfl, .map⟩, ⟨_, rfl, .vec⟩, ⟨_, rfl, .iter rfl⟩, trivial⟩, rfl⟩
  ·
   obtain ⟨p_, h, hp⟩ := hi111.done ha111
   replace h := app1 hkx111 h
   refine G1 (u := BL false) (Gx rfl rfl rfl) ?_
   refine G9 (hK112 _ _ ?_)
   refine G6 (fun K116 hK116 => ?_)
   refine JC_condF rfl ?_
   refine H4 ?_
   refine hK101 _ _ ?_
   refine G6 fun K117 hK117 => G3 ?_
   refine G1 (u := .vec 1052 s111.length 4 s111.length) (G5 rfl rfl) ?_
   obtain ⟨r118, hr118, h⟩ := Gg h
   refine G1 (u := .tup []) (A_sortM (f := G0.av) (cmp := (fun z0 z1 => M_bound_Groups_1 z0 z1)) (xs := s111) (r := r118) G0.vs rfl sortLaw_34 sortNone_34 (fun _ => rfl) (fun _ => rfl) (fun _ => cells1 rfl) tf_call_34 tf_call_35 rfl rfl rfl rfl rfl hr118 (fun z0 z1 q hq => M_bound_Groups_1_w z0 z1 q hq) rfl) ?_
   refine G9 (hK117 _ _ ?_)
   refine G6 fun K119 hK119 => G3 ?_
   refine G1 (u := .vec 1052 s111.length 4 s111.length) (G5 rfl rfl) ?_
   refine G1 (u := .vec 1052 s111.length 4 s111.length) (Ga rfl rfl) ?_
   refine G9 (hK119 _ _ ?_)
   refine JC_vfreeze [(2, LS 4 G0.av r118)] [] 1052 rfl rfl trivial rfl (by exact ⟨.vec, trivial⟩) ?_
   refine Gt ?_
   exact ⟨[LS 4 G0.av r118], [], trivial, rfl, ⟨⟨_, rfl, .conv (.same rfl)⟩, trivial⟩, rfl, r118, Eq.mpr (Option.some.inj h) hp, rfl⟩
theorem M_bound_Groups_s (S_ : (List Box) → Option (List G0)) (hS_ : ∀ boxes r, S_ boxes = some r → ∃ p : Prop, M_bound_Groups boxes (fun r_ => r_ = r) = some p ∧ p) (boxes : List Box) (r : (List G0)) (h : S_ boxes = some r) : Pure Try.prog 13 [LS 9 Box.av boxes] (· = LS 4 G0.av r) := by
 obtain ⟨p, h1, h2⟩ := hS_ boxes r h
 exact (M_bound_Groups_w boxes _ p h1 h2).monoP (fun av hh => by obtain ⟨r_, rfl, ha⟩ := hh; exact ha)


theorem M_bound_Groups_pn (boxes : List Box) (Rp : (List G0) → Prop) (p : Prop) (h : M_bound_Groups boxes Rp = some p) (hp : p) : ACalls Try.prog 13 [LS 9 Box.av boxes] [] (fun av L' => ∃ p : Nat, ∃ r, Rp r ∧ av = .vec 1052 p 4 r.length ∧ L' = [(1052, .vec 83 4 p (r.map G0.av))]) := by
 unfold M_bound_Groups at h
 refine ACalls_ofG [] [.tmp 2] Try.func13 rfl rfl (inAll rfl) ?_
 refine G6 fun K1 hK1 => G3 ?_
 refine G1 (u := .vec 1048 (([] : List G0).length) 4 (([] : List G0).length)) (A_vnil 1048 83 4 rfl rfl rfl) ?_
 refine G9 (hK1 _ _ ?_)
 refine G6 fun K2 hK2 => G3 ?_
 refine G1 (u := .mp 1054) (A_makeMapM 1054 G7.kv G0.av rfl rfl) ?_
 refine G1 (u := .mp 1054) (Ga rfl rfl) ?_
 refine G9 (hK2 _ _ ?_)
 refine G6 (fun K3 hK3 => ?_)
 refine G6 fun K4 hK4 => G3 ?_
 refine G1 (u := LS 9 Box.av boxes) (G5 rfl rfl) ?_
 refine H9 (f := Box.av) (xs := boxes) Hp rfl rfl (fun hm13 => ?_) rfl rfl rfl
 refine G1 (u := G2 0) (G5 rfl rfl) ?_
 refine G9 (hK4 _ _ ?_)
 refine Gk ?_
 obtain ⟨b85, kx85, hb85, hkx85, h⟩ := Hj h
 refine H2 (fun i85 (s85 : (AMap G7 G0)) => each b85 kx85 (List.drop i85 boxes) i85 s85 = some p) (fun i85 s85 => [(3, .mp 1054), (12, LS 9 Box.av boxes), (13, G2 (boxes.length : Int)), (14, G2 (i85 : Int))]) (fun i85 s85 => [(1048, .vec 83 4 (([] : List G0).length) (([] : List G0).map G0.av)), (1054, MP 109 G7.kv G0.av s85)]) (fun i85 => boxes.length - i85) 0 (AMap.empty : AMap G7 G0) h ⟨(by repeat' constructor), ⟨⟨_, rfl, .vec⟩, ⟨_, rfl, .map⟩, trivial⟩, rfl⟩ ?_
 clear h
 intro i85 s85 hi85 K85 e85
 refine G6 fun K86 hK86 => G3 ?_
 refine G1 (u := BL (decide ((i85 : Int) < (boxes.length : Int)))) (Hg rfl rfl rfl) ?_
 refine G9 (hK86 _ _ ?_)
 refine G6 (fun K87 hK87 => ?_)
 refine Gm rfl (fun hb => ?_) (fun hb => ?_)
 ·
  have hk85 := lt_len hb
  obtain ⟨y85, nx85, hy85, hn85, h⟩ := Hc hi85 hk85
  replace h := app4 hb85 h
  refine Gp ?_
  refine hK87 _ _ ?_
  obtain ⟨kj88, hkj88, h⟩ := Jf h
  refine Ht (fun j88 : (AMap G7 G0) × Int × Int => kj88 j88 = some p) (fun j88 => [(3, .mp 1054), (12, LS 9 Box.av boxes), (13, G2 (boxes.length : Int)), (14, G2 (i85 : Int))]) (fun j88 => [(1048, .vec 83 4 (([] : List G0).length) (([] : List G0).map G0.av)), (1054, MP 109 G7.kv G0.av j88.1), (1051, .box 83 [G2 y85.Load, G2 y85.Discharge, G2 j88.2.1, G2 j88.2.2])]) (fun Kj88 ej88 => ?_) ?_
  ·
   refine Gk ?_
   refine G6 fun K89 hK89 => G3 ?_
   refine G1 (u := .dptr (Box.cs y85)) (Gw (f := Box.av) (xs := boxes) (y := y85) rfl rfl rfl Hp hy85 rfl) ?_
   refine G1 (u := .agg (Box.cs y85)) (Gf Jw rfl rfl rfl) ?_
   refine G1 (u := .ptr 1049 0) (H8 1049 9 Jd rfl rfl) ?_
   refine H6 (u := .junk) (Gz (u := .agg (Box.cs y85)) (ds := (Box.cs y85)) Jx rfl rfl rfl rfl rfl rfl rfl rfl) ?_
   refine G9 (hK89 _ _ ?_)
   refine Gq [(3, .mp 1054), (5, .dptr (Box.cs y85)), (12, LS 9 Box.av boxes), (13, G2 (boxes.length : Int)), (14, G2 (i85 : Int))] [(1048, .vec 83 4 (([] : List G0).length) (([] : List G0).map G0.av)), (1054, MP 109 G7.kv G0.av s85)] 1049 rfl rfl rfl ⟨⟨_, rfl, .vec⟩, ⟨_, rfl, .map⟩, trivial⟩ rfl (by repeat' (first | exact .ptr | constructor)) ?_
   refine G6 fun K90 hK90 => G3 ?_
   refine G1 (u := .dptr ((Box.cs y85).drop 5)) (Gd Jv rfl rfl rfl) ?_
   refine G1 (u := G2 y85.Load) (Gn Gc rfl rfl rfl) ?_
   refine G1 (u := .dptr ((Box.cs y85).drop 6)) (Gd tf_field_70_6 rfl rfl rfl) ?_
   refine G1 (u := G2 y85.Discharge) (Gn Gc rfl rfl rfl) ?_
   refine G1 (u := .agg [G2 y85.Load, G2 y85.Discharge]) (Hn (cs := [G2 y85.Load, G2 y85.Discharge]) [(0, 1), (1, 1)] [G2 0, G2 0] [.int .i64 0, .int .i64 0] tf_places_56 tf_zero_56 ⟨.inl rfl, .inl rfl, trivial⟩ rfl rfl) ?_
   refine G1 (u := .ptr 1050 0) (H8 1050 2 Jr rfl rfl) ?_
   refine H6 (u := .junk) (Gz (u := .agg [G2 y85.Load, G2 y85.Discharge]) (ds := [G2 y85.Load, G2 y85.Discharge]) tf_size_56 rfl rfl rfl rfl rfl rfl rfl rfl) ?_
   refine G9 (hK90 _ _ ?_)
   refine Gq [(3, .mp 1054), (5, .dptr (Box.cs y85)), (6, .dptr [G2 y85.Load, G2 y85.Discharge]), (12, LS 9 Box.av boxes), (13, G2 (boxes.length : Int)), (14, G2 (i85 : Int))] [(1048, .vec 83 4 (([] : List G0).length) (([] : List G0).map G0.av)), (1054, MP 109 G7.kv G0.av s85)] 1050 rfl rfl rfl ⟨⟨_, rfl, .vec⟩, ⟨_, rfl, .map⟩, trivial⟩ rfl (by repeat' (first | exact .ptr | constructor)) ?_
   refine G6 fun K91 hK91 => G3 ?_
   refine G1 (u := .mp 1054) (G5 rfl rfl) ?_
   refine G1 (u := .agg [G2 y85.Load, G2 y85.Discharge]) (Gf Hf rfl rfl rfl) ?_
   obtain ⟨v92, hv92, h⟩ := Gg h
   refine G1 (u := .agg (G0.cs v92)) (((Option.some.inj hv92) ▸ A_lookupM0 (av := G0.av) (m := s85) (a := (G7.mk y85.Load y85.Discharge)) (G0.mk (G7.mk 0 0) 0 0) (.agg #[.int .i64 0, .int .i64 0, .int .i64 0, .int .i64 0]) rfl rfl rfl rfl tk_56 tf_map_109 tf_zv_83 rfl)) ?_
   refine G1 (u := .ptr 1051 0) (H8 1051 4 Hw rfl rfl) ?_
   refine H6 (u := .junk) (Gz (u := .agg (G0.cs v92)) (ds := [G2 v92.G7.Load, G2 v92.G7.Discharge, G2 v92.Whole, G2 v92.Half]) tf_size_83 rfl rfl rfl rfl rfl rfl rfl rfl) ?_
   refine G9 (hK91 _ _ ?_)
   refine G6 fun K93 hK93 => G3 ?_
   refine G1 (u := .agg [G2 y85.Load, G2 y85.Discharge]) (Gf Hf rfl rfl rfl) ?_
   refine G1 (u := .ptr 1051 0) (Hi Ho rfl rfl) ?_
   refine H6 (u := .junk) (Gz (u := .agg [G2 y85.Load, G2 y85.Discharge]) (ds := [G2 y85.Load, G2 y85.Discharge, G2 v92.Whole, G2 v92.Half]) tf_size_56 rfl rfl rfl rfl rfl rfl rfl rfl) ?_
   refine G9 (hK93 _ _ ?_)
   obtain ⟨kj94, hkj94, h⟩ := Jf h
   refine Ht (fun j94 : Int × Int => kj94 j94 = some p) (fun j94 => [(3, .mp 1054), (6, .dptr [G2 y85.Load, G2 y85.Discharge]), (7, .ptr 1051 0), (12, LS 9 Box.av boxes), (13, G2 (boxes.length : Int)), (14, G2 (i85 : Int))]) (fun j94 => [(1048, .vec 83 4 (([] : List G0).length) (([] : List G0).map G0.av)), (1054, MP 109 G7.kv G0.av s85), (1051, .box 83 [G2 y85.Load, G2 y85.Discharge, G2 j94.1, G2 j94.2])]) (fun Kj94 ej94 => ?_) ?_
   ·
    refine G6 fun K95 hK95 => G3 ?_
    refine G1 (u := .dptr ((Box.cs y85).drop 2)) (Gd tf_field_70_2 rfl rfl rfl) ?_
    refine G1 (u := U8 y85.Size) (Gn Hk rfl rfl rfl) ?_
    refine G9 (hK95 _ _ ?_)
    refine Gk ?_
    refine G6 fun K96 hK96 => G3 ?_
    refine G1 (u := BL (decide (y85.Size = 40))) (Jb rfl rfl rfl) ?_
    refine G1 (u := BL (decide (y85.Size = 40))) (Ga rfl rfl) ?_
    refine G9 (hK96 _ _ ?_)
    refine Gm rfl (fun hb => ?_) (fun hb => ?_)
    ·
     replace h := bif_t hb h
     refine G3 ?_
     refine G1 (u := .ptr 1051 2) (Hi Ju rfl rfl) ?_
     refine G1 (u := G2 v92.Whole) (J5 Gc rfl rfl rfl rfl) ?_
     obtain ⟨v97, hv97, h⟩ := Gy h
     refine G1 (u := G2 v97) (H7 hv97 rfl rfl rfl) ?_
     refine G1 (u := .ptr 1051 2) (Hi Ju rfl rfl) ?_
     refine H6 (u := .junk) (Gz (u := G2 v97) (ds := [G2 y85.Load, G2 y85.Discharge, G2 v97, G2 v92.Half]) J0 rfl rfl rfl rfl rfl rfl rfl rfl) ?_
     refine G9 ?_
     exact ej94 _ _ (v97, v92.Half) h ⟨(by repeat' constructor), ⟨⟨_, rfl, .vec⟩, ⟨_, rfl, .map⟩, ⟨_, rfl, .boxL rfl (by repeat' constructor)⟩, trivial⟩, rfl⟩
    ·
     replace h := bif_f hb h
     refine G6 fun K98 hK98 => G3 ?_
     refine G1 (u := BL (decide (y85.Size = 20))) (Jb rfl rfl rfl) ?_
     refine G1 (u := BL (decide (y85.Size = 20))) (Ga rfl rfl) ?_
     refine G9 (hK98 _ _ ?_)
     refine Gm rfl (fun hb => ?_) (fun hb => ?_)
     ·
      replace h := bif_t hb h
      refine G3 ?_
      refine G1 (u := .ptr 1051 3) (Hi Jt rfl rfl) ?_
      refine G1 (u := G2 v92.Half) (J5 Gc rfl rfl rfl rfl) ?_
      obtain ⟨v99, hv99, h⟩ := Gy h
      refine G1 (u := G2 v99) (H7 hv99 rfl rfl rfl) ?_
      refine G1 (u := .ptr 1051 3) (Hi Jt rfl rfl) ?_
      refine H6 (u := .junk) (Gz (u := G2 v99) (ds := [G2 y85.Load, G2 y85.Discharge, G2 v92.Whole, G2 v99]) J0 rfl rfl rfl rfl rfl rfl rfl rfl) ?_
      refine G9 ?_
      exact ej94 _ _ (v92.Whole, v99) h ⟨(by repeat' constructor), ⟨⟨_, rfl, .vec⟩, ⟨_, rfl, .map⟩, ⟨_, rfl, .boxL rfl (by repeat' constructor)⟩, trivial⟩, rfl⟩
     ·
      replace h := bif_f hb h
      refine H4 ?_
      exact ej88 _ _ (s85, v92.Whole, v92.Half) h ⟨(by repeat' constructor), ⟨⟨_, rfl, .vec⟩, ⟨_, rfl, .map⟩, ⟨_, rfl, .boxL rfl (by repeat' constructor)⟩, trivial⟩, rfl⟩
   ·intro j94 h
    replace h := app1 hkj94 h
    refine G3 ?_
    refine G1 (u := .mp 1054) (G5 rfl rfl) ?_
    refine G1 (u := .agg [G2 y85.Load, G2 y85.Discharge]) (Gf Hf rfl rfl rfl) ?_
    refine G1 (u := .agg [G2 y85.Load, G2 y85.Discharge, G2 j94.1, G2 j94.2]) (A_loadAggL Hv rfl rfl rfl rfl) ?_
    refine H6 (u := .junk) (A_mapUpdateM (m := s85) (a := (G7.mk y85.Load y85.Discharge)) (v := (G0.mk (G7.mk y85.Load y85.Discharge) j94.1 j94.2)) rfl rfl rfl rfl rfl rfl tk_56 tf_map_109) ?_
    refine G9 ?_
    exact ej88 _ _ ((AMap.put s85 (G7.mk y85.Load y85.Discharge) (G0.mk (G7.mk y85.Load y85.Discharge) j94.1 j94.2)), j94.1, j94.2) h ⟨(by repeat' constructor), ⟨⟨_, rfl, .vec⟩, ⟨_, rfl, .map⟩, ⟨_, rfl, .boxL rfl (by repeat' constructor)⟩, trivial⟩, rfl⟩
  ·intro j88 h
   replace h := app1 hkj88 h
   refine G3 ?_
   refine G1 (u := G2 ((i85 + 1 : Nat) : Int)) (H7 (idx_succ hk85 hm13) rfl rfl rfl) ?_
   refine G1 (u := G2 ((i85 + 1 : Nat) : Int)) (G5 rfl rfl) ?_
   refine G9 ?_
   exact e85 _ _ (i85 + 1) j88.1 (app1 hn85 h) (by omega) ⟨(by repeat' constructor), ⟨⟨_, rfl, .vec⟩, ⟨_, rfl, .map⟩, trivial⟩, rfl⟩
 ·
  have h := app1 hkx85 (Hd hi85 (H3 hb))
  refine H4 ?_
  refine hK3 _ _ ?_
  refine G6 fun K100 hK100 => G3 ?_
  refine G1 (u := .vec 1052 (([] : List G0).length) 4 (([] : List G0).length)) (A_vnil 1052 83 4 rfl rfl rfl) ?_
  refine G9 (hK100 _ _ ?_)
  refine G6 (fun K101 hK101 => ?_)
  refine G6 fun K102 hK102 => G3 ?_
  refine G1 (u := .mp 1054) (G5 rfl rfl) ?_
  refine G1 (u := .it 1055) (A_rangeM 1055 (m := s85) rfl rfl rfl rfl tf_map_109) ?_
  refine G9 (hK102 _ _ ?_)
  refine Gk ?_
  obtain ⟨b111, kx111, hb111, hkx111, h⟩ := eachM_in h
  refine JC_loopM (AMap.size s85) (fun i111 (s111 : (List G0)) => MInv b111 kx111 (AMap.l s85) i111 s111) (fun i111 s111 => [(8, .vec 1052 s111.length 4 s111.length), (47, .it 1055)]) (fun i111 s111 => [(1048, .vec 83 4 (([] : List G0).length) (([] : List G0).map G0.av)), (1054, MP 109 G7.kv G0.av s85), (1052, .vec 83 4 s111.length (s111.map G0.av)), (1055, .iter 1054 (AMap.size s85) i111)]) [] (MInv.start h hp) ⟨⟨.same rfl, .same rfl, trivial⟩, ⟨⟨_, rfl, .vec⟩, ⟨_, rfl, .map⟩, ⟨_, rfl, .vec⟩, ⟨_, rfl, .iter rfl⟩, trivial⟩, rfl⟩ ?_
  clear h hp
  intro i111 s111 hi111 K111 e111
  refine G6 fun K112 hK112 => G3 ?_
  refine JL_step rfl rfl rfl (A_nextM (m := s85) rfl rfl rfl rfl) ?_
  intro u_ L_ hn_
  rcases hn_ with ⟨q111, x111, he111, hs111, rfl, rfl⟩ | ⟨ha111, rfl, rfl⟩
  ·
   obtain ⟨o111, h, ho1_111, ho2_111⟩ := hi111.step he111 hs111
   replace h := app3 hb111 h
   refine G1 (u := BL true) (Gx rfl rfl rfl) ?_
   refine G9 (hK112 _ _ ?_)
   refine G6 (fun K113 hK113 => ?_)
   refine JC_condT rfl ?_
   refine Gp ?_
   refine hK113 _ _ ?_
   refine Gk ?_
   refine G6 fun K114 hK114 => G3 ?_
   refine G1 (u := .tup [.agg [G2 x111.1.Load, G2 x111.1.Discharge], .agg (G0.cs x111.2)]) (A_entryM (kv := G7.kv) (av := G0.av) (m := s85) (q := q111) (seen := i111) (e := x111) rfl rfl rfl rfl he111) ?_
   refine G1 (u := .agg (G0.cs x111.2)) (Gx rfl rfl rfl) ?_
   refine G1 (u := .ptr 1053 0) (H8 1053 4 Hw rfl rfl) ?_
   refine H6 (u := .junk) (Gz (u := .agg (G0.cs x111.2)) (ds := [G2 x111.2.G7.Load, G2 x111.2.G7.Discharge, G2 x111.2.Whole, G2 x111.2.Half]) tf_size_83 rfl rfl rfl rfl rfl rfl rfl rfl) ?_
   refine G9 (hK114 _ _ ?_)
   refine Gq [(8, .vec 1052 s111.length 4 s111.length), (10, .dptr (G0.cs x111.2)), (47, .it 1055)] [(1048, .vec 83 4 (([] : List G0).length) (([] : List G0).map G0.av)), (1054, MP 109 G7.kv G0.av s85), (1052, .vec 83 4 s111.length (s111.map G0.av)), (1055, .iter 1054 (AMap.size s85) (i111 ++ [q111]))] 1053 rfl rfl rfl ⟨⟨_, rfl, .vec⟩, ⟨_, rfl, .map⟩, ⟨_, rfl, .vec⟩, ⟨_, rfl, .iter rfl⟩, trivial⟩ rfl (by exact ⟨.conv (.same rfl), .ptr, .conv (.same rfl), trivial⟩) ?_
   refine G3 ?_
   refine G1 (u := .vec 1052 s111.length 4 s111.length) (G5 rfl rfl) ?_
   refine G1 (u := .agg (G0.cs x111.2)) (Gf Hv rfl rfl rfl) ?_
   refine G1 (u := LS 4 G0.av [x111.2]) (H1 (xs := [.agg (G0.cs x111.2)]) rfl ⟨rfl, rfl, trivial⟩ Gs Hw rfl rfl rfl rfl) ?_
   obtain ⟨ha115, h⟩ := He h
   refine G1 (u := .vec 1052 ((s111 ++ [x111.2]).length) 4 ((s111 ++ [x111.2]).length)) (A_vappendM (f := G0.av) (xs := s111) (ys := [x111.2]) (ver := s111.length) (ver1 := (s111 ++ [x111.2]).length) rfl rfl rfl rfl Gs tf_elem_83 ha115 (fun _ => rfl) (.inl rfl) (by simp)) ?_
   refine G1 (u := .vec 1052 ((s111 ++ [x111.2]).length) 4 ((s111 ++ [x111.2]).length)) (Ga rfl rfl) ?_
   refine G9 ?_
   exact e111 _ _ (i111 ++ [q111]) (s111 ++ [x111.2]) (ho2_111 _ (Option.some.inj h).symm) (unseen_lt (List.getElem?_eq_some_iff.1 he111).1 hs111) ⟨⟨.same rfl, .same rfl, trivial⟩, ⟨⟨_, rfl, .vec⟩, ⟨_, rfl, .map⟩, ⟨_, rfl, .vec⟩, ⟨_, rfl, .iter rfl⟩, trivial⟩, rfl⟩
  ·
   obtain ⟨p_, h, hp⟩ := hi111.done ha111
   replace h := app1 hkx111 h
   refine G1 (u := BL false) (Gx rfl rfl rfl) ?_
   refine G9 (hK112 _ _ ?_)
   refine G6 (fun K116 hK116 => ?_)
   refine JC_condF rfl ?_
   refine H4 ?_
   refine hK101 _ _ ?_
   refine G6 fun K117 hK117 => G3 ?_
   refine G1 (u := .vec 1052 s111.length 4 s111.length) (G5 rfl rfl) ?_
   obtain ⟨r118, hr118, h⟩ := Gg h
   refine G1 (u := .tup []) (A_sortM (f := G0.av) (cmp := (fun z0 z1 => M_bound_Groups_1 z0 z1)) (xs := s111) (r := r118) G0.vs rfl sortLaw_34 sortNone_34 (fun _ => rfl) (fun _ => rfl) (fun _ => cells1 rfl) tf_call_34 tf_call_35 rfl rfl rfl rfl rfl hr118 (fun z0 z1 q hq => M_bound_Groups_1_w z0 z1 q hq) rfl) ?_
   refine G9 (hK117 _ _ ?_)
   refine G6 fun K119 hK119 => G3 ?_
   refine G1 (u := .vec 1052 s111.length 4 s111.length) (G5 rfl rfl) ?_
   refine G1 (u := .vec 1052 s111.length 4 s111.length) (Ga rfl rfl) ?_
   refine G9 (hK119 _ _ ?_)
   refine JC_vlen 2 rfl rfl (fun hn_ => ?_)
   refine Gt ?_
   exact ⟨[.vec 1052 s111.length 4 s111.length], [(1052, .vec 83 4 s111.length (r118.map G0.av))], ⟨⟨_, rfl, .vec⟩, trivial⟩, rfl, ⟨⟨_, rfl, .conv (.same rfl)⟩, trivial⟩, s111.length, r118, Eq.mpr (Option.some.inj h) hp, congrArg (fun n_ : Nat => (.vec 1052 s111.length 4 n_ : AV)) (hn_.trans (List.length_map _)), rfl⟩
theorem M_bound_Groups_sn (S_ : (List Box) → Option (List G0)) (hS_ : ∀ boxes r, S_ boxes = some r → ∃ p : Prop, M_bound_Groups boxes (fun r_ => r_ = r) = some p ∧ p) (boxes : List Box) (r : (List G0)) (h : S_ boxes = some r) : ACalls Try.prog 13 [LS 9 Box.av boxes] [] (fun av L' => ∃ p : Nat, av = .vec 1052 p 4 r.length ∧ L' = [(1052, .vec 83 4 p (r.map G0.av))]) := by
 obtain ⟨p, h1, h2⟩ := hS_ boxes r h
 exact (M_bound_Groups_pn boxes _ p h1 h2).mono (fun av L hh => by obtain ⟨q, r_, rfl, ha, hb⟩ := hh; exact ⟨q, ha, hb⟩)
end
end Go.Proofs.Ytlhfflmknlfafaa
