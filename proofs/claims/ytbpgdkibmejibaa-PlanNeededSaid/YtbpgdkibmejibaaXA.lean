/-
 Models of functions of the program, and that they return what the models say.
-/
import Derived.Test.YtbpgdkibmejibaaProg
import Derived.Test.YtbpgdkibmejibaaSortM
import Derived.Test.YtbpgdkibmejibaaSortLay
import Derived.Test.YtbpgdkibmejibaaRel
import Derived.Test.YtbpgdkibmejibaaLit0
set_option maxRecDepth 100000
set_option linter.unusedVariables false
set_option linter.unusedSimpArgs false
namespace Go.Proofs.Ytbpgdkibmejibaa
open Go.RowKit
noncomputable section
structure ship_span where
 n : Int
 low : Int
 high : Int
 deriving DecidableEq, Inhabited
def ship_span.cs (x : ship_span) : List AV := [I64 x.n, I64 x.low, I64 x.high]
def ship_span.av (x : ship_span) : AV := .agg x.cs
structure Column where
 Bay : Int
 Row : Int
 Deck : Bool
 Tiers : Int
 Height : Int
 Kilos20 : Int
 Kilos40 : Int
 Lash : Int
 Plugs : List Int
 X : Int
 Y : Int
 Z : Int
 deriving DecidableEq, Inhabited
def Column.cs (x : Column) : List AV := [I64 x.Bay, I64 x.Row, BL x.Deck, I64 x.Tiers, I64 x.Height, I64 x.Kilos20, I64 x.Kilos40, I64 x.Lash, LS 1 I64 x.Plugs, I64 x.X, I64 x.Y, I64 x.Z]
def Column.av (x : Column) : AV := .agg x.cs
structure Cover where
 Bay : Int
 Rows : List Int
 deriving DecidableEq, Inhabited
def Cover.cs (x : Cover) : List AV := [I64 x.Bay, LS 1 I64 x.Rows]
def Cover.av (x : Cover) : AV := .agg x.cs
structure Light where
 Kilos : Int
 X : Int
 Y : Int
 Z : Int
 deriving DecidableEq, Inhabited
def Light.cs (x : Light) : List AV := [I64 x.Kilos, I64 x.X, I64 x.Y, I64 x.Z]
def Light.av (x : Light) : AV := .agg x.cs
structure Row where
 Draught : Int
 Kilos : Int
 Buoy : Int
 Metacentre : Int
 Turn : Int
 deriving DecidableEq, Inhabited
def Row.cs (x : Row) : List AV := [I64 x.Draught, I64 x.Kilos, I64 x.Buoy, I64 x.Metacentre, I64 x.Turn]
def Row.av (x : Row) : AV := .agg x.cs
structure Frame where
 X : Int
 Light : Int
 Share : Int
 Shear : Int
 Bend : Int
 deriving DecidableEq, Inhabited
def Frame.cs (x : Frame) : List AV := [I64 x.X, I64 x.Light, I64 x.Share, I64 x.Shear, I64 x.Bend]
def Frame.av (x : Frame) : AV := .agg x.cs
structure Tank where
 Kilos : Int
 X : Int
 Y : Int
 Z : Int
 Surface : Int
 Steps : List Int
 deriving DecidableEq, Inhabited
def Tank.cs (x : Tank) : List AV := [I64 x.Kilos, I64 x.X, I64 x.Y, I64 x.Z, I64 x.Surface, LS 1 I64 x.Steps]
def Tank.av (x : Tank) : AV := .agg x.cs
structure Limits where
 Tolerance : Int
 Trim : Int
 List_ : Int
 Stability : Int
 deriving DecidableEq, Inhabited
def Limits.cs (x : Limits) : List AV := [I64 x.Tolerance, I64 x.Trim, I64 x.List_, I64 x.Stability]
def Limits.av (x : Limits) : AV := .agg x.cs
structure Ship where
 Columns : List Column
 Covers : List Cover
 Light : Light
 Rows : List Row
 Frames : List Frame
 Tanks : List Tank
 Limits : Limits
 deriving DecidableEq, Inhabited
def Ship.cs (x : Ship) : List AV := [LS 12 Column.av x.Columns, LS 2 Cover.av x.Covers, I64 x.Light.Kilos, I64 x.Light.X, I64 x.Light.Y, I64 x.Light.Z, LS 5 Row.av x.Rows, LS 5 Frame.av x.Frames, LS 6 Tank.av x.Tanks, I64 x.Limits.Tolerance, I64 x.Limits.Trim, I64 x.Limits.List_, I64 x.Limits.Stability]
def Ship.av (x : Ship) : AV := .agg x.cs
structure Arr3Int where
 e0 : Int
 e1 : Int
 e2 : Int
 deriving DecidableEq, Inhabited
def Arr3Int.cs (x : Arr3Int) : List AV := [I64 x.e0, I64 x.e1, I64 x.e2]
def Arr3Int.av (x : Arr3Int) : AV := .agg x.cs
def Arr3Int.ks (x : Arr3Int) : List Value := [.int .i64 x.e0, .int .i64 x.e1, .int .i64 x.e2]
def Arr3Int.kv (x : Arr3Int) : Value := .agg x.ks.toArray
structure Slot where
 Column : Int
 Tier : Int
 Half : Int
 deriving DecidableEq, Inhabited
def Slot.cs (x : Slot) : List AV := [I64 x.Column, I64 x.Tier, U8 x.Half]
def Slot.av (x : Slot) : AV := .agg x.cs
structure Stowed where
 Box : Int
 Slot : Slot
 deriving DecidableEq, Inhabited
def Stowed.cs (x : Stowed) : List AV := [I64 x.Box, I64 x.Slot.Column, I64 x.Slot.Tier, U8 x.Slot.Half]
def Stowed.av (x : Stowed) : AV := .agg x.cs
structure Plan where
 States : List (List Stowed)
 Water : List (List Int)
 deriving DecidableEq, Inhabited
def Plan.cs (x : Plan) : List AV := [LS 1 (LS 4 Stowed.av) x.States, LS 1 (LS 1 I64) x.Water]
def Plan.av (x : Plan) : AV := .agg x.cs
namespace XAF
theorem tq_130 (a b : Arr3Int) : eqAt Try.prog 4 130 [.int .i64 a.e0, .int .i64 a.e1, .int .i64 a.e2] [.int .i64 b.e0, .int .i64 b.e1, .int .i64 b.e2] = some (decide (a = b)) := by
 refine (show _ = some ((a.e0 == b.e0) && ((a.e1 == b.e1) && ((a.e2 == b.e2) && true))) by kernel_rfl).trans (congrArg some ?_)
 rw [Bool.eq_iff_iff]
 simp only [Bool.and_eq_true, beq_iff_eq, decide_eq_true_eq, Bool.and_true]
 constructor
 ·intro h; obtain ⟨_, _, _⟩ := a; obtain ⟨_, _, _⟩ := b; simp_all
 ·intro h; subst h; simp
theorem tf_agg_147 : aggB Try.prog 147 3 = true := by kernel_rfl
theorem tf_agg_72 : aggB Try.prog 72 12 = true := by kernel_rfl
theorem tf_agg_76 : aggB Try.prog 76 2 = true := by kernel_rfl
theorem tf_arr_130 : arrB Try.prog 130 3 1 = true := by kernel_rfl
theorem tf_call_56 : callB Try.prog 56 = true := by kernel_rfl
theorem tf_call_57 : callB Try.prog 57 = true := by kernel_rfl
theorem tf_call_69 : callB Try.prog 69 = true := by kernel_rfl
theorem tf_field_147_0 : fieldB Try.prog 147 0 0 = true := by kernel_rfl
theorem tf_field_147_1 : fieldB Try.prog 147 1 1 = true := by kernel_rfl
theorem tf_field_147_2 : fieldB Try.prog 147 2 2 = true := by kernel_rfl
theorem tf_field_35_0 : fieldB Try.prog 35 0 0 = true := by kernel_rfl
theorem tf_field_35_1 : fieldB Try.prog 35 1 1 = true := by kernel_rfl
theorem tf_field_59_0 : fieldB Try.prog 59 0 0 = true := by kernel_rfl
theorem tf_field_72_0 : fieldB Try.prog 72 0 0 = true := by kernel_rfl
theorem tf_field_72_1 : fieldB Try.prog 72 1 1 = true := by kernel_rfl
theorem tf_field_72_10 : fieldB Try.prog 72 10 10 = true := by kernel_rfl
theorem tf_field_72_11 : fieldB Try.prog 72 11 11 = true := by kernel_rfl
theorem tf_field_72_2 : fieldB Try.prog 72 2 2 = true := by kernel_rfl
theorem tf_field_72_3 : fieldB Try.prog 72 3 3 = true := by kernel_rfl
theorem tf_field_72_4 : fieldB Try.prog 72 4 4 = true := by kernel_rfl
theorem tf_field_72_5 : fieldB Try.prog 72 5 5 = true := by kernel_rfl
theorem tf_field_72_6 : fieldB Try.prog 72 6 6 = true := by kernel_rfl
theorem tf_field_72_7 : fieldB Try.prog 72 7 7 = true := by kernel_rfl
theorem tf_field_72_8 : fieldB Try.prog 72 8 8 = true := by kernel_rfl
theorem tf_field_72_9 : fieldB Try.prog 72 9 9 = true := by kernel_rfl
theorem tf_field_76_0 : fieldB Try.prog 76 0 0 = true := by kernel_rfl
theorem tf_field_76_1 : fieldB Try.prog 76 1 1 = true := by kernel_rfl
theorem tf_map_129 : mapB Try.prog 129 130 3 = true := by kernel_rfl
theorem tf_mixed : Try.prog.follows .mixedOrders = true := by kernel_rfl
theorem tf_places_147 : placesOf Try.prog 147 = some [(0, 1), (1, 1), (2, 1)] := by kernel_rfl
theorem tf_places_80 : placesOf Try.prog 80 = some [(0, 1), (1, 1), (2, 1)] := by kernel_rfl
theorem tf_scalar_25 : scalarB Try.prog 25 = true := by kernel_rfl
theorem tf_scalar_26 : scalarB Try.prog 26 = true := by kernel_rfl
theorem tf_scalar_3 : scalarB Try.prog 3 = true := by kernel_rfl
theorem tf_scalar_4 : scalarB Try.prog 4 = true := by kernel_rfl
theorem tf_scalar_40 : scalarB Try.prog 40 = true := by kernel_rfl
theorem tf_scalar_43 : scalarB Try.prog 43 = true := by kernel_rfl
theorem tf_scalar_5 : scalarB Try.prog 5 = true := by kernel_rfl
theorem tf_scalar_56 : scalarB Try.prog 56 = true := by kernel_rfl
theorem tf_size_147 : sizeB Try.prog 147 3 = true := by kernel_rfl
theorem tf_size_72 : sizeB Try.prog 72 12 = true := by kernel_rfl
theorem tf_size_76 : sizeB Try.prog 76 2 = true := by kernel_rfl
theorem tf_slice_127 : sliceB Try.prog 127 5 1 = true := by kernel_rfl
theorem tf_slice_145 : sliceB Try.prog 145 147 3 = true := by kernel_rfl
theorem tf_slice_25 : sliceB Try.prog 25 72 12 = true := by kernel_rfl
theorem tf_slice_26 : sliceB Try.prog 26 76 2 = true := by kernel_rfl
theorem tf_slice_43 : sliceB Try.prog 43 3 1 = true := by kernel_rfl
theorem tf_slice_56 : sliceB Try.prog 56 40 1 = true := by kernel_rfl
theorem tf_zero_130 : (Try.prog.info? 130).bind (fun i => i.zero.map Value.cells) = some (List.toArray [.int .i64 0, .int .i64 0, .int .i64 0]) := by kernel_rfl
theorem tf_zero_147 : (Try.prog.info? 147).bind (fun i => i.zero.map Value.cells) = some (List.toArray [.int .i64 0, .int .i64 0, .int .i64 0]) := by kernel_rfl
theorem tf_zero_80 : (Try.prog.info? 80).bind (fun i => i.zero.map Value.cells) = some (List.toArray [.int .i64 0, .int .i64 0, .int .u8 0]) := by kernel_rfl
theorem tf_zsize_147 : zsizeB Try.prog 147 3 = true := by kernel_rfl
theorem tf_zsize_5 : zsizeB Try.prog 5 1 = true := by kernel_rfl
theorem tf_zsize_72 : zsizeB Try.prog 72 12 = true := by kernel_rfl
theorem tf_zsize_76 : zsizeB Try.prog 76 2 = true := by kernel_rfl
theorem tf_zv_3 : (Try.prog.info? 3).bind (·.zero) = some (.int .i64 0) := by kernel_rfl
theorem tk_130 : KeyL Try.prog 130 Arr3Int.kv := KeyL.of_eq Arr3Int.ks (by kernel_rfl) (fun a b h => by simp only [Arr3Int.ks, List.cons.injEq, Value.int.injEq, Value.bool.injEq, Value.string.injEq, true_and, and_true] at h; obtain ⟨_, _, _⟩ := a; obtain ⟨_, _, _⟩ := b; simp_all) 4 (by decide) (fun a b => tq_130 a b) (fun a => by kernel_rfl) (fun a => by simp [Instr.sameBits, Arr3Int.ks])
end XAF
open XAF

def M_ship_right_1 (l : List ship_span) : Option Bool :=
 each (fun y18 i18 (s18 : Unit) nx18 =>
  bif ((decide (y18.n < y18.low)) || (decide (y18.high < y18.n))) then
  (some false)
  else
  (nx18 ()))
 (fun (s18 : Unit) =>
  some true) l 0 ()
theorem M_ship_right_1_w (l : List ship_span) (r : Bool) (h : M_ship_right_1 l = some r) : Pure Try.prog 69 [LS 3 ship_span.av l] (· = BL r) := by
 unfold M_ship_right_1 at h
 refine Pure_ofG [.tmp 2] Try.func69 rfl rfl ?_
 refine Js fun K1 hK1 => Jr ?_
 refine Jg (u := BL false) (Aa rfl rfl) ?_ rfl rfl rfl
 refine Jn (hK1 _ _ ?_)
 refine Js (fun K2 hK2 => ?_)
 refine Js fun K3 hK3 => Jr ?_
 refine Jg (u := LS 3 ship_span.av l) (Am rfl rfl) ?_ rfl rfl rfl
 refine JL_lenM (f := ship_span.av) (xs := l) tf_slice_145 rfl rfl (fun hm6 => ?_) rfl rfl rfl
 refine Jg (u := I64 0) (Am rfl rfl) ?_ rfl rfl rfl
 refine Jn (hK3 _ _ ?_)
 refine JC_block ?_
 obtain ⟨b18, kx18, hb18, hkx18, h⟩ := each_in h
 refine JC_loop2 (fun i18 (s18 : Unit) => each b18 kx18 (List.drop i18 l) i18 s18 = some r) (fun i18 s18 => [(5, LS 3 ship_span.av l), (6, I64 (l.length : Int)), (7, I64 (i18 : Int))]) (fun i18 s18 => []) (fun i18 => l.length - i18) 0 () h ⟨⟨.same rfl, .same rfl, .same rfl, trivial⟩, trivial, rfl⟩ ?_
 clear h
 intro i18 s18 hi18 K18 e18
 refine Js fun K19 hK19 => Jr ?_
 refine Jg (u := BL (decide ((i18 : Int) < (l.length : Int)))) (A_lss rfl rfl rfl) ?_ rfl rfl rfl
 refine Jn (hK19 _ _ ?_)
 refine Js (fun K20 hK20 => ?_)
 refine JC_cond rfl (fun hb => ?_) (fun hb => ?_)
 ·
  have hk18 := lt_len hb
  obtain ⟨y18, nx18, hy18, hn18, h⟩ := each_out hi18 hk18
  replace h := app4 hb18 h
  refine JC_skip ?_
  refine hK20 _ _ ?_
  refine Js (fun K21 hK21 => ?_)
  refine JC_block ?_
  refine Js fun K22 hK22 => Jr ?_
  refine Jg (u := .dptr [I64 y18.n, I64 y18.low, I64 y18.high]) (A_indexM (f := ship_span.av) (xs := l) (y := y18) rfl rfl rfl tf_slice_145 hy18 rfl) ?_ rfl rfl rfl
  refine Jg (u := .agg [I64 y18.n, I64 y18.low, I64 y18.high]) (A_loadAgg tf_agg_147 rfl rfl rfl) ?_ rfl rfl rfl
  refine Jg (u := .ptr 1144 0) (A_allocJ 1144 3 tf_zsize_147 rfl rfl) ?_ rfl rfl rfl
  refine JL_go0 (u := .junk) (A_store (u := .agg [I64 y18.n, I64 y18.low, I64 y18.high]) (ds := [I64 y18.n, I64 y18.low, I64 y18.high]) tf_size_147 rfl rfl rfl rfl rfl rfl rfl rfl) ?_ rfl rfl
  refine Jn (hK22 _ _ ?_)
  refine JC_freeze [(4, .dptr [I64 y18.n, I64 y18.low, I64 y18.high]), (5, LS 3 ship_span.av l), (6, I64 (l.length : Int)), (7, I64 (i18 : Int))] [] 1144 rfl rfl rfl trivial rfl (by exact ⟨.ptr, .conv (.same rfl), .conv (.same rfl), .conv (.same rfl), trivial⟩) ?_
  refine Js fun K23 hK23 => Jr ?_
  refine Jg (u := .dptr [I64 y18.n, I64 y18.low, I64 y18.high]) (A_fieldM tf_field_147_0 rfl rfl rfl) ?_ rfl rfl rfl
  refine Jg (u := I64 y18.n) (A_load tf_scalar_3 rfl rfl rfl) ?_ rfl rfl rfl
  refine Jg (u := .dptr [I64 y18.low, I64 y18.high]) (A_fieldM tf_field_147_1 rfl rfl rfl) ?_ rfl rfl rfl
  refine Jg (u := I64 y18.low) (A_load tf_scalar_3 rfl rfl rfl) ?_ rfl rfl rfl
  refine Jg (u := BL (decide (y18.n < y18.low))) (A_lss rfl rfl rfl) ?_ rfl rfl rfl
  refine Jg (u := BL (decide (y18.n < y18.low))) (Am rfl rfl) ?_ rfl rfl rfl
  refine JL_opt (u := .dptr [I64 y18.n, I64 y18.low, I64 y18.high]) [] rfl rfl rfl .scf trivial (fun hc => A_fieldM tf_field_147_0 rfl rfl rfl) ?_ rfl rfl rfl
  refine JL_opt (u := I64 y18.n) [(17, .dptr [I64 y18.n, I64 y18.low, I64 y18.high])] rfl rfl rfl .scf ⟨.all id, trivial⟩ (fun hc => A_load tf_scalar_3 rfl rfl rfl) ?_ rfl rfl rfl
  refine JL_opt (u := .dptr [I64 y18.high]) [] rfl rfl rfl .scf trivial (fun hc => A_fieldM tf_field_147_2 rfl rfl rfl) ?_ rfl rfl rfl
  refine JL_opt (u := I64 y18.high) [(19, .dptr [I64 y18.high])] rfl rfl rfl .scf ⟨.all id, trivial⟩ (fun hc => A_load tf_scalar_3 rfl rfl rfl) ?_ rfl rfl rfl
  refine JL_opt (u := BL (decide (y18.high < y18.n))) [(18, I64 y18.n), (20, I64 y18.high)] rfl rfl rfl .scf ⟨.all id, .all id, trivial⟩ (fun hc => A_gtr rfl rfl rfl) ?_ rfl rfl rfl
  refine Jg (u := BL ((decide (y18.n < y18.low)) || (decide (y18.high < y18.n)))) (A_or rfl rfl rfl rfl) ?_ rfl rfl rfl
  refine Jn (hK23 _ _ ?_)
  refine JC_cond rfl (fun hb => ?_) (fun hb => ?_)
  ·
   replace h := bif_t hb h
   refine Js fun K24 hK24 => Jr ?_
   refine Jg (u := BL false) (Aa rfl rfl) ?_ rfl rfl rfl
   refine Jn (hK24 _ _ ?_)
   refine JC_ret ?_
   exact ⟨[BL false], [], trivial, rfl, ⟨⟨_, rfl, .conv (.same rfl)⟩, trivial⟩, rfl, congrArg (fun r : Bool => (BL r : AV)) (Option.some.inj h)⟩
  ·
   replace h := bif_f hb h
   refine JC_skip ?_
   refine hK21 _ _ ?_
   refine Jr ?_
   refine Jg (u := I64 ((i18 + 1 : Nat) : Int)) (A_add (idx_succ hk18 hm6) rfl rfl rfl) ?_ rfl rfl rfl
   refine Jg (u := I64 ((i18 + 1 : Nat) : Int)) (Am rfl rfl) ?_ rfl rfl rfl
   refine Jn ?_
   exact e18 _ _ (i18 + 1) () (app1 hn18 h) (by omega) ⟨⟨.same rfl, .same rfl, .same rfl, trivial⟩, trivial, rfl⟩
 ·
  have h := app1 hkx18 (each_nil hi18 (not_lt_len hb))
  refine JC_exit ?_
  refine hK2 _ _ ?_
  refine Js fun K25 hK25 => Jr ?_
  refine Jg (u := BL true) (Aa rfl rfl) ?_ rfl rfl rfl
  refine Jn (hK25 _ _ ?_)
  refine JC_ret ?_
  exact ⟨[BL true], [], trivial, rfl, ⟨⟨_, rfl, .conv (.same rfl)⟩, trivial⟩, rfl, congrArg (fun r : Bool => (BL r : AV)) (Option.some.inj h)⟩

def M_ship_right (c : Column) : Option Bool :=
 each (fun y27 i27 (s27 : Unit) nx27 =>
  chk (c.Tiers - 1) fun v33 =>
  bnd (M_ship_right_1 [(ship_span.mk y27 0 v33)]) fun r34 =>
  bnd (bif ((!(!r34)) && (decide (0 < (i27 : Int)))) then chk ((i27 : Int) - 1) some else some 0) fun v35 =>
  bnd (bif ((!(!r34)) && (decide (0 < (i27 : Int)))) then gidx c.Plugs v35 some else some default) fun y36 =>
  bif ((!r34) || ((decide (0 < (i27 : Int))) && (decide (y27 ≤ y36)))) then
  (some false)
  else
  (nx27 ()))
 (fun (s27 : Unit) =>
  bnd (M_ship_right_1 [(ship_span.mk c.Bay 0 39), (ship_span.mk c.Row 0 30), (ship_span.mk c.Tiers 1 10), (ship_span.mk c.Height 0 40000), (ship_span.mk c.Kilos20 0 500000000), (ship_span.mk c.Kilos40 0 500000000), (ship_span.mk c.Lash 0 1000000000000), (ship_span.mk c.X (-500000) 500000), (ship_span.mk c.Y (-500000) 500000), (ship_span.mk c.Z (-500000) 500000)]) fun r39 =>
  some r39) c.Plugs 0 ()
theorem M_ship_right_w (c : Column) (r : Bool) (h : M_ship_right c = some r) : Pure Try.prog 57 [.agg [I64 c.Bay, I64 c.Row, BL c.Deck, I64 c.Tiers, I64 c.Height, I64 c.Kilos20, I64 c.Kilos40, I64 c.Lash, LS 1 I64 c.Plugs, I64 c.X, I64 c.Y, I64 c.Z]] (· = BL r) := by
 unfold M_ship_right at h
 refine Pure_ofG [.tmp 2] Try.func57 rfl rfl ?_
 refine Js fun K1 hK1 => Jr ?_
 refine Jg (u := .ptr 1134 0) (A_box (u := .agg [I64 c.Bay, I64 c.Row, BL c.Deck, I64 c.Tiers, I64 c.Height, I64 c.Kilos20, I64 c.Kilos40, I64 c.Lash, LS 1 I64 c.Plugs, I64 c.X, I64 c.Y, I64 c.Z]) (cs := [I64 c.Bay, I64 c.Row, BL c.Deck, I64 c.Tiers, I64 c.Height, I64 c.Kilos20, I64 c.Kilos40, I64 c.Lash, LS 1 I64 c.Plugs, I64 c.X, I64 c.Y, I64 c.Z]) 1134 rfl rfl rfl rfl rfl) ?_ rfl rfl rfl
 refine Jg (u := BL false) (Aa rfl rfl) ?_ rfl rfl rfl
 refine Jn (hK1 _ _ ?_)
 refine JC_freeze [(1, .dptr [I64 c.Bay, I64 c.Row, BL c.Deck, I64 c.Tiers, I64 c.Height, I64 c.Kilos20, I64 c.Kilos40, I64 c.Lash, LS 1 I64 c.Plugs, I64 c.X, I64 c.Y, I64 c.Z])] [] 1134 rfl rfl rfl trivial rfl (by exact ⟨.ptr, trivial⟩) ?_
 refine Js fun K2 hK2 => Jr ?_
 refine Jg (u := .fn 69 []) (Aa rfl rfl) ?_ rfl rfl rfl
 refine Jn (hK2 _ _ ?_)
 refine Js (fun K3 hK3 => ?_)
 refine Js fun K4 hK4 => Jr ?_
 refine Jg (u := .dptr [LS 1 I64 c.Plugs, I64 c.X, I64 c.Y, I64 c.Z]) (A_fieldM tf_field_72_8 rfl rfl rfl) ?_ rfl rfl rfl
 refine Jg (u := LS 1 I64 c.Plugs) (A_load tf_scalar_43 rfl rfl rfl) ?_ rfl rfl rfl
 refine JL_lenM (f := I64) (xs := c.Plugs) tf_slice_43 rfl rfl (fun hm8 => ?_) rfl rfl rfl
 refine Jg (u := I64 0) (Am rfl rfl) ?_ rfl rfl rfl
 refine Jn (hK4 _ _ ?_)
 refine JC_block ?_
 obtain ⟨b27, kx27, hb27, hkx27, h⟩ := each_in h
 refine JC_loop2 (fun i27 (s27 : Unit) => each b27 kx27 (List.drop i27 c.Plugs) i27 s27 = some r) (fun i27 s27 => [(1, .dptr [I64 c.Bay, I64 c.Row, BL c.Deck, I64 c.Tiers, I64 c.Height, I64 c.Kilos20, I64 c.Kilos40, I64 c.Lash, LS 1 I64 c.Plugs, I64 c.X, I64 c.Y, I64 c.Z]), (3, .fn 69 []), (7, LS 1 I64 c.Plugs), (8, I64 (c.Plugs.length : Int)), (9, I64 (i27 : Int))]) (fun i27 s27 => []) (fun i27 => c.Plugs.length - i27) 0 () h ⟨⟨.same rfl, .same rfl, .same rfl, .same rfl, .same rfl, trivial⟩, trivial, rfl⟩ ?_
 clear h
 intro i27 s27 hi27 K27 e27
 refine Js fun K28 hK28 => Jr ?_
 refine Jg (u := BL (decide ((i27 : Int) < (c.Plugs.length : Int)))) (A_lss rfl rfl rfl) ?_ rfl rfl rfl
 refine Jn (hK28 _ _ ?_)
 refine Js (fun K29 hK29 => ?_)
 refine JC_cond rfl (fun hb => ?_) (fun hb => ?_)
 ·
  have hk27 := lt_len hb
  obtain ⟨y27, nx27, hy27, hn27, h⟩ := each_out hi27 hk27
  replace h := app4 hb27 h
  refine JC_skip ?_
  refine hK29 _ _ ?_
  refine Js (fun K30 hK30 => ?_)
  refine JC_block ?_
  refine Js fun K31 hK31 => Jr ?_
  refine Jg (u := I64 (i27 : Int)) (Am rfl rfl) ?_ rfl rfl rfl
  refine Jg (u := .dptr [I64 y27]) (A_indexM (f := I64) (xs := c.Plugs) (y := y27) rfl rfl rfl tf_slice_43 hy27 rfl) ?_ rfl rfl rfl
  refine Jg (u := I64 y27) (A_load tf_scalar_3 rfl rfl rfl) ?_ rfl rfl rfl
  refine Jg (u := I64 (i27 : Int)) (Aa rfl rfl) ?_ rfl rfl rfl
  refine Jg (u := I64 y27) (Aa rfl rfl) ?_ rfl rfl rfl
  refine Jn (hK31 _ _ ?_)
  refine Js fun K32 hK32 => Jr ?_
  refine Jg (u := .fn 69 []) (Am rfl rfl) ?_ rfl rfl rfl
  refine Jg (u := I64 y27) (Am rfl rfl) ?_ rfl rfl rfl
  refine Jg (u := .dptr [I64 c.Tiers, I64 c.Height, I64 c.Kilos20, I64 c.Kilos40, I64 c.Lash, LS 1 I64 c.Plugs, I64 c.X, I64 c.Y, I64 c.Z]) (A_fieldM tf_field_72_3 rfl rfl rfl) ?_ rfl rfl rfl
  refine Jg (u := I64 c.Tiers) (A_load tf_scalar_3 rfl rfl rfl) ?_ rfl rfl rfl
  obtain ⟨v33, hv33, h⟩ := chk_out h
  refine Jg (u := I64 v33) (A_sub hv33 rfl rfl rfl) ?_ rfl rfl rfl
  refine Jg (u := .agg [I64 y27, I64 0, I64 v33]) (A_buildZ (cs := [I64 y27, I64 0, I64 v33]) [(0, 1), (1, 1), (2, 1)] [I64 0, I64 0, I64 0] [.int .i64 0, .int .i64 0, .int .i64 0] tf_places_147 tf_zero_147 ⟨.inl rfl, .inl rfl, .inl rfl, trivial⟩ rfl rfl) ?_ rfl rfl rfl
  refine Jg (u := LS 3 ship_span.av [(ship_span.mk y27 0 v33)]) (A_buildSlice (xs := [.agg [I64 y27, I64 0, I64 v33]]) rfl ⟨rfl, rfl, trivial⟩ tf_slice_145 tf_zsize_147 rfl rfl rfl rfl) ?_ rfl rfl rfl
  obtain ⟨r34, hr34, h⟩ := bnd_out h
  refine Jg (u := BL r34) (A_callV1 (args := [LS 3 ship_span.av [(ship_span.mk y27 0 v33)]]) (caps := []) rfl rfl (M_ship_right_1_w [(ship_span.mk y27 0 v33)] r34 hr34) tf_call_69 ⟨rfl, rfl, trivial⟩ rfl) ?_ rfl rfl rfl
  refine Jg (u := BL (!r34)) (A_not (b := r34) rfl rfl) ?_ rfl rfl rfl
  refine Jg (u := BL (!r34)) (Am rfl rfl) ?_ rfl rfl rfl
  refine JL_opt (u := I64 (i27 : Int)) [] rfl rfl rfl .scf trivial (fun hc => Am rfl rfl) ?_ rfl rfl rfl
  refine JL_opt (u := BL (decide (0 < (i27 : Int)))) [(24, I64 (i27 : Int))] rfl rfl rfl .scf ⟨.all id, trivial⟩ (fun hc => A_gtr rfl rfl rfl) ?_ rfl rfl rfl
  refine JL_opt (u := BL (decide (0 < (i27 : Int)))) [(25, BL (decide (0 < (i27 : Int))))] rfl rfl rfl .scf ⟨.all id, trivial⟩ (fun hc => Am rfl rfl) ?_ rfl rfl rfl
  refine JL_opt (u := I64 y27) [] rfl rfl rfl .optt trivial (fun hc => Am rfl rfl) ?_ rfl rfl rfl
  refine JL_opt (u := .dptr [LS 1 I64 c.Plugs, I64 c.X, I64 c.Y, I64 c.Z]) [] rfl rfl rfl .optt trivial (fun hc => A_fieldM tf_field_72_8 rfl rfl rfl) ?_ rfl rfl rfl
  refine JL_opt (u := LS 1 I64 c.Plugs) [(28, .dptr [LS 1 I64 c.Plugs, I64 c.X, I64 c.Y, I64 c.Z])] rfl rfl rfl .optt ⟨.all id, trivial⟩ (fun hc => A_load tf_scalar_43 rfl rfl rfl) ?_ rfl rfl rfl
  refine JL_opt (u := I64 (i27 : Int)) [] rfl rfl rfl .optt trivial (fun hc => Am rfl rfl) ?_ rfl rfl rfl
  obtain ⟨v35, hv35, h⟩ := bnd_out h
  refine JL_opt (u := I64 v35) [(30, I64 (i27 : Int))] rfl rfl rfl .optt ⟨.all id, trivial⟩ (fun hc => A_sub (chk_some (bif_t hc hv35)) rfl rfl rfl) ?_ rfl rfl rfl
  obtain ⟨y36, hy36, h⟩ := bnd_out h
  refine JL_opt (u := .dptr [I64 y36]) [(29, LS 1 I64 c.Plugs), (31, I64 v35)] rfl rfl rfl .optt ⟨.all id, .all id, trivial⟩ (fun hc => (match gidx_some (bif_t hc hy36) with | ⟨_, hm_, hy_⟩ => A_indexM (f := I64) (xs := c.Plugs) (y := y36) rfl rfl rfl tf_slice_43 hy_ hm_)) ?_ rfl rfl rfl
  refine JL_opt (u := I64 y36) [(32, .dptr [I64 y36])] rfl rfl rfl .optt ⟨.all id, trivial⟩ (fun hc => A_load tf_scalar_3 rfl rfl rfl) ?_ rfl rfl rfl
  refine JL_opt (u := BL (decide (y27 ≤ y36))) [(27, I64 y27), (33, I64 y36)] rfl rfl rfl .optt ⟨.all id, .all id, trivial⟩ (fun hc => A_leq rfl rfl rfl) ?_ rfl rfl rfl
  refine JL_opt (u := BL ((decide (0 < (i27 : Int))) && (decide (y27 ≤ y36)))) [(26, BL (decide (0 < (i27 : Int)))), (34, _)] rfl rfl rfl .scf ⟨.all id, .part, trivial⟩ (fun hc => A_and rfl rfl rfl rfl) ?_ rfl rfl rfl
  refine Jg (u := BL ((!r34) || ((decide (0 < (i27 : Int))) && (decide (y27 ≤ y36))))) (A_or rfl rfl rfl rfl) ?_ rfl rfl rfl
  refine Jn (hK32 _ _ ?_)
  refine JC_cond rfl (fun hb => ?_) (fun hb => ?_)
  ·
   replace h := bif_t hb h
   refine Js fun K37 hK37 => Jr ?_
   refine Jg (u := BL false) (Aa rfl rfl) ?_ rfl rfl rfl
   refine Jn (hK37 _ _ ?_)
   refine JC_ret ?_
   exact ⟨[BL false], [], trivial, rfl, ⟨⟨_, rfl, .conv (.same rfl)⟩, trivial⟩, rfl, congrArg (fun r : Bool => (BL r : AV)) (Option.some.inj h)⟩
  ·
   replace h := bif_f hb h
   refine JC_skip ?_
   refine hK30 _ _ ?_
   refine Jr ?_
   refine Jg (u := I64 ((i27 + 1 : Nat) : Int)) (A_add (idx_succ hk27 hm8) rfl rfl rfl) ?_ rfl rfl rfl
   refine Jg (u := I64 ((i27 + 1 : Nat) : Int)) (Am rfl rfl) ?_ rfl rfl rfl
   refine Jn ?_
   exact e27 _ _ (i27 + 1) () (app1 hn27 h) (by omega) ⟨⟨.same rfl, .same rfl, .same rfl, .same rfl, .same rfl, trivial⟩, trivial, rfl⟩
 ·
  have h := app1 hkx27 (each_nil hi27 (not_lt_len hb))
  refine JC_exit ?_
  refine hK3 _ _ ?_
  refine Js fun K38 hK38 => Jr ?_
  refine Jg (u := .fn 69 []) (Am rfl rfl) ?_ rfl rfl rfl
  refine Jg (u := .dptr [I64 c.Bay, I64 c.Row, BL c.Deck, I64 c.Tiers, I64 c.Height, I64 c.Kilos20, I64 c.Kilos40, I64 c.Lash, LS 1 I64 c.Plugs, I64 c.X, I64 c.Y, I64 c.Z]) (A_fieldM tf_field_72_0 rfl rfl rfl) ?_ rfl rfl rfl
  refine Jg (u := I64 c.Bay) (A_load tf_scalar_3 rfl rfl rfl) ?_ rfl rfl rfl
  refine Jg (u := .agg [I64 c.Bay, I64 0, I64 39]) (A_buildZ (cs := [I64 c.Bay, I64 0, I64 39]) [(0, 1), (1, 1), (2, 1)] [I64 0, I64 0, I64 0] [.int .i64 0, .int .i64 0, .int .i64 0] tf_places_147 tf_zero_147 ⟨.inl rfl, .inl rfl, .inl rfl, trivial⟩ rfl rfl) ?_ rfl rfl rfl
  refine Jg (u := .dptr [I64 c.Row, BL c.Deck, I64 c.Tiers, I64 c.Height, I64 c.Kilos20, I64 c.Kilos40, I64 c.Lash, LS 1 I64 c.Plugs, I64 c.X, I64 c.Y, I64 c.Z]) (A_fieldM tf_field_72_1 rfl rfl rfl) ?_ rfl rfl rfl
  refine Jg (u := I64 c.Row) (A_load tf_scalar_3 rfl rfl rfl) ?_ rfl rfl rfl
  refine Jg (u := .agg [I64 c.Row, I64 0, I64 30]) (A_buildZ (cs := [I64 c.Row, I64 0, I64 30]) [(0, 1), (1, 1), (2, 1)] [I64 0, I64 0, I64 0] [.int .i64 0, .int .i64 0, .int .i64 0] tf_places_147 tf_zero_147 ⟨.inl rfl, .inl rfl, .inl rfl, trivial⟩ rfl rfl) ?_ rfl rfl rfl
  refine Jg (u := .dptr [I64 c.Tiers, I64 c.Height, I64 c.Kilos20, I64 c.Kilos40, I64 c.Lash, LS 1 I64 c.Plugs, I64 c.X, I64 c.Y, I64 c.Z]) (A_fieldM tf_field_72_3 rfl rfl rfl) ?_ rfl rfl rfl
  refine Jg (u := I64 c.Tiers) (A_load tf_scalar_3 rfl rfl rfl) ?_ rfl rfl rfl
  refine Jg (u := .agg [I64 c.Tiers, I64 1, I64 10]) (A_buildZ (cs := [I64 c.Tiers, I64 1, I64 10]) [(0, 1), (1, 1), (2, 1)] [I64 0, I64 0, I64 0] [.int .i64 0, .int .i64 0, .int .i64 0] tf_places_147 tf_zero_147 ⟨.inl rfl, .inl rfl, .inl rfl, trivial⟩ rfl rfl) ?_ rfl rfl rfl
  refine Jg (u := .dptr [I64 c.Height, I64 c.Kilos20, I64 c.Kilos40, I64 c.Lash, LS 1 I64 c.Plugs, I64 c.X, I64 c.Y, I64 c.Z]) (A_fieldM tf_field_72_4 rfl rfl rfl) ?_ rfl rfl rfl
  refine Jg (u := I64 c.Height) (A_load tf_scalar_3 rfl rfl rfl) ?_ rfl rfl rfl
  refine Jg (u := .agg [I64 c.Height, I64 0, I64 40000]) (A_buildZ (cs := [I64 c.Height, I64 0, I64 40000]) [(0, 1), (1, 1), (2, 1)] [I64 0, I64 0, I64 0] [.int .i64 0, .int .i64 0, .int .i64 0] tf_places_147 tf_zero_147 ⟨.inl rfl, .inl rfl, .inl rfl, trivial⟩ rfl rfl) ?_ rfl rfl rfl
  refine Jg (u := .dptr [I64 c.Kilos20, I64 c.Kilos40, I64 c.Lash, LS 1 I64 c.Plugs, I64 c.X, I64 c.Y, I64 c.Z]) (A_fieldM tf_field_72_5 rfl rfl rfl) ?_ rfl rfl rfl
  refine Jg (u := I64 c.Kilos20) (A_load tf_scalar_3 rfl rfl rfl) ?_ rfl rfl rfl
  refine Jg (u := .agg [I64 c.Kilos20, I64 0, I64 500000000]) (A_buildZ (cs := [I64 c.Kilos20, I64 0, I64 500000000]) [(0, 1), (1, 1), (2, 1)] [I64 0, I64 0, I64 0] [.int .i64 0, .int .i64 0, .int .i64 0] tf_places_147 tf_zero_147 ⟨.inl rfl, .inl rfl, .inl rfl, trivial⟩ rfl rfl) ?_ rfl rfl rfl
  refine Jg (u := .dptr [I64 c.Kilos40, I64 c.Lash, LS 1 I64 c.Plugs, I64 c.X, I64 c.Y, I64 c.Z]) (A_fieldM tf_field_72_6 rfl rfl rfl) ?_ rfl rfl rfl
  refine Jg (u := I64 c.Kilos40) (A_load tf_scalar_3 rfl rfl rfl) ?_ rfl rfl rfl
  refine Jg (u := .agg [I64 c.Kilos40, I64 0, I64 500000000]) (A_buildZ (cs := [I64 c.Kilos40, I64 0, I64 500000000]) [(0, 1), (1, 1), (2, 1)] [I64 0, I64 0, I64 0] [.int .i64 0, .int .i64 0, .int .i64 0] tf_places_147 tf_zero_147 ⟨.inl rfl, .inl rfl, .inl rfl, trivial⟩ rfl rfl) ?_ rfl rfl rfl
  refine Jg (u := .dptr [I64 c.Lash, LS 1 I64 c.Plugs, I64 c.X, I64 c.Y, I64 c.Z]) (A_fieldM tf_field_72_7 rfl rfl rfl) ?_ rfl rfl rfl
  refine Jg (u := I64 c.Lash) (A_load tf_scalar_3 rfl rfl rfl) ?_ rfl rfl rfl
  refine Jg (u := .agg [I64 c.Lash, I64 0, I64 1000000000000]) (A_buildZ (cs := [I64 c.Lash, I64 0, I64 1000000000000]) [(0, 1), (1, 1), (2, 1)] [I64 0, I64 0, I64 0] [.int .i64 0, .int .i64 0, .int .i64 0] tf_places_147 tf_zero_147 ⟨.inl rfl, .inl rfl, .inl rfl, trivial⟩ rfl rfl) ?_ rfl rfl rfl
  refine Jg (u := .dptr [I64 c.X, I64 c.Y, I64 c.Z]) (A_fieldM tf_field_72_9 rfl rfl rfl) ?_ rfl rfl rfl
  refine Jg (u := I64 c.X) (A_load tf_scalar_3 rfl rfl rfl) ?_ rfl rfl rfl
  refine Jg (u := .agg [I64 c.X, I64 (-500000), I64 500000]) (A_buildZ (cs := [I64 c.X, I64 (-500000), I64 500000]) [(0, 1), (1, 1), (2, 1)] [I64 0, I64 0, I64 0] [.int .i64 0, .int .i64 0, .int .i64 0] tf_places_147 tf_zero_147 ⟨.inl rfl, .inl rfl, .inl rfl, trivial⟩ rfl rfl) ?_ rfl rfl rfl
  refine Jg (u := .dptr [I64 c.Y, I64 c.Z]) (A_fieldM tf_field_72_10 rfl rfl rfl) ?_ rfl rfl rfl
  refine Jg (u := I64 c.Y) (A_load tf_scalar_3 rfl rfl rfl) ?_ rfl rfl rfl
  refine Jg (u := .agg [I64 c.Y, I64 (-500000), I64 500000]) (A_buildZ (cs := [I64 c.Y, I64 (-500000), I64 500000]) [(0, 1), (1, 1), (2, 1)] [I64 0, I64 0, I64 0] [.int .i64 0, .int .i64 0, .int .i64 0] tf_places_147 tf_zero_147 ⟨.inl rfl, .inl rfl, .inl rfl, trivial⟩ rfl rfl) ?_ rfl rfl rfl
  refine Jg (u := .dptr [I64 c.Z]) (A_fieldM tf_field_72_11 rfl rfl rfl) ?_ rfl rfl rfl
  refine Jg (u := I64 c.Z) (A_load tf_scalar_3 rfl rfl rfl) ?_ rfl rfl rfl
  refine Jg (u := .agg [I64 c.Z, I64 (-500000), I64 500000]) (A_buildZ (cs := [I64 c.Z, I64 (-500000), I64 500000]) [(0, 1), (1, 1), (2, 1)] [I64 0, I64 0, I64 0] [.int .i64 0, .int .i64 0, .int .i64 0] tf_places_147 tf_zero_147 ⟨.inl rfl, .inl rfl, .inl rfl, trivial⟩ rfl rfl) ?_ rfl rfl rfl
  refine Jg (u := LS 3 ship_span.av [(ship_span.mk c.Bay 0 39), (ship_span.mk c.Row 0 30), (ship_span.mk c.Tiers 1 10), (ship_span.mk c.Height 0 40000), (ship_span.mk c.Kilos20 0 500000000), (ship_span.mk c.Kilos40 0 500000000), (ship_span.mk c.Lash 0 1000000000000), (ship_span.mk c.X (-500000) 500000), (ship_span.mk c.Y (-500000) 500000), (ship_span.mk c.Z (-500000) 500000)]) (A_buildSlice (xs := [.agg [I64 c.Bay, I64 0, I64 39], .agg [I64 c.Row, I64 0, I64 30], .agg [I64 c.Tiers, I64 1, I64 10], .agg [I64 c.Height, I64 0, I64 40000], .agg [I64 c.Kilos20, I64 0, I64 500000000], .agg [I64 c.Kilos40, I64 0, I64 500000000], .agg [I64 c.Lash, I64 0, I64 1000000000000], .agg [I64 c.X, I64 (-500000), I64 500000], .agg [I64 c.Y, I64 (-500000), I64 500000], .agg [I64 c.Z, I64 (-500000), I64 500000]]) rfl ⟨rfl, rfl, rfl, rfl, rfl, rfl, rfl, rfl, rfl, rfl, rfl, rfl, rfl, rfl, rfl, rfl, rfl, rfl, rfl, rfl, trivial⟩ tf_slice_145 tf_zsize_147 rfl rfl rfl rfl) ?_ rfl rfl rfl
  obtain ⟨r39, hr39, h⟩ := bnd_out h
  refine Jg (u := BL r39) (A_callV1 (args := [LS 3 ship_span.av [(ship_span.mk c.Bay 0 39), (ship_span.mk c.Row 0 30), (ship_span.mk c.Tiers 1 10), (ship_span.mk c.Height 0 40000), (ship_span.mk c.Kilos20 0 500000000), (ship_span.mk c.Kilos40 0 500000000), (ship_span.mk c.Lash 0 1000000000000), (ship_span.mk c.X (-500000) 500000), (ship_span.mk c.Y (-500000) 500000), (ship_span.mk c.Z (-500000) 500000)]]) (caps := []) rfl rfl (M_ship_right_1_w [(ship_span.mk c.Bay 0 39), (ship_span.mk c.Row 0 30), (ship_span.mk c.Tiers 1 10), (ship_span.mk c.Height 0 40000), (ship_span.mk c.Kilos20 0 500000000), (ship_span.mk c.Kilos40 0 500000000), (ship_span.mk c.Lash 0 1000000000000), (ship_span.mk c.X (-500000) 500000), (ship_span.mk c.Y (-500000) 500000), (ship_span.mk c.Z (-500000) 500000)] r39 hr39) tf_call_69 ⟨rfl, rfl, trivial⟩ rfl) ?_ rfl rfl rfl
  refine Jg (u := BL r39) (Aa rfl rfl) ?_ rfl rfl rfl
  refine Jn (hK38 _ _ ?_)
  refine JC_ret ?_
  exact ⟨[BL r39], [], trivial, rfl, ⟨⟨_, rfl, .conv (.same rfl)⟩, trivial⟩, rfl, congrArg (fun r : Bool => (BL r : AV)) (Option.some.inj h)⟩

def M_ship_Right (s : Ship) (Rp : Bool → Prop) : Option Prop :=
 bif (((decide ((s.Columns.length : Int) < 1)) || (decide (200 < (s.Columns.length : Int)))) || (decide (40 < (s.Covers.length : Int)))) then
 (some (Rp false))
 else
 (each (fun y68 i68 (s68 : (AMap Arr3Int Int)) nx68 =>
   jp (fun kj74 =>
    bif y68.Deck then
    (kj74 1)
    else
    (kj74 0)) fun (j74 : Int) =>
   bnd (some (AMap.get s68 (Arr3Int.mk y68.Bay y68.Row j74) 0)) fun v77 =>
   chk (v77 + 1) fun v78 =>
   bnd (M_ship_right y68) fun r80 =>
   bif (!r80) then
   (some (Rp false))
   else
   (nx68 (AMap.put s68 (Arr3Int.mk y68.Bay y68.Row j74) v78)))
  (fun (s68 : (AMap Arr3Int Int)) =>
   each (fun y84 i84 (s84 : (AMap Arr3Int Int)) nx84 =>
    bif (((decide (y84.Bay < 0)) || (decide (40 ≤ y84.Bay))) || (decide ((y84.Rows.length : Int) = 0))) then
    (some (Rp false))
    else
    (each (fun y157 i157 (s157 : (AMap Arr3Int Int)) nx157 =>
      bnd (bif ((!((decide (y157 < 0)) || (decide (30 < y157)))) && (decide (0 < (i157 : Int)))) then chk ((i157 : Int) - 1) some else some 0) fun v164 =>
      bnd (bif ((!((decide (y157 < 0)) || (decide (30 < y157)))) && (decide (0 < (i157 : Int)))) then gidx y84.Rows v164 some else some default) fun y165 =>
      bif (((decide (y157 < 0)) || (decide (30 < y157))) || ((decide (0 < (i157 : Int))) && (decide (y157 ≤ y165)))) then
      (some (Rp false))
      else
      (bnd (some (AMap.get s157 (Arr3Int.mk y84.Bay y157 2) 0)) fun v167 =>
       chk (v167 + 1) fun v168 =>
       nx157 (AMap.put s157 (Arr3Int.mk y84.Bay y157 2) v168)))
     (fun (s157 : (AMap Arr3Int Int)) =>
      nx84 s157) y84.Rows 0 s84))
   (fun (s84 : (AMap Arr3Int Int)) =>
    eachM (fun (x176 : Arr3Int × Int) (s176 : Unit) nx176 =>
     bif decide (1 < x176.2) then
     (lft (some (Rp false)))
     else
     (nx176 ()))
    (fun (s176 : Unit) =>
     some (Rp true)) (AMap.l s84) ()) s.Covers 0 s68) s.Columns 0 (AMap.empty : AMap Arr3Int Int))
def D_ship_Right (s : Ship) : Option Bool :=
 bif (((decide ((s.Columns.length : Int) < 1)) || (decide (200 < (s.Columns.length : Int)))) || (decide (40 < (s.Covers.length : Int)))) then
 (some (id false))
 else
 (each (fun y68 i68 (s68 : (AMap Arr3Int Int)) nx68 =>
   jp (fun kj74 =>
    bif y68.Deck then
    (kj74 1)
    else
    (kj74 0)) fun (j74 : Int) =>
   bnd (some (AMap.get s68 (Arr3Int.mk y68.Bay y68.Row j74) 0)) fun v77 =>
   chk (v77 + 1) fun v78 =>
   bnd (M_ship_right y68) fun r80 =>
   bif (!r80) then
   (some (id false))
   else
   (nx68 (AMap.put s68 (Arr3Int.mk y68.Bay y68.Row j74) v78)))
  (fun (s68 : (AMap Arr3Int Int)) =>
   each (fun y84 i84 (s84 : (AMap Arr3Int Int)) nx84 =>
    bif (((decide (y84.Bay < 0)) || (decide (40 ≤ y84.Bay))) || (decide ((y84.Rows.length : Int) = 0))) then
    (some (id false))
    else
    (each (fun y157 i157 (s157 : (AMap Arr3Int Int)) nx157 =>
      bnd (bif ((!((decide (y157 < 0)) || (decide (30 < y157)))) && (decide (0 < (i157 : Int)))) then chk ((i157 : Int) - 1) some else some 0) fun v164 =>
      bnd (bif ((!((decide (y157 < 0)) || (decide (30 < y157)))) && (decide (0 < (i157 : Int)))) then gidx y84.Rows v164 some else some default) fun y165 =>
      bif (((decide (y157 < 0)) || (decide (30 < y157))) || ((decide (0 < (i157 : Int))) && (decide (y157 ≤ y165)))) then
      (some (id false))
      else
      (bnd (some (AMap.get s157 (Arr3Int.mk y84.Bay y157 2) 0)) fun v167 =>
       chk (v167 + 1) fun v168 =>
       nx157 (AMap.put s157 (Arr3Int.mk y84.Bay y157 2) v168)))
     (fun (s157 : (AMap Arr3Int Int)) =>
      nx84 s157) y84.Rows 0 s84))
   (fun (s84 : (AMap Arr3Int Int)) =>
    runM (fun (x176 : Arr3Int × Int) (s176 : Unit) nx176 =>
     bif decide (1 < x176.2) then
     (lft (some (id false)))
     else
     (nx176 ()))
    (fun (s176 : Unit) =>
     some (id true)) (AMap.l s84) ()) s.Covers 0 s68) s.Columns 0 (AMap.empty : AMap Arr3Int Int))
theorem M_ship_Right_w (s : Ship) (Rp : Bool → Prop) (p : Prop) (h : M_ship_Right s Rp = some p) (hp : p) : Pure Try.prog 35 [.agg [LS 12 Column.av s.Columns, LS 2 Cover.av s.Covers, I64 s.Light.Kilos, I64 s.Light.X, I64 s.Light.Y, I64 s.Light.Z, LS 5 Row.av s.Rows, LS 5 Frame.av s.Frames, LS 6 Tank.av s.Tanks, I64 s.Limits.Tolerance, I64 s.Limits.Trim, I64 s.Limits.List_, I64 s.Limits.Stability]] (fun av => ∃ r, Rp r ∧ av = BL r) := by
 unfold M_ship_Right at h
 refine Pure_ofG [.tmp 2] Try.func35 rfl rfl ?_
 refine Js fun K1 hK1 => Jr ?_
 refine Jg (u := .ptr 1103 0) (A_box (u := .agg [LS 12 Column.av s.Columns, LS 2 Cover.av s.Covers, I64 s.Light.Kilos, I64 s.Light.X, I64 s.Light.Y, I64 s.Light.Z, LS 5 Row.av s.Rows, LS 5 Frame.av s.Frames, LS 6 Tank.av s.Tanks, I64 s.Limits.Tolerance, I64 s.Limits.Trim, I64 s.Limits.List_, I64 s.Limits.Stability]) (cs := [LS 12 Column.av s.Columns, LS 2 Cover.av s.Covers, I64 s.Light.Kilos, I64 s.Light.X, I64 s.Light.Y, I64 s.Light.Z, LS 5 Row.av s.Rows, LS 5 Frame.av s.Frames, LS 6 Tank.av s.Tanks, I64 s.Limits.Tolerance, I64 s.Limits.Trim, I64 s.Limits.List_, I64 s.Limits.Stability]) 1103 rfl rfl rfl rfl rfl) ?_ rfl rfl rfl
 refine Jg (u := BL false) (Aa rfl rfl) ?_ rfl rfl rfl
 refine Jn (hK1 _ _ ?_)
 refine JC_freeze [(1, .dptr [LS 12 Column.av s.Columns, LS 2 Cover.av s.Covers, I64 s.Light.Kilos, I64 s.Light.X, I64 s.Light.Y, I64 s.Light.Z, LS 5 Row.av s.Rows, LS 5 Frame.av s.Frames, LS 6 Tank.av s.Tanks, I64 s.Limits.Tolerance, I64 s.Limits.Trim, I64 s.Limits.List_, I64 s.Limits.Stability])] [] 1103 rfl rfl rfl trivial rfl (by exact ⟨.ptr, trivial⟩) ?_
 refine Js (fun K2 hK2 => ?_)
 refine Js fun K3 hK3 => Jr ?_
 refine Jg (u := .dptr [LS 12 Column.av s.Columns, LS 2 Cover.av s.Covers, I64 s.Light.Kilos, I64 s.Light.X, I64 s.Light.Y, I64 s.Light.Z, LS 5 Row.av s.Rows, LS 5 Frame.av s.Frames, LS 6 Tank.av s.Tanks, I64 s.Limits.Tolerance, I64 s.Limits.Trim, I64 s.Limits.List_, I64 s.Limits.Stability]) (A_fieldM tf_field_35_0 rfl rfl rfl) ?_ rfl rfl rfl
 refine Jg (u := LS 12 Column.av s.Columns) (A_load tf_scalar_25 rfl rfl rfl) ?_ rfl rfl rfl
 refine JL_lenM (f := Column.av) (xs := s.Columns) tf_slice_25 rfl rfl (fun hm15 => ?_) rfl rfl rfl
 refine Jg (u := BL (decide ((s.Columns.length : Int) < 1))) (A_lss rfl rfl rfl) ?_ rfl rfl rfl
 refine Jg (u := BL (decide ((s.Columns.length : Int) < 1))) (Am rfl rfl) ?_ rfl rfl rfl
 refine JL_opt (u := .dptr [LS 12 Column.av s.Columns, LS 2 Cover.av s.Covers, I64 s.Light.Kilos, I64 s.Light.X, I64 s.Light.Y, I64 s.Light.Z, LS 5 Row.av s.Rows, LS 5 Frame.av s.Frames, LS 6 Tank.av s.Tanks, I64 s.Limits.Tolerance, I64 s.Limits.Trim, I64 s.Limits.List_, I64 s.Limits.Stability]) [] rfl rfl rfl .scf trivial (fun hc => A_fieldM tf_field_35_0 rfl rfl rfl) ?_ rfl rfl rfl
 refine JL_opt (u := LS 12 Column.av s.Columns) [(18, .dptr [LS 12 Column.av s.Columns, LS 2 Cover.av s.Covers, I64 s.Light.Kilos, I64 s.Light.X, I64 s.Light.Y, I64 s.Light.Z, LS 5 Row.av s.Rows, LS 5 Frame.av s.Frames, LS 6 Tank.av s.Tanks, I64 s.Limits.Tolerance, I64 s.Limits.Trim, I64 s.Limits.List_, I64 s.Limits.Stability])] rfl rfl rfl .scf ⟨.all id, trivial⟩ (fun hc => A_load tf_scalar_25 rfl rfl rfl) ?_ rfl rfl rfl
 refine JL_opt (u := I64 (s.Columns.length : Int)) [(19, LS 12 Column.av s.Columns)] rfl rfl rfl .scf ⟨.all id, trivial⟩ (fun hc => A_lenM (f := Column.av) (xs := s.Columns) tf_slice_25 rfl rfl) ?_ rfl rfl rfl
 refine JL_opt (u := BL (decide (200 < (s.Columns.length : Int)))) [(20, I64 (s.Columns.length : Int))] rfl rfl rfl .scf ⟨.all id, trivial⟩ (fun hc => A_gtr rfl rfl rfl) ?_ rfl rfl rfl
 refine Jg (u := BL ((decide ((s.Columns.length : Int) < 1)) || (decide (200 < (s.Columns.length : Int))))) (A_or rfl rfl rfl rfl) ?_ rfl rfl rfl
 refine Jg (u := BL ((decide ((s.Columns.length : Int) < 1)) || (decide (200 < (s.Columns.length : Int))))) (Am rfl rfl) ?_ rfl rfl rfl
 refine JL_opt (u := .dptr [LS 2 Cover.av s.Covers, I64 s.Light.Kilos, I64 s.Light.X, I64 s.Light.Y, I64 s.Light.Z, LS 5 Row.av s.Rows, LS 5 Frame.av s.Frames, LS 6 Tank.av s.Tanks, I64 s.Limits.Tolerance, I64 s.Limits.Trim, I64 s.Limits.List_, I64 s.Limits.Stability]) [] rfl rfl rfl .scf trivial (fun hc => A_fieldM tf_field_35_1 rfl rfl rfl) ?_ rfl rfl rfl
 refine JL_opt (u := LS 2 Cover.av s.Covers) [(24, .dptr [LS 2 Cover.av s.Covers, I64 s.Light.Kilos, I64 s.Light.X, I64 s.Light.Y, I64 s.Light.Z, LS 5 Row.av s.Rows, LS 5 Frame.av s.Frames, LS 6 Tank.av s.Tanks, I64 s.Limits.Tolerance, I64 s.Limits.Trim, I64 s.Limits.List_, I64 s.Limits.Stability])] rfl rfl rfl .scf ⟨.all id, trivial⟩ (fun hc => A_load tf_scalar_26 rfl rfl rfl) ?_ rfl rfl rfl
 refine JL_opt (u := I64 (s.Covers.length : Int)) [(25, LS 2 Cover.av s.Covers)] rfl rfl rfl .scf ⟨.all id, trivial⟩ (fun hc => A_lenM (f := Cover.av) (xs := s.Covers) tf_slice_26 rfl rfl) ?_ rfl rfl rfl
 refine JL_opt (u := BL (decide (40 < (s.Covers.length : Int)))) [(26, I64 (s.Covers.length : Int))] rfl rfl rfl .scf ⟨.all id, trivial⟩ (fun hc => A_gtr rfl rfl rfl) ?_ rfl rfl rfl
 refine Jg (u := BL (((decide ((s.Columns.length : Int) < 1)) || (decide (200 < (s.Columns.length : Int)))) || (decide (40 < (s.Covers.length : Int))))) (A_or rfl rfl rfl rfl) ?_ rfl rfl rfl
 refine Jn (hK3 _ _ ?_)
 refine JC_cond rfl (fun hb => ?_) (fun hb => ?_)
 ·
  replace h := bif_t hb h
  refine Js fun K4 hK4 => Jr ?_
  refine Jg (u := BL false) (Aa rfl rfl) ?_ rfl rfl rfl
  refine Jn (hK4 _ _ ?_)
  refine JC_ret ?_
  exact ⟨[BL false], [], trivial, rfl, ⟨⟨_, rfl, .conv (.same rfl)⟩, trivial⟩, rfl, false, Eq.mpr (Option.some.inj h) hp, rfl⟩
 ·
  replace h := bif_f hb h
  refine JC_skip ?_
  refine hK2 _ _ ?_
  refine Js fun K5 hK5 => Jr ?_
  refine Jg (u := .mp 1106) (A_makeMapM 1106 Arr3Int.kv I64 rfl rfl) ?_ rfl rfl rfl
  refine Jg (u := .mp 1106) (Aa rfl rfl) ?_ rfl rfl rfl
  refine Jn (hK5 _ _ ?_)
  refine Js (fun K6 hK6 => ?_)
  refine Js fun K7 hK7 => Jr ?_
  refine Jg (u := .dptr [LS 12 Column.av s.Columns, LS 2 Cover.av s.Covers, I64 s.Light.Kilos, I64 s.Light.X, I64 s.Light.Y, I64 s.Light.Z, LS 5 Row.av s.Rows, LS 5 Frame.av s.Frames, LS 6 Tank.av s.Tanks, I64 s.Limits.Tolerance, I64 s.Limits.Trim, I64 s.Limits.List_, I64 s.Limits.Stability]) (A_fieldM tf_field_35_0 rfl rfl rfl) ?_ rfl rfl rfl
  refine Jg (u := LS 12 Column.av s.Columns) (A_load tf_scalar_25 rfl rfl rfl) ?_ rfl rfl rfl
  refine JL_lenM (f := Column.av) (xs := s.Columns) tf_slice_25 rfl rfl (fun hm32 => ?_) rfl rfl rfl
  refine Jg (u := I64 0) (Am rfl rfl) ?_ rfl rfl rfl
  refine Jn (hK7 _ _ ?_)
  refine JC_block ?_
  obtain ⟨b68, kx68, hb68, hkx68, h⟩ := each_in h
  refine JC_loop2 (fun i68 (s68 : (AMap Arr3Int Int)) => each b68 kx68 (List.drop i68 s.Columns) i68 s68 = some p) (fun i68 s68 => [(1, .dptr [LS 12 Column.av s.Columns, LS 2 Cover.av s.Covers, I64 s.Light.Kilos, I64 s.Light.X, I64 s.Light.Y, I64 s.Light.Z, LS 5 Row.av s.Rows, LS 5 Frame.av s.Frames, LS 6 Tank.av s.Tanks, I64 s.Limits.Tolerance, I64 s.Limits.Trim, I64 s.Limits.List_, I64 s.Limits.Stability]), (3, .mp 1106), (31, LS 12 Column.av s.Columns), (32, I64 (s.Columns.length : Int)), (33, I64 (i68 : Int))]) (fun i68 s68 => [(1106, MP 129 Arr3Int.kv I64 s68)]) (fun i68 => s.Columns.length - i68) 0 (AMap.empty : AMap Arr3Int Int) h ⟨⟨.same rfl, .same rfl, .same rfl, .same rfl, .same rfl, trivial⟩, ⟨⟨_, rfl, .map⟩, trivial⟩, rfl⟩ ?_
  clear h
  intro i68 s68 hi68 K68 e68
  refine Js fun K69 hK69 => Jr ?_
  refine Jg (u := BL (decide ((i68 : Int) < (s.Columns.length : Int)))) (A_lss rfl rfl rfl) ?_ rfl rfl rfl
  refine Jn (hK69 _ _ ?_)
  refine Js (fun K70 hK70 => ?_)
  refine JC_cond rfl (fun hb => ?_) (fun hb => ?_)
  ·
   have hk68 := lt_len hb
   obtain ⟨y68, nx68, hy68, hn68, h⟩ := each_out hi68 hk68
   replace h := app4 hb68 h
   refine JC_skip ?_
   refine hK70 _ _ ?_
   refine Js (fun K71 hK71 => ?_)
   refine JC_block ?_
   refine Js fun K72 hK72 => Jr ?_
   refine Jg (u := .dptr (Column.cs y68)) (A_indexM (f := Column.av) (xs := s.Columns) (y := y68) rfl rfl rfl tf_slice_25 hy68 rfl) ?_ rfl rfl rfl
   refine Jg (u := .agg (Column.cs y68)) (A_loadAgg tf_agg_72 rfl rfl rfl) ?_ rfl rfl rfl
   refine Jg (u := .ptr 1104 0) (A_allocJ 1104 12 tf_zsize_72 rfl rfl) ?_ rfl rfl rfl
   refine JL_go0 (u := .junk) (A_store (u := .agg (Column.cs y68)) (ds := [I64 y68.Bay, I64 y68.Row, BL y68.Deck, I64 y68.Tiers, I64 y68.Height, I64 y68.Kilos20, I64 y68.Kilos40, I64 y68.Lash, LS 1 I64 y68.Plugs, I64 y68.X, I64 y68.Y, I64 y68.Z]) tf_size_72 rfl rfl rfl rfl rfl rfl rfl rfl) ?_ rfl rfl
   refine Jn (hK72 _ _ ?_)
   refine JC_freeze [(1, .dptr [LS 12 Column.av s.Columns, LS 2 Cover.av s.Covers, I64 s.Light.Kilos, I64 s.Light.X, I64 s.Light.Y, I64 s.Light.Z, LS 5 Row.av s.Rows, LS 5 Frame.av s.Frames, LS 6 Tank.av s.Tanks, I64 s.Limits.Tolerance, I64 s.Limits.Trim, I64 s.Limits.List_, I64 s.Limits.Stability]), (3, .mp 1106), (5, .dptr (Column.cs y68)), (31, LS 12 Column.av s.Columns), (32, I64 (s.Columns.length : Int)), (33, I64 (i68 : Int))] [(1106, MP 129 Arr3Int.kv I64 s68)] 1104 rfl rfl rfl ⟨⟨_, rfl, .map⟩, trivial⟩ rfl (by exact ⟨.conv (.same rfl), .conv (.same rfl), .ptr, .conv (.same rfl), .conv (.same rfl), .conv (.same rfl), trivial⟩) ?_
   refine Js fun K73 hK73 => Jr ?_
   refine Jg (u := I64 0) (Aa rfl rfl) ?_ rfl rfl rfl
   refine Jn (hK73 _ _ ?_)
   obtain ⟨kj74, hkj74, h⟩ := jp_out h
   refine JC_seqJ (fun j74 : Int => kj74 j74 = some p) (fun j74 => [(1, .dptr [LS 12 Column.av s.Columns, LS 2 Cover.av s.Covers, I64 s.Light.Kilos, I64 s.Light.X, I64 s.Light.Y, I64 s.Light.Z, LS 5 Row.av s.Rows, LS 5 Frame.av s.Frames, LS 6 Tank.av s.Tanks, I64 s.Limits.Tolerance, I64 s.Limits.Trim, I64 s.Limits.List_, I64 s.Limits.Stability]), (3, .mp 1106), (5, .dptr (Column.cs y68)), (6, I64 j74), (31, LS 12 Column.av s.Columns), (32, I64 (s.Columns.length : Int)), (33, I64 (i68 : Int))]) (fun j74 => [(1106, MP 129 Arr3Int.kv I64 s68)]) (fun Kj74 ej74 => ?_) ?_
   ·
    refine Js fun K75 hK75 => Jr ?_
    refine Jg (u := .dptr ((Column.cs y68).drop 2)) (A_fieldM tf_field_72_2 rfl rfl rfl) ?_ rfl rfl rfl
    refine Jg (u := BL y68.Deck) (A_load tf_scalar_4 rfl rfl rfl) ?_ rfl rfl rfl
    refine Jn (hK75 _ _ ?_)
    refine JC_cond rfl (fun hb => ?_) (fun hb => ?_)
    ·
     replace h := bif_t hb h
     refine Jr ?_
     refine Jg (u := I64 1) (Aa rfl rfl) ?_ rfl rfl rfl
     refine Jn ?_
     exact ej74 _ _ 1 h ⟨⟨.same rfl, .same rfl, .same rfl, .same rfl, .same rfl, .same rfl, .same rfl, trivial⟩, ⟨⟨_, rfl, .map⟩, trivial⟩, rfl⟩
    ·
     replace h := bif_f hb h
     refine JC_skip ?_
     exact ej74 _ _ 0 h ⟨⟨.same rfl, .same rfl, .same rfl, .same rfl, .same rfl, .same rfl, .same rfl, trivial⟩, ⟨⟨_, rfl, .map⟩, trivial⟩, rfl⟩
   ·intro j74 h
    replace h := app1 hkj74 h
    refine Js (fun K76 hK76 => ?_)
    refine JC_fits (l' := [(1, .dptr [LS 12 Column.av s.Columns, LS 2 Cover.av s.Covers, I64 s.Light.Kilos, I64 s.Light.X, I64 s.Light.Y, I64 s.Light.Z, LS 5 Row.av s.Rows, LS 5 Frame.av s.Frames, LS 6 Tank.av s.Tanks, I64 s.Limits.Tolerance, I64 s.Limits.Trim, I64 s.Limits.List_, I64 s.Limits.Stability]), (3, .mp 1106), (5, .dptr (Column.cs y68)), (6, I64 j74), (31, LS 12 Column.av s.Columns), (32, I64 (s.Columns.length : Int)), (33, I64 (i68 : Int))]) (L' := [(1106, MP 129 Arr3Int.kv I64 s68)]) ⟨⟨.same rfl, .same rfl, .same rfl, .same rfl, .same rfl, .same rfl, .same rfl, trivial⟩, ⟨⟨_, rfl, .map⟩, trivial⟩, rfl⟩ ?_
    obtain ⟨v77, hv77, h⟩ := bnd_out h
    obtain ⟨v78, hv78, h⟩ := chk_out h
    refine JC_draw [9, 11] [0, 0, 0, 0, 0, 0, 0, 0, 0, 0, 1, 0] [0, 0, 0, 0, 0, 0, 0, 1, 1, 0, 1, 0] [[(1106, MP 129 Arr3Int.kv I64 s68)], ((1106, MI 129 Arr3Int.kv I64 s68 (Arr3Int.mk y68.Bay y68.Row j74) 0) :: [(1106, MP 129 Arr3Int.kv I64 s68)]), ((1106, MP 129 Arr3Int.kv I64 (AMap.put s68 (Arr3Int.mk y68.Bay y68.Row j74) v78)) :: ((1106, MI 129 Arr3Int.kv I64 s68 (Arr3Int.mk y68.Bay y68.Row j74) 0) :: [(1106, MP 129 Arr3Int.kv I64 s68)]))] tf_mixed (by kernel_rfl) rfl rfl ?_
    refine D_ro (u := .mp 1106) rfl rfl ⟨O_go (Am rfl rfl) rfl, trivial⟩ ?_ rfl
    refine D_ro (u := .dptr (Column.cs y68)) rfl rfl ⟨O_go (A_fieldM tf_field_72_0 rfl rfl rfl) rfl, trivial⟩ ?_ rfl
    refine D_ro (u := I64 y68.Bay) rfl rfl ⟨O_go (A_load tf_scalar_3 rfl rfl rfl) rfl, trivial⟩ ?_ rfl
    refine D_ro (u := .dptr ((Column.cs y68).drop 1)) rfl rfl ⟨O_go (A_fieldM tf_field_72_1 rfl rfl rfl) rfl, trivial⟩ ?_ rfl
    refine D_ro (u := I64 y68.Row) rfl rfl ⟨O_go (A_load tf_scalar_3 rfl rfl rfl) rfl, trivial⟩ ?_ rfl
    refine D_ro (u := I64 j74) rfl rfl ⟨O_go (Am rfl rfl) rfl, trivial⟩ ?_ rfl
    refine D_ro (u := .agg [I64 y68.Bay, I64 y68.Row, I64 j74]) rfl rfl ⟨O_go (A_buildArr (cs := [I64 y68.Bay, I64 y68.Row, I64 j74]) [.int .i64 0, .int .i64 0, .int .i64 0] tf_arr_130 tf_zero_130 rfl rfl) rfl, trivial⟩ ?_ rfl
    refine D_ro (u := I64 v77) rfl rfl ⟨O_go (((Option.some.inj hv77) ▸ A_lookupM0 (av := I64) (m := s68) (a := (Arr3Int.mk y68.Bay y68.Row j74)) 0 (.int .i64 0) rfl rfl rfl rfl tk_130 tf_map_129 tf_zv_3 rfl)) rfl, O_go (((Option.some.inj hv77) ▸ A_lookupMI (av := I64) (m := s68) (a := (Arr3Int.mk y68.Bay y68.Row j74)) 0 (.int .i64 0) rfl rfl rfl rfl tk_130 tf_map_129 tf_zv_3 rfl)) rfl, trivial⟩ ?_ rfl
    refine D_ro (u := I64 v78) rfl rfl ⟨O_go (A_add hv78 rfl rfl rfl) rfl, O_go (A_add hv78 rfl rfl rfl) rfl, trivial⟩ ?_ rfl
    refine D_w (u := .tup [.junk, I64 (midx (AMap.l s68) (Arr3Int.mk y68.Bay y68.Row j74) : Int)]) rfl rfl rfl rfl (O_go (A_mapEntryM (m := s68) (a := (Arr3Int.mk y68.Bay y68.Row j74)) 0 (.int .i64 0) rfl rfl rfl rfl tk_130 tf_map_129 tf_zv_3 rfl) rfl) ?_ rfl
    refine D_ro (u := I64 (midx (AMap.l s68) (Arr3Int.mk y68.Bay y68.Row j74) : Int)) rfl rfl ⟨O_go (A_extract rfl rfl rfl) rfl, trivial⟩ ?_ rfl
    refine D_w0 (u := .junk) rfl rfl rfl rfl (O_go (A_entryStoreM (m := s68) (a := (Arr3Int.mk y68.Bay y68.Row j74)) (v := v78) 0 rfl rfl rfl rfl rfl rfl) rfl) ?_
    refine D_nil ?_
    refine hK76 _ _ ?_
    refine Js fun K79 hK79 => Jr ?_
    refine Jg (u := .agg (Column.cs y68)) (A_loadAgg tf_agg_72 rfl rfl rfl) ?_ rfl rfl rfl
    obtain ⟨r80, hr80, h⟩ := bnd_out h
    refine Jg (u := BL r80) (A_call1 (args := [.agg (Column.cs y68)]) rfl (M_ship_right_w y68 r80 hr80) tf_call_57 ⟨rfl, rfl, trivial⟩) ?_ rfl rfl rfl
    refine Jg (u := BL (!r80)) (A_not (b := r80) rfl rfl) ?_ rfl rfl rfl
    refine Jn (hK79 _ _ ?_)
    refine JC_cond rfl (fun hb => ?_) (fun hb => ?_)
    ·
     replace h := bif_t hb h
     refine Js fun K81 hK81 => Jr ?_
     refine Jg (u := BL false) (Aa rfl rfl) ?_ rfl rfl rfl
     refine Jn (hK81 _ _ ?_)
     refine JC_ret ?_
     exact ⟨[BL false], [], trivial, rfl, ⟨⟨_, rfl, .conv (.same rfl)⟩, trivial⟩, rfl, false, Eq.mpr (Option.some.inj h) hp, rfl⟩
    ·
     replace h := bif_f hb h
     refine JC_skip ?_
     refine hK71 _ _ ?_
     refine Jr ?_
     refine Jg (u := I64 ((i68 + 1 : Nat) : Int)) (A_add (idx_succ hk68 hm32) rfl rfl rfl) ?_ rfl rfl rfl
     refine Jg (u := I64 ((i68 + 1 : Nat) : Int)) (Am rfl rfl) ?_ rfl rfl rfl
     refine Jn ?_
     exact e68 _ _ (i68 + 1) (AMap.put s68 (Arr3Int.mk y68.Bay y68.Row j74) v78) (app1 hn68 h) (by omega) ⟨⟨.same rfl, .same rfl, .same rfl, .same rfl, .same rfl, trivial⟩, ⟨⟨_, rfl, .map⟩, trivial⟩, rfl⟩
  ·
   have h := app1 hkx68 (each_nil hi68 (not_lt_len hb))
   refine JC_exit ?_
   refine hK6 _ _ ?_
   refine Js (fun K82 hK82 => ?_)
   refine Js fun K83 hK83 => Jr ?_
   refine Jg (u := .dptr [LS 2 Cover.av s.Covers, I64 s.Light.Kilos, I64 s.Light.X, I64 s.Light.Y, I64 s.Light.Z, LS 5 Row.av s.Rows, LS 5 Frame.av s.Frames, LS 6 Tank.av s.Tanks, I64 s.Limits.Tolerance, I64 s.Limits.Trim, I64 s.Limits.List_, I64 s.Limits.Stability]) (A_fieldM tf_field_35_1 rfl rfl rfl) ?_ rfl rfl rfl
   refine Jg (u := LS 2 Cover.av s.Covers) (A_load tf_scalar_26 rfl rfl rfl) ?_ rfl rfl rfl
   refine JL_lenM (f := Cover.av) (xs := s.Covers) tf_slice_26 rfl rfl (fun hm56 => ?_) rfl rfl rfl
   refine Jg (u := I64 0) (Am rfl rfl) ?_ rfl rfl rfl
   refine Jn (hK83 _ _ ?_)
   refine JC_block ?_
   obtain ⟨b84, kx84, hb84, hkx84, h⟩ := each_in h
   refine JC_loop2 (fun i84 (s84 : (AMap Arr3Int Int)) => each b84 kx84 (List.drop i84 s.Covers) i84 s84 = some p) (fun i84 s84 => [(3, .mp 1106), (55, LS 2 Cover.av s.Covers), (56, I64 (s.Covers.length : Int)), (57, I64 (i84 : Int))]) (fun i84 s84 => [(1106, MP 129 Arr3Int.kv I64 s84)]) (fun i84 => s.Covers.length - i84) 0 s68 h ⟨⟨.same rfl, .same rfl, .same rfl, .same rfl, trivial⟩, ⟨⟨_, rfl, .map⟩, trivial⟩, rfl⟩ ?_
   clear h
   intro i84 s84 hi84 K84 e84
   refine Js fun K85 hK85 => Jr ?_
   refine Jg (u := BL (decide ((i84 : Int) < (s.Covers.length : Int)))) (A_lss rfl rfl rfl) ?_ rfl rfl rfl
   refine Jn (hK85 _ _ ?_)
   refine Js (fun K86 hK86 => ?_)
   refine JC_cond rfl (fun hb => ?_) (fun hb => ?_)
   ·
    have hk84 := lt_len hb
    obtain ⟨y84, nx84, hy84, hn84, h⟩ := each_out hi84 hk84
    replace h := app4 hb84 h
    refine JC_skip ?_
    refine hK86 _ _ ?_
    refine Js (fun K87 hK87 => ?_)
    refine JC_block ?_
    refine Js fun K88 hK88 => Jr ?_
    refine Jg (u := .dptr [I64 y84.Bay, LS 1 I64 y84.Rows]) (A_indexM (f := Cover.av) (xs := s.Covers) (y := y84) rfl rfl rfl tf_slice_26 hy84 rfl) ?_ rfl rfl rfl
    refine Jg (u := .agg [I64 y84.Bay, LS 1 I64 y84.Rows]) (A_loadAgg tf_agg_76 rfl rfl rfl) ?_ rfl rfl rfl
    refine Jg (u := .ptr 1105 0) (A_allocJ 1105 2 tf_zsize_76 rfl rfl) ?_ rfl rfl rfl
    refine JL_go0 (u := .junk) (A_store (u := .agg [I64 y84.Bay, LS 1 I64 y84.Rows]) (ds := [I64 y84.Bay, LS 1 I64 y84.Rows]) tf_size_76 rfl rfl rfl rfl rfl rfl rfl rfl) ?_ rfl rfl
    refine Jn (hK88 _ _ ?_)
    refine JC_freeze [(3, .mp 1106), (8, .dptr [I64 y84.Bay, LS 1 I64 y84.Rows]), (55, LS 2 Cover.av s.Covers), (56, I64 (s.Covers.length : Int)), (57, I64 (i84 : Int))] [(1106, MP 129 Arr3Int.kv I64 s84)] 1105 rfl rfl rfl ⟨⟨_, rfl, .map⟩, trivial⟩ rfl (by exact ⟨.conv (.same rfl), .ptr, .conv (.same rfl), .conv (.same rfl), .conv (.same rfl), trivial⟩) ?_
    refine Js (fun K89 hK89 => ?_)
    refine Js fun K90 hK90 => Jr ?_
    refine Jg (u := .dptr [I64 y84.Bay, LS 1 I64 y84.Rows]) (A_fieldM tf_field_76_0 rfl rfl rfl) ?_ rfl rfl rfl
    refine Jg (u := I64 y84.Bay) (A_load tf_scalar_3 rfl rfl rfl) ?_ rfl rfl rfl
    refine Jg (u := BL (decide (y84.Bay < 0))) (A_lss rfl rfl rfl) ?_ rfl rfl rfl
    refine Jg (u := BL (decide (y84.Bay < 0))) (Am rfl rfl) ?_ rfl rfl rfl
    refine JL_opt (u := .dptr [I64 y84.Bay, LS 1 I64 y84.Rows]) [] rfl rfl rfl .scf trivial (fun hc => A_fieldM tf_field_76_0 rfl rfl rfl) ?_ rfl rfl rfl
    refine JL_opt (u := I64 y84.Bay) [(65, .dptr [I64 y84.Bay, LS 1 I64 y84.Rows])] rfl rfl rfl .scf ⟨.all id, trivial⟩ (fun hc => A_load tf_scalar_3 rfl rfl rfl) ?_ rfl rfl rfl
    refine JL_opt (u := BL (decide (40 ≤ y84.Bay))) [(66, I64 y84.Bay)] rfl rfl rfl .scf ⟨.all id, trivial⟩ (fun hc => A_geq rfl rfl rfl) ?_ rfl rfl rfl
    refine Jg (u := BL ((decide (y84.Bay < 0)) || (decide (40 ≤ y84.Bay)))) (A_or rfl rfl rfl rfl) ?_ rfl rfl rfl
    refine Jg (u := BL ((decide (y84.Bay < 0)) || (decide (40 ≤ y84.Bay)))) (Am rfl rfl) ?_ rfl rfl rfl
    refine JL_opt (u := .dptr [LS 1 I64 y84.Rows]) [] rfl rfl rfl .scf trivial (fun hc => A_fieldM tf_field_76_1 rfl rfl rfl) ?_ rfl rfl rfl
    refine JL_opt (u := LS 1 I64 y84.Rows) [(70, .dptr [LS 1 I64 y84.Rows])] rfl rfl rfl .scf ⟨.all id, trivial⟩ (fun hc => A_load tf_scalar_43 rfl rfl rfl) ?_ rfl rfl rfl
    refine JL_opt (u := I64 (y84.Rows.length : Int)) [(71, LS 1 I64 y84.Rows)] rfl rfl rfl .scf ⟨.all id, trivial⟩ (fun hc => A_lenM (f := I64) (xs := y84.Rows) tf_slice_43 rfl rfl) ?_ rfl rfl rfl
    refine JL_opt (u := BL (decide ((y84.Rows.length : Int) = 0))) [(72, I64 (y84.Rows.length : Int))] rfl rfl rfl .scf ⟨.all id, trivial⟩ (fun hc => A_eql rfl rfl rfl) ?_ rfl rfl rfl
    refine Jg (u := BL (((decide (y84.Bay < 0)) || (decide (40 ≤ y84.Bay))) || (decide ((y84.Rows.length : Int) = 0)))) (A_or rfl rfl rfl rfl) ?_ rfl rfl rfl
    refine Jn (hK90 _ _ ?_)
    refine JC_cond rfl (fun hb => ?_) (fun hb => ?_)
    ·
     replace h := bif_t hb h
     refine Js fun K91 hK91 => Jr ?_
     refine Jg (u := BL false) (Aa rfl rfl) ?_ rfl rfl rfl
     refine Jn (hK91 _ _ ?_)
     refine JC_ret ?_
     exact ⟨[BL false], [], trivial, rfl, ⟨⟨_, rfl, .conv (.same rfl)⟩, trivial⟩, rfl, false, Eq.mpr (Option.some.inj h) hp, rfl⟩
    ·
     replace h := bif_f hb h
     refine JC_skip ?_
     refine hK89 _ _ ?_
     refine Js fun K92 hK92 => Jr ?_
     refine Jg (u := .dptr [LS 1 I64 y84.Rows]) (A_fieldM tf_field_76_1 rfl rfl rfl) ?_ rfl rfl rfl
     refine Jg (u := LS 1 I64 y84.Rows) (A_load tf_scalar_43 rfl rfl rfl) ?_ rfl rfl rfl
     refine JL_lenM (f := I64) (xs := y84.Rows) tf_slice_43 rfl rfl (fun hm77 => ?_) rfl rfl rfl
     refine Jg (u := I64 0) (Am rfl rfl) ?_ rfl rfl rfl
     refine Jn (hK92 _ _ ?_)
     refine JC_block ?_
     obtain ⟨b157, kx157, hb157, hkx157, h⟩ := each_in h
     refine JC_loop2 (fun i157 (s157 : (AMap Arr3Int Int)) => each b157 kx157 (List.drop i157 y84.Rows) i157 s157 = some p) (fun i157 s157 => [(3, .mp 1106), (8, .dptr [I64 y84.Bay, LS 1 I64 y84.Rows]), (55, LS 2 Cover.av s.Covers), (56, I64 (s.Covers.length : Int)), (57, I64 (i84 : Int)), (76, LS 1 I64 y84.Rows), (77, I64 (y84.Rows.length : Int)), (78, I64 (i157 : Int))]) (fun i157 s157 => [(1106, MP 129 Arr3Int.kv I64 s157)]) (fun i157 => y84.Rows.length - i157) 0 s84 h ⟨⟨.same rfl, .same rfl, .same rfl, .same rfl, .same rfl, .same rfl, .same rfl, .same rfl, trivial⟩, ⟨⟨_, rfl, .map⟩, trivial⟩, rfl⟩ ?_
     clear h
     intro i157 s157 hi157 K157 e157
     refine Js fun K158 hK158 => Jr ?_
     refine Jg (u := BL (decide ((i157 : Int) < (y84.Rows.length : Int)))) (A_lss rfl rfl rfl) ?_ rfl rfl rfl
     refine Jn (hK158 _ _ ?_)
     refine Js (fun K159 hK159 => ?_)
     refine JC_cond rfl (fun hb => ?_) (fun hb => ?_)
     ·
      have hk157 := lt_len hb
      obtain ⟨y157, nx157, hy157, hn157, h⟩ := each_out hi157 hk157
      replace h := app4 hb157 h
      refine JC_skip ?_
      refine hK159 _ _ ?_
      refine Js (fun K160 hK160 => ?_)
      refine JC_block ?_
      refine Js fun K161 hK161 => Jr ?_
      refine Jg (u := I64 (i157 : Int)) (Am rfl rfl) ?_ rfl rfl rfl
      refine Jg (u := .dptr [I64 y157]) (A_indexM (f := I64) (xs := y84.Rows) (y := y157) rfl rfl rfl tf_slice_43 hy157 rfl) ?_ rfl rfl rfl
      refine Jg (u := I64 y157) (A_load tf_scalar_3 rfl rfl rfl) ?_ rfl rfl rfl
      refine Jg (u := I64 (i157 : Int)) (Aa rfl rfl) ?_ rfl rfl rfl
      refine Jg (u := I64 y157) (Aa rfl rfl) ?_ rfl rfl rfl
      refine Jn (hK161 _ _ ?_)
      refine Js (fun K162 hK162 => ?_)
      refine Js fun K163 hK163 => Jr ?_
      refine Jg (u := I64 y157) (Am rfl rfl) ?_ rfl rfl rfl
      refine Jg (u := BL (decide (y157 < 0))) (A_lss rfl rfl rfl) ?_ rfl rfl rfl
      refine Jg (u := BL (decide (y157 < 0))) (Am rfl rfl) ?_ rfl rfl rfl
      refine JL_opt (u := I64 y157) [] rfl rfl rfl .scf trivial (fun hc => Am rfl rfl) ?_ rfl rfl rfl
      refine JL_opt (u := BL (decide (30 < y157))) [(86, I64 y157)] rfl rfl rfl .scf ⟨.all id, trivial⟩ (fun hc => A_gtr rfl rfl rfl) ?_ rfl rfl rfl
      refine Jg (u := BL ((decide (y157 < 0)) || (decide (30 < y157)))) (A_or rfl rfl rfl rfl) ?_ rfl rfl rfl
      refine Jg (u := BL ((decide (y157 < 0)) || (decide (30 < y157)))) (Am rfl rfl) ?_ rfl rfl rfl
      refine JL_opt (u := I64 (i157 : Int)) [] rfl rfl rfl .scf trivial (fun hc => Am rfl rfl) ?_ rfl rfl rfl
      refine JL_opt (u := BL (decide (0 < (i157 : Int)))) [(90, I64 (i157 : Int))] rfl rfl rfl .scf ⟨.all id, trivial⟩ (fun hc => A_gtr rfl rfl rfl) ?_ rfl rfl rfl
      refine JL_opt (u := BL (decide (0 < (i157 : Int)))) [(91, BL (decide (0 < (i157 : Int))))] rfl rfl rfl .scf ⟨.all id, trivial⟩ (fun hc => Am rfl rfl) ?_ rfl rfl rfl
      refine JL_opt (u := I64 y157) [] rfl rfl rfl .optt trivial (fun hc => Am rfl rfl) ?_ rfl rfl rfl
      refine JL_opt (u := .dptr [LS 1 I64 y84.Rows]) [] rfl rfl rfl .optt trivial (fun hc => A_fieldM tf_field_76_1 rfl rfl rfl) ?_ rfl rfl rfl
      refine JL_opt (u := LS 1 I64 y84.Rows) [(94, .dptr [LS 1 I64 y84.Rows])] rfl rfl rfl .optt ⟨.all id, trivial⟩ (fun hc => A_load tf_scalar_43 rfl rfl rfl) ?_ rfl rfl rfl
      refine JL_opt (u := I64 (i157 : Int)) [] rfl rfl rfl .optt trivial (fun hc => Am rfl rfl) ?_ rfl rfl rfl
      obtain ⟨v164, hv164, h⟩ := bnd_out h
      refine JL_opt (u := I64 v164) [(96, I64 (i157 : Int))] rfl rfl rfl .optt ⟨.all id, trivial⟩ (fun hc => A_sub (chk_some (bif_t hc hv164)) rfl rfl rfl) ?_ rfl rfl rfl
      obtain ⟨y165, hy165, h⟩ := bnd_out h
      refine JL_opt (u := .dptr [I64 y165]) [(95, LS 1 I64 y84.Rows), (97, I64 v164)] rfl rfl rfl .optt ⟨.all id, .all id, trivial⟩ (fun hc => (match gidx_some (bif_t hc hy165) with | ⟨_, hm_, hy_⟩ => A_indexM (f := I64) (xs := y84.Rows) (y := y165) rfl rfl rfl tf_slice_43 hy_ hm_)) ?_ rfl rfl rfl
      refine JL_opt (u := I64 y165) [(98, .dptr [I64 y165])] rfl rfl rfl .optt ⟨.all id, trivial⟩ (fun hc => A_load tf_scalar_3 rfl rfl rfl) ?_ rfl rfl rfl
      refine JL_opt (u := BL (decide (y157 ≤ y165))) [(93, I64 y157), (99, I64 y165)] rfl rfl rfl .optt ⟨.all id, .all id, trivial⟩ (fun hc => A_leq rfl rfl rfl) ?_ rfl rfl rfl
      refine JL_opt (u := BL ((decide (0 < (i157 : Int))) && (decide (y157 ≤ y165)))) [(92, BL (decide (0 < (i157 : Int)))), (100, _)] rfl rfl rfl .scf ⟨.all id, .part, trivial⟩ (fun hc => A_and rfl rfl rfl rfl) ?_ rfl rfl rfl
      refine Jg (u := BL (((decide (y157 < 0)) || (decide (30 < y157))) || ((decide (0 < (i157 : Int))) && (decide (y157 ≤ y165))))) (A_or rfl rfl rfl rfl) ?_ rfl rfl rfl
      refine Jn (hK163 _ _ ?_)
      refine JC_cond rfl (fun hb => ?_) (fun hb => ?_)
      ·
       replace h := bif_t hb h
       refine Js fun K166 hK166 => Jr ?_
       refine Jg (u := BL false) (Aa rfl rfl) ?_ rfl rfl rfl
       refine Jn (hK166 _ _ ?_)
       refine JC_ret ?_
       exact ⟨[BL false], [], trivial, rfl, ⟨⟨_, rfl, .conv (.same rfl)⟩, trivial⟩, rfl, false, Eq.mpr (Option.some.inj h) hp, rfl⟩
      ·
       replace h := bif_f hb h
       refine JC_skip ?_
       refine hK162 _ _ ?_
       refine JC_fits (l' := [(3, .mp 1106), (8, .dptr [I64 y84.Bay, LS 1 I64 y84.Rows]), (10, I64 y157), (55, LS 2 Cover.av s.Covers), (56, I64 (s.Covers.length : Int)), (57, I64 (i84 : Int)), (76, LS 1 I64 y84.Rows), (77, I64 (y84.Rows.length : Int)), (78, I64 (i157 : Int))]) (L' := [(1106, MP 129 Arr3Int.kv I64 s157)]) ⟨⟨.same rfl, .same rfl, .same rfl, .same rfl, .same rfl, .same rfl, .same rfl, .same rfl, .same rfl, trivial⟩, ⟨⟨_, rfl, .map⟩, trivial⟩, rfl⟩ ?_
       obtain ⟨v167, hv167, h⟩ := bnd_out h
       obtain ⟨v168, hv168, h⟩ := chk_out h
       refine JC_draw [7, 9] [0, 0, 0, 0, 0, 0, 0, 0, 1, 0] [0, 0, 0, 0, 0, 1, 1, 0, 1, 0] [[(1106, MP 129 Arr3Int.kv I64 s157)], ((1106, MI 129 Arr3Int.kv I64 s157 (Arr3Int.mk y84.Bay y157 2) 0) :: [(1106, MP 129 Arr3Int.kv I64 s157)]), ((1106, MP 129 Arr3Int.kv I64 (AMap.put s157 (Arr3Int.mk y84.Bay y157 2) v168)) :: ((1106, MI 129 Arr3Int.kv I64 s157 (Arr3Int.mk y84.Bay y157 2) 0) :: [(1106, MP 129 Arr3Int.kv I64 s157)]))] tf_mixed (by kernel_rfl) rfl rfl ?_
       refine D_ro (u := .mp 1106) rfl rfl ⟨O_go (Am rfl rfl) rfl, trivial⟩ ?_ rfl
       refine D_ro (u := .dptr [I64 y84.Bay, LS 1 I64 y84.Rows]) rfl rfl ⟨O_go (A_fieldM tf_field_76_0 rfl rfl rfl) rfl, trivial⟩ ?_ rfl
       refine D_ro (u := I64 y84.Bay) rfl rfl ⟨O_go (A_load tf_scalar_3 rfl rfl rfl) rfl, trivial⟩ ?_ rfl
       refine D_ro (u := I64 y157) rfl rfl ⟨O_go (Am rfl rfl) rfl, trivial⟩ ?_ rfl
       refine D_ro (u := .agg [I64 y84.Bay, I64 y157, I64 2]) rfl rfl ⟨O_go (A_buildArr (cs := [I64 y84.Bay, I64 y157, I64 2]) [.int .i64 0, .int .i64 0, .int .i64 0] tf_arr_130 tf_zero_130 rfl rfl) rfl, trivial⟩ ?_ rfl
       refine D_ro (u := I64 v167) rfl rfl ⟨O_go (((Option.some.inj hv167) ▸ A_lookupM0 (av := I64) (m := s157) (a := (Arr3Int.mk y84.Bay y157 2)) 0 (.int .i64 0) rfl rfl rfl rfl tk_130 tf_map_129 tf_zv_3 rfl)) rfl, O_go (((Option.some.inj hv167) ▸ A_lookupMI (av := I64) (m := s157) (a := (Arr3Int.mk y84.Bay y157 2)) 0 (.int .i64 0) rfl rfl rfl rfl tk_130 tf_map_129 tf_zv_3 rfl)) rfl, trivial⟩ ?_ rfl
       refine D_ro (u := I64 v168) rfl rfl ⟨O_go (A_add hv168 rfl rfl rfl) rfl, O_go (A_add hv168 rfl rfl rfl) rfl, trivial⟩ ?_ rfl
       refine D_w (u := .tup [.junk, I64 (midx (AMap.l s157) (Arr3Int.mk y84.Bay y157 2) : Int)]) rfl rfl rfl rfl (O_go (A_mapEntryM (m := s157) (a := (Arr3Int.mk y84.Bay y157 2)) 0 (.int .i64 0) rfl rfl rfl rfl tk_130 tf_map_129 tf_zv_3 rfl) rfl) ?_ rfl
       refine D_ro (u := I64 (midx (AMap.l s157) (Arr3Int.mk y84.Bay y157 2) : Int)) rfl rfl ⟨O_go (A_extract rfl rfl rfl) rfl, trivial⟩ ?_ rfl
       refine D_w0 (u := .junk) rfl rfl rfl rfl (O_go (A_entryStoreM (m := s157) (a := (Arr3Int.mk y84.Bay y157 2)) (v := v168) 0 rfl rfl rfl rfl rfl rfl) rfl) ?_
       refine D_nil ?_
       refine hK160 _ _ ?_
       refine Jr ?_
       refine Jg (u := I64 ((i157 + 1 : Nat) : Int)) (A_add (idx_succ hk157 hm77) rfl rfl rfl) ?_ rfl rfl rfl
       refine Jg (u := I64 ((i157 + 1 : Nat) : Int)) (Am rfl rfl) ?_ rfl rfl rfl
       refine Jn ?_
       exact e157 _ _ (i157 + 1) (AMap.put s157 (Arr3Int.mk y84.Bay y157 2) v168) (app1 hn157 h) (by omega) ⟨⟨.same rfl, .same rfl, .same rfl, .same rfl, .same rfl, .same rfl, .same rfl, .same rfl, trivial⟩, ⟨⟨_, rfl, .map⟩, trivial⟩, rfl⟩
     ·
      have h := app1 hkx157 (each_nil hi157 (not_lt_len hb))
      refine JC_exit ?_
      refine hK87 _ _ ?_
      refine Jr ?_
      refine Jg (u := I64 ((i84 + 1 : Nat) : Int)) (A_add (idx_succ hk84 hm56) rfl rfl rfl) ?_ rfl rfl rfl
      refine Jg (u := I64 ((i84 + 1 : Nat) : Int)) (Am rfl rfl) ?_ rfl rfl rfl
      refine Jn ?_
      exact e84 _ _ (i84 + 1) s157 (app1 hn84 h) (by omega) ⟨⟨.same rfl, .same rfl, .same rfl, .same rfl, trivial⟩, ⟨⟨_, rfl, .map⟩, trivial⟩, rfl⟩
   ·
    have h := app1 hkx84 (each_nil hi84 (not_lt_len hb))
    refine JC_exit ?_
    refine hK82 _ _ ?_
    refine Js (fun K169 hK169 => ?_)
    refine Js fun K170 hK170 => Jr ?_
    refine Jg (u := .mp 1106) (Am rfl rfl) ?_ rfl rfl rfl
    refine Jg (u := .it 1107) (A_rangeM 1107 (m := s84) rfl rfl rfl rfl tf_map_129) ?_ rfl rfl rfl
    refine Jn (hK170 _ _ ?_)
    refine JC_block ?_
    obtain ⟨b176, kx176, hb176, hkx176, h⟩ := eachM_in h
    refine JC_loopM (AMap.size s84) (fun i176 (s176 : Unit) => MInv b176 kx176 (AMap.l s84) i176 s176) (fun i176 s176 => [(115, .it 1107)]) (fun i176 s176 => [(1106, MP 129 Arr3Int.kv I64 s84), (1107, .iter 1106 (AMap.size s84) i176)]) () (MInv.start h hp) ⟨⟨.same rfl, trivial⟩, ⟨⟨_, rfl, .map⟩, ⟨_, rfl, .iter rfl⟩, trivial⟩, rfl⟩ ?_
    clear h hp
    intro i176 s176 hi176 K176 e176
    refine Js fun K177 hK177 => Jr ?_
    refine JL_step rfl rfl rfl (A_nextM (m := s84) rfl rfl rfl rfl) ?_
    intro u_ L_ hn_
    rcases hn_ with ⟨q176, x176, he176, hs176, rfl, rfl⟩ | ⟨ha176, rfl, rfl⟩
    ·
     obtain ⟨o176, h, ho1_176, ho2_176⟩ := hi176.step he176 hs176
     replace h := app3 hb176 h
     refine Jg (u := BL true) (A_extract rfl rfl rfl) ?_ rfl rfl rfl
     refine Jn (hK177 _ _ ?_)
     refine Js (fun K178 hK178 => ?_)
     refine JC_condT rfl ?_
     refine JC_skip ?_
     refine hK178 _ _ ?_
     refine JC_block ?_
     refine Js fun K179 hK179 => Jr ?_
     refine Jg (u := .tup [.agg (Arr3Int.cs x176.1), I64 x176.2]) (A_entryM (kv := Arr3Int.kv) (av := I64) (m := s84) (q := q176) (seen := i176) (e := x176) rfl rfl rfl rfl he176) ?_ rfl rfl rfl
     refine Jg (u := I64 x176.2) (A_extract rfl rfl rfl) ?_ rfl rfl rfl
     refine Jg (u := I64 x176.2) (Aa rfl rfl) ?_ rfl rfl rfl
     refine Jn (hK179 _ _ ?_)
     refine Js fun K180 hK180 => Jr ?_
     refine Jg (u := I64 x176.2) (Am rfl rfl) ?_ rfl rfl rfl
     refine Jg (u := BL (decide (1 < x176.2))) (A_gtr rfl rfl rfl) ?_ rfl rfl rfl
     refine Jn (hK180 _ _ ?_)
     refine JC_cond rfl (fun hb => ?_) (fun hb => ?_)
     ·
      replace h := bif_t hb h
      refine Js fun K181 hK181 => Jr ?_
      refine Jg (u := BL false) (Aa rfl rfl) ?_ rfl rfl rfl
      refine Jn (hK181 _ _ ?_)
      refine JC_ret ?_
      obtain ⟨y_, hy_, hl_⟩ := lft_out h
      exact ⟨[BL false], [], trivial, rfl, ⟨⟨_, rfl, .conv (.same rfl)⟩, trivial⟩, rfl, false, Eq.mpr (Option.some.inj hl_) (ho1_176 y_ hy_), rfl⟩
     ·
      replace h := bif_f hb h
      refine JC_skip ?_
      exact e176 _ _ (i176 ++ [q176]) () (ho2_176 _ (Option.some.inj h).symm) (unseen_lt (List.getElem?_eq_some_iff.1 he176).1 hs176) ⟨⟨.same rfl, trivial⟩, ⟨⟨_, rfl, .map⟩, ⟨_, rfl, .iter rfl⟩, trivial⟩, rfl⟩
    ·
     obtain ⟨p_, h, hp⟩ := hi176.done ha176
     replace h := app1 hkx176 h
     refine Jg (u := BL false) (A_extract rfl rfl rfl) ?_ rfl rfl rfl
     refine Jn (hK177 _ _ ?_)
     refine Js (fun K182 hK182 => ?_)
     refine JC_condF rfl ?_
     refine JC_exit ?_
     refine hK169 _ _ ?_
     refine Js fun K183 hK183 => Jr ?_
     refine Jg (u := BL true) (Aa rfl rfl) ?_ rfl rfl rfl
     refine Jn (hK183 _ _ ?_)
     refine JC_ret ?_
     exact ⟨[BL true], [], trivial, rfl, ⟨⟨_, rfl, .conv (.same rfl)⟩, trivial⟩, rfl, true, Eq.mpr (Option.some.inj h) hp, rfl⟩
theorem M_ship_Right_s (S_ : (Ship) → Option Bool) (hS_ : ∀ s r, S_ s = some r → ∃ p : Prop, M_ship_Right s (fun r_ => r_ = r) = some p ∧ p) (s : Ship) (r : Bool) (h : S_ s = some r) : Pure Try.prog 35 [.agg [LS 12 Column.av s.Columns, LS 2 Cover.av s.Covers, I64 s.Light.Kilos, I64 s.Light.X, I64 s.Light.Y, I64 s.Light.Z, LS 5 Row.av s.Rows, LS 5 Frame.av s.Frames, LS 6 Tank.av s.Tanks, I64 s.Limits.Tolerance, I64 s.Limits.Trim, I64 s.Limits.List_, I64 s.Limits.Stability]] (· = BL r) := by
 obtain ⟨p, h1, h2⟩ := hS_ s r h
 exact (M_ship_Right_w s _ p h1 h2).monoP (fun av hh => by obtain ⟨r_, rfl, ha⟩ := hh; exact ha)

def M_slot_halves (size : Int) : Option (List Int) :=
 bif decide (size = 40) then
 (some [0])
 else
 (bif decide (size = 20) then
  (some [1, 2])
  else
  (some []))
theorem M_slot_halves_w (size : Int) (r : (List Int)) (h : M_slot_halves size = some r) : Pure Try.prog 56 [U8 size] (· = LS 1 U8 r) := by
 unfold M_slot_halves at h
 refine Pure_ofG [.tmp 2] Try.func56 rfl rfl ?_
 refine Js fun K1 hK1 => Jr ?_
 refine Jg (u := LS 1 U8 ([] : List Int)) (A_nilList 1 rfl rfl) ?_ rfl rfl rfl
 refine Jn (hK1 _ _ ?_)
 refine Js (fun K2 hK2 => ?_)
 refine Js fun K3 hK3 => Jr ?_
 refine Jg (u := U8 size) (Am rfl rfl) ?_ rfl rfl rfl
 refine Jn (hK3 _ _ ?_)
 refine JC_block ?_
 refine Js fun K4 hK4 => Jr ?_
 refine Jg (u := BL (decide (size = 40))) (A_eql rfl rfl rfl) ?_ rfl rfl rfl
 refine Jg (u := BL (decide (size = 40))) (Aa rfl rfl) ?_ rfl rfl rfl
 refine Jn (hK4 _ _ ?_)
 refine JC_cond rfl (fun hb => ?_) (fun hb => ?_)
 ·
  replace h := bif_t hb h
  refine Js fun K5 hK5 => Jr ?_
  refine Jg (u := LS 1 U8 [0]) (A_buildSlice (xs := [U8 0]) rfl ⟨rfl, rfl, trivial⟩ tf_slice_127 tf_zsize_5 rfl rfl rfl rfl) ?_ rfl rfl rfl
  refine Jg (u := LS 1 U8 [0]) (Aa rfl rfl) ?_ rfl rfl rfl
  refine Jn (hK5 _ _ ?_)
  refine JC_ret ?_
  exact ⟨[LS 1 U8 [0]], [], trivial, rfl, ⟨⟨_, rfl, .conv (.same rfl)⟩, trivial⟩, rfl, congrArg (fun r : (List Int) => (LS 1 U8 r : AV)) (Option.some.inj h)⟩
 ·
  replace h := bif_f hb h
  refine Js fun K6 hK6 => Jr ?_
  refine Jg (u := BL (decide (size = 20))) (A_eql rfl rfl rfl) ?_ rfl rfl rfl
  refine Jg (u := BL (decide (size = 20))) (Aa rfl rfl) ?_ rfl rfl rfl
  refine Jn (hK6 _ _ ?_)
  refine JC_cond rfl (fun hb => ?_) (fun hb => ?_)
  ·
   replace h := bif_t hb h
   refine Js fun K7 hK7 => Jr ?_
   refine Jg (u := LS 1 U8 [1, 2]) (A_buildSlice (xs := [U8 1, U8 2]) rfl ⟨rfl, rfl, rfl, rfl, trivial⟩ tf_slice_127 tf_zsize_5 rfl rfl rfl rfl) ?_ rfl rfl rfl
   refine Jg (u := LS 1 U8 [1, 2]) (Aa rfl rfl) ?_ rfl rfl rfl
   refine Jn (hK7 _ _ ?_)
   refine JC_ret ?_
   exact ⟨[LS 1 U8 [1, 2]], [], trivial, rfl, ⟨⟨_, rfl, .conv (.same rfl)⟩, trivial⟩, rfl, congrArg (fun r : (List Int) => (LS 1 U8 r : AV)) (Option.some.inj h)⟩
  ·
   replace h := bif_f hb h
   refine JC_skip ?_
   refine hK2 _ _ ?_
   refine Js fun K8 hK8 => Jr ?_
   refine Jg (u := LS 1 U8 ([] : List Int)) (A_nilList 1 rfl rfl) ?_ rfl rfl rfl
   refine Jn (hK8 _ _ ?_)
   refine JC_ret ?_
   exact ⟨[LS 1 U8 ([] : List Int)], [], trivial, rfl, ⟨⟨_, rfl, .conv (.same rfl)⟩, trivial⟩, rfl, congrArg (fun r : (List Int) => (LS 1 U8 r : AV)) (Option.some.inj h)⟩

def M_slot_slots_1 (p1 : Ship) (p2 : Int) (ys_ : List Slot) : Option Unit :=
 each (fun y2 i2 (s2 : Nat) nx2 =>
  need (decide ((max y2.Tiers 0) ≤ 9223372036854775807)) <|
  upto (fun i8 (s8 : Nat) nx8 =>
   bnd (M_slot_halves p2) fun r14 =>
   each (fun y29 i29 (s29 : Nat) nx29 =>
    need (decide (ys_[s29]? = some (Slot.mk (i2 : Int) (i8 : Int) y29))) <|
    nx29 (s29 + 1))
   (fun (s29 : Nat) =>
    nx8 s29) r14 0 s8)
  (fun (s8 : Nat) =>
   nx2 s8) (max y2.Tiers 0).toNat 0 s2)
 (fun (s2 : Nat) =>
  need (decide (s2 = ys_.length)) (some ())) p1.Columns 0 0
theorem M_slot_slots_1_w (p1 : Ship) (p2 : Int) (ys_ : List Slot) (q_ : Unit) (h : M_slot_slots_1 p1 p2 ys_ = some q_) : Iter Try.prog 55 [.dptr (Ship.cs p1), .dptr [U8 p2]] (ys_.map (fun y : Slot => [.agg [I64 y.Column, I64 y.Tier, U8 y.Half]])) := by
 unfold M_slot_slots_1 at h
 refine Iter_of Try.func55 rfl rfl ?_
 intro E hE hys
 refine JI_seq (fun K1 hK1 => ?_)
 refine JI_region ?_
 refine JIL_go (u := .dptr (Ship.cs p1)) hE (A_fieldM tf_field_35_0 rfl rfl rfl) ?_ rfl rfl rfl rfl
 refine JIL_go (u := LS 12 Column.av p1.Columns) hE (A_load tf_scalar_25 rfl rfl rfl) ?_ rfl rfl rfl rfl
 refine JIL_lenM hE (f := Column.av) (xs := p1.Columns) tf_slice_25 rfl rfl (fun hm11 => ?_) rfl rfl rfl
 refine JIL_go (u := I64 0) hE (Am rfl rfl) ?_ rfl rfl rfl rfl
 refine JIL_nil ?_
 refine hK1 _ _ _ ?_
 refine JI_block ?_
 obtain ⟨b2, kx2, hb2, hkx2, h⟩ := each_in h
 refine JI_loop2 (fun i2 (s2 : Nat) => each b2 kx2 (List.drop i2 p1.Columns) i2 s2 = some q_) (fun i2 s2 => [(0, .sc (.func (.yield E.lp) #[] #[])), (2, .dptr [U8 p2]), (10, LS 12 Column.av p1.Columns), (11, I64 (p1.Columns.length : Int)), (12, I64 (i2 : Int))]) (fun i2 s2 => []) (fun i2 s2 => s2) (fun i2 => p1.Columns.length - i2) 0 0 h ⟨⟨.same rfl, .same rfl, .same rfl, .same rfl, .same rfl, trivial⟩, trivial, rfl⟩ rfl ?_
 clear h
 intro i2 s2 hi2 K2 e2
 refine JI_seq (fun K3 hK3 => ?_)
 refine JI_region ?_
 refine JIL_go (u := BL (decide ((i2 : Int) < (p1.Columns.length : Int)))) hE (A_lss rfl rfl rfl) ?_ rfl rfl rfl rfl
 refine JIL_nil ?_
 refine hK3 _ _ _ ?_
 refine JI_seq (fun K4 hK4 => ?_)
 refine JI_cond rfl (fun hb => ?_) (fun hb => ?_)
 ·
  have hk2 := lt_len hb
  obtain ⟨y2, nx2, hy2, hn2, h⟩ := each_out hi2 hk2
  replace h := app4 hb2 h
  refine JI_skip ?_
  refine hK4 _ _ _ ?_
  refine JI_seq (fun K5 hK5 => ?_)
  refine JI_block ?_
  refine JI_seq (fun K6 hK6 => ?_)
  refine JI_region ?_
  refine JIL_go (u := I64 (i2 : Int)) hE (Am rfl rfl) ?_ rfl rfl rfl rfl
  refine JIL_go (u := .dptr (Column.cs y2)) hE (A_indexM (f := Column.av) (xs := p1.Columns) (y := y2) rfl rfl rfl tf_slice_25 hy2 rfl) ?_ rfl rfl rfl rfl
  refine JIL_go (u := .agg (Column.cs y2)) hE (A_loadAgg tf_agg_72 rfl rfl rfl) ?_ rfl rfl rfl rfl
  refine JIL_go (u := .ptr 1133 0) hE (A_allocJ 1133 12 tf_zsize_72 rfl rfl) ?_ rfl rfl rfl rfl
  refine JIL_go (u := I64 (i2 : Int)) hE (Aa rfl rfl) ?_ rfl rfl rfl rfl
  refine JIL_go0 (u := .junk) hE (A_store (u := .agg (Column.cs y2)) (ds := [I64 y2.Bay, I64 y2.Row, BL y2.Deck, I64 y2.Tiers, I64 y2.Height, I64 y2.Kilos20, I64 y2.Kilos40, I64 y2.Lash, LS 1 I64 y2.Plugs, I64 y2.X, I64 y2.Y, I64 y2.Z]) tf_size_72 rfl rfl rfl rfl rfl rfl rfl rfl) ?_ rfl rfl rfl
  refine JIL_nil ?_
  refine hK6 _ _ _ ?_
  refine JI_seq (fun K7 hK7 => ?_)
  refine JI_region ?_
  refine JIL_go (u := .ptr 1133 3) hE (A_fieldL tf_field_72_3 rfl rfl) ?_ rfl rfl rfl rfl
  refine JIL_go (u := I64 y2.Tiers) hE (A_loadL tf_scalar_3 rfl rfl rfl rfl) ?_ rfl rfl rfl rfl
  refine JIL_go (u := I64 (max y2.Tiers 0)) hE (A_max rfl rfl rfl) ?_ rfl rfl rfl rfl
  refine JIL_go (u := I64 0) hE (Am rfl rfl) ?_ rfl rfl rfl rfl
  refine JIL_nil ?_
  refine hK7 _ _ _ ?_
  refine JI_block ?_
  obtain ⟨hx8, h⟩ := need_out h
  obtain ⟨b8, kx8, hb8, hkx8, h⟩ := upto_in h
  refine JI_loop2 (fun i8 (s8 : Nat) => upto b8 kx8 ((max y2.Tiers 0).toNat - i8) i8 s8 = some q_) (fun i8 s8 => [(0, .sc (.func (.yield E.lp) #[] #[])), (2, .dptr [U8 p2]), (4, I64 (i2 : Int)), (10, LS 12 Column.av p1.Columns), (11, I64 (p1.Columns.length : Int)), (12, I64 (i2 : Int)), (19, I64 (max y2.Tiers 0)), (20, I64 (i8 : Int))]) (fun i8 s8 => [(1133, .box 72 [I64 y2.Bay, I64 y2.Row, BL y2.Deck, I64 y2.Tiers, I64 y2.Height, I64 y2.Kilos20, I64 y2.Kilos40, I64 y2.Lash, LS 1 I64 y2.Plugs, I64 y2.X, I64 y2.Y, I64 y2.Z])]) (fun i8 s8 => s8) (fun i8 => (max y2.Tiers 0).toNat - i8) 0 s2 h ⟨⟨.same rfl, .same rfl, .same rfl, .same rfl, .same rfl, .same rfl, .same rfl, .same rfl, trivial⟩, ⟨⟨_, rfl, .boxL rfl ⟨.same rfl, .same rfl, .same rfl, .same rfl, .same rfl, .same rfl, .same rfl, .same rfl, .same rfl, .same rfl, .same rfl, .same rfl, trivial⟩⟩, trivial⟩, rfl⟩ rfl ?_
  clear h
  intro i8 s8 hi8 K8 e8
  refine JI_seq (fun K9 hK9 => ?_)
  refine JI_region ?_
  refine JIL_go (u := BL (decide ((i8 : Int) < (max y2.Tiers 0)))) hE (A_lss rfl rfl rfl) ?_ rfl rfl rfl rfl
  refine JIL_nil ?_
  refine hK9 _ _ _ ?_
  refine JI_seq (fun K10 hK10 => ?_)
  refine JI_cond rfl (fun hb => ?_) (fun hb => ?_)
  ·
   have hk8 := lt_toNat hb
   obtain ⟨nx8, hn8, h⟩ := upto_out hi8 hk8
   replace h := app3 hb8 h
   refine JI_skip ?_
   refine hK10 _ _ _ ?_
   refine JI_seq (fun K11 hK11 => ?_)
   refine JI_block ?_
   refine JI_seq (fun K12 hK12 => ?_)
   refine JI_region ?_
   refine JIL_go (u := I64 (i8 : Int)) hE (Am rfl rfl) ?_ rfl rfl rfl rfl
   refine JIL_go (u := I64 (i8 : Int)) hE (Aa rfl rfl) ?_ rfl rfl rfl rfl
   refine JIL_nil ?_
   refine hK12 _ _ _ ?_
   refine JI_seq (fun K13 hK13 => ?_)
   refine JI_region ?_
   refine JIL_go (u := U8 p2) hE (A_load tf_scalar_5 rfl rfl rfl) ?_ rfl rfl rfl rfl
   obtain ⟨r14, hr14, h⟩ := bnd_out h
   refine JIL_go (u := LS 1 U8 r14) hE (A_call1 (args := [U8 p2]) rfl (M_slot_halves_w p2 r14 hr14) tf_call_56 ⟨rfl, rfl, trivial⟩) ?_ rfl rfl rfl rfl
   refine JIL_lenM hE (f := U8) (xs := r14) tf_slice_127 rfl rfl (fun hm25 => ?_) rfl rfl rfl
   refine JIL_go (u := I64 0) hE (Am rfl rfl) ?_ rfl rfl rfl rfl
   refine JIL_nil ?_
   refine hK13 _ _ _ ?_
   refine JI_block ?_
   obtain ⟨b29, kx29, hb29, hkx29, h⟩ := each_in h
   refine JI_loop2 (fun i29 (s29 : Nat) => each b29 kx29 (List.drop i29 r14) i29 s29 = some q_) (fun i29 s29 => [(0, .sc (.func (.yield E.lp) #[] #[])), (2, .dptr [U8 p2]), (4, I64 (i2 : Int)), (6, I64 (i8 : Int)), (10, LS 12 Column.av p1.Columns), (11, I64 (p1.Columns.length : Int)), (12, I64 (i2 : Int)), (19, I64 (max y2.Tiers 0)), (20, I64 (i8 : Int)), (24, LS 1 U8 r14), (25, I64 (r14.length : Int)), (26, I64 (i29 : Int))]) (fun i29 s29 => [(1133, .box 72 [I64 y2.Bay, I64 y2.Row, BL y2.Deck, I64 y2.Tiers, I64 y2.Height, I64 y2.Kilos20, I64 y2.Kilos40, I64 y2.Lash, LS 1 I64 y2.Plugs, I64 y2.X, I64 y2.Y, I64 y2.Z])]) (fun i29 s29 => s29) (fun i29 => r14.length - i29) 0 s8 h ⟨⟨.same rfl, .same rfl, .same rfl, .same rfl, .same rfl, .same rfl, .same rfl, .same rfl, .same rfl, .same rfl, .same rfl, .same rfl, trivial⟩, ⟨⟨_, rfl, .boxL rfl ⟨.same rfl, .same rfl, .same rfl, .same rfl, .same rfl, .same rfl, .same rfl, .same rfl, .same rfl, .same rfl, .same rfl, .same rfl, trivial⟩⟩, trivial⟩, rfl⟩ rfl ?_
   clear h
   intro i29 s29 hi29 K29 e29
   refine JI_seq (fun K30 hK30 => ?_)
   refine JI_region ?_
   refine JIL_go (u := BL (decide ((i29 : Int) < (r14.length : Int)))) hE (A_lss rfl rfl rfl) ?_ rfl rfl rfl rfl
   refine JIL_nil ?_
   refine hK30 _ _ _ ?_
   refine JI_seq (fun K31 hK31 => ?_)
   refine JI_cond rfl (fun hb => ?_) (fun hb => ?_)
   ·
    have hk29 := lt_len hb
    obtain ⟨y29, nx29, hy29, hn29, h⟩ := each_out hi29 hk29
    replace h := app4 hb29 h
    refine JI_skip ?_
    refine hK31 _ _ _ ?_
    refine JI_seq (fun K32 hK32 => ?_)
    refine JI_block ?_
    refine JI_seq (fun K33 hK33 => ?_)
    refine JI_region ?_
    refine JIL_go (u := .dptr [U8 y29]) hE (A_indexM (f := U8) (xs := r14) (y := y29) rfl rfl rfl tf_slice_127 hy29 rfl) ?_ rfl rfl rfl rfl
    refine JIL_go (u := U8 y29) hE (A_load tf_scalar_5 rfl rfl rfl) ?_ rfl rfl rfl rfl
    refine JIL_go (u := U8 y29) hE (Aa rfl rfl) ?_ rfl rfl rfl rfl
    refine JIL_nil ?_
    refine hK33 _ _ _ ?_
    refine JI_seq (fun K34 hK34 => ?_)
    refine JI_region ?_
    refine JIL_go (u := .sc (.func (.yield E.lp) #[] #[])) hE (Am rfl rfl) ?_ rfl rfl rfl rfl
    refine JIL_go (u := I64 (i2 : Int)) hE (Am rfl rfl) ?_ rfl rfl rfl rfl
    refine JIL_go (u := I64 (i8 : Int)) hE (Am rfl rfl) ?_ rfl rfl rfl rfl
    refine JIL_go (u := U8 y29) hE (Am rfl rfl) ?_ rfl rfl rfl rfl
    refine JIL_go (u := .agg [I64 (i2 : Int), I64 (i8 : Int), U8 y29]) hE (A_buildZ (cs := [I64 (i2 : Int), I64 (i8 : Int), U8 y29]) [(0, 1), (1, 1), (2, 1)] [I64 0, I64 0, U8 0] [.int .i64 0, .int .i64 0, .int .u8 0] tf_places_80 tf_zero_80 ⟨.inl rfl, .inl rfl, .inl rfl, trivial⟩ rfl rfl) ?_ rfl rfl rfl rfl
    obtain ⟨ha35, h⟩ := need_out h
    refine JIL_yield (us := [.agg [I64 (i2 : Int), I64 (i8 : Int), U8 y29]]) hE rfl rfl ⟨rfl, rfl, trivial⟩ (yld_at (f := (fun y : Slot => [.agg [I64 y.Column, I64 y.Tier, U8 y.Half]])) (x := (Slot.mk (i2 : Int) (i8 : Int) y29)) hys ha35) ?_ rfl rfl rfl
    refine JIL_go (u := BL false) hE (A_not (b := true) rfl rfl) ?_ rfl rfl rfl rfl
    refine JIL_nil ?_
    refine hK34 _ _ _ ?_
    refine JI_condF rfl ?_
    refine JI_skip ?_
    refine hK32 _ _ _ ?_
    refine JI_region ?_
    refine JIL_go (u := I64 ((i29 + 1 : Nat) : Int)) hE (A_add (idx_succ hk29 hm25) rfl rfl rfl) ?_ rfl rfl rfl rfl
    refine JIL_go (u := I64 ((i29 + 1 : Nat) : Int)) hE (Am rfl rfl) ?_ rfl rfl rfl rfl
    refine JIL_nil ?_
    exact e29 _ _ (i29 + 1) (s29 + 1) _ (app1 hn29 h) (by omega) ⟨⟨.same rfl, .same rfl, .same rfl, .same rfl, .same rfl, .same rfl, .same rfl, .same rfl, .same rfl, .same rfl, .same rfl, .same rfl, trivial⟩, ⟨⟨_, rfl, .boxL rfl ⟨.same rfl, .same rfl, .same rfl, .same rfl, .same rfl, .same rfl, .same rfl, .same rfl, .same rfl, .same rfl, .same rfl, .same rfl, trivial⟩⟩, trivial⟩, rfl⟩ rfl
   ·
    have h := app1 hkx29 (each_nil hi29 (not_lt_len hb))
    refine JI_exit ?_
    refine hK11 _ _ _ ?_
    refine JI_region ?_
    refine JIL_go (u := I64 ((i8 + 1 : Nat) : Int)) hE (A_add (idx_succ hk8 (toNat_max hx8)) rfl rfl rfl) ?_ rfl rfl rfl rfl
    refine JIL_go (u := I64 ((i8 + 1 : Nat) : Int)) hE (Am rfl rfl) ?_ rfl rfl rfl rfl
    refine JIL_nil ?_
    exact e8 _ _ (i8 + 1) s29 _ (app1 hn8 h) (by omega) ⟨⟨.same rfl, .same rfl, .same rfl, .same rfl, .same rfl, .same rfl, .same rfl, .same rfl, trivial⟩, ⟨⟨_, rfl, .boxL rfl ⟨.same rfl, .same rfl, .same rfl, .same rfl, .same rfl, .same rfl, .same rfl, .same rfl, .same rfl, .same rfl, .same rfl, .same rfl, trivial⟩⟩, trivial⟩, rfl⟩ rfl
  ·
   have h := app1 hkx8 (upto_nil hi8 (not_lt_toNat hb))
   refine JI_exit ?_
   refine hK5 _ _ _ ?_
   refine JI_region ?_
   refine JIL_go (u := I64 ((i2 + 1 : Nat) : Int)) hE (A_add (idx_succ hk2 hm11) rfl rfl rfl) ?_ rfl rfl rfl rfl
   refine JIL_go (u := I64 ((i2 + 1 : Nat) : Int)) hE (Am rfl rfl) ?_ rfl rfl rfl rfl
   refine JIL_nil ?_
   exact e2 _ _ (i2 + 1) s8 _ (app1 hn2 h) (by omega) ⟨⟨.same rfl, .same rfl, .same rfl, .same rfl, .same rfl, trivial⟩, trivial, rfl⟩ rfl
 ·
  have h := app1 hkx2 (each_nil hi2 (not_lt_len hb))
  refine JI_exit ?_
  exact yld_end (need_out h).1
theorem M_slot_slots_1_s (S_ : (Ship) → (Int) → Option (List Slot)) (hS_ : ∀ p1 p2 r, S_ p1 p2 = some r → M_slot_slots_1 p1 p2 r = some ()) (p1 : Ship) (p2 : Int) (r : List Slot) (h : S_ p1 p2 = some r) : Iter Try.prog 55 [.dptr (Ship.cs p1), .dptr [U8 p2]] (r.map (fun y : Slot => [.agg [I64 y.Column, I64 y.Tier, U8 y.Half]])) := M_slot_slots_1_w p1 p2 r () (hS_ p1 p2 r h)

def M_plan_steps_1 (p1 : Plan) (ys_ : List ((List Stowed) × (List Stowed))) : Option Unit :=
 each (fun y23 i23 (s23 : (List Stowed) × Nat) nx23 =>
  need (decide (ys_[s23.2]? = some (s23.1, y23))) <|
  nx23 (y23, (s23.2 + 1)))
 (fun (s23 : (List Stowed) × Nat) =>
  need (decide (s23.2 = ys_.length)) (some ())) p1.States 0 ([], 0)
theorem M_plan_steps_1_w (p1 : Plan) (ys_ : List ((List Stowed) × (List Stowed))) (q_ : Unit) (h : M_plan_steps_1 p1 ys_ = some q_) : Iter Try.prog 51 [.dptr [LS 1 (LS 4 Stowed.av) p1.States, LS 1 (LS 1 I64) p1.Water]] (ys_.map (fun y : (List Stowed) × (List Stowed) => [LS 4 Stowed.av y.1, LS 4 Stowed.av y.2])) := by
 unfold M_plan_steps_1 at h
 refine Iter_of Try.func51 rfl rfl ?_
 intro E hE hys
 refine JI_seq (fun K1 hK1 => ?_)
 refine JI_region ?_
 refine JIL_go (u := LS 4 Stowed.av ([] : List Stowed)) hE (A_nilList 4 rfl rfl) ?_ rfl rfl rfl rfl
 refine JIL_nil ?_
 refine hK1 _ _ _ ?_
 refine JI_seq (fun K2 hK2 => ?_)
 refine JI_region ?_
 refine JIL_go (u := .dptr [LS 1 (LS 4 Stowed.av) p1.States, LS 1 (LS 1 I64) p1.Water]) hE (A_fieldM tf_field_59_0 rfl rfl rfl) ?_ rfl rfl rfl rfl
 refine JIL_go (u := LS 1 (LS 4 Stowed.av) p1.States) hE (A_load tf_scalar_56 rfl rfl rfl) ?_ rfl rfl rfl rfl
 refine JIL_lenM hE (f := (LS 4 Stowed.av)) (xs := p1.States) tf_slice_56 rfl rfl (fun hm8 => ?_) rfl rfl rfl
 refine JIL_go (u := I64 0) hE (Am rfl rfl) ?_ rfl rfl rfl rfl
 refine JIL_nil ?_
 refine hK2 _ _ _ ?_
 refine JI_block ?_
 obtain ⟨b23, kx23, hb23, hkx23, h⟩ := each_in h
 refine JI_loop2 (fun i23 (s23 : (List Stowed) × Nat) => each b23 kx23 (List.drop i23 p1.States) i23 s23 = some q_) (fun i23 s23 => [(0, .sc (.func (.yield E.lp) #[] #[])), (3, LS 4 Stowed.av s23.1), (7, LS 1 (LS 4 Stowed.av) p1.States), (8, I64 (p1.States.length : Int)), (9, I64 (i23 : Int))]) (fun i23 s23 => []) (fun i23 s23 => s23.2) (fun i23 => p1.States.length - i23) 0 ([], 0) h ⟨⟨.same rfl, .same rfl, .same rfl, .same rfl, .same rfl, trivial⟩, trivial, rfl⟩ rfl ?_
 clear h
 intro i23 s23 hi23 K23 e23
 refine JI_seq (fun K24 hK24 => ?_)
 refine JI_region ?_
 refine JIL_go (u := BL (decide ((i23 : Int) < (p1.States.length : Int)))) hE (A_lss rfl rfl rfl) ?_ rfl rfl rfl rfl
 refine JIL_nil ?_
 refine hK24 _ _ _ ?_
 refine JI_seq (fun K25 hK25 => ?_)
 refine JI_cond rfl (fun hb => ?_) (fun hb => ?_)
 ·
  have hk23 := lt_len hb
  obtain ⟨y23, nx23, hy23, hn23, h⟩ := each_out hi23 hk23
  replace h := app4 hb23 h
  refine JI_skip ?_
  refine hK25 _ _ _ ?_
  refine JI_seq (fun K26 hK26 => ?_)
  refine JI_block ?_
  refine JI_seq (fun K27 hK27 => ?_)
  refine JI_region ?_
  refine JIL_go (u := .dptr [LS 4 Stowed.av y23]) hE (A_indexM (f := (LS 4 Stowed.av)) (xs := p1.States) (y := y23) rfl rfl rfl tf_slice_56 hy23 rfl) ?_ rfl rfl rfl rfl
  refine JIL_go (u := LS 4 Stowed.av y23) hE (A_load tf_scalar_40 rfl rfl rfl) ?_ rfl rfl rfl rfl
  refine JIL_go (u := LS 4 Stowed.av y23) hE (Aa rfl rfl) ?_ rfl rfl rfl rfl
  refine JIL_nil ?_
  refine hK27 _ _ _ ?_
  refine JI_seq (fun K28 hK28 => ?_)
  refine JI_seq (fun K29 hK29 => ?_)
  refine JI_region ?_
  refine JIL_go (u := .sc (.func (.yield E.lp) #[] #[])) hE (Am rfl rfl) ?_ rfl rfl rfl rfl
  refine JIL_go (u := LS 4 Stowed.av s23.1) hE (Am rfl rfl) ?_ rfl rfl rfl rfl
  refine JIL_go (u := LS 4 Stowed.av y23) hE (Am rfl rfl) ?_ rfl rfl rfl rfl
  obtain ⟨ha30, h⟩ := need_out h
  refine JIL_yield (us := [LS 4 Stowed.av s23.1, LS 4 Stowed.av y23]) hE rfl rfl ⟨rfl, rfl, rfl, rfl, trivial⟩ (yld_at (f := (fun y : (List Stowed) × (List Stowed) => [LS 4 Stowed.av y.1, LS 4 Stowed.av y.2])) (x := (s23.1, y23)) hys ha30) ?_ rfl rfl rfl
  refine JIL_go (u := BL false) hE (A_not (b := true) rfl rfl) ?_ rfl rfl rfl rfl
  refine JIL_nil ?_
  refine hK29 _ _ _ ?_
  refine JI_condF rfl ?_
  refine JI_skip ?_
  refine hK28 _ _ _ ?_
  refine JI_region ?_
  refine JIL_go (u := LS 4 Stowed.av y23) hE (Am rfl rfl) ?_ rfl rfl rfl rfl
  refine JIL_go (u := LS 4 Stowed.av y23) hE (Aa rfl rfl) ?_ rfl rfl rfl rfl
  refine JIL_nil ?_
  refine hK26 _ _ _ ?_
  refine JI_region ?_
  refine JIL_go (u := I64 ((i23 + 1 : Nat) : Int)) hE (A_add (idx_succ hk23 hm8) rfl rfl rfl) ?_ rfl rfl rfl rfl
  refine JIL_go (u := I64 ((i23 + 1 : Nat) : Int)) hE (Am rfl rfl) ?_ rfl rfl rfl rfl
  refine JIL_nil ?_
  exact e23 _ _ (i23 + 1) (y23, (s23.2 + 1)) _ (app1 hn23 h) (by omega) ⟨⟨.same rfl, .same rfl, .same rfl, .same rfl, .same rfl, trivial⟩, trivial, rfl⟩ rfl
 ·
  have h := app1 hkx23 (each_nil hi23 (not_lt_len hb))
  refine JI_exit ?_
  exact yld_end (need_out h).1
theorem M_plan_steps_1_s (S_ : (Plan) → Option (List ((List Stowed) × (List Stowed)))) (hS_ : ∀ p1 r, S_ p1 = some r → M_plan_steps_1 p1 r = some ()) (p1 : Plan) (r : List ((List Stowed) × (List Stowed))) (h : S_ p1 = some r) : Iter Try.prog 51 [.dptr [LS 1 (LS 4 Stowed.av) p1.States, LS 1 (LS 1 I64) p1.Water]] (r.map (fun y : (List Stowed) × (List Stowed) => [LS 4 Stowed.av y.1, LS 4 Stowed.av y.2])) := M_plan_steps_1_w p1 r () (hS_ p1 r h)
end
end Go.Proofs.Ytbpgdkibmejibaa
