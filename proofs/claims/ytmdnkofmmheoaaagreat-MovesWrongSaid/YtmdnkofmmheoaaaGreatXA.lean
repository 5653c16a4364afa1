/-
 Models of functions of the program, and that they return what the models say.
-/
import Derived.Test.YtmdnkofmmheoaaaGreatProg
import Derived.Test.YtmdnkofmmheoaaaGreatSortM
import Derived.Test.YtmdnkofmmheoaaaGreatSortLay
import Derived.Test.YtmdnkofmmheoaaaGreatRel
import Derived.Test.YtmdnkofmmheoaaaGreatLit0
set_option maxRecDepth 100000
set_option linter.unusedVariables false
set_option linter.unusedSimpArgs false
namespace Go.Proofs.YtmdnkofmmheoaaaGreat
open Go.RowKit
noncomputable section
structure ship_span where
 n : Int
 low : Int
 high : Int
 deriving DecidableEq, Inhabited
def ship_span.cs (x : ship_span) : List AV := [G0 x.n, G0 x.low, G0 x.high]
def ship_span.av (x : ship_span) : AV := .agg x.cs
structure G5 where
 Bay : Int
 Row : Int
 Deck : Bool
 Tiers : Int
 Height : Int
 Kilos20 : Int
 Kilos40 : Int
 Lash : Int
 Plugs : List Int
 X : Int
 Y : Int
 Z : Int
 deriving DecidableEq, Inhabited
def G5.cs (x : G5) : List AV := [G0 x.Bay, G0 x.Row, BL x.Deck, G0 x.Tiers, G0 x.Height, G0 x.Kilos20, G0 x.Kilos40, G0 x.Lash, LS 1 G0 x.Plugs, G0 x.X, G0 x.Y, G0 x.Z]
def G5.av (x : G5) : AV := .agg x.cs
structure Gc where
 Bay : Int
 Rows : List Int
 deriving DecidableEq, Inhabited
def Gc.cs (x : Gc) : List AV := [G0 x.Bay, LS 1 G0 x.Rows]
def Gc.av (x : Gc) : AV := .agg x.cs
structure Light where
 Kilos : Int
 X : Int
 Y : Int
 Z : Int
 deriving DecidableEq, Inhabited
def Light.cs (x : Light) : List AV := [G0 x.Kilos, G0 x.X, G0 x.Y, G0 x.Z]
def Light.av (x : Light) : AV := .agg x.cs
structure Row where
 Draught : Int
 Kilos : Int
 Buoy : Int
 Metacentre : Int
 Turn : Int
 deriving DecidableEq, Inhabited
def Row.cs (x : Row) : List AV := [G0 x.Draught, G0 x.Kilos, G0 x.Buoy, G0 x.Metacentre, G0 x.Turn]
def Row.av (x : Row) : AV := .agg x.cs
structure Frame where
 X : Int
 Light : Int
 Share : Int
 Shear : Int
 Bend : Int
 deriving DecidableEq, Inhabited
def Frame.cs (x : Frame) : List AV := [G0 x.X, G0 x.Light, G0 x.Share, G0 x.Shear, G0 x.Bend]
def Frame.av (x : Frame) : AV := .agg x.cs
structure Tank where
 Kilos : Int
 X : Int
 Y : Int
 Z : Int
 Surface : Int
 Steps : List Int
 deriving DecidableEq, Inhabited
def Tank.cs (x : Tank) : List AV := [G0 x.Kilos, G0 x.X, G0 x.Y, G0 x.Z, G0 x.Surface, LS 1 G0 x.Steps]
def Tank.av (x : Tank) : AV := .agg x.cs
structure G4 where
 Tolerance : Int
 Trim : Int
 List_ : Int
 Stability : Int
 deriving DecidableEq, Inhabited
def G4.cs (x : G4) : List AV := [G0 x.Tolerance, G0 x.Trim, G0 x.List_, G0 x.Stability]
def G4.av (x : G4) : AV := .agg x.cs
structure Ship where
 Columns : List G5
 Covers : List Gc
 Light : Light
 Rows : List Row
 Frames : List Frame
 Tanks : List Tank
 G4 : G4
 deriving DecidableEq, Inhabited
def Ship.cs (x : Ship) : List AV := [LS 12 G5.av x.Columns, LS 2 Gc.av x.Covers, G0 x.Light.Kilos, G0 x.Light.X, G0 x.Light.Y, G0 x.Light.Z, LS 5 Row.av x.Rows, LS 5 Frame.av x.Frames, LS 6 Tank.av x.Tanks, G0 x.G4.Tolerance, G0 x.G4.Trim, G0 x.G4.List_, G0 x.G4.Stability]
def Ship.av (x : Ship) : AV := .agg x.cs
structure Arr3Int where
 e0 : Int
 e1 : Int
 e2 : Int
 deriving DecidableEq, Inhabited
def Arr3Int.cs (x : Arr3Int) : List AV := [G0 x.e0, G0 x.e1, G0 x.e2]
def Arr3Int.av (x : Arr3Int) : AV := .agg x.cs
def Arr3Int.ks (x : Arr3Int) : List Value := [.int .i64 x.e0, .int .i64 x.e1, .int .i64 x.e2]
def Arr3Int.kv (x : Arr3Int) : Value := .agg x.ks.toArray
structure Slot where
 G5 : Int
 Tier : Int
 Half : Int
 deriving DecidableEq, Inhabited
def Slot.cs (x : Slot) : List AV := [G0 x.G5, G0 x.Tier, U8 x.Half]
def Slot.av (x : Slot) : AV := .agg x.cs
namespace XAF
theorem tq_112 (a b : Arr3Int) : eqAt Tryz.prog 4 112 [.int .i64 a.e0, .int .i64 a.e1, .int .i64 a.e2] [.int .i64 b.e0, .int .i64 b.e1, .int .i64 b.e2] = some (decide (a = b)) := by
 refine (show _ = some ((a.e0 == b.e0) && ((a.e1 == b.e1) && ((a.e2 == b.e2) && true))) by kernel_rfl).trans (congrArg some ?_)
 rw [Bool.eq_iff_iff]
 simp only [Bool.and_eq_true, beq_iff_eq, decide_eq_true_eq, Bool.and_true]
 constructor
 ·intro h; obtain ⟨_, _, _⟩ := a; obtain ⟨_, _, _⟩ := b; simp_all
 ·intro h; subst h; simp
theorem tf_agg_134 : aggB Tryz.prog 134 3 = true := by kernel_rfl
theorem tf_agg_56 : aggB Tryz.prog 56 12 = true := by kernel_rfl
theorem tf_agg_58 : aggB Tryz.prog 58 2 = true := by kernel_rfl
theorem tf_arr_112 : arrB Tryz.prog 112 3 1 = true := by kernel_rfl
theorem tf_call_35 : callB Tryz.prog 35 = true := by kernel_rfl
theorem tf_call_52 : callB Tryz.prog 52 = true := by kernel_rfl
theorem tf_call_71 : callB Tryz.prog 71 = true := by kernel_rfl
theorem tf_field_134_0 : fieldB Tryz.prog 134 0 0 = true := by kernel_rfl
theorem tf_field_134_1 : fieldB Tryz.prog 134 1 1 = true := by kernel_rfl
theorem tf_field_134_2 : fieldB Tryz.prog 134 2 2 = true := by kernel_rfl
theorem Hc : fieldB Tryz.prog 35 0 0 = true := by kernel_rfl
theorem Ja : fieldB Tryz.prog 35 1 1 = true := by kernel_rfl
theorem Ji : fieldB Tryz.prog 56 0 0 = true := by kernel_rfl
theorem tf_field_56_1 : fieldB Tryz.prog 56 1 1 = true := by kernel_rfl
theorem tf_field_56_10 : fieldB Tryz.prog 56 10 10 = true := by kernel_rfl
theorem tf_field_56_11 : fieldB Tryz.prog 56 11 11 = true := by kernel_rfl
theorem Jw : fieldB Tryz.prog 56 2 2 = true := by kernel_rfl
theorem tf_field_56_3 : fieldB Tryz.prog 56 3 3 = true := by kernel_rfl
theorem tf_field_56_4 : fieldB Tryz.prog 56 4 4 = true := by kernel_rfl
theorem tf_field_56_5 : fieldB Tryz.prog 56 5 5 = true := by kernel_rfl
theorem tf_field_56_6 : fieldB Tryz.prog 56 6 6 = true := by kernel_rfl
theorem tf_field_56_7 : fieldB Tryz.prog 56 7 7 = true := by kernel_rfl
theorem tf_field_56_8 : fieldB Tryz.prog 56 8 8 = true := by kernel_rfl
theorem tf_field_56_9 : fieldB Tryz.prog 56 9 9 = true := by kernel_rfl
theorem tf_field_58_0 : fieldB Tryz.prog 58 0 0 = true := by kernel_rfl
theorem tf_field_58_1 : fieldB Tryz.prog 58 1 1 = true := by kernel_rfl
theorem tf_map_111 : mapB Tryz.prog 111 112 3 = true := by kernel_rfl
theorem J5 : Tryz.prog.follows .mixedOrders = true := by kernel_rfl
theorem Je : placesOf Tryz.prog 134 = some [(0, 1), (1, 1), (2, 1)] := by kernel_rfl
theorem tf_places_51 : placesOf Tryz.prog 51 = some [(0, 1), (1, 1), (2, 1)] := by kernel_rfl
theorem Hj : scalarB Tryz.prog 25 = true := by kernel_rfl
theorem Jn : scalarB Tryz.prog 26 = true := by kernel_rfl
theorem Ga : scalarB Tryz.prog 3 = true := by kernel_rfl
theorem J9 : scalarB Tryz.prog 4 = true := by kernel_rfl
theorem H7 : scalarB Tryz.prog 5 = true := by kernel_rfl
theorem Jt : scalarB Tryz.prog 54 = true := by kernel_rfl
theorem tf_size_134 : sizeB Tryz.prog 134 3 = true := by kernel_rfl
theorem tf_size_56 : sizeB Tryz.prog 56 12 = true := by kernel_rfl
theorem tf_size_58 : sizeB Tryz.prog 58 2 = true := by kernel_rfl
theorem tf_slice_132 : sliceB Tryz.prog 132 134 3 = true := by kernel_rfl
theorem tf_slice_154 : sliceB Tryz.prog 154 5 1 = true := by kernel_rfl
theorem Hf : sliceB Tryz.prog 25 56 12 = true := by kernel_rfl
theorem J8 : sliceB Tryz.prog 26 58 2 = true := by kernel_rfl
theorem H0 : sliceB Tryz.prog 54 3 1 = true := by kernel_rfl
theorem tf_zero_112 : (Tryz.prog.info? 112).bind (fun i => i.zero.map Value.cells) = some (List.toArray [.int .i64 0, .int .i64 0, .int .i64 0]) := by kernel_rfl
theorem Jp : (Tryz.prog.info? 134).bind (fun i => i.zero.map Value.cells) = some (List.toArray [.int .i64 0, .int .i64 0, .int .i64 0]) := by kernel_rfl
theorem tf_zero_51 : (Tryz.prog.info? 51).bind (fun i => i.zero.map Value.cells) = some (List.toArray [.int .i64 0, .int .i64 0, .int .u8 0]) := by kernel_rfl
theorem tf_zsize_134 : zsizeB Tryz.prog 134 3 = true := by kernel_rfl
theorem tf_zsize_5 : zsizeB Tryz.prog 5 1 = true := by kernel_rfl
theorem Q4 : zsizeB Tryz.prog 56 12 = true := by kernel_rfl
theorem tf_zsize_58 : zsizeB Tryz.prog 58 2 = true := by kernel_rfl
theorem tf_zv_3 : (Tryz.prog.info? 3).bind (·.zero) = some (.int .i64 0) := by kernel_rfl
theorem tk_112 : KeyL Tryz.prog 112 Arr3Int.kv := KeyL.of_eq Arr3Int.ks (by kernel_rfl) (fun a b h => by simp only [Arr3Int.ks, List.cons.injEq, Value.int.injEq, Value.bool.injEq, Value.string.injEq, true_and, and_true] at h; obtain ⟨_, _, _⟩ := a; obtain ⟨_, _, _⟩ := b; simp_all) 4 (by decide) (fun a b => tq_112 a b) (fun a => by kernel_rfl) (fun a => by simp [Instr.sameBits, Arr3Int.ks])
end XAF
open XAF

def M_ship_right_1 (l : List ship_span) : Option Bool :=
 each (fun y18 i18 (s18 : Unit) nx18 =>
  bif ((decide (y18.n < y18.low)) || (decide (y18.high < y18.n))) then
  (some false)
  else
  (nx18 ()))
 (fun (s18 : Unit) =>
  some true) l 0 ()
theorem M_ship_right_1_w (l : List ship_span) (r : Bool) (h : M_ship_right_1 l = some r) : Pure Tryz.prog 52 [LS 3 ship_span.av l] (· = BL r) := by
 unfold M_ship_right_1 at h
 refine Gx [.tmp 2] Tryz.func52 O O ?_
 refine G6 fun K1 hK1 => G2 ?_
 refine JLg (BL false) (G9 O O) ?_
 refine G8 (hK1 _ _ ?_)
 refine G6 (fun K2 hK2 => ?_)
 refine G6 fun K3 hK3 => G2 ?_
 refine JLg (LS 3 ship_span.av l) (G7 O O) ?_
 refine H9 (f := ship_span.av) (xs := l) tf_slice_132 O O (fun hm6 => ?_) O O O
 refine JLg (G0 0) (G7 O O) ?_
 refine G8 (hK3 _ _ ?_)
 refine Gi ?_
 obtain ⟨b18, kx18, hb18, hkx18, h⟩ := Hi h
 refine Gz (fun i18 (s18 : Unit) => each b18 kx18 (List.drop i18 l) i18 s18 = some r) (fun i18 s18 => [(5, LS 3 ship_span.av l), (6, G0 (l.length : Int)), (7, G0 (i18 : Int))]) (fun i18 s18 => []) (fun i18 => l.length - i18) 0 () h ⟨⟨.same O, .same O, .same O, trivial⟩, trivial, O⟩ ?_
 clear h
 intro i18 s18 hi18 K18 e18
 refine G6 fun K19 hK19 => G2 ?_
 refine JLg (BL (decide ((i18 : Int) < (l.length : Int)))) (He O O O) ?_
 refine G8 (hK19 _ _ ?_)
 refine G6 (fun K20 hK20 => ?_)
 refine Gh O (fun hb => ?_) (fun hb => ?_)
 ·
  have hk18 := lt_len hb
  obtain ⟨y18, nx18, hy18, hn18, h⟩ := Ha hi18 hk18
  replace h := app4 hb18 h
  refine Gj ?_
  refine hK20 _ _ ?_
  refine G6 (fun K21 hK21 => ?_)
  refine Gi ?_
  refine G6 fun K22 hK22 => G2 ?_
  refine JLg (.dptr [G0 y18.n, G0 y18.low, G0 y18.high]) (Gw (f := ship_span.av) (xs := l) (y := y18) O O O tf_slice_132 hy18 O) ?_
  refine JLg (.agg [G0 y18.n, G0 y18.low, G0 y18.high]) (Gg tf_agg_134 O O O) ?_
  refine JLg (.ptr 1126 0) (H2 1126 3 tf_zsize_134 O O) ?_
  refine H1 (u := .junk) (Gt (u := .agg [G0 y18.n, G0 y18.low, G0 y18.high]) (ds := [G0 y18.n, G0 y18.low, G0 y18.high]) tf_size_134 O O O O O O O O) ?_
  refine G8 (hK22 _ _ ?_)
  refine Gm [(4, .dptr [G0 y18.n, G0 y18.low, G0 y18.high]), (5, LS 3 ship_span.av l), (6, G0 (l.length : Int)), (7, G0 (i18 : Int))] [] 1126 rfl rfl rfl trivial rfl (by repeat' (first | exact .ptr | constructor)) ?_
  refine G6 fun K23 hK23 => G2 ?_
  refine JLg (.dptr [G0 y18.n, G0 y18.low, G0 y18.high]) (Gb tf_field_134_0 O O O) ?_
  refine JLg (G0 y18.n) (Gf Ga O O O) ?_
  refine JLg (.dptr [G0 y18.low, G0 y18.high]) (Gb tf_field_134_1 O O O) ?_
  refine JLg (G0 y18.low) (Gf Ga O O O) ?_
  refine JLg (BL (decide (y18.n < y18.low))) (He O O O) ?_
  refine JLg (BL (decide (y18.n < y18.low))) (G7 O O) ?_
  refine Gd (u := .dptr [G0 y18.n, G0 y18.low, G0 y18.high]) [] O O O .scf trivial (fun hc => Gb tf_field_134_0 O O O) ?_
  refine Gd (u := G0 y18.n) [(17, .dptr [G0 y18.n, G0 y18.low, G0 y18.high])] O O O .scf ⟨.all id, trivial⟩ (fun hc => Gf Ga O O O) ?_
  refine Gd (u := .dptr [G0 y18.high]) [] O O O .scf trivial (fun hc => Gb tf_field_134_2 O O O) ?_
  refine Gd (u := G0 y18.high) [(19, .dptr [G0 y18.high])] O O O .scf ⟨.all id, trivial⟩ (fun hc => Gf Ga O O O) ?_
  refine Gd (u := BL (decide (y18.high < y18.n))) [(18, G0 y18.n), (20, G0 y18.high)] O O O .scf ⟨.all id, .all id, trivial⟩ (fun hc => A_gtr O O O) ?_
  refine JLg (BL ((decide (y18.n < y18.low)) || (decide (y18.high < y18.n)))) (Q0 O O O O) ?_
  refine G8 (hK23 _ _ ?_)
  refine Gh O (fun hb => ?_) (fun hb => ?_)
  ·
   replace h := bif_t hb h
   refine G6 fun K24 hK24 => G2 ?_
   refine JLg (BL false) (G9 O O) ?_
   refine G8 (hK24 _ _ ?_)
   refine Gq ?_
   exact ⟨[BL false], [], trivial, O, ⟨⟨_, O, .conv (.same O)⟩, trivial⟩, O, congrArg (fun r : Bool => (BL r : AV)) (Option.some.inj h)⟩
  ·
   replace h := bif_f hb h
   refine Gj ?_
   refine hK21 _ _ ?_
   refine G2 ?_
   refine JLg (G0 ((i18 + 1 : Nat) : Int)) (Hd (idx_succ hk18 hm6) O O O) ?_
   refine JLg (G0 ((i18 + 1 : Nat) : Int)) (G7 O O) ?_
   refine G8 ?_
   exact e18 _ _ (i18 + 1) () (app1 hn18 h) (by omega) ⟨⟨.same rfl, .same rfl, .same rfl, trivial⟩, trivial, rfl⟩
 ·
  have h := app1 hkx18 (Hb hi18 (Gy hb))
  refine H4 ?_
  refine hK2 _ _ ?_
  refine G6 fun K25 hK25 => G2 ?_
  refine JLg (BL true) (G9 O O) ?_
  refine G8 (hK25 _ _ ?_)
  refine Gq ?_
  exact ⟨[BL true], [], trivial, O, ⟨⟨_, O, .conv (.same O)⟩, trivial⟩, O, congrArg (fun r : Bool => (BL r : AV)) (Option.some.inj h)⟩

def M_ship_right (c : G5) : Option Bool :=
 each (fun y27 i27 (s27 : Unit) nx27 =>
  chk (c.Tiers - 1) fun v33 =>
  bnd (M_ship_right_1 [(ship_span.mk y27 0 v33)]) fun r34 =>
  bnd (bif ((!(!r34)) && (decide (0 < (i27 : Int)))) then chk ((i27 : Int) - 1) some else some 0) fun v35 =>
  bnd (bif ((!(!r34)) && (decide (0 < (i27 : Int)))) then gidx c.Plugs v35 some else some default) fun y36 =>
  bif ((!r34) || ((decide (0 < (i27 : Int))) && (decide (y27 ≤ y36)))) then
  (some false)
  else
  (nx27 ()))
 (fun (s27 : Unit) =>
  bnd (M_ship_right_1 [(ship_span.mk c.Bay 0 39), (ship_span.mk c.Row 0 30), (ship_span.mk c.Tiers 1 10), (ship_span.mk c.Height 0 40000), (ship_span.mk c.Kilos20 0 500000000), (ship_span.mk c.Kilos40 0 500000000), (ship_span.mk c.Lash 0 1000000000000), (ship_span.mk c.X (-500000) 500000), (ship_span.mk c.Y (-500000) 500000), (ship_span.mk c.Z (-500000) 500000)]) fun r39 =>
  some r39) c.Plugs 0 ()
theorem M_ship_right_w (c : G5) (r : Bool) (h : M_ship_right c = some r) : Pure Tryz.prog 35 [.agg (G5.cs c)] (· = BL r) := by
 unfold M_ship_right at h
 refine Gx [.tmp 2] Tryz.func35 O O ?_
 refine G6 fun K1 hK1 => G2 ?_
 refine JLg (.ptr 1092 0) (J1 (u := .agg (G5.cs c)) (cs := (G5.cs c)) 1092 O O O O O) ?_
 refine JLg (BL false) (G9 O O) ?_
 refine G8 (hK1 _ _ ?_)
 refine Gm [(1, .dptr (G5.cs c))] [] 1092 rfl rfl rfl trivial rfl (by exact ⟨.ptr, trivial⟩) ?_
 refine G6 fun K2 hK2 => G2 ?_
 refine JLg (.fn 52 []) (G9 O O) ?_
 refine G8 (hK2 _ _ ?_)
 refine G6 (fun K3 hK3 => ?_)
 refine G6 fun K4 hK4 => G2 ?_
 refine JLg (.dptr [LS 1 G0 c.Plugs, G0 c.X, G0 c.Y, G0 c.Z]) (Gb tf_field_56_8 O O O) ?_
 refine JLg (LS 1 G0 c.Plugs) (Gf Jt O O O) ?_
 refine H9 (f := G0) (xs := c.Plugs) H0 O O (fun hm8 => ?_) O O O
 refine JLg (G0 0) (G7 O O) ?_
 refine G8 (hK4 _ _ ?_)
 refine Gi ?_
 obtain ⟨b27, kx27, hb27, hkx27, h⟩ := Hi h
 refine Gz (fun i27 (s27 : Unit) => each b27 kx27 (List.drop i27 c.Plugs) i27 s27 = some r) (fun i27 s27 => [(1, .dptr (G5.cs c)), (3, .fn 52 []), (7, LS 1 G0 c.Plugs), (8, G0 (c.Plugs.length : Int)), (9, G0 (i27 : Int))]) (fun i27 s27 => []) (fun i27 => c.Plugs.length - i27) 0 () h ⟨(by repeat' constructor), trivial, rfl⟩ ?_
 clear h
 intro i27 s27 hi27 K27 e27
 refine G6 fun K28 hK28 => G2 ?_
 refine JLg (BL (decide ((i27 : Int) < (c.Plugs.length : Int)))) (He O O O) ?_
 refine G8 (hK28 _ _ ?_)
 refine G6 (fun K29 hK29 => ?_)
 refine Gh O (fun hb => ?_) (fun hb => ?_)
 ·
  have hk27 := lt_len hb
  obtain ⟨y27, nx27, hy27, hn27, h⟩ := Ha hi27 hk27
  replace h := app4 hb27 h
  refine Gj ?_
  refine hK29 _ _ ?_
  refine G6 (fun K30 hK30 => ?_)
  refine Gi ?_
  refine G6 fun K31 hK31 => G2 ?_
  refine JLg (G0 (i27 : Int)) (G7 O O) ?_
  refine JLg (.dptr [G0 y27]) (Gw (f := G0) (xs := c.Plugs) (y := y27) O O O H0 hy27 O) ?_
  refine JLg (G0 y27) (Gf Ga O O O) ?_
  refine JLg (G0 (i27 : Int)) (G9 O O) ?_
  refine JLg (G0 y27) (G9 O O) ?_
  refine G8 (hK31 _ _ ?_)
  refine G6 fun K32 hK32 => G2 ?_
  refine JLg (.fn 52 []) (G7 O O) ?_
  refine JLg (G0 y27) (G7 O O) ?_
  refine JLg (.dptr [G0 c.Tiers, G0 c.Height, G0 c.Kilos20, G0 c.Kilos40, G0 c.Lash, LS 1 G0 c.Plugs, G0 c.X, G0 c.Y, G0 c.Z]) (Gb tf_field_56_3 O O O) ?_
  refine JLg (G0 c.Tiers) (Gf Ga O O O) ?_
  obtain ⟨v33, hv33, h⟩ := H6 h
  refine JLg (G0 v33) (Jx hv33 O O O) ?_
  refine JLg (.agg [G0 y27, G0 0, G0 v33]) (H8 (cs := [G0 y27, G0 0, G0 v33]) [(0, 1), (1, 1), (2, 1)] [G0 0, G0 0, G0 0] [.int .i64 0, .int .i64 0, .int .i64 0] Je Jp ⟨.inl O, .inl O, .inl O, trivial⟩ O O) ?_
  refine JLg (LS 3 ship_span.av [(ship_span.mk y27 0 v33)]) (Gu (xs := [.agg [G0 y27, G0 0, G0 v33]]) O ⟨O, O, trivial⟩ tf_slice_132 tf_zsize_134 O O O O) ?_
  obtain ⟨r34, hr34, h⟩ := Ge h
  refine JLg (BL r34) (Q8 (args := [LS 3 ship_span.av [(ship_span.mk y27 0 v33)]]) (caps := []) O O (M_ship_right_1_w [(ship_span.mk y27 0 v33)] r34 hr34) tf_call_52 ⟨O, O, trivial⟩ O) ?_
  refine JLg (BL (!r34)) (A_not (b := r34) O O) ?_
  refine JLg (BL (!r34)) (G7 O O) ?_
  refine Gd (u := G0 (i27 : Int)) [] O O O .scf trivial (fun hc => G7 O O) ?_
  refine Gd (u := BL (decide (0 < (i27 : Int)))) [(24, G0 (i27 : Int))] O O O .scf ⟨.all id, trivial⟩ (fun hc => A_gtr O O O) ?_
  refine Gd (u := BL (decide (0 < (i27 : Int)))) [(25, BL (decide (0 < (i27 : Int))))] O O O .scf ⟨.all id, trivial⟩ (fun hc => G7 O O) ?_
  refine Gd (u := G0 y27) [] O O O .optt trivial (fun hc => G7 O O) ?_
  refine Gd (u := .dptr [LS 1 G0 c.Plugs, G0 c.X, G0 c.Y, G0 c.Z]) [] O O O .optt trivial (fun hc => Gb tf_field_56_8 O O O) ?_
  refine Gd (u := LS 1 G0 c.Plugs) [(28, .dptr [LS 1 G0 c.Plugs, G0 c.X, G0 c.Y, G0 c.Z])] O O O .optt ⟨.all id, trivial⟩ (fun hc => Gf Jt O O O) ?_
  refine Gd (u := G0 (i27 : Int)) [] O O O .optt trivial (fun hc => G7 O O) ?_
  obtain ⟨v35, hv35, h⟩ := Ge h
  refine Gd (u := G0 v35) [(30, G0 (i27 : Int))] O O O .optt ⟨.all id, trivial⟩ (fun hc => Jx (chk_some (bif_t hc hv35)) O O O) ?_
  obtain ⟨y36, hy36, h⟩ := Ge h
  refine Gd (u := .dptr [G0 y36]) [(29, LS 1 G0 c.Plugs), (31, G0 v35)] O O O .optt ⟨.all id, .all id, trivial⟩ (fun hc => (match Q2 (bif_t hc hy36) with | ⟨_, hm_, hy_⟩ => Gw (f := G0) (xs := c.Plugs) (y := y36) O O O H0 hy_ hm_)) ?_
  refine Gd (u := G0 y36) [(32, .dptr [G0 y36])] O O O .optt ⟨.all id, trivial⟩ (fun hc => Gf Ga O O O) ?_
  refine Gd (u := BL (decide (y27 ≤ y36))) [(27, G0 y27), (33, G0 y36)] O O O .optt ⟨.all id, .all id, trivial⟩ (fun hc => A_leq O O O) ?_
  refine Gd (u := BL ((decide (0 < (i27 : Int))) && (decide (y27 ≤ y36)))) [(26, BL (decide (0 < (i27 : Int)))), (34, _)] O O O .scf ⟨.all id, .part, trivial⟩ (fun hc => J2 O O O O) ?_
  refine JLg (BL ((!r34) || ((decide (0 < (i27 : Int))) && (decide (y27 ≤ y36))))) (Q0 O O O O) ?_
  refine G8 (hK32 _ _ ?_)
  refine Gh O (fun hb => ?_) (fun hb => ?_)
  ·
   replace h := bif_t hb h
   refine G6 fun K37 hK37 => G2 ?_
   refine JLg (BL false) (G9 O O) ?_
   refine G8 (hK37 _ _ ?_)
   refine Gq ?_
   exact ⟨[BL false], [], trivial, O, ⟨⟨_, O, .conv (.same O)⟩, trivial⟩, O, congrArg (fun r : Bool => (BL r : AV)) (Option.some.inj h)⟩
  ·
   replace h := bif_f hb h
   refine Gj ?_
   refine hK30 _ _ ?_
   refine G2 ?_
   refine JLg (G0 ((i27 + 1 : Nat) : Int)) (Hd (idx_succ hk27 hm8) O O O) ?_
   refine JLg (G0 ((i27 + 1 : Nat) : Int)) (G7 O O) ?_
   refine G8 ?_
   exact e27 _ _ (i27 + 1) () (app1 hn27 h) (by omega) ⟨(by repeat' constructor), trivial, rfl⟩
 ·
  have h := app1 hkx27 (Hb hi27 (Gy hb))
  refine H4 ?_
  refine hK3 _ _ ?_
  refine G6 fun K38 hK38 => G2 ?_
  refine JLg (.fn 52 []) (G7 O O) ?_
  refine JLg (.dptr (G5.cs c)) (Gb Ji O O O) ?_
  refine JLg (G0 c.Bay) (Gf Ga O O O) ?_
  refine JLg (.agg [G0 c.Bay, G0 0, G0 39]) (H8 (cs := [G0 c.Bay, G0 0, G0 39]) [(0, 1), (1, 1), (2, 1)] [G0 0, G0 0, G0 0] [.int .i64 0, .int .i64 0, .int .i64 0] Je Jp ⟨.inl O, .inl O, .inl O, trivial⟩ O O) ?_
  refine JLg (.dptr [G0 c.Row, BL c.Deck, G0 c.Tiers, G0 c.Height, G0 c.Kilos20, G0 c.Kilos40, G0 c.Lash, LS 1 G0 c.Plugs, G0 c.X, G0 c.Y, G0 c.Z]) (Gb tf_field_56_1 O O O) ?_
  refine JLg (G0 c.Row) (Gf Ga O O O) ?_
  refine JLg (.agg [G0 c.Row, G0 0, G0 30]) (H8 (cs := [G0 c.Row, G0 0, G0 30]) [(0, 1), (1, 1), (2, 1)] [G0 0, G0 0, G0 0] [.int .i64 0, .int .i64 0, .int .i64 0] Je Jp ⟨.inl O, .inl O, .inl O, trivial⟩ O O) ?_
  refine JLg (.dptr [G0 c.Tiers, G0 c.Height, G0 c.Kilos20, G0 c.Kilos40, G0 c.Lash, LS 1 G0 c.Plugs, G0 c.X, G0 c.Y, G0 c.Z]) (Gb tf_field_56_3 O O O) ?_
  refine JLg (G0 c.Tiers) (Gf Ga O O O) ?_
  refine JLg (.agg [G0 c.Tiers, G0 1, G0 10]) (H8 (cs := [G0 c.Tiers, G0 1, G0 10]) [(0, 1), (1, 1), (2, 1)] [G0 0, G0 0, G0 0] [.int .i64 0, .int .i64 0, .int .i64 0] Je Jp ⟨.inl O, .inl O, .inl O, trivial⟩ O O) ?_
  refine JLg (.dptr [G0 c.Height, G0 c.Kilos20, G0 c.Kilos40, G0 c.Lash, LS 1 G0 c.Plugs, G0 c.X, G0 c.Y, G0 c.Z]) (Gb tf_field_56_4 O O O) ?_
  refine JLg (G0 c.Height) (Gf Ga O O O) ?_
  refine JLg (.agg [G0 c.Height, G0 0, G0 40000]) (H8 (cs := [G0 c.Height, G0 0, G0 40000]) [(0, 1), (1, 1), (2, 1)] [G0 0, G0 0, G0 0] [.int .i64 0, .int .i64 0, .int .i64 0] Je Jp ⟨.inl O, .inl O, .inl O, trivial⟩ O O) ?_
  refine JLg (.dptr [G0 c.Kilos20, G0 c.Kilos40, G0 c.Lash, LS 1 G0 c.Plugs, G0 c.X, G0 c.Y, G0 c.Z]) (Gb tf_field_56_5 O O O) ?_
  refine JLg (G0 c.Kilos20) (Gf Ga O O O) ?_
  refine JLg (.agg [G0 c.Kilos20, G0 0, G0 500000000]) (H8 (cs := [G0 c.Kilos20, G0 0, G0 500000000]) [(0, 1), (1, 1), (2, 1)] [G0 0, G0 0, G0 0] [.int .i64 0, .int .i64 0, .int .i64 0] Je Jp ⟨.inl O, .inl O, .inl O, trivial⟩ O O) ?_
  refine JLg (.dptr [G0 c.Kilos40, G0 c.Lash, LS 1 G0 c.Plugs, G0 c.X, G0 c.Y, G0 c.Z]) (Gb tf_field_56_6 O O O) ?_
  refine JLg (G0 c.Kilos40) (Gf Ga O O O) ?_
  refine JLg (.agg [G0 c.Kilos40, G0 0, G0 500000000]) (H8 (cs := [G0 c.Kilos40, G0 0, G0 500000000]) [(0, 1), (1, 1), (2, 1)] [G0 0, G0 0, G0 0] [.int .i64 0, .int .i64 0, .int .i64 0] Je Jp ⟨.inl O, .inl O, .inl O, trivial⟩ O O) ?_
  refine JLg (.dptr [G0 c.Lash, LS 1 G0 c.Plugs, G0 c.X, G0 c.Y, G0 c.Z]) (Gb tf_field_56_7 O O O) ?_
  refine JLg (G0 c.Lash) (Gf Ga O O O) ?_
  refine JLg (.agg [G0 c.Lash, G0 0, G0 1000000000000]) (H8 (cs := [G0 c.Lash, G0 0, G0 1000000000000]) [(0, 1), (1, 1), (2, 1)] [G0 0, G0 0, G0 0] [.int .i64 0, .int .i64 0, .int .i64 0] Je Jp ⟨.inl O, .inl O, .inl O, trivial⟩ O O) ?_
  refine JLg (.dptr [G0 c.X, G0 c.Y, G0 c.Z]) (Gb tf_field_56_9 O O O) ?_
  refine JLg (G0 c.X) (Gf Ga O O O) ?_
  refine JLg (.agg [G0 c.X, G0 (-500000), G0 500000]) (H8 (cs := [G0 c.X, G0 (-500000), G0 500000]) [(0, 1), (1, 1), (2, 1)] [G0 0, G0 0, G0 0] [.int .i64 0, .int .i64 0, .int .i64 0] Je Jp ⟨.inl O, .inl O, .inl O, trivial⟩ O O) ?_
  refine JLg (.dptr [G0 c.Y, G0 c.Z]) (Gb tf_field_56_10 O O O) ?_
  refine JLg (G0 c.Y) (Gf Ga O O O) ?_
  refine JLg (.agg [G0 c.Y, G0 (-500000), G0 500000]) (H8 (cs := [G0 c.Y, G0 (-500000), G0 500000]) [(0, 1), (1, 1), (2, 1)] [G0 0, G0 0, G0 0] [.int .i64 0, .int .i64 0, .int .i64 0] Je Jp ⟨.inl O, .inl O, .inl O, trivial⟩ O O) ?_
  refine JLg (.dptr [G0 c.Z]) (Gb tf_field_56_11 O O O) ?_
  refine JLg (G0 c.Z) (Gf Ga O O O) ?_
  refine JLg (.agg [G0 c.Z, G0 (-500000), G0 500000]) (H8 (cs := [G0 c.Z, G0 (-500000), G0 500000]) [(0, 1), (1, 1), (2, 1)] [G0 0, G0 0, G0 0] [.int .i64 0, .int .i64 0, .int .i64 0] Je Jp ⟨.inl O, .inl O, .inl O, trivial⟩ O O) ?_
  refine JLg (LS 3 ship_span.av [(ship_span.mk c.Bay 0 39), (ship_span.mk c.Row 0 30), (ship_span.mk c.Tiers 1 10), (ship_span.mk c.Height 0 40000), (ship_span.mk c.Kilos20 0 500000000), (ship_span.mk c.Kilos40 0 500000000), (ship_span.mk c.Lash 0 1000000000000), (ship_span.mk c.X (-500000) 500000), (ship_span.mk c.Y (-500000) 500000), (ship_span.mk c.Z (-500000) 500000)]) (Gu (xs := [.agg [G0 c.Bay, G0 0, G0 39], .agg [G0 c.Row, G0 0, G0 30], .agg [G0 c.Tiers, G0 1, G0 10], .agg [G0 c.Height, G0 0, G0 40000], .agg [G0 c.Kilos20, G0 0, G0 500000000], .agg [G0 c.Kilos40, G0 0, G0 500000000], .agg [G0 c.Lash, G0 0, G0 1000000000000], .agg [G0 c.X, G0 (-500000), G0 500000], .agg [G0 c.Y, G0 (-500000), G0 500000], .agg [G0 c.Z, G0 (-500000), G0 500000]]) O ⟨O, O, O, O, O, O, O, O, O, O, O, O, O, O, O, O, O, O, O, O, trivial⟩ tf_slice_132 tf_zsize_134 O O O O) ?_
  obtain ⟨r39, hr39, h⟩ := Ge h
  refine JLg (BL r39) (Q8 (args := [LS 3 ship_span.av [(ship_span.mk c.Bay 0 39), (ship_span.mk c.Row 0 30), (ship_span.mk c.Tiers 1 10), (ship_span.mk c.Height 0 40000), (ship_span.mk c.Kilos20 0 500000000), (ship_span.mk c.Kilos40 0 500000000), (ship_span.mk c.Lash 0 1000000000000), (ship_span.mk c.X (-500000) 500000), (ship_span.mk c.Y (-500000) 500000), (ship_span.mk c.Z (-500000) 500000)]]) (caps := []) O O (M_ship_right_1_w [(ship_span.mk c.Bay 0 39), (ship_span.mk c.Row 0 30), (ship_span.mk c.Tiers 1 10), (ship_span.mk c.Height 0 40000), (ship_span.mk c.Kilos20 0 500000000), (ship_span.mk c.Kilos40 0 500000000), (ship_span.mk c.Lash 0 1000000000000), (ship_span.mk c.X (-500000) 500000), (ship_span.mk c.Y (-500000) 500000), (ship_span.mk c.Z (-500000) 500000)] r39 hr39) tf_call_52 ⟨O, O, trivial⟩ O) ?_
  refine JLg (BL r39) (G9 O O) ?_
  refine G8 (hK38 _ _ ?_)
  refine Gq ?_
  exact ⟨[BL r39], [], trivial, O, ⟨⟨_, O, .conv (.same O)⟩, trivial⟩, O, congrArg (fun r : Bool => (BL r : AV)) (Option.some.inj h)⟩

def M_ship_Right (s : Ship) (Rp : Bool → Prop) : Option Prop :=
 bif (((decide ((s.Columns.length : Int) < 1)) || (decide (200 < (s.Columns.length : Int)))) || (decide (40 < (s.Covers.length : Int)))) then
 (some (Rp false))
 else
 (each (fun y68 i68 (s68 : (AMap Arr3Int Int)) nx68 =>
   jp (fun kj74 =>
    bif y68.Deck then
    (kj74 1)
    else
    (kj74 0)) fun (j74 : Int) =>
   bnd (some (AMap.get s68 (Arr3Int.mk y68.Bay y68.Row j74) 0)) fun v77 =>
   chk (v77 + 1) fun v78 =>
   bnd (M_ship_right y68) fun r80 =>
   bif (!r80) then
   (some (Rp false))
   else
   (nx68 (AMap.put s68 (Arr3Int.mk y68.Bay y68.Row j74) v78)))
  (fun (s68 : (AMap Arr3Int Int)) =>
   each (fun y84 i84 (s84 : (AMap Arr3Int Int)) nx84 =>
    bif (((decide (y84.Bay < 0)) || (decide (40 ≤ y84.Bay))) || (decide ((y84.Rows.length : Int) = 0))) then
    (some (Rp false))
    else
    (each (fun y157 i157 (s157 : (AMap Arr3Int Int)) nx157 =>
      bnd (bif ((!((decide (y157 < 0)) || (decide (30 < y157)))) && (decide (0 < (i157 : Int)))) then chk ((i157 : Int) - 1) some else some 0) fun v164 =>
      bnd (bif ((!((decide (y157 < 0)) || (decide (30 < y157)))) && (decide (0 < (i157 : Int)))) then gidx y84.Rows v164 some else some default) fun y165 =>
      bif (((decide (y157 < 0)) || (decide (30 < y157))) || ((decide (0 < (i157 : Int))) && (decide (y157 ≤ y165)))) then
      (some (Rp false))
      else
      (bnd (some (AMap.get s157 (Arr3Int.mk y84.Bay y157 2) 0)) fun v167 =>
       chk (v167 + 1) fun v168 =>
       nx157 (AMap.put s157 (Arr3Int.mk y84.Bay y157 2) v168)))
     (fun (s157 : (AMap Arr3Int Int)) =>
      nx84 s157) y84.Rows 0 s84))
   (fun (s84 : (AMap Arr3Int Int)) =>
    eachM (fun (x176 : Arr3Int × Int) (s176 : Unit) nx176 =>
     bif decide (1 < x176.2) then
     (lft (some (Rp false)))
     else
     (nx176 ()))
    (fun (s176 : Unit) =>
     some (Rp true)) (AMap.l s84) ()) s.Covers 0 s68) s.Columns 0 (AMap.empty : AMap Arr3Int Int))
def D_ship_Right (s : Ship) : Option Bool :=
 bif (((decide ((s.Columns.length : Int) < 1)) || (decide (200 < (s.Columns.length : Int)))) || (decide (40 < (s.Covers.length : Int)))) then
 (some (id false))
 else
 (each (fun y68 i68 (s68 : (AMap Arr3Int Int)) nx68 =>
   jp (fun kj74 =>
    bif y68.Deck then
    (kj74 1)
    else
    (kj74 0)) fun (j74 : Int) =>
   bnd (some (AMap.get s68 (Arr3Int.mk y68.Bay y68.Row j74) 0)) fun v77 =>
   chk (v77 + 1) fun v78 =>
   bnd (M_ship_right y68) fun r80 =>
   bif (!r80) then
   (some (id false))
   else
   (nx68 (AMap.put s68 (Arr3Int.mk y68.Bay y68.Row j74) v78)))
  (fun (s68 : (AMap Arr3Int Int)) =>
   each (fun y84 i84 (s84 : (AMap Arr3Int Int)) nx84 =>
    bif (((decide (y84.Bay < 0)) || (decide (40 ≤ y84.Bay))) || (decide ((y84.Rows.length : Int) = 0))) then
    (some (id false))
    else
    (each (fun y157 i157 (s157 : (AMap Arr3Int Int)) nx157 =>
      bnd (bif ((!((decide (y157 < 0)) || (decide (30 < y157)))) && (decide (0 < (i157 : Int)))) then chk ((i157 : Int) - 1) some else some 0) fun v164 =>
      bnd (bif ((!((decide (y157 < 0)) || (decide (30 < y157)))) && (decide (0 < (i157 : Int)))) then gidx y84.Rows v164 some else some default) fun y165 =>
      bif (((decide (y157 < 0)) || (decide (30 < y157))) || ((decide (0 < (i157 : Int))) && (decide (y157 ≤ y165)))) then
      (some (id false))
      else
      (bnd (some (AMap.get s157 (Arr3Int.mk y84.Bay y157 2) 0)) fun v167 =>
       chk (v167 + 1) fun v168 =>
       nx157 (AMap.put s157 (Arr3Int.mk y84.Bay y157 2) v168)))
     (fun (s157 : (AMap Arr3Int Int)) =>
      nx84 s157) y84.Rows 0 s84))
   (fun (s84 : (AMap Arr3Int Int)) =>
    runM (fun (x176 : Arr3Int × Int) (s176 : Unit) nx176 =>
     bif decide (1 < x176.2) then
     (lft (some (id false)))
     else
     (nx176 ()))
    (fun (s176 : Unit) =>
     some (id true)) (AMap.l s84) ()) s.Covers 0 s68) s.Columns 0 (AMap.empty : AMap Arr3Int Int))
theorem M_ship_Right_w (s : Ship) (Rp : Bool → Prop) (p : Prop) (h : M_ship_Right s Rp = some p) (hp : p) : Pure Tryz.prog 15 [.agg (Ship.cs s)] (fun av => ∃ r, Rp r ∧ av = BL r) := by
 unfold M_ship_Right at h
 refine Gx [.tmp 2] Tryz.func15 O O ?_
 refine G6 fun K1 hK1 => G2 ?_
 refine JLg (.ptr 1057 0) (J1 (u := .agg (Ship.cs s)) (cs := (Ship.cs s)) 1057 O O O O O) ?_
 refine JLg (BL false) (G9 O O) ?_
 refine G8 (hK1 _ _ ?_)
 refine Gm [(1, .dptr (Ship.cs s))] [] 1057 rfl rfl rfl trivial rfl (by exact ⟨.ptr, trivial⟩) ?_
 refine G6 (fun K2 hK2 => ?_)
 refine G6 fun K3 hK3 => G2 ?_
 refine JLg (.dptr (Ship.cs s)) (Gb Hc O O O) ?_
 refine JLg (LS 12 G5.av s.Columns) (Gf Hj O O O) ?_
 refine H9 (f := G5.av) (xs := s.Columns) Hf O O (fun hm15 => ?_) O O O
 refine JLg (BL (decide ((s.Columns.length : Int) < 1))) (He O O O) ?_
 refine JLg (BL (decide ((s.Columns.length : Int) < 1))) (G7 O O) ?_
 refine Gd (u := .dptr (Ship.cs s)) [] O O O .scf trivial (fun hc => Gb Hc O O O) ?_
 refine Gd (u := LS 12 G5.av s.Columns) [(18, .dptr (Ship.cs s))] O O O .scf ⟨.all id, trivial⟩ (fun hc => Gf Hj O O O) ?_
 refine Gd (u := G0 (s.Columns.length : Int)) [(19, LS 12 G5.av s.Columns)] O O O .scf ⟨.all id, trivial⟩ (fun hc => A_lenM (f := G5.av) (xs := s.Columns) Hf O O) ?_
 refine Gd (u := BL (decide (200 < (s.Columns.length : Int)))) [(20, G0 (s.Columns.length : Int))] O O O .scf ⟨.all id, trivial⟩ (fun hc => A_gtr O O O) ?_
 refine JLg (BL ((decide ((s.Columns.length : Int) < 1)) || (decide (200 < (s.Columns.length : Int))))) (Q0 O O O O) ?_
 refine JLg (BL ((decide ((s.Columns.length : Int) < 1)) || (decide (200 < (s.Columns.length : Int))))) (G7 O O) ?_
 refine Gd (u := .dptr [LS 2 Gc.av s.Covers, G0 s.Light.Kilos, G0 s.Light.X, G0 s.Light.Y, G0 s.Light.Z, LS 5 Row.av s.Rows, LS 5 Frame.av s.Frames, LS 6 Tank.av s.Tanks, G0 s.G4.Tolerance, G0 s.G4.Trim, G0 s.G4.List_, G0 s.G4.Stability]) [] O O O .scf trivial (fun hc => Gb Ja O O O) ?_
 refine Gd (u := LS 2 Gc.av s.Covers) [(24, .dptr [LS 2 Gc.av s.Covers, G0 s.Light.Kilos, G0 s.Light.X, G0 s.Light.Y, G0 s.Light.Z, LS 5 Row.av s.Rows, LS 5 Frame.av s.Frames, LS 6 Tank.av s.Tanks, G0 s.G4.Tolerance, G0 s.G4.Trim, G0 s.G4.List_, G0 s.G4.Stability])] O O O .scf ⟨.all id, trivial⟩ (fun hc => Gf Jn O O O) ?_
 refine Gd (u := G0 (s.Covers.length : Int)) [(25, LS 2 Gc.av s.Covers)] O O O .scf ⟨.all id, trivial⟩ (fun hc => A_lenM (f := Gc.av) (xs := s.Covers) J8 O O) ?_
 refine Gd (u := BL (decide (40 < (s.Covers.length : Int)))) [(26, G0 (s.Covers.length : Int))] O O O .scf ⟨.all id, trivial⟩ (fun hc => A_gtr O O O) ?_
 refine JLg (BL (((decide ((s.Columns.length : Int) < 1)) || (decide (200 < (s.Columns.length : Int)))) || (decide (40 < (s.Covers.length : Int))))) (Q0 O O O O) ?_
 refine G8 (hK3 _ _ ?_)
 refine Gh O (fun hb => ?_) (fun hb => ?_)
 ·
  replace h := bif_t hb h
  refine G6 fun K4 hK4 => G2 ?_
  refine JLg (BL false) (G9 O O) ?_
  refine G8 (hK4 _ _ ?_)
  refine Gq ?_
  exact ⟨[BL false], [], trivial, O, ⟨⟨_, O, .conv (.same O)⟩, trivial⟩, O, false, Eq.mpr (Option.some.inj h) hp, O⟩
 ·
  replace h := bif_f hb h
  refine Gj ?_
  refine hK2 _ _ ?_
  refine G6 fun K5 hK5 => G2 ?_
  refine JLg (.mp 1060) (A_makeMapM 1060 Arr3Int.kv G0 O O) ?_
  refine JLg (.mp 1060) (G9 O O) ?_
  refine G8 (hK5 _ _ ?_)
  refine G6 (fun K6 hK6 => ?_)
  refine G6 fun K7 hK7 => G2 ?_
  refine JLg (.dptr (Ship.cs s)) (Gb Hc O O O) ?_
  refine JLg (LS 12 G5.av s.Columns) (Gf Hj O O O) ?_
  refine H9 (f := G5.av) (xs := s.Columns) Hf O O (fun hm32 => ?_) O O O
  refine JLg (G0 0) (G7 O O) ?_
  refine G8 (hK7 _ _ ?_)
  refine Gi ?_
  obtain ⟨b68, kx68, hb68, hkx68, h⟩ := Hi h
  refine Gz (fun i68 (s68 : (AMap Arr3Int Int)) => each b68 kx68 (List.drop i68 s.Columns) i68 s68 = some p) (fun i68 s68 => [(1, .dptr (Ship.cs s)), (3, .mp 1060), (31, LS 12 G5.av s.Columns), (32, G0 (s.Columns.length : Int)), (33, G0 (i68 : Int))]) (fun i68 s68 => [(1060, MP 111 Arr3Int.kv G0 s68)]) (fun i68 => s.Columns.length - i68) 0 (AMap.empty : AMap Arr3Int Int) h ⟨(by repeat' constructor), ⟨⟨_, rfl, .map⟩, trivial⟩, rfl⟩ ?_
  clear h
  intro i68 s68 hi68 K68 e68
  refine G6 fun K69 hK69 => G2 ?_
  refine JLg (BL (decide ((i68 : Int) < (s.Columns.length : Int)))) (He O O O) ?_
  refine G8 (hK69 _ _ ?_)
  refine G6 (fun K70 hK70 => ?_)
  refine Gh O (fun hb => ?_) (fun hb => ?_)
  ·
   have hk68 := lt_len hb
   obtain ⟨y68, nx68, hy68, hn68, h⟩ := Ha hi68 hk68
   replace h := app4 hb68 h
   refine Gj ?_
   refine hK70 _ _ ?_
   refine G6 (fun K71 hK71 => ?_)
   refine Gi ?_
   refine G6 fun K72 hK72 => G2 ?_
   refine JLg (.dptr (G5.cs y68)) (Gw (f := G5.av) (xs := s.Columns) (y := y68) O O O Hf hy68 O) ?_
   refine JLg (.agg (G5.cs y68)) (Gg tf_agg_56 O O O) ?_
   refine JLg (.ptr 1058 0) (H2 1058 12 Q4 O O) ?_
   refine H1 (u := .junk) (Gt (u := .agg (G5.cs y68)) (ds := (G5.cs y68)) tf_size_56 O O O O O O O O) ?_
   refine G8 (hK72 _ _ ?_)
   refine Gm [(1, .dptr (Ship.cs s)), (3, .mp 1060), (5, .dptr (G5.cs y68)), (31, LS 12 G5.av s.Columns), (32, G0 (s.Columns.length : Int)), (33, G0 (i68 : Int))] [(1060, MP 111 Arr3Int.kv G0 s68)] 1058 rfl rfl rfl ⟨⟨_, rfl, .map⟩, trivial⟩ rfl (by repeat' (first | exact .ptr | constructor)) ?_
   refine G6 fun K73 hK73 => G2 ?_
   refine JLg (G0 0) (G9 O O) ?_
   refine G8 (hK73 _ _ ?_)
   obtain ⟨kj74, hkj74, h⟩ := J6 h
   refine Hs (fun j74 : Int => kj74 j74 = some p) (fun j74 => [(1, .dptr (Ship.cs s)), (3, .mp 1060), (5, .dptr (G5.cs y68)), (6, G0 j74), (31, LS 12 G5.av s.Columns), (32, G0 (s.Columns.length : Int)), (33, G0 (i68 : Int))]) (fun j74 => [(1060, MP 111 Arr3Int.kv G0 s68)]) (fun Kj74 ej74 => ?_) ?_
   ·
    refine G6 fun K75 hK75 => G2 ?_
    refine JLg (.dptr ((G5.cs y68).drop 2)) (Gb Jw O O O) ?_
    refine JLg (BL y68.Deck) (Gf J9 O O O) ?_
    refine G8 (hK75 _ _ ?_)
    refine Gh O (fun hb => ?_) (fun hb => ?_)
    ·
     replace h := bif_t hb h
     refine G2 ?_
     refine JLg (G0 1) (G9 O O) ?_
     refine G8 ?_
     exact ej74 _ _ 1 h ⟨(by repeat' constructor), ⟨⟨_, rfl, .map⟩, trivial⟩, rfl⟩
    ·
     replace h := bif_f hb h
     refine Gj ?_
     exact ej74 _ _ 0 h ⟨(by repeat' constructor), ⟨⟨_, rfl, .map⟩, trivial⟩, rfl⟩
   ·intro j74 h
    replace h := app1 hkj74 h
    refine G6 (fun K76 hK76 => ?_)
    refine Ju (l' := [(1, .dptr (Ship.cs s)), (3, .mp 1060), (5, .dptr (G5.cs y68)), (6, G0 j74), (31, LS 12 G5.av s.Columns), (32, G0 (s.Columns.length : Int)), (33, G0 (i68 : Int))]) (L' := [(1060, MP 111 Arr3Int.kv G0 s68)]) ⟨(by repeat' constructor), ⟨⟨_, rfl, .map⟩, trivial⟩, rfl⟩ ?_
    obtain ⟨v77, hv77, h⟩ := Ge h
    obtain ⟨v78, hv78, h⟩ := H6 h
    refine Jc [9, 11] [0, 0, 0, 0, 0, 0, 0, 0, 0, 0, 1, 0] [0, 0, 0, 0, 0, 0, 0, 1, 1, 0, 1, 0] [[(1060, MP 111 Arr3Int.kv G0 s68)], ((1060, MI 111 Arr3Int.kv G0 s68 (Arr3Int.mk y68.Bay y68.Row j74) 0) :: [(1060, MP 111 Arr3Int.kv G0 s68)]), ((1060, MP 111 Arr3Int.kv G0 (AMap.put s68 (Arr3Int.mk y68.Bay y68.Row j74) v78)) :: ((1060, MI 111 Arr3Int.kv G0 s68 (Arr3Int.mk y68.Bay y68.Row j74) 0) :: [(1060, MP 111 Arr3Int.kv G0 s68)]))] J5 (by kernel_rfl) rfl rfl ?_
    refine Gn (u := .mp 1060) O O ⟨Gp (G7 O O) O, trivial⟩ ?_
    refine Gn (u := .dptr (G5.cs y68)) O O ⟨Gp (Gb Ji O O O) O, trivial⟩ ?_
    refine Gn (u := G0 y68.Bay) O O ⟨Gp (Gf Ga O O O) O, trivial⟩ ?_
    refine Gn (u := .dptr ((G5.cs y68).drop 1)) O O ⟨Gp (Gb tf_field_56_1 O O O) O, trivial⟩ ?_
    refine Gn (u := G0 y68.Row) O O ⟨Gp (Gf Ga O O O) O, trivial⟩ ?_
    refine Gn (u := G0 j74) O O ⟨Gp (G7 O O) O, trivial⟩ ?_
    refine Gn (u := .agg [G0 y68.Bay, G0 y68.Row, G0 j74]) O O ⟨Gp (A_buildArr (cs := [G0 y68.Bay, G0 y68.Row, G0 j74]) [.int .i64 0, .int .i64 0, .int .i64 0] tf_arr_112 tf_zero_112 O O) O, trivial⟩ ?_
    refine Gn (u := G0 v77) O O ⟨Gp (((Option.some.inj hv77) ▸ A_lookupM0 (av := G0) (m := s68) (a := (Arr3Int.mk y68.Bay y68.Row j74)) 0 (.int .i64 0) O O O O tk_112 tf_map_111 tf_zv_3 O)) O, Gp (((Option.some.inj hv77) ▸ A_lookupMI (av := G0) (m := s68) (a := (Arr3Int.mk y68.Bay y68.Row j74)) 0 (.int .i64 0) O O O O tk_112 tf_map_111 tf_zv_3 O)) O, trivial⟩ ?_
    refine Gn (u := G0 v78) O O ⟨Gp (Hd hv78 O O O) O, Gp (Hd hv78 O O O) O, trivial⟩ ?_
    refine D_w (u := .tup [.junk, G0 (midx (AMap.l s68) (Arr3Int.mk y68.Bay y68.Row j74) : Int)]) O O O O (Gp (A_mapEntryM (m := s68) (a := (Arr3Int.mk y68.Bay y68.Row j74)) 0 (.int .i64 0) O O O O tk_112 tf_map_111 tf_zv_3 O) O) ?_
    refine Gn (u := G0 (midx (AMap.l s68) (Arr3Int.mk y68.Bay y68.Row j74) : Int)) O O ⟨Gp (Gv O O O) O, trivial⟩ ?_
    refine D_w0 (u := .junk) O O O O (Gp (A_entryStoreM (m := s68) (a := (Arr3Int.mk y68.Bay y68.Row j74)) (v := v78) 0 O O O O O O) O) ?_
    refine D_nil ?_
    refine hK76 _ _ ?_
    refine G6 fun K79 hK79 => G2 ?_
    refine JLg (.agg (G5.cs y68)) (Gg tf_agg_56 O O O) ?_
    obtain ⟨r80, hr80, h⟩ := Ge h
    refine JLg (BL r80) (Gr (args := [.agg (G5.cs y68)]) O (M_ship_right_w y68 r80 hr80) tf_call_35 ⟨O, O, trivial⟩) ?_
    refine JLg (BL (!r80)) (A_not (b := r80) O O) ?_
    refine G8 (hK79 _ _ ?_)
    refine Gh O (fun hb => ?_) (fun hb => ?_)
    ·
     replace h := bif_t hb h
     refine G6 fun K81 hK81 => G2 ?_
     refine JLg (BL false) (G9 O O) ?_
     refine G8 (hK81 _ _ ?_)
     refine Gq ?_
     exact ⟨[BL false], [], trivial, O, ⟨⟨_, O, .conv (.same O)⟩, trivial⟩, O, false, Eq.mpr (Option.some.inj h) hp, O⟩
    ·
     replace h := bif_f hb h
     refine Gj ?_
     refine hK71 _ _ ?_
     refine G2 ?_
     refine JLg (G0 ((i68 + 1 : Nat) : Int)) (Hd (idx_succ hk68 hm32) O O O) ?_
     refine JLg (G0 ((i68 + 1 : Nat) : Int)) (G7 O O) ?_
     refine G8 ?_
     exact e68 _ _ (i68 + 1) (AMap.put s68 (Arr3Int.mk y68.Bay y68.Row j74) v78) (app1 hn68 h) (by omega) ⟨(by repeat' constructor), ⟨⟨_, rfl, .map⟩, trivial⟩, rfl⟩
  ·
   have h := app1 hkx68 (Hb hi68 (Gy hb))
   refine H4 ?_
   refine hK6 _ _ ?_
   refine G6 (fun K82 hK82 => ?_)
   refine G6 fun K83 hK83 => G2 ?_
   refine JLg (.dptr [LS 2 Gc.av s.Covers, G0 s.Light.Kilos, G0 s.Light.X, G0 s.Light.Y, G0 s.Light.Z, LS 5 Row.av s.Rows, LS 5 Frame.av s.Frames, LS 6 Tank.av s.Tanks, G0 s.G4.Tolerance, G0 s.G4.Trim, G0 s.G4.List_, G0 s.G4.Stability]) (Gb Ja O O O) ?_
   refine JLg (LS 2 Gc.av s.Covers) (Gf Jn O O O) ?_
   refine H9 (f := Gc.av) (xs := s.Covers) J8 O O (fun hm56 => ?_) O O O
   refine JLg (G0 0) (G7 O O) ?_
   refine G8 (hK83 _ _ ?_)
   refine Gi ?_
   obtain ⟨b84, kx84, hb84, hkx84, h⟩ := Hi h
   refine Gz (fun i84 (s84 : (AMap Arr3Int Int)) => each b84 kx84 (List.drop i84 s.Covers) i84 s84 = some p) (fun i84 s84 => [(3, .mp 1060), (55, LS 2 Gc.av s.Covers), (56, G0 (s.Covers.length : Int)), (57, G0 (i84 : Int))]) (fun i84 s84 => [(1060, MP 111 Arr3Int.kv G0 s84)]) (fun i84 => s.Covers.length - i84) 0 s68 h ⟨(by repeat' constructor), ⟨⟨_, rfl, .map⟩, trivial⟩, rfl⟩ ?_
   clear h
   intro i84 s84 hi84 K84 e84
   refine G6 fun K85 hK85 => G2 ?_
   refine JLg (BL (decide ((i84 : Int) < (s.Covers.length : Int)))) (He O O O) ?_
   refine G8 (hK85 _ _ ?_)
   refine G6 (fun K86 hK86 => ?_)
   refine Gh O (fun hb => ?_) (fun hb => ?_)
   ·
    have hk84 := lt_len hb
    obtain ⟨y84, nx84, hy84, hn84, h⟩ := Ha hi84 hk84
    replace h := app4 hb84 h
    refine Gj ?_
    refine hK86 _ _ ?_
    refine G6 (fun K87 hK87 => ?_)
    refine Gi ?_
    refine G6 fun K88 hK88 => G2 ?_
    refine JLg (.dptr [G0 y84.Bay, LS 1 G0 y84.Rows]) (Gw (f := Gc.av) (xs := s.Covers) (y := y84) O O O J8 hy84 O) ?_
    refine JLg (.agg [G0 y84.Bay, LS 1 G0 y84.Rows]) (Gg tf_agg_58 O O O) ?_
    refine JLg (.ptr 1059 0) (H2 1059 2 tf_zsize_58 O O) ?_
    refine H1 (u := .junk) (Gt (u := .agg [G0 y84.Bay, LS 1 G0 y84.Rows]) (ds := [G0 y84.Bay, LS 1 G0 y84.Rows]) tf_size_58 O O O O O O O O) ?_
    refine G8 (hK88 _ _ ?_)
    refine Gm [(3, .mp 1060), (8, .dptr [G0 y84.Bay, LS 1 G0 y84.Rows]), (55, LS 2 Gc.av s.Covers), (56, G0 (s.Covers.length : Int)), (57, G0 (i84 : Int))] [(1060, MP 111 Arr3Int.kv G0 s84)] 1059 rfl rfl rfl ⟨⟨_, rfl, .map⟩, trivial⟩ rfl (by repeat' (first | exact .ptr | constructor)) ?_
    refine G6 (fun K89 hK89 => ?_)
    refine G6 fun K90 hK90 => G2 ?_
    refine JLg (.dptr [G0 y84.Bay, LS 1 G0 y84.Rows]) (Gb tf_field_58_0 O O O) ?_
    refine JLg (G0 y84.Bay) (Gf Ga O O O) ?_
    refine JLg (BL (decide (y84.Bay < 0))) (He O O O) ?_
    refine JLg (BL (decide (y84.Bay < 0))) (G7 O O) ?_
    refine Gd (u := .dptr [G0 y84.Bay, LS 1 G0 y84.Rows]) [] O O O .scf trivial (fun hc => Gb tf_field_58_0 O O O) ?_
    refine Gd (u := G0 y84.Bay) [(65, .dptr [G0 y84.Bay, LS 1 G0 y84.Rows])] O O O .scf ⟨.all id, trivial⟩ (fun hc => Gf Ga O O O) ?_
    refine Gd (u := BL (decide (40 ≤ y84.Bay))) [(66, G0 y84.Bay)] O O O .scf ⟨.all id, trivial⟩ (fun hc => A_geq O O O) ?_
    refine JLg (BL ((decide (y84.Bay < 0)) || (decide (40 ≤ y84.Bay)))) (Q0 O O O O) ?_
    refine JLg (BL ((decide (y84.Bay < 0)) || (decide (40 ≤ y84.Bay)))) (G7 O O) ?_
    refine Gd (u := .dptr [LS 1 G0 y84.Rows]) [] O O O .scf trivial (fun hc => Gb tf_field_58_1 O O O) ?_
    refine Gd (u := LS 1 G0 y84.Rows) [(70, .dptr [LS 1 G0 y84.Rows])] O O O .scf ⟨.all id, trivial⟩ (fun hc => Gf Jt O O O) ?_
    refine Gd (u := G0 (y84.Rows.length : Int)) [(71, LS 1 G0 y84.Rows)] O O O .scf ⟨.all id, trivial⟩ (fun hc => A_lenM (f := G0) (xs := y84.Rows) H0 O O) ?_
    refine Gd (u := BL (decide ((y84.Rows.length : Int) = 0))) [(72, G0 (y84.Rows.length : Int))] O O O .scf ⟨.all id, trivial⟩ (fun hc => Hx O O O) ?_
    refine JLg (BL (((decide (y84.Bay < 0)) || (decide (40 ≤ y84.Bay))) || (decide ((y84.Rows.length : Int) = 0)))) (Q0 O O O O) ?_
    refine G8 (hK90 _ _ ?_)
    refine Gh O (fun hb => ?_) (fun hb => ?_)
    ·
     replace h := bif_t hb h
     refine G6 fun K91 hK91 => G2 ?_
     refine JLg (BL false) (G9 O O) ?_
     refine G8 (hK91 _ _ ?_)
     refine Gq ?_
     exact ⟨[BL false], [], trivial, O, ⟨⟨_, O, .conv (.same O)⟩, trivial⟩, O, false, Eq.mpr (Option.some.inj h) hp, O⟩
    ·
     replace h := bif_f hb h
     refine Gj ?_
     refine hK89 _ _ ?_
     refine G6 fun K92 hK92 => G2 ?_
     refine JLg (.dptr [LS 1 G0 y84.Rows]) (Gb tf_field_58_1 O O O) ?_
     refine JLg (LS 1 G0 y84.Rows) (Gf Jt O O O) ?_
     refine H9 (f := G0) (xs := y84.Rows) H0 O O (fun hm77 => ?_) O O O
     refine JLg (G0 0) (G7 O O) ?_
     refine G8 (hK92 _ _ ?_)
     refine Gi ?_
     obtain ⟨b157, kx157, hb157, hkx157, h⟩ := Hi h
     refine Gz (fun i157 (s157 : (AMap Arr3Int Int)) => each b157 kx157 (List.drop i157 y84.Rows) i157 s157 = some p) (fun i157 s157 => [(3, .mp 1060), (8, .dptr [G0 y84.Bay, LS 1 G0 y84.Rows]), (55, LS 2 Gc.av s.Covers), (56, G0 (s.Covers.length : Int)), (57, G0 (i84 : Int)), (76, LS 1 G0 y84.Rows), (77, G0 (y84.Rows.length : Int)), (78, G0 (i157 : Int))]) (fun i157 s157 => [(1060, MP 111 Arr3Int.kv G0 s157)]) (fun i157 => y84.Rows.length - i157) 0 s84 h ⟨(by repeat' constructor), ⟨⟨_, rfl, .map⟩, trivial⟩, rfl⟩ ?_
     clear h
     intro i157 s157 hi157 K157 e157
     refine G6 fun K158 hK158 => G2 ?_
     refine JLg (BL (decide ((i157 : Int) < (y84.Rows.length : Int)))) (He O O O) ?_
     refine G8 (hK158 _ _ ?_)
     refine G6 (fun K159 hK159 => ?_)
     refine Gh O (fun hb => ?_) (fun hb => ?_)
     ·
      have hk157 := lt_len hb
      obtain ⟨y157, nx157, hy157, hn157, h⟩ := Ha hi157 hk157
      replace h := app4 hb157 h
      refine Gj ?_
      refine hK159 _ _ ?_
      refine G6 (fun K160 hK160 => ?_)
      refine Gi ?_
      refine G6 fun K161 hK161 => G2 ?_
      refine JLg (G0 (i157 : Int)) (G7 O O) ?_
      refine JLg (.dptr [G0 y157]) (Gw (f := G0) (xs := y84.Rows) (y := y157) O O O H0 hy157 O) ?_
      refine JLg (G0 y157) (Gf Ga O O O) ?_
      refine JLg (G0 (i157 : Int)) (G9 O O) ?_
      refine JLg (G0 y157) (G9 O O) ?_
      refine G8 (hK161 _ _ ?_)
      refine G6 (fun K162 hK162 => ?_)
      refine G6 fun K163 hK163 => G2 ?_
      refine JLg (G0 y157) (G7 O O) ?_
      refine JLg (BL (decide (y157 < 0))) (He O O O) ?_
      refine JLg (BL (decide (y157 < 0))) (G7 O O) ?_
      refine Gd (u := G0 y157) [] O O O .scf trivial (fun hc => G7 O O) ?_
      refine Gd (u := BL (decide (30 < y157))) [(86, G0 y157)] O O O .scf ⟨.all id, trivial⟩ (fun hc => A_gtr O O O) ?_
      refine JLg (BL ((decide (y157 < 0)) || (decide (30 < y157)))) (Q0 O O O O) ?_
      refine JLg (BL ((decide (y157 < 0)) || (decide (30 < y157)))) (G7 O O) ?_
      refine Gd (u := G0 (i157 : Int)) [] O O O .scf trivial (fun hc => G7 O O) ?_
      refine Gd (u := BL (decide (0 < (i157 : Int)))) [(90, G0 (i157 : Int))] O O O .scf ⟨.all id, trivial⟩ (fun hc => A_gtr O O O) ?_
      refine Gd (u := BL (decide (0 < (i157 : Int)))) [(91, BL (decide (0 < (i157 : Int))))] O O O .scf ⟨.all id, trivial⟩ (fun hc => G7 O O) ?_
      refine Gd (u := G0 y157) [] O O O .optt trivial (fun hc => G7 O O) ?_
      refine Gd (u := .dptr [LS 1 G0 y84.Rows]) [] O O O .optt trivial (fun hc => Gb tf_field_58_1 O O O) ?_
      refine Gd (u := LS 1 G0 y84.Rows) [(94, .dptr [LS 1 G0 y84.Rows])] O O O .optt ⟨.all id, trivial⟩ (fun hc => Gf Jt O O O) ?_
      refine Gd (u := G0 (i157 : Int)) [] O O O .optt trivial (fun hc => G7 O O) ?_
      obtain ⟨v164, hv164, h⟩ := Ge h
      refine Gd (u := G0 v164) [(96, G0 (i157 : Int))] O O O .optt ⟨.all id, trivial⟩ (fun hc => Jx (chk_some (bif_t hc hv164)) O O O) ?_
      obtain ⟨y165, hy165, h⟩ := Ge h
      refine Gd (u := .dptr [G0 y165]) [(95, LS 1 G0 y84.Rows), (97, G0 v164)] O O O .optt ⟨.all id, .all id, trivial⟩ (fun hc => (match Q2 (bif_t hc hy165) with | ⟨_, hm_, hy_⟩ => Gw (f := G0) (xs := y84.Rows) (y := y165) O O O H0 hy_ hm_)) ?_
      refine Gd (u := G0 y165) [(98, .dptr [G0 y165])] O O O .optt ⟨.all id, trivial⟩ (fun hc => Gf Ga O O O) ?_
      refine Gd (u := BL (decide (y157 ≤ y165))) [(93, G0 y157), (99, G0 y165)] O O O .optt ⟨.all id, .all id, trivial⟩ (fun hc => A_leq O O O) ?_
      refine Gd (u := BL ((decide (0 < (i157 : Int))) && (decide (y157 ≤ y165)))) [(92, BL (decide (0 < (i157 : Int)))), (100, _)] O O O .scf ⟨.all id, .part, trivial⟩ (fun hc => J2 O O O O) ?_
      refine JLg (BL (((decide (y157 < 0)) || (decide (30 < y157))) || ((decide (0 < (i157 : Int))) && (decide (y157 ≤ y165))))) (Q0 O O O O) ?_
      refine G8 (hK163 _ _ ?_)
      refine Gh O (fun hb => ?_) (fun hb => ?_)
      ·
       replace h := bif_t hb h
       refine G6 fun K166 hK166 => G2 ?_
       refine JLg (BL false) (G9 O O) ?_
       refine G8 (hK166 _ _ ?_)
       refine Gq ?_
       exact ⟨[BL false], [], trivial, O, ⟨⟨_, O, .conv (.same O)⟩, trivial⟩, O, false, Eq.mpr (Option.some.inj h) hp, O⟩
      ·
       replace h := bif_f hb h
       refine Gj ?_
       refine hK162 _ _ ?_
       refine Ju (l' := [(3, .mp 1060), (8, .dptr [G0 y84.Bay, LS 1 G0 y84.Rows]), (10, G0 y157), (55, LS 2 Gc.av s.Covers), (56, G0 (s.Covers.length : Int)), (57, G0 (i84 : Int)), (76, LS 1 G0 y84.Rows), (77, G0 (y84.Rows.length : Int)), (78, G0 (i157 : Int))]) (L' := [(1060, MP 111 Arr3Int.kv G0 s157)]) ⟨(by repeat' constructor), ⟨⟨_, rfl, .map⟩, trivial⟩, rfl⟩ ?_
       obtain ⟨v167, hv167, h⟩ := Ge h
       obtain ⟨v168, hv168, h⟩ := H6 h
       refine Jc [7, 9] [0, 0, 0, 0, 0, 0, 0, 0, 1, 0] [0, 0, 0, 0, 0, 1, 1, 0, 1, 0] [[(1060, MP 111 Arr3Int.kv G0 s157)], ((1060, MI 111 Arr3Int.kv G0 s157 (Arr3Int.mk y84.Bay y157 2) 0) :: [(1060, MP 111 Arr3Int.kv G0 s157)]), ((1060, MP 111 Arr3Int.kv G0 (AMap.put s157 (Arr3Int.mk y84.Bay y157 2) v168)) :: ((1060, MI 111 Arr3Int.kv G0 s157 (Arr3Int.mk y84.Bay y157 2) 0) :: [(1060, MP 111 Arr3Int.kv G0 s157)]))] J5 (by kernel_rfl) rfl rfl ?_
       refine Gn (u := .mp 1060) O O ⟨Gp (G7 O O) O, trivial⟩ ?_
       refine Gn (u := .dptr [G0 y84.Bay, LS 1 G0 y84.Rows]) O O ⟨Gp (Gb tf_field_58_0 O O O) O, trivial⟩ ?_
       refine Gn (u := G0 y84.Bay) O O ⟨Gp (Gf Ga O O O) O, trivial⟩ ?_
       refine Gn (u := G0 y157) O O ⟨Gp (G7 O O) O, trivial⟩ ?_
       refine Gn (u := .agg [G0 y84.Bay, G0 y157, G0 2]) O O ⟨Gp (A_buildArr (cs := [G0 y84.Bay, G0 y157, G0 2]) [.int .i64 0, .int .i64 0, .int .i64 0] tf_arr_112 tf_zero_112 O O) O, trivial⟩ ?_
       refine Gn (u := G0 v167) O O ⟨Gp (((Option.some.inj hv167) ▸ A_lookupM0 (av := G0) (m := s157) (a := (Arr3Int.mk y84.Bay y157 2)) 0 (.int .i64 0) O O O O tk_112 tf_map_111 tf_zv_3 O)) O, Gp (((Option.some.inj hv167) ▸ A_lookupMI (av := G0) (m := s157) (a := (Arr3Int.mk y84.Bay y157 2)) 0 (.int .i64 0) O O O O tk_112 tf_map_111 tf_zv_3 O)) O, trivial⟩ ?_
       refine Gn (u := G0 v168) O O ⟨Gp (Hd hv168 O O O) O, Gp (Hd hv168 O O O) O, trivial⟩ ?_
       refine D_w (u := .tup [.junk, G0 (midx (AMap.l s157) (Arr3Int.mk y84.Bay y157 2) : Int)]) O O O O (Gp (A_mapEntryM (m := s157) (a := (Arr3Int.mk y84.Bay y157 2)) 0 (.int .i64 0) O O O O tk_112 tf_map_111 tf_zv_3 O) O) ?_
       refine Gn (u := G0 (midx (AMap.l s157) (Arr3Int.mk y84.Bay y157 2) : Int)) O O ⟨Gp (Gv O O O) O, trivial⟩ ?_
       refine D_w0 (u := .junk) O O O O (Gp (A_entryStoreM (m := s157) (a := (Arr3Int.mk y84.Bay y157 2)) (v := v168) 0 O O O O O O) O) ?_
       refine D_nil ?_
       refine hK160 _ _ ?_
       refine G2 ?_
       refine JLg (G0 ((i157 + 1 : Nat) : Int)) (Hd (idx_succ hk157 hm77) O O O) ?_
       refine JLg (G0 ((i157 + 1 : Nat) : Int)) (G7 O O) ?_
       refine G8 ?_
       exact e157 _ _ (i157 + 1) (AMap.put s157 (Arr3Int.mk y84.Bay y157 2) v168) (app1 hn157 h) (by omega) ⟨(by repeat' constructor), ⟨⟨_, rfl, .map⟩, trivial⟩, rfl⟩
     ·
      have h := app1 hkx157 (Hb hi157 (Gy hb))
      refine H4 ?_
      refine hK87 _ _ ?_
      refine G2 ?_
      refine JLg (G0 ((i84 + 1 : Nat) : Int)) (Hd (idx_succ hk84 hm56) O O O) ?_
      refine JLg (G0 ((i84 + 1 : Nat) : Int)) (G7 O O) ?_
      refine G8 ?_
      exact e84 _ _ (i84 + 1) s157 (app1 hn84 h) (by omega) ⟨(by repeat' constructor), ⟨⟨_, rfl, .map⟩, trivial⟩, rfl⟩
   ·
    have h := app1 hkx84 (Hb hi84 (Gy hb))
    refine H4 ?_
    refine hK82 _ _ ?_
    refine G6 (fun K169 hK169 => ?_)
    refine G6 fun K170 hK170 => G2 ?_
    refine JLg (.mp 1060) (G7 O O) ?_
    refine JLg (.it 1061) (A_rangeM 1061 (m := s84) O O O O tf_map_111) ?_
    refine G8 (hK170 _ _ ?_)
    refine Gi ?_
    obtain ⟨b176, kx176, hb176, hkx176, h⟩ := eachM_in h
    refine JC_loopM (AMap.size s84) (fun i176 (s176 : Unit) => MInv b176 kx176 (AMap.l s84) i176 s176) (fun i176 s176 => [(115, .it 1061)]) (fun i176 s176 => [(1060, MP 111 Arr3Int.kv G0 s84), (1061, .iter 1060 (AMap.size s84) i176)]) () (MInv.start h hp) ⟨⟨.same O, trivial⟩, ⟨⟨_, O, .map⟩, ⟨_, O, .iter O⟩, trivial⟩, O⟩ ?_
    clear h hp
    intro i176 s176 hi176 K176 e176
    refine G6 fun K177 hK177 => G2 ?_
    refine JL_step O O O (A_nextM (m := s84) O O O O) ?_
    intro u_ L_ hn_
    rcases hn_ with ⟨q176, x176, he176, hs176, rfl, rfl⟩ | ⟨ha176, rfl, rfl⟩
    ·
     obtain ⟨o176, h, ho1_176, ho2_176⟩ := hi176.step he176 hs176
     replace h := app3 hb176 h
     refine JLg (BL true) (Gv O O O) ?_
     refine G8 (hK177 _ _ ?_)
     refine G6 (fun K178 hK178 => ?_)
     refine JC_condT O ?_
     refine Gj ?_
     refine hK178 _ _ ?_
     refine Gi ?_
     refine G6 fun K179 hK179 => G2 ?_
     refine JLg (.tup [.agg (Arr3Int.cs x176.1), G0 x176.2]) (A_entryM (kv := Arr3Int.kv) (av := G0) (m := s84) (q := q176) (seen := i176) (e := x176) O O O O he176) ?_
     refine JLg (G0 x176.2) (Gv O O O) ?_
     refine JLg (G0 x176.2) (G9 O O) ?_
     refine G8 (hK179 _ _ ?_)
     refine G6 fun K180 hK180 => G2 ?_
     refine JLg (G0 x176.2) (G7 O O) ?_
     refine JLg (BL (decide (1 < x176.2))) (A_gtr O O O) ?_
     refine G8 (hK180 _ _ ?_)
     refine Gh O (fun hb => ?_) (fun hb => ?_)
     ·
      replace h := bif_t hb h
      refine G6 fun K181 hK181 => G2 ?_
      refine JLg (BL false) (G9 O O) ?_
      refine G8 (hK181 _ _ ?_)
      refine Gq ?_
      obtain ⟨y_, hy_, hl_⟩ := lft_out h
      exact ⟨[BL false], [], trivial, O, ⟨⟨_, O, .conv (.same O)⟩, trivial⟩, O, false, Eq.mpr (Option.some.inj hl_) (ho1_176 y_ hy_), O⟩
     ·
      replace h := bif_f hb h
      refine Gj ?_
      exact e176 _ _ (i176 ++ [q176]) () (ho2_176 _ (Option.some.inj h).symm) (unseen_lt (List.getElem?_eq_some_iff.1 he176).1 hs176) ⟨⟨.same O, trivial⟩, ⟨⟨_, O, .map⟩, ⟨_, O, .iter O⟩, trivial⟩, O⟩
    ·
     obtain ⟨p_, h, hp⟩ := hi176.done ha176
     replace h := app1 hkx176 h
     refine JLg (BL false) (Gv O O O) ?_
     refine G8 (hK177 _ _ ?_)
     refine G6 (fun K182 hK182 => ?_)
     refine JC_condF O ?_
     refine H4 ?_
     refine hK169 _ _ ?_
     refine G6 fun K183 hK183 => G2 ?_
     refine JLg (BL true) (G9 O O) ?_
     refine G8 (hK183 _ _ ?_)
     refine Gq ?_
     exact ⟨[BL true], [], trivial, O, ⟨⟨_, O, .conv (.same O)⟩, trivial⟩, O, true, Eq.mpr (Option.some.inj h) hp, O⟩
theorem M_ship_Right_s (S_ : (Ship) → Option Bool) (hS_ : ∀ s r, S_ s = some r → ∃ p : Prop, M_ship_Right s (fun r_ => r_ = r) = some p ∧ p) (s : Ship) (r : Bool) (h : S_ s = some r) : Pure Tryz.prog 15 [.agg (Ship.cs s)] (· = BL r) := by
 obtain ⟨p, h1, h2⟩ := hS_ s r h
 exact (M_ship_Right_w s _ p h1 h2).monoP (fun av hh => by obtain ⟨r_, rfl, ha⟩ := hh; exact ha)

def M_slot_halves (size : Int) : Option (List Int) :=
 bif decide (size = 40) then
 (some [0])
 else
 (bif decide (size = 20) then
  (some [1, 2])
  else
  (some []))
theorem M_slot_halves_w (size : Int) (r : (List Int)) (h : M_slot_halves size = some r) : Pure Tryz.prog 71 [U8 size] (· = LS 1 U8 r) := by
 unfold M_slot_halves at h
 refine Gx [.tmp 2] Tryz.func71 O O ?_
 refine G6 fun K1 hK1 => G2 ?_
 refine JLg (LS 1 U8 ([] : List Int)) (Hw 1 O O) ?_
 refine G8 (hK1 _ _ ?_)
 refine G6 (fun K2 hK2 => ?_)
 refine G6 fun K3 hK3 => G2 ?_
 refine JLg (U8 size) (G7 O O) ?_
 refine G8 (hK3 _ _ ?_)
 refine Gi ?_
 refine G6 fun K4 hK4 => G2 ?_
 refine JLg (BL (decide (size = 40))) (Hx O O O) ?_
 refine JLg (BL (decide (size = 40))) (G9 O O) ?_
 refine G8 (hK4 _ _ ?_)
 refine Gh O (fun hb => ?_) (fun hb => ?_)
 ·
  replace h := bif_t hb h
  refine G6 fun K5 hK5 => G2 ?_
  refine JLg (LS 1 U8 [0]) (Gu (xs := [U8 0]) O ⟨O, O, trivial⟩ tf_slice_154 tf_zsize_5 O O O O) ?_
  refine JLg (LS 1 U8 [0]) (G9 O O) ?_
  refine G8 (hK5 _ _ ?_)
  refine Gq ?_
  exact ⟨[LS 1 U8 [0]], [], trivial, O, ⟨⟨_, O, .conv (.same O)⟩, trivial⟩, O, congrArg (fun r : (List Int) => (LS 1 U8 r : AV)) (Option.some.inj h)⟩
 ·
  replace h := bif_f hb h
  refine G6 fun K6 hK6 => G2 ?_
  refine JLg (BL (decide (size = 20))) (Hx O O O) ?_
  refine JLg (BL (decide (size = 20))) (G9 O O) ?_
  refine G8 (hK6 _ _ ?_)
  refine Gh O (fun hb => ?_) (fun hb => ?_)
  ·
   replace h := bif_t hb h
   refine G6 fun K7 hK7 => G2 ?_
   refine JLg (LS 1 U8 [1, 2]) (Gu (xs := [U8 1, U8 2]) O ⟨O, O, O, O, trivial⟩ tf_slice_154 tf_zsize_5 O O O O) ?_
   refine JLg (LS 1 U8 [1, 2]) (G9 O O) ?_
   refine G8 (hK7 _ _ ?_)
   refine Gq ?_
   exact ⟨[LS 1 U8 [1, 2]], [], trivial, O, ⟨⟨_, O, .conv (.same O)⟩, trivial⟩, O, congrArg (fun r : (List Int) => (LS 1 U8 r : AV)) (Option.some.inj h)⟩
  ·
   replace h := bif_f hb h
   refine Gj ?_
   refine hK2 _ _ ?_
   refine G6 fun K8 hK8 => G2 ?_
   refine JLg (LS 1 U8 ([] : List Int)) (Hw 1 O O) ?_
   refine G8 (hK8 _ _ ?_)
   refine Gq ?_
   exact ⟨[LS 1 U8 ([] : List Int)], [], trivial, O, ⟨⟨_, O, .conv (.same O)⟩, trivial⟩, O, congrArg (fun r : (List Int) => (LS 1 U8 r : AV)) (Option.some.inj h)⟩

def M_slot_slots_1 (p1 : Ship) (p2 : Int) (ys_ : List Slot) : Option Unit :=
 each (fun y2 i2 (s2 : Nat) nx2 =>
  need (decide ((max y2.Tiers 0) ≤ 9223372036854775807)) <|
  upto (fun i8 (s8 : Nat) nx8 =>
   bnd (M_slot_halves p2) fun r14 =>
   each (fun y29 i29 (s29 : Nat) nx29 =>
    need (decide (ys_[s29]? = some (Slot.mk (i2 : Int) (i8 : Int) y29))) <|
    nx29 (s29 + 1))
   (fun (s29 : Nat) =>
    nx8 s29) r14 0 s8)
  (fun (s8 : Nat) =>
   nx2 s8) (max y2.Tiers 0).toNat 0 s2)
 (fun (s2 : Nat) =>
  need (decide (s2 = ys_.length)) (some ())) p1.Columns 0 0
theorem M_slot_slots_1_w (p1 : Ship) (p2 : Int) (ys_ : List Slot) (q_ : Unit) (h : M_slot_slots_1 p1 p2 ys_ = some q_) : Iter Tryz.prog 76 [.dptr (Ship.cs p1), .dptr [U8 p2]] (ys_.map (fun y : Slot => [.agg [G0 y.G5, G0 y.Tier, U8 y.Half]])) := by
 unfold M_slot_slots_1 at h
 refine Iter_of Tryz.func76 O O ?_
 intro E hE hys
 refine JI_seq (fun K1 hK1 => ?_)
 refine JI_region ?_
 refine J7 (u := .dptr (Ship.cs p1)) hE (Gb Hc O O O) ?_ O O O O
 refine J7 (u := LS 12 G5.av p1.Columns) hE (Gf Hj O O O) ?_ O O O O
 refine JIL_lenM hE (f := G5.av) (xs := p1.Columns) Hf O O (fun hm11 => ?_) O O O
 refine J7 (u := G0 0) hE (G7 O O) ?_ O O O O
 refine JIL_nil ?_
 refine hK1 _ _ _ ?_
 refine JI_block ?_
 obtain ⟨b2, kx2, hb2, hkx2, h⟩ := Hi h
 refine JI_loop2 (fun i2 (s2 : Nat) => each b2 kx2 (List.drop i2 p1.Columns) i2 s2 = some q_) (fun i2 s2 => [(0, .sc (.func (.yield E.lp) #[] #[])), (2, .dptr [U8 p2]), (10, LS 12 G5.av p1.Columns), (11, G0 (p1.Columns.length : Int)), (12, G0 (i2 : Int))]) (fun i2 s2 => []) (fun i2 s2 => s2) (fun i2 => p1.Columns.length - i2) 0 0 h ⟨(by repeat' constructor), trivial, rfl⟩ rfl ?_
 clear h
 intro i2 s2 hi2 K2 e2
 refine JI_seq (fun K3 hK3 => ?_)
 refine JI_region ?_
 refine J7 (u := BL (decide ((i2 : Int) < (p1.Columns.length : Int)))) hE (He O O O) ?_ O O O O
 refine JIL_nil ?_
 refine hK3 _ _ _ ?_
 refine JI_seq (fun K4 hK4 => ?_)
 refine JI_cond O (fun hb => ?_) (fun hb => ?_)
 ·
  have hk2 := lt_len hb
  obtain ⟨y2, nx2, hy2, hn2, h⟩ := Ha hi2 hk2
  replace h := app4 hb2 h
  refine JI_skip ?_
  refine hK4 _ _ _ ?_
  refine JI_seq (fun K5 hK5 => ?_)
  refine JI_block ?_
  refine JI_seq (fun K6 hK6 => ?_)
  refine JI_region ?_
  refine J7 (u := G0 (i2 : Int)) hE (G7 O O) ?_ O O O O
  refine J7 (u := .dptr (G5.cs y2)) hE (Gw (f := G5.av) (xs := p1.Columns) (y := y2) O O O Hf hy2 O) ?_ O O O O
  refine J7 (u := .agg (G5.cs y2)) hE (Gg tf_agg_56 O O O) ?_ O O O O
  refine J7 (u := .ptr 1149 0) hE (H2 1149 12 Q4 O O) ?_ O O O O
  refine J7 (u := G0 (i2 : Int)) hE (G9 O O) ?_ O O O O
  refine JIL_go0 (u := .junk) hE (Gt (u := .agg (G5.cs y2)) (ds := (G5.cs y2)) tf_size_56 O O O O O O O O) ?_ O O O
  refine JIL_nil ?_
  refine hK6 _ _ _ ?_
  refine JI_seq (fun K7 hK7 => ?_)
  refine JI_region ?_
  refine J7 (u := .ptr 1149 3) hE (Hm tf_field_56_3 O O) ?_ O O O O
  refine J7 (u := G0 y2.Tiers) hE (Ht Ga O O O O) ?_ O O O O
  refine J7 (u := G0 (max y2.Tiers 0)) hE (A_max O O O) ?_ O O O O
  refine J7 (u := G0 0) hE (G7 O O) ?_ O O O O
  refine JIL_nil ?_
  refine hK7 _ _ _ ?_
  refine JI_block ?_
  obtain ⟨hx8, h⟩ := Hq h
  obtain ⟨b8, kx8, hb8, hkx8, h⟩ := upto_in h
  refine JI_loop2 (fun i8 (s8 : Nat) => upto b8 kx8 ((max y2.Tiers 0).toNat - i8) i8 s8 = some q_) (fun i8 s8 => [(0, .sc (.func (.yield E.lp) #[] #[])), (2, .dptr [U8 p2]), (4, G0 (i2 : Int)), (10, LS 12 G5.av p1.Columns), (11, G0 (p1.Columns.length : Int)), (12, G0 (i2 : Int)), (19, G0 (max y2.Tiers 0)), (20, G0 (i8 : Int))]) (fun i8 s8 => [(1149, .box 56 (G5.cs y2))]) (fun i8 s8 => s8) (fun i8 => (max y2.Tiers 0).toNat - i8) 0 s2 h ⟨(by repeat' constructor), ⟨⟨_, rfl, .boxL rfl (by repeat' constructor)⟩, trivial⟩, rfl⟩ rfl ?_
  clear h
  intro i8 s8 hi8 K8 e8
  refine JI_seq (fun K9 hK9 => ?_)
  refine JI_region ?_
  refine J7 (u := BL (decide ((i8 : Int) < (max y2.Tiers 0)))) hE (He O O O) ?_ O O O O
  refine JIL_nil ?_
  refine hK9 _ _ _ ?_
  refine JI_seq (fun K10 hK10 => ?_)
  refine JI_cond O (fun hb => ?_) (fun hb => ?_)
  ·
   have hk8 := lt_toNat hb
   obtain ⟨nx8, hn8, h⟩ := upto_out hi8 hk8
   replace h := app3 hb8 h
   refine JI_skip ?_
   refine hK10 _ _ _ ?_
   refine JI_seq (fun K11 hK11 => ?_)
   refine JI_block ?_
   refine JI_seq (fun K12 hK12 => ?_)
   refine JI_region ?_
   refine J7 (u := G0 (i8 : Int)) hE (G7 O O) ?_ O O O O
   refine J7 (u := G0 (i8 : Int)) hE (G9 O O) ?_ O O O O
   refine JIL_nil ?_
   refine hK12 _ _ _ ?_
   refine JI_seq (fun K13 hK13 => ?_)
   refine JI_region ?_
   refine J7 (u := U8 p2) hE (Gf H7 O O O) ?_ O O O O
   obtain ⟨r14, hr14, h⟩ := Ge h
   refine J7 (u := LS 1 U8 r14) hE (Gr (args := [U8 p2]) O (M_slot_halves_w p2 r14 hr14) tf_call_71 ⟨O, O, trivial⟩) ?_ O O O O
   refine JIL_lenM hE (f := U8) (xs := r14) tf_slice_154 O O (fun hm25 => ?_) O O O
   refine J7 (u := G0 0) hE (G7 O O) ?_ O O O O
   refine JIL_nil ?_
   refine hK13 _ _ _ ?_
   refine JI_block ?_
   obtain ⟨b29, kx29, hb29, hkx29, h⟩ := Hi h
   refine JI_loop2 (fun i29 (s29 : Nat) => each b29 kx29 (List.drop i29 r14) i29 s29 = some q_) (fun i29 s29 => [(0, .sc (.func (.yield E.lp) #[] #[])), (2, .dptr [U8 p2]), (4, G0 (i2 : Int)), (6, G0 (i8 : Int)), (10, LS 12 G5.av p1.Columns), (11, G0 (p1.Columns.length : Int)), (12, G0 (i2 : Int)), (19, G0 (max y2.Tiers 0)), (20, G0 (i8 : Int)), (24, LS 1 U8 r14), (25, G0 (r14.length : Int)), (26, G0 (i29 : Int))]) (fun i29 s29 => [(1149, .box 56 (G5.cs y2))]) (fun i29 s29 => s29) (fun i29 => r14.length - i29) 0 s8 h ⟨(by repeat' constructor), ⟨⟨_, rfl, .boxL rfl (by repeat' constructor)⟩, trivial⟩, rfl⟩ rfl ?_
   clear h
   intro i29 s29 hi29 K29 e29
   refine JI_seq (fun K30 hK30 => ?_)
   refine JI_region ?_
   refine J7 (u := BL (decide ((i29 : Int) < (r14.length : Int)))) hE (He O O O) ?_ O O O O
   refine JIL_nil ?_
   refine hK30 _ _ _ ?_
   refine JI_seq (fun K31 hK31 => ?_)
   refine JI_cond O (fun hb => ?_) (fun hb => ?_)
   ·
    have hk29 := lt_len hb
    obtain ⟨y29, nx29, hy29, hn29, h⟩ := Ha hi29 hk29
    replace h := app4 hb29 h
    refine JI_skip ?_
    refine hK31 _ _ _ ?_
    refine JI_seq (fun K32 hK32 => ?_)
    refine JI_block ?_
    refine JI_seq (fun K33 hK33 => ?_)
    refine JI_region ?_
    refine J7 (u := .dptr [U8 y29]) hE (Gw (f := U8) (xs := r14) (y := y29) O O O tf_slice_154 hy29 O) ?_ O O O O
    refine J7 (u := U8 y29) hE (Gf H7 O O O) ?_ O O O O
    refine J7 (u := U8 y29) hE (G9 O O) ?_ O O O O
    refine JIL_nil ?_
    refine hK33 _ _ _ ?_
    refine JI_seq (fun K34 hK34 => ?_)
    refine JI_region ?_
    refine J7 (u := .sc (.func (.yield E.lp) #[] #[])) hE (G7 O O) ?_ O O O O
    refine J7 (u := G0 (i2 : Int)) hE (G7 O O) ?_ O O O O
    refine J7 (u := G0 (i8 : Int)) hE (G7 O O) ?_ O O O O
    refine J7 (u := U8 y29) hE (G7 O O) ?_ O O O O
    refine J7 (u := .agg [G0 (i2 : Int), G0 (i8 : Int), U8 y29]) hE (H8 (cs := [G0 (i2 : Int), G0 (i8 : Int), U8 y29]) [(0, 1), (1, 1), (2, 1)] [G0 0, G0 0, U8 0] [.int .i64 0, .int .i64 0, .int .u8 0] tf_places_51 tf_zero_51 ⟨.inl O, .inl O, .inl O, trivial⟩ O O) ?_ O O O O
    obtain ⟨ha35, h⟩ := Hq h
    refine JIL_yield (us := [.agg [G0 (i2 : Int), G0 (i8 : Int), U8 y29]]) hE O O ⟨O, O, trivial⟩ (yld_at (f := (fun y : Slot => [.agg [G0 y.G5, G0 y.Tier, U8 y.Half]])) (x := (Slot.mk (i2 : Int) (i8 : Int) y29)) hys ha35) ?_ O O O
    refine J7 (u := BL false) hE (A_not (b := true) O O) ?_ O O O O
    refine JIL_nil ?_
    refine hK34 _ _ _ ?_
    refine JI_condF O ?_
    refine JI_skip ?_
    refine hK32 _ _ _ ?_
    refine JI_region ?_
    refine J7 (u := G0 ((i29 + 1 : Nat) : Int)) hE (Hd (idx_succ hk29 hm25) O O O) ?_ O O O O
    refine J7 (u := G0 ((i29 + 1 : Nat) : Int)) hE (G7 O O) ?_ O O O O
    refine JIL_nil ?_
    exact e29 _ _ (i29 + 1) (s29 + 1) _ (app1 hn29 h) (by omega) ⟨(by repeat' constructor), ⟨⟨_, rfl, .boxL rfl (by repeat' constructor)⟩, trivial⟩, rfl⟩ rfl
   ·
    have h := app1 hkx29 (Hb hi29 (Gy hb))
    refine JI_exit ?_
    refine hK11 _ _ _ ?_
    refine JI_region ?_
    refine J7 (u := G0 ((i8 + 1 : Nat) : Int)) hE (Hd (idx_succ hk8 (toNat_max hx8)) O O O) ?_ O O O O
    refine J7 (u := G0 ((i8 + 1 : Nat) : Int)) hE (G7 O O) ?_ O O O O
    refine JIL_nil ?_
    exact e8 _ _ (i8 + 1) s29 _ (app1 hn8 h) (by omega) ⟨(by repeat' constructor), ⟨⟨_, rfl, .boxL rfl (by repeat' constructor)⟩, trivial⟩, rfl⟩ rfl
  ·
   have h := app1 hkx8 (upto_nil hi8 (not_lt_toNat hb))
   refine JI_exit ?_
   refine hK5 _ _ _ ?_
   refine JI_region ?_
   refine J7 (u := G0 ((i2 + 1 : Nat) : Int)) hE (Hd (idx_succ hk2 hm11) O O O) ?_ O O O O
   refine J7 (u := G0 ((i2 + 1 : Nat) : Int)) hE (G7 O O) ?_ O O O O
   refine JIL_nil ?_
   exact e2 _ _ (i2 + 1) s8 _ (app1 hn2 h) (by omega) ⟨(by repeat' constructor), trivial, rfl⟩ rfl
 ·
  have h := app1 hkx2 (Hb hi2 (Gy hb))
  refine JI_exit ?_
  exact yld_end (Hq h).1
theorem M_slot_slots_1_s (S_ : (Ship) → (Int) → Option (List Slot)) (hS_ : ∀ p1 p2 r, S_ p1 p2 = some r → M_slot_slots_1 p1 p2 r = some ()) (p1 : Ship) (p2 : Int) (r : List Slot) (h : S_ p1 p2 = some r) : Iter Tryz.prog 76 [.dptr (Ship.cs p1), .dptr [U8 p2]] (r.map (fun y : Slot => [.agg [G0 y.G5, G0 y.Tier, U8 y.Half]])) := M_slot_slots_1_w p1 p2 r () (hS_ p1 p2 r h)
end
end Go.Proofs.YtmdnkofmmheoaaaGreat
