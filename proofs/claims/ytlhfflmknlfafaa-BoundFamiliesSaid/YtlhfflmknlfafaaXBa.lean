/-
 Models of functions of the program, and that they return what the models say.
-/
import Derived.Test.YtlhfflmknlfafaaProg
import Derived.Test.YtlhfflmknlfafaaSortM
import Derived.Test.YtlhfflmknlfafaaSortLay
import Derived.Test.YtlhfflmknlfafaaRel
import Derived.Test.YtlhfflmknlfafaaLit0
import Derived.Test.YtlhfflmknlfafaaXA
import Derived.Test.YtlhfflmknlfafaaSpecA
import Derived.Test.YtlhfflmknlfafaaSpecI
import Derived.Test.YtlhfflmknlfafaaSpecG
import Derived.Test.YtlhfflmknlfafaaXVa
import Derived.Test.YtlhfflmknlfafaaXV
set_option maxRecDepth 100000
set_option linter.unusedVariables false
set_option linter.unusedSimpArgs false
namespace Go.Proofs.Ytlhfflmknlfafaa
open Go.RowKit
noncomputable section

namespace XBF
open XAF
open XVF
theorem tf_aggof_56 : aggOf Try.prog 56 = true := by kernel_rfl
theorem tf_call_12 : callB Try.prog 12 = true := by kernel_rfl
theorem tf_call_13 : callB Try.prog 13 = true := by kernel_rfl
theorem tf_call_14 : callB Try.prog 14 = true := by kernel_rfl
theorem tf_call_15 : callB Try.prog 15 = true := by kernel_rfl
theorem tf_call_16 : callB Try.prog 16 = true := by kernel_rfl
theorem tf_call_17 : callB Try.prog 17 = true := by kernel_rfl
theorem tf_call_18 : callB Try.prog 18 = true := by kernel_rfl
theorem tf_call_19 : callB Try.prog 19 = true := by kernel_rfl
theorem tf_call_20 : callB Try.prog 20 = true := by kernel_rfl
theorem tf_call_21 : callB Try.prog 21 = true := by kernel_rfl
theorem tf_call_22 : callB Try.prog 22 = true := by kernel_rfl
theorem tf_call_33 : callB Try.prog 33 = true := by kernel_rfl
theorem tf_call_37 : callB Try.prog 37 = true := by kernel_rfl
theorem tf_call_38 : callB Try.prog 38 = true := by kernel_rfl
theorem tf_call_39 : callB Try.prog 39 = true := by kernel_rfl
theorem tf_call_4 : callB Try.prog 4 = true := by kernel_rfl
theorem tf_call_40 : callB Try.prog 40 = true := by kernel_rfl
theorem tf_call_41 : callB Try.prog 41 = true := by kernel_rfl
theorem tf_call_42 : callB Try.prog 42 = true := by kernel_rfl
theorem tf_call_43 : callB Try.prog 43 = true := by kernel_rfl
theorem tf_call_44 : callB Try.prog 44 = true := by kernel_rfl
theorem tf_call_45 : callB Try.prog 45 = true := by kernel_rfl
theorem tf_call_46 : callB Try.prog 46 = true := by kernel_rfl
theorem tf_call_47 : callB Try.prog 47 = true := by kernel_rfl
theorem tf_call_5 : callB Try.prog 5 = true := by kernel_rfl
theorem tf_call_6 : callB Try.prog 6 = true := by kernel_rfl
theorem tf_call_60 : callB Try.prog 60 = true := by kernel_rfl
theorem tf_call_61 : callB Try.prog 61 = true := by kernel_rfl
theorem tf_call_7 : callB Try.prog 7 = true := by kernel_rfl
theorem tf_call_8 : callB Try.prog 8 = true := by kernel_rfl
theorem tf_call_84 : callB Try.prog 84 = true := by kernel_rfl
theorem tf_elem_52 : elemB Try.prog 52 1 24 = true := by kernel_rfl
theorem tf_elem_56 : elemB Try.prog 56 2 16 = true := by kernel_rfl
theorem tf_elem_74 : elemB Try.prog 74 1 24 = true := by kernel_rfl
theorem tf_eqg_56 : Try.prog.eqGuardType Try.prog.depth 56 = false := by kernel_rfl
theorem tf_int_137 : intB Try.prog 137 .u64 = true := by kernel_rfl
theorem tf_map_51 : mapB Try.prog 51 56 3 = true := by kernel_rfl
theorem tf_scalar_52 : scalarB Try.prog 52 = true := by kernel_rfl
theorem tf_scalar_74 : scalarB Try.prog 74 = true := by kernel_rfl
theorem tf_size_48 : sizeB Try.prog 48 1 = true := by kernel_rfl
theorem tf_size_52 : sizeB Try.prog 52 1 = true := by kernel_rfl
theorem Q2 : sliceB Try.prog 44 52 1 = true := by kernel_rfl
theorem H5 : sliceB Try.prog 52 56 2 = true := by kernel_rfl
theorem tf_slice_76 : sliceB Try.prog 76 74 1 = true := by kernel_rfl
theorem tf_zero_3 : (Try.prog.info? 3).bind (fun i => i.zero.map Value.cells) = some (List.toArray [.int .i64 0]) := by kernel_rfl
theorem tf_zero_52 : (Try.prog.info? 52).bind (fun i => i.zero.map Value.cells) = some (List.toArray [.slice none 0 0]) := by kernel_rfl
theorem tf_zero_83 : (Try.prog.info? 83).bind (fun i => i.zero.map Value.cells) = some (List.toArray [.int .i64 0, .int .i64 0, .int .i64 0, .int .i64 0]) := by kernel_rfl
theorem tf_zsize_35 : zsizeB Try.prog 35 13 = true := by kernel_rfl
theorem tf_zsize_48 : zsizeB Try.prog 48 1 = true := by kernel_rfl
theorem tf_zsize_52 : zsizeB Try.prog 52 1 = true := by kernel_rfl
theorem tf_zsize_74 : zsizeB Try.prog 74 1 = true := by kernel_rfl
end XBF
open XAF
open XVF
open XBF

def M_plan_Boxes (boxes : List Box) (calls : Int) : Option Bool :=
 bif (((decide (calls < 1)) || (decide (20 < calls))) || (decide (2000 < (boxes.length : Int)))) then
 (some false)
 else
 (each (fun y28 i28 (s28 : Int) nx28 =>
   bif ((((((decide (y28.ID ≤ s28)) || (decide (999999 < y28.ID))) || ((decide (y28.Size ≠ 40)) && ((decide (y28.Size ≠ 20)) || y28.High))) || (decide (y28.Load < 0))) || (decide (y28.Discharge ≤ y28.Load))) || (decide (calls ≤ y28.Discharge))) then
   (some false)
   else
   (nx28 y28.ID))
  (fun (s28 : Int) =>
   some true) boxes 0 0)
theorem M_plan_Boxes_w (boxes : List Box) (calls : Int) (r : Bool) (h : M_plan_Boxes boxes calls = some r) : Pure Try.prog 33 [LS 9 Box.av boxes, G2 calls] (· = BL r) := by
 unfold M_plan_Boxes at h
 refine H0 [.tmp 4] Try.func33 rfl rfl ?_
 refine G6 fun K1 hK1 => G3 ?_
 refine G1 (u := BL false) (Ga rfl rfl) ?_
 refine G9 (hK1 _ _ ?_)
 refine G6 (fun K2 hK2 => ?_)
 refine G6 fun K3 hK3 => G3 ?_
 refine G1 (u := G2 calls) (G5 rfl rfl) ?_
 refine G1 (u := BL (decide (calls < 1))) (Hg rfl rfl rfl) ?_
 refine G1 (u := BL (decide (calls < 1))) (G5 rfl rfl) ?_
 refine Gj (u := G2 calls) [] rfl rfl rfl .scf trivial (fun hc => G5 rfl rfl) ?_
 refine Gj (u := BL (decide (20 < calls))) [(11, G2 calls)] rfl rfl rfl .scf ⟨.all id, trivial⟩ (fun hc => Jy rfl rfl rfl) ?_
 refine G1 (u := BL ((decide (calls < 1)) || (decide (20 < calls)))) (A_or rfl rfl rfl rfl) ?_
 refine G1 (u := BL ((decide (calls < 1)) || (decide (20 < calls)))) (G5 rfl rfl) ?_
 refine Gj (u := LS 9 Box.av boxes) [] rfl rfl rfl .scf trivial (fun hc => G5 rfl rfl) ?_
 refine Gj (u := G2 (boxes.length : Int)) [(15, LS 9 Box.av boxes)] rfl rfl rfl .scf ⟨.all id, trivial⟩ (fun hc => Jz (f := Box.av) (xs := boxes) Hp rfl rfl) ?_
 refine Gj (u := BL (decide (2000 < (boxes.length : Int)))) [(16, G2 (boxes.length : Int))] rfl rfl rfl .scf ⟨.all id, trivial⟩ (fun hc => Jy rfl rfl rfl) ?_
 refine G1 (u := BL (((decide (calls < 1)) || (decide (20 < calls))) || (decide (2000 < (boxes.length : Int))))) (A_or rfl rfl rfl rfl) ?_
 refine G9 (hK3 _ _ ?_)
 refine Gm rfl (fun hb => ?_) (fun hb => ?_)
 ·
  replace h := bif_t hb h
  refine G6 fun K4 hK4 => G3 ?_
  refine G1 (u := BL false) (Ga rfl rfl) ?_
  refine G9 (hK4 _ _ ?_)
  refine Gt ?_
  exact ⟨[BL false], [], trivial, rfl, ⟨⟨_, rfl, .conv (.same rfl)⟩, trivial⟩, rfl, congrArg (fun r : Bool => (BL r : AV)) (Option.some.inj h)⟩
 ·
  replace h := bif_f hb h
  refine Gp ?_
  refine hK2 _ _ ?_
  refine G6 fun K5 hK5 => G3 ?_
  refine G1 (u := G2 0) (Ga rfl rfl) ?_
  refine G9 (hK5 _ _ ?_)
  refine G6 (fun K6 hK6 => ?_)
  refine G6 fun K7 hK7 => G3 ?_
  refine G1 (u := LS 9 Box.av boxes) (G5 rfl rfl) ?_
  refine H9 (f := Box.av) (xs := boxes) Hp rfl rfl (fun hm20 => ?_) rfl rfl rfl
  refine G1 (u := G2 0) (G5 rfl rfl) ?_
  refine G9 (hK7 _ _ ?_)
  refine Gk ?_
  obtain ⟨b28, kx28, hb28, hkx28, h⟩ := Hj h
  refine H2 (fun i28 (s28 : Int) => each b28 kx28 (List.drop i28 boxes) i28 s28 = some r) (fun i28 s28 => [(1, G2 calls), (5, G2 s28), (19, LS 9 Box.av boxes), (20, G2 (boxes.length : Int)), (21, G2 (i28 : Int))]) (fun i28 s28 => []) (fun i28 => boxes.length - i28) 0 0 h ⟨(by repeat' constructor), trivial, rfl⟩ ?_
  clear h
  intro i28 s28 hi28 K28 e28
  refine G6 fun K29 hK29 => G3 ?_
  refine G1 (u := BL (decide ((i28 : Int) < (boxes.length : Int)))) (Hg rfl rfl rfl) ?_
  refine G9 (hK29 _ _ ?_)
  refine G6 (fun K30 hK30 => ?_)
  refine Gm rfl (fun hb => ?_) (fun hb => ?_)
  ·
   have hk28 := lt_len hb
   obtain ⟨y28, nx28, hy28, hn28, h⟩ := Hc hi28 hk28
   replace h := app4 hb28 h
   refine Gp ?_
   refine hK30 _ _ ?_
   refine G6 (fun K31 hK31 => ?_)
   refine Gk ?_
   refine G6 fun K32 hK32 => G3 ?_
   refine G1 (u := .dptr (Box.cs y28)) (Gw (f := Box.av) (xs := boxes) (y := y28) rfl rfl rfl Hp hy28 rfl) ?_
   refine G1 (u := .agg (Box.cs y28)) (Gf Jw rfl rfl rfl) ?_
   refine G1 (u := .ptr 1101 0) (H8 1101 9 Jd rfl rfl) ?_
   refine H6 (u := .junk) (Gz (u := .agg (Box.cs y28)) (ds := (Box.cs y28)) Jx rfl rfl rfl rfl rfl rfl rfl rfl) ?_
   refine G9 (hK32 _ _ ?_)
   refine Gq [(1, G2 calls), (5, G2 s28), (7, .dptr (Box.cs y28)), (19, LS 9 Box.av boxes), (20, G2 (boxes.length : Int)), (21, G2 (i28 : Int))] [] 1101 rfl rfl rfl trivial rfl (by repeat' (first | exact .ptr | constructor)) ?_
   refine G6 (fun K33 hK33 => ?_)
   refine G6 fun K34 hK34 => G3 ?_
   refine G1 (u := .dptr (Box.cs y28)) (Gd Hu rfl rfl rfl) ?_
   refine G1 (u := G2 y28.ID) (Gn Gc rfl rfl rfl) ?_
   refine G1 (u := G2 s28) (G5 rfl rfl) ?_
   refine G1 (u := BL (decide (y28.ID ≤ s28))) (A_leq rfl rfl rfl) ?_
   refine G1 (u := BL (decide (y28.ID ≤ s28))) (G5 rfl rfl) ?_
   refine Gj (u := .dptr (Box.cs y28)) [] rfl rfl rfl .scf trivial (fun hc => Gd Hu rfl rfl rfl) ?_
   refine Gj (u := G2 y28.ID) [(30, .dptr (Box.cs y28))] rfl rfl rfl .scf ⟨.all id, trivial⟩ (fun hc => Gn Gc rfl rfl rfl) ?_
   refine Gj (u := BL (decide (999999 < y28.ID))) [(31, G2 y28.ID)] rfl rfl rfl .scf ⟨.all id, trivial⟩ (fun hc => Jy rfl rfl rfl) ?_
   refine G1 (u := BL ((decide (y28.ID ≤ s28)) || (decide (999999 < y28.ID)))) (A_or rfl rfl rfl rfl) ?_
   refine G1 (u := BL ((decide (y28.ID ≤ s28)) || (decide (999999 < y28.ID)))) (G5 rfl rfl) ?_
   refine Gj (u := .dptr ((Box.cs y28).drop 2)) [] rfl rfl rfl .scf trivial (fun hc => Gd tf_field_70_2 rfl rfl rfl) ?_
   refine Gj (u := U8 y28.Size) [(35, .dptr ((Box.cs y28).drop 2))] rfl rfl rfl .scf ⟨.all id, trivial⟩ (fun hc => Gn Hk rfl rfl rfl) ?_
   refine Gj (u := BL (decide (y28.Size ≠ 40))) [(36, U8 y28.Size)] rfl rfl rfl .scf ⟨.all id, trivial⟩ (fun hc => A_neq rfl rfl rfl) ?_
   refine Gj (u := BL (decide (y28.Size ≠ 40))) [(37, BL (decide (y28.Size ≠ 40)))] rfl rfl rfl .scf ⟨.all id, trivial⟩ (fun hc => G5 rfl rfl) ?_
   refine Gj (u := .dptr ((Box.cs y28).drop 2)) [] rfl rfl rfl .optt trivial (fun hc => Gd tf_field_70_2 rfl rfl rfl) ?_
   refine Gj (u := U8 y28.Size) [(39, .dptr ((Box.cs y28).drop 2))] rfl rfl rfl .optt ⟨.all id, trivial⟩ (fun hc => Gn Hk rfl rfl rfl) ?_
   refine Gj (u := BL (decide (y28.Size ≠ 20))) [(40, U8 y28.Size)] rfl rfl rfl .optt ⟨.all id, trivial⟩ (fun hc => A_neq rfl rfl rfl) ?_
   refine Gj (u := BL (decide (y28.Size ≠ 20))) [(41, BL (decide (y28.Size ≠ 20)))] rfl rfl rfl .optt ⟨.all id, trivial⟩ (fun hc => G5 rfl rfl) ?_
   refine Gj (u := .dptr ((Box.cs y28).drop 3)) [] rfl rfl rfl .optf trivial (fun hc => Gd tf_field_70_3 rfl rfl rfl) ?_
   refine Gj (u := BL y28.High) [(43, .dptr ((Box.cs y28).drop 3))] rfl rfl rfl .optf ⟨.all id, trivial⟩ (fun hc => Gn Jk rfl rfl rfl) ?_
   refine Gj (u := BL ((decide (y28.Size ≠ 20)) || y28.High)) [(42, BL (decide (y28.Size ≠ 20))), (44, _)] rfl rfl rfl .optt ⟨.all id, .part, trivial⟩ (fun hc => A_or rfl rfl rfl rfl) ?_
   refine Gj (u := BL ((decide (y28.Size ≠ 40)) && ((decide (y28.Size ≠ 20)) || y28.High))) [(38, BL (decide (y28.Size ≠ 40))), (45, _)] rfl rfl rfl .scf ⟨.all id, .part, trivial⟩ (fun hc => Jc rfl rfl rfl rfl) ?_
   refine G1 (u := BL (((decide (y28.ID ≤ s28)) || (decide (999999 < y28.ID))) || ((decide (y28.Size ≠ 40)) && ((decide (y28.Size ≠ 20)) || y28.High)))) (A_or rfl rfl rfl rfl) ?_
   refine G1 (u := BL (((decide (y28.ID ≤ s28)) || (decide (999999 < y28.ID))) || ((decide (y28.Size ≠ 40)) && ((decide (y28.Size ≠ 20)) || y28.High)))) (G5 rfl rfl) ?_
   refine Gj (u := .dptr ((Box.cs y28).drop 5)) [] rfl rfl rfl .scf trivial (fun hc => Gd Jv rfl rfl rfl) ?_
   refine Gj (u := G2 y28.Load) [(49, .dptr ((Box.cs y28).drop 5))] rfl rfl rfl .scf ⟨.all id, trivial⟩ (fun hc => Gn Gc rfl rfl rfl) ?_
   refine Gj (u := BL (decide (y28.Load < 0))) [(50, G2 y28.Load)] rfl rfl rfl .scf ⟨.all id, trivial⟩ (fun hc => Hg rfl rfl rfl) ?_
   refine G1 (u := BL ((((decide (y28.ID ≤ s28)) || (decide (999999 < y28.ID))) || ((decide (y28.Size ≠ 40)) && ((decide (y28.Size ≠ 20)) || y28.High))) || (decide (y28.Load < 0)))) (A_or rfl rfl rfl rfl) ?_
   refine G1 (u := BL ((((decide (y28.ID ≤ s28)) || (decide (999999 < y28.ID))) || ((decide (y28.Size ≠ 40)) && ((decide (y28.Size ≠ 20)) || y28.High))) || (decide (y28.Load < 0)))) (G5 rfl rfl) ?_
   refine Gj (u := .dptr ((Box.cs y28).drop 5)) [] rfl rfl rfl .scf trivial (fun hc => Gd Jv rfl rfl rfl) ?_
   refine Gj (u := G2 y28.Load) [(54, .dptr ((Box.cs y28).drop 5))] rfl rfl rfl .scf ⟨.all id, trivial⟩ (fun hc => Gn Gc rfl rfl rfl) ?_
   refine Gj (u := .dptr ((Box.cs y28).drop 6)) [] rfl rfl rfl .scf trivial (fun hc => Gd tf_field_70_6 rfl rfl rfl) ?_
   refine Gj (u := G2 y28.Discharge) [(56, .dptr ((Box.cs y28).drop 6))] rfl rfl rfl .scf ⟨.all id, trivial⟩ (fun hc => Gn Gc rfl rfl rfl) ?_
   refine Gj (u := BL (decide (y28.Discharge ≤ y28.Load))) [(55, G2 y28.Load), (57, G2 y28.Discharge)] rfl rfl rfl .scf ⟨.all id, .all id, trivial⟩ (fun hc => A_geq rfl rfl rfl) ?_
   refine G1 (u := BL (((((decide (y28.ID ≤ s28)) || (decide (999999 < y28.ID))) || ((decide (y28.Size ≠ 40)) && ((decide (y28.Size ≠ 20)) || y28.High))) || (decide (y28.Load < 0))) || (decide (y28.Discharge ≤ y28.Load)))) (A_or rfl rfl rfl rfl) ?_
   refine G1 (u := BL (((((decide (y28.ID ≤ s28)) || (decide (999999 < y28.ID))) || ((decide (y28.Size ≠ 40)) && ((decide (y28.Size ≠ 20)) || y28.High))) || (decide (y28.Load < 0))) || (decide (y28.Discharge ≤ y28.Load)))) (G5 rfl rfl) ?_
   refine Gj (u := .dptr ((Box.cs y28).drop 6)) [] rfl rfl rfl .scf trivial (fun hc => Gd tf_field_70_6 rfl rfl rfl) ?_
   refine Gj (u := G2 y28.Discharge) [(61, .dptr ((Box.cs y28).drop 6))] rfl rfl rfl .scf ⟨.all id, trivial⟩ (fun hc => Gn Gc rfl rfl rfl) ?_
   refine Gj (u := G2 calls) [] rfl rfl rfl .scf trivial (fun hc => G5 rfl rfl) ?_
   refine Gj (u := BL (decide (calls ≤ y28.Discharge))) [(62, G2 y28.Discharge), (63, G2 calls)] rfl rfl rfl .scf ⟨.all id, .all id, trivial⟩ (fun hc => A_geq rfl rfl rfl) ?_
   refine G1 (u := BL ((((((decide (y28.ID ≤ s28)) || (decide (999999 < y28.ID))) || ((decide (y28.Size ≠ 40)) && ((decide (y28.Size ≠ 20)) || y28.High))) || (decide (y28.Load < 0))) || (decide (y28.Discharge ≤ y28.Load))) || (decide (calls ≤ y28.Discharge)))) (A_or rfl rfl rfl rfl) ?_
   refine G9 (hK34 _ _ ?_)
   refine Gm rfl (fun hb => ?_) (fun hb => ?_)
   ·
    replace h := bif_t hb h
    refine G6 fun K35 hK35 => G3 ?_
    refine G1 (u := BL false) (Ga rfl rfl) ?_
    refine G9 (hK35 _ _ ?_)
    refine Gt ?_
    exact ⟨[BL false], [], trivial, rfl, ⟨⟨_, rfl, .conv (.same rfl)⟩, trivial⟩, rfl, congrArg (fun r : Bool => (BL r : AV)) (Option.some.inj h)⟩
   ·
    replace h := bif_f hb h
    refine Gp ?_
    refine hK33 _ _ ?_
    refine G3 ?_
    refine G1 (u := .dptr (Box.cs y28)) (Gd Hu rfl rfl rfl) ?_
    refine G1 (u := G2 y28.ID) (Gn Gc rfl rfl rfl) ?_
    refine G1 (u := G2 y28.ID) (Ga rfl rfl) ?_
    refine G9 (hK31 _ _ ?_)
    refine G3 ?_
    refine G1 (u := G2 ((i28 + 1 : Nat) : Int)) (H7 (idx_succ hk28 hm20) rfl rfl rfl) ?_
    refine G1 (u := G2 ((i28 + 1 : Nat) : Int)) (G5 rfl rfl) ?_
    refine G9 ?_
    exact e28 _ _ (i28 + 1) y28.ID (app1 hn28 h) (by omega) ⟨(by repeat' constructor), trivial, rfl⟩
  ·
   have h := app1 hkx28 (Hd hi28 (H3 hb))
   refine H4 ?_
   refine hK6 _ _ ?_
   refine G6 fun K36 hK36 => G3 ?_
   refine G1 (u := BL true) (Ga rfl rfl) ?_
   refine G9 (hK36 _ _ ?_)
   refine Gt ?_
   exact ⟨[BL true], [], trivial, rfl, ⟨⟨_, rfl, .conv (.same rfl)⟩, trivial⟩, rfl, congrArg (fun r : Bool => (BL r : AV)) (Option.some.inj h)⟩

def M_bound_right (s : Ship) (boxes : List Box) : Option Bool :=
 bnd (S_ship_Right s) fun r3 =>
 bnd (bif r3 then M_plan_Boxes boxes 20 else some default) fun r4 =>
 some (r3 && r4)
theorem M_bound_right_w (s : Ship) (boxes : List Box) (r : Bool) (h : M_bound_right s boxes = some r) : Pure Try.prog 12 [.agg (Ship.cs s), LS 9 Box.av boxes] (· = BL r) := by
 unfold M_bound_right at h
 refine H0 [.tmp 4] Try.func12 rfl rfl ?_
 refine G6 fun K1 hK1 => G3 ?_
 refine G1 (u := .ptr 1047 0) (J2 (u := .agg (Ship.cs s)) (cs := (Ship.cs s)) 1047 rfl rfl rfl rfl rfl) ?_
 refine G1 (u := BL false) (Ga rfl rfl) ?_
 refine G9 (hK1 _ _ ?_)
 refine Gq [(1, LS 9 Box.av boxes), (2, .dptr (Ship.cs s))] [] 1047 rfl rfl rfl trivial rfl (by exact ⟨.conv (.same rfl), .ptr, trivial⟩) ?_
 refine G6 fun K2 hK2 => G3 ?_
 refine G1 (u := .agg (Ship.cs s)) (Gf Hh rfl rfl rfl) ?_
 obtain ⟨r3, hr3, h⟩ := Gg h
 refine G1 (u := BL r3) (Gu (args := [.agg (Ship.cs s)]) rfl (S_ship_Right_w.down s r3 hr3) tf_call_32 ⟨rfl, rfl, trivial⟩) ?_
 refine G1 (u := BL r3) (G5 rfl rfl) ?_
 refine Gj (u := LS 9 Box.av boxes) [] rfl rfl rfl .sct trivial (fun hc => G5 rfl rfl) ?_
 obtain ⟨r4, hr4, h⟩ := Gg h
 refine Gj (u := BL r4) [(8, LS 9 Box.av boxes)] rfl rfl rfl .sct ⟨.all id, trivial⟩ (fun hc => Gu (args := [LS 9 Box.av boxes, G2 20]) rfl (M_plan_Boxes_w boxes 20 r4 (bif_t hc hr4)) tf_call_33 ⟨rfl, rfl, rfl, rfl, trivial⟩) ?_
 refine G1 (u := BL (r3 && r4)) (Jc rfl rfl rfl rfl) ?_
 refine G1 (u := BL (r3 && r4)) (Ga rfl rfl) ?_
 refine G9 (hK2 _ _ ?_)
 refine Gt ?_
 exact ⟨[BL (r3 && r4)], [], trivial, rfl, ⟨⟨_, rfl, .conv (.same rfl)⟩, trivial⟩, rfl, congrArg (fun r : Bool => (BL r : AV)) (Option.some.inj h)⟩

def M_bound_places (c : G0) : Option Int :=
 chk (2 * c.Whole) fun v3 =>
 chk (v3 + c.Half) fun v4 =>
 some v4
theorem M_bound_places_w (c : G0) (r : Int) (h : M_bound_places c = some r) : Pure Try.prog 37 [.agg (G0.cs c)] (· = G2 r) := by
 unfold M_bound_places at h
 refine H0 [.tmp 2] Try.func37 rfl rfl ?_
 refine G6 fun K1 hK1 => G3 ?_
 refine G1 (u := .ptr 1106 0) (J2 (u := .agg (G0.cs c)) (cs := [G2 c.G7.Load, G2 c.G7.Discharge, G2 c.Whole, G2 c.Half]) 1106 rfl rfl rfl rfl rfl) ?_
 refine G1 (u := G2 0) (Ga rfl rfl) ?_
 refine G9 (hK1 _ _ ?_)
 refine Gq [(1, .dptr (G0.cs c))] [] 1106 rfl rfl rfl trivial rfl (by exact ⟨.ptr, trivial⟩) ?_
 refine G6 fun K2 hK2 => G3 ?_
 refine G1 (u := .dptr [G2 c.Whole, G2 c.Half]) (Gd Ju rfl rfl rfl) ?_
 refine G1 (u := G2 c.Whole) (Gn Gc rfl rfl rfl) ?_
 obtain ⟨v3, hv3, h⟩ := Gy h
 refine G1 (u := G2 v3) (A_mul hv3 rfl rfl rfl) ?_
 refine G1 (u := .dptr [G2 c.Half]) (Gd Jt rfl rfl rfl) ?_
 refine G1 (u := G2 c.Half) (Gn Gc rfl rfl rfl) ?_
 obtain ⟨v4, hv4, h⟩ := Gy h
 refine G1 (u := G2 v4) (H7 hv4 rfl rfl rfl) ?_
 refine G1 (u := G2 v4) (Ga rfl rfl) ?_
 refine G9 (hK2 _ _ ?_)
 refine Gt ?_
 exact ⟨[G2 v4], [], trivial, rfl, ⟨⟨_, rfl, .conv (.same rfl)⟩, trivial⟩, rfl, congrArg (fun r : Int => (G2 r : AV)) (Option.some.inj h)⟩

def M_bound_chain (F : Nat) (counts : List G0) (call : Int) : Option (List G0) :=
 each (fun y19 i19 (s19 : (List G0)) nx19 =>
  jp (fun kj22 =>
   bif ((decide (y19.G7.Load ≤ call)) && (decide (call < y19.G7.Discharge))) then
   (need (decide ((s19.length + [y19].length) * 32 ≤ 140737488355328 ∧ s19.length + [y19].length ≤ maxLen)) <|
    kj22 (s19 ++ [y19]))
   else
   (kj22 s19)) fun (j22 : (List G0)) =>
  nx19 j22)
 (fun (s19 : (List G0)) =>
  bnd (natOf (s19.length : Int)) fun m27 =>
  need (decide (8 * m27 ≤ 281474976710656 ∧ m27 ≤ maxLen ∧ m27 * 1 ≤ 16777216)) <|
  bnd (natOf (s19.length : Int)) fun m29 =>
  need (decide (8 * m29 ≤ 281474976710656 ∧ m29 ≤ maxLen ∧ m29 * 1 ≤ 16777216)) <|
  chk ((s19.length : Int) - 1) fun v34 =>
  loop (fun nx35 (s35 : Int × Int × (List Int) × (List Int)) =>
   bif decide (0 ≤ s35.2.1) then
   (jp (fun kj38 =>
     gidx s35.2.2.2 s35.2.1 fun y40 =>
     chk ((s19.length : Int) - 1) fun v43 =>
     loop (fun nx102 (s102 : Int × (List Int) × (List Int)) =>
      bif decide (s35.2.1 < s102.1) then
      (jp (fun kj105 =>
        gidx s19 s102.1 fun y107 =>
        gidx s19 s35.2.1 fun y109 =>
        bnd (bif decide (y109.G7.Load < y107.G7.Load) then gidx s19 s102.1 some else some default) fun y111 =>
        bnd (bif decide (y109.G7.Load < y107.G7.Load) then gidx s19 s35.2.1 some else some default) fun y112 =>
        bnd (bif ((decide (y109.G7.Load < y107.G7.Load)) && (decide (y112.G7.Discharge < y111.G7.Discharge))) then gidx s102.2.1 s102.1 some else some default) fun y113 =>
        bnd (bif ((decide (y109.G7.Load < y107.G7.Load)) && (decide (y112.G7.Discharge < y111.G7.Discharge))) then gidx s102.2.1 s35.2.1 some else some default) fun y114 =>
        bif (((decide (y109.G7.Load < y107.G7.Load)) && (decide (y112.G7.Discharge < y111.G7.Discharge))) && (decide (y114 ≤ y113))) then
        (gidx s102.2.1 s102.1 fun y115 =>
         gidx s102.2.1 s35.2.1 fun y116 =>
         gidx s102.2.2 s35.2.1 fun y117 =>
         kj105 ((s102.2.1.set s35.2.1.toNat y115), (s102.2.2.set s35.2.1.toNat s102.1)))
        else
        (kj105 (s102.2.1, s102.2.2))) fun (j105 : (List Int) × (List Int)) =>
       chk (s102.1 - 1) fun v118 =>
       nx102 (v118, j105.1, j105.2))
      else
      (gidx s102.2.1 s35.2.1 fun y120 =>
       gidx s19 s35.2.1 fun y121 =>
       bnd (M_bound_places y121) fun r123 =>
       chk (y120 + r123) fun v124 =>
       gidx s102.2.1 s35.2.1 fun y125 =>
       bnd (bif (!(decide (s35.1 < 0))) then gidx (s102.2.1.set s35.2.1.toNat v124) s35.2.1 some else some default) fun y127 =>
       bnd (bif (!(decide (s35.1 < 0))) then gidx (s102.2.1.set s35.2.1.toNat v124) s35.1 some else some default) fun y128 =>
       bif ((decide (s35.1 < 0)) || (decide (y128 ≤ y127))) then
       (kj38 (s35.2.1, (s102.2.1.set s35.2.1.toNat v124), s102.2.2))
       else
       (kj38 (s35.1, (s102.2.1.set s35.2.1.toNat v124), s102.2.2)))) F (v43, s35.2.2.1, (s35.2.2.2.set s35.2.1.toNat (-1)))) fun (j38 : Int × (List Int) × (List Int)) =>
    chk (s35.2.1 - 1) fun v129 =>
    nx35 (j38.1, v129, j38.2.1, j38.2.2))
   else
   (loop (fun nx144 (s144 : (List G0) × Int) =>
     bif decide (0 ≤ s144.2) then
     (gidx s19 s144.2 fun y148 =>
      need (decide ((s144.1.length + [y148].length) * 32 ≤ 140737488355328 ∧ s144.1.length + [y148].length ≤ maxLen)) <|
      gidx s35.2.2.2 s144.2 fun y151 =>
      nx144 ((s144.1 ++ [y148]), y151))
     else
     (some s144.1)) F ([], s35.1))) F ((-1), v34, (List.replicate m27 (0 : Int)), (List.replicate m29 (0 : Int)))) counts 0 []
def M_ship_Tallest (s : Ship) : Option Int :=
 each (fun y17 i17 (s17 : Int) nx17 =>
  jp (fun kj20 =>
   bif ((decide ((i17 : Int) = 0)) || (decide (s17 < y17.Tiers))) then
   (kj20 y17.Tiers)
   else
   (kj20 s17)) fun (j20 : Int) =>
  nx17 j20)
 (fun (s17 : Int) =>
  some s17) s.Columns 0 0
theorem M_ship_Tallest_w (s : Ship) (r : Int) (h : M_ship_Tallest s = some r) : Pure Try.prog 38 [.agg (Ship.cs s)] (· = G2 r) := by
 unfold M_ship_Tallest at h
 refine H0 [.tmp 2] Try.func38 rfl rfl ?_
 refine G6 fun K1 hK1 => G3 ?_
 refine G1 (u := .ptr 1107 0) (J2 (u := .agg (Ship.cs s)) (cs := (Ship.cs s)) 1107 rfl rfl rfl rfl rfl) ?_
 refine G1 (u := G2 0) (Ga rfl rfl) ?_
 refine G9 (hK1 _ _ ?_)
 refine Gq [(1, .dptr (Ship.cs s))] [] 1107 rfl rfl rfl trivial rfl (by exact ⟨.ptr, trivial⟩) ?_
 refine G6 fun K2 hK2 => G3 ?_
 refine G1 (u := G2 0) (Ga rfl rfl) ?_
 refine G9 (hK2 _ _ ?_)
 refine G6 (fun K3 hK3 => ?_)
 refine G6 fun K4 hK4 => G3 ?_
 refine G1 (u := .dptr (Ship.cs s)) (Gd Hb rfl rfl rfl) ?_
 refine G1 (u := LS 12 G8.av s.Columns) (Gn Hm rfl rfl rfl) ?_
 refine H9 (f := G8.av) (xs := s.Columns) Ha rfl rfl (fun hm8 => ?_) rfl rfl rfl
 refine G1 (u := G2 0) (G5 rfl rfl) ?_
 refine G9 (hK4 _ _ ?_)
 refine Gk ?_
 obtain ⟨b17, kx17, hb17, hkx17, h⟩ := Hj h
 refine H2 (fun i17 (s17 : Int) => each b17 kx17 (List.drop i17 s.Columns) i17 s17 = some r) (fun i17 s17 => [(3, G2 s17), (7, LS 12 G8.av s.Columns), (8, G2 (s.Columns.length : Int)), (9, G2 (i17 : Int))]) (fun i17 s17 => []) (fun i17 => s.Columns.length - i17) 0 0 h ⟨(by repeat' constructor), trivial, rfl⟩ ?_
 clear h
 intro i17 s17 hi17 K17 e17
 refine G6 fun K18 hK18 => G3 ?_
 refine G1 (u := BL (decide ((i17 : Int) < (s.Columns.length : Int)))) (Hg rfl rfl rfl) ?_
 refine G9 (hK18 _ _ ?_)
 refine G6 (fun K19 hK19 => ?_)
 refine Gm rfl (fun hb => ?_) (fun hb => ?_)
 ·
  have hk17 := lt_len hb
  obtain ⟨y17, nx17, hy17, hn17, h⟩ := Hc hi17 hk17
  replace h := app4 hb17 h
  refine Gp ?_
  refine hK19 _ _ ?_
  obtain ⟨kj20, hkj20, h⟩ := Jf h
  refine Ht (fun j20 : Int => kj20 j20 = some r) (fun j20 => [(3, G2 j20), (7, LS 12 G8.av s.Columns), (8, G2 (s.Columns.length : Int)), (9, G2 (i17 : Int))]) (fun j20 => []) (fun Kj20 ej20 => ?_) ?_
  ·
   refine Gk ?_
   refine G6 fun K21 hK21 => G3 ?_
   refine G1 (u := G2 (i17 : Int)) (G5 rfl rfl) ?_
   refine G1 (u := .dptr (G8.cs y17)) (Gw (f := G8.av) (xs := s.Columns) (y := y17) rfl rfl rfl Ha hy17 rfl) ?_
   refine G1 (u := .agg (G8.cs y17)) (Gf tf_agg_50 rfl rfl rfl) ?_
   refine G1 (u := .ptr 1108 0) (H8 1108 12 Q1 rfl rfl) ?_
   refine G1 (u := G2 (i17 : Int)) (Ga rfl rfl) ?_
   refine H6 (u := .junk) (Gz (u := .agg (G8.cs y17)) (ds := (G8.cs y17)) tf_size_50 rfl rfl rfl rfl rfl rfl rfl rfl) ?_
   refine G9 (hK21 _ _ ?_)
   refine Gq [(3, G2 s17), (4, G2 (i17 : Int)), (5, .dptr (G8.cs y17)), (7, LS 12 G8.av s.Columns), (8, G2 (s.Columns.length : Int)), (9, G2 (i17 : Int))] [] 1108 rfl rfl rfl trivial rfl (by repeat' (first | exact .ptr | constructor)) ?_
   refine G6 fun K22 hK22 => G3 ?_
   refine G1 (u := G2 (i17 : Int)) (G5 rfl rfl) ?_
   refine G1 (u := BL (decide ((i17 : Int) = 0))) (Jb rfl rfl rfl) ?_
   refine G1 (u := BL (decide ((i17 : Int) = 0))) (G5 rfl rfl) ?_
   refine Gj (u := .dptr ((G8.cs y17).drop 3)) [] rfl rfl rfl .scf trivial (fun hc => Gd tf_field_50_3 rfl rfl rfl) ?_
   refine Gj (u := G2 y17.Tiers) [(17, .dptr ((G8.cs y17).drop 3))] rfl rfl rfl .scf ⟨.all id, trivial⟩ (fun hc => Gn Gc rfl rfl rfl) ?_
   refine Gj (u := G2 s17) [] rfl rfl rfl .scf trivial (fun hc => G5 rfl rfl) ?_
   refine Gj (u := BL (decide (s17 < y17.Tiers))) [(18, G2 y17.Tiers), (19, G2 s17)] rfl rfl rfl .scf ⟨.all id, .all id, trivial⟩ (fun hc => Jy rfl rfl rfl) ?_
   refine G1 (u := BL ((decide ((i17 : Int) = 0)) || (decide (s17 < y17.Tiers)))) (A_or rfl rfl rfl rfl) ?_
   refine G9 (hK22 _ _ ?_)
   refine Gm rfl (fun hb => ?_) (fun hb => ?_)
   ·
    replace h := bif_t hb h
    refine G3 ?_
    refine G1 (u := .dptr ((G8.cs y17).drop 3)) (Gd tf_field_50_3 rfl rfl rfl) ?_
    refine G1 (u := G2 y17.Tiers) (Gn Gc rfl rfl rfl) ?_
    refine G1 (u := G2 y17.Tiers) (Ga rfl rfl) ?_
    refine G9 ?_
    exact ej20 _ _ y17.Tiers h ⟨(by repeat' constructor), trivial, rfl⟩
   ·
    replace h := bif_f hb h
    refine Gp ?_
    exact ej20 _ _ s17 h ⟨(by repeat' constructor), trivial, rfl⟩
  ·intro j20 h
   replace h := app1 hkj20 h
   refine G3 ?_
   refine G1 (u := G2 ((i17 + 1 : Nat) : Int)) (H7 (idx_succ hk17 hm8) rfl rfl rfl) ?_
   refine G1 (u := G2 ((i17 + 1 : Nat) : Int)) (G5 rfl rfl) ?_
   refine G9 ?_
   exact e17 _ _ (i17 + 1) j20 (app1 hn17 h) (by omega) ⟨(by repeat' constructor), trivial, rfl⟩
 ·
  have h := app1 hkx17 (Hd hi17 (H3 hb))
  refine H4 ?_
  refine hK3 _ _ ?_
  refine G6 fun K23 hK23 => G3 ?_
  refine G1 (u := G2 s17) (G5 rfl rfl) ?_
  refine G1 (u := G2 s17) (Ga rfl rfl) ?_
  refine G9 (hK23 _ _ ?_)
  refine Gt ?_
  exact ⟨[G2 s17], [], trivial, rfl, ⟨⟨_, rfl, .conv (.same rfl)⟩, trivial⟩, rfl, congrArg (fun r : Int => (G2 r : AV)) (Option.some.inj h)⟩

def M_math_bits_Mul64 (x : Int) (y : Int) : Option (Int × Int) :=
 some (IntKind.u64.wrap ((IntKind.u64.wrap ((IntKind.u64.wrap ((shrN .u64 x 32) * (shrN .u64 y 32))) + (shrN .u64 (IntKind.u64.wrap ((IntKind.u64.wrap ((shrN .u64 x 32) * (band .u64 y 4294967295))) + (shrN .u64 (IntKind.u64.wrap ((band .u64 x 4294967295) * (band .u64 y 4294967295))) 32))) 32))) + (shrN .u64 (IntKind.u64.wrap ((band .u64 (IntKind.u64.wrap ((IntKind.u64.wrap ((shrN .u64 x 32) * (band .u64 y 4294967295))) + (shrN .u64 (IntKind.u64.wrap ((band .u64 x 4294967295) * (band .u64 y 4294967295))) 32))) 4294967295) + (IntKind.u64.wrap ((band .u64 x 4294967295) * (shrN .u64 y 32))))) 32)), IntKind.u64.wrap (x * y))
theorem M_math_bits_Mul64_w (x : Int) (y : Int) (r : Int × Int) (h : M_math_bits_Mul64 x y = some r) : Pure Try.prog 84 [.sc (.int .u64 x), .sc (.int .u64 y)] (· = .tup [.sc (.int .u64 r.1), .sc (.int .u64 r.2)]) := by
 unfold M_math_bits_Mul64 at h
 refine H0 [.tmp 4, .tmp 5] Try.func84 rfl rfl ?_
 refine G6 fun K1 hK1 => G3 ?_
 refine G1 (u := .sc (.int .u64 0)) (Ga rfl rfl) ?_
 refine G1 (u := .sc (.int .u64 0)) (Ga rfl rfl) ?_
 refine G9 (hK1 _ _ ?_)
 refine G6 fun K2 hK2 => G3 ?_
 refine G1 (u := .sc (.int .u64 x)) (G5 rfl rfl) ?_
 refine G1 (u := .sc (.int .u64 (band .u64 x 4294967295))) (A_band rfl rfl rfl) ?_
 refine G1 (u := .sc (.int .u64 (band .u64 x 4294967295))) (Ga rfl rfl) ?_
 refine G9 (hK2 _ _ ?_)
 refine G6 fun K3 hK3 => G3 ?_
 refine G1 (u := .sc (.int .u64 x)) (G5 rfl rfl) ?_
 refine G1 (u := .sc (.int .u64 (shrN .u64 x 32))) (A_shrM (s := 32) rfl rfl rfl rfl) ?_
 refine G1 (u := .sc (.int .u64 (shrN .u64 x 32))) (Ga rfl rfl) ?_
 refine G9 (hK3 _ _ ?_)
 refine G6 fun K4 hK4 => G3 ?_
 refine G1 (u := .sc (.int .u64 y)) (G5 rfl rfl) ?_
 refine G1 (u := .sc (.int .u64 (band .u64 y 4294967295))) (A_band rfl rfl rfl) ?_
 refine G1 (u := .sc (.int .u64 (band .u64 y 4294967295))) (Ga rfl rfl) ?_
 refine G9 (hK4 _ _ ?_)
 refine G6 fun K5 hK5 => G3 ?_
 refine G1 (u := .sc (.int .u64 y)) (G5 rfl rfl) ?_
 refine G1 (u := .sc (.int .u64 (shrN .u64 y 32))) (A_shrM (s := 32) rfl rfl rfl rfl) ?_
 refine G1 (u := .sc (.int .u64 (shrN .u64 y 32))) (Ga rfl rfl) ?_
 refine G9 (hK5 _ _ ?_)
 refine G6 fun K6 hK6 => G3 ?_
 refine G1 (u := .sc (.int .u64 (band .u64 x 4294967295))) (G5 rfl rfl) ?_
 refine G1 (u := .sc (.int .u64 (band .u64 y 4294967295))) (G5 rfl rfl) ?_
 refine G1 (u := .sc (.int .u64 (IntKind.u64.wrap ((band .u64 x 4294967295) * (band .u64 y 4294967295))))) (A_mul rfl rfl rfl rfl) ?_
 refine G1 (u := .sc (.int .u64 (IntKind.u64.wrap ((band .u64 x 4294967295) * (band .u64 y 4294967295))))) (Ga rfl rfl) ?_
 refine G9 (hK6 _ _ ?_)
 refine G6 fun K7 hK7 => G3 ?_
 refine G1 (u := .sc (.int .u64 (shrN .u64 x 32))) (G5 rfl rfl) ?_
 refine G1 (u := .sc (.int .u64 (band .u64 y 4294967295))) (G5 rfl rfl) ?_
 refine G1 (u := .sc (.int .u64 (IntKind.u64.wrap ((shrN .u64 x 32) * (band .u64 y 4294967295))))) (A_mul rfl rfl rfl rfl) ?_
 refine G1 (u := .sc (.int .u64 (IntKind.u64.wrap ((band .u64 x 4294967295) * (band .u64 y 4294967295))))) (G5 rfl rfl) ?_
 refine G1 (u := .sc (.int .u64 (shrN .u64 (IntKind.u64.wrap ((band .u64 x 4294967295) * (band .u64 y 4294967295))) 32))) (A_shrM (s := 32) rfl rfl rfl rfl) ?_
 refine G1 (u := .sc (.int .u64 (IntKind.u64.wrap ((IntKind.u64.wrap ((shrN .u64 x 32) * (band .u64 y 4294967295))) + (shrN .u64 (IntKind.u64.wrap ((band .u64 x 4294967295) * (band .u64 y 4294967295))) 32))))) (H7 rfl rfl rfl rfl) ?_
 refine G1 (u := .sc (.int .u64 (IntKind.u64.wrap ((IntKind.u64.wrap ((shrN .u64 x 32) * (band .u64 y 4294967295))) + (shrN .u64 (IntKind.u64.wrap ((band .u64 x 4294967295) * (band .u64 y 4294967295))) 32))))) (Ga rfl rfl) ?_
 refine G9 (hK7 _ _ ?_)
 refine G6 fun K8 hK8 => G3 ?_
 refine G1 (u := .sc (.int .u64 (IntKind.u64.wrap ((IntKind.u64.wrap ((shrN .u64 x 32) * (band .u64 y 4294967295))) + (shrN .u64 (IntKind.u64.wrap ((band .u64 x 4294967295) * (band .u64 y 4294967295))) 32))))) (G5 rfl rfl) ?_
 refine G1 (u := .sc (.int .u64 (band .u64 (IntKind.u64.wrap ((IntKind.u64.wrap ((shrN .u64 x 32) * (band .u64 y 4294967295))) + (shrN .u64 (IntKind.u64.wrap ((band .u64 x 4294967295) * (band .u64 y 4294967295))) 32))) 4294967295))) (A_band rfl rfl rfl) ?_
 refine G1 (u := .sc (.int .u64 (band .u64 (IntKind.u64.wrap ((IntKind.u64.wrap ((shrN .u64 x 32) * (band .u64 y 4294967295))) + (shrN .u64 (IntKind.u64.wrap ((band .u64 x 4294967295) * (band .u64 y 4294967295))) 32))) 4294967295))) (Ga rfl rfl) ?_
 refine G9 (hK8 _ _ ?_)
 refine G6 fun K9 hK9 => G3 ?_
 refine G1 (u := .sc (.int .u64 (IntKind.u64.wrap ((IntKind.u64.wrap ((shrN .u64 x 32) * (band .u64 y 4294967295))) + (shrN .u64 (IntKind.u64.wrap ((band .u64 x 4294967295) * (band .u64 y 4294967295))) 32))))) (G5 rfl rfl) ?_
 refine G1 (u := .sc (.int .u64 (shrN .u64 (IntKind.u64.wrap ((IntKind.u64.wrap ((shrN .u64 x 32) * (band .u64 y 4294967295))) + (shrN .u64 (IntKind.u64.wrap ((band .u64 x 4294967295) * (band .u64 y 4294967295))) 32))) 32))) (A_shrM (s := 32) rfl rfl rfl rfl) ?_
 refine G1 (u := .sc (.int .u64 (shrN .u64 (IntKind.u64.wrap ((IntKind.u64.wrap ((shrN .u64 x 32) * (band .u64 y 4294967295))) + (shrN .u64 (IntKind.u64.wrap ((band .u64 x 4294967295) * (band .u64 y 4294967295))) 32))) 32))) (Ga rfl rfl) ?_
 refine G9 (hK9 _ _ ?_)
 refine G6 fun K10 hK10 => G3 ?_
 refine G1 (u := .sc (.int .u64 (band .u64 (IntKind.u64.wrap ((IntKind.u64.wrap ((shrN .u64 x 32) * (band .u64 y 4294967295))) + (shrN .u64 (IntKind.u64.wrap ((band .u64 x 4294967295) * (band .u64 y 4294967295))) 32))) 4294967295))) (G5 rfl rfl) ?_
 refine G1 (u := .sc (.int .u64 (band .u64 x 4294967295))) (G5 rfl rfl) ?_
 refine G1 (u := .sc (.int .u64 (shrN .u64 y 32))) (G5 rfl rfl) ?_
 refine G1 (u := .sc (.int .u64 (IntKind.u64.wrap ((band .u64 x 4294967295) * (shrN .u64 y 32))))) (A_mul rfl rfl rfl rfl) ?_
 refine G1 (u := .sc (.int .u64 (IntKind.u64.wrap ((band .u64 (IntKind.u64.wrap ((IntKind.u64.wrap ((shrN .u64 x 32) * (band .u64 y 4294967295))) + (shrN .u64 (IntKind.u64.wrap ((band .u64 x 4294967295) * (band .u64 y 4294967295))) 32))) 4294967295) + (IntKind.u64.wrap ((band .u64 x 4294967295) * (shrN .u64 y 32))))))) (H7 rfl rfl rfl rfl) ?_
 refine G1 (u := .sc (.int .u64 (IntKind.u64.wrap ((band .u64 (IntKind.u64.wrap ((IntKind.u64.wrap ((shrN .u64 x 32) * (band .u64 y 4294967295))) + (shrN .u64 (IntKind.u64.wrap ((band .u64 x 4294967295) * (band .u64 y 4294967295))) 32))) 4294967295) + (IntKind.u64.wrap ((band .u64 x 4294967295) * (shrN .u64 y 32))))))) (Ga rfl rfl) ?_
 refine G9 (hK10 _ _ ?_)
 refine G6 fun K11 hK11 => G3 ?_
 refine G1 (u := .sc (.int .u64 (shrN .u64 x 32))) (G5 rfl rfl) ?_
 refine G1 (u := .sc (.int .u64 (shrN .u64 y 32))) (G5 rfl rfl) ?_
 refine G1 (u := .sc (.int .u64 (IntKind.u64.wrap ((shrN .u64 x 32) * (shrN .u64 y 32))))) (A_mul rfl rfl rfl rfl) ?_
 refine G1 (u := .sc (.int .u64 (shrN .u64 (IntKind.u64.wrap ((IntKind.u64.wrap ((shrN .u64 x 32) * (band .u64 y 4294967295))) + (shrN .u64 (IntKind.u64.wrap ((band .u64 x 4294967295) * (band .u64 y 4294967295))) 32))) 32))) (G5 rfl rfl) ?_
 refine G1 (u := .sc (.int .u64 (IntKind.u64.wrap ((IntKind.u64.wrap ((shrN .u64 x 32) * (shrN .u64 y 32))) + (shrN .u64 (IntKind.u64.wrap ((IntKind.u64.wrap ((shrN .u64 x 32) * (band .u64 y 4294967295))) + (shrN .u64 (IntKind.u64.wrap ((band .u64 x 4294967295) * (band .u64 y 4294967295))) 32))) 32))))) (H7 rfl rfl rfl rfl) ?_
 refine G1 (u := .sc (.int .u64 (IntKind.u64.wrap ((band .u64 (IntKind.u64.wrap ((IntKind.u64.wrap ((shrN .u64 x 32) * (band .u64 y 4294967295))) + (shrN .u64 (IntKind.u64.wrap ((band .u64 x 4294967295) * (band .u64 y 4294967295))) 32))) 4294967295) + (IntKind.u64.wrap ((band .u64 x 4294967295) * (shrN .u64 y 32))))))) (G5 rfl rfl) ?_
 refine G1 (u := .sc (.int .u64 (shrN .u64 (IntKind.u64.wrap ((band .u64 (IntKind.u64.wrap ((IntKind.u64.wrap ((shrN .u64 x 32) * (band .u64 y 4294967295))) + (shrN .u64 (IntKind.u64.wrap ((band .u64 x 4294967295) * (band .u64 y 4294967295))) 32))) 4294967295) + (IntKind.u64.wrap ((band .u64 x 4294967295) * (shrN .u64 y 32))))) 32))) (A_shrM (s := 32) rfl rfl rfl rfl) ?_
 refine G1 (u := .sc (.int .u64 (IntKind.u64.wrap ((IntKind.u64.wrap ((IntKind.u64.wrap ((shrN .u64 x 32) * (shrN .u64 y 32))) + (shrN .u64 (IntKind.u64.wrap ((IntKind.u64.wrap ((shrN .u64 x 32) * (band .u64 y 4294967295))) + (shrN .u64 (IntKind.u64.wrap ((band .u64 x 4294967295) * (band .u64 y 4294967295))) 32))) 32))) + (shrN .u64 (IntKind.u64.wrap ((band .u64 (IntKind.u64.wrap ((IntKind.u64.wrap ((shrN .u64 x 32) * (band .u64 y 4294967295))) + (shrN .u64 (IntKind.u64.wrap ((band .u64 x 4294967295) * (band .u64 y 4294967295))) 32))) 4294967295) + (IntKind.u64.wrap ((band .u64 x 4294967295) * (shrN .u64 y 32))))) 32))))) (H7 rfl rfl rfl rfl) ?_
 refine G1 (u := .sc (.int .u64 (IntKind.u64.wrap ((IntKind.u64.wrap ((IntKind.u64.wrap ((shrN .u64 x 32) * (shrN .u64 y 32))) + (shrN .u64 (IntKind.u64.wrap ((IntKind.u64.wrap ((shrN .u64 x 32) * (band .u64 y 4294967295))) + (shrN .u64 (IntKind.u64.wrap ((band .u64 x 4294967295) * (band .u64 y 4294967295))) 32))) 32))) + (shrN .u64 (IntKind.u64.wrap ((band .u64 (IntKind.u64.wrap ((IntKind.u64.wrap ((shrN .u64 x 32) * (band .u64 y 4294967295))) + (shrN .u64 (IntKind.u64.wrap ((band .u64 x 4294967295) * (band .u64 y 4294967295))) 32))) 4294967295) + (IntKind.u64.wrap ((band .u64 x 4294967295) * (shrN .u64 y 32))))) 32))))) (Ga rfl rfl) ?_
 refine G9 (hK11 _ _ ?_)
 refine G6 fun K12 hK12 => G3 ?_
 refine G1 (u := .sc (.int .u64 x)) (G5 rfl rfl) ?_
 refine G1 (u := .sc (.int .u64 y)) (G5 rfl rfl) ?_
 refine G1 (u := .sc (.int .u64 (IntKind.u64.wrap (x * y)))) (A_mul rfl rfl rfl rfl) ?_
 refine G1 (u := .sc (.int .u64 (IntKind.u64.wrap (x * y)))) (Ga rfl rfl) ?_
 refine G9 (hK12 _ _ ?_)
 refine Gt ?_
 exact ⟨[.sc (.int .u64 (IntKind.u64.wrap ((IntKind.u64.wrap ((IntKind.u64.wrap ((shrN .u64 x 32) * (shrN .u64 y 32))) + (shrN .u64 (IntKind.u64.wrap ((IntKind.u64.wrap ((shrN .u64 x 32) * (band .u64 y 4294967295))) + (shrN .u64 (IntKind.u64.wrap ((band .u64 x 4294967295) * (band .u64 y 4294967295))) 32))) 32))) + (shrN .u64 (IntKind.u64.wrap ((band .u64 (IntKind.u64.wrap ((IntKind.u64.wrap ((shrN .u64 x 32) * (band .u64 y 4294967295))) + (shrN .u64 (IntKind.u64.wrap ((band .u64 x 4294967295) * (band .u64 y 4294967295))) 32))) 4294967295) + (IntKind.u64.wrap ((band .u64 x 4294967295) * (shrN .u64 y 32))))) 32)))), .sc (.int .u64 (IntKind.u64.wrap (x * y)))], [], trivial, rfl, ⟨⟨_, rfl, .conv (.same rfl)⟩, ⟨_, rfl, .conv (.same rfl)⟩, trivial⟩, rfl, congrArg (fun r : Int × Int => (.tup [.sc (.int .u64 r.1), .sc (.int .u64 r.2)] : AV)) (Option.some.inj h)⟩

def M_math_bits_Mul (x : Int) (y : Int) : Option (Int × Int) :=
 bnd (M_math_bits_Mul64 x y) fun r4 =>
 some (r4.1, r4.2)
theorem M_math_bits_Mul_w (x : Int) (y : Int) (r : Int × Int) (h : M_math_bits_Mul x y = some r) : Pure Try.prog 60 [.sc (.int .u64 x), .sc (.int .u64 y)] (· = .tup [.sc (.int .u64 r.1), .sc (.int .u64 r.2)]) := by
 unfold M_math_bits_Mul at h
 refine H0 [.tmp 4, .tmp 5] Try.func60 rfl rfl ?_
 refine G6 fun K1 hK1 => G3 ?_
 refine G1 (u := .sc (.int .u64 0)) (Ga rfl rfl) ?_
 refine G1 (u := .sc (.int .u64 0)) (Ga rfl rfl) ?_
 refine G9 (hK1 _ _ ?_)
 refine G6 (fun K2 hK2 => ?_)
 refine JC_condF rfl ?_
 refine Gp ?_
 refine hK2 _ _ ?_
 refine G6 fun K3 hK3 => G3 ?_
 refine G1 (u := .sc (.int .u64 x)) (G5 rfl rfl) ?_
 refine G1 (u := .sc (.int .u64 y)) (G5 rfl rfl) ?_
 obtain ⟨r4, hr4, h⟩ := Gg h
 refine G1 (u := .tup [.sc (.int .u64 r4.1), .sc (.int .u64 r4.2)]) (Gu (args := [.sc (.int .u64 x), .sc (.int .u64 y)]) rfl (M_math_bits_Mul64_w x y r4 hr4) tf_call_84 ⟨rfl, rfl, rfl, rfl, trivial⟩) ?_
 refine G1 (u := .tup [.sc (.int .u64 r4.1), .sc (.int .u64 r4.2)]) (G5 rfl rfl) ?_
 refine G1 (u := .sc (.int .u64 r4.1)) (Gx rfl rfl rfl) ?_
 refine G1 (u := .sc (.int .u64 r4.2)) (Gx rfl rfl rfl) ?_
 refine G1 (u := .sc (.int .u64 r4.1)) (Ga rfl rfl) ?_
 refine G1 (u := .sc (.int .u64 r4.2)) (Ga rfl rfl) ?_
 refine G9 (hK3 _ _ ?_)
 refine G6 fun K5 hK5 => G3 ?_
 refine G1 (u := .sc (.int .u64 r4.1)) (G5 rfl rfl) ?_
 refine G1 (u := .sc (.int .u64 r4.2)) (G5 rfl rfl) ?_
 refine G1 (u := .sc (.int .u64 r4.1)) (Ga rfl rfl) ?_
 refine G1 (u := .sc (.int .u64 r4.2)) (Ga rfl rfl) ?_
 refine G9 (hK5 _ _ ?_)
 refine Gt ?_
 exact ⟨[.sc (.int .u64 r4.1), .sc (.int .u64 r4.2)], [], trivial, rfl, ⟨⟨_, rfl, .conv (.same rfl)⟩, ⟨_, rfl, .conv (.same rfl)⟩, trivial⟩, rfl, congrArg (fun r : Int × Int => (.tup [.sc (.int .u64 r.1), .sc (.int .u64 r.2)] : AV)) (Option.some.inj h)⟩

def M_slices_Repeat_int (F : Nat) (x : List Int) (count : Int) : Option (List Int) :=
 bif decide (count < 0) then
 (none)
 else
 (bnd (M_math_bits_Mul (IntKind.u64.wrap (x.length : Int)) (IntKind.u64.wrap count)) fun r5 =>
  bif ((decide (0 < r5.1)) || (decide (9223372036854775807 < r5.2))) then
  (none)
  else
  (chk (r5.2) fun v9 =>
   bnd (natOf v9) fun m10 =>
   need (decide (8 * m10 ≤ 281474976710656 ∧ m10 ≤ maxLen ∧ m10 * 1 ≤ 16777216)) <|
   loop (fun nx26 (s26 : Int × (List Int)) =>
    bif decide (s26.1 < (s26.2.length : Int)) then
    (bnd (natIn s26.1 s26.2.length) fun m29 =>
     bnd (natIn s26.1 s26.2.length) fun m30 =>
     chk (s26.1 + ((min ((s26.2.drop 0).take m30).length (s26.2.length - m29) : Nat) : Int)) fun v31 =>
     nx26 (v31, (overlay s26.2 m29 ((s26.2.drop 0).take m30) (s26.2.length - m29))))
    else
    (some s26.2)) F (((min x.length ((List.replicate m10 (0 : Int)).length) : Nat) : Int), (overlay (List.replicate m10 (0 : Int)) 0 x ((List.replicate m10 (0 : Int)).length)))))
def M_bound_out (F : Nat) (c : G0) (tiers : Int) (halves : Int) : Option Int :=
 chk (c.Whole + c.Half) fun v3 =>
 loop (fun nx29 (s29 : Int × Int) =>
  bnd (quo64 halves 2) fun v32 =>
  chk (tiers * v32) fun v33 =>
  bif decide (s29.2 ≤ (min c.Whole v33)) then
  (chk (tiers * halves) fun v36 =>
   chk (2 * s29.2) fun v37 =>
   chk (v36 - v37) fun v38 =>
   chk (c.Whole - s29.2) fun v39 =>
   chk (v39 + c.Half) fun v40 =>
   chk (v40 - (min c.Half v38)) fun v41 =>
   chk (s29.2 + 1) fun v42 =>
   nx29 ((min s29.1 v41), v42))
  else
  (some s29.1)) F (v3, 0)
theorem M_bound_out_w (F : Nat) (c : G0) (tiers : Int) (halves : Int) (r : Int) (h : M_bound_out F c tiers halves = some r) : Pure Try.prog 41 [.agg (G0.cs c), G2 tiers, G2 halves] (· = G2 r) := by
 unfold M_bound_out at h
 refine H0 [.tmp 6] Try.func41 rfl rfl ?_
 refine G6 fun K1 hK1 => G3 ?_
 refine G1 (u := .ptr 1112 0) (J2 (u := .agg (G0.cs c)) (cs := [G2 c.G7.Load, G2 c.G7.Discharge, G2 c.Whole, G2 c.Half]) 1112 rfl rfl rfl rfl rfl) ?_
 refine G1 (u := G2 0) (Ga rfl rfl) ?_
 refine G9 (hK1 _ _ ?_)
 refine Gq [(1, G2 tiers), (2, G2 halves), (3, .dptr (G0.cs c))] [] 1112 rfl rfl rfl trivial rfl (by exact ⟨.conv (.same rfl), .conv (.same rfl), .ptr, trivial⟩) ?_
 refine G6 fun K2 hK2 => G3 ?_
 refine G1 (u := .dptr [G2 c.Whole, G2 c.Half]) (Gd Ju rfl rfl rfl) ?_
 refine G1 (u := G2 c.Whole) (Gn Gc rfl rfl rfl) ?_
 refine G1 (u := .dptr [G2 c.Half]) (Gd Jt rfl rfl rfl) ?_
 refine G1 (u := G2 c.Half) (Gn Gc rfl rfl rfl) ?_
 obtain ⟨v3, hv3, h⟩ := Gy h
 refine G1 (u := G2 v3) (H7 hv3 rfl rfl rfl) ?_
 refine G1 (u := G2 v3) (Ga rfl rfl) ?_
 refine G9 (hK2 _ _ ?_)
 refine G6 (fun K4 hK4 => ?_)
 refine G6 fun K5 hK5 => G3 ?_
 refine G1 (u := G2 0) (Ga rfl rfl) ?_
 refine G9 (hK5 _ _ ?_)
 refine Gk ?_
 obtain ⟨b29, hb29, h⟩ := loop_in h
 refine H2 (fun i29 (s29 : Int × Int) => loop b29 i29 s29 = some r) (fun i29 s29 => [(1, G2 tiers), (2, G2 halves), (3, .dptr (G0.cs c)), (7, G2 s29.1), (8, G2 s29.2)]) (fun i29 s29 => []) (fun i29 => i29) F (v3, 0) h ⟨(by repeat' constructor), trivial, rfl⟩ ?_
 clear h
 intro i29 s29 hi29 K29 e29
 obtain ⟨m29, nx29, hm_29, hn29, h⟩ := loop_out hi29
 replace h := app2 hb29 h
 refine G6 (fun K30 hK30 => ?_)
 refine G6 fun K31 hK31 => G3 ?_
 refine G1 (u := G2 s29.2) (G5 rfl rfl) ?_
 refine G1 (u := .dptr [G2 c.Whole, G2 c.Half]) (Gd Ju rfl rfl rfl) ?_
 refine G1 (u := G2 c.Whole) (Gn Gc rfl rfl rfl) ?_
 refine G1 (u := G2 tiers) (G5 rfl rfl) ?_
 refine G1 (u := G2 halves) (G5 rfl rfl) ?_
 obtain ⟨v32, hv32, h⟩ := Gg h
 refine G1 (u := G2 v32) (A_quo (quo64_out hv32).1 (quo64_out hv32).2 rfl rfl rfl) ?_
 obtain ⟨v33, hv33, h⟩ := Gy h
 refine G1 (u := G2 v33) (A_mul hv33 rfl rfl rfl) ?_
 refine G1 (u := G2 (min c.Whole v33)) (A_min rfl rfl rfl) ?_
 refine G1 (u := BL (decide (s29.2 ≤ (min c.Whole v33)))) (A_leq rfl rfl rfl) ?_
 refine G9 (hK31 _ _ ?_)
 refine Gm rfl (fun hb => ?_) (fun hb => ?_)
 ·
  replace h := bif_t hb h
  refine Gp ?_
  refine hK30 _ _ ?_
  refine G6 (fun K34 hK34 => ?_)
  refine Gk ?_
  refine G6 fun K35 hK35 => G3 ?_
  refine G1 (u := .dptr [G2 c.Half]) (Gd Jt rfl rfl rfl) ?_
  refine G1 (u := G2 c.Half) (Gn Gc rfl rfl rfl) ?_
  refine G1 (u := G2 tiers) (G5 rfl rfl) ?_
  refine G1 (u := G2 halves) (G5 rfl rfl) ?_
  obtain ⟨v36, hv36, h⟩ := Gy h
  refine G1 (u := G2 v36) (A_mul hv36 rfl rfl rfl) ?_
  refine G1 (u := G2 s29.2) (G5 rfl rfl) ?_
  obtain ⟨v37, hv37, h⟩ := Gy h
  refine G1 (u := G2 v37) (A_mul hv37 rfl rfl rfl) ?_
  obtain ⟨v38, hv38, h⟩ := Gy h
  refine G1 (u := G2 v38) (A_sub hv38 rfl rfl rfl) ?_
  refine G1 (u := G2 (min c.Half v38)) (A_min rfl rfl rfl) ?_
  refine G1 (u := G2 (min c.Half v38)) (Ga rfl rfl) ?_
  refine G9 (hK35 _ _ ?_)
  refine G3 ?_
  refine G1 (u := G2 s29.1) (G5 rfl rfl) ?_
  refine G1 (u := .dptr [G2 c.Whole, G2 c.Half]) (Gd Ju rfl rfl rfl) ?_
  refine G1 (u := G2 c.Whole) (Gn Gc rfl rfl rfl) ?_
  refine G1 (u := G2 s29.2) (G5 rfl rfl) ?_
  obtain ⟨v39, hv39, h⟩ := Gy h
  refine G1 (u := G2 v39) (A_sub hv39 rfl rfl rfl) ?_
  refine G1 (u := .dptr [G2 c.Half]) (Gd Jt rfl rfl rfl) ?_
  refine G1 (u := G2 c.Half) (Gn Gc rfl rfl rfl) ?_
  obtain ⟨v40, hv40, h⟩ := Gy h
  refine G1 (u := G2 v40) (H7 hv40 rfl rfl rfl) ?_
  refine G1 (u := G2 (min c.Half v38)) (G5 rfl rfl) ?_
  obtain ⟨v41, hv41, h⟩ := Gy h
  refine G1 (u := G2 v41) (A_sub hv41 rfl rfl rfl) ?_
  refine G1 (u := G2 (min s29.1 v41)) (A_min rfl rfl rfl) ?_
  refine G1 (u := G2 (min s29.1 v41)) (Ga rfl rfl) ?_
  refine G9 (hK34 _ _ ?_)
  refine G3 ?_
  refine G1 (u := G2 s29.2) (G5 rfl rfl) ?_
  obtain ⟨v42, hv42, h⟩ := Gy h
  refine G1 (u := G2 v42) (H7 hv42 rfl rfl rfl) ?_
  refine G1 (u := G2 v42) (Ga rfl rfl) ?_
  refine G9 ?_
  exact e29 _ _ m29 ((min s29.1 v41), v42) (app1 hn29 h) (by omega) ⟨(by repeat' constructor), trivial, rfl⟩
 ·
  replace h := bif_f hb h
  refine H4 ?_
  refine hK4 _ _ ?_
  refine G6 fun K43 hK43 => G3 ?_
  refine G1 (u := G2 s29.1) (G5 rfl rfl) ?_
  refine G1 (u := G2 s29.1) (Ga rfl rfl) ?_
  refine G9 (hK43 _ _ ?_)
  refine Gt ?_
  exact ⟨[G2 s29.1], [], trivial, rfl, ⟨⟨_, rfl, .conv (.same rfl)⟩, trivial⟩, rfl, congrArg (fun r : Int => (G2 r : AV)) (Option.some.inj h)⟩


theorem M_slices_Repeat_int_n (F : Nat) (x : List Int) (count : Int) (r : (List Int)) (h : M_slices_Repeat_int F x count = some r) : ACalls Try.prog 40 [LS 1 G2 x, G2 count] [] (fun av L' => ∃ p : Nat, av = .vec 1111 p 1 r.length ∧ L' = [(1111, .vec 3 1 p (r.map G2))]) := by
 unfold M_slices_Repeat_int at h
 refine ACalls_ofG [] [.tmp 4] Try.func40 rfl rfl (inAll rfl) ?_
 refine G6 fun K1 hK1 => G3 ?_
 refine G1 (u := .vec 1110 (([] : List Int).length) 1 (([] : List Int).length)) (A_vnil 1110 3 1 rfl rfl rfl) ?_
 refine G9 (hK1 _ _ ?_)
 refine G6 (fun K2 hK2 => ?_)
 refine G6 fun K3 hK3 => G3 ?_
 refine G1 (u := G2 count) (G5 rfl rfl) ?_
 refine G1 (u := BL (decide (count < 0))) (Hg rfl rfl rfl) ?_
 refine G9 (hK3 _ _ ?_)
 refine Gm rfl (fun hb => ?_) (fun hb => ?_)
 ·
  replace h := bif_t hb h
  cases h
 ·
  replace h := bif_f hb h
  refine Gp ?_
  refine hK2 _ _ ?_
  refine G6 fun K4 hK4 => G3 ?_
  refine G1 (u := LS 1 G2 x) (G5 rfl rfl) ?_
  refine H9 (f := G2) (xs := x) Gr rfl rfl (fun hm14 => ?_) rfl rfl rfl
  refine G1 (u := .sc (.int .u64 (IntKind.u64.wrap (x.length : Int)))) (A_conv tf_int_137 Jo rfl rfl rfl) ?_
  refine G1 (u := G2 count) (G5 rfl rfl) ?_
  refine G1 (u := .sc (.int .u64 (IntKind.u64.wrap count))) (A_conv tf_int_137 Jo rfl rfl rfl) ?_
  obtain ⟨r5, hr5, h⟩ := Gg h
  refine G1 (u := .tup [.sc (.int .u64 r5.1), .sc (.int .u64 r5.2)]) (Gu (args := [.sc (.int .u64 (IntKind.u64.wrap (x.length : Int))), .sc (.int .u64 (IntKind.u64.wrap count))]) rfl (M_math_bits_Mul_w (IntKind.u64.wrap (x.length : Int)) (IntKind.u64.wrap count) r5 hr5) tf_call_60 ⟨rfl, rfl, rfl, rfl, trivial⟩) ?_
  refine G1 (u := .tup [.sc (.int .u64 r5.1), .sc (.int .u64 r5.2)]) (G5 rfl rfl) ?_
  refine G1 (u := .sc (.int .u64 r5.1)) (Gx rfl rfl rfl) ?_
  refine G1 (u := .sc (.int .u64 r5.2)) (Gx rfl rfl rfl) ?_
  refine G1 (u := .sc (.int .u64 r5.1)) (Ga rfl rfl) ?_
  refine G1 (u := .sc (.int .u64 r5.2)) (Ga rfl rfl) ?_
  refine G9 (hK4 _ _ ?_)
  refine G6 (fun K6 hK6 => ?_)
  refine G6 fun K7 hK7 => G3 ?_
  refine G1 (u := .sc (.int .u64 r5.1)) (G5 rfl rfl) ?_
  refine G1 (u := BL (decide (0 < r5.1))) (Jy rfl rfl rfl) ?_
  refine G1 (u := BL (decide (0 < r5.1))) (G5 rfl rfl) ?_
  refine Gj (u := .sc (.int .u64 r5.2)) [] rfl rfl rfl .scf trivial (fun hc => G5 rfl rfl) ?_
  refine Gj (u := BL (decide (9223372036854775807 < r5.2))) [(24, .sc (.int .u64 r5.2))] rfl rfl rfl .scf ⟨.all id, trivial⟩ (fun hc => Jy rfl rfl rfl) ?_
  refine G1 (u := BL ((decide (0 < r5.1)) || (decide (9223372036854775807 < r5.2)))) (A_or rfl rfl rfl rfl) ?_
  refine G9 (hK7 _ _ ?_)
  refine Gm rfl (fun hb => ?_) (fun hb => ?_)
  ·
   replace h := bif_t hb h
   cases h
  ·
   replace h := bif_f hb h
   refine Gp ?_
   refine hK6 _ _ ?_
   refine G6 fun K8 hK8 => G3 ?_
   refine G1 (u := .sc (.int .u64 r5.2)) (G5 rfl rfl) ?_
   obtain ⟨v9, hv9, h⟩ := Gy h
   refine G1 (u := G2 v9) (A_conv Jo tf_int_137 hv9 rfl rfl) ?_
   obtain ⟨m10, hm10, h⟩ := Gg h
   obtain ⟨ha11, h⟩ := He h
   refine G1 (u := .vec 1111 0 1 ((List.replicate m10 (0 : Int)).length)) (A_vmakeM 1111 (f := G2) (n := m10) 0 [.int .i64 0] rfl rfl rfl rfl Gr Q0 tf_zero_3 (natOf_out hm10) (natOf_out hm10) ha11 ⟨.inl rfl, trivial⟩ rfl) ?_
   refine G1 (u := .vec 1111 0 1 ((List.replicate m10 (0 : Int)).length)) (Ga rfl rfl) ?_
   refine G9 (hK8 _ _ ?_)
   refine G6 fun K12 hK12 => G3 ?_
   refine G1 (u := .vec 1111 0 1 ((List.replicate m10 (0 : Int)).length)) (G5 rfl rfl) ?_
   refine G1 (u := LS 1 G2 x) (G5 rfl rfl) ?_
   refine G1 (u := G2 ((min x.length ((List.replicate m10 (0 : Int)).length) : Nat) : Int)) (A_copyM (f := G2) (xs := (List.replicate m10 (0 : Int))) (ys := x) (off := 0) (n := ((List.replicate m10 (0 : Int)).length)) rfl Gr (.inl ⟨rfl, rfl⟩) rfl (Src_list (ys := x) rfl (.inl rfl)) (fun _ => rfl)) ?_
   refine G1 (u := G2 ((min x.length ((List.replicate m10 (0 : Int)).length) : Nat) : Int)) (Ga rfl rfl) ?_
   refine G9 (hK12 _ _ ?_)
   refine G6 (fun K13 hK13 => ?_)
   refine Gk ?_
   obtain ⟨b26, hb26, h⟩ := loop_in h
   refine H2 (fun i26 (s26 : Int × (List Int)) => loop b26 i26 s26 = some r) (fun i26 s26 => [(7, .vec 1111 0 1 ((List.replicate m10 (0 : Int)).length)), (8, G2 s26.1)]) (fun i26 s26 => [(1110, .vec 3 1 (([] : List Int).length) (([] : List Int).map G2)), (1111, .vec 3 1 0 (s26.2.map G2))]) (fun i26 => i26) F (((min x.length ((List.replicate m10 (0 : Int)).length) : Nat) : Int), (overlay (List.replicate m10 (0 : Int)) 0 x ((List.replicate m10 (0 : Int)).length))) h ⟨⟨.same rfl, .same rfl, trivial⟩, ⟨⟨_, rfl, .vec⟩, ⟨_, rfl, .vec⟩, trivial⟩, rfl⟩ ?_
   clear h
   intro i26 s26 hi26 K26 e26
   obtain ⟨m26, nx26, hm_26, hn26, h⟩ := loop_out hi26
   replace h := app2 hb26 h
   refine G6 (fun K27 hK27 => ?_)
   refine G6 fun K28 hK28 => G3 ?_
   refine G1 (u := G2 s26.1) (G5 rfl rfl) ?_
   refine G1 (u := .vec 1111 0 1 ((List.replicate m10 (0 : Int)).length)) (G5 rfl rfl) ?_
   refine JL_vlenM (f := G2) (xs := s26.2) Gr rfl rfl rfl (fun hm36 => ?_) rfl rfl rfl
   refine G1 (u := BL (decide (s26.1 < (s26.2.length : Int)))) (Hg rfl rfl rfl) ?_
   refine G9 (hK28 _ _ ?_)
   refine Gm rfl (fun hb => ?_) (fun hb => ?_)
   ·
    replace h := bif_t hb h
    refine Gp ?_
    refine hK27 _ _ ?_
    refine Gk ?_
    refine J3 (l' := [(7, .vec 1111 0 1 ((List.replicate m10 (0 : Int)).length)), (8, G2 s26.1)]) (L' := [(1110, .vec 3 1 (([] : List Int).length) (([] : List Int).map G2)), (1111, .vec 3 1 0 (s26.2.map G2))]) ⟨⟨.same rfl, .same rfl, trivial⟩, ⟨⟨_, rfl, .vec⟩, ⟨_, rfl, .vec⟩, trivial⟩, rfl⟩ ?_
    obtain ⟨m29, hm29, h⟩ := Gg h
    obtain ⟨m30, hm30, h⟩ := Gg h
    obtain ⟨v31, hv31, h⟩ := Gy h
    refine Hy [7] [0, 0, 0, 0, 0, 0, 0, 0, 1, 1] [1, 0, 0, 0, 0, 0, 0, 0, 1, 1] [[(1110, .vec 3 1 (([] : List Int).length) (([] : List Int).map G2)), (1111, .vec 3 1 0 (s26.2.map G2))], ((1111, .vec 3 1 0 ((overlay s26.2 m29 ((s26.2.drop 0).take m30) (s26.2.length - m29)).map G2)) :: [(1110, .vec 3 1 (([] : List Int).length) (([] : List Int).map G2)), (1111, .vec 3 1 0 (s26.2.map G2))])] Hr (by kernel_rfl) rfl rfl ?_
    refine Ge (u := G2 s26.1) rfl rfl ⟨Gi (G5 rfl rfl) rfl, Gi (G5 rfl rfl) rfl, trivial⟩ ?_
    refine Ge (u := .vec 1111 0 1 ((List.replicate m10 (0 : Int)).length)) rfl rfl ⟨Gi (G5 rfl rfl) rfl, trivial⟩ ?_
    refine Ge (u := G2 s26.1) rfl rfl ⟨Gi (G5 rfl rfl) rfl, trivial⟩ ?_
    refine Ge (u := .vsl 1111 0 1 m29 (s26.2.length - m29)) rfl rfl ⟨Gi (A_vsubLoM (f := G2) (xs := s26.2) rfl rfl rfl rfl Gr (natIn_out hm29)) rfl, trivial⟩ ?_
    refine Ge (u := .vec 1111 0 1 ((List.replicate m10 (0 : Int)).length)) rfl rfl ⟨Gi (G5 rfl rfl) rfl, trivial⟩ ?_
    refine Ge (u := G2 s26.1) rfl rfl ⟨Gi (G5 rfl rfl) rfl, trivial⟩ ?_
    refine Ge (u := .vsl 1111 0 1 0 m30) rfl rfl ⟨Gi (A_vsubHiM (f := G2) (xs := s26.2) rfl rfl rfl rfl Gr (natIn_out hm30)) rfl, trivial⟩ ?_
    refine D_w (u := G2 ((min ((s26.2.drop 0).take m30).length (s26.2.length - m29) : Nat) : Int)) rfl rfl rfl rfl (Gi (A_copyM (f := G2) (xs := s26.2) (ys := ((s26.2.drop 0).take m30)) (off := m29) (n := (s26.2.length - m29)) rfl Gr (.inr rfl) rfl (Src_vsl (zs := s26.2) rfl rfl) (fun _ => rfl)) rfl) ?_
    refine Ge (u := G2 v31) rfl rfl ⟨Gi (H7 hv31 rfl rfl rfl) rfl, trivial⟩ ?_
    refine Ge (u := G2 v31) rfl rfl ⟨Gi (Ga rfl rfl) rfl, trivial⟩ ?_
    refine Q3 ?_
    exact e26 _ _ m26 (v31, (overlay s26.2 m29 ((s26.2.drop 0).take m30) (s26.2.length - m29))) (app1 hn26 h) (by omega) ⟨⟨.same rfl, .same rfl, trivial⟩, ⟨⟨_, rfl, .vec⟩, ⟨_, rfl, .vec⟩, trivial⟩, rfl⟩
   ·
    replace h := bif_f hb h
    refine H4 ?_
    refine hK13 _ _ ?_
    refine G6 fun K32 hK32 => G3 ?_
    refine G1 (u := .vec 1111 0 1 ((List.replicate m10 (0 : Int)).length)) (G5 rfl rfl) ?_
    refine G1 (u := .vec 1111 0 1 ((List.replicate m10 (0 : Int)).length)) (Ga rfl rfl) ?_
    refine G9 (hK32 _ _ ?_)
    refine JC_vlen 4 rfl rfl (fun hn_ => ?_)
    refine Gt ?_
    obtain rfl := Option.some.inj h
    exact ⟨[.vec 1111 0 1 ((List.replicate m10 (0 : Int)).length)], [(1111, .vec 3 1 0 (s26.2.map G2))], ⟨⟨_, rfl, .vec⟩, trivial⟩, rfl, ⟨⟨_, rfl, .conv (.same rfl)⟩, trivial⟩, 0, congrArg (fun n_ : Nat => (.vec 1111 0 1 n_ : AV)) (hn_.trans (List.length_map _)), rfl⟩

def M_bound_bound_1 (F : Nat) (c : G0) (p1 : Int) (p2 : Int) (p3 : List Int) : Option (List Int) :=
 chk (p1 + 1) fun v3 =>
 bnd (M_slices_Repeat_int F [(-1)] v3) fun r4 =>
 jp (fun kj6 =>
  loop (fun nx8 (s8 : Int × (List Int)) =>
   bif decide (s8.1 ≤ p1) then
   (bnd (M_bound_out F c p2 s8.1) fun r13 =>
    loop (fun nx62 (s62 : Int × (List Int)) =>
     bif decide (s62.1 ≤ p1) then
     (jp (fun kj65 =>
       chk (s62.1 - s8.1) fun v67 =>
       gidx p3 v67 fun y68 =>
       chk (y68 + r13) fun v70 =>
       gidx s62.2 s62.1 fun y72 =>
       bnd (bif (!(decide (y72 < 0))) then gidx s62.2 s62.1 some else some default) fun y73 =>
       bif ((decide (y72 < 0)) || (decide (v70 < y73))) then
       (gidx s62.2 s62.1 fun y74 =>
        kj65 (s62.2.set s62.1.toNat v70))
       else
       (kj65 s62.2)) fun (j65 : (List Int)) =>
      chk (s62.1 + 1) fun v75 =>
      nx62 (v75, j65))
     else
     (bif decide (r13 = 0) then
      (kj6 s62.2)
      else
      (chk (s8.1 + 1) fun v77 =>
       nx8 (v77, s62.2)))) F (s8.1, s8.2))
   else
   (kj6 s8.2)) F (0, r4)) fun (j6 : (List Int)) =>
 some j6
theorem M_bound_bound_1_w (F : Nat) (c : G0) (p1 : Int) (p2 : Int) (p3 : List Int) (r : (List Int)) (h : M_bound_bound_1 F c p1 p2 p3 = some r) : ACalls Try.prog 39 [.agg (G0.cs c), .dptr [G2 p1], .dptr [G2 p2], .ptr 1064 0] [(1064, .box 48 [LS 1 G2 p3])] (fun av L' => av = .tup [] ∧ L' = [(1064, .box 48 [LS 1 G2 r])]) := by
 unfold M_bound_bound_1 at h
 refine ACalls_ofG [1064] [] Try.func39 rfl rfl (inAll rfl) ?_
 refine G6 fun K1 hK1 => G3 ?_
 refine G1 (u := .ptr 1109 0) (J2 (u := .agg (G0.cs c)) (cs := [G2 c.G7.Load, G2 c.G7.Discharge, G2 c.Whole, G2 c.Half]) 1109 rfl rfl rfl rfl rfl) ?_
 refine G9 (hK1 _ _ ?_)
 refine Gq [(1, .dptr [G2 p1]), (2, .dptr [G2 p2]), (3, .ptr 1064 0), (4, .dptr (G0.cs c))] [(1064, .box 48 [LS 1 G2 p3])] 1109 rfl rfl rfl ⟨⟨_, rfl, .boxEq rfl rfl⟩, trivial⟩ rfl (by repeat' (first | exact .ptr | constructor)) ?_
 refine G6 fun K2 hK2 => G3 ?_
 refine G1 (u := LS 1 G2 [(-1)]) (H1 (xs := [G2 (-1)]) rfl ⟨rfl, rfl, trivial⟩ Gr tf_zsize_3 rfl rfl rfl rfl) ?_
 refine G1 (u := G2 p1) (Gn Gc rfl rfl rfl) ?_
 obtain ⟨v3, hv3, h⟩ := Gy h
 refine G1 (u := G2 v3) (H7 hv3 rfl rfl rfl) ?_
 obtain ⟨r4, hr4, h⟩ := Gg h
 refine JL_step rfl rfl rfl (A_callLE (args := [LS 1 G2 [(-1)], G2 v3]) (L0 := []) (u := fun p => .vec 1111 p 1 r4.length) (Lr := fun p => [(1111, .vec 3 1 p (r4.map G2))]) rfl (M_slices_Repeat_int_n F [(-1)] v3 r4 hr4) tf_call_40 ⟨.inl rfl, rfl, .inl rfl, rfl, trivial⟩ trivial rfl (fun _ => rfl)) ?_
 rintro u_ L_ ⟨v5, rfl, rfl⟩
 refine G1 (u := .vec 1111 v5 1 r4.length) (Ga rfl rfl) ?_
 refine G9 (hK2 _ _ ?_)
 obtain ⟨kj6, hkj6, h⟩ := Jf h
 refine Ht (fun j6 : (List Int) => kj6 j6 = some r) (fun j6 => [(3, .ptr 1064 0), (5, .vec 1111 v5 1 r4.length)]) (fun j6 => [(1111, .vec 3 1 v5 (j6.map G2)), (1064, .box 48 [LS 1 G2 p3])]) (fun Kj6 ej6 => ?_) ?_
 ·
  refine G6 fun K7 hK7 => G3 ?_
  refine G1 (u := G2 0) (Ga rfl rfl) ?_
  refine G9 (hK7 _ _ ?_)
  refine Gk ?_
  obtain ⟨b8, hb8, h⟩ := loop_in h
  refine H2 (fun i8 (s8 : Int × (List Int)) => loop b8 i8 s8 = some r) (fun i8 s8 => [(1, .dptr [G2 p1]), (2, .dptr [G2 p2]), (3, .ptr 1064 0), (4, .dptr (G0.cs c)), (5, .vec 1111 v5 1 r4.length), (6, G2 s8.1)]) (fun i8 s8 => [(1111, .vec 3 1 v5 (s8.2.map G2)), (1064, .box 48 [LS 1 G2 p3])]) (fun i8 => i8) F (0, r4) h ⟨(by repeat' constructor), ⟨⟨_, rfl, .vec⟩, ⟨_, rfl, .boxL rfl ⟨.same rfl, trivial⟩⟩, trivial⟩, rfl⟩ ?_
  clear h
  intro i8 s8 hi8 K8 e8
  obtain ⟨m8, nx8, hm_8, hn8, h⟩ := loop_out hi8
  replace h := app2 hb8 h
  refine G6 (fun K9 hK9 => ?_)
  refine G6 fun K10 hK10 => G3 ?_
  refine G1 (u := G2 s8.1) (G5 rfl rfl) ?_
  refine G1 (u := G2 p1) (Gn Gc rfl rfl rfl) ?_
  refine G1 (u := BL (decide (s8.1 ≤ p1))) (A_leq rfl rfl rfl) ?_
  refine G9 (hK10 _ _ ?_)
  refine Gm rfl (fun hb => ?_) (fun hb => ?_)
  ·
   replace h := bif_t hb h
   refine Gp ?_
   refine hK9 _ _ ?_
   refine G6 (fun K11 hK11 => ?_)
   refine Gk ?_
   refine G6 fun K12 hK12 => G3 ?_
   refine G1 (u := .agg (G0.cs c)) (Gf Hv rfl rfl rfl) ?_
   refine G1 (u := G2 p2) (Gn Gc rfl rfl rfl) ?_
   refine G1 (u := G2 s8.1) (G5 rfl rfl) ?_
   obtain ⟨r13, hr13, h⟩ := Gg h
   refine G1 (u := G2 r13) (Gu (args := [.agg (G0.cs c), G2 p2, G2 s8.1]) rfl (M_bound_out_w F c p2 s8.1 r13 hr13) tf_call_41 ⟨rfl, rfl, rfl, rfl, rfl, rfl, trivial⟩) ?_
   refine G1 (u := G2 r13) (Ga rfl rfl) ?_
   refine G9 (hK12 _ _ ?_)
   refine G6 (fun K14 hK14 => ?_)
   refine G6 fun K15 hK15 => G3 ?_
   refine G1 (u := G2 s8.1) (G5 rfl rfl) ?_
   refine G1 (u := G2 s8.1) (Ga rfl rfl) ?_
   refine G9 (hK15 _ _ ?_)
   refine Gk ?_
   obtain ⟨b62, hb62, h⟩ := loop_in h
   refine H2 (fun i62 (s62 : Int × (List Int)) => loop b62 i62 s62 = some r) (fun i62 s62 => [(1, .dptr [G2 p1]), (2, .dptr [G2 p2]), (3, .ptr 1064 0), (4, .dptr (G0.cs c)), (5, .vec 1111 v5 1 r4.length), (6, G2 s8.1), (7, G2 r13), (8, G2 s62.1)]) (fun i62 s62 => [(1111, .vec 3 1 v5 (s62.2.map G2)), (1064, .box 48 [LS 1 G2 p3])]) (fun i62 => i62) F (s8.1, s8.2) h ⟨(by repeat' constructor), ⟨⟨_, rfl, .vec⟩, ⟨_, rfl, .boxL rfl ⟨.same rfl, trivial⟩⟩, trivial⟩, rfl⟩ ?_
   clear h
   intro i62 s62 hi62 K62 e62
   obtain ⟨m62, nx62, hm_62, hn62, h⟩ := loop_out hi62
   replace h := app2 hb62 h
   refine G6 (fun K63 hK63 => ?_)
   refine G6 fun K64 hK64 => G3 ?_
   refine G1 (u := G2 s62.1) (G5 rfl rfl) ?_
   refine G1 (u := G2 p1) (Gn Gc rfl rfl rfl) ?_
   refine G1 (u := BL (decide (s62.1 ≤ p1))) (A_leq rfl rfl rfl) ?_
   refine G9 (hK64 _ _ ?_)
   refine Gm rfl (fun hb => ?_) (fun hb => ?_)
   ·
    replace h := bif_t hb h
    refine Gp ?_
    refine hK63 _ _ ?_
    obtain ⟨kj65, hkj65, h⟩ := Jf h
    refine Ht (fun j65 : (List Int) => kj65 j65 = some r) (fun j65 => [(1, .dptr [G2 p1]), (2, .dptr [G2 p2]), (3, .ptr 1064 0), (4, .dptr (G0.cs c)), (5, .vec 1111 v5 1 r4.length), (6, G2 s8.1), (7, G2 r13), (8, G2 s62.1)]) (fun j65 => [(1111, .vec 3 1 v5 (j65.map G2)), (1064, .box 48 [LS 1 G2 p3])]) (fun Kj65 ej65 => ?_) ?_
    ·
     refine Gk ?_
     refine G6 fun K66 hK66 => G3 ?_
     refine G1 (u := LS 1 G2 p3) (J5 tf_scalar_48 rfl rfl rfl rfl) ?_
     refine G1 (u := G2 s62.1) (G5 rfl rfl) ?_
     refine G1 (u := G2 s8.1) (G5 rfl rfl) ?_
     obtain ⟨v67, hv67, h⟩ := Gy h
     refine G1 (u := G2 v67) (A_sub hv67 rfl rfl rfl) ?_
     obtain ⟨m69, y68, hm69, hy68, h⟩ := Je h
     refine G1 (u := .dptr [G2 y68]) (Gw (f := G2) (xs := p3) (y := y68) rfl rfl rfl Gr hy68 hm69) ?_
     refine G1 (u := G2 y68) (Gn Gc rfl rfl rfl) ?_
     refine G1 (u := G2 r13) (G5 rfl rfl) ?_
     obtain ⟨v70, hv70, h⟩ := Gy h
     refine G1 (u := G2 v70) (H7 hv70 rfl rfl rfl) ?_
     refine G1 (u := G2 v70) (Ga rfl rfl) ?_
     refine G9 (hK66 _ _ ?_)
     refine G6 fun K71 hK71 => G3 ?_
     refine G1 (u := .vec 1111 v5 1 r4.length) (G5 rfl rfl) ?_
     refine G1 (u := G2 s62.1) (G5 rfl rfl) ?_
     obtain ⟨y72, hmy72, hy72, h⟩ := J6 h
     refine G1 (u := .vptr 1111 v5 s62.1.toNat 0) (J1 (f := G2) (xs := s62.2) (y := y72) rfl rfl rfl rfl Gr hy72 hmy72) ?_
     refine G1 (u := G2 y72) (Jp (f := G2) (xs := s62.2) (y := y72) Gc rfl rfl rfl hy72 rfl rfl) ?_
     refine G1 (u := BL (decide (y72 < 0))) (Hg rfl rfl rfl) ?_
     refine G1 (u := BL (decide (y72 < 0))) (G5 rfl rfl) ?_
     refine Gj (u := G2 v70) [] rfl rfl rfl .scf trivial (fun hc => G5 rfl rfl) ?_
     refine Gj (u := .vec 1111 v5 1 r4.length) [] rfl rfl rfl .scf trivial (fun hc => G5 rfl rfl) ?_
     refine Gj (u := G2 s62.1) [] rfl rfl rfl .scf trivial (fun hc => G5 rfl rfl) ?_
     obtain ⟨y73, hy73, h⟩ := Gg h
     refine Gj (u := .vptr 1111 v5 s62.1.toNat 0) [(44, .vec 1111 v5 1 r4.length), (45, G2 s62.1)] rfl rfl rfl .scf ⟨.all id, .all id, trivial⟩ (fun hc => J1 (f := G2) (xs := s62.2) (y := y73) rfl rfl rfl rfl Gr (Hx (bif_t hc hy73)) (gidx_some1 (bif_t hc hy73))) ?_
     refine Gj (u := G2 y73) [(46, .vptr 1111 v5 s62.1.toNat 0)] rfl rfl rfl .scf ⟨.all id, trivial⟩ (fun hc => Jp (f := G2) (xs := s62.2) (y := y73) Gc rfl rfl rfl (Hx (bif_t hc hy73)) rfl rfl) ?_
     refine Gj (u := BL (decide (v70 < y73))) [(43, G2 v70), (47, G2 y73)] rfl rfl rfl .scf ⟨.all id, .all id, trivial⟩ (fun hc => Hg rfl rfl rfl) ?_
     refine G1 (u := BL ((decide (y72 < 0)) || (decide (v70 < y73)))) (A_or rfl rfl rfl rfl) ?_
     refine G9 (hK71 _ _ ?_)
     refine Gm rfl (fun hb => ?_) (fun hb => ?_)
     ·
      replace h := bif_t hb h
      refine G3 ?_
      refine G1 (u := .vec 1111 v5 1 r4.length) (G5 rfl rfl) ?_
      refine G1 (u := G2 s62.1) (G5 rfl rfl) ?_
      refine G1 (u := G2 v70) (G5 rfl rfl) ?_
      obtain ⟨y74, hmy74, hy74, h⟩ := J6 h
      refine G1 (u := .vptr 1111 v5 s62.1.toNat 0) (J1 (f := G2) (xs := s62.2) (y := y74) rfl rfl rfl rfl Gr hy74 hmy74) ?_
      refine H6 (u := .junk) (A_vstoreM (f := G2) (xs := s62.2) (z := v70) J0 rfl rfl rfl rfl (List.getElem?_eq_some_iff.1 hy74).1 rfl rfl rfl rfl) ?_
      refine G9 ?_
      exact ej65 _ _ (s62.2.set s62.1.toNat v70) h ⟨(by repeat' constructor), ⟨⟨_, rfl, .vec⟩, ⟨_, rfl, .boxL rfl ⟨.same rfl, trivial⟩⟩, trivial⟩, rfl⟩
     ·
      replace h := bif_f hb h
      refine Gp ?_
      exact ej65 _ _ s62.2 h ⟨(by repeat' constructor), ⟨⟨_, rfl, .vec⟩, ⟨_, rfl, .boxL rfl ⟨.same rfl, trivial⟩⟩, trivial⟩, rfl⟩
    ·intro j65 h
     replace h := app1 hkj65 h
     refine G3 ?_
     refine G1 (u := G2 s62.1) (G5 rfl rfl) ?_
     obtain ⟨v75, hv75, h⟩ := Gy h
     refine G1 (u := G2 v75) (H7 hv75 rfl rfl rfl) ?_
     refine G1 (u := G2 v75) (Ga rfl rfl) ?_
     refine G9 ?_
     exact e62 _ _ m62 (v75, j65) (app1 hn62 h) (by omega) ⟨(by repeat' constructor), ⟨⟨_, rfl, .vec⟩, ⟨_, rfl, .boxL rfl ⟨.same rfl, trivial⟩⟩, trivial⟩, rfl⟩
   ·
    replace h := bif_f hb h
    refine H4 ?_
    refine hK14 _ _ ?_
    refine G6 fun K76 hK76 => G3 ?_
    refine G1 (u := G2 r13) (G5 rfl rfl) ?_
    refine G1 (u := BL (decide (r13 = 0))) (Jb rfl rfl rfl) ?_
    refine G9 (hK76 _ _ ?_)
    refine Gm rfl (fun hb => ?_) (fun hb => ?_)
    ·
     replace h := bif_t hb h
     refine H4 ?_
     exact ej6 _ _ s62.2 h ⟨⟨.same rfl, .same rfl, trivial⟩, ⟨⟨_, rfl, .vec⟩, ⟨_, rfl, .boxL rfl ⟨.same rfl, trivial⟩⟩, trivial⟩, rfl⟩
    ·
     replace h := bif_f hb h
     refine Gp ?_
     refine hK11 _ _ ?_
     refine G3 ?_
     refine G1 (u := G2 s8.1) (G5 rfl rfl) ?_
     obtain ⟨v77, hv77, h⟩ := Gy h
     refine G1 (u := G2 v77) (H7 hv77 rfl rfl rfl) ?_
     refine G1 (u := G2 v77) (Ga rfl rfl) ?_
     refine G9 ?_
     exact e8 _ _ m8 (v77, s62.2) (app1 hn8 h) (by omega) ⟨(by repeat' constructor), ⟨⟨_, rfl, .vec⟩, ⟨_, rfl, .boxL rfl ⟨.same rfl, trivial⟩⟩, trivial⟩, rfl⟩
  ·
   replace h := bif_f hb h
   refine H4 ?_
   exact ej6 _ _ s8.2 h ⟨⟨.same rfl, .same rfl, trivial⟩, ⟨⟨_, rfl, .vec⟩, ⟨_, rfl, .boxL rfl ⟨.same rfl, trivial⟩⟩, trivial⟩, rfl⟩
 ·intro j6 h
  replace h := app1 hkj6 h
  refine G3 ?_
  refine G1 (u := .vec 1111 v5 1 r4.length) (G5 rfl rfl) ?_
  refine JL_vfreeze [(3, .ptr 1064 0), (5, LS 1 G2 j6), (56, LS 1 G2 j6)] [(1064, .box 48 [LS 1 G2 p3])] 1111 rfl rfl ⟨⟨_, rfl, .boxEq rfl rfl⟩, trivial⟩ rfl (by exact ⟨.conv (.same rfl), .vec, .vec, trivial⟩) ?_
  refine H6 (u := .junk) (Gz (u := LS 1 G2 j6) (ds := [LS 1 G2 j6]) tf_size_48 rfl rfl rfl rfl rfl rfl rfl rfl) ?_
  refine G9 ?_
  obtain rfl := Option.some.inj h
  exact ⟨[], [(1064, .box 48 [LS 1 G2 j6])], ⟨⟨_, rfl, .boxL rfl ⟨.same rfl, trivial⟩⟩, trivial⟩, rfl, trivial, rfl, rfl⟩

def M_bound_bound (F : Nat) (s : Ship) (l : List G0) : Option Int :=
 bnd (M_ship_Tallest s) fun r3 =>
 chk (2 * (s.Columns.length : Int)) fun v4 =>
 chk (v4 + 1) fun v6 =>
 bnd (natOf v6) fun m7 =>
 need (decide (8 * m7 ≤ 281474976710656 ∧ m7 ≤ maxLen ∧ m7 * 1 ≤ 16777216)) <|
 each (fun y36 i36 (s36 : (List Int)) nx36 =>
  bnd (M_bound_bound_1 F y36 v4 r3 s36) fun r41 =>
  nx36 r41)
 (fun (s36 : (List Int)) =>
  gidx s36 v4 fun y43 =>
  some y43) l 0 (List.replicate m7 (0 : Int))
theorem M_bound_bound_w (F : Nat) (s : Ship) (l : List G0) (r : Int) (h : M_bound_bound F s l = some r) : Pure Try.prog 17 [.agg (Ship.cs s), LS 4 G0.av l] (· = G2 r) := by
 unfold M_bound_bound at h
 refine H0 [.tmp 4] Try.func17 rfl rfl ?_
 refine G6 fun K1 hK1 => G3 ?_
 refine G1 (u := .ptr 1061 0) (J2 (u := .agg (Ship.cs s)) (cs := (Ship.cs s)) 1061 rfl rfl rfl rfl rfl) ?_
 refine G1 (u := G2 0) (Ga rfl rfl) ?_
 refine G9 (hK1 _ _ ?_)
 refine Gq [(1, LS 4 G0.av l), (2, .dptr (Ship.cs s))] [] 1061 rfl rfl rfl trivial rfl (by exact ⟨.conv (.same rfl), .ptr, trivial⟩) ?_
 refine G6 (fun K2 hK2 => ?_)
 obtain ⟨r3, hr3, h⟩ := Gg h
 obtain ⟨v4, hv4, h⟩ := Gy h
 refine JC_draw2 [6, 7, 8, 9] [[[false, false, false, false], [true, false, false, false], [false, true, false, false], [true, true, false, false]], [[false, false, false, false], [true, false, false, false], [false, true, false, false], [true, true, false, false]], [[false, false, false, false], [true, false, false, false], [false, true, false, false], [true, true, false, false], [true, true, true, false]], [[false, false, false, false], [true, false, false, false], [false, true, false, false], [true, true, false, false], [true, true, true, false]], [[false, false, false, false], [true, false, false, false], [false, true, false, false], [true, true, false, false], [true, true, true, false]], [[false, false, false, false], [true, false, false, false], [false, true, false, false], [true, true, false, false], [true, true, true, false]], [[false, false, false, false], [false, true, false, false]], [[false, false, false, false], [true, false, false, false]], [[true, true, false, false]], [[true, true, true, false]]] [([false, false, false, false], []), ([true, false, false, false], [(1062, .box 3 [.junk])]), ([false, true, false, false], [(1063, .box 3 [.junk])]), ([true, true, false, false], [(1062, .box 3 [.junk]), (1063, .box 3 [.junk])]), ([true, true, true, false], [(1062, .box 3 [G2 r3]), (1063, .box 3 [.junk])]), ([true, true, true, true], [(1062, .box 3 [G2 r3]), (1063, .box 3 [G2 v4])])] Hr (by kernel_rfl) rfl rfl ?_
 refine D2_go (u := .agg (Ship.cs s)) rfl ⟨.ro rfl rfl (Gi (Gf Hh rfl rfl rfl) rfl), .ro rfl rfl (Gi (Gf Hh rfl rfl rfl) rfl), .ro rfl rfl (Gi (Gf Hh rfl rfl rfl) rfl), .ro rfl rfl (Gi (Gf Hh rfl rfl rfl) rfl), trivial⟩ ?_ rfl
 refine D2_go (u := G2 r3) rfl ⟨.ro rfl rfl (Gi (Gu (args := [.agg (Ship.cs s)]) rfl (M_ship_Tallest_w s r3 hr3) tf_call_38 ⟨rfl, rfl, trivial⟩) rfl), .ro rfl rfl (Gi (Gu (args := [.agg (Ship.cs s)]) rfl (M_ship_Tallest_w s r3 hr3) tf_call_38 ⟨rfl, rfl, trivial⟩) rfl), .ro rfl rfl (Gi (Gu (args := [.agg (Ship.cs s)]) rfl (M_ship_Tallest_w s r3 hr3) tf_call_38 ⟨rfl, rfl, trivial⟩) rfl), .ro rfl rfl (Gi (Gu (args := [.agg (Ship.cs s)]) rfl (M_ship_Tallest_w s r3 hr3) tf_call_38 ⟨rfl, rfl, trivial⟩) rfl), trivial⟩ ?_ rfl
 refine D2_go (u := .dptr (Ship.cs s)) rfl ⟨.ro rfl rfl (Gi (Gd Hb rfl rfl rfl) rfl), .ro rfl rfl (Gi (Gd Hb rfl rfl rfl) rfl), .ro rfl rfl (Gi (Gd Hb rfl rfl rfl) rfl), .ro rfl rfl (Gi (Gd Hb rfl rfl rfl) rfl), .ro rfl rfl (Gi (Gd Hb rfl rfl rfl) rfl), trivial⟩ ?_ rfl
 refine D2_go (u := LS 12 G8.av s.Columns) rfl ⟨.ro rfl rfl (Gi (Gn Hm rfl rfl rfl) rfl), .ro rfl rfl (Gi (Gn Hm rfl rfl rfl) rfl), .ro rfl rfl (Gi (Gn Hm rfl rfl rfl) rfl), .ro rfl rfl (Gi (Gn Hm rfl rfl rfl) rfl), .ro rfl rfl (Gi (Gn Hm rfl rfl rfl) rfl), trivial⟩ ?_ rfl
 refine D2_go (u := G2 (s.Columns.length : Int)) rfl ⟨.ro rfl rfl (Gi (Jz (f := G8.av) (xs := s.Columns) Ha rfl rfl) rfl), .ro rfl rfl (Gi (Jz (f := G8.av) (xs := s.Columns) Ha rfl rfl) rfl), .ro rfl rfl (Gi (Jz (f := G8.av) (xs := s.Columns) Ha rfl rfl) rfl), .ro rfl rfl (Gi (Jz (f := G8.av) (xs := s.Columns) Ha rfl rfl) rfl), .ro rfl rfl (Gi (Jz (f := G8.av) (xs := s.Columns) Ha rfl rfl) rfl), trivial⟩ ?_ rfl
 refine D2_go (u := G2 v4) rfl ⟨.ro rfl rfl (Gi (A_mul hv4 rfl rfl rfl) rfl), .ro rfl rfl (Gi (A_mul hv4 rfl rfl rfl) rfl), .ro rfl rfl (Gi (A_mul hv4 rfl rfl rfl) rfl), .ro rfl rfl (Gi (A_mul hv4 rfl rfl rfl) rfl), .ro rfl rfl (Gi (A_mul hv4 rfl rfl rfl) rfl), trivial⟩ ?_ rfl
 refine D2_go (u := .ptr 1062 0) rfl ⟨.w [1062] rfl rfl (Gi (H8 1062 1 tf_zsize_3 rfl rfl) rfl) rfl rfl ⟨rfl, trivial⟩, .w [1063, 1062] rfl rfl (Gi (H8 1062 1 tf_zsize_3 rfl rfl) rfl) rfl rfl ⟨rfl, rfl, trivial⟩, trivial⟩ ?_ rfl
 refine D2_go (u := .ptr 1063 0) rfl ⟨.w [1063] rfl rfl (Gi (H8 1063 1 tf_zsize_3 rfl rfl) rfl) rfl rfl ⟨rfl, trivial⟩, .w [1062, 1063] rfl rfl (Gi (H8 1063 1 tf_zsize_3 rfl rfl) rfl) rfl rfl ⟨rfl, rfl, trivial⟩, trivial⟩ ?_ rfl
 refine D2_go0 (u := .junk) rfl ⟨.w [1062, 1063] rfl rfl (Gi (Gz (u := G2 r3) (ds := [G2 r3]) J0 rfl rfl rfl rfl rfl rfl rfl rfl) rfl) rfl rfl ⟨rfl, rfl, trivial⟩, trivial⟩ ?_
 refine D2_go0 (u := .junk) rfl ⟨.w [1062, 1063] rfl rfl (Gi (Gz (u := G2 v4) (ds := [G2 v4]) J0 rfl rfl rfl rfl rfl rfl rfl rfl) rfl) rfl rfl ⟨rfl, rfl, trivial⟩, trivial⟩ ?_
 refine D2_nil ?_
 refine hK2 _ _ ?_
 refine Gq [(1, LS 4 G0.av l), (5, .dptr [G2 r3]), (6, .ptr 1063 0)] [(1063, .box 3 [G2 v4])] 1062 rfl rfl rfl ⟨⟨_, rfl, .boxEq rfl rfl⟩, trivial⟩ rfl (by exact ⟨.conv (.same rfl), .ptr, .conv (.same rfl), trivial⟩) ?_
 refine Gq [(1, LS 4 G0.av l), (5, .dptr [G2 r3]), (6, .dptr [G2 v4])] [] 1063 rfl rfl rfl trivial rfl (by exact ⟨.conv (.same rfl), .conv (.same rfl), .ptr, trivial⟩) ?_
 refine G6 fun K5 hK5 => G3 ?_
 refine G1 (u := G2 v4) (Gn Gc rfl rfl rfl) ?_
 obtain ⟨v6, hv6, h⟩ := Gy h
 refine G1 (u := G2 v6) (H7 hv6 rfl rfl rfl) ?_
 obtain ⟨m7, hm7, h⟩ := Gg h
 obtain ⟨ha8, h⟩ := He h
 refine G1 (u := LS 1 G2 (List.replicate m7 (0 : Int))) (A_makeDM (f := G2) (n := m7) 0 [.int .i64 0] rfl rfl rfl Gr Q0 tf_zero_3 (natOf_out hm7) (natOf_out hm7) ha8 ⟨.inl rfl, trivial⟩ rfl) ?_
 refine G1 (u := .ptr 1064 0) (H8 1064 1 tf_zsize_48 rfl rfl) ?_
 refine H6 (u := .junk) (Gz (u := LS 1 G2 (List.replicate m7 (0 : Int))) (ds := [LS 1 G2 (List.replicate m7 (0 : Int))]) tf_size_48 rfl rfl rfl rfl rfl rfl rfl rfl) ?_
 refine G9 (hK5 _ _ ?_)
 refine G6 fun K9 hK9 => G3 ?_
 refine G1 (u := .fn 39 [.dptr [G2 v4], .dptr [G2 r3], .ptr 1064 0]) (A_makeFunc (cs := [.dptr [G2 v4], .dptr [G2 r3], .ptr 1064 0]) rfl rfl) ?_
 refine G1 (u := .fn 39 [.dptr [G2 v4], .dptr [G2 r3], .ptr 1064 0]) (Ga rfl rfl) ?_
 refine G9 (hK9 _ _ ?_)
 refine G6 (fun K10 hK10 => ?_)
 refine G6 fun K11 hK11 => G3 ?_
 refine G1 (u := LS 4 G0.av l) (G5 rfl rfl) ?_
 refine H9 (f := G0.av) (xs := l) Gs rfl rfl (fun hm22 => ?_) rfl rfl rfl
 refine G1 (u := G2 0) (G5 rfl rfl) ?_
 refine G9 (hK11 _ _ ?_)
 refine Gk ?_
 obtain ⟨b36, kx36, hb36, hkx36, h⟩ := Hj h
 refine H2 (fun i36 (s36 : (List Int)) => each b36 kx36 (List.drop i36 l) i36 s36 = some r) (fun i36 s36 => [(6, .dptr [G2 v4]), (7, .ptr 1064 0), (8, .fn 39 [.dptr [G2 v4], .dptr [G2 r3], .ptr 1064 0]), (21, LS 4 G0.av l), (22, G2 (l.length : Int)), (23, G2 (i36 : Int))]) (fun i36 s36 => [(1064, .box 48 [LS 1 G2 s36])]) (fun i36 => l.length - i36) 0 (List.replicate m7 (0 : Int)) h ⟨(by repeat' constructor), ⟨⟨_, rfl, .boxL rfl ⟨.same rfl, trivial⟩⟩, trivial⟩, rfl⟩ ?_
 clear h
 intro i36 s36 hi36 K36 e36
 refine G6 fun K37 hK37 => G3 ?_
 refine G1 (u := BL (decide ((i36 : Int) < (l.length : Int)))) (Hg rfl rfl rfl) ?_
 refine G9 (hK37 _ _ ?_)
 refine G6 (fun K38 hK38 => ?_)
 refine Gm rfl (fun hb => ?_) (fun hb => ?_)
 ·
  have hk36 := lt_len hb
  obtain ⟨y36, nx36, hy36, hn36, h⟩ := Hc hi36 hk36
  replace h := app4 hb36 h
  refine Gp ?_
  refine hK38 _ _ ?_
  refine G6 (fun K39 hK39 => ?_)
  refine Gk ?_
  refine G6 fun K40 hK40 => G3 ?_
  refine G1 (u := .dptr (G0.cs y36)) (Gw (f := G0.av) (xs := l) (y := y36) rfl rfl rfl Gs hy36 rfl) ?_
  refine G1 (u := .agg (G0.cs y36)) (Gf Hv rfl rfl rfl) ?_
  refine G1 (u := .ptr 1065 0) (H8 1065 4 Hw rfl rfl) ?_
  refine H6 (u := .junk) (Gz (u := .agg (G0.cs y36)) (ds := [G2 y36.G7.Load, G2 y36.G7.Discharge, G2 y36.Whole, G2 y36.Half]) tf_size_83 rfl rfl rfl rfl rfl rfl rfl rfl) ?_
  refine G9 (hK40 _ _ ?_)
  refine Gq [(6, .dptr [G2 v4]), (7, .ptr 1064 0), (8, .fn 39 [.dptr [G2 v4], .dptr [G2 r3], .ptr 1064 0]), (10, .dptr (G0.cs y36)), (21, LS 4 G0.av l), (22, G2 (l.length : Int)), (23, G2 (i36 : Int))] [(1064, .box 48 [LS 1 G2 s36])] 1065 rfl rfl rfl ⟨⟨_, rfl, .boxEq rfl rfl⟩, trivial⟩ rfl (by repeat' (first | exact .ptr | constructor)) ?_
  refine G3 ?_
  refine G1 (u := .fn 39 [.dptr [G2 v4], .dptr [G2 r3], .ptr 1064 0]) (G5 rfl rfl) ?_
  refine G1 (u := .agg (G0.cs y36)) (Gf Hv rfl rfl rfl) ?_
  obtain ⟨r41, hr41, h⟩ := Gg h
  refine G1 (u := .tup []) (A_callVL (args := [.agg (G0.cs y36)]) (caps := [.dptr [G2 v4], .dptr [G2 r3], .ptr 1064 0]) (L0 := [(1064, .box 48 [LS 1 G2 s36])]) (Lr := [(1064, .box 48 [LS 1 G2 r41])]) rfl rfl (M_bound_bound_1_w F y36 v4 r3 s36 r41 hr41) tf_call_39 ⟨.inl rfl, rfl, trivial⟩ rfl ⟨rfl, trivial⟩ rfl rfl rfl) ?_
  refine G9 (hK39 _ _ ?_)
  refine G3 ?_
  refine G1 (u := G2 ((i36 + 1 : Nat) : Int)) (H7 (idx_succ hk36 hm22) rfl rfl rfl) ?_
  refine G1 (u := G2 ((i36 + 1 : Nat) : Int)) (G5 rfl rfl) ?_
  refine G9 ?_
  exact e36 _ _ (i36 + 1) r41 (app1 hn36 h) (by omega) ⟨(by repeat' constructor), ⟨⟨_, rfl, .boxL rfl ⟨.same rfl, trivial⟩⟩, trivial⟩, rfl⟩
 ·
  have h := app1 hkx36 (Hd hi36 (H3 hb))
  refine H4 ?_
  refine hK10 _ _ ?_
  refine G6 fun K42 hK42 => G3 ?_
  refine G1 (u := LS 1 G2 s36) (J5 tf_scalar_48 rfl rfl rfl rfl) ?_
  refine G1 (u := G2 v4) (Gn Gc rfl rfl rfl) ?_
  obtain ⟨m44, y43, hm44, hy43, h⟩ := Je h
  refine G1 (u := .dptr [G2 y43]) (Gw (f := G2) (xs := s36) (y := y43) rfl rfl rfl Gr hy43 hm44) ?_
  refine G1 (u := G2 y43) (Gn Gc rfl rfl rfl) ?_
  refine G1 (u := G2 y43) (Ga rfl rfl) ?_
  refine G9 (hK42 _ _ ?_)
  refine Gt ?_
  exact ⟨[G2 y43], [], trivial, rfl, ⟨⟨_, rfl, .conv (.same rfl)⟩, trivial⟩, rfl, congrArg (fun r : Int => (G2 r : AV)) (Option.some.inj h)⟩

def M_bound_Find_1 (F : Nat) (l : List G0) (p1 : Ship) : Option Int :=
 bnd (M_bound_bound F p1 l) fun r3 =>
 some r3
theorem M_bound_Find_1_w (F : Nat) (l : List G0) (p1 : Ship) (r : Int) (h : M_bound_Find_1 F l p1 = some r) : Pure Try.prog 16 [LS 4 G0.av l, .dptr (Ship.cs p1)] (· = G2 r) := by
 unfold M_bound_Find_1 at h
 refine H0 [.tmp 3] Try.func16 rfl rfl ?_
 refine G6 fun K1 hK1 => G3 ?_
 refine G1 (u := G2 0) (Ga rfl rfl) ?_
 refine G9 (hK1 _ _ ?_)
 refine G6 fun K2 hK2 => G3 ?_
 refine G1 (u := .agg (Ship.cs p1)) (Gf Hh rfl rfl rfl) ?_
 refine G1 (u := LS 4 G0.av l) (G5 rfl rfl) ?_
 obtain ⟨r3, hr3, h⟩ := Gg h
 refine G1 (u := G2 r3) (Gu (args := [.agg (Ship.cs p1), LS 4 G0.av l]) rfl (M_bound_bound_w F p1 l r3 hr3) tf_call_17 ⟨rfl, rfl, rfl, rfl, trivial⟩) ?_
 refine G1 (u := G2 r3) (Ga rfl rfl) ?_
 refine G9 (hK2 _ _ ?_)
 refine Gt ?_
 exact ⟨[G2 r3], [], trivial, rfl, ⟨⟨_, rfl, .conv (.same rfl)⟩, trivial⟩, rfl, congrArg (fun r : Int => (G2 r : AV)) (Option.some.inj h)⟩

def M_bound_greatest_boundCount (l : List (List G0)) (number : (List G0) → Option Int) : Option ((List G0) × Int) :=
 each (fun y22 i22 (s22 : (List G0) × Int) nx22 =>
  jp (fun kj25 =>
   bnd (number y22) fun r28 =>
   bif decide (s22.2 < r28) then
   (kj25 (y22, r28))
   else
   (kj25 (s22.1, s22.2))) fun (j25 : (List G0) × Int) =>
  nx22 (j25.1, j25.2))
 (fun (s22 : (List G0) × Int) =>
  some (s22.1, s22.2)) l 0 ([], 0)
theorem M_bound_greatest_boundCount_w (l : List (List G0)) (number : (List G0) → Option Int) (number_f : FuncId) (number_c : List AV) (number_B : callB Try.prog number_f = true) (number_d : refsL (fun _ => false) number_c = true) (number_w : ∀ a0 q, number a0 = some q → Pure Try.prog number_f ([LS 4 G0.av a0] ++ number_c) (· = G2 q)) (r : (List G0) × Int) (h : M_bound_greatest_boundCount l number = some r) : Pure Try.prog 15 [LS 1 (LS 4 G0.av) l, .fn number_f number_c] (· = .tup [LS 4 G0.av r.1, G2 r.2]) := by
 unfold M_bound_greatest_boundCount at h
 refine H0 [.tmp 4, .tmp 5] Try.func15 rfl rfl ?_
 refine G6 fun K1 hK1 => G3 ?_
 refine G1 (u := LS 4 G0.av ([] : List G0)) (J4 4 rfl rfl) ?_
 refine G1 (u := G2 0) (Ga rfl rfl) ?_
 refine G9 (hK1 _ _ ?_)
 refine G6 fun K2 hK2 => G3 ?_
 refine G1 (u := LS 4 G0.av ([] : List G0)) (J4 4 rfl rfl) ?_
 refine G9 (hK2 _ _ ?_)
 refine G6 fun K3 hK3 => G3 ?_
 refine G1 (u := G2 0) (Ga rfl rfl) ?_
 refine G9 (hK3 _ _ ?_)
 refine G6 (fun K4 hK4 => ?_)
 refine G6 fun K5 hK5 => G3 ?_
 refine G1 (u := LS 1 (LS 4 G0.av) l) (G5 rfl rfl) ?_
 refine H9 (f := (LS 4 G0.av)) (xs := l) tf_slice_76 rfl rfl (fun hm12 => ?_) rfl rfl rfl
 refine G1 (u := G2 0) (G5 rfl rfl) ?_
 refine G9 (hK5 _ _ ?_)
 refine Gk ?_
 obtain ⟨b22, kx22, hb22, hkx22, h⟩ := Hj h
 refine H2 (fun i22 (s22 : (List G0) × Int) => each b22 kx22 (List.drop i22 l) i22 s22 = some r) (fun i22 s22 => [(1, .fn number_f number_c), (6, LS 4 G0.av s22.1), (7, G2 s22.2), (11, LS 1 (LS 4 G0.av) l), (12, G2 (l.length : Int)), (13, G2 (i22 : Int))]) (fun i22 s22 => []) (fun i22 => l.length - i22) 0 ([], 0) h ⟨⟨.same (refsL_any _ _ number_d), .same rfl, .same rfl, .same rfl, .same rfl, .same rfl, trivial⟩, trivial, rfl⟩ ?_
 clear h
 intro i22 s22 hi22 K22 e22
 refine G6 fun K23 hK23 => G3 ?_
 refine G1 (u := BL (decide ((i22 : Int) < (l.length : Int)))) (Hg rfl rfl rfl) ?_
 refine G9 (hK23 _ _ ?_)
 refine G6 (fun K24 hK24 => ?_)
 refine Gm rfl (fun hb => ?_) (fun hb => ?_)
 ·
  have hk22 := lt_len hb
  obtain ⟨y22, nx22, hy22, hn22, h⟩ := Hc hi22 hk22
  replace h := app4 hb22 h
  refine Gp ?_
  refine hK24 _ _ ?_
  obtain ⟨kj25, hkj25, h⟩ := Jf h
  refine Ht (fun j25 : (List G0) × Int => kj25 j25 = some r) (fun j25 => [(1, .fn number_f number_c), (6, LS 4 G0.av j25.1), (7, G2 j25.2), (11, LS 1 (LS 4 G0.av) l), (12, G2 (l.length : Int)), (13, G2 (i22 : Int))]) (fun j25 => []) (fun Kj25 ej25 => ?_) ?_
  ·
   refine Gk ?_
   refine G6 fun K26 hK26 => G3 ?_
   refine G1 (u := .dptr [LS 4 G0.av y22]) (Gw (f := (LS 4 G0.av)) (xs := l) (y := y22) rfl rfl rfl tf_slice_76 hy22 rfl) ?_
   refine G1 (u := LS 4 G0.av y22) (Gn tf_scalar_74 rfl rfl rfl) ?_
   refine G1 (u := LS 4 G0.av y22) (Ga rfl rfl) ?_
   refine G9 (hK26 _ _ ?_)
   refine G6 fun K27 hK27 => G3 ?_
   refine G1 (u := .fn number_f number_c) (G5 rfl rfl) ?_
   refine G1 (u := LS 4 G0.av y22) (G5 rfl rfl) ?_
   obtain ⟨r28, hr28, h⟩ := Gg h
   refine G1 (u := G2 r28) (A_callV1 (args := [LS 4 G0.av y22]) (caps := number_c) rfl rfl (number_w y22 _ hr28) number_B ⟨rfl, rfl, trivial⟩ number_d) ?_
   refine G1 (u := G2 r28) (Ga rfl rfl) ?_
   refine G9 (hK27 _ _ ?_)
   refine G6 fun K29 hK29 => G3 ?_
   refine G1 (u := G2 r28) (G5 rfl rfl) ?_
   refine G1 (u := G2 s22.2) (G5 rfl rfl) ?_
   refine G1 (u := BL (decide (s22.2 < r28))) (Jy rfl rfl rfl) ?_
   refine G9 (hK29 _ _ ?_)
   refine Gm rfl (fun hb => ?_) (fun hb => ?_)
   ·
    replace h := bif_t hb h
    refine G3 ?_
    refine G1 (u := LS 4 G0.av y22) (G5 rfl rfl) ?_
    refine G1 (u := G2 r28) (G5 rfl rfl) ?_
    refine G1 (u := LS 4 G0.av y22) (Ga rfl rfl) ?_
    refine G1 (u := G2 r28) (Ga rfl rfl) ?_
    refine G9 ?_
    exact ej25 _ _ (y22, r28) h ⟨⟨.same (refsL_any _ _ number_d), .same rfl, .same rfl, .same rfl, .same rfl, .same rfl, trivial⟩, trivial, rfl⟩
   ·
    replace h := bif_f hb h
    refine Gp ?_
    exact ej25 _ _ (s22.1, s22.2) h ⟨⟨.same (refsL_any _ _ number_d), .same rfl, .same rfl, .same rfl, .same rfl, .same rfl, trivial⟩, trivial, rfl⟩
  ·intro j25 h
   replace h := app1 hkj25 h
   refine G3 ?_
   refine G1 (u := G2 ((i22 + 1 : Nat) : Int)) (H7 (idx_succ hk22 hm12) rfl rfl rfl) ?_
   refine G1 (u := G2 ((i22 + 1 : Nat) : Int)) (G5 rfl rfl) ?_
   refine G9 ?_
   exact e22 _ _ (i22 + 1) (j25.1, j25.2) (app1 hn22 h) (by omega) ⟨⟨.same (refsL_any _ _ number_d), .same rfl, .same rfl, .same rfl, .same rfl, .same rfl, trivial⟩, trivial, rfl⟩
 ·
  have h := app1 hkx22 (Hd hi22 (H3 hb))
  refine H4 ?_
  refine hK4 _ _ ?_
  refine G6 fun K30 hK30 => G3 ?_
  refine G1 (u := LS 4 G0.av s22.1) (G5 rfl rfl) ?_
  refine G1 (u := G2 s22.2) (G5 rfl rfl) ?_
  refine G1 (u := LS 4 G0.av s22.1) (Ga rfl rfl) ?_
  refine G1 (u := G2 s22.2) (Ga rfl rfl) ?_
  refine G9 (hK30 _ _ ?_)
  refine Gt ?_
  exact ⟨[LS 4 G0.av s22.1, G2 s22.2], [], trivial, rfl, ⟨⟨_, rfl, .conv (.same rfl)⟩, ⟨_, rfl, .conv (.same rfl)⟩, trivial⟩, rfl, congrArg (fun r : (List G0) × Int => (.tup [LS 4 G0.av r.1, G2 r.2] : AV)) (Option.some.inj h)⟩

def M_slices_Index_apiGroup (s : List G7) (v : G7) : Option Int :=
 each (fun y18 i18 (s18 : Unit) nx18 =>
  bif decide (v = y18) then
  (some (i18 : Int))
  else
  (nx18 ()))
 (fun (s18 : Unit) =>
  some (-1)) s 0 ()
theorem M_slices_Index_apiGroup_w (s : List G7) (v : G7) (r : Int) (h : M_slices_Index_apiGroup s v = some r) : Pure Try.prog 43 [LS 2 G7.av s, .agg [G2 v.Load, G2 v.Discharge]] (· = G2 r) := by
 unfold M_slices_Index_apiGroup at h
 refine H0 [.tmp 4] Try.func43 rfl rfl ?_
 refine G6 fun K1 hK1 => G3 ?_
 refine G1 (u := .ptr 1113 0) (J2 (u := .agg [G2 v.Load, G2 v.Discharge]) (cs := [G2 v.Load, G2 v.Discharge]) 1113 rfl rfl rfl rfl rfl) ?_
 refine G1 (u := G2 0) (Ga rfl rfl) ?_
 refine G9 (hK1 _ _ ?_)
 refine Gq [(0, LS 2 G7.av s), (3, .dptr [G2 v.Load, G2 v.Discharge])] [] 1113 rfl rfl rfl trivial rfl (by exact ⟨.conv (.same rfl), .ptr, trivial⟩) ?_
 refine G6 (fun K2 hK2 => ?_)
 refine G6 fun K3 hK3 => G3 ?_
 refine G1 (u := LS 2 G7.av s) (G5 rfl rfl) ?_
 refine H9 (f := G7.av) (xs := s) H5 rfl rfl (fun hm7 => ?_) rfl rfl rfl
 refine G1 (u := G2 0) (G5 rfl rfl) ?_
 refine G9 (hK3 _ _ ?_)
 refine Gk ?_
 obtain ⟨b18, kx18, hb18, hkx18, h⟩ := Hj h
 refine H2 (fun i18 (s18 : Unit) => each b18 kx18 (List.drop i18 s) i18 s18 = some r) (fun i18 s18 => [(0, LS 2 G7.av s), (3, .dptr [G2 v.Load, G2 v.Discharge]), (7, G2 (s.length : Int)), (8, G2 (i18 : Int))]) (fun i18 s18 => []) (fun i18 => s.length - i18) 0 () h ⟨(by repeat' constructor), trivial, rfl⟩ ?_
 clear h
 intro i18 s18 hi18 K18 e18
 refine G6 fun K19 hK19 => G3 ?_
 refine G1 (u := BL (decide ((i18 : Int) < (s.length : Int)))) (Hg rfl rfl rfl) ?_
 refine G9 (hK19 _ _ ?_)
 refine G6 (fun K20 hK20 => ?_)
 refine Gm rfl (fun hb => ?_) (fun hb => ?_)
 ·
  have hk18 := lt_len hb
  obtain ⟨y18, nx18, hy18, hn18, h⟩ := Hc hi18 hk18
  replace h := app4 hb18 h
  refine Gp ?_
  refine hK20 _ _ ?_
  refine G6 (fun K21 hK21 => ?_)
  refine Gk ?_
  refine G6 fun K22 hK22 => G3 ?_
  refine G1 (u := G2 (i18 : Int)) (G5 rfl rfl) ?_
  refine G1 (u := G2 (i18 : Int)) (Ga rfl rfl) ?_
  refine G9 (hK22 _ _ ?_)
  refine G6 (fun K23 hK23 => ?_)
  refine Hy [] [0, 0, 0, 0, 0, 0] [0, 0, 0, 0, 0, 0] [[]] Hr (by kernel_rfl) rfl rfl ?_
  refine Ge (u := .agg [G2 v.Load, G2 v.Discharge]) rfl rfl ⟨Gi (Gf Hf rfl rfl rfl) rfl, trivial⟩ ?_
  refine Ge (u := LS 2 G7.av s) rfl rfl ⟨Gi (G5 rfl rfl) rfl, trivial⟩ ?_
  refine Ge (u := G2 (i18 : Int)) rfl rfl ⟨Gi (G5 rfl rfl) rfl, trivial⟩ ?_
  refine Ge (u := .dptr [G2 y18.Load, G2 y18.Discharge]) rfl rfl ⟨Gi (Gw (f := G7.av) (xs := s) (y := y18) rfl rfl rfl H5 hy18 rfl) rfl, trivial⟩ ?_
  refine Ge (u := .agg [G2 y18.Load, G2 y18.Discharge]) rfl rfl ⟨Gi (Gf Hf rfl rfl rfl) rfl, trivial⟩ ?_
  refine Ge (u := BL (decide (v = y18))) rfl rfl ⟨Gi (A_eqAgg (vs := [.int .i64 v.Load, .int .i64 v.Discharge]) (us := [.int .i64 y18.Load, .int .i64 y18.Discharge]) 4 rfl (tq_56 v y18) tf_aggof_56 tf_eqg_56 rfl rfl rfl) rfl, trivial⟩ ?_
  refine Q3 ?_
  refine hK23 _ _ ?_
  refine Gm rfl (fun hb => ?_) (fun hb => ?_)
  ·
   replace h := bif_t hb h
   refine G6 fun K24 hK24 => G3 ?_
   refine G1 (u := G2 (i18 : Int)) (G5 rfl rfl) ?_
   refine G1 (u := G2 (i18 : Int)) (Ga rfl rfl) ?_
   refine G9 (hK24 _ _ ?_)
   refine Gt ?_
   exact ⟨[G2 (i18 : Int)], [], trivial, rfl, ⟨⟨_, rfl, .conv (.same rfl)⟩, trivial⟩, rfl, congrArg (fun r : Int => (G2 r : AV)) (Option.some.inj h)⟩
  ·
   replace h := bif_f hb h
   refine Gp ?_
   refine hK21 _ _ ?_
   refine G3 ?_
   refine G1 (u := G2 ((i18 + 1 : Nat) : Int)) (H7 (idx_succ hk18 hm7) rfl rfl rfl) ?_
   refine G1 (u := G2 ((i18 + 1 : Nat) : Int)) (G5 rfl rfl) ?_
   refine G9 ?_
   exact e18 _ _ (i18 + 1) () (app1 hn18 h) (by omega) ⟨(by repeat' constructor), trivial, rfl⟩
 ·
  have h := app1 hkx18 (Hd hi18 (H3 hb))
  refine H4 ?_
  refine hK2 _ _ ?_
  refine G6 fun K25 hK25 => G3 ?_
  refine G1 (u := G2 (-1)) (Ga rfl rfl) ?_
  refine G9 (hK25 _ _ ?_)
  refine Gt ?_
  exact ⟨[G2 (-1)], [], trivial, rfl, ⟨⟨_, rfl, .conv (.same rfl)⟩, trivial⟩, rfl, congrArg (fun r : Int => (G2 r : AV)) (Option.some.inj h)⟩

def M_slices_Contains_apiGroup (s : List G7) (v : G7) : Option Bool :=
 bnd (M_slices_Index_apiGroup s v) fun r3 =>
 some (decide (0 ≤ r3))
theorem M_slices_Contains_apiGroup_w (s : List G7) (v : G7) (r : Bool) (h : M_slices_Contains_apiGroup s v = some r) : Pure Try.prog 20 [LS 2 G7.av s, .agg [G2 v.Load, G2 v.Discharge]] (· = BL r) := by
 unfold M_slices_Contains_apiGroup at h
 refine H0 [.tmp 4] Try.func20 rfl rfl ?_
 refine G6 fun K1 hK1 => G3 ?_
 refine G1 (u := .ptr 1069 0) (J2 (u := .agg [G2 v.Load, G2 v.Discharge]) (cs := [G2 v.Load, G2 v.Discharge]) 1069 rfl rfl rfl rfl rfl) ?_
 refine G1 (u := BL false) (Ga rfl rfl) ?_
 refine G9 (hK1 _ _ ?_)
 refine Gq [(0, LS 2 G7.av s), (3, .dptr [G2 v.Load, G2 v.Discharge])] [] 1069 rfl rfl rfl trivial rfl (by exact ⟨.conv (.same rfl), .ptr, trivial⟩) ?_
 refine G6 fun K2 hK2 => G3 ?_
 refine G1 (u := LS 2 G7.av s) (G5 rfl rfl) ?_
 refine G1 (u := .agg [G2 v.Load, G2 v.Discharge]) (Gf Hf rfl rfl rfl) ?_
 obtain ⟨r3, hr3, h⟩ := Gg h
 refine G1 (u := G2 r3) (Gu (args := [LS 2 G7.av s, .agg [G2 v.Load, G2 v.Discharge]]) rfl (M_slices_Index_apiGroup_w s v r3 hr3) tf_call_43 ⟨rfl, rfl, rfl, rfl, trivial⟩) ?_
 refine G1 (u := BL (decide (0 ≤ r3))) (A_geq rfl rfl rfl) ?_
 refine G1 (u := BL (decide (0 ≤ r3))) (Ga rfl rfl) ?_
 refine G9 (hK2 _ _ ?_)
 refine Gt ?_
 exact ⟨[BL (decide (0 ≤ r3))], [], trivial, rfl, ⟨⟨_, rfl, .conv (.same rfl)⟩, trivial⟩, rfl, congrArg (fun r : Bool => (BL r : AV)) (Option.some.inj h)⟩

def M_bound_Find_2 (c : G0) (p1 : List G7) : Option Bool :=
 bnd (M_slices_Contains_apiGroup p1 c.G7) fun r3 =>
 some r3
theorem M_bound_Find_2_w (c : G0) (p1 : List G7) (r : Bool) (h : M_bound_Find_2 c p1 = some r) : Pure Try.prog 19 [.agg (G0.cs c), .dptr [LS 2 G7.av p1]] (· = BL r) := by
 unfold M_bound_Find_2 at h
 refine H0 [.tmp 3] Try.func19 rfl rfl ?_
 refine G6 fun K1 hK1 => G3 ?_
 refine G1 (u := .ptr 1068 0) (J2 (u := .agg (G0.cs c)) (cs := [G2 c.G7.Load, G2 c.G7.Discharge, G2 c.Whole, G2 c.Half]) 1068 rfl rfl rfl rfl rfl) ?_
 refine G1 (u := BL false) (Ga rfl rfl) ?_
 refine G9 (hK1 _ _ ?_)
 refine Gq [(1, .dptr [LS 2 G7.av p1]), (2, .dptr (G0.cs c))] [] 1068 rfl rfl rfl trivial rfl (by exact ⟨.conv (.same rfl), .ptr, trivial⟩) ?_
 refine G6 fun K2 hK2 => G3 ?_
 refine G1 (u := LS 2 G7.av p1) (Gn tf_scalar_52 rfl rfl rfl) ?_
 refine G1 (u := .dptr (G0.cs c)) (Gd Ho rfl rfl rfl) ?_
 refine G1 (u := .agg [G2 c.G7.Load, G2 c.G7.Discharge]) (Gf Hf rfl rfl rfl) ?_
 obtain ⟨r3, hr3, h⟩ := Gg h
 refine G1 (u := BL r3) (Gu (args := [LS 2 G7.av p1, .agg [G2 c.G7.Load, G2 c.G7.Discharge]]) rfl (M_slices_Contains_apiGroup_w p1 c.G7 r3 hr3) tf_call_20 ⟨rfl, rfl, rfl, rfl, trivial⟩) ?_
 refine G1 (u := BL r3) (Ga rfl rfl) ?_
 refine G9 (hK2 _ _ ?_)
 refine Gt ?_
 exact ⟨[BL r3], [], trivial, rfl, ⟨⟨_, rfl, .conv (.same rfl)⟩, trivial⟩, rfl, congrArg (fun r : Bool => (BL r : AV)) (Option.some.inj h)⟩

def M_slices_IndexFunc_boundCount (s : List G0) (f : G0 → Option Bool) : Option Int :=
 each (fun y20 i20 (s20 : Unit) nx20 =>
  bnd (f y20) fun r26 =>
  bif r26 then
  (some (i20 : Int))
  else
  (nx20 ()))
 (fun (s20 : Unit) =>
  some (-1)) s 0 ()
theorem M_slices_IndexFunc_boundCount_w (s : List G0) (f : G0 → Option Bool) (f_f : FuncId) (f_c : List AV) (f_B : callB Try.prog f_f = true) (f_d : refsL (fun _ => false) f_c = true) (f_w : ∀ a0 q, f a0 = some q → Pure Try.prog f_f ([.agg (G0.cs a0)] ++ f_c) (· = BL q)) (r : Int) (h : M_slices_IndexFunc_boundCount s f = some r) : Pure Try.prog 42 [LS 4 G0.av s, .fn f_f f_c] (· = G2 r) := by
 unfold M_slices_IndexFunc_boundCount at h
 refine H0 [.tmp 4] Try.func42 rfl rfl ?_
 refine G6 fun K1 hK1 => G3 ?_
 refine G1 (u := G2 0) (Ga rfl rfl) ?_
 refine G9 (hK1 _ _ ?_)
 refine G6 (fun K2 hK2 => ?_)
 refine G6 fun K3 hK3 => G3 ?_
 refine G1 (u := LS 4 G0.av s) (G5 rfl rfl) ?_
 refine H9 (f := G0.av) (xs := s) Gs rfl rfl (fun hm7 => ?_) rfl rfl rfl
 refine G1 (u := G2 0) (G5 rfl rfl) ?_
 refine G9 (hK3 _ _ ?_)
 refine Gk ?_
 obtain ⟨b20, kx20, hb20, hkx20, h⟩ := Hj h
 refine H2 (fun i20 (s20 : Unit) => each b20 kx20 (List.drop i20 s) i20 s20 = some r) (fun i20 s20 => [(0, LS 4 G0.av s), (1, .fn f_f f_c), (7, G2 (s.length : Int)), (8, G2 (i20 : Int))]) (fun i20 s20 => []) (fun i20 => s.length - i20) 0 () h ⟨⟨.same rfl, .same (refsL_any _ _ f_d), .same rfl, .same rfl, trivial⟩, trivial, rfl⟩ ?_
 clear h
 intro i20 s20 hi20 K20 e20
 refine G6 fun K21 hK21 => G3 ?_
 refine G1 (u := BL (decide ((i20 : Int) < (s.length : Int)))) (Hg rfl rfl rfl) ?_
 refine G9 (hK21 _ _ ?_)
 refine G6 (fun K22 hK22 => ?_)
 refine Gm rfl (fun hb => ?_) (fun hb => ?_)
 ·
  have hk20 := lt_len hb
  obtain ⟨y20, nx20, hy20, hn20, h⟩ := Hc hi20 hk20
  replace h := app4 hb20 h
  refine Gp ?_
  refine hK22 _ _ ?_
  refine G6 (fun K23 hK23 => ?_)
  refine Gk ?_
  refine G6 fun K24 hK24 => G3 ?_
  refine G1 (u := G2 (i20 : Int)) (G5 rfl rfl) ?_
  refine G1 (u := G2 (i20 : Int)) (Ga rfl rfl) ?_
  refine G9 (hK24 _ _ ?_)
  refine G6 fun K25 hK25 => G3 ?_
  refine G1 (u := .fn f_f f_c) (G5 rfl rfl) ?_
  refine G1 (u := LS 4 G0.av s) (G5 rfl rfl) ?_
  refine G1 (u := G2 (i20 : Int)) (G5 rfl rfl) ?_
  refine G1 (u := .dptr (G0.cs y20)) (Gw (f := G0.av) (xs := s) (y := y20) rfl rfl rfl Gs hy20 rfl) ?_
  refine G1 (u := .agg (G0.cs y20)) (Gf Hv rfl rfl rfl) ?_
  obtain ⟨r26, hr26, h⟩ := Gg h
  refine G1 (u := BL r26) (A_callV1 (args := [.agg (G0.cs y20)]) (caps := f_c) rfl rfl (f_w y20 _ hr26) f_B ⟨rfl, rfl, trivial⟩ f_d) ?_
  refine G9 (hK25 _ _ ?_)
  refine Gm rfl (fun hb => ?_) (fun hb => ?_)
  ·
   replace h := bif_t hb h
   refine G6 fun K27 hK27 => G3 ?_
   refine G1 (u := G2 (i20 : Int)) (G5 rfl rfl) ?_
   refine G1 (u := G2 (i20 : Int)) (Ga rfl rfl) ?_
   refine G9 (hK27 _ _ ?_)
   refine Gt ?_
   exact ⟨[G2 (i20 : Int)], [], trivial, rfl, ⟨⟨_, rfl, .conv (.same rfl)⟩, trivial⟩, rfl, congrArg (fun r : Int => (G2 r : AV)) (Option.some.inj h)⟩
  ·
   replace h := bif_f hb h
   refine Gp ?_
   refine hK23 _ _ ?_
   refine G3 ?_
   refine G1 (u := G2 ((i20 + 1 : Nat) : Int)) (H7 (idx_succ hk20 hm7) rfl rfl rfl) ?_
   refine G1 (u := G2 ((i20 + 1 : Nat) : Int)) (G5 rfl rfl) ?_
   refine G9 ?_
   exact e20 _ _ (i20 + 1) () (app1 hn20 h) (by omega) ⟨⟨.same rfl, .same (refsL_any _ _ f_d), .same rfl, .same rfl, trivial⟩, trivial, rfl⟩
 ·
  have h := app1 hkx20 (Hd hi20 (H3 hb))
  refine H4 ?_
  refine hK2 _ _ ?_
  refine G6 fun K28 hK28 => G3 ?_
  refine G1 (u := G2 (-1)) (Ga rfl rfl) ?_
  refine G9 (hK28 _ _ ?_)
  refine Gt ?_
  exact ⟨[G2 (-1)], [], trivial, rfl, ⟨⟨_, rfl, .conv (.same rfl)⟩, trivial⟩, rfl, congrArg (fun r : Int => (G2 r : AV)) (Option.some.inj h)⟩


theorem M_bound_chain_p140000008 (F : Nat) (counts : List G0) (counts_q : Nat) (call : Int) (r : (List G0)) (h : M_bound_chain F counts call = some r) : ACalls Try.prog 14 [.vec 1052 counts_q 4 counts.length, G2 call] [(1052, .vec 83 4 counts_q (counts.map G0.av))] (fun av L' => av = LS 4 G0.av r ∧ L' = [(1052, .vec 83 4 counts_q (counts.map G0.av))]) := by
 unfold M_bound_chain at h
 refine ACalls_ofG [1052] [.tmp 4] Try.func14 rfl rfl (inAll rfl) ?_
 refine G6 fun K1 hK1 => G3 ?_
 refine G1 (u := LS 4 G0.av ([] : List G0)) (J4 4 rfl rfl) ?_
 refine G9 (hK1 _ _ ?_)
 refine G6 fun K2 hK2 => G3 ?_
 refine G1 (u := OW 1056 4 G0.av ([] : List G0)) (A_nilOwn 1056 83 4 rfl rfl rfl) ?_
 refine G9 (hK2 _ _ ?_)
 refine G6 (fun K3 hK3 => ?_)
 refine G6 fun K4 hK4 => G3 ?_
 refine G1 (u := .vec 1052 counts_q 4 counts.length) (G5 rfl rfl) ?_
 refine JL_vlenM (f := G0.av) (xs := counts) Gs rfl rfl rfl (fun hm16 => ?_) rfl rfl rfl
 refine G1 (u := G2 0) (G5 rfl rfl) ?_
 refine G9 (hK4 _ _ ?_)
 refine Gk ?_
 obtain ⟨b17, kx17, hb17, hkx17, h⟩ := Hj h
 refine H2 (fun i17 (s17 : (List G0)) => each b17 kx17 (List.drop i17 counts) i17 s17 = some r) (fun i17 s17 => [(1, G2 call), (5, OW 1056 4 G0.av s17), (15, .vec 1052 counts_q 4 counts.length), (16, G2 (counts.length : Int)), (17, G2 (i17 : Int))]) (fun i17 s17 => [(1052, .vec 83 4 counts_q (counts.map G0.av)), (1056, .spare 83 4 s17.length s17.length)]) (fun i17 => counts.length - i17) 0 [] h ⟨(by repeat' constructor), ⟨⟨_, rfl, .vec⟩, ⟨_, rfl, .same⟩, trivial⟩, rfl⟩ ?_
 clear h
 intro i17 s17 hi17 K17 e17
 refine G6 fun K18 hK18 => G3 ?_
 refine G1 (u := BL (decide ((i17 : Int) < (counts.length : Int)))) (Hg rfl rfl rfl) ?_
 refine G9 (hK18 _ _ ?_)
 refine G6 (fun K19 hK19 => ?_)
 refine Gm rfl (fun hb => ?_) (fun hb => ?_)
 ·
  have hk17 := lt_len hb
  obtain ⟨y17, nx17, hy17, hn17, h⟩ := Hc hi17 hk17
  replace h := app4 hb17 h
  refine Gp ?_
  refine hK19 _ _ ?_
  obtain ⟨kj20, hkj20, h⟩ := Jf h
  refine Ht (fun j20 : (List G0) => kj20 j20 = some r) (fun j20 => [(1, G2 call), (5, OW 1056 4 G0.av j20), (15, .vec 1052 counts_q 4 counts.length), (16, G2 (counts.length : Int)), (17, G2 (i17 : Int))]) (fun j20 => [(1052, .vec 83 4 counts_q (counts.map G0.av)), (1056, .spare 83 4 j20.length j20.length)]) (fun Kj20 ej20 => ?_) ?_
  ·
   refine Gk ?_
   refine G6 fun K21 hK21 => G3 ?_
   refine G1 (u := .vptr 1052 counts_q i17 0) (J1 (f := G0.av) (xs := counts) (y := y17) rfl rfl rfl rfl Gs hy17 rfl) ?_
   refine G1 (u := .agg (G0.cs y17)) (A_vloadAggM (f := G0.av) (xs := counts) (y := y17) Hv rfl rfl rfl hy17 rfl rfl) ?_
   refine G1 (u := .ptr 1057 0) (H8 1057 4 Hw rfl rfl) ?_
   refine H6 (u := .junk) (Gz (u := .agg (G0.cs y17)) (ds := [G2 y17.G7.Load, G2 y17.G7.Discharge, G2 y17.Whole, G2 y17.Half]) tf_size_83 rfl rfl rfl rfl rfl rfl rfl rfl) ?_
   refine G9 (hK21 _ _ ?_)
   refine Gq [(1, G2 call), (5, OW 1056 4 G0.av s17), (7, .dptr (G0.cs y17)), (15, .vec 1052 counts_q 4 counts.length), (16, G2 (counts.length : Int)), (17, G2 (i17 : Int))] [(1052, .vec 83 4 counts_q (counts.map G0.av)), (1056, .spare 83 4 s17.length s17.length)] 1057 rfl rfl rfl ⟨⟨_, rfl, .vec⟩, ⟨_, rfl, .same⟩, trivial⟩ rfl (by repeat' (first | exact .ptr | constructor)) ?_
   refine G6 fun K22 hK22 => G3 ?_
   refine G1 (u := .dptr (G0.cs y17)) (Gd Ho rfl rfl rfl) ?_
   refine G1 (u := .dptr (G0.cs y17)) (Gd J9 rfl rfl rfl) ?_
   refine G1 (u := G2 y17.G7.Load) (Gn Gc rfl rfl rfl) ?_
   refine G1 (u := G2 call) (G5 rfl rfl) ?_
   refine G1 (u := BL (decide (y17.G7.Load ≤ call))) (A_leq rfl rfl rfl) ?_
   refine G1 (u := BL (decide (y17.G7.Load ≤ call))) (G5 rfl rfl) ?_
   refine Gj (u := G2 call) [] rfl rfl rfl .sct trivial (fun hc => G5 rfl rfl) ?_
   refine Gj (u := .dptr (G0.cs y17)) [] rfl rfl rfl .sct trivial (fun hc => Gd Ho rfl rfl rfl) ?_
   refine Gj (u := .dptr ((G0.cs y17).drop 1)) [(28, .dptr (G0.cs y17))] rfl rfl rfl .sct ⟨.all id, trivial⟩ (fun hc => Gd J8 rfl rfl rfl) ?_
   refine Gj (u := G2 y17.G7.Discharge) [(29, .dptr ((G0.cs y17).drop 1))] rfl rfl rfl .sct ⟨.all id, trivial⟩ (fun hc => Gn Gc rfl rfl rfl) ?_
   refine Gj (u := BL (decide (call < y17.G7.Discharge))) [(27, G2 call), (30, G2 y17.G7.Discharge)] rfl rfl rfl .sct ⟨.all id, .all id, trivial⟩ (fun hc => Hg rfl rfl rfl) ?_
   refine G1 (u := BL ((decide (y17.G7.Load ≤ call)) && (decide (call < y17.G7.Discharge)))) (Jc rfl rfl rfl rfl) ?_
   refine G9 (hK22 _ _ ?_)
   refine Gm rfl (fun hb => ?_) (fun hb => ?_)
   ·
    replace h := bif_t hb h
    refine G3 ?_
    refine G1 (u := OW 1056 4 G0.av s17) (G5 rfl rfl) ?_
    refine G1 (u := .agg (G0.cs y17)) (Gf Hv rfl rfl rfl) ?_
    refine G1 (u := LS 4 G0.av [y17]) (H1 (xs := [.agg (G0.cs y17)]) rfl ⟨rfl, rfl, trivial⟩ Gs Hw rfl rfl rfl rfl) ?_
    obtain ⟨ha23, h⟩ := He h
    refine G1 (u := OW 1056 4 G0.av (s17 ++ [y17])) (Hs (f := G0.av) (xs := s17) (ys := [y17]) rfl rfl rfl rfl Gs tf_elem_83 ha23 (fun _ => rfl) (.inl rfl) rfl) ?_
    refine G1 (u := OW 1056 4 G0.av (s17 ++ [y17])) (Ga rfl rfl) ?_
    refine G9 ?_
    exact ej20 _ _ (s17 ++ [y17]) h ⟨(by repeat' constructor), ⟨⟨_, rfl, .vec⟩, ⟨_, rfl, .same⟩, trivial⟩, rfl⟩
   ·
    replace h := bif_f hb h
    refine Gp ?_
    exact ej20 _ _ s17 h ⟨(by repeat' constructor), ⟨⟨_, rfl, .vec⟩, ⟨_, rfl, .same⟩, trivial⟩, rfl⟩
  ·intro j20 h
   replace h := app1 hkj20 h
   refine G3 ?_
   refine G1 (u := G2 ((i17 + 1 : Nat) : Int)) (H7 (idx_succ hk17 hm16) rfl rfl rfl) ?_
   refine G1 (u := G2 ((i17 + 1 : Nat) : Int)) (G5 rfl rfl) ?_
   refine G9 ?_
   exact e17 _ _ (i17 + 1) j20 (app1 hn17 h) (by omega) ⟨(by repeat' constructor), ⟨⟨_, rfl, .vec⟩, ⟨_, rfl, .same⟩, trivial⟩, rfl⟩
 ·
  have h := app1 hkx17 (Hd hi17 (H3 hb))
  refine H4 ?_
  refine hK3 _ _ ?_
  refine G6 (fun K24 hK24 => ?_)
  refine J3 (l' := [(5, OW 1056 4 G0.av s17)]) (L' := [(1052, .vec 83 4 counts_q (counts.map G0.av)), (1056, .spare 83 4 s17.length s17.length)]) ⟨⟨.same rfl, trivial⟩, ⟨⟨_, rfl, .vec⟩, ⟨_, rfl, .same⟩, trivial⟩, rfl⟩ ?_
  obtain ⟨m25, hm25, h⟩ := Gg h
  obtain ⟨ha26, h⟩ := He h
  obtain ⟨m27, hm27, h⟩ := Gg h
  obtain ⟨ha28, h⟩ := He h
  refine JC_draw2 [2, 5] [[[false, false], [false, true]], [[false, false], [false, true]], [[false, false], [false, true]], [[false, false], [true, false]], [[false, false], [true, false]], [[false, false], [true, false]], [[true, false], [true, true]], [[true, true]]] [([false, false], [(1052, .vec 83 4 counts_q (counts.map G0.av)), (1056, .spare 83 4 s17.length s17.length)]), ([false, true], [(1052, .vec 83 4 counts_q (counts.map G0.av)), (1056, .spare 83 4 s17.length s17.length), (1060, .vec 3 1 0 ((List.replicate m27 (0 : Int)).map G2))]), ([true, false], [(1052, .vec 83 4 counts_q (counts.map G0.av)), (1056, .spare 83 4 s17.length s17.length), (1059, .vec 3 1 0 ((List.replicate m25 (0 : Int)).map G2))]), ([true, true], [(1052, .vec 83 4 counts_q (counts.map G0.av)), (1056, .spare 83 4 s17.length s17.length), (1059, .vec 3 1 0 ((List.replicate m25 (0 : Int)).map G2)), (1060, .vec 3 1 0 ((List.replicate m27 (0 : Int)).map G2))])] Hr (by kernel_rfl) rfl rfl ?_
  refine D2_go (u := OW 1056 4 G0.av s17) rfl ⟨.ro rfl rfl (Gi (G5 rfl rfl) rfl), .ro rfl rfl (Gi (G5 rfl rfl) rfl), trivial⟩ ?_ rfl
  refine D2_go (u := G2 (s17.length : Int)) rfl ⟨.ro rfl rfl (Gi (Jz (f := G0.av) (xs := s17) Gs rfl rfl) rfl), .ro rfl rfl (Gi (Jz (f := G0.av) (xs := s17) Gs rfl rfl) rfl), trivial⟩ ?_ rfl
  refine D2_go (u := .vec 1059 0 1 ((List.replicate m25 (0 : Int)).length)) rfl ⟨.w [1052, 1056, 1059] rfl rfl (Gi (A_vmakeM 1059 (f := G2) (n := m25) 0 [.int .i64 0] rfl rfl rfl rfl Gr Q0 tf_zero_3 (natOf_out hm25) (natOf_out hm25) ha26 ⟨.inl rfl, trivial⟩ rfl) rfl) rfl rfl ⟨rfl, rfl, rfl, trivial⟩, .w [1052, 1056, 1060, 1059] rfl rfl (Gi (A_vmakeM 1059 (f := G2) (n := m25) 0 [.int .i64 0] rfl rfl rfl rfl Gr Q0 tf_zero_3 (natOf_out hm25) (natOf_out hm25) ha26 ⟨.inl rfl, trivial⟩ rfl) rfl) rfl rfl ⟨rfl, rfl, rfl, rfl, trivial⟩, trivial⟩ ?_ rfl
  refine D2_go (u := OW 1056 4 G0.av s17) rfl ⟨.ro rfl rfl (Gi (G5 rfl rfl) rfl), .ro rfl rfl (Gi (G5 rfl rfl) rfl), trivial⟩ ?_ rfl
  refine D2_go (u := G2 (s17.length : Int)) rfl ⟨.ro rfl rfl (Gi (Jz (f := G0.av) (xs := s17) Gs rfl rfl) rfl), .ro rfl rfl (Gi (Jz (f := G0.av) (xs := s17) Gs rfl rfl) rfl), trivial⟩ ?_ rfl
  refine D2_go (u := .vec 1060 0 1 ((List.replicate m27 (0 : Int)).length)) rfl ⟨.w [1052, 1056, 1060] rfl rfl (Gi (A_vmakeM 1060 (f := G2) (n := m27) 0 [.int .i64 0] rfl rfl rfl rfl Gr Q0 tf_zero_3 (natOf_out hm27) (natOf_out hm27) ha28 ⟨.inl rfl, trivial⟩ rfl) rfl) rfl rfl ⟨rfl, rfl, rfl, trivial⟩, .w [1052, 1056, 1059, 1060] rfl rfl (Gi (A_vmakeM 1060 (f := G2) (n := m27) 0 [.int .i64 0] rfl rfl rfl rfl Gr Q0 tf_zero_3 (natOf_out hm27) (natOf_out hm27) ha28 ⟨.inl rfl, trivial⟩ rfl) rfl) rfl rfl ⟨rfl, rfl, rfl, rfl, trivial⟩, trivial⟩ ?_ rfl
  refine D2_go (u := .vec 1059 0 1 ((List.replicate m25 (0 : Int)).length)) rfl ⟨.ro rfl rfl (Gi (Ga rfl rfl) rfl), .ro rfl rfl (Gi (Ga rfl rfl) rfl), trivial⟩ ?_ rfl
  refine D2_go (u := .vec 1060 0 1 ((List.replicate m27 (0 : Int)).length)) rfl ⟨.ro rfl rfl (Gi (Ga rfl rfl) rfl), trivial⟩ ?_ rfl
  refine D2_nil ?_
  refine hK24 _ _ ?_
  refine G6 fun K29 hK29 => G3 ?_
  refine G1 (u := G2 (-1)) (Ga rfl rfl) ?_
  refine G9 (hK29 _ _ ?_)
  refine G6 (fun K30 hK30 => ?_)
  refine G6 fun K31 hK31 => G3 ?_
  refine G1 (u := OW 1056 4 G0.av s17) (G5 rfl rfl) ?_
  refine H9 (f := G0.av) (xs := s17) Gs rfl rfl (fun hm45 => ?_) rfl rfl rfl
  obtain ⟨v32, hv32, h⟩ := Gy h
  refine G1 (u := G2 v32) (A_sub hv32 rfl rfl rfl) ?_
  refine G1 (u := G2 v32) (Ga rfl rfl) ?_
  refine G9 (hK31 _ _ ?_)
  refine Gk ?_
  obtain ⟨b33, hb33, h⟩ := loop_in h
  refine H2 (fun i33 (s33 : Int × Int × (List Int) × (List Int)) => loop b33 i33 s33 = some r) (fun i33 s33 => [(5, OW 1056 4 G0.av s17), (8, .vec 1059 0 1 ((List.replicate m25 (0 : Int)).length)), (9, .vec 1060 0 1 ((List.replicate m27 (0 : Int)).length)), (10, G2 s33.1), (11, G2 s33.2.1)]) (fun i33 s33 => [(1052, .vec 83 4 counts_q (counts.map G0.av)), (1056, .spare 83 4 s17.length s17.length), (1059, .vec 3 1 0 (s33.2.2.1.map G2)), (1060, .vec 3 1 0 (s33.2.2.2.map G2))]) (fun i33 => i33) F ((-1), v32, (List.replicate m25 (0 : Int)), (List.replicate m27 (0 : Int))) h ⟨(by repeat' constructor), ⟨⟨_, rfl, .vec⟩, ⟨_, rfl, .same⟩, ⟨_, rfl, .vec⟩, ⟨_, rfl, .vec⟩, trivial⟩, rfl⟩ ?_
  clear h
  intro i33 s33 hi33 K33 e33
  obtain ⟨m33, nx33, hm_33, hn33, h⟩ := loop_out hi33
  replace h := app2 hb33 h
  refine G6 (fun K34 hK34 => ?_)
  refine G6 fun K35 hK35 => G3 ?_
  refine G1 (u := G2 s33.2.1) (G5 rfl rfl) ?_
  refine G1 (u := BL (decide (0 ≤ s33.2.1))) (A_geq rfl rfl rfl) ?_
  refine G9 (hK35 _ _ ?_)
  refine Gm rfl (fun hb => ?_) (fun hb => ?_)
  ·
   replace h := bif_t hb h
   refine Gp ?_
   refine hK34 _ _ ?_
   obtain ⟨kj36, hkj36, h⟩ := Jf h
   refine Ht (fun j36 : Int × (List Int) × (List Int) => kj36 j36 = some r) (fun j36 => [(5, OW 1056 4 G0.av s17), (8, .vec 1059 0 1 ((List.replicate m25 (0 : Int)).length)), (9, .vec 1060 0 1 ((List.replicate m27 (0 : Int)).length)), (10, G2 j36.1), (11, G2 s33.2.1)]) (fun j36 => [(1052, .vec 83 4 counts_q (counts.map G0.av)), (1056, .spare 83 4 s17.length s17.length), (1059, .vec 3 1 0 (j36.2.1.map G2)), (1060, .vec 3 1 0 (j36.2.2.map G2))]) (fun Kj36 ej36 => ?_) ?_
   ·
    refine Gk ?_
    refine G6 fun K37 hK37 => G3 ?_
    refine G1 (u := .vec 1060 0 1 ((List.replicate m27 (0 : Int)).length)) (G5 rfl rfl) ?_
    refine G1 (u := G2 s33.2.1) (G5 rfl rfl) ?_
    obtain ⟨y38, hmy38, hy38, h⟩ := J6 h
    refine G1 (u := .vptr 1060 0 s33.2.1.toNat 0) (J1 (f := G2) (xs := s33.2.2.2) (y := y38) rfl rfl rfl rfl Gr hy38 hmy38) ?_
    refine H6 (u := .junk) (A_vstoreM (f := G2) (xs := s33.2.2.2) (z := (-1)) J0 rfl rfl rfl rfl (List.getElem?_eq_some_iff.1 hy38).1 rfl rfl rfl rfl) ?_
    refine G9 (hK37 _ _ ?_)
    refine G6 (fun K39 hK39 => ?_)
    refine G6 fun K40 hK40 => G3 ?_
    refine G1 (u := OW 1056 4 G0.av s17) (G5 rfl rfl) ?_
    refine H9 (f := G0.av) (xs := s17) Gs rfl rfl (fun hm55 => ?_) rfl rfl rfl
    obtain ⟨v41, hv41, h⟩ := Gy h
    refine G1 (u := G2 v41) (A_sub hv41 rfl rfl rfl) ?_
    refine G1 (u := G2 v41) (Ga rfl rfl) ?_
    refine G9 (hK40 _ _ ?_)
    refine Gk ?_
    obtain ⟨b100, hb100, h⟩ := loop_in h
    refine H2 (fun i100 (s100 : Int × (List Int) × (List Int)) => loop b100 i100 s100 = some r) (fun i100 s100 => [(5, OW 1056 4 G0.av s17), (8, .vec 1059 0 1 ((List.replicate m25 (0 : Int)).length)), (9, .vec 1060 0 1 ((List.replicate m27 (0 : Int)).length)), (10, G2 s33.1), (11, G2 s33.2.1), (12, G2 s100.1)]) (fun i100 s100 => [(1052, .vec 83 4 counts_q (counts.map G0.av)), (1056, .spare 83 4 s17.length s17.length), (1059, .vec 3 1 0 (s100.2.1.map G2)), (1060, .vec 3 1 0 (s100.2.2.map G2))]) (fun i100 => i100) F (v41, s33.2.2.1, (s33.2.2.2.set s33.2.1.toNat (-1))) h ⟨(by repeat' constructor), ⟨⟨_, rfl, .vec⟩, ⟨_, rfl, .same⟩, ⟨_, rfl, .vec⟩, ⟨_, rfl, .vec⟩, trivial⟩, rfl⟩ ?_
    clear h
    intro i100 s100 hi100 K100 e100
    obtain ⟨m100, nx100, hm_100, hn100, h⟩ := loop_out hi100
    replace h := app2 hb100 h
    refine G6 (fun K101 hK101 => ?_)
    refine G6 fun K102 hK102 => G3 ?_
    refine G1 (u := G2 s100.1) (G5 rfl rfl) ?_
    refine G1 (u := G2 s33.2.1) (G5 rfl rfl) ?_
    refine G1 (u := BL (decide (s33.2.1 < s100.1))) (Jy rfl rfl rfl) ?_
    refine G9 (hK102 _ _ ?_)
    refine Gm rfl (fun hb => ?_) (fun hb => ?_)
    ·
     replace h := bif_t hb h
     refine Gp ?_
     refine hK101 _ _ ?_
     obtain ⟨kj103, hkj103, h⟩ := Jf h
     refine Ht (fun j103 : (List Int) × (List Int) => kj103 j103 = some r) (fun j103 => [(5, OW 1056 4 G0.av s17), (8, .vec 1059 0 1 ((List.replicate m25 (0 : Int)).length)), (9, .vec 1060 0 1 ((List.replicate m27 (0 : Int)).length)), (10, G2 s33.1), (11, G2 s33.2.1), (12, G2 s100.1)]) (fun j103 => [(1052, .vec 83 4 counts_q (counts.map G0.av)), (1056, .spare 83 4 s17.length s17.length), (1059, .vec 3 1 0 (j103.1.map G2)), (1060, .vec 3 1 0 (j103.2.map G2))]) (fun Kj103 ej103 => ?_) ?_
     ·
      refine Gk ?_
      refine G6 (fun K104 hK104 => ?_)
      refine J3 (l' := [(5, OW 1056 4 G0.av s17), (8, .vec 1059 0 1 ((List.replicate m25 (0 : Int)).length)), (9, .vec 1060 0 1 ((List.replicate m27 (0 : Int)).length)), (10, G2 s33.1), (11, G2 s33.2.1), (12, G2 s100.1)]) (L' := [(1052, .vec 83 4 counts_q (counts.map G0.av)), (1056, .spare 83 4 s17.length s17.length), (1059, .vec 3 1 0 (s100.2.1.map G2)), (1060, .vec 3 1 0 (s100.2.2.map G2))]) ⟨(by repeat' constructor), ⟨⟨_, rfl, .vec⟩, ⟨_, rfl, .same⟩, ⟨_, rfl, .vec⟩, ⟨_, rfl, .vec⟩, trivial⟩, rfl⟩ ?_
      obtain ⟨m106, y105, hm106, hy105, h⟩ := Je h
      obtain ⟨m108, y107, hm108, hy107, h⟩ := Je h
      obtain ⟨y109, hy109, h⟩ := Gg h
      obtain ⟨y110, hy110, h⟩ := Gg h
      obtain ⟨y111, hy111, h⟩ := Gg h
      obtain ⟨y112, hy112, h⟩ := Gg h
      refine Hy [] [0, 0, 0, 0, 0, 0, 0, 0, 0, 0, 0, 0, 0, 0, 0, 0, 0, 0, 0, 0, 0, 0, 0, 0, 0, 0, 0, 0, 0, 0, 0, 0, 0, 0, 0, 0, 0, 0, 0] [0, 0, 0, 0, 0, 0, 0, 0, 0, 0, 0, 0, 0, 0, 0, 0, 0, 0, 0, 0, 0, 0, 0, 0, 0, 0, 0, 0, 0, 0, 0, 0, 0, 0, 0, 0, 0, 0, 0] [[(1052, .vec 83 4 counts_q (counts.map G0.av)), (1056, .spare 83 4 s17.length s17.length), (1059, .vec 3 1 0 (s100.2.1.map G2)), (1060, .vec 3 1 0 (s100.2.2.map G2))]] Hr (by kernel_rfl) rfl rfl ?_
      refine Ge (u := OW 1056 4 G0.av s17) rfl rfl ⟨Gi (G5 rfl rfl) rfl, trivial⟩ ?_
      refine Ge (u := G2 s100.1) rfl rfl ⟨Gi (G5 rfl rfl) rfl, trivial⟩ ?_
      refine Ge (u := .dptr (G0.cs y105)) rfl rfl ⟨Gi (Gw (f := G0.av) (xs := s17) (y := y105) rfl rfl rfl Gs hy105 hm106) rfl, trivial⟩ ?_
      refine Ge (u := .dptr (G0.cs y105)) rfl rfl ⟨Gi (Gd Ho rfl rfl rfl) rfl, trivial⟩ ?_
      refine Ge (u := .dptr (G0.cs y105)) rfl rfl ⟨Gi (Gd J9 rfl rfl rfl) rfl, trivial⟩ ?_
      refine Ge (u := G2 y105.G7.Load) rfl rfl ⟨Gi (Gn Gc rfl rfl rfl) rfl, trivial⟩ ?_
      refine Ge (u := OW 1056 4 G0.av s17) rfl rfl ⟨Gi (G5 rfl rfl) rfl, trivial⟩ ?_
      refine Ge (u := G2 s33.2.1) rfl rfl ⟨Gi (G5 rfl rfl) rfl, trivial⟩ ?_
      refine Ge (u := .dptr (G0.cs y107)) rfl rfl ⟨Gi (Gw (f := G0.av) (xs := s17) (y := y107) rfl rfl rfl Gs hy107 hm108) rfl, trivial⟩ ?_
      refine Ge (u := .dptr (G0.cs y107)) rfl rfl ⟨Gi (Gd Ho rfl rfl rfl) rfl, trivial⟩ ?_
      refine Ge (u := .dptr (G0.cs y107)) rfl rfl ⟨Gi (Gd J9 rfl rfl rfl) rfl, trivial⟩ ?_
      refine Ge (u := G2 y107.G7.Load) rfl rfl ⟨Gi (Gn Gc rfl rfl rfl) rfl, trivial⟩ ?_
      refine Ge (u := BL (decide (y107.G7.Load < y105.G7.Load))) rfl rfl ⟨Gi (Jy rfl rfl rfl) rfl, trivial⟩ ?_
      refine Ge (u := BL (decide (y107.G7.Load < y105.G7.Load))) rfl rfl ⟨Gi (G5 rfl rfl) rfl, trivial⟩ ?_
      refine Ge (u := .opt (decide (y107.G7.Load < y105.G7.Load)) (OW 1056 4 G0.av s17)) rfl rfl ⟨Gv [] rfl rfl rfl .sct trivial (fun hc => G5 rfl rfl) rfl, trivial⟩ ?_
      refine Ge (u := .opt (decide (y107.G7.Load < y105.G7.Load)) (G2 s100.1)) rfl rfl ⟨Gv [] rfl rfl rfl .sct trivial (fun hc => G5 rfl rfl) rfl, trivial⟩ ?_
      refine Ge (u := .opt (decide (y107.G7.Load < y105.G7.Load)) (.dptr (G0.cs y109))) rfl rfl ⟨Gv [(76, OW 1056 4 G0.av s17), (77, G2 s100.1)] rfl rfl rfl .sct ⟨.all id, .all id, trivial⟩ (fun hc => (match Jh (bif_t hc hy109) with | ⟨_, hm_, hy_⟩ => Gw (f := G0.av) (xs := s17) (y := y109) rfl rfl rfl Gs hy_ hm_)) rfl, trivial⟩ ?_
      refine Ge (u := .opt (decide (y107.G7.Load < y105.G7.Load)) (.dptr (G0.cs y109))) rfl rfl ⟨Gv [(78, .dptr (G0.cs y109))] rfl rfl rfl .sct ⟨.all id, trivial⟩ (fun hc => Gd Ho rfl rfl rfl) rfl, trivial⟩ ?_
      refine Ge (u := .opt (decide (y107.G7.Load < y105.G7.Load)) (.dptr ((G0.cs y109).drop 1))) rfl rfl ⟨Gv [(79, .dptr (G0.cs y109))] rfl rfl rfl .sct ⟨.all id, trivial⟩ (fun hc => Gd J8 rfl rfl rfl) rfl, trivial⟩ ?_
      refine Ge (u := .opt (decide (y107.G7.Load < y105.G7.Load)) (G2 y109.G7.Discharge)) rfl rfl ⟨Gv [(80, .dptr ((G0.cs y109).drop 1))] rfl rfl rfl .sct ⟨.all id, trivial⟩ (fun hc => Gn Gc rfl rfl rfl) rfl, trivial⟩ ?_
      refine Ge (u := .opt (decide (y107.G7.Load < y105.G7.Load)) (OW 1056 4 G0.av s17)) rfl rfl ⟨Gv [] rfl rfl rfl .sct trivial (fun hc => G5 rfl rfl) rfl, trivial⟩ ?_
      refine Ge (u := .opt (decide (y107.G7.Load < y105.G7.Load)) (G2 s33.2.1)) rfl rfl ⟨Gv [] rfl rfl rfl .sct trivial (fun hc => G5 rfl rfl) rfl, trivial⟩ ?_
      refine Ge (u := .opt (decide (y107.G7.Load < y105.G7.Load)) (.dptr (G0.cs y110))) rfl rfl ⟨Gv [(82, OW 1056 4 G0.av s17), (83, G2 s33.2.1)] rfl rfl rfl .sct ⟨.all id, .all id, trivial⟩ (fun hc => (match Jh (bif_t hc hy110) with | ⟨_, hm_, hy_⟩ => Gw (f := G0.av) (xs := s17) (y := y110) rfl rfl rfl Gs hy_ hm_)) rfl, trivial⟩ ?_
      refine Ge (u := .opt (decide (y107.G7.Load < y105.G7.Load)) (.dptr (G0.cs y110))) rfl rfl ⟨Gv [(84, .dptr (G0.cs y110))] rfl rfl rfl .sct ⟨.all id, trivial⟩ (fun hc => Gd Ho rfl rfl rfl) rfl, trivial⟩ ?_
      refine Ge (u := .opt (decide (y107.G7.Load < y105.G7.Load)) (.dptr ((G0.cs y110).drop 1))) rfl rfl ⟨Gv [(85, .dptr (G0.cs y110))] rfl rfl rfl .sct ⟨.all id, trivial⟩ (fun hc => Gd J8 rfl rfl rfl) rfl, trivial⟩ ?_
      refine Ge (u := .opt (decide (y107.G7.Load < y105.G7.Load)) (G2 y110.G7.Discharge)) rfl rfl ⟨Gv [(86, .dptr ((G0.cs y110).drop 1))] rfl rfl rfl .sct ⟨.all id, trivial⟩ (fun hc => Gn Gc rfl rfl rfl) rfl, trivial⟩ ?_
      refine Ge (u := .opt (decide (y107.G7.Load < y105.G7.Load)) (BL (decide (y110.G7.Discharge < y109.G7.Discharge)))) rfl rfl ⟨Gv [(81, G2 y109.G7.Discharge), (87, G2 y110.G7.Discharge)] rfl rfl rfl .sct ⟨.all id, .all id, trivial⟩ (fun hc => Jy rfl rfl rfl) rfl, trivial⟩ ?_
      refine Ge (u := BL ((decide (y107.G7.Load < y105.G7.Load)) && (decide (y110.G7.Discharge < y109.G7.Discharge)))) rfl rfl ⟨Gi (Jc rfl rfl rfl rfl) rfl, trivial⟩ ?_
      refine Ge (u := BL ((decide (y107.G7.Load < y105.G7.Load)) && (decide (y110.G7.Discharge < y109.G7.Discharge)))) rfl rfl ⟨Gi (G5 rfl rfl) rfl, trivial⟩ ?_
      refine Ge (u := .opt ((decide (y107.G7.Load < y105.G7.Load)) && (decide (y110.G7.Discharge < y109.G7.Discharge))) (.vec 1059 0 1 ((List.replicate m25 (0 : Int)).length))) rfl rfl ⟨Gv [] rfl rfl rfl .sct trivial (fun hc => G5 rfl rfl) rfl, trivial⟩ ?_
      refine Ge (u := .opt ((decide (y107.G7.Load < y105.G7.Load)) && (decide (y110.G7.Discharge < y109.G7.Discharge))) (G2 s100.1)) rfl rfl ⟨Gv [] rfl rfl rfl .sct trivial (fun hc => G5 rfl rfl) rfl, trivial⟩ ?_
      refine Ge (u := .opt ((decide (y107.G7.Load < y105.G7.Load)) && (decide (y110.G7.Discharge < y109.G7.Discharge))) (.vptr 1059 0 s100.1.toNat 0)) rfl rfl ⟨Gv [(91, .vec 1059 0 1 ((List.replicate m25 (0 : Int)).length)), (92, G2 s100.1)] rfl rfl rfl .sct ⟨.all id, .all id, trivial⟩ (fun hc => J1 (f := G2) (xs := s100.2.1) (y := y111) rfl rfl rfl rfl Gr (Hx (bif_t hc hy111)) (gidx_some1 (bif_t hc hy111))) rfl, trivial⟩ ?_
      refine Ge (u := .opt ((decide (y107.G7.Load < y105.G7.Load)) && (decide (y110.G7.Discharge < y109.G7.Discharge))) (G2 y111)) rfl rfl ⟨Gv [(93, .vptr 1059 0 s100.1.toNat 0)] rfl rfl rfl .sct ⟨.all id, trivial⟩ (fun hc => Jp (f := G2) (xs := s100.2.1) (y := y111) Gc rfl rfl rfl (Hx (bif_t hc hy111)) rfl rfl) rfl, trivial⟩ ?_
      refine Ge (u := .opt ((decide (y107.G7.Load < y105.G7.Load)) && (decide (y110.G7.Discharge < y109.G7.Discharge))) (.vec 1059 0 1 ((List.replicate m25 (0 : Int)).length))) rfl rfl ⟨Gv [] rfl rfl rfl .sct trivial (fun hc => G5 rfl rfl) rfl, trivial⟩ ?_
      refine Ge (u := .opt ((decide (y107.G7.Load < y105.G7.Load)) && (decide (y110.G7.Discharge < y109.G7.Discharge))) (G2 s33.2.1)) rfl rfl ⟨Gv [] rfl rfl rfl .sct trivial (fun hc => G5 rfl rfl) rfl, trivial⟩ ?_
      refine Ge (u := .opt ((decide (y107.G7.Load < y105.G7.Load)) && (decide (y110.G7.Discharge < y109.G7.Discharge))) (.vptr 1059 0 s33.2.1.toNat 0)) rfl rfl ⟨Gv [(95, .vec 1059 0 1 ((List.replicate m25 (0 : Int)).length)), (96, G2 s33.2.1)] rfl rfl rfl .sct ⟨.all id, .all id, trivial⟩ (fun hc => J1 (f := G2) (xs := s100.2.1) (y := y112) rfl rfl rfl rfl Gr (Hx (bif_t hc hy112)) (gidx_some1 (bif_t hc hy112))) rfl, trivial⟩ ?_
      refine Ge (u := .opt ((decide (y107.G7.Load < y105.G7.Load)) && (decide (y110.G7.Discharge < y109.G7.Discharge))) (G2 y112)) rfl rfl ⟨Gv [(97, .vptr 1059 0 s33.2.1.toNat 0)] rfl rfl rfl .sct ⟨.all id, trivial⟩ (fun hc => Jp (f := G2) (xs := s100.2.1) (y := y112) Gc rfl rfl rfl (Hx (bif_t hc hy112)) rfl rfl) rfl, trivial⟩ ?_
      refine Ge (u := .opt ((decide (y107.G7.Load < y105.G7.Load)) && (decide (y110.G7.Discharge < y109.G7.Discharge))) (BL (decide (y112 ≤ y111)))) rfl rfl ⟨Gv [(94, G2 y111), (98, G2 y112)] rfl rfl rfl .sct ⟨.all id, .all id, trivial⟩ (fun hc => A_geq rfl rfl rfl) rfl, trivial⟩ ?_
      refine Ge (u := BL (((decide (y107.G7.Load < y105.G7.Load)) && (decide (y110.G7.Discharge < y109.G7.Discharge))) && (decide (y112 ≤ y111)))) rfl rfl ⟨Gi (Jc rfl rfl rfl rfl) rfl, trivial⟩ ?_
      refine Q3 ?_
      refine hK104 _ _ ?_
      refine Gm rfl (fun hb => ?_) (fun hb => ?_)
      ·
       replace h := bif_t hb h
       refine G3 ?_
       refine G1 (u := .vec 1059 0 1 ((List.replicate m25 (0 : Int)).length)) (G5 rfl rfl) ?_
       refine G1 (u := G2 s33.2.1) (G5 rfl rfl) ?_
       refine G1 (u := .vec 1060 0 1 ((List.replicate m27 (0 : Int)).length)) (G5 rfl rfl) ?_
       refine G1 (u := G2 s33.2.1) (G5 rfl rfl) ?_
       refine G1 (u := .vec 1059 0 1 ((List.replicate m25 (0 : Int)).length)) (G5 rfl rfl) ?_
       refine G1 (u := G2 s100.1) (G5 rfl rfl) ?_
       obtain ⟨y113, hmy113, hy113, h⟩ := J6 h
       refine G1 (u := .vptr 1059 0 s100.1.toNat 0) (J1 (f := G2) (xs := s100.2.1) (y := y113) rfl rfl rfl rfl Gr hy113 hmy113) ?_
       refine G1 (u := G2 y113) (Jp (f := G2) (xs := s100.2.1) (y := y113) Gc rfl rfl rfl hy113 rfl rfl) ?_
       refine G1 (u := G2 s100.1) (G5 rfl rfl) ?_
       obtain ⟨y114, hmy114, hy114, h⟩ := J6 h
       refine G1 (u := .vptr 1059 0 s33.2.1.toNat 0) (J1 (f := G2) (xs := s100.2.1) (y := y114) rfl rfl rfl rfl Gr hy114 hmy114) ?_
       refine H6 (u := .junk) (A_vstoreM (f := G2) (xs := s100.2.1) (z := y113) J0 rfl rfl rfl rfl (List.getElem?_eq_some_iff.1 hy114).1 rfl rfl rfl rfl) ?_
       obtain ⟨y115, hmy115, hy115, h⟩ := J6 h
       refine G1 (u := .vptr 1060 0 s33.2.1.toNat 0) (J1 (f := G2) (xs := s100.2.2) (y := y115) rfl rfl rfl rfl Gr hy115 hmy115) ?_
       refine H6 (u := .junk) (A_vstoreM (f := G2) (xs := s100.2.2) (z := s100.1) J0 rfl rfl rfl rfl (List.getElem?_eq_some_iff.1 hy115).1 rfl rfl rfl rfl) ?_
       refine G9 ?_
       exact ej103 _ _ ((s100.2.1.set s33.2.1.toNat y113), (s100.2.2.set s33.2.1.toNat s100.1)) h ⟨(by repeat' constructor), ⟨⟨_, rfl, .vec⟩, ⟨_, rfl, .same⟩, ⟨_, rfl, .vec⟩, ⟨_, rfl, .vec⟩, trivial⟩, rfl⟩
      ·
       replace h := bif_f hb h
       refine Gp ?_
       exact ej103 _ _ (s100.2.1, s100.2.2) h ⟨(by repeat' constructor), ⟨⟨_, rfl, .vec⟩, ⟨_, rfl, .same⟩, ⟨_, rfl, .vec⟩, ⟨_, rfl, .vec⟩, trivial⟩, rfl⟩
     ·intro j103 h
      replace h := app1 hkj103 h
      refine G3 ?_
      refine G1 (u := G2 s100.1) (G5 rfl rfl) ?_
      obtain ⟨v116, hv116, h⟩ := Gy h
      refine G1 (u := G2 v116) (A_sub hv116 rfl rfl rfl) ?_
      refine G1 (u := G2 v116) (Ga rfl rfl) ?_
      refine G9 ?_
      exact e100 _ _ m100 (v116, j103.1, j103.2) (app1 hn100 h) (by omega) ⟨(by repeat' constructor), ⟨⟨_, rfl, .vec⟩, ⟨_, rfl, .same⟩, ⟨_, rfl, .vec⟩, ⟨_, rfl, .vec⟩, trivial⟩, rfl⟩
    ·
     replace h := bif_f hb h
     refine H4 ?_
     refine hK39 _ _ ?_
     refine G6 (fun K117 hK117 => ?_)
     refine J3 (l' := [(5, OW 1056 4 G0.av s17), (8, .vec 1059 0 1 ((List.replicate m25 (0 : Int)).length)), (9, .vec 1060 0 1 ((List.replicate m27 (0 : Int)).length)), (10, G2 s33.1), (11, G2 s33.2.1)]) (L' := [(1052, .vec 83 4 counts_q (counts.map G0.av)), (1056, .spare 83 4 s17.length s17.length), (1059, .vec 3 1 0 (s100.2.1.map G2)), (1060, .vec 3 1 0 (s100.2.2.map G2))]) ⟨(by repeat' constructor), ⟨⟨_, rfl, .vec⟩, ⟨_, rfl, .same⟩, ⟨_, rfl, .vec⟩, ⟨_, rfl, .vec⟩, trivial⟩, rfl⟩ ?_
     obtain ⟨y118, hmy118, hy118, h⟩ := J6 h
     obtain ⟨m120, y119, hm120, hy119, h⟩ := Je h
     obtain ⟨r121, hr121, h⟩ := Gg h
     obtain ⟨v122, hv122, h⟩ := Gy h
     obtain ⟨y123, hmy123, hy123, h⟩ := J6 h
     refine Hy [11] [0, 0, 0, 0, 0, 0, 0, 0, 0, 0, 0, 0] [0, 0, 0, 0, 0, 0, 0, 0, 0, 0, 0, 0] [[(1052, .vec 83 4 counts_q (counts.map G0.av)), (1056, .spare 83 4 s17.length s17.length), (1059, .vec 3 1 0 (s100.2.1.map G2)), (1060, .vec 3 1 0 (s100.2.2.map G2))], ((1059, .vec 3 1 0 ((s100.2.1.set s33.2.1.toNat v122).map G2)) :: [(1052, .vec 83 4 counts_q (counts.map G0.av)), (1056, .spare 83 4 s17.length s17.length), (1059, .vec 3 1 0 (s100.2.1.map G2)), (1060, .vec 3 1 0 (s100.2.2.map G2))])] Hr (by kernel_rfl) rfl rfl ?_
     refine Ge (u := .vec 1059 0 1 ((List.replicate m25 (0 : Int)).length)) rfl rfl ⟨Gi (G5 rfl rfl) rfl, trivial⟩ ?_
     refine Ge (u := G2 s33.2.1) rfl rfl ⟨Gi (G5 rfl rfl) rfl, trivial⟩ ?_
     refine Ge (u := .vptr 1059 0 s33.2.1.toNat 0) rfl rfl ⟨Gi (J1 (f := G2) (xs := s100.2.1) (y := y118) rfl rfl rfl rfl Gr hy118 hmy118) rfl, trivial⟩ ?_
     refine Ge (u := G2 y118) rfl rfl ⟨Gi (Jp (f := G2) (xs := s100.2.1) (y := y118) Gc rfl rfl rfl hy118 rfl rfl) rfl, trivial⟩ ?_
     refine Ge (u := OW 1056 4 G0.av s17) rfl rfl ⟨Gi (G5 rfl rfl) rfl, trivial⟩ ?_
     refine Ge (u := G2 s33.2.1) rfl rfl ⟨Gi (G5 rfl rfl) rfl, trivial⟩ ?_
     refine Ge (u := .dptr (G0.cs y119)) rfl rfl ⟨Gi (Gw (f := G0.av) (xs := s17) (y := y119) rfl rfl rfl Gs hy119 hm120) rfl, trivial⟩ ?_
     refine Ge (u := .agg (G0.cs y119)) rfl rfl ⟨Gi (Gf Hv rfl rfl rfl) rfl, trivial⟩ ?_
     refine Ge (u := G2 r121) rfl rfl ⟨Gi (Gu (args := [.agg (G0.cs y119)]) rfl (M_bound_places_w y119 r121 hr121) tf_call_37 ⟨rfl, rfl, trivial⟩) rfl, trivial⟩ ?_
     refine Ge (u := G2 v122) rfl rfl ⟨Gi (H7 hv122 rfl rfl rfl) rfl, trivial⟩ ?_
     refine Ge (u := .vptr 1059 0 s33.2.1.toNat 0) rfl rfl ⟨Gi (J1 (f := G2) (xs := s100.2.1) (y := y123) rfl rfl rfl rfl Gr hy123 hmy123) rfl, trivial⟩ ?_
     refine D_w0 (u := .junk) rfl rfl rfl rfl (Gi (A_vstoreM (f := G2) (xs := s100.2.1) (z := v122) J0 rfl rfl rfl rfl (List.getElem?_eq_some_iff.1 hy123).1 rfl rfl rfl rfl) rfl) ?_
     refine Q3 ?_
     refine hK117 _ _ ?_
     refine G6 (fun K124 hK124 => ?_)
     refine J3 (l' := [(5, OW 1056 4 G0.av s17), (8, .vec 1059 0 1 ((List.replicate m25 (0 : Int)).length)), (9, .vec 1060 0 1 ((List.replicate m27 (0 : Int)).length)), (10, G2 s33.1), (11, G2 s33.2.1)]) (L' := [(1052, .vec 83 4 counts_q (counts.map G0.av)), (1056, .spare 83 4 s17.length s17.length), (1059, .vec 3 1 0 ((s100.2.1.set s33.2.1.toNat v122).map G2)), (1060, .vec 3 1 0 (s100.2.2.map G2))]) ⟨(by repeat' constructor), ⟨⟨_, rfl, .vec⟩, ⟨_, rfl, .same⟩, ⟨_, rfl, .vec⟩, ⟨_, rfl, .vec⟩, trivial⟩, rfl⟩ ?_
     obtain ⟨y125, hy125, h⟩ := Gg h
     obtain ⟨y126, hy126, h⟩ := Gg h
     refine Hy [] [0, 0, 0, 0, 0, 0, 0, 0, 0, 0, 0, 0, 0] [0, 0, 0, 0, 0, 0, 0, 0, 0, 0, 0, 0, 0] [[(1052, .vec 83 4 counts_q (counts.map G0.av)), (1056, .spare 83 4 s17.length s17.length), (1059, .vec 3 1 0 ((s100.2.1.set s33.2.1.toNat v122).map G2)), (1060, .vec 3 1 0 (s100.2.2.map G2))]] Hr (by kernel_rfl) rfl rfl ?_
     refine Ge (u := G2 s33.1) rfl rfl ⟨Gi (G5 rfl rfl) rfl, trivial⟩ ?_
     refine Ge (u := BL (decide (s33.1 < 0))) rfl rfl ⟨Gi (Hg rfl rfl rfl) rfl, trivial⟩ ?_
     refine Ge (u := BL (decide (s33.1 < 0))) rfl rfl ⟨Gi (G5 rfl rfl) rfl, trivial⟩ ?_
     refine Ge (u := .opt (!(decide (s33.1 < 0))) (.vec 1059 0 1 ((List.replicate m25 (0 : Int)).length))) rfl rfl ⟨Gv [] rfl rfl rfl .scf trivial (fun hc => G5 rfl rfl) rfl, trivial⟩ ?_
     refine Ge (u := .opt (!(decide (s33.1 < 0))) (G2 s33.2.1)) rfl rfl ⟨Gv [] rfl rfl rfl .scf trivial (fun hc => G5 rfl rfl) rfl, trivial⟩ ?_
     refine Ge (u := .opt (!(decide (s33.1 < 0))) (.vptr 1059 0 s33.2.1.toNat 0)) rfl rfl ⟨Gv [(126, .vec 1059 0 1 ((List.replicate m25 (0 : Int)).length)), (127, G2 s33.2.1)] rfl rfl rfl .scf ⟨.all id, .all id, trivial⟩ (fun hc => J1 (f := G2) (xs := (s100.2.1.set s33.2.1.toNat v122)) (y := y125) rfl rfl rfl rfl Gr (Hx (bif_t hc hy125)) (gidx_some1 (bif_t hc hy125))) rfl, trivial⟩ ?_
     refine Ge (u := .opt (!(decide (s33.1 < 0))) (G2 y125)) rfl rfl ⟨Gv [(128, .vptr 1059 0 s33.2.1.toNat 0)] rfl rfl rfl .scf ⟨.all id, trivial⟩ (fun hc => Jp (f := G2) (xs := (s100.2.1.set s33.2.1.toNat v122)) (y := y125) Gc rfl rfl rfl (Hx (bif_t hc hy125)) rfl rfl) rfl, trivial⟩ ?_
     refine Ge (u := .opt (!(decide (s33.1 < 0))) (.vec 1059 0 1 ((List.replicate m25 (0 : Int)).length))) rfl rfl ⟨Gv [] rfl rfl rfl .scf trivial (fun hc => G5 rfl rfl) rfl, trivial⟩ ?_
     refine Ge (u := .opt (!(decide (s33.1 < 0))) (G2 s33.1)) rfl rfl ⟨Gv [] rfl rfl rfl .scf trivial (fun hc => G5 rfl rfl) rfl, trivial⟩ ?_
     refine Ge (u := .opt (!(decide (s33.1 < 0))) (.vptr 1059 0 s33.1.toNat 0)) rfl rfl ⟨Gv [(130, .vec 1059 0 1 ((List.replicate m25 (0 : Int)).length)), (131, G2 s33.1)] rfl rfl rfl .scf ⟨.all id, .all id, trivial⟩ (fun hc => J1 (f := G2) (xs := (s100.2.1.set s33.2.1.toNat v122)) (y := y126) rfl rfl rfl rfl Gr (Hx (bif_t hc hy126)) (gidx_some1 (bif_t hc hy126))) rfl, trivial⟩ ?_
     refine Ge (u := .opt (!(decide (s33.1 < 0))) (G2 y126)) rfl rfl ⟨Gv [(132, .vptr 1059 0 s33.1.toNat 0)] rfl rfl rfl .scf ⟨.all id, trivial⟩ (fun hc => Jp (f := G2) (xs := (s100.2.1.set s33.2.1.toNat v122)) (y := y126) Gc rfl rfl rfl (Hx (bif_t hc hy126)) rfl rfl) rfl, trivial⟩ ?_
     refine Ge (u := .opt (!(decide (s33.1 < 0))) (BL (decide (y126 ≤ y125)))) rfl rfl ⟨Gv [(129, G2 y125), (133, G2 y126)] rfl rfl rfl .scf ⟨.all id, .all id, trivial⟩ (fun hc => A_geq rfl rfl rfl) rfl, trivial⟩ ?_
     refine Ge (u := BL ((decide (s33.1 < 0)) || (decide (y126 ≤ y125)))) rfl rfl ⟨Gi (A_or rfl rfl rfl rfl) rfl, trivial⟩ ?_
     refine Q3 ?_
     refine hK124 _ _ ?_
     refine Gm rfl (fun hb => ?_) (fun hb => ?_)
     ·
      replace h := bif_t hb h
      refine G3 ?_
      refine G1 (u := G2 s33.2.1) (G5 rfl rfl) ?_
      refine G1 (u := G2 s33.2.1) (Ga rfl rfl) ?_
      refine G9 ?_
      exact ej36 _ _ (s33.2.1, (s100.2.1.set s33.2.1.toNat v122), s100.2.2) h ⟨(by repeat' constructor), ⟨⟨_, rfl, .vec⟩, ⟨_, rfl, .same⟩, ⟨_, rfl, .vec⟩, ⟨_, rfl, .vec⟩, trivial⟩, rfl⟩
     ·
      replace h := bif_f hb h
      refine Gp ?_
      exact ej36 _ _ (s33.1, (s100.2.1.set s33.2.1.toNat v122), s100.2.2) h ⟨(by repeat' constructor), ⟨⟨_, rfl, .vec⟩, ⟨_, rfl, .same⟩, ⟨_, rfl, .vec⟩, ⟨_, rfl, .vec⟩, trivial⟩, rfl⟩
   ·intro j36 h
    replace h := app1 hkj36 h
    refine G3 ?_
    refine G1 (u := G2 s33.2.1) (G5 rfl rfl) ?_
    obtain ⟨v127, hv127, h⟩ := Gy h
    refine G1 (u := G2 v127) (A_sub hv127 rfl rfl rfl) ?_
    refine G1 (u := G2 v127) (Ga rfl rfl) ?_
    refine G9 ?_
    exact e33 _ _ m33 (j36.1, v127, j36.2.1, j36.2.2) (app1 hn33 h) (by omega) ⟨(by repeat' constructor), ⟨⟨_, rfl, .vec⟩, ⟨_, rfl, .same⟩, ⟨_, rfl, .vec⟩, ⟨_, rfl, .vec⟩, trivial⟩, rfl⟩
  ·
   replace h := bif_f hb h
   refine H4 ?_
   refine hK30 _ _ ?_
   refine G6 fun K128 hK128 => G3 ?_
   refine G1 (u := OW 1058 4 G0.av ([] : List G0)) (A_nilOwn 1058 83 4 rfl rfl rfl) ?_
   refine G9 (hK128 _ _ ?_)
   refine G6 (fun K129 hK129 => ?_)
   refine G6 fun K130 hK130 => G3 ?_
   refine G1 (u := G2 s33.1) (G5 rfl rfl) ?_
   refine G1 (u := G2 s33.1) (Ga rfl rfl) ?_
   refine G9 (hK130 _ _ ?_)
   refine Gk ?_
   obtain ⟨b142, hb142, h⟩ := loop_in h
   refine H2 (fun i142 (s142 : (List G0) × Int) => loop b142 i142 s142 = some r) (fun i142 s142 => [(5, OW 1056 4 G0.av s17), (9, .vec 1060 0 1 ((List.replicate m27 (0 : Int)).length)), (13, OW 1058 4 G0.av s142.1), (14, G2 s142.2)]) (fun i142 s142 => [(1052, .vec 83 4 counts_q (counts.map G0.av)), (1056, .spare 83 4 s17.length s17.length), (1059, .vec 3 1 0 (s33.2.2.1.map G2)), (1060, .vec 3 1 0 (s33.2.2.2.map G2)), (1058, .spare 83 4 s142.1.length s142.1.length)]) (fun i142 => i142) F ([], s33.1) h ⟨(by repeat' constructor), ⟨⟨_, rfl, .vec⟩, ⟨_, rfl, .same⟩, ⟨_, rfl, .vec⟩, ⟨_, rfl, .vec⟩, ⟨_, rfl, .same⟩, trivial⟩, rfl⟩ ?_
   clear h
   intro i142 s142 hi142 K142 e142
   obtain ⟨m142, nx142, hm_142, hn142, h⟩ := loop_out hi142
   replace h := app2 hb142 h
   refine G6 (fun K143 hK143 => ?_)
   refine G6 fun K144 hK144 => G3 ?_
   refine G1 (u := G2 s142.2) (G5 rfl rfl) ?_
   refine G1 (u := BL (decide (0 ≤ s142.2))) (A_geq rfl rfl rfl) ?_
   refine G9 (hK144 _ _ ?_)
   refine Gm rfl (fun hb => ?_) (fun hb => ?_)
   ·
    replace h := bif_t hb h
    refine Gp ?_
    refine hK143 _ _ ?_
    refine G6 (fun K145 hK145 => ?_)
    refine Gk ?_
    refine G3 ?_
    refine G1 (u := OW 1058 4 G0.av s142.1) (G5 rfl rfl) ?_
    refine G1 (u := OW 1056 4 G0.av s17) (G5 rfl rfl) ?_
    refine G1 (u := G2 s142.2) (G5 rfl rfl) ?_
    obtain ⟨m147, y146, hm147, hy146, h⟩ := Je h
    refine G1 (u := .dptr (G0.cs y146)) (Gw (f := G0.av) (xs := s17) (y := y146) rfl rfl rfl Gs hy146 hm147) ?_
    refine G1 (u := .agg (G0.cs y146)) (Gf Hv rfl rfl rfl) ?_
    refine G1 (u := LS 4 G0.av [y146]) (H1 (xs := [.agg (G0.cs y146)]) rfl ⟨rfl, rfl, trivial⟩ Gs Hw rfl rfl rfl rfl) ?_
    obtain ⟨ha148, h⟩ := He h
    refine G1 (u := OW 1058 4 G0.av (s142.1 ++ [y146])) (Hs (f := G0.av) (xs := s142.1) (ys := [y146]) rfl rfl rfl rfl Gs tf_elem_83 ha148 (fun _ => rfl) (.inl rfl) rfl) ?_
    refine G1 (u := OW 1058 4 G0.av (s142.1 ++ [y146])) (Ga rfl rfl) ?_
    refine G9 (hK145 _ _ ?_)
    refine G3 ?_
    refine G1 (u := .vec 1060 0 1 ((List.replicate m27 (0 : Int)).length)) (G5 rfl rfl) ?_
    refine G1 (u := G2 s142.2) (G5 rfl rfl) ?_
    obtain ⟨y149, hmy149, hy149, h⟩ := J6 h
    refine G1 (u := .vptr 1060 0 s142.2.toNat 0) (J1 (f := G2) (xs := s33.2.2.2) (y := y149) rfl rfl rfl rfl Gr hy149 hmy149) ?_
    refine G1 (u := G2 y149) (Jp (f := G2) (xs := s33.2.2.2) (y := y149) Gc rfl rfl rfl hy149 rfl rfl) ?_
    refine G1 (u := G2 y149) (Ga rfl rfl) ?_
    refine G9 ?_
    exact e142 _ _ m142 ((s142.1 ++ [y146]), y149) (app1 hn142 h) (by omega) ⟨(by repeat' constructor), ⟨⟨_, rfl, .vec⟩, ⟨_, rfl, .same⟩, ⟨_, rfl, .vec⟩, ⟨_, rfl, .vec⟩, ⟨_, rfl, .same⟩, trivial⟩, rfl⟩
   ·
    replace h := bif_f hb h
    refine H4 ?_
    refine hK129 _ _ ?_
    refine G6 fun K150 hK150 => G3 ?_
    refine G1 (u := OW 1058 4 G0.av s142.1) (G5 rfl rfl) ?_
    refine G1 (u := OW 1058 4 G0.av s142.1) (Ga rfl rfl) ?_
    refine G9 (hK150 _ _ ?_)
    refine Gt ?_
    obtain rfl := Option.some.inj h
    exact ⟨[LS 4 G0.av s142.1], [(1052, .vec 83 4 counts_q (counts.map G0.av))], ⟨⟨_, rfl, .vec⟩, trivial⟩, rfl, ⟨⟨_, rfl, .conv (.list rfl)⟩, trivial⟩, rfl, rfl⟩
end
end Go.Proofs.Ytlhfflmknlfafaa
