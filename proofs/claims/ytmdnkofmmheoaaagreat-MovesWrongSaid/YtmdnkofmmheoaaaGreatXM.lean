/-
 Models of functions of the program, and that they return what the models say.
-/
import Derived.Test.YtmdnkofmmheoaaaGreatProg
import Derived.Test.YtmdnkofmmheoaaaGreatSortM
import Derived.Test.YtmdnkofmmheoaaaGreatSortLay
import Derived.Test.YtmdnkofmmheoaaaGreatRel
import Derived.Test.YtmdnkofmmheoaaaGreatLit0
import Derived.Test.YtmdnkofmmheoaaaGreatXA
import Derived.Test.YtmdnkofmmheoaaaGreatSpecA
import Derived.Test.YtmdnkofmmheoaaaGreatSpecI
import Derived.Test.YtmdnkofmmheoaaaGreatXVa
import Derived.Test.YtmdnkofmmheoaaaGreatXVb
import Derived.Test.YtmdnkofmmheoaaaGreatXV
import Derived.Test.YtmdnkofmmheoaaaGreatXMa
set_option maxRecDepth 100000
set_option linter.unusedVariables false
set_option linter.unusedSimpArgs false
namespace Go.Proofs.YtmdnkofmmheoaaaGreat
open Go.RowKit
noncomputable section
open XAF
open XVF
open XMF

def M_plan_Boxes (boxes : List Box) (calls : Int) : Option Bool :=
 bif (((decide (calls < 1)) || (decide (20 < calls))) || (decide (2000 < (boxes.length : Int)))) then
 (some false)
 else
 (each (fun y28 i28 (s28 : Int) nx28 =>
   bif ((((((decide (y28.ID ≤ s28)) || (decide (999999 < y28.ID))) || ((decide (y28.Size ≠ 40)) && ((decide (y28.Size ≠ 20)) || y28.High))) || (decide (y28.Load < 0))) || (decide (y28.Discharge ≤ y28.Load))) || (decide (calls ≤ y28.Discharge))) then
   (some false)
   else
   (nx28 y28.ID))
  (fun (s28 : Int) =>
   some true) boxes 0 0)
theorem M_plan_Boxes_w (boxes : List Box) (calls : Int) (r : Bool) (h : M_plan_Boxes boxes calls = some r) : Pure Tryz.prog 31 [LS 9 Box.av boxes, G0 calls] (· = BL r) := by
 unfold M_plan_Boxes at h
 refine Gx [.tmp 4] Tryz.func31 O O ?_
 refine G6 fun K1 hK1 => G2 ?_
 refine JLg (BL false) (G9 O O) ?_
 refine G8 (hK1 _ _ ?_)
 refine G6 (fun K2 hK2 => ?_)
 refine G6 fun K3 hK3 => G2 ?_
 refine JLg (G0 calls) (G7 O O) ?_
 refine JLg (BL (decide (calls < 1))) (He O O O) ?_
 refine JLg (BL (decide (calls < 1))) (G7 O O) ?_
 refine Gd (u := G0 calls) [] O O O .scf trivial (fun hc => G7 O O) ?_
 refine Gd (u := BL (decide (20 < calls))) [(11, G0 calls)] O O O .scf ⟨.all id, trivial⟩ (fun hc => A_gtr O O O) ?_
 refine JLg (BL ((decide (calls < 1)) || (decide (20 < calls)))) (Q0 O O O O) ?_
 refine JLg (BL ((decide (calls < 1)) || (decide (20 < calls)))) (G7 O O) ?_
 refine Gd (u := LS 9 Box.av boxes) [] O O O .scf trivial (fun hc => G7 O O) ?_
 refine Gd (u := G0 (boxes.length : Int)) [(15, LS 9 Box.av boxes)] O O O .scf ⟨.all id, trivial⟩ (fun hc => A_lenM (f := Box.av) (xs := boxes) Hv O O) ?_
 refine Gd (u := BL (decide (2000 < (boxes.length : Int)))) [(16, G0 (boxes.length : Int))] O O O .scf ⟨.all id, trivial⟩ (fun hc => A_gtr O O O) ?_
 refine JLg (BL (((decide (calls < 1)) || (decide (20 < calls))) || (decide (2000 < (boxes.length : Int))))) (Q0 O O O O) ?_
 refine G8 (hK3 _ _ ?_)
 refine Gh O (fun hb => ?_) (fun hb => ?_)
 ·
  replace h := bif_t hb h
  refine G6 fun K4 hK4 => G2 ?_
  refine JLg (BL false) (G9 O O) ?_
  refine G8 (hK4 _ _ ?_)
  refine Gq ?_
  exact ⟨[BL false], [], trivial, O, ⟨⟨_, O, .conv (.same O)⟩, trivial⟩, O, congrArg (fun r : Bool => (BL r : AV)) (Option.some.inj h)⟩
 ·
  replace h := bif_f hb h
  refine Gj ?_
  refine hK2 _ _ ?_
  refine G6 fun K5 hK5 => G2 ?_
  refine JLg (G0 0) (G9 O O) ?_
  refine G8 (hK5 _ _ ?_)
  refine G6 (fun K6 hK6 => ?_)
  refine G6 fun K7 hK7 => G2 ?_
  refine JLg (LS 9 Box.av boxes) (G7 O O) ?_
  refine H9 (f := Box.av) (xs := boxes) Hv O O (fun hm20 => ?_) O O O
  refine JLg (G0 0) (G7 O O) ?_
  refine G8 (hK7 _ _ ?_)
  refine Gi ?_
  obtain ⟨b28, kx28, hb28, hkx28, h⟩ := Hi h
  refine Gz (fun i28 (s28 : Int) => each b28 kx28 (List.drop i28 boxes) i28 s28 = some r) (fun i28 s28 => [(1, G0 calls), (5, G0 s28), (19, LS 9 Box.av boxes), (20, G0 (boxes.length : Int)), (21, G0 (i28 : Int))]) (fun i28 s28 => []) (fun i28 => boxes.length - i28) 0 0 h ⟨(by repeat' constructor), trivial, rfl⟩ ?_
  clear h
  intro i28 s28 hi28 K28 e28
  refine G6 fun K29 hK29 => G2 ?_
  refine JLg (BL (decide ((i28 : Int) < (boxes.length : Int)))) (He O O O) ?_
  refine G8 (hK29 _ _ ?_)
  refine G6 (fun K30 hK30 => ?_)
  refine Gh O (fun hb => ?_) (fun hb => ?_)
  ·
   have hk28 := lt_len hb
   obtain ⟨y28, nx28, hy28, hn28, h⟩ := Ha hi28 hk28
   replace h := app4 hb28 h
   refine Gj ?_
   refine hK30 _ _ ?_
   refine G6 (fun K31 hK31 => ?_)
   refine Gi ?_
   refine G6 fun K32 hK32 => G2 ?_
   refine JLg (.dptr (Box.cs y28)) (Gw (f := Box.av) (xs := boxes) (y := y28) O O O Hv hy28 O) ?_
   refine JLg (.agg (Box.cs y28)) (Gg Q1 O O O) ?_
   refine JLg (.ptr 1087 0) (H2 1087 9 Jo O O) ?_
   refine H1 (u := .junk) (Gt (u := .agg (Box.cs y28)) (ds := (Box.cs y28)) tf_size_81 O O O O O O O O) ?_
   refine G8 (hK32 _ _ ?_)
   refine Gm [(1, G0 calls), (5, G0 s28), (7, .dptr (Box.cs y28)), (19, LS 9 Box.av boxes), (20, G0 (boxes.length : Int)), (21, G0 (i28 : Int))] [] 1087 rfl rfl rfl trivial rfl (by repeat' (first | exact .ptr | constructor)) ?_
   refine G6 (fun K33 hK33 => ?_)
   refine G6 fun K34 hK34 => G2 ?_
   refine JLg (.dptr (Box.cs y28)) (Gb J4 O O O) ?_
   refine JLg (G0 y28.ID) (Gf Ga O O O) ?_
   refine JLg (G0 s28) (G7 O O) ?_
   refine JLg (BL (decide (y28.ID ≤ s28))) (A_leq O O O) ?_
   refine JLg (BL (decide (y28.ID ≤ s28))) (G7 O O) ?_
   refine Gd (u := .dptr (Box.cs y28)) [] O O O .scf trivial (fun hc => Gb J4 O O O) ?_
   refine Gd (u := G0 y28.ID) [(30, .dptr (Box.cs y28))] O O O .scf ⟨.all id, trivial⟩ (fun hc => Gf Ga O O O) ?_
   refine Gd (u := BL (decide (999999 < y28.ID))) [(31, G0 y28.ID)] O O O .scf ⟨.all id, trivial⟩ (fun hc => A_gtr O O O) ?_
   refine JLg (BL ((decide (y28.ID ≤ s28)) || (decide (999999 < y28.ID)))) (Q0 O O O O) ?_
   refine JLg (BL ((decide (y28.ID ≤ s28)) || (decide (999999 < y28.ID)))) (G7 O O) ?_
   refine Gd (u := .dptr ((Box.cs y28).drop 2)) [] O O O .scf trivial (fun hc => Gb tf_field_81_2 O O O) ?_
   refine Gd (u := U8 y28.Size) [(35, .dptr ((Box.cs y28).drop 2))] O O O .scf ⟨.all id, trivial⟩ (fun hc => Gf H7 O O O) ?_
   refine Gd (u := BL (decide (y28.Size ≠ 40))) [(36, U8 y28.Size)] O O O .scf ⟨.all id, trivial⟩ (fun hc => A_neq O O O) ?_
   refine Gd (u := BL (decide (y28.Size ≠ 40))) [(37, BL (decide (y28.Size ≠ 40)))] O O O .scf ⟨.all id, trivial⟩ (fun hc => G7 O O) ?_
   refine Gd (u := .dptr ((Box.cs y28).drop 2)) [] O O O .optt trivial (fun hc => Gb tf_field_81_2 O O O) ?_
   refine Gd (u := U8 y28.Size) [(39, .dptr ((Box.cs y28).drop 2))] O O O .optt ⟨.all id, trivial⟩ (fun hc => Gf H7 O O O) ?_
   refine Gd (u := BL (decide (y28.Size ≠ 20))) [(40, U8 y28.Size)] O O O .optt ⟨.all id, trivial⟩ (fun hc => A_neq O O O) ?_
   refine Gd (u := BL (decide (y28.Size ≠ 20))) [(41, BL (decide (y28.Size ≠ 20)))] O O O .optt ⟨.all id, trivial⟩ (fun hc => G7 O O) ?_
   refine Gd (u := .dptr ((Box.cs y28).drop 3)) [] O O O .optf trivial (fun hc => Gb tf_field_81_3 O O O) ?_
   refine Gd (u := BL y28.High) [(43, .dptr ((Box.cs y28).drop 3))] O O O .optf ⟨.all id, trivial⟩ (fun hc => Gf J9 O O O) ?_
   refine Gd (u := BL ((decide (y28.Size ≠ 20)) || y28.High)) [(42, BL (decide (y28.Size ≠ 20))), (44, _)] O O O .optt ⟨.all id, .part, trivial⟩ (fun hc => Q0 O O O O) ?_
   refine Gd (u := BL ((decide (y28.Size ≠ 40)) && ((decide (y28.Size ≠ 20)) || y28.High))) [(38, BL (decide (y28.Size ≠ 40))), (45, _)] O O O .scf ⟨.all id, .part, trivial⟩ (fun hc => J2 O O O O) ?_
   refine JLg (BL (((decide (y28.ID ≤ s28)) || (decide (999999 < y28.ID))) || ((decide (y28.Size ≠ 40)) && ((decide (y28.Size ≠ 20)) || y28.High)))) (Q0 O O O O) ?_
   refine JLg (BL (((decide (y28.ID ≤ s28)) || (decide (999999 < y28.ID))) || ((decide (y28.Size ≠ 40)) && ((decide (y28.Size ≠ 20)) || y28.High)))) (G7 O O) ?_
   refine Gd (u := .dptr ((Box.cs y28).drop 5)) [] O O O .scf trivial (fun hc => Gb tf_field_81_5 O O O) ?_
   refine Gd (u := G0 y28.Load) [(49, .dptr ((Box.cs y28).drop 5))] O O O .scf ⟨.all id, trivial⟩ (fun hc => Gf Ga O O O) ?_
   refine Gd (u := BL (decide (y28.Load < 0))) [(50, G0 y28.Load)] O O O .scf ⟨.all id, trivial⟩ (fun hc => He O O O) ?_
   refine JLg (BL ((((decide (y28.ID ≤ s28)) || (decide (999999 < y28.ID))) || ((decide (y28.Size ≠ 40)) && ((decide (y28.Size ≠ 20)) || y28.High))) || (decide (y28.Load < 0)))) (Q0 O O O O) ?_
   refine JLg (BL ((((decide (y28.ID ≤ s28)) || (decide (999999 < y28.ID))) || ((decide (y28.Size ≠ 40)) && ((decide (y28.Size ≠ 20)) || y28.High))) || (decide (y28.Load < 0)))) (G7 O O) ?_
   refine Gd (u := .dptr ((Box.cs y28).drop 5)) [] O O O .scf trivial (fun hc => Gb tf_field_81_5 O O O) ?_
   refine Gd (u := G0 y28.Load) [(54, .dptr ((Box.cs y28).drop 5))] O O O .scf ⟨.all id, trivial⟩ (fun hc => Gf Ga O O O) ?_
   refine Gd (u := .dptr ((Box.cs y28).drop 6)) [] O O O .scf trivial (fun hc => Gb tf_field_81_6 O O O) ?_
   refine Gd (u := G0 y28.Discharge) [(56, .dptr ((Box.cs y28).drop 6))] O O O .scf ⟨.all id, trivial⟩ (fun hc => Gf Ga O O O) ?_
   refine Gd (u := BL (decide (y28.Discharge ≤ y28.Load))) [(55, G0 y28.Load), (57, G0 y28.Discharge)] O O O .scf ⟨.all id, .all id, trivial⟩ (fun hc => A_geq O O O) ?_
   refine JLg (BL (((((decide (y28.ID ≤ s28)) || (decide (999999 < y28.ID))) || ((decide (y28.Size ≠ 40)) && ((decide (y28.Size ≠ 20)) || y28.High))) || (decide (y28.Load < 0))) || (decide (y28.Discharge ≤ y28.Load)))) (Q0 O O O O) ?_
   refine JLg (BL (((((decide (y28.ID ≤ s28)) || (decide (999999 < y28.ID))) || ((decide (y28.Size ≠ 40)) && ((decide (y28.Size ≠ 20)) || y28.High))) || (decide (y28.Load < 0))) || (decide (y28.Discharge ≤ y28.Load)))) (G7 O O) ?_
   refine Gd (u := .dptr ((Box.cs y28).drop 6)) [] O O O .scf trivial (fun hc => Gb tf_field_81_6 O O O) ?_
   refine Gd (u := G0 y28.Discharge) [(61, .dptr ((Box.cs y28).drop 6))] O O O .scf ⟨.all id, trivial⟩ (fun hc => Gf Ga O O O) ?_
   refine Gd (u := G0 calls) [] O O O .scf trivial (fun hc => G7 O O) ?_
   refine Gd (u := BL (decide (calls ≤ y28.Discharge))) [(62, G0 y28.Discharge), (63, G0 calls)] O O O .scf ⟨.all id, .all id, trivial⟩ (fun hc => A_geq O O O) ?_
   refine JLg (BL ((((((decide (y28.ID ≤ s28)) || (decide (999999 < y28.ID))) || ((decide (y28.Size ≠ 40)) && ((decide (y28.Size ≠ 20)) || y28.High))) || (decide (y28.Load < 0))) || (decide (y28.Discharge ≤ y28.Load))) || (decide (calls ≤ y28.Discharge)))) (Q0 O O O O) ?_
   refine G8 (hK34 _ _ ?_)
   refine Gh O (fun hb => ?_) (fun hb => ?_)
   ·
    replace h := bif_t hb h
    refine G6 fun K35 hK35 => G2 ?_
    refine JLg (BL false) (G9 O O) ?_
    refine G8 (hK35 _ _ ?_)
    refine Gq ?_
    exact ⟨[BL false], [], trivial, O, ⟨⟨_, O, .conv (.same O)⟩, trivial⟩, O, congrArg (fun r : Bool => (BL r : AV)) (Option.some.inj h)⟩
   ·
    replace h := bif_f hb h
    refine Gj ?_
    refine hK33 _ _ ?_
    refine G2 ?_
    refine JLg (.dptr (Box.cs y28)) (Gb J4 O O O) ?_
    refine JLg (G0 y28.ID) (Gf Ga O O O) ?_
    refine JLg (G0 y28.ID) (G9 O O) ?_
    refine G8 (hK31 _ _ ?_)
    refine G2 ?_
    refine JLg (G0 ((i28 + 1 : Nat) : Int)) (Hd (idx_succ hk28 hm20) O O O) ?_
    refine JLg (G0 ((i28 + 1 : Nat) : Int)) (G7 O O) ?_
    refine G8 ?_
    exact e28 _ _ (i28 + 1) y28.ID (app1 hn28 h) (by omega) ⟨(by repeat' constructor), trivial, rfl⟩
  ·
   have h := app1 hkx28 (Hb hi28 (Gy hb))
   refine H4 ?_
   refine hK6 _ _ ?_
   refine G6 fun K36 hK36 => G2 ?_
   refine JLg (BL true) (G9 O O) ?_
   refine G8 (hK36 _ _ ?_)
   refine Gq ?_
   exact ⟨[BL true], [], trivial, O, ⟨⟨_, O, .conv (.same O)⟩, trivial⟩, O, congrArg (fun r : Bool => (BL r : AV)) (Option.some.inj h)⟩

def M_plan_Aboard (boxes : List Box) (call : Int) : Option (List Int) :=
 each (fun y19 i19 (s19 : (List Int)) nx19 =>
  jp (fun kj22 =>
   bif ((decide (y19.Load ≤ call)) && (decide (call < y19.Discharge))) then
   (need (decide ((s19.length + [y19.ID].length) * 8 ≤ 140737488355328 ∧ s19.length + [y19.ID].length ≤ maxLen)) <|
    kj22 (s19 ++ [y19.ID]))
   else
   (kj22 s19)) fun (j22 : (List Int)) =>
  nx19 j22)
 (fun (s19 : (List Int)) =>
  some s19) boxes 0 []
theorem M_plan_Aboard_w (boxes : List Box) (call : Int) (r : (List Int)) (h : M_plan_Aboard boxes call = some r) : Pure Tryz.prog 33 [LS 9 Box.av boxes, G0 call] (· = LS 1 G0 r) := by
 unfold M_plan_Aboard at h
 refine Gx [.tmp 4] Tryz.func33 O O ?_
 refine G6 fun K1 hK1 => G2 ?_
 refine JLg (LS 1 G0 ([] : List Int)) (Hw 1 O O) ?_
 refine G8 (hK1 _ _ ?_)
 refine G6 fun K2 hK2 => G2 ?_
 refine JLg (OW 1089 1 G0 ([] : List Int)) (A_nilOwn 1089 3 1 O O O) ?_
 refine G8 (hK2 _ _ ?_)
 refine G6 (fun K3 hK3 => ?_)
 refine G6 fun K4 hK4 => G2 ?_
 refine JLg (LS 9 Box.av boxes) (G7 O O) ?_
 refine H9 (f := Box.av) (xs := boxes) Hv O O (fun hm9 => ?_) O O O
 refine JLg (G0 0) (G7 O O) ?_
 refine G8 (hK4 _ _ ?_)
 refine Gi ?_
 obtain ⟨b19, kx19, hb19, hkx19, h⟩ := Hi h
 refine Gz (fun i19 (s19 : (List Int)) => each b19 kx19 (List.drop i19 boxes) i19 s19 = some r) (fun i19 s19 => [(1, G0 call), (5, OW 1089 1 G0 s19), (8, LS 9 Box.av boxes), (9, G0 (boxes.length : Int)), (10, G0 (i19 : Int))]) (fun i19 s19 => [(1089, .spare 3 1 s19.length s19.length)]) (fun i19 => boxes.length - i19) 0 [] h ⟨(by repeat' constructor), ⟨⟨_, rfl, .same⟩, trivial⟩, rfl⟩ ?_
 clear h
 intro i19 s19 hi19 K19 e19
 refine G6 fun K20 hK20 => G2 ?_
 refine JLg (BL (decide ((i19 : Int) < (boxes.length : Int)))) (He O O O) ?_
 refine G8 (hK20 _ _ ?_)
 refine G6 (fun K21 hK21 => ?_)
 refine Gh O (fun hb => ?_) (fun hb => ?_)
 ·
  have hk19 := lt_len hb
  obtain ⟨y19, nx19, hy19, hn19, h⟩ := Ha hi19 hk19
  replace h := app4 hb19 h
  refine Gj ?_
  refine hK21 _ _ ?_
  obtain ⟨kj22, hkj22, h⟩ := J6 h
  refine Hs (fun j22 : (List Int) => kj22 j22 = some r) (fun j22 => [(1, G0 call), (5, OW 1089 1 G0 j22), (8, LS 9 Box.av boxes), (9, G0 (boxes.length : Int)), (10, G0 (i19 : Int))]) (fun j22 => [(1089, .spare 3 1 j22.length j22.length)]) (fun Kj22 ej22 => ?_) ?_
  ·
   refine Gi ?_
   refine G6 fun K23 hK23 => G2 ?_
   refine JLg (.dptr (Box.cs y19)) (Gw (f := Box.av) (xs := boxes) (y := y19) O O O Hv hy19 O) ?_
   refine JLg (.agg (Box.cs y19)) (Gg Q1 O O O) ?_
   refine JLg (.ptr 1090 0) (H2 1090 9 Jo O O) ?_
   refine H1 (u := .junk) (Gt (u := .agg (Box.cs y19)) (ds := (Box.cs y19)) tf_size_81 O O O O O O O O) ?_
   refine G8 (hK23 _ _ ?_)
   refine Gm [(1, G0 call), (5, OW 1089 1 G0 s19), (7, .dptr (Box.cs y19)), (8, LS 9 Box.av boxes), (9, G0 (boxes.length : Int)), (10, G0 (i19 : Int))] [(1089, .spare 3 1 s19.length s19.length)] 1090 rfl rfl rfl ⟨⟨_, rfl, .same⟩, trivial⟩ rfl (by repeat' (first | exact .ptr | constructor)) ?_
   refine G6 fun K24 hK24 => G2 ?_
   refine JLg (.dptr ((Box.cs y19).drop 5)) (Gb tf_field_81_5 O O O) ?_
   refine JLg (G0 y19.Load) (Gf Ga O O O) ?_
   refine JLg (G0 call) (G7 O O) ?_
   refine JLg (BL (decide (y19.Load ≤ call))) (A_leq O O O) ?_
   refine JLg (BL (decide (y19.Load ≤ call))) (G7 O O) ?_
   refine Gd (u := G0 call) [] O O O .sct trivial (fun hc => G7 O O) ?_
   refine Gd (u := .dptr ((Box.cs y19).drop 6)) [] O O O .sct trivial (fun hc => Gb tf_field_81_6 O O O) ?_
   refine Gd (u := G0 y19.Discharge) [(20, .dptr ((Box.cs y19).drop 6))] O O O .sct ⟨.all id, trivial⟩ (fun hc => Gf Ga O O O) ?_
   refine Gd (u := BL (decide (call < y19.Discharge))) [(19, G0 call), (21, G0 y19.Discharge)] O O O .sct ⟨.all id, .all id, trivial⟩ (fun hc => He O O O) ?_
   refine JLg (BL ((decide (y19.Load ≤ call)) && (decide (call < y19.Discharge)))) (J2 O O O O) ?_
   refine G8 (hK24 _ _ ?_)
   refine Gh O (fun hb => ?_) (fun hb => ?_)
   ·
    replace h := bif_t hb h
    refine G2 ?_
    refine JLg (OW 1089 1 G0 s19) (G7 O O) ?_
    refine JLg (.dptr (Box.cs y19)) (Gb J4 O O O) ?_
    refine JLg (G0 y19.ID) (Gf Ga O O O) ?_
    refine JLg (LS 1 G0 [y19.ID]) (Gu (xs := [G0 y19.ID]) O ⟨O, O, trivial⟩ H0 Jr O O O O) ?_
    obtain ⟨ha25, h⟩ := Hq h
    refine JLg (OW 1089 1 G0 (s19 ++ [y19.ID])) (Jd (f := G0) (xs := s19) (ys := [y19.ID]) O O O O H0 tf_elem_3 ha25 (fun _ => O) (.inl O) O) ?_
    refine JLg (OW 1089 1 G0 (s19 ++ [y19.ID])) (G9 O O) ?_
    refine G8 ?_
    exact ej22 _ _ (s19 ++ [y19.ID]) h ⟨(by repeat' constructor), ⟨⟨_, rfl, .same⟩, trivial⟩, rfl⟩
   ·
    replace h := bif_f hb h
    refine Gj ?_
    exact ej22 _ _ s19 h ⟨(by repeat' constructor), ⟨⟨_, rfl, .same⟩, trivial⟩, rfl⟩
  ·intro j22 h
   replace h := app1 hkj22 h
   refine G2 ?_
   refine JLg (G0 ((i19 + 1 : Nat) : Int)) (Hd (idx_succ hk19 hm9) O O O) ?_
   refine JLg (G0 ((i19 + 1 : Nat) : Int)) (G7 O O) ?_
   refine G8 ?_
   exact e19 _ _ (i19 + 1) j22 (app1 hn19 h) (by omega) ⟨(by repeat' constructor), ⟨⟨_, rfl, .same⟩, trivial⟩, rfl⟩
 ·
  have h := app1 hkx19 (Hb hi19 (Gy hb))
  refine H4 ?_
  refine hK3 _ _ ?_
  refine G6 fun K26 hK26 => G2 ?_
  refine JLg (OW 1089 1 G0 s19) (G7 O O) ?_
  refine JLg (OW 1089 1 G0 s19) (G9 O O) ?_
  refine G8 (hK26 _ _ ?_)
  refine Gq ?_
  exact ⟨[LS 1 G0 s19], [], trivial, O, ⟨⟨_, O, .conv (.list O)⟩, trivial⟩, O, congrArg (fun r : (List Int) => (LS 1 G0 r : AV)) (Option.some.inj h)⟩

def M_slices_EqualFunc_int (s1_ : List G3) (s2_ : List Int) (eq : G3 → Int → Option Bool) : Option Bool :=
 bif decide ((s1_.length : Int) ≠ (s2_.length : Int)) then
 (some false)
 else
 (each (fun y29 i29 (s29 : Unit) nx29 =>
   gidx s2_ (i29 : Int) fun y35 =>
   bnd (eq y29 y35) fun r38 =>
   bif (!r38) then
   (some false)
   else
   (nx29 ()))
  (fun (s29 : Unit) =>
   some true) s1_ 0 ())
theorem M_slices_EqualFunc_int_w (s1_ : List G3) (s2_ : List Int) (eq : G3 → Int → Option Bool) (eq_f : FuncId) (eq_c : List AV) (eq_B : callB Tryz.prog eq_f = true) (eq_d : refsL (fun _ => false) eq_c = true) (eq_w : ∀ a0 a1 q, eq a0 a1 = some q → Pure Tryz.prog eq_f ([.agg (G3.cs a0), G0 a1] ++ eq_c) (· = BL q)) (r : Bool) (h : M_slices_EqualFunc_int s1_ s2_ eq = some r) : Pure Tryz.prog 32 [LS 4 G3.av s1_, LS 1 G0 s2_, .fn eq_f eq_c] (· = BL r) := by
 unfold M_slices_EqualFunc_int at h
 refine Gx [.tmp 6] Tryz.func32 O O ?_
 refine G6 fun K1 hK1 => G2 ?_
 refine JLg (BL false) (G9 O O) ?_
 refine G8 (hK1 _ _ ?_)
 refine G6 (fun K2 hK2 => ?_)
 refine G6 fun K3 hK3 => G2 ?_
 refine JLg (LS 4 G3.av s1_) (G7 O O) ?_
 refine H9 (f := G3.av) (xs := s1_) Gs O O (fun hm11 => ?_) O O O
 refine JLg (LS 1 G0 s2_) (G7 O O) ?_
 refine H9 (f := G0) (xs := s2_) H0 O O (fun hm13 => ?_) O O O
 refine JLg (BL (decide ((s1_.length : Int) ≠ (s2_.length : Int)))) (A_neq O O O) ?_
 refine G8 (hK3 _ _ ?_)
 refine Gh O (fun hb => ?_) (fun hb => ?_)
 ·
  replace h := bif_t hb h
  refine G6 fun K4 hK4 => G2 ?_
  refine JLg (BL false) (G9 O O) ?_
  refine G8 (hK4 _ _ ?_)
  refine Gq ?_
  exact ⟨[BL false], [], trivial, O, ⟨⟨_, O, .conv (.same O)⟩, trivial⟩, O, congrArg (fun r : Bool => (BL r : AV)) (Option.some.inj h)⟩
 ·
  replace h := bif_f hb h
  refine Gj ?_
  refine hK2 _ _ ?_
  refine G6 (fun K5 hK5 => ?_)
  refine G6 fun K6 hK6 => G2 ?_
  refine JLg (LS 4 G3.av s1_) (G7 O O) ?_
  refine H9 (f := G3.av) (xs := s1_) Gs O O (fun hm16 => ?_) O O O
  refine JLg (G0 0) (G7 O O) ?_
  refine G8 (hK6 _ _ ?_)
  refine Gi ?_
  obtain ⟨b29, kx29, hb29, hkx29, h⟩ := Hi h
  refine Gz (fun i29 (s29 : Unit) => each b29 kx29 (List.drop i29 s1_) i29 s29 = some r) (fun i29 s29 => [(1, LS 1 G0 s2_), (2, .fn eq_f eq_c), (15, LS 4 G3.av s1_), (16, G0 (s1_.length : Int)), (17, G0 (i29 : Int))]) (fun i29 s29 => []) (fun i29 => s1_.length - i29) 0 () h ⟨⟨.same O, .same (refsL_any _ _ eq_d), .same O, .same O, .same O, trivial⟩, trivial, O⟩ ?_
  clear h
  intro i29 s29 hi29 K29 e29
  refine G6 fun K30 hK30 => G2 ?_
  refine JLg (BL (decide ((i29 : Int) < (s1_.length : Int)))) (He O O O) ?_
  refine G8 (hK30 _ _ ?_)
  refine G6 (fun K31 hK31 => ?_)
  refine Gh O (fun hb => ?_) (fun hb => ?_)
  ·
   have hk29 := lt_len hb
   obtain ⟨y29, nx29, hy29, hn29, h⟩ := Ha hi29 hk29
   replace h := app4 hb29 h
   refine Gj ?_
   refine hK31 _ _ ?_
   refine G6 (fun K32 hK32 => ?_)
   refine Gi ?_
   refine G6 fun K33 hK33 => G2 ?_
   refine JLg (G0 (i29 : Int)) (G7 O O) ?_
   refine JLg (.dptr (G3.cs y29)) (Gw (f := G3.av) (xs := s1_) (y := y29) O O O Gs hy29 O) ?_
   refine JLg (.agg (G3.cs y29)) (Gg Hp O O O) ?_
   refine JLg (.ptr 1088 0) (H2 1088 4 Hk O O) ?_
   refine JLg (G0 (i29 : Int)) (G9 O O) ?_
   refine H1 (u := .junk) (Gt (u := .agg (G3.cs y29)) (ds := [G0 y29.Box, G0 y29.Slot.G5, G0 y29.Slot.Tier, U8 y29.Slot.Half]) J3 O O O O O O O O) ?_
   refine G8 (hK33 _ _ ?_)
   refine Gm [(1, LS 1 G0 s2_), (2, .fn eq_f eq_c), (7, G0 (i29 : Int)), (8, .dptr (G3.cs y29)), (15, LS 4 G3.av s1_), (16, G0 (s1_.length : Int)), (17, G0 (i29 : Int))] [] 1088 rfl rfl rfl trivial rfl (by exact ⟨.conv (.same rfl), .conv (.same (refsL_any _ _ eq_d)), .conv (.same rfl), .ptr, .conv (.same rfl), .conv (.same rfl), .conv (.same rfl), trivial⟩) ?_
   refine G6 fun K34 hK34 => G2 ?_
   refine JLg (LS 1 G0 s2_) (G7 O O) ?_
   refine JLg (G0 (i29 : Int)) (G7 O O) ?_
   obtain ⟨m36, y35, hm36, hy35, h⟩ := Jq h
   refine JLg (.dptr [G0 y35]) (Gw (f := G0) (xs := s2_) (y := y35) O O O H0 hy35 hm36) ?_
   refine JLg (G0 y35) (Gf Ga O O O) ?_
   refine JLg (G0 y35) (G9 O O) ?_
   refine G8 (hK34 _ _ ?_)
   refine G6 fun K37 hK37 => G2 ?_
   refine JLg (.fn eq_f eq_c) (G7 O O) ?_
   refine JLg (.agg (G3.cs y29)) (Gg Hp O O O) ?_
   refine JLg (G0 y35) (G7 O O) ?_
   obtain ⟨r38, hr38, h⟩ := Ge h
   refine JLg (BL r38) (Q8 (args := [.agg (G3.cs y29), G0 y35]) (caps := eq_c) O O (eq_w y29 y35 _ hr38) eq_B ⟨O, O, O, O, trivial⟩ eq_d) ?_
   refine JLg (BL (!r38)) (A_not (b := r38) O O) ?_
   refine G8 (hK37 _ _ ?_)
   refine Gh O (fun hb => ?_) (fun hb => ?_)
   ·
    replace h := bif_t hb h
    refine G6 fun K39 hK39 => G2 ?_
    refine JLg (BL false) (G9 O O) ?_
    refine G8 (hK39 _ _ ?_)
    refine Gq ?_
    exact ⟨[BL false], [], trivial, O, ⟨⟨_, O, .conv (.same O)⟩, trivial⟩, O, congrArg (fun r : Bool => (BL r : AV)) (Option.some.inj h)⟩
   ·
    replace h := bif_f hb h
    refine Gj ?_
    refine hK32 _ _ ?_
    refine G2 ?_
    refine JLg (G0 ((i29 + 1 : Nat) : Int)) (Hd (idx_succ hk29 hm16) O O O) ?_
    refine JLg (G0 ((i29 + 1 : Nat) : Int)) (G7 O O) ?_
    refine G8 ?_
    exact e29 _ _ (i29 + 1) () (app1 hn29 h) (by omega) ⟨⟨.same rfl, .same (refsL_any _ _ eq_d), .same rfl, .same rfl, .same rfl, trivial⟩, trivial, rfl⟩
  ·
   have h := app1 hkx29 (Hb hi29 (Gy hb))
   refine H4 ?_
   refine hK5 _ _ ?_
   refine G6 fun K40 hK40 => G2 ?_
   refine JLg (BL true) (G9 O O) ?_
   refine G8 (hK40 _ _ ?_)
   refine Gq ?_
   exact ⟨[BL true], [], trivial, O, ⟨⟨_, O, .conv (.same O)⟩, trivial⟩, O, congrArg (fun r : Bool => (BL r : AV)) (Option.some.inj h)⟩

def M_plan_Check_1 (x : G3) (id_ : Int) : Option Bool :=
 some (decide (x.Box = id_))
theorem M_plan_Check_1_w (x : G3) (id_ : Int) (r : Bool) (h : M_plan_Check_1 x id_ = some r) : Pure Tryz.prog 34 [.agg (G3.cs x), G0 id_] (· = BL r) := by
 unfold M_plan_Check_1 at h
 refine Gx [.tmp 4] Tryz.func34 O O ?_
 refine G6 fun K1 hK1 => G2 ?_
 refine JLg (.ptr 1091 0) (J1 (u := .agg (G3.cs x)) (cs := [G0 x.Box, G0 x.Slot.G5, G0 x.Slot.Tier, U8 x.Slot.Half]) 1091 O O O O O) ?_
 refine JLg (BL false) (G9 O O) ?_
 refine G8 (hK1 _ _ ?_)
 refine Gm [(1, G0 id_), (2, .dptr (G3.cs x))] [] 1091 rfl rfl rfl trivial rfl (by exact ⟨.conv (.same rfl), .ptr, trivial⟩) ?_
 refine G6 fun K2 hK2 => G2 ?_
 refine JLg (.dptr (G3.cs x)) (Gb Hn O O O) ?_
 refine JLg (G0 x.Box) (Gf Ga O O O) ?_
 refine JLg (G0 id_) (G7 O O) ?_
 refine JLg (BL (decide (x.Box = id_))) (Hx O O O) ?_
 refine JLg (BL (decide (x.Box = id_))) (G9 O O) ?_
 refine G8 (hK2 _ _ ?_)
 refine Gq ?_
 exact ⟨[BL (decide (x.Box = id_))], [], trivial, O, ⟨⟨_, O, .conv (.same O)⟩, trivial⟩, O, congrArg (fun r : Bool => (BL r : AV)) (Option.some.inj h)⟩

def M_plan_Check (s : Ship) (boxes : List Box) (calls : Int) (p : Plan) : Option (Int × Int) :=
 bnd (S_ship_Right s) fun r4 =>
 bif (!r4) then
 (some (0, 2))
 else
 (bnd (M_plan_Boxes boxes calls) fun r7 =>
  bif (!r7) then
  (some (0, 230))
  else
  (bif decide ((p.States.length : Int) ≠ calls) then
   (some (0, 231))
   else
   (each (fun y45 i45 (s45 : Unit) nx45 =>
     bnd (M_stow_Right s boxes y45) fun r52 =>
     bif (!r52) then
     (some ((i45 : Int), 232))
     else
     (bnd (M_plan_Aboard boxes (i45 : Int)) fun r55 =>
      bnd (M_slices_EqualFunc_int y45 r55 (fun z0 z1 => M_plan_Check_1 z0 z1)) fun r56 =>
      bif (!r56) then
      (some ((i45 : Int), 233))
      else
      (nx45 ())))
    (fun (s45 : Unit) =>
     some (0, 0)) p.States 0 ())))
theorem M_plan_Check_w (s : Ship) (boxes : List Box) (calls : Int) (p : Plan) (r : Int × Int) (h : M_plan_Check s boxes calls p = some r) : Pure Tryz.prog 14 [.agg (Ship.cs s), LS 9 Box.av boxes, G0 calls, .agg [LS 1 (LS 4 G3.av) p.States, LS 1 (LS 1 G0) p.Water]] (· = .tup [G0 r.1, G0 r.2]) := by
 unfold M_plan_Check at h
 refine Gx [.tmp 8, .tmp 9] Tryz.func14 O O ?_
 refine G6 fun K1 hK1 => G2 ?_
 refine JLg (.ptr 1055 0) (J1 (u := .agg (Ship.cs s)) (cs := (Ship.cs s)) 1055 O O O O O) ?_
 refine JLg (.ptr 1056 0) (J1 (u := .agg [LS 1 (LS 4 G3.av) p.States, LS 1 (LS 1 G0) p.Water]) (cs := [LS 1 (LS 4 G3.av) p.States, LS 1 (LS 1 G0) p.Water]) 1056 O O O O O) ?_
 refine JLg (G0 0) (G9 O O) ?_
 refine JLg (G0 0) (G9 O O) ?_
 refine G8 (hK1 _ _ ?_)
 refine Gm [(1, LS 9 Box.av boxes), (2, G0 calls), (4, .dptr (Ship.cs s)), (7, .ptr 1056 0)] [(1056, .box 41 [LS 1 (LS 4 G3.av) p.States, LS 1 (LS 1 G0) p.Water])] 1055 rfl rfl rfl ⟨⟨_, rfl, .boxEq rfl rfl⟩, trivial⟩ rfl (by repeat' (first | exact .ptr | constructor)) ?_
 refine Gm [(1, LS 9 Box.av boxes), (2, G0 calls), (4, .dptr (Ship.cs s)), (7, .dptr [LS 1 (LS 4 G3.av) p.States, LS 1 (LS 1 G0) p.Water])] [] 1056 rfl rfl rfl trivial rfl (by repeat' (first | exact .ptr | constructor)) ?_
 refine G6 (fun K2 hK2 => ?_)
 refine Gi ?_
 refine G6 fun K3 hK3 => G2 ?_
 refine JLg (.agg (Ship.cs s)) (Gg H5 O O O) ?_
 obtain ⟨r4, hr4, h⟩ := Ge h
 refine JLg (BL r4) (Gr (args := [.agg (Ship.cs s)]) O (S_ship_Right_w.down s r4 hr4) tf_call_15 ⟨O, O, trivial⟩) ?_
 refine JLg (BL (!r4)) (A_not (b := r4) O O) ?_
 refine JLg (BL (!r4)) (G9 O O) ?_
 refine G8 (hK3 _ _ ?_)
 refine Gh O (fun hb => ?_) (fun hb => ?_)
 ·
  replace h := bif_t hb h
  refine G6 fun K5 hK5 => G2 ?_
  refine JLg (G0 0) (G9 O O) ?_
  refine JLg (G0 2) (G9 O O) ?_
  refine G8 (hK5 _ _ ?_)
  refine Gq ?_
  exact ⟨[G0 0, G0 2], [], trivial, O, ⟨⟨_, O, .conv (.same O)⟩, ⟨_, O, .conv (.same O)⟩, trivial⟩, O, congrArg (fun r : Int × Int => (.tup [G0 r.1, G0 r.2] : AV)) (Option.some.inj h)⟩
 ·
  replace h := bif_f hb h
  refine G6 fun K6 hK6 => G2 ?_
  refine JLg (LS 9 Box.av boxes) (G7 O O) ?_
  refine JLg (G0 calls) (G7 O O) ?_
  obtain ⟨r7, hr7, h⟩ := Ge h
  refine JLg (BL r7) (Gr (args := [LS 9 Box.av boxes, G0 calls]) O (M_plan_Boxes_w boxes calls r7 hr7) tf_call_31 ⟨O, O, O, O, trivial⟩) ?_
  refine JLg (BL (!r7)) (A_not (b := r7) O O) ?_
  refine JLg (BL (!r7)) (G9 O O) ?_
  refine G8 (hK6 _ _ ?_)
  refine Gh O (fun hb => ?_) (fun hb => ?_)
  ·
   replace h := bif_t hb h
   refine G6 fun K8 hK8 => G2 ?_
   refine JLg (G0 0) (G9 O O) ?_
   refine JLg (G0 230) (G9 O O) ?_
   refine G8 (hK8 _ _ ?_)
   refine Gq ?_
   exact ⟨[G0 0, G0 230], [], trivial, O, ⟨⟨_, O, .conv (.same O)⟩, ⟨_, O, .conv (.same O)⟩, trivial⟩, O, congrArg (fun r : Int × Int => (.tup [G0 r.1, G0 r.2] : AV)) (Option.some.inj h)⟩
  ·
   replace h := bif_f hb h
   refine G6 fun K9 hK9 => G2 ?_
   refine JLg (.dptr [LS 1 (LS 4 G3.av) p.States, LS 1 (LS 1 G0) p.Water]) (Gb tf_field_41_0 O O O) ?_
   refine JLg (LS 1 (LS 4 G3.av) p.States) (Gf Q6 O O O) ?_
   refine H9 (f := (LS 4 G3.av)) (xs := p.States) Hu O O (fun hm24 => ?_) O O O
   refine JLg (G0 calls) (G7 O O) ?_
   refine JLg (BL (decide ((p.States.length : Int) ≠ calls))) (A_neq O O O) ?_
   refine JLg (BL (decide ((p.States.length : Int) ≠ calls))) (G9 O O) ?_
   refine G8 (hK9 _ _ ?_)
   refine Gh O (fun hb => ?_) (fun hb => ?_)
   ·
    replace h := bif_t hb h
    refine G6 fun K10 hK10 => G2 ?_
    refine JLg (G0 0) (G9 O O) ?_
    refine JLg (G0 231) (G9 O O) ?_
    refine G8 (hK10 _ _ ?_)
    refine Gq ?_
    exact ⟨[G0 0, G0 231], [], trivial, O, ⟨⟨_, O, .conv (.same O)⟩, ⟨_, O, .conv (.same O)⟩, trivial⟩, O, congrArg (fun r : Int × Int => (.tup [G0 r.1, G0 r.2] : AV)) (Option.some.inj h)⟩
   ·
    replace h := bif_f hb h
    refine Gj ?_
    refine hK2 _ _ ?_
    refine G6 (fun K11 hK11 => ?_)
    refine G6 fun K12 hK12 => G2 ?_
    refine JLg (.dptr [LS 1 (LS 4 G3.av) p.States, LS 1 (LS 1 G0) p.Water]) (Gb tf_field_41_0 O O O) ?_
    refine JLg (LS 1 (LS 4 G3.av) p.States) (Gf Q6 O O O) ?_
    refine H9 (f := (LS 4 G3.av)) (xs := p.States) Hu O O (fun hm29 => ?_) O O O
    refine JLg (G0 0) (G7 O O) ?_
    refine G8 (hK12 _ _ ?_)
    refine Gi ?_
    obtain ⟨b45, kx45, hb45, hkx45, h⟩ := Hi h
    refine Gz (fun i45 (s45 : Unit) => each b45 kx45 (List.drop i45 p.States) i45 s45 = some r) (fun i45 s45 => [(1, LS 9 Box.av boxes), (4, .dptr (Ship.cs s)), (28, LS 1 (LS 4 G3.av) p.States), (29, G0 (p.States.length : Int)), (30, G0 (i45 : Int))]) (fun i45 s45 => []) (fun i45 => p.States.length - i45) 0 () h ⟨(by repeat' constructor), trivial, rfl⟩ ?_
    clear h
    intro i45 s45 hi45 K45 e45
    refine G6 fun K46 hK46 => G2 ?_
    refine JLg (BL (decide ((i45 : Int) < (p.States.length : Int)))) (He O O O) ?_
    refine G8 (hK46 _ _ ?_)
    refine G6 (fun K47 hK47 => ?_)
    refine Gh O (fun hb => ?_) (fun hb => ?_)
    ·
     have hk45 := lt_len hb
     obtain ⟨y45, nx45, hy45, hn45, h⟩ := Ha hi45 hk45
     replace h := app4 hb45 h
     refine Gj ?_
     refine hK47 _ _ ?_
     refine G6 (fun K48 hK48 => ?_)
     refine Gi ?_
     refine G6 fun K49 hK49 => G2 ?_
     refine JLg (G0 (i45 : Int)) (G7 O O) ?_
     refine JLg (.dptr [LS 4 G3.av y45]) (Gw (f := (LS 4 G3.av)) (xs := p.States) (y := y45) O O O Hu hy45 O) ?_
     refine JLg (LS 4 G3.av y45) (Gf tf_scalar_69 O O O) ?_
     refine JLg (G0 (i45 : Int)) (G9 O O) ?_
     refine JLg (LS 4 G3.av y45) (G9 O O) ?_
     refine G8 (hK49 _ _ ?_)
     refine G6 (fun K50 hK50 => ?_)
     refine G6 fun K51 hK51 => G2 ?_
     refine JLg (.agg (Ship.cs s)) (Gg H5 O O O) ?_
     refine JLg (LS 9 Box.av boxes) (G7 O O) ?_
     refine JLg (LS 4 G3.av y45) (G7 O O) ?_
     obtain ⟨r52, hr52, h⟩ := Ge h
     refine JLg (BL r52) (Gr (args := [.agg (Ship.cs s), LS 9 Box.av boxes, LS 4 G3.av y45]) O (M_stow_Right_w s boxes y45 r52 hr52) tf_call_28 ⟨O, O, O, O, O, O, trivial⟩) ?_
     refine JLg (BL (!r52)) (A_not (b := r52) O O) ?_
     refine G8 (hK51 _ _ ?_)
     refine Gh O (fun hb => ?_) (fun hb => ?_)
     ·
      replace h := bif_t hb h
      refine G6 fun K53 hK53 => G2 ?_
      refine JLg (G0 (i45 : Int)) (G7 O O) ?_
      refine JLg (G0 (i45 : Int)) (G9 O O) ?_
      refine JLg (G0 232) (G9 O O) ?_
      refine G8 (hK53 _ _ ?_)
      refine Gq ?_
      exact ⟨[G0 (i45 : Int), G0 232], [], trivial, O, ⟨⟨_, O, .conv (.same O)⟩, ⟨_, O, .conv (.same O)⟩, trivial⟩, O, congrArg (fun r : Int × Int => (.tup [G0 r.1, G0 r.2] : AV)) (Option.some.inj h)⟩
     ·
      replace h := bif_f hb h
      refine Gj ?_
      refine hK50 _ _ ?_
      refine G6 fun K54 hK54 => G2 ?_
      refine JLg (LS 4 G3.av y45) (G7 O O) ?_
      refine JLg (LS 9 Box.av boxes) (G7 O O) ?_
      refine JLg (G0 (i45 : Int)) (G7 O O) ?_
      obtain ⟨r55, hr55, h⟩ := Ge h
      refine JLg (LS 1 G0 r55) (Gr (args := [LS 9 Box.av boxes, G0 (i45 : Int)]) O (M_plan_Aboard_w boxes (i45 : Int) r55 hr55) tf_call_33 ⟨O, O, O, O, trivial⟩) ?_
      obtain ⟨r56, hr56, h⟩ := Ge h
      refine JLg (BL r56) (Gr (args := [LS 4 G3.av y45, LS 1 G0 r55, .fn 34 []]) O (M_slices_EqualFunc_int_w y45 r55 (fun z0 z1 => M_plan_Check_1 z0 z1) 34 [] tf_call_34 O (fun z0 z1 q hq => M_plan_Check_1_w z0 z1 q hq) r56 hr56) tf_call_32 ⟨O, O, O, O, O, O, trivial⟩) ?_
      refine JLg (BL (!r56)) (A_not (b := r56) O O) ?_
      refine G8 (hK54 _ _ ?_)
      refine Gh O (fun hb => ?_) (fun hb => ?_)
      ·
       replace h := bif_t hb h
       refine G6 fun K57 hK57 => G2 ?_
       refine JLg (G0 (i45 : Int)) (G7 O O) ?_
       refine JLg (G0 (i45 : Int)) (G9 O O) ?_
       refine JLg (G0 233) (G9 O O) ?_
       refine G8 (hK57 _ _ ?_)
       refine Gq ?_
       exact ⟨[G0 (i45 : Int), G0 233], [], trivial, O, ⟨⟨_, O, .conv (.same O)⟩, ⟨_, O, .conv (.same O)⟩, trivial⟩, O, congrArg (fun r : Int × Int => (.tup [G0 r.1, G0 r.2] : AV)) (Option.some.inj h)⟩
      ·
       replace h := bif_f hb h
       refine Gj ?_
       refine hK48 _ _ ?_
       refine G2 ?_
       refine JLg (G0 ((i45 + 1 : Nat) : Int)) (Hd (idx_succ hk45 hm29) O O O) ?_
       refine JLg (G0 ((i45 + 1 : Nat) : Int)) (G7 O O) ?_
       refine G8 ?_
       exact e45 _ _ (i45 + 1) () (app1 hn45 h) (by omega) ⟨(by repeat' constructor), trivial, rfl⟩
    ·
     have h := app1 hkx45 (Hb hi45 (Gy hb))
     refine H4 ?_
     refine hK11 _ _ ?_
     refine G6 fun K58 hK58 => G2 ?_
     refine JLg (G0 0) (G9 O O) ?_
     refine JLg (G0 0) (G9 O O) ?_
     refine G8 (hK58 _ _ ?_)
     refine Gq ?_
     exact ⟨[G0 0, G0 0], [], trivial, O, ⟨⟨_, O, .conv (.same O)⟩, ⟨_, O, .conv (.same O)⟩, trivial⟩, O, congrArg (fun r : Int × Int => (.tup [G0 r.1, G0 r.2] : AV)) (Option.some.inj h)⟩

def M_moves_Voyage (F : Nat) (s : Ship) (boxes : List Box) (calls : Int) (p : Plan) : Option ((List (List Move)) × Int) :=
 bnd (M_plan_Check s boxes calls p) fun r4 =>
 bif decide (r4.2 ≠ 0) then
 (some ([], r4.2))
 else
 (each (fun y27 i27 (s27 : (List (List Move)) × (List G3)) nx27 =>
   bnd (M_moves_Call F s boxes s27.2 y27) fun r33 =>
   need (decide ((s27.1.length + [r33.1].length) * 24 ≤ 140737488355328 ∧ s27.1.length + [r33.1].length ≤ maxLen)) <|
   nx27 ((s27.1 ++ [r33.1]), y27))
  (fun (s27 : (List (List Move)) × (List G3)) =>
   some (s27.1, 0)) p.States 0 ([], []))
theorem M_moves_Voyage_w (F : Nat) (s : Ship) (boxes : List Box) (calls : Int) (p : Plan) (r : (List (List Move)) × Int) (h : M_moves_Voyage F s boxes calls p = some r) : Pure Tryz.prog 7 [.agg (Ship.cs s), LS 9 Box.av boxes, G0 calls, .agg [LS 1 (LS 4 G3.av) p.States, LS 1 (LS 1 G0) p.Water]] (· = .tup [LS 1 (LS 6 Move.av) r.1, G0 r.2]) := by
 unfold M_moves_Voyage at h
 refine Gx [.tmp 8, .tmp 9] Tryz.func7 O O ?_
 refine G6 fun K1 hK1 => G2 ?_
 refine JLg (.ptr 1024 0) (J1 (u := .agg (Ship.cs s)) (cs := (Ship.cs s)) 1024 O O O O O) ?_
 refine JLg (.ptr 1025 0) (J1 (u := .agg [LS 1 (LS 4 G3.av) p.States, LS 1 (LS 1 G0) p.Water]) (cs := [LS 1 (LS 4 G3.av) p.States, LS 1 (LS 1 G0) p.Water]) 1025 O O O O O) ?_
 refine JLg (LS 1 (LS 6 Move.av) ([] : List (List Move))) (Hw 1 O O) ?_
 refine JLg (G0 0) (G9 O O) ?_
 refine G8 (hK1 _ _ ?_)
 refine Gm [(1, LS 9 Box.av boxes), (2, G0 calls), (4, .dptr (Ship.cs s)), (7, .ptr 1025 0)] [(1025, .box 41 [LS 1 (LS 4 G3.av) p.States, LS 1 (LS 1 G0) p.Water])] 1024 rfl rfl rfl ⟨⟨_, rfl, .boxEq rfl rfl⟩, trivial⟩ rfl (by repeat' (first | exact .ptr | constructor)) ?_
 refine Gm [(1, LS 9 Box.av boxes), (2, G0 calls), (4, .dptr (Ship.cs s)), (7, .dptr [LS 1 (LS 4 G3.av) p.States, LS 1 (LS 1 G0) p.Water])] [] 1025 rfl rfl rfl trivial rfl (by repeat' (first | exact .ptr | constructor)) ?_
 refine G6 (fun K2 hK2 => ?_)
 refine G6 fun K3 hK3 => G2 ?_
 refine JLg (.agg (Ship.cs s)) (Gg H5 O O O) ?_
 refine JLg (LS 9 Box.av boxes) (G7 O O) ?_
 refine JLg (G0 calls) (G7 O O) ?_
 refine JLg (.agg [LS 1 (LS 4 G3.av) p.States, LS 1 (LS 1 G0) p.Water]) (Gg tf_agg_41 O O O) ?_
 obtain ⟨r4, hr4, h⟩ := Ge h
 refine JLg (.tup [G0 r4.1, G0 r4.2]) (Gr (args := [.agg (Ship.cs s), LS 9 Box.av boxes, G0 calls, .agg [LS 1 (LS 4 G3.av) p.States, LS 1 (LS 1 G0) p.Water]]) O (M_plan_Check_w s boxes calls p r4 hr4) tf_call_14 ⟨O, O, O, O, O, O, O, O, trivial⟩) ?_
 refine JLg (.tup [G0 r4.1, G0 r4.2]) (G7 O O) ?_
 refine JLg (G0 r4.1) (Gv O O O) ?_
 refine JLg (G0 r4.2) (Gv O O O) ?_
 refine JLg (G0 r4.1) (G9 O O) ?_
 refine JLg (G0 r4.2) (G9 O O) ?_
 refine G8 (hK3 _ _ ?_)
 refine G6 fun K5 hK5 => G2 ?_
 refine JLg (G0 r4.2) (G7 O O) ?_
 refine JLg (BL (decide (r4.2 ≠ 0))) (A_neq O O O) ?_
 refine G8 (hK5 _ _ ?_)
 refine Gh O (fun hb => ?_) (fun hb => ?_)
 ·
  replace h := bif_t hb h
  refine G6 fun K6 hK6 => G2 ?_
  refine JLg (G0 r4.2) (G7 O O) ?_
  refine JLg (LS 1 (LS 6 Move.av) ([] : List (List Move))) (Hw 1 O O) ?_
  refine JLg (G0 r4.2) (G9 O O) ?_
  refine G8 (hK6 _ _ ?_)
  refine Gq ?_
  exact ⟨[LS 1 (LS 6 Move.av) ([] : List (List Move)), G0 r4.2], [], trivial, O, ⟨⟨_, O, .conv (.same O)⟩, ⟨_, O, .conv (.same O)⟩, trivial⟩, O, congrArg (fun r : (List (List Move)) × Int => (.tup [LS 1 (LS 6 Move.av) r.1, G0 r.2] : AV)) (Option.some.inj h)⟩
 ·
  replace h := bif_f hb h
  refine Gj ?_
  refine hK2 _ _ ?_
  refine G6 fun K7 hK7 => G2 ?_
  refine JLg (OW 1026 1 (LS 6 Move.av) ([] : List (List Move))) (A_nilOwn 1026 48 1 O O O) ?_
  refine G8 (hK7 _ _ ?_)
  refine G6 fun K8 hK8 => G2 ?_
  refine JLg (LS 4 G3.av ([] : List G3)) (Hw 4 O O) ?_
  refine G8 (hK8 _ _ ?_)
  refine G6 (fun K9 hK9 => ?_)
  refine G6 fun K10 hK10 => G2 ?_
  refine JLg (.dptr [LS 1 (LS 4 G3.av) p.States, LS 1 (LS 1 G0) p.Water]) (Gb tf_field_41_0 O O O) ?_
  refine JLg (LS 1 (LS 4 G3.av) p.States) (Gf Q6 O O O) ?_
  refine H9 (f := (LS 4 G3.av)) (xs := p.States) Hu O O (fun hm31 => ?_) O O O
  refine JLg (G0 0) (G7 O O) ?_
  refine G8 (hK10 _ _ ?_)
  refine Gi ?_
  obtain ⟨b27, kx27, hb27, hkx27, h⟩ := Hi h
  refine Gz (fun i27 (s27 : (List (List Move)) × (List G3)) => each b27 kx27 (List.drop i27 p.States) i27 s27 = some r) (fun i27 s27 => [(1, LS 9 Box.av boxes), (4, .dptr (Ship.cs s)), (12, OW 1026 1 (LS 6 Move.av) s27.1), (13, LS 4 G3.av s27.2), (30, LS 1 (LS 4 G3.av) p.States), (31, G0 (p.States.length : Int)), (32, G0 (i27 : Int))]) (fun i27 s27 => [(1026, .spare 48 1 s27.1.length s27.1.length)]) (fun i27 => p.States.length - i27) 0 ([], []) h ⟨(by repeat' constructor), ⟨⟨_, rfl, .same⟩, trivial⟩, rfl⟩ ?_
  clear h
  intro i27 s27 hi27 K27 e27
  refine G6 fun K28 hK28 => G2 ?_
  refine JLg (BL (decide ((i27 : Int) < (p.States.length : Int)))) (He O O O) ?_
  refine G8 (hK28 _ _ ?_)
  refine G6 (fun K29 hK29 => ?_)
  refine Gh O (fun hb => ?_) (fun hb => ?_)
  ·
   have hk27 := lt_len hb
   obtain ⟨y27, nx27, hy27, hn27, h⟩ := Ha hi27 hk27
   replace h := app4 hb27 h
   refine Gj ?_
   refine hK29 _ _ ?_
   refine G6 (fun K30 hK30 => ?_)
   refine Gi ?_
   refine G6 fun K31 hK31 => G2 ?_
   refine JLg (.dptr [LS 4 G3.av y27]) (Gw (f := (LS 4 G3.av)) (xs := p.States) (y := y27) O O O Hu hy27 O) ?_
   refine JLg (LS 4 G3.av y27) (Gf tf_scalar_69 O O O) ?_
   refine JLg (LS 4 G3.av y27) (G9 O O) ?_
   refine G8 (hK31 _ _ ?_)
   refine G6 fun K32 hK32 => G2 ?_
   refine JLg (.agg (Ship.cs s)) (Gg H5 O O O) ?_
   refine JLg (LS 9 Box.av boxes) (G7 O O) ?_
   refine JLg (LS 4 G3.av s27.2) (G7 O O) ?_
   refine JLg (LS 4 G3.av y27) (G7 O O) ?_
   obtain ⟨r33, hr33, h⟩ := Ge h
   refine JLg (.tup [LS 6 Move.av r33.1, G0 r33.2]) (Gr (args := [.agg (Ship.cs s), LS 9 Box.av boxes, LS 4 G3.av s27.2, LS 4 G3.av y27]) O (M_moves_Call_w F s boxes s27.2 y27 r33 hr33) tf_call_11 ⟨O, O, O, O, O, O, O, O, trivial⟩) ?_
   refine JLg (.tup [LS 6 Move.av r33.1, G0 r33.2]) (G7 O O) ?_
   refine JLg (LS 6 Move.av r33.1) (Gv O O O) ?_
   refine JLg (G0 r33.2) (Gv O O O) ?_
   refine JLg (LS 6 Move.av r33.1) (G9 O O) ?_
   refine JLg (G0 r33.2) (G9 O O) ?_
   refine G8 (hK32 _ _ ?_)
   refine G2 ?_
   refine JLg (OW 1026 1 (LS 6 Move.av) s27.1) (G7 O O) ?_
   refine JLg (LS 6 Move.av r33.1) (G7 O O) ?_
   refine JLg (LS 1 (LS 6 Move.av) [r33.1]) (Gu (xs := [LS 6 Move.av r33.1]) O ⟨O, O, trivial⟩ tf_slice_44 tf_zsize_48 O O O O) ?_
   obtain ⟨ha34, h⟩ := Hq h
   refine JLg (OW 1026 1 (LS 6 Move.av) (s27.1 ++ [r33.1])) (Jd (f := (LS 6 Move.av)) (xs := s27.1) (ys := [r33.1]) O O O O tf_slice_44 tf_elem_48 ha34 (fun _ => O) (.inl O) O) ?_
   refine JLg (LS 4 G3.av y27) (G7 O O) ?_
   refine JLg (OW 1026 1 (LS 6 Move.av) (s27.1 ++ [r33.1])) (G9 O O) ?_
   refine JLg (LS 4 G3.av y27) (G9 O O) ?_
   refine G8 (hK30 _ _ ?_)
   refine G2 ?_
   refine JLg (G0 ((i27 + 1 : Nat) : Int)) (Hd (idx_succ hk27 hm31) O O O) ?_
   refine JLg (G0 ((i27 + 1 : Nat) : Int)) (G7 O O) ?_
   refine G8 ?_
   exact e27 _ _ (i27 + 1) ((s27.1 ++ [r33.1]), y27) (app1 hn27 h) (by omega) ⟨(by repeat' constructor), ⟨⟨_, rfl, .same⟩, trivial⟩, rfl⟩
  ·
   have h := app1 hkx27 (Hb hi27 (Gy hb))
   refine H4 ?_
   refine hK9 _ _ ?_
   refine G6 fun K35 hK35 => G2 ?_
   refine JLg (OW 1026 1 (LS 6 Move.av) s27.1) (G7 O O) ?_
   refine JLg (OW 1026 1 (LS 6 Move.av) s27.1) (G9 O O) ?_
   refine JLg (G0 0) (G9 O O) ?_
   refine G8 (hK35 _ _ ?_)
   refine Gq ?_
   exact ⟨[LS 1 (LS 6 Move.av) s27.1, G0 0], [], trivial, O, ⟨⟨_, O, .conv (.list O)⟩, ⟨_, O, .conv (.same O)⟩, trivial⟩, O, congrArg (fun r : (List (List Move)) × Int => (.tup [LS 1 (LS 6 Move.av) r.1, G0 r.2] : AV)) (Option.some.inj h)⟩

def M_moves_Tasks_1 (a : Task) (b : Task) : Option Int :=
 bnd (M_cmp_Compare_int a.Phase b.Phase) fun r3 =>
 bnd (M_cmp_Compare_int a.Bay b.Bay) fun r4 =>
 bnd (M_cmp_Or_int [r3, r4]) fun r5 =>
 some r5
theorem M_moves_Tasks_1_w (a : Task) (b : Task) (r : Int) (h : M_moves_Tasks_1 a b = some r) : Pure Tryz.prog 17 [.agg (Task.cs a), .agg (Task.cs b)] (· = G0 r) := by
 unfold M_moves_Tasks_1 at h
 refine Gx [.tmp 4] Tryz.func17 O O ?_
 refine G6 fun K1 hK1 => G2 ?_
 refine JLg (.ptr 1063 0) (J1 (u := .agg (Task.cs a)) (cs := [G0 a.Bay, G0 a.Phase, G0 a.Lifts, G0 a.Covers]) 1063 O O O O O) ?_
 refine JLg (.ptr 1064 0) (J1 (u := .agg (Task.cs b)) (cs := [G0 b.Bay, G0 b.Phase, G0 b.Lifts, G0 b.Covers]) 1064 O O O O O) ?_
 refine JLg (G0 0) (G9 O O) ?_
 refine G8 (hK1 _ _ ?_)
 refine Gm [(2, .dptr (Task.cs a)), (3, .ptr 1064 0)] [(1064, .box 63 [G0 b.Bay, G0 b.Phase, G0 b.Lifts, G0 b.Covers])] 1063 rfl rfl rfl ⟨⟨_, rfl, .boxEq rfl rfl⟩, trivial⟩ rfl (by exact ⟨.ptr, .conv (.same rfl), trivial⟩) ?_
 refine Gm [(2, .dptr (Task.cs a)), (3, .dptr (Task.cs b))] [] 1064 rfl rfl rfl trivial rfl (by exact ⟨.conv (.same rfl), .ptr, trivial⟩) ?_
 refine G6 (fun K2 hK2 => ?_)
 obtain ⟨r3, hr3, h⟩ := Ge h
 obtain ⟨r4, hr4, h⟩ := Ge h
 obtain ⟨r5, hr5, h⟩ := Ge h
 refine Jc [] [0, 0, 0, 0, 0, 0, 0, 0, 0, 0, 0, 0, 0] [0, 0, 0, 0, 0, 0, 0, 0, 0, 0, 0, 0, 0] [[]] J5 (by kernel_rfl) rfl rfl ?_
 refine Gn (u := .dptr [G0 a.Phase, G0 a.Lifts, G0 a.Covers]) O O ⟨Gp (Gb Jv O O O) O, trivial⟩ ?_
 refine Gn (u := G0 a.Phase) O O ⟨Gp (Gf Ga O O O) O, trivial⟩ ?_
 refine Gn (u := .dptr [G0 b.Phase, G0 b.Lifts, G0 b.Covers]) O O ⟨Gp (Gb Jv O O O) O, trivial⟩ ?_
 refine Gn (u := G0 b.Phase) O O ⟨Gp (Gf Ga O O O) O, trivial⟩ ?_
 refine Gn (u := G0 r3) O O ⟨Gp (Gr (args := [G0 a.Phase, G0 b.Phase]) O (M_cmp_Compare_int_w a.Phase b.Phase r3 hr3) tf_call_19 ⟨O, O, O, O, trivial⟩) O, trivial⟩ ?_
 refine Gn (u := .dptr (Task.cs a)) O O ⟨Gp (Gb tf_field_63_0 O O O) O, trivial⟩ ?_
 refine Gn (u := G0 a.Bay) O O ⟨Gp (Gf Ga O O O) O, trivial⟩ ?_
 refine Gn (u := .dptr (Task.cs b)) O O ⟨Gp (Gb tf_field_63_0 O O O) O, trivial⟩ ?_
 refine Gn (u := G0 b.Bay) O O ⟨Gp (Gf Ga O O O) O, trivial⟩ ?_
 refine Gn (u := G0 r4) O O ⟨Gp (Gr (args := [G0 a.Bay, G0 b.Bay]) O (M_cmp_Compare_int_w a.Bay b.Bay r4 hr4) tf_call_19 ⟨O, O, O, O, trivial⟩) O, trivial⟩ ?_
 refine Gn (u := LS 1 G0 [r3, r4]) O O ⟨Gp (Gu (xs := [G0 r3, G0 r4]) O ⟨O, O, O, O, trivial⟩ H0 Jr O O O O) O, trivial⟩ ?_
 refine Gn (u := G0 r5) O O ⟨Gp (Gr (args := [LS 1 G0 [r3, r4]]) O (M_cmp_Or_int_w [r3, r4] r5 hr5) tf_call_18 ⟨O, O, trivial⟩) O, trivial⟩ ?_
 refine Gn (u := G0 r5) O O ⟨Gp (G9 O O) O, trivial⟩ ?_
 refine D_nil ?_
 refine hK2 _ _ ?_
 refine Gq ?_
 exact ⟨[G0 r5], [], trivial, O, ⟨⟨_, O, .conv (.same O)⟩, trivial⟩, O, congrArg (fun r : Int => (G0 r : AV)) (Option.some.inj h)⟩

def M_slices_insertionSortCmpFunc_apiTask (F : Nat) (data : List Task) (a : Int) (b : Int) (cmp : Task → Task → Option Int) : Option (List Task) :=
 chk (a + 1) fun v2 =>
 loop (fun nx3 (s3 : Int × (List Task)) =>
  bif decide (s3.1 < b) then
  (loop (fun nx58 (s58 : Int × (List Task)) =>
    bnd (bif decide (a < s58.1) then gidx s58.2 s58.1 some else some default) fun y61 =>
    bnd (bif decide (a < s58.1) then chk (s58.1 - 1) some else some 0) fun v62 =>
    bnd (bif decide (a < s58.1) then gidx s58.2 v62 some else some default) fun y63 =>
    bnd (bif decide (a < s58.1) then cmp y61 y63 else some default) fun r64 =>
    bif ((decide (a < s58.1)) && (decide (r64 < 0))) then
    (chk (s58.1 - 1) fun v66 =>
     chk (s58.1 - 1) fun v67 =>
     gidx s58.2 v67 fun y68 =>
     gidx s58.2 s58.1 fun y69 =>
     gidx s58.2 s58.1 fun y70 =>
     gidx (s58.2.set s58.1.toNat y68) v66 fun y71 =>
     chk (s58.1 - 1) fun v72 =>
     nx58 (v72, ((s58.2.set s58.1.toNat y68).set v66.toNat y69)))
    else
    (chk (s3.1 + 1) fun v73 =>
     nx3 (v73, s58.2))) F (s3.1, s3.2))
  else
  (some s3.2)) F (v2, data)
theorem M_slices_insertionSortCmpFunc_apiTask_p90000012 (F : Nat) (data : List Task) (data_q : Nat) (a : Int) (b : Int) (cmp : Task → Task → Option Int) (cmp_f : FuncId) (cmp_c : List AV) (cmp_B : callB Tryz.prog cmp_f = true) (cmp_d : refsL (fun _ => false) cmp_c = true) (cmp_w : ∀ a0 a1 q, cmp a0 a1 = some q → Pure Tryz.prog cmp_f ([.agg (Task.cs a0), .agg (Task.cs a1)] ++ cmp_c) (· = G0 q)) (r : (List Task)) (h : M_slices_insertionSortCmpFunc_apiTask F data a b cmp = some r) : ACalls Tryz.prog 77 [.vec 1031 data_q 4 data.length, G0 a, G0 b, .fn cmp_f cmp_c] [(1031, .vec 63 4 data_q (data.map Task.av))] (fun av L' => av = .tup [] ∧ L' = [(1031, .vec 63 4 data_q (r.map Task.av))]) := by
 unfold M_slices_insertionSortCmpFunc_apiTask at h
 refine Hy [1031] [] Tryz.func77 O O (inAll O) ?_
 refine G6 fun K1 hK1 => G2 ?_
 refine JLg (G0 a) (G7 O O) ?_
 obtain ⟨v2, hv2, h⟩ := H6 h
 refine JLg (G0 v2) (Hd hv2 O O O) ?_
 refine JLg (G0 v2) (G9 O O) ?_
 refine G8 (hK1 _ _ ?_)
 refine Gi ?_
 obtain ⟨b3, hb3, h⟩ := loop_in h
 refine Gz (fun i3 (s3 : Int × (List Task)) => loop b3 i3 s3 = some r) (fun i3 s3 => [(0, .vec 1031 data_q 4 data.length), (1, G0 a), (2, G0 b), (3, .fn cmp_f cmp_c), (8, G0 s3.1)]) (fun i3 s3 => [(1031, .vec 63 4 data_q (s3.2.map Task.av))]) (fun i3 => i3) F (v2, data) h ⟨⟨.same O, .same O, .same O, .same (refsL_any _ _ cmp_d), .same O, trivial⟩, ⟨⟨_, O, .vec⟩, trivial⟩, O⟩ ?_
 clear h
 intro i3 s3 hi3 K3 e3
 obtain ⟨m3, nx3, hm_3, hn3, h⟩ := loop_out hi3
 replace h := app2 hb3 h
 refine G6 (fun K4 hK4 => ?_)
 refine G6 fun K5 hK5 => G2 ?_
 refine JLg (G0 s3.1) (G7 O O) ?_
 refine JLg (G0 b) (G7 O O) ?_
 refine JLg (BL (decide (s3.1 < b))) (He O O O) ?_
 refine G8 (hK5 _ _ ?_)
 refine Gh O (fun hb => ?_) (fun hb => ?_)
 ·
  replace h := bif_t hb h
  refine Gj ?_
  refine hK4 _ _ ?_
  refine G6 (fun K6 hK6 => ?_)
  refine Gi ?_
  refine G6 fun K7 hK7 => G2 ?_
  refine JLg (G0 s3.1) (G7 O O) ?_
  refine JLg (G0 s3.1) (G9 O O) ?_
  refine G8 (hK7 _ _ ?_)
  refine Gi ?_
  obtain ⟨b58, hb58, h⟩ := loop_in h
  refine Gz (fun i58 (s58 : Int × (List Task)) => loop b58 i58 s58 = some r) (fun i58 s58 => [(0, .vec 1031 data_q 4 data.length), (1, G0 a), (2, G0 b), (3, .fn cmp_f cmp_c), (8, G0 s3.1), (9, G0 s58.1)]) (fun i58 s58 => [(1031, .vec 63 4 data_q (s58.2.map Task.av))]) (fun i58 => i58) F (s3.1, s3.2) h ⟨⟨.same O, .same O, .same O, .same (refsL_any _ _ cmp_d), .same O, .same O, trivial⟩, ⟨⟨_, O, .vec⟩, trivial⟩, O⟩ ?_
  clear h
  intro i58 s58 hi58 K58 e58
  obtain ⟨m58, nx58, hm_58, hn58, h⟩ := loop_out hi58
  replace h := app2 hb58 h
  refine G6 (fun K59 hK59 => ?_)
  refine G6 (fun K60 hK60 => ?_)
  refine Ju (l' := [(0, .vec 1031 data_q 4 data.length), (1, G0 a), (2, G0 b), (3, .fn cmp_f cmp_c), (8, G0 s3.1), (9, G0 s58.1)]) (L' := [(1031, .vec 63 4 data_q (s58.2.map Task.av))]) ⟨⟨.same O, .same O, .same O, .same (refsL_any _ _ cmp_d), .same O, .same O, trivial⟩, ⟨⟨_, O, .vec⟩, trivial⟩, O⟩ ?_
  obtain ⟨y61, hy61, h⟩ := Ge h
  obtain ⟨v62, hv62, h⟩ := Ge h
  obtain ⟨y63, hy63, h⟩ := Ge h
  obtain ⟨r64, hr64, h⟩ := Ge h
  refine Jc [] [0, 0, 0, 0, 0, 0, 0, 0, 0, 0, 0, 0, 0, 0, 0, 0, 0] [0, 0, 0, 0, 0, 0, 0, 0, 0, 0, 0, 0, 0, 0, 0, 0, 0] [[(1031, .vec 63 4 data_q (s58.2.map Task.av))]] J5 (by kernel_rfl) rfl rfl ?_
  refine Gn (u := G0 s58.1) O O ⟨Gp (G7 O O) O, trivial⟩ ?_
  refine Gn (u := G0 a) O O ⟨Gp (G7 O O) O, trivial⟩ ?_
  refine Gn (u := BL (decide (a < s58.1))) O O ⟨Gp (A_gtr O O O) O, trivial⟩ ?_
  refine Gn (u := BL (decide (a < s58.1))) O O ⟨Gp (G7 O O) O, trivial⟩ ?_
  refine Gn (u := .opt (decide (a < s58.1)) (.fn cmp_f cmp_c)) O O ⟨H3 [] O O O .sct trivial (fun hc => G7 O O) O, trivial⟩ ?_
  refine Gn (u := .opt (decide (a < s58.1)) (.vec 1031 data_q 4 data.length)) O O ⟨H3 [] O O O .sct trivial (fun hc => G7 O O) O, trivial⟩ ?_
  refine Gn (u := .opt (decide (a < s58.1)) (G0 s58.1)) O O ⟨H3 [] O O O .sct trivial (fun hc => G7 O O) O, trivial⟩ ?_
  refine Gn (u := .opt (decide (a < s58.1)) (.vptr 1031 data_q s58.1.toNat 0)) O O ⟨H3 [(23, .vec 1031 data_q 4 data.length), (24, G0 s58.1)] O O O .sct ⟨.all id, .all id, trivial⟩ (fun hc => Jz (f := Task.av) (xs := s58.2) (y := y61) O O O O J0 (Js (bif_t hc hy61)) (gidx_some1 (bif_t hc hy61))) O, trivial⟩ ?_
  refine Gn (u := .opt (decide (a < s58.1)) (.agg (Task.cs y61))) O O ⟨H3 [(25, .vptr 1031 data_q s58.1.toNat 0)] O O O .sct ⟨.all id, trivial⟩ (fun hc => A_vloadAggM (f := Task.av) (xs := s58.2) (y := y61) tf_agg_63 O O O (Js (bif_t hc hy61)) O O) O, trivial⟩ ?_
  refine Gn (u := .opt (decide (a < s58.1)) (.vec 1031 data_q 4 data.length)) O O ⟨H3 [] O O O .sct trivial (fun hc => G7 O O) O, trivial⟩ ?_
  refine Gn (u := .opt (decide (a < s58.1)) (G0 s58.1)) O O ⟨H3 [] O O O .sct trivial (fun hc => G7 O O) O, trivial⟩ ?_
  refine Gn (u := .opt (decide (a < s58.1)) (G0 v62)) O O ⟨H3 [(28, G0 s58.1)] O O O .sct ⟨.all id, trivial⟩ (fun hc => Jx (chk_some (bif_t hc hv62)) O O O) O, trivial⟩ ?_
  refine Gn (u := .opt (decide (a < s58.1)) (.vptr 1031 data_q v62.toNat 0)) O O ⟨H3 [(27, .vec 1031 data_q 4 data.length), (29, G0 v62)] O O O .sct ⟨.all id, .all id, trivial⟩ (fun hc => Jz (f := Task.av) (xs := s58.2) (y := y63) O O O O J0 (Js (bif_t hc hy63)) (gidx_some1 (bif_t hc hy63))) O, trivial⟩ ?_
  refine Gn (u := .opt (decide (a < s58.1)) (.agg (Task.cs y63))) O O ⟨H3 [(30, .vptr 1031 data_q v62.toNat 0)] O O O .sct ⟨.all id, trivial⟩ (fun hc => A_vloadAggM (f := Task.av) (xs := s58.2) (y := y63) tf_agg_63 O O O (Js (bif_t hc hy63)) O O) O, trivial⟩ ?_
  refine Gn (u := .opt (decide (a < s58.1)) (G0 r64)) O O ⟨H3 [(22, .fn cmp_f cmp_c), (26, .agg (Task.cs y61)), (31, .agg (Task.cs y63))] O O O .sct ⟨.all id, .all id, .all id, trivial⟩ (fun hc => Q8 (args := [.agg (Task.cs y61), .agg (Task.cs y63)]) (caps := cmp_c) O O (cmp_w y61 y63 _ (bif_t hc hr64)) cmp_B ⟨O, O, O, O, trivial⟩ cmp_d) O, trivial⟩ ?_
  refine Gn (u := .opt (decide (a < s58.1)) (BL (decide (r64 < 0)))) O O ⟨H3 [(32, G0 r64)] O O O .sct ⟨.all id, trivial⟩ (fun hc => He O O O) O, trivial⟩ ?_
  refine Gn (u := BL ((decide (a < s58.1)) && (decide (r64 < 0)))) O O ⟨Gp (J2 O O O O) O, trivial⟩ ?_
  refine D_nil ?_
  refine hK60 _ _ ?_
  refine Gh O (fun hb => ?_) (fun hb => ?_)
  ·
   replace h := bif_t hb h
   refine Gj ?_
   refine hK59 _ _ ?_
   refine G6 (fun K65 hK65 => ?_)
   refine Gi ?_
   refine Ju (l' := [(0, .vec 1031 data_q 4 data.length), (1, G0 a), (2, G0 b), (3, .fn cmp_f cmp_c), (8, G0 s3.1), (9, G0 s58.1)]) (L' := [(1031, .vec 63 4 data_q (s58.2.map Task.av))]) ⟨⟨.same O, .same O, .same O, .same (refsL_any _ _ cmp_d), .same O, .same O, trivial⟩, ⟨⟨_, O, .vec⟩, trivial⟩, O⟩ ?_
   obtain ⟨v66, hv66, h⟩ := H6 h
   obtain ⟨v67, hv67, h⟩ := H6 h
   obtain ⟨y68, hmy68, hy68, h⟩ := Q3 h
   obtain ⟨y69, hmy69, hy69, h⟩ := Q3 h
   obtain ⟨y70, hmy70, hy70, h⟩ := Q3 h
   obtain ⟨y71, hmy71, hy71, h⟩ := Q3 h
   refine Jc [15, 17] [0, 0, 0, 0, 0, 0, 0, 0, 0, 0, 0, 0, 0, 0, 0, 0, 1, 0] [0, 0, 1, 1, 1, 0, 0, 0, 0, 0, 0, 0, 0, 0, 0, 0, 1, 0] [[(1031, .vec 63 4 data_q (s58.2.map Task.av))], ((1031, .vec 63 4 data_q ((s58.2.set s58.1.toNat y68).map Task.av)) :: [(1031, .vec 63 4 data_q (s58.2.map Task.av))]), ((1031, .vec 63 4 data_q (((s58.2.set s58.1.toNat y68).set v66.toNat y69).map Task.av)) :: ((1031, .vec 63 4 data_q ((s58.2.set s58.1.toNat y68).map Task.av)) :: [(1031, .vec 63 4 data_q (s58.2.map Task.av))]))] J5 (by kernel_rfl) rfl rfl ?_
   refine Gn (u := .vec 1031 data_q 4 data.length) O O ⟨Gp (G7 O O) O, trivial⟩ ?_
   refine Gn (u := G0 s58.1) O O ⟨Gp (G7 O O) O, trivial⟩ ?_
   refine Gn (u := .vec 1031 data_q 4 data.length) O O ⟨Gp (G7 O O) O, Gp (G7 O O) O, trivial⟩ ?_
   refine Gn (u := G0 s58.1) O O ⟨Gp (G7 O O) O, Gp (G7 O O) O, trivial⟩ ?_
   refine Gn (u := G0 v66) O O ⟨Gp (Jx hv66 O O O) O, Gp (Jx hv66 O O O) O, trivial⟩ ?_
   refine Gn (u := .vec 1031 data_q 4 data.length) O O ⟨Gp (G7 O O) O, trivial⟩ ?_
   refine Gn (u := G0 s58.1) O O ⟨Gp (G7 O O) O, trivial⟩ ?_
   refine Gn (u := G0 v67) O O ⟨Gp (Jx hv67 O O O) O, trivial⟩ ?_
   refine Gn (u := .vptr 1031 data_q v67.toNat 0) O O ⟨Gp (Jz (f := Task.av) (xs := s58.2) (y := y68) O O O O J0 hy68 hmy68) O, trivial⟩ ?_
   refine Gn (u := .agg (Task.cs y68)) O O ⟨Gp (A_vloadAggM (f := Task.av) (xs := s58.2) (y := y68) tf_agg_63 O O O hy68 O O) O, trivial⟩ ?_
   refine Gn (u := .vec 1031 data_q 4 data.length) O O ⟨Gp (G7 O O) O, trivial⟩ ?_
   refine Gn (u := G0 s58.1) O O ⟨Gp (G7 O O) O, trivial⟩ ?_
   refine Gn (u := .vptr 1031 data_q s58.1.toNat 0) O O ⟨Gp (Jz (f := Task.av) (xs := s58.2) (y := y69) O O O O J0 hy69 hmy69) O, trivial⟩ ?_
   refine Gn (u := .agg (Task.cs y69)) O O ⟨Gp (A_vloadAggM (f := Task.av) (xs := s58.2) (y := y69) tf_agg_63 O O O hy69 O O) O, trivial⟩ ?_
   refine Gn (u := .vptr 1031 data_q s58.1.toNat 0) O O ⟨Gp (Jz (f := Task.av) (xs := s58.2) (y := y70) O O O O J0 hy70 hmy70) O, trivial⟩ ?_
   refine D_w0 (u := .junk) O O O O (Gp (A_vstoreM (f := Task.av) (xs := s58.2) (z := y68) tf_size_63 O O O O (List.getElem?_eq_some_iff.1 hy70).1 O O O O) O) ?_
   refine Gn (u := .vptr 1031 data_q v66.toNat 0) O O ⟨Gp (Jz (f := Task.av) (xs := (s58.2.set s58.1.toNat y68)) (y := y71) O O O O J0 hy71 hmy71) O, trivial⟩ ?_
   refine D_w0 (u := .junk) O O O O (Gp (A_vstoreM (f := Task.av) (xs := (s58.2.set s58.1.toNat y68)) (z := y69) tf_size_63 O O O O (List.getElem?_eq_some_iff.1 hy71).1 O O O O) O) ?_
   refine D_nil ?_
   refine hK65 _ _ ?_
   refine G2 ?_
   refine JLg (G0 s58.1) (G7 O O) ?_
   obtain ⟨v72, hv72, h⟩ := H6 h
   refine JLg (G0 v72) (Jx hv72 O O O) ?_
   refine JLg (G0 v72) (G9 O O) ?_
   refine G8 ?_
   exact e58 _ _ m58 (v72, ((s58.2.set s58.1.toNat y68).set v66.toNat y69)) (app1 hn58 h) (by omega) ⟨⟨.same rfl, .same rfl, .same rfl, .same (refsL_any _ _ cmp_d), .same rfl, .same rfl, trivial⟩, ⟨⟨_, rfl, .vec⟩, trivial⟩, rfl⟩
  ·
   replace h := bif_f hb h
   refine H4 ?_
   refine hK6 _ _ ?_
   refine G2 ?_
   refine JLg (G0 s3.1) (G7 O O) ?_
   obtain ⟨v73, hv73, h⟩ := H6 h
   refine JLg (G0 v73) (Hd hv73 O O O) ?_
   refine JLg (G0 v73) (G9 O O) ?_
   refine G8 ?_
   exact e3 _ _ m3 (v73, s58.2) (app1 hn3 h) (by omega) ⟨⟨.same rfl, .same rfl, .same rfl, .same (refsL_any _ _ cmp_d), .same rfl, trivial⟩, ⟨⟨_, rfl, .vec⟩, trivial⟩, rfl⟩
 ·
  replace h := bif_f hb h
  refine H4 ?_
  obtain rfl := Option.some.inj h
  exact ⟨[], [(1031, .vec 63 4 data_q (s3.2.map Task.av))], ⟨⟨_, O, .vec⟩, trivial⟩, O, trivial, O, O⟩

def M_slices_pdqsortCmpFunc_apiTask (F : Nat) (data : List Task) (a : Int) (b : Int) (limit : Int) (cmp : Task → Task → Option Int) : Option (List Task) :=
 loop (fun nx23 (s23 : Int × Int × Int × Bool × Bool) =>
  chk (s23.2.1 - s23.1) fun v25 =>
  bif decide (v25 ≤ 12) then
  (bnd (M_slices_insertionSortCmpFunc_apiTask F data s23.1 s23.2.1 cmp) fun r29 =>
   some r29)
  else
  (bif decide (s23.2.2.1 = 0) then
   (none)
   else
   (bif (!s23.2.2.2.1) then
    (none)
    else
    (none)))) F (a, b, limit, true, true)
theorem M_slices_pdqsortCmpFunc_apiTask_p90000012 (F : Nat) (data : List Task) (data_q : Nat) (a : Int) (b : Int) (limit : Int) (cmp : Task → Task → Option Int) (cmp_f : FuncId) (cmp_c : List AV) (cmp_B : callB Tryz.prog cmp_f = true) (cmp_d : refsL (fun _ => false) cmp_c = true) (cmp_w : ∀ a0 a1 q, cmp a0 a1 = some q → Pure Tryz.prog cmp_f ([.agg (Task.cs a0), .agg (Task.cs a1)] ++ cmp_c) (· = G0 q)) (r : (List Task)) (h : M_slices_pdqsortCmpFunc_apiTask F data a b limit cmp = some r) : ACalls Tryz.prog 53 [.vec 1031 data_q 4 data.length, G0 a, G0 b, G0 limit, .fn cmp_f cmp_c] [(1031, .vec 63 4 data_q (data.map Task.av))] (fun av L' => av = .tup [] ∧ L' = [(1031, .vec 63 4 data_q (r.map Task.av))]) := by
 unfold M_slices_pdqsortCmpFunc_apiTask at h
 refine Hy [1031] [] Tryz.func53 O O (inAll O) ?_
 refine G6 fun K1 hK1 => G2 ?_
 refine JLg (BL true) (G9 O O) ?_
 refine G8 (hK1 _ _ ?_)
 refine G6 fun K2 hK2 => G2 ?_
 refine JLg (BL true) (G9 O O) ?_
 refine G8 (hK2 _ _ ?_)
 refine Gi ?_
 obtain ⟨b23, hb23, h⟩ := loop_in h
 refine Gz (fun i23 (s23 : Int × Int × Int × Bool × Bool) => loop b23 i23 s23 = some r) (fun i23 s23 => [(0, .vec 1031 data_q 4 data.length), (1, G0 s23.1), (2, G0 s23.2.1), (3, G0 s23.2.2.1), (4, .fn cmp_f cmp_c), (10, BL s23.2.2.2.1), (11, BL s23.2.2.2.2)]) (fun i23 s23 => [(1031, .vec 63 4 data_q (data.map Task.av))]) (fun i23 => i23) F (a, b, limit, true, true) h ⟨⟨.same O, .same O, .same O, .same O, .same (refsL_any _ _ cmp_d), .same O, .same O, trivial⟩, ⟨⟨_, O, .vec⟩, trivial⟩, O⟩ ?_
 clear h
 intro i23 s23 hi23 K23 e23
 obtain ⟨m23, nx23, hm_23, hn23, h⟩ := loop_out hi23
 replace h := app2 hb23 h
 refine Gi ?_
 refine G6 fun K24 hK24 => G2 ?_
 refine JLg (G0 s23.2.1) (G7 O O) ?_
 refine JLg (G0 s23.1) (G7 O O) ?_
 obtain ⟨v25, hv25, h⟩ := H6 h
 refine JLg (G0 v25) (Jx hv25 O O O) ?_
 refine JLg (G0 v25) (G9 O O) ?_
 refine G8 (hK24 _ _ ?_)
 refine G6 (fun K26 hK26 => ?_)
 refine G6 fun K27 hK27 => G2 ?_
 refine JLg (G0 v25) (G7 O O) ?_
 refine JLg (BL (decide (v25 ≤ 12))) (A_leq O O O) ?_
 refine G8 (hK27 _ _ ?_)
 refine Gh O (fun hb => ?_) (fun hb => ?_)
 ·
  replace h := bif_t hb h
  refine G6 fun K28 hK28 => G2 ?_
  refine JLg (.vec 1031 data_q 4 data.length) (G7 O O) ?_
  refine JLg (G0 s23.1) (G7 O O) ?_
  refine JLg (G0 s23.2.1) (G7 O O) ?_
  refine JLg (.fn cmp_f cmp_c) (G7 O O) ?_
  obtain ⟨r29, hr29, h⟩ := Ge h
  refine JLg (.tup []) (Q9 (args := [.vec 1031 data_q 4 data.length, G0 s23.1, G0 s23.2.1, .fn cmp_f cmp_c]) (L0 := [(1031, .vec 63 4 data_q (data.map Task.av))]) (Lr := [(1031, .vec 63 4 data_q (r29.map Task.av))]) O (M_slices_insertionSortCmpFunc_apiTask_p90000012 F data data_q s23.1 s23.2.1 cmp cmp_f cmp_c cmp_B cmp_d cmp_w r29 hr29) tf_call_77 ⟨.inl O, O, .inl O, O, .inl O, O, .inl O, (refsL_any _ _ cmp_d), trivial⟩ ⟨O, trivial⟩ O O O) ?_
  refine G8 (hK28 _ _ ?_)
  refine Gq ?_
  obtain rfl := Option.some.inj h
  exact ⟨[], [(1031, .vec 63 4 data_q (r29.map Task.av))], ⟨⟨_, O, .vec⟩, trivial⟩, O, trivial, O, O⟩
 ·
  replace h := bif_f hb h
  refine Gj ?_
  refine hK26 _ _ ?_
  refine G6 (fun K30 hK30 => ?_)
  refine G6 fun K31 hK31 => G2 ?_
  refine JLg (G0 s23.2.2.1) (G7 O O) ?_
  refine JLg (BL (decide (s23.2.2.1 = 0))) (Hx O O O) ?_
  refine G8 (hK31 _ _ ?_)
  refine Gh O (fun hb => ?_) (fun hb => ?_)
  ·
   replace h := bif_t hb h
   refine G6 (fun K32 hK32 => ?_)
   cases h
  ·
   replace h := bif_f hb h
   refine Gj ?_
   refine hK30 _ _ ?_
   refine G6 (fun K33 hK33 => ?_)
   refine G6 fun K34 hK34 => G2 ?_
   refine JLg (BL s23.2.2.2.1) (G7 O O) ?_
   refine JLg (BL (!s23.2.2.2.1)) (A_not (b := s23.2.2.2.1) O O) ?_
   refine G8 (hK34 _ _ ?_)
   refine Gh O (fun hb => ?_) (fun hb => ?_)
   ·
    replace h := bif_t hb h
    refine G6 (fun K35 hK35 => ?_)
    cases h
   ·
    replace h := bif_f hb h
    refine Gj ?_
    refine hK33 _ _ ?_
    refine G6 (fun K36 hK36 => ?_)
    cases h

def M_slices_SortFunc_apiTask (F : Nat) (x : List Task) (cmp : Task → Task → Option Int) : Option (List Task) :=
 bnd (M_math_bits_Len (IntKind.u64.wrap (x.length : Int))) fun r2 =>
 bnd (M_slices_pdqsortCmpFunc_apiTask F x 0 (x.length : Int) r2 cmp) fun r3 =>
 some r3
theorem M_slices_SortFunc_apiTask_p90000012 (F : Nat) (x : List Task) (x_q : Nat) (cmp : Task → Task → Option Int) (cmp_f : FuncId) (cmp_c : List AV) (cmp_B : callB Tryz.prog cmp_f = true) (cmp_d : refsL (fun _ => false) cmp_c = true) (cmp_w : ∀ a0 a1 q, cmp a0 a1 = some q → Pure Tryz.prog cmp_f ([.agg (Task.cs a0), .agg (Task.cs a1)] ++ cmp_c) (· = G0 q)) (r : (List Task)) (h : M_slices_SortFunc_apiTask F x cmp = some r) : ACalls Tryz.prog 36 [.vec 1031 x_q 4 x.length, .fn cmp_f cmp_c] [(1031, .vec 63 4 x_q (x.map Task.av))] (fun av L' => av = .tup [] ∧ L' = [(1031, .vec 63 4 x_q (r.map Task.av))]) := by
 unfold M_slices_SortFunc_apiTask at h
 refine Hy [1031] [] Tryz.func36 O O (inAll O) ?_
 refine G6 fun K1 hK1 => G2 ?_
 refine JLg (.vec 1031 x_q 4 x.length) (G7 O O) ?_
 refine JL_vlenM (f := Task.av) (xs := x) J0 O O O (fun hm6 => ?_) O O O
 refine JLg (G0 (x.length : Int)) (G9 O O) ?_
 refine G8 (hK1 _ _ ?_)
 refine G2 ?_
 refine JLg (.vec 1031 x_q 4 x.length) (G7 O O) ?_
 refine JLg (G0 (x.length : Int)) (G7 O O) ?_
 refine JLg (G0 (x.length : Int)) (G7 O O) ?_
 refine JLg (.sc (.int .u64 (IntKind.u64.wrap (x.length : Int)))) (A_conv tf_int_138 Jy O O O) ?_
 obtain ⟨r2, hr2, h⟩ := Ge h
 refine JLg (G0 r2) (Gr (args := [.sc (.int .u64 (IntKind.u64.wrap (x.length : Int)))]) O (M_math_bits_Len_w (IntKind.u64.wrap (x.length : Int)) r2 hr2) tf_call_54 ⟨O, O, trivial⟩) ?_
 refine JLg (.fn cmp_f cmp_c) (G7 O O) ?_
 obtain ⟨r3, hr3, h⟩ := Ge h
 refine JLg (.tup []) (Q9 (args := [.vec 1031 x_q 4 x.length, G0 0, G0 (x.length : Int), G0 r2, .fn cmp_f cmp_c]) (L0 := [(1031, .vec 63 4 x_q (x.map Task.av))]) (Lr := [(1031, .vec 63 4 x_q (r3.map Task.av))]) O (M_slices_pdqsortCmpFunc_apiTask_p90000012 F x x_q 0 (x.length : Int) r2 cmp cmp_f cmp_c cmp_B cmp_d cmp_w r3 hr3) tf_call_53 ⟨.inl O, O, .inl O, O, .inl O, O, .inl O, O, .inl O, (refsL_any _ _ cmp_d), trivial⟩ ⟨O, trivial⟩ O O O) ?_
 refine G8 ?_
 obtain rfl := Option.some.inj h
 exact ⟨[], [(1031, .vec 63 4 x_q (r3.map Task.av))], ⟨⟨_, O, .vec⟩, trivial⟩, O, trivial, O, O⟩

def M_moves_sorted_apiTask (F : Nat) (l : List Task) (compare : Task → Task → Option Int) : Option (List Task) :=
 bnd (M_slices_SortFunc_apiTask F l compare) fun r3 =>
 some r3
theorem M_moves_sorted_apiTask_p90000012 (F : Nat) (l : List Task) (l_q : Nat) (compare : Task → Task → Option Int) (compare_f : FuncId) (compare_c : List AV) (compare_B : callB Tryz.prog compare_f = true) (compare_d : refsL (fun _ => false) compare_c = true) (compare_w : ∀ a0 a1 q, compare a0 a1 = some q → Pure Tryz.prog compare_f ([.agg (Task.cs a0), .agg (Task.cs a1)] ++ compare_c) (· = G0 q)) (r : (List Task)) (h : M_moves_sorted_apiTask F l compare = some r) : ACalls Tryz.prog 16 [.vec 1031 l_q 4 l.length, .fn compare_f compare_c] [(1031, .vec 63 4 l_q (l.map Task.av))] (fun av L' => ∃ p : Nat, av = .vec 1031 p 4 r.length ∧ L' = [(1031, .vec 63 4 p (r.map Task.av))]) := by
 unfold M_moves_sorted_apiTask at h
 refine Hy [1031] [.tmp 4] Tryz.func16 O O (inAll O) ?_
 refine G6 fun K1 hK1 => G2 ?_
 refine JLg (.vec 1062 (([] : List Task).length) 4 (([] : List Task).length)) (A_vnil 1062 63 4 O O O) ?_
 refine G8 (hK1 _ _ ?_)
 refine G6 fun K2 hK2 => G2 ?_
 refine JLg (.vec 1031 l_q 4 l.length) (G7 O O) ?_
 refine JLg (.fn compare_f compare_c) (G7 O O) ?_
 obtain ⟨r3, hr3, h⟩ := Ge h
 refine JLg (.tup []) (Q9 (args := [.vec 1031 l_q 4 l.length, .fn compare_f compare_c]) (L0 := [(1031, .vec 63 4 l_q (l.map Task.av))]) (Lr := [(1031, .vec 63 4 l_q (r3.map Task.av))]) O (M_slices_SortFunc_apiTask_p90000012 F l l_q compare compare_f compare_c compare_B compare_d compare_w r3 hr3) tf_call_36 ⟨.inl O, O, .inl O, (refsL_any _ _ compare_d), trivial⟩ ⟨O, trivial⟩ O O O) ?_
 refine G8 (hK2 _ _ ?_)
 refine G6 fun K4 hK4 => G2 ?_
 refine JLg (.vec 1031 l_q 4 l.length) (G7 O O) ?_
 refine JLg (.vec 1031 l_q 4 l.length) (G9 O O) ?_
 refine G8 (hK4 _ _ ?_)
 refine JC_vlen 4 O O (fun hn_ => ?_)
 refine Gq ?_
 obtain rfl := Option.some.inj h
 exact ⟨[.vec 1031 l_q 4 l.length], [(1031, .vec 63 4 l_q (r3.map Task.av))], ⟨⟨_, O, .vec⟩, trivial⟩, O, ⟨⟨_, O, .conv (.same O)⟩, trivial⟩, l_q, congrArg (fun n_ : Nat => (.vec 1031 l_q 4 n_ : AV)) (hn_.trans (List.length_map _)), O⟩

def M_moves_Tasks (F : Nat) (s : Ship) (l : List Move) (Rp : ((List Task) × Int) → Prop) : Option Prop :=
 bnd (S_ship_Right s) fun r4 =>
 bif (!r4) then
 (some (Rp ([], 2)))
 else
 (each (fun y189 i189 (s189 : (AMap Arr2Int Task)) nx189 =>
   jp (fun kj196 =>
    bif ((decide (y189.Kind < 1)) || (decide (4 < y189.Kind))) then
    (kj196 ((decide (y189.Kind < 1)) || (decide (4 < y189.Kind))))
    else
    (bif (((decide (y189.Kind = 1)) || (decide (y189.Kind = 4))) && ((decide (y189.Gc < 0)) || (decide ((s.Covers.length : Int) ≤ y189.Gc)))) then
     (kj196 (((decide (y189.Kind = 1)) || (decide (y189.Kind = 4))) && ((decide (y189.Gc < 0)) || (decide ((s.Covers.length : Int) ≤ y189.Gc)))))
     else
     (kj196 ((!((decide (y189.Kind = 1)) || (decide (y189.Kind = 4)))) && ((decide (y189.Slot.G5 < 0)) || (decide ((s.Columns.length : Int) ≤ y189.Slot.G5))))))) fun (j196 : Bool) =>
   bif j196 then
   (some (Rp ([], 2)))
   else
   (jp (fun kj201 =>
     bif decide (3 ≤ y189.Kind) then
     (kj201 2)
     else
     (kj201 1)) fun (j201 : Int) =>
    jp (fun kj203 =>
     bif ((decide (y189.Kind = 1)) || (decide (y189.Kind = 4))) then
     (gidx s.Covers y189.Gc fun y205 =>
      kj203 y205.Bay)
     else
     (gidx s.Columns y189.Slot.G5 fun y207 =>
      kj203 y207.Bay)) fun (j203 : Int) =>
    bnd (some (AMap.get s189 (Arr2Int.mk j201 j203) (Task.mk 0 0 0 0))) fun v211 =>
    bnd (some (AMap.get s189 (Arr2Int.mk j201 j203) (Task.mk 0 0 0 0))) fun v212 =>
    jp (fun kj213 =>
     bif ((decide (y189.Kind = 1)) || (decide (y189.Kind = 4))) then
     (chk (v212.Covers + 1) fun v215 =>
      kj213 (v211.Lifts, v215))
     else
     (chk (v211.Lifts + 1) fun v216 =>
      kj213 (v216, v212.Covers))) fun (j213 : Int × Int) =>
    nx189 (AMap.put s189 (Arr2Int.mk j201 j203) (Task.mk j203 j201 j213.1 j213.2))))
  (fun (s189 : (AMap Arr2Int Task)) =>
   eachM (fun (x228 : Arr2Int × Task) (s228 : (List Task)) nx228 =>
    need (decide ((s228.length + [x228.2].length) * 32 ≤ 140737488355328 ∧ s228.length + [x228.2].length ≤ maxLen)) <|
    nx228 (s228 ++ [x228.2]))
   (fun (s228 : (List Task)) =>
    bnd (M_moves_sorted_apiTask F s228 (fun z0 z1 => M_moves_Tasks_1 z0 z1)) fun r235 =>
    some (Rp (r235, 0))) (AMap.l s189) []) l 0 (AMap.empty : AMap Arr2Int Task))
theorem M_moves_Tasks_w (F : Nat) (s : Ship) (l : List Move) (Rp : ((List Task) × Int) → Prop) (p : Prop) (h : M_moves_Tasks F s l Rp = some p) (hp : p) : Pure Tryz.prog 8 [.agg (Ship.cs s), LS 6 Move.av l] (fun av => ∃ r, Rp r ∧ av = .tup [LS 4 Task.av r.1, G0 r.2]) := by
 unfold M_moves_Tasks at h
 refine Gx [.tmp 4, .tmp 5] Tryz.func8 O O ?_
 refine G6 fun K1 hK1 => G2 ?_
 refine JLg (.ptr 1027 0) (J1 (u := .agg (Ship.cs s)) (cs := (Ship.cs s)) 1027 O O O O O) ?_
 refine JLg (LS 4 Task.av ([] : List Task)) (Hw 4 O O) ?_
 refine JLg (G0 0) (G9 O O) ?_
 refine G8 (hK1 _ _ ?_)
 refine Gm [(1, LS 6 Move.av l), (2, .dptr (Ship.cs s))] [] 1027 rfl rfl rfl trivial rfl (by exact ⟨.conv (.same rfl), .ptr, trivial⟩) ?_
 refine G6 (fun K2 hK2 => ?_)
 refine G6 fun K3 hK3 => G2 ?_
 refine JLg (.agg (Ship.cs s)) (Gg H5 O O O) ?_
 obtain ⟨r4, hr4, h⟩ := Ge h
 refine JLg (BL r4) (Gr (args := [.agg (Ship.cs s)]) O (S_ship_Right_w.down s r4 hr4) tf_call_15 ⟨O, O, trivial⟩) ?_
 refine JLg (BL (!r4)) (A_not (b := r4) O O) ?_
 refine G8 (hK3 _ _ ?_)
 refine Gh O (fun hb => ?_) (fun hb => ?_)
 ·
  replace h := bif_t hb h
  refine G6 fun K5 hK5 => G2 ?_
  refine JLg (LS 4 Task.av ([] : List Task)) (Hw 4 O O) ?_
  refine JLg (G0 2) (G9 O O) ?_
  refine G8 (hK5 _ _ ?_)
  refine Gq ?_
  exact ⟨[LS 4 Task.av ([] : List Task), G0 2], [], trivial, O, ⟨⟨_, O, .conv (.same O)⟩, ⟨_, O, .conv (.same O)⟩, trivial⟩, O, ([], 2), Eq.mpr (Option.some.inj h) hp, O⟩
 ·
  replace h := bif_f hb h
  refine Gj ?_
  refine hK2 _ _ ?_
  refine G6 fun K6 hK6 => G2 ?_
  refine JLg (.mp 1033) (A_makeMapM 1033 Arr2Int.kv Task.av O O) ?_
  refine JLg (.mp 1033) (G9 O O) ?_
  refine G8 (hK6 _ _ ?_)
  refine G6 (fun K7 hK7 => ?_)
  refine G6 fun K8 hK8 => G2 ?_
  refine JLg (LS 6 Move.av l) (G7 O O) ?_
  refine H9 (f := Move.av) (xs := l) Ho O O (fun hm20 => ?_) O O O
  refine JLg (G0 0) (G7 O O) ?_
  refine G8 (hK8 _ _ ?_)
  refine Gi ?_
  obtain ⟨b189, kx189, hb189, hkx189, h⟩ := Hi h
  refine Gz (fun i189 (s189 : (AMap Arr2Int Task)) => each b189 kx189 (List.drop i189 l) i189 s189 = some p) (fun i189 s189 => [(2, .dptr (Ship.cs s)), (6, .mp 1033), (19, LS 6 Move.av l), (20, G0 (l.length : Int)), (21, G0 (i189 : Int))]) (fun i189 s189 => [(1033, MP 87 Arr2Int.kv Task.av s189)]) (fun i189 => l.length - i189) 0 (AMap.empty : AMap Arr2Int Task) h ⟨(by repeat' constructor), ⟨⟨_, rfl, .map⟩, trivial⟩, rfl⟩ ?_
  clear h
  intro i189 s189 hi189 K189 e189
  refine G6 fun K190 hK190 => G2 ?_
  refine JLg (BL (decide ((i189 : Int) < (l.length : Int)))) (He O O O) ?_
  refine G8 (hK190 _ _ ?_)
  refine G6 (fun K191 hK191 => ?_)
  refine Gh O (fun hb => ?_) (fun hb => ?_)
  ·
   have hk189 := lt_len hb
   obtain ⟨y189, nx189, hy189, hn189, h⟩ := Ha hi189 hk189
   replace h := app4 hb189 h
   refine Gj ?_
   refine hK191 _ _ ?_
   refine G6 (fun K192 hK192 => ?_)
   refine Gi ?_
   refine G6 fun K193 hK193 => G2 ?_
   refine JLg (.dptr (Move.cs y189)) (Gw (f := Move.av) (xs := l) (y := y189) O O O Ho hy189 O) ?_
   refine JLg (.agg (Move.cs y189)) (Gg tf_agg_53 O O O) ?_
   refine JLg (.ptr 1028 0) (H2 1028 6 Jk O O) ?_
   refine H1 (u := .junk) (Gt (u := .agg (Move.cs y189)) (ds := [U8 y189.Kind, G0 y189.Box, G0 y189.Slot.G5, G0 y189.Slot.Tier, U8 y189.Slot.Half, G0 y189.Gc]) tf_size_53 O O O O O O O O) ?_
   refine G8 (hK193 _ _ ?_)
   refine Gm [(2, .dptr (Ship.cs s)), (6, .mp 1033), (8, .dptr (Move.cs y189)), (19, LS 6 Move.av l), (20, G0 (l.length : Int)), (21, G0 (i189 : Int))] [(1033, MP 87 Arr2Int.kv Task.av s189)] 1028 rfl rfl rfl ⟨⟨_, rfl, .map⟩, trivial⟩ rfl (by repeat' (first | exact .ptr | constructor)) ?_
   refine G6 fun K194 hK194 => G2 ?_
   refine JLg (.dptr (Move.cs y189)) (Gb Jf O O O) ?_
   refine JLg (U8 y189.Kind) (Gf H7 O O O) ?_
   refine JLg (BL (decide (y189.Kind = 1))) (Hx O O O) ?_
   refine JLg (BL (decide (y189.Kind = 1))) (G7 O O) ?_
   refine Gd (u := .dptr (Move.cs y189)) [] O O O .scf trivial (fun hc => Gb Jf O O O) ?_
   refine Gd (u := U8 y189.Kind) [(29, .dptr (Move.cs y189))] O O O .scf ⟨.all id, trivial⟩ (fun hc => Gf H7 O O O) ?_
   refine Gd (u := BL (decide (y189.Kind = 4))) [(30, U8 y189.Kind)] O O O .scf ⟨.all id, trivial⟩ (fun hc => Hx O O O) ?_
   refine JLg (BL ((decide (y189.Kind = 1)) || (decide (y189.Kind = 4)))) (Q0 O O O O) ?_
   refine JLg (BL ((decide (y189.Kind = 1)) || (decide (y189.Kind = 4)))) (G9 O O) ?_
   refine G8 (hK194 _ _ ?_)
   refine G6 (fun K195 hK195 => ?_)
   refine Gi ?_
   obtain ⟨kj196, hkj196, h⟩ := J6 h
   refine Hs (fun j196 : Bool => kj196 j196 = some p) (fun j196 => [(2, .dptr (Ship.cs s)), (6, .mp 1033), (8, .dptr (Move.cs y189)), (9, BL ((decide (y189.Kind = 1)) || (decide (y189.Kind = 4)))), (19, LS 6 Move.av l), (20, G0 (l.length : Int)), (21, G0 (i189 : Int)), (33, BL j196)]) (fun j196 => [(1033, MP 87 Arr2Int.kv Task.av s189)]) (fun Kj196 ej196 => ?_) ?_
   ·
    refine G6 fun K197 hK197 => G2 ?_
    refine JLg (.dptr (Move.cs y189)) (Gb Jf O O O) ?_
    refine JLg (U8 y189.Kind) (Gf H7 O O O) ?_
    refine JLg (BL (decide (y189.Kind < 1))) (He O O O) ?_
    refine JLg (BL (decide (y189.Kind < 1))) (G7 O O) ?_
    refine Gd (u := .dptr (Move.cs y189)) [] O O O .scf trivial (fun hc => Gb Jf O O O) ?_
    refine Gd (u := U8 y189.Kind) [(38, .dptr (Move.cs y189))] O O O .scf ⟨.all id, trivial⟩ (fun hc => Gf H7 O O O) ?_
    refine Gd (u := BL (decide (4 < y189.Kind))) [(39, U8 y189.Kind)] O O O .scf ⟨.all id, trivial⟩ (fun hc => A_gtr O O O) ?_
    refine JLg (BL ((decide (y189.Kind < 1)) || (decide (4 < y189.Kind)))) (Q0 O O O O) ?_
    refine JLg (BL ((decide (y189.Kind < 1)) || (decide (4 < y189.Kind)))) (G9 O O) ?_
    refine G8 (hK197 _ _ ?_)
    refine Gh O (fun hb => ?_) (fun hb => ?_)
    ·
     replace h := bif_t hb h
     refine Gj ?_
     exact ej196 _ _ ((decide (y189.Kind < 1)) || (decide (4 < y189.Kind))) h ⟨(by repeat' constructor), ⟨⟨_, rfl, .map⟩, trivial⟩, rfl⟩
    ·
     replace h := bif_f hb h
     refine G6 fun K198 hK198 => G2 ?_
     refine JLg (BL ((decide (y189.Kind = 1)) || (decide (y189.Kind = 4)))) (G7 O O) ?_
     refine JLg (BL ((decide (y189.Kind = 1)) || (decide (y189.Kind = 4)))) (G7 O O) ?_
     refine Gd (u := .dptr [G0 y189.Gc]) [] O O O .sct trivial (fun hc => Gb tf_field_53_3 O O O) ?_
     refine Gd (u := G0 y189.Gc) [(44, .dptr [G0 y189.Gc])] O O O .sct ⟨.all id, trivial⟩ (fun hc => Gf Ga O O O) ?_
     refine Gd (u := BL (decide (y189.Gc < 0))) [(45, G0 y189.Gc)] O O O .sct ⟨.all id, trivial⟩ (fun hc => He O O O) ?_
     refine Gd (u := BL (decide (y189.Gc < 0))) [(46, BL (decide (y189.Gc < 0)))] O O O .sct ⟨.all id, trivial⟩ (fun hc => G7 O O) ?_
     refine Gd (u := .dptr [G0 y189.Gc]) [] O O O .optf trivial (fun hc => Gb tf_field_53_3 O O O) ?_
     refine Gd (u := G0 y189.Gc) [(48, .dptr [G0 y189.Gc])] O O O .optf ⟨.all id, trivial⟩ (fun hc => Gf Ga O O O) ?_
     refine Gd (u := .dptr [LS 2 Gc.av s.Covers, G0 s.Light.Kilos, G0 s.Light.X, G0 s.Light.Y, G0 s.Light.Z, LS 5 Row.av s.Rows, LS 5 Frame.av s.Frames, LS 6 Tank.av s.Tanks, G0 s.G4.Tolerance, G0 s.G4.Trim, G0 s.G4.List_, G0 s.G4.Stability]) [] O O O .optf trivial (fun hc => Gb Ja O O O) ?_
     refine Gd (u := LS 2 Gc.av s.Covers) [(50, .dptr [LS 2 Gc.av s.Covers, G0 s.Light.Kilos, G0 s.Light.X, G0 s.Light.Y, G0 s.Light.Z, LS 5 Row.av s.Rows, LS 5 Frame.av s.Frames, LS 6 Tank.av s.Tanks, G0 s.G4.Tolerance, G0 s.G4.Trim, G0 s.G4.List_, G0 s.G4.Stability])] O O O .optf ⟨.all id, trivial⟩ (fun hc => Gf Jn O O O) ?_
     refine Gd (u := G0 (s.Covers.length : Int)) [(51, LS 2 Gc.av s.Covers)] O O O .optf ⟨.all id, trivial⟩ (fun hc => A_lenM (f := Gc.av) (xs := s.Covers) J8 O O) ?_
     refine Gd (u := BL (decide ((s.Covers.length : Int) ≤ y189.Gc))) [(49, G0 y189.Gc), (52, G0 (s.Covers.length : Int))] O O O .optf ⟨.all id, .all id, trivial⟩ (fun hc => A_geq O O O) ?_
     refine Gd (u := BL ((decide (y189.Gc < 0)) || (decide ((s.Covers.length : Int) ≤ y189.Gc)))) [(47, BL (decide (y189.Gc < 0))), (53, _)] O O O .sct ⟨.all id, .part, trivial⟩ (fun hc => Q0 O O O O) ?_
     refine JLg (BL (((decide (y189.Kind = 1)) || (decide (y189.Kind = 4))) && ((decide (y189.Gc < 0)) || (decide ((s.Covers.length : Int) ≤ y189.Gc))))) (J2 O O O O) ?_
     refine JLg (BL (((decide (y189.Kind = 1)) || (decide (y189.Kind = 4))) && ((decide (y189.Gc < 0)) || (decide ((s.Covers.length : Int) ≤ y189.Gc))))) (G9 O O) ?_
     refine G8 (hK198 _ _ ?_)
     refine Gh O (fun hb => ?_) (fun hb => ?_)
     ·
      replace h := bif_t hb h
      refine Gj ?_
      exact ej196 _ _ (((decide (y189.Kind = 1)) || (decide (y189.Kind = 4))) && ((decide (y189.Gc < 0)) || (decide ((s.Covers.length : Int) ≤ y189.Gc)))) h ⟨(by repeat' constructor), ⟨⟨_, rfl, .map⟩, trivial⟩, rfl⟩
     ·
      replace h := bif_f hb h
      refine G2 ?_
      refine JLg (BL ((decide (y189.Kind = 1)) || (decide (y189.Kind = 4)))) (G7 O O) ?_
      refine JLg (BL (!((decide (y189.Kind = 1)) || (decide (y189.Kind = 4))))) (A_not (b := ((decide (y189.Kind = 1)) || (decide (y189.Kind = 4)))) O O) ?_
      refine JLg (BL (!((decide (y189.Kind = 1)) || (decide (y189.Kind = 4))))) (G7 O O) ?_
      refine Gd (u := .dptr ((Move.cs y189).drop 2)) [] O O O .sct trivial (fun hc => Gb tf_field_53_2 O O O) ?_
      refine Gd (u := .dptr ((Move.cs y189).drop 2)) [(59, .dptr ((Move.cs y189).drop 2))] O O O .sct ⟨.all id, trivial⟩ (fun hc => Gb Hh O O O) ?_
      refine Gd (u := G0 y189.Slot.G5) [(60, .dptr ((Move.cs y189).drop 2))] O O O .sct ⟨.all id, trivial⟩ (fun hc => Gf Ga O O O) ?_
      refine Gd (u := BL (decide (y189.Slot.G5 < 0))) [(61, G0 y189.Slot.G5)] O O O .sct ⟨.all id, trivial⟩ (fun hc => He O O O) ?_
      refine Gd (u := BL (decide (y189.Slot.G5 < 0))) [(62, BL (decide (y189.Slot.G5 < 0)))] O O O .sct ⟨.all id, trivial⟩ (fun hc => G7 O O) ?_
      refine Gd (u := .dptr ((Move.cs y189).drop 2)) [] O O O .optf trivial (fun hc => Gb tf_field_53_2 O O O) ?_
      refine Gd (u := .dptr ((Move.cs y189).drop 2)) [(64, .dptr ((Move.cs y189).drop 2))] O O O .optf ⟨.all id, trivial⟩ (fun hc => Gb Hh O O O) ?_
      refine Gd (u := G0 y189.Slot.G5) [(65, .dptr ((Move.cs y189).drop 2))] O O O .optf ⟨.all id, trivial⟩ (fun hc => Gf Ga O O O) ?_
      refine Gd (u := .dptr (Ship.cs s)) [] O O O .optf trivial (fun hc => Gb Hc O O O) ?_
      refine Gd (u := LS 12 G5.av s.Columns) [(67, .dptr (Ship.cs s))] O O O .optf ⟨.all id, trivial⟩ (fun hc => Gf Hj O O O) ?_
      refine Gd (u := G0 (s.Columns.length : Int)) [(68, LS 12 G5.av s.Columns)] O O O .optf ⟨.all id, trivial⟩ (fun hc => A_lenM (f := G5.av) (xs := s.Columns) Hf O O) ?_
      refine Gd (u := BL (decide ((s.Columns.length : Int) ≤ y189.Slot.G5))) [(66, G0 y189.Slot.G5), (69, G0 (s.Columns.length : Int))] O O O .optf ⟨.all id, .all id, trivial⟩ (fun hc => A_geq O O O) ?_
      refine Gd (u := BL ((decide (y189.Slot.G5 < 0)) || (decide ((s.Columns.length : Int) ≤ y189.Slot.G5)))) [(63, BL (decide (y189.Slot.G5 < 0))), (70, _)] O O O .sct ⟨.all id, .part, trivial⟩ (fun hc => Q0 O O O O) ?_
      refine JLg (BL ((!((decide (y189.Kind = 1)) || (decide (y189.Kind = 4)))) && ((decide (y189.Slot.G5 < 0)) || (decide ((s.Columns.length : Int) ≤ y189.Slot.G5))))) (J2 O O O O) ?_
      refine JLg (BL ((!((decide (y189.Kind = 1)) || (decide (y189.Kind = 4)))) && ((decide (y189.Slot.G5 < 0)) || (decide ((s.Columns.length : Int) ≤ y189.Slot.G5))))) (G9 O O) ?_
      refine G8 ?_
      exact ej196 _ _ ((!((decide (y189.Kind = 1)) || (decide (y189.Kind = 4)))) && ((decide (y189.Slot.G5 < 0)) || (decide ((s.Columns.length : Int) ≤ y189.Slot.G5)))) h ⟨(by repeat' constructor), ⟨⟨_, rfl, .map⟩, trivial⟩, rfl⟩
   ·intro j196 h
    replace h := app1 hkj196 h
    refine Gh O (fun hb => ?_) (fun hb => ?_)
    ·
     replace h := bif_t hb h
     refine G6 fun K199 hK199 => G2 ?_
     refine JLg (LS 4 Task.av ([] : List Task)) (Hw 4 O O) ?_
     refine JLg (G0 2) (G9 O O) ?_
     refine G8 (hK199 _ _ ?_)
     refine Gq ?_
     exact ⟨[LS 4 Task.av ([] : List Task), G0 2], [], trivial, O, ⟨⟨_, O, .conv (.same O)⟩, ⟨_, O, .conv (.same O)⟩, trivial⟩, O, ([], 2), Eq.mpr (Option.some.inj h) hp, O⟩
    ·
     replace h := bif_f hb h
     refine Gj ?_
     refine hK195 _ _ ?_
     refine G6 fun K200 hK200 => G2 ?_
     refine JLg (.agg [G0 0, G0 1, G0 0, G0 0]) (H8 (cs := [G0 0, G0 1, G0 0, G0 0]) [(0, 1), (1, 1), (2, 1), (3, 1)] [G0 0, G0 0, G0 0, G0 0] [.int .i64 0, .int .i64 0, .int .i64 0, .int .i64 0] tf_places_63 tf_zero_63 ⟨.inl O, .inl O, .inl O, .inl O, trivial⟩ O O) ?_
     refine JLg (.ptr 1029 0) (H2 1029 4 tf_zsize_63 O O) ?_
     refine H1 (u := .junk) (Gt (u := .agg [G0 0, G0 1, G0 0, G0 0]) (ds := [G0 0, G0 1, G0 0, G0 0]) tf_size_63 O O O O O O O O) ?_
     refine G8 (hK200 _ _ ?_)
     obtain ⟨kj201, hkj201, h⟩ := J6 h
     refine Hs (fun j201 : Int => kj201 j201 = some p) (fun j201 => [(2, .dptr (Ship.cs s)), (6, .mp 1033), (8, .dptr (Move.cs y189)), (9, BL ((decide (y189.Kind = 1)) || (decide (y189.Kind = 4)))), (10, .ptr 1029 0), (19, LS 6 Move.av l), (20, G0 (l.length : Int)), (21, G0 (i189 : Int))]) (fun j201 => [(1033, MP 87 Arr2Int.kv Task.av s189), (1029, .box 63 [G0 0, G0 j201, G0 0, G0 0])]) (fun Kj201 ej201 => ?_) ?_
     ·
      refine G6 fun K202 hK202 => G2 ?_
      refine JLg (.dptr (Move.cs y189)) (Gb Jf O O O) ?_
      refine JLg (U8 y189.Kind) (Gf H7 O O O) ?_
      refine JLg (BL (decide (3 ≤ y189.Kind))) (A_geq O O O) ?_
      refine G8 (hK202 _ _ ?_)
      refine Gh O (fun hb => ?_) (fun hb => ?_)
      ·
       replace h := bif_t hb h
       refine G2 ?_
       refine JLg (.ptr 1029 1) (Hm Jv O O) ?_
       refine H1 (u := .junk) (Gt (u := G0 2) (ds := [G0 0, G0 2, G0 0, G0 0]) Jh O O O O O O O O) ?_
       refine G8 ?_
       exact ej201 _ _ 2 h ⟨(by repeat' constructor), ⟨⟨_, rfl, .map⟩, ⟨_, rfl, .boxL rfl (by repeat' constructor)⟩, trivial⟩, rfl⟩
      ·
       replace h := bif_f hb h
       refine Gj ?_
       exact ej201 _ _ 1 h ⟨(by repeat' constructor), ⟨⟨_, rfl, .map⟩, ⟨_, rfl, .boxL rfl (by repeat' constructor)⟩, trivial⟩, rfl⟩
     ·intro j201 h
      replace h := app1 hkj201 h
      obtain ⟨kj203, hkj203, h⟩ := J6 h
      refine Hs (fun j203 : Int => kj203 j203 = some p) (fun j203 => [(2, .dptr (Ship.cs s)), (6, .mp 1033), (9, BL ((decide (y189.Kind = 1)) || (decide (y189.Kind = 4)))), (10, .ptr 1029 0), (19, LS 6 Move.av l), (20, G0 (l.length : Int)), (21, G0 (i189 : Int))]) (fun j203 => [(1033, MP 87 Arr2Int.kv Task.av s189), (1029, .box 63 [G0 j203, G0 j201, G0 0, G0 0])]) (fun Kj203 ej203 => ?_) ?_
      ·
       refine G6 fun K204 hK204 => G2 ?_
       refine JLg (BL ((decide (y189.Kind = 1)) || (decide (y189.Kind = 4)))) (G7 O O) ?_
       refine G8 (hK204 _ _ ?_)
       refine Gh O (fun hb => ?_) (fun hb => ?_)
       ·
        replace h := bif_t hb h
        refine G2 ?_
        refine JLg (.dptr [LS 2 Gc.av s.Covers, G0 s.Light.Kilos, G0 s.Light.X, G0 s.Light.Y, G0 s.Light.Z, LS 5 Row.av s.Rows, LS 5 Frame.av s.Frames, LS 6 Tank.av s.Tanks, G0 s.G4.Tolerance, G0 s.G4.Trim, G0 s.G4.List_, G0 s.G4.Stability]) (Gb Ja O O O) ?_
        refine JLg (LS 2 Gc.av s.Covers) (Gf Jn O O O) ?_
        refine JLg (.dptr [G0 y189.Gc]) (Gb tf_field_53_3 O O O) ?_
        refine JLg (G0 y189.Gc) (Gf Ga O O O) ?_
        obtain ⟨m206, y205, hm206, hy205, h⟩ := Jq h
        refine JLg (.dptr [G0 y205.Bay, LS 1 G0 y205.Rows]) (Gw (f := Gc.av) (xs := s.Covers) (y := y205) O O O J8 hy205 hm206) ?_
        refine JLg (.dptr [G0 y205.Bay, LS 1 G0 y205.Rows]) (Gb tf_field_58_0 O O O) ?_
        refine JLg (G0 y205.Bay) (Gf Ga O O O) ?_
        refine JLg (.ptr 1029 0) (Hm tf_field_63_0 O O) ?_
        refine H1 (u := .junk) (Gt (u := G0 y205.Bay) (ds := [G0 y205.Bay, G0 j201, G0 0, G0 0]) Jh O O O O O O O O) ?_
        refine G8 ?_
        exact ej203 _ _ y205.Bay h ⟨(by repeat' constructor), ⟨⟨_, rfl, .map⟩, ⟨_, rfl, .boxL rfl (by repeat' constructor)⟩, trivial⟩, rfl⟩
       ·
        replace h := bif_f hb h
        refine G2 ?_
        refine JLg (.dptr (Ship.cs s)) (Gb Hc O O O) ?_
        refine JLg (LS 12 G5.av s.Columns) (Gf Hj O O O) ?_
        refine JLg (.dptr ((Move.cs y189).drop 2)) (Gb tf_field_53_2 O O O) ?_
        refine JLg (.dptr ((Move.cs y189).drop 2)) (Gb Hh O O O) ?_
        refine JLg (G0 y189.Slot.G5) (Gf Ga O O O) ?_
        obtain ⟨m208, y207, hm208, hy207, h⟩ := Jq h
        refine JLg (.dptr (G5.cs y207)) (Gw (f := G5.av) (xs := s.Columns) (y := y207) O O O Hf hy207 hm208) ?_
        refine JLg (.dptr (G5.cs y207)) (Gb Ji O O O) ?_
        refine JLg (G0 y207.Bay) (Gf Ga O O O) ?_
        refine JLg (.ptr 1029 0) (Hm tf_field_63_0 O O) ?_
        refine H1 (u := .junk) (Gt (u := G0 y207.Bay) (ds := [G0 y207.Bay, G0 j201, G0 0, G0 0]) Jh O O O O O O O O) ?_
        refine G8 ?_
        exact ej203 _ _ y207.Bay h ⟨(by repeat' constructor), ⟨⟨_, rfl, .map⟩, ⟨_, rfl, .boxL rfl (by repeat' constructor)⟩, trivial⟩, rfl⟩
      ·intro j203 h
       replace h := app1 hkj203 h
       refine G6 fun K209 hK209 => G2 ?_
       refine JLg (.ptr 1029 1) (Hm Jv O O) ?_
       refine JLg (G0 j201) (Ht Ga O O O O) ?_
       refine JLg (.ptr 1029 0) (Hm tf_field_63_0 O O) ?_
       refine JLg (G0 j203) (Ht Ga O O O O) ?_
       refine JLg (.agg [G0 j201, G0 j203]) (A_buildArr (cs := [G0 j201, G0 j203]) [.int .i64 0, .int .i64 0] tf_arr_49 tf_zero_49 O O) ?_
       refine JLg (.ptr 1030 0) (H2 1030 2 tf_zsize_49 O O) ?_
       refine H1 (u := .junk) (Gt (u := .agg [G0 j201, G0 j203]) (ds := [G0 j201, G0 j203]) tf_size_49 O O O O O O O O) ?_
       refine G8 (hK209 _ _ ?_)
       refine Gm [(2, .dptr (Ship.cs s)), (6, .mp 1033), (9, BL ((decide (y189.Kind = 1)) || (decide (y189.Kind = 4)))), (10, .ptr 1029 0), (11, .dptr [G0 j201, G0 j203]), (19, LS 6 Move.av l), (20, G0 (l.length : Int)), (21, G0 (i189 : Int))] [(1033, MP 87 Arr2Int.kv Task.av s189), (1029, .box 63 [G0 j203, G0 j201, G0 0, G0 0])] 1030 rfl rfl rfl ⟨⟨_, rfl, .map⟩, ⟨_, rfl, .boxEq rfl rfl⟩, trivial⟩ rfl (by repeat' (first | exact .ptr | constructor)) ?_
       refine G6 (fun K210 hK210 => ?_)
       refine Ju (l' := [(2, .dptr (Ship.cs s)), (6, .mp 1033), (9, BL ((decide (y189.Kind = 1)) || (decide (y189.Kind = 4)))), (10, .ptr 1029 0), (11, .dptr [G0 j201, G0 j203]), (19, LS 6 Move.av l), (20, G0 (l.length : Int)), (21, G0 (i189 : Int))]) (L' := [(1033, MP 87 Arr2Int.kv Task.av s189), (1029, .box 63 [G0 j203, G0 j201, G0 0, G0 0])]) ⟨(by repeat' constructor), ⟨⟨_, rfl, .map⟩, ⟨_, rfl, .boxL rfl (by repeat' constructor)⟩, trivial⟩, rfl⟩ ?_
       obtain ⟨v211, hv211, h⟩ := Ge h
       obtain ⟨v212, hv212, h⟩ := Ge h
       refine Jc [9, 11] [0, 0, 0, 0, 0, 0, 0, 0, 0, 0, 1, 0] [0, 0, 0, 0, 1, 1, 1, 1, 0, 0, 1, 0] [[(1033, MP 87 Arr2Int.kv Task.av s189), (1029, .box 63 [G0 j203, G0 j201, G0 0, G0 0])], ((1029, .box 63 [G0 j203, G0 j201, G0 v211.Lifts, G0 0]) :: [(1033, MP 87 Arr2Int.kv Task.av s189), (1029, .box 63 [G0 j203, G0 j201, G0 0, G0 0])]), ((1029, .box 63 [G0 j203, G0 j201, G0 v211.Lifts, G0 v212.Covers]) :: ((1029, .box 63 [G0 j203, G0 j201, G0 v211.Lifts, G0 0]) :: [(1033, MP 87 Arr2Int.kv Task.av s189), (1029, .box 63 [G0 j203, G0 j201, G0 0, G0 0])]))] J5 (by kernel_rfl) rfl rfl ?_
       refine Gn (u := .mp 1033) O O ⟨Gp (G7 O O) O, trivial⟩ ?_
       refine Gn (u := .agg [G0 j201, G0 j203]) O O ⟨Gp (Gg tf_agg_49 O O O) O, trivial⟩ ?_
       refine Gn (u := .agg (Task.cs v211)) O O ⟨Gp (((Option.some.inj hv211) ▸ A_lookupM0 (av := Task.av) (m := s189) (a := (Arr2Int.mk j201 j203)) (Task.mk 0 0 0 0) (.agg #[.int .i64 0, .int .i64 0, .int .i64 0, .int .i64 0]) O O O O tk_49 tf_map_87 tf_zv_63 O)) O, trivial⟩ ?_
       refine Gn (u := G0 v211.Lifts) O O ⟨Gp (A_field1 tf_f1_63_2 O O O) O, trivial⟩ ?_
       refine Gn (u := .mp 1033) O O ⟨Gp (G7 O O) O, Gp (G7 O O) O, trivial⟩ ?_
       refine Gn (u := .agg [G0 j201, G0 j203]) O O ⟨Gp (Gg tf_agg_49 O O O) O, Gp (Gg tf_agg_49 O O O) O, trivial⟩ ?_
       refine Gn (u := .agg (Task.cs v212)) O O ⟨Gp (((Option.some.inj hv212) ▸ A_lookupM0 (av := Task.av) (m := s189) (a := (Arr2Int.mk j201 j203)) (Task.mk 0 0 0 0) (.agg #[.int .i64 0, .int .i64 0, .int .i64 0, .int .i64 0]) O O O O tk_49 tf_map_87 tf_zv_63 O)) O, Gp (((Option.some.inj hv212) ▸ A_lookupM0 (av := Task.av) (m := s189) (a := (Arr2Int.mk j201 j203)) (Task.mk 0 0 0 0) (.agg #[.int .i64 0, .int .i64 0, .int .i64 0, .int .i64 0]) O O O O tk_49 tf_map_87 tf_zv_63 O)) O, trivial⟩ ?_
       refine Gn (u := G0 v212.Covers) O O ⟨Gp (A_field1 tf_f1_63_3 O O O) O, Gp (A_field1 tf_f1_63_3 O O O) O, trivial⟩ ?_
       refine Gn (u := .ptr 1029 2) O O ⟨Gp (Hm tf_field_63_2 O O) O, trivial⟩ ?_
       refine D_w0 (u := .junk) O O O O (Gp (Gt (u := G0 v211.Lifts) (ds := [G0 j203, G0 j201, G0 v211.Lifts, G0 0]) Jh O O O O O O O O) O) ?_
       refine Gn (u := .ptr 1029 3) O O ⟨Gp (Hm tf_field_63_3 O O) O, trivial⟩ ?_
       refine D_w0 (u := .junk) O O O O (Gp (Gt (u := G0 v212.Covers) (ds := [G0 j203, G0 j201, G0 v211.Lifts, G0 v212.Covers]) Jh O O O O O O O O) O) ?_
       refine D_nil ?_
       refine hK210 _ _ ?_
       obtain ⟨kj213, hkj213, h⟩ := J6 h
       refine Hs (fun j213 : Int × Int => kj213 j213 = some p) (fun j213 => [(2, .dptr (Ship.cs s)), (6, .mp 1033), (10, .ptr 1029 0), (11, .dptr [G0 j201, G0 j203]), (19, LS 6 Move.av l), (20, G0 (l.length : Int)), (21, G0 (i189 : Int))]) (fun j213 => [(1033, MP 87 Arr2Int.kv Task.av s189), (1029, .box 63 [G0 j203, G0 j201, G0 j213.1, G0 j213.2])]) (fun Kj213 ej213 => ?_) ?_
       ·
        refine G6 fun K214 hK214 => G2 ?_
        refine JLg (BL ((decide (y189.Kind = 1)) || (decide (y189.Kind = 4)))) (G7 O O) ?_
        refine G8 (hK214 _ _ ?_)
        refine Gh O (fun hb => ?_) (fun hb => ?_)
        ·
         replace h := bif_t hb h
         refine G2 ?_
         refine JLg (.ptr 1029 3) (Hm tf_field_63_3 O O) ?_
         refine JLg (G0 v212.Covers) (Ht Ga O O O O) ?_
         obtain ⟨v215, hv215, h⟩ := H6 h
         refine JLg (G0 v215) (Hd hv215 O O O) ?_
         refine JLg (.ptr 1029 3) (Hm tf_field_63_3 O O) ?_
         refine H1 (u := .junk) (Gt (u := G0 v215) (ds := [G0 j203, G0 j201, G0 v211.Lifts, G0 v215]) Jh O O O O O O O O) ?_
         refine G8 ?_
         exact ej213 _ _ (v211.Lifts, v215) h ⟨(by repeat' constructor), ⟨⟨_, rfl, .map⟩, ⟨_, rfl, .boxL rfl (by repeat' constructor)⟩, trivial⟩, rfl⟩
        ·
         replace h := bif_f hb h
         refine G2 ?_
         refine JLg (.ptr 1029 2) (Hm tf_field_63_2 O O) ?_
         refine JLg (G0 v211.Lifts) (Ht Ga O O O O) ?_
         obtain ⟨v216, hv216, h⟩ := H6 h
         refine JLg (G0 v216) (Hd hv216 O O O) ?_
         refine JLg (.ptr 1029 2) (Hm tf_field_63_2 O O) ?_
         refine H1 (u := .junk) (Gt (u := G0 v216) (ds := [G0 j203, G0 j201, G0 v216, G0 v212.Covers]) Jh O O O O O O O O) ?_
         refine G8 ?_
         exact ej213 _ _ (v216, v212.Covers) h ⟨(by repeat' constructor), ⟨⟨_, rfl, .map⟩, ⟨_, rfl, .boxL rfl (by repeat' constructor)⟩, trivial⟩, rfl⟩
       ·intro j213 h
        replace h := app1 hkj213 h
        refine G2 ?_
        refine JLg (.mp 1033) (G7 O O) ?_
        refine JLg (.agg [G0 j201, G0 j203]) (Gg tf_agg_49 O O O) ?_
        refine JLg (.agg [G0 j203, G0 j201, G0 j213.1, G0 j213.2]) (A_loadAggL tf_agg_63 O O O O) ?_
        refine H1 (u := .junk) (A_mapUpdateM (m := s189) (a := (Arr2Int.mk j201 j203)) (v := (Task.mk j203 j201 j213.1 j213.2)) O O O O O O tk_49 tf_map_87) ?_
        refine G8 (hK192 _ _ ?_)
        refine G2 ?_
        refine JLg (G0 ((i189 + 1 : Nat) : Int)) (Hd (idx_succ hk189 hm20) O O O) ?_
        refine JLg (G0 ((i189 + 1 : Nat) : Int)) (G7 O O) ?_
        refine G8 ?_
        exact e189 _ _ (i189 + 1) (AMap.put s189 (Arr2Int.mk j201 j203) (Task.mk j203 j201 j213.1 j213.2)) (app1 hn189 h) (by omega) ⟨(by repeat' constructor), ⟨⟨_, rfl, .map⟩, trivial⟩, rfl⟩
  ·
   have h := app1 hkx189 (Hb hi189 (Gy hb))
   refine H4 ?_
   refine hK7 _ _ ?_
   refine G6 fun K217 hK217 => G2 ?_
   refine JLg (.vec 1031 (([] : List Task).length) 4 (([] : List Task).length)) (A_vnil 1031 63 4 O O O) ?_
   refine G8 (hK217 _ _ ?_)
   refine G6 (fun K218 hK218 => ?_)
   refine G6 fun K219 hK219 => G2 ?_
   refine JLg (.mp 1033) (G7 O O) ?_
   refine JLg (.it 1034) (A_rangeM 1034 (m := s189) O O O O tf_map_87) ?_
   refine G8 (hK219 _ _ ?_)
   refine Gi ?_
   obtain ⟨b228, kx228, hb228, hkx228, h⟩ := eachM_in h
   refine JC_loopM (AMap.size s189) (fun i228 (s228 : (List Task)) => MInv b228 kx228 (AMap.l s189) i228 s228) (fun i228 s228 => [(12, .vec 1031 s228.length 4 s228.length), (125, .it 1034)]) (fun i228 s228 => [(1033, MP 87 Arr2Int.kv Task.av s189), (1031, .vec 63 4 s228.length (s228.map Task.av)), (1034, .iter 1033 (AMap.size s189) i228)]) [] (MInv.start h hp) ⟨⟨.same O, .same O, trivial⟩, ⟨⟨_, O, .map⟩, ⟨_, O, .vec⟩, ⟨_, O, .iter O⟩, trivial⟩, O⟩ ?_
   clear h hp
   intro i228 s228 hi228 K228 e228
   refine G6 fun K229 hK229 => G2 ?_
   refine JL_step O O O (A_nextM (m := s189) O O O O) ?_
   intro u_ L_ hn_
   rcases hn_ with ⟨q228, x228, he228, hs228, rfl, rfl⟩ | ⟨ha228, rfl, rfl⟩
   ·
    obtain ⟨o228, h, ho1_228, ho2_228⟩ := hi228.step he228 hs228
    replace h := app3 hb228 h
    refine JLg (BL true) (Gv O O O) ?_
    refine G8 (hK229 _ _ ?_)
    refine G6 (fun K230 hK230 => ?_)
    refine JC_condT O ?_
    refine Gj ?_
    refine hK230 _ _ ?_
    refine Gi ?_
    refine G6 fun K231 hK231 => G2 ?_
    refine JLg (.tup [.agg [G0 x228.1.e0, G0 x228.1.e1], .agg (Task.cs x228.2)]) (A_entryM (kv := Arr2Int.kv) (av := Task.av) (m := s189) (q := q228) (seen := i228) (e := x228) O O O O he228) ?_
    refine JLg (.agg (Task.cs x228.2)) (Gv O O O) ?_
    refine JLg (.ptr 1032 0) (H2 1032 4 tf_zsize_63 O O) ?_
    refine H1 (u := .junk) (Gt (u := .agg (Task.cs x228.2)) (ds := [G0 x228.2.Bay, G0 x228.2.Phase, G0 x228.2.Lifts, G0 x228.2.Covers]) tf_size_63 O O O O O O O O) ?_
    refine G8 (hK231 _ _ ?_)
    refine Gm [(12, .vec 1031 s228.length 4 s228.length), (14, .dptr (Task.cs x228.2)), (125, .it 1034)] [(1033, MP 87 Arr2Int.kv Task.av s189), (1031, .vec 63 4 s228.length (s228.map Task.av)), (1034, .iter 1033 (AMap.size s189) (i228 ++ [q228]))] 1032 rfl rfl rfl ⟨⟨_, rfl, .map⟩, ⟨_, rfl, .vec⟩, ⟨_, rfl, .iter rfl⟩, trivial⟩ rfl (by exact ⟨.conv (.same rfl), .ptr, .conv (.same rfl), trivial⟩) ?_
    refine G2 ?_
    refine JLg (.vec 1031 s228.length 4 s228.length) (G7 O O) ?_
    refine JLg (.agg (Task.cs x228.2)) (Gg tf_agg_63 O O O) ?_
    refine JLg (LS 4 Task.av [x228.2]) (Gu (xs := [.agg (Task.cs x228.2)]) O ⟨O, O, trivial⟩ J0 tf_zsize_63 O O O O) ?_
    obtain ⟨ha232, h⟩ := Hq h
    refine JLg (.vec 1031 ((s228 ++ [x228.2]).length) 4 ((s228 ++ [x228.2]).length)) (A_vappendM (f := Task.av) (xs := s228) (ys := [x228.2]) (ver := s228.length) (ver1 := (s228 ++ [x228.2]).length) rfl rfl rfl rfl J0 tf_elem_63 ha232 (fun _ => rfl) (.inl rfl) (by simp)) ?_
    refine JLg (.vec 1031 ((s228 ++ [x228.2]).length) 4 ((s228 ++ [x228.2]).length)) (G9 O O) ?_
    refine G8 ?_
    exact e228 _ _ (i228 ++ [q228]) (s228 ++ [x228.2]) (ho2_228 _ (Option.some.inj h).symm) (unseen_lt (List.getElem?_eq_some_iff.1 he228).1 hs228) ⟨⟨.same O, .same O, trivial⟩, ⟨⟨_, O, .map⟩, ⟨_, O, .vec⟩, ⟨_, O, .iter O⟩, trivial⟩, O⟩
   ·
    obtain ⟨p_, h, hp⟩ := hi228.done ha228
    replace h := app1 hkx228 h
    refine JLg (BL false) (Gv O O O) ?_
    refine G8 (hK229 _ _ ?_)
    refine G6 (fun K233 hK233 => ?_)
    refine JC_condF O ?_
    refine H4 ?_
    refine hK218 _ _ ?_
    refine G6 fun K234 hK234 => G2 ?_
    refine JLg (.vec 1031 s228.length 4 s228.length) (G7 O O) ?_
    obtain ⟨r235, hr235, h⟩ := Ge h
    refine JL_step O O O (A_callLE (args := [.vec 1031 s228.length 4 s228.length, .fn 17 []]) (L0 := [(1031, .vec 63 4 s228.length (s228.map Task.av))]) (u := fun p => .vec 1031 p 4 r235.length) (Lr := fun p => [(1031, .vec 63 4 p (r235.map Task.av))]) O (M_moves_sorted_apiTask_p90000012 F s228 s228.length (fun z0 z1 => M_moves_Tasks_1 z0 z1) 17 [] tf_call_17 O (fun z0 z1 q hq => M_moves_Tasks_1_w z0 z1 q hq) r235 hr235) tf_call_16 ⟨.inl O, O, .inl O, O, trivial⟩ ⟨O, trivial⟩ O (fun _ => O)) ?_
    rintro u_ L_ ⟨v236, rfl, rfl⟩
    refine JLg (.vec 1031 v236 4 r235.length) (G9 O O) ?_
    refine JLg (G0 0) (G9 O O) ?_
    refine G8 (hK234 _ _ ?_)
    refine JC_vfreeze [(4, LS 4 Task.av r235), (5, G0 0)] [] 1031 rfl rfl trivial rfl (by exact ⟨.vec, .conv (.same rfl), trivial⟩) ?_
    refine Gq ?_
    exact ⟨[LS 4 Task.av r235, G0 0], [], trivial, O, ⟨⟨_, O, .conv (.same O)⟩, ⟨_, O, .conv (.same O)⟩, trivial⟩, O, (r235, 0), Eq.mpr (Option.some.inj h) hp, O⟩
theorem M_moves_Tasks_s (S_ : Nat → (Ship) → (List Move) → Option ((List Task) × Int)) (hS_ : ∀ F s l r, S_ F s l = some r → ∃ p : Prop, M_moves_Tasks F s l (fun r_ => r_ = r) = some p ∧ p) (F : Nat) (s : Ship) (l : List Move) (r : (List Task) × Int) (h : S_ F s l = some r) : Pure Tryz.prog 8 [.agg (Ship.cs s), LS 6 Move.av l] (· = .tup [LS 4 Task.av r.1, G0 r.2]) := by
 obtain ⟨p, h1, h2⟩ := hS_ F s l r h
 exact (M_moves_Tasks_w F s l _ p h1 h2).monoP (fun av hh => by obtain ⟨r_, rfl, ha⟩ := hh; exact ha)

def M_moves_Lifts (l : List Move) : Option Int :=
 each (fun y19 i19 (s19 : Int) nx19 =>
  jp (fun kj22 =>
   bif ((decide (y19.Kind = 2)) || (decide (y19.Kind = 3))) then
   (chk (s19 + 1) fun v25 =>
    kj22 v25)
   else
   (kj22 s19)) fun (j22 : Int) =>
  nx19 j22)
 (fun (s19 : Int) =>
  some s19) l 0 0
theorem M_moves_Lifts_w (l : List Move) (r : Int) (h : M_moves_Lifts l = some r) : Pure Tryz.prog 9 [LS 6 Move.av l] (· = G0 r) := by
 unfold M_moves_Lifts at h
 refine Gx [.tmp 2] Tryz.func9 O O ?_
 refine G6 fun K1 hK1 => G2 ?_
 refine JLg (G0 0) (G9 O O) ?_
 refine G8 (hK1 _ _ ?_)
 refine G6 fun K2 hK2 => G2 ?_
 refine JLg (G0 0) (G9 O O) ?_
 refine G8 (hK2 _ _ ?_)
 refine G6 (fun K3 hK3 => ?_)
 refine G6 fun K4 hK4 => G2 ?_
 refine JLg (LS 6 Move.av l) (G7 O O) ?_
 refine H9 (f := Move.av) (xs := l) Ho O O (fun hm7 => ?_) O O O
 refine JLg (G0 0) (G7 O O) ?_
 refine G8 (hK4 _ _ ?_)
 refine Gi ?_
 obtain ⟨b19, kx19, hb19, hkx19, h⟩ := Hi h
 refine Gz (fun i19 (s19 : Int) => each b19 kx19 (List.drop i19 l) i19 s19 = some r) (fun i19 s19 => [(3, G0 s19), (6, LS 6 Move.av l), (7, G0 (l.length : Int)), (8, G0 (i19 : Int))]) (fun i19 s19 => []) (fun i19 => l.length - i19) 0 0 h ⟨(by repeat' constructor), trivial, rfl⟩ ?_
 clear h
 intro i19 s19 hi19 K19 e19
 refine G6 fun K20 hK20 => G2 ?_
 refine JLg (BL (decide ((i19 : Int) < (l.length : Int)))) (He O O O) ?_
 refine G8 (hK20 _ _ ?_)
 refine G6 (fun K21 hK21 => ?_)
 refine Gh O (fun hb => ?_) (fun hb => ?_)
 ·
  have hk19 := lt_len hb
  obtain ⟨y19, nx19, hy19, hn19, h⟩ := Ha hi19 hk19
  replace h := app4 hb19 h
  refine Gj ?_
  refine hK21 _ _ ?_
  obtain ⟨kj22, hkj22, h⟩ := J6 h
  refine Hs (fun j22 : Int => kj22 j22 = some r) (fun j22 => [(3, G0 j22), (6, LS 6 Move.av l), (7, G0 (l.length : Int)), (8, G0 (i19 : Int))]) (fun j22 => []) (fun Kj22 ej22 => ?_) ?_
  ·
   refine Gi ?_
   refine G6 fun K23 hK23 => G2 ?_
   refine JLg (.dptr (Move.cs y19)) (Gw (f := Move.av) (xs := l) (y := y19) O O O Ho hy19 O) ?_
   refine JLg (.agg (Move.cs y19)) (Gg tf_agg_53 O O O) ?_
   refine JLg (.ptr 1035 0) (H2 1035 6 Jk O O) ?_
   refine H1 (u := .junk) (Gt (u := .agg (Move.cs y19)) (ds := [U8 y19.Kind, G0 y19.Box, G0 y19.Slot.G5, G0 y19.Slot.Tier, U8 y19.Slot.Half, G0 y19.Gc]) tf_size_53 O O O O O O O O) ?_
   refine G8 (hK23 _ _ ?_)
   refine Gm [(3, G0 s19), (5, .dptr (Move.cs y19)), (6, LS 6 Move.av l), (7, G0 (l.length : Int)), (8, G0 (i19 : Int))] [] 1035 rfl rfl rfl trivial rfl (by repeat' (first | exact .ptr | constructor)) ?_
   refine G6 fun K24 hK24 => G2 ?_
   refine JLg (.dptr (Move.cs y19)) (Gb Jf O O O) ?_
   refine JLg (U8 y19.Kind) (Gf H7 O O O) ?_
   refine JLg (BL (decide (y19.Kind = 2))) (Hx O O O) ?_
   refine JLg (BL (decide (y19.Kind = 2))) (G7 O O) ?_
   refine Gd (u := .dptr (Move.cs y19)) [] O O O .scf trivial (fun hc => Gb Jf O O O) ?_
   refine Gd (u := U8 y19.Kind) [(16, .dptr (Move.cs y19))] O O O .scf ⟨.all id, trivial⟩ (fun hc => Gf H7 O O O) ?_
   refine Gd (u := BL (decide (y19.Kind = 3))) [(17, U8 y19.Kind)] O O O .scf ⟨.all id, trivial⟩ (fun hc => Hx O O O) ?_
   refine JLg (BL ((decide (y19.Kind = 2)) || (decide (y19.Kind = 3)))) (Q0 O O O O) ?_
   refine G8 (hK24 _ _ ?_)
   refine Gh O (fun hb => ?_) (fun hb => ?_)
   ·
    replace h := bif_t hb h
    refine G2 ?_
    refine JLg (G0 s19) (G7 O O) ?_
    obtain ⟨v25, hv25, h⟩ := H6 h
    refine JLg (G0 v25) (Hd hv25 O O O) ?_
    refine JLg (G0 v25) (G9 O O) ?_
    refine G8 ?_
    exact ej22 _ _ v25 h ⟨(by repeat' constructor), trivial, rfl⟩
   ·
    replace h := bif_f hb h
    refine Gj ?_
    exact ej22 _ _ s19 h ⟨(by repeat' constructor), trivial, rfl⟩
  ·intro j22 h
   replace h := app1 hkj22 h
   refine G2 ?_
   refine JLg (G0 ((i19 + 1 : Nat) : Int)) (Hd (idx_succ hk19 hm7) O O O) ?_
   refine JLg (G0 ((i19 + 1 : Nat) : Int)) (G7 O O) ?_
   refine G8 ?_
   exact e19 _ _ (i19 + 1) j22 (app1 hn19 h) (by omega) ⟨(by repeat' constructor), trivial, rfl⟩
 ·
  have h := app1 hkx19 (Hb hi19 (Gy hb))
  refine H4 ?_
  refine hK3 _ _ ?_
  refine G6 fun K26 hK26 => G2 ?_
  refine JLg (G0 s19) (G7 O O) ?_
  refine JLg (G0 s19) (G9 O O) ?_
  refine G8 (hK26 _ _ ?_)
  refine Gq ?_
  exact ⟨[G0 s19], [], trivial, O, ⟨⟨_, O, .conv (.same O)⟩, trivial⟩, O, congrArg (fun r : Int => (G0 r : AV)) (Option.some.inj h)⟩
end
end Go.Proofs.YtmdnkofmmheoaaaGreat
