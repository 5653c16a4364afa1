/-
 Models of functions of the program, and that they return what the models say.
-/
import Derived.Test.YtmdnkofmmheoaaaGreatProg
import Derived.Test.YtmdnkofmmheoaaaGreatSortM
import Derived.Test.YtmdnkofmmheoaaaGreatSortLay
import Derived.Test.YtmdnkofmmheoaaaGreatRel
import Derived.Test.YtmdnkofmmheoaaaGreatLit0
import Derived.Test.YtmdnkofmmheoaaaGreatXA
import Derived.Test.YtmdnkofmmheoaaaGreatSpecA
import Derived.Test.YtmdnkofmmheoaaaGreatSpecI
import Derived.Test.YtmdnkofmmheoaaaGreatXVa
import Derived.Test.YtmdnkofmmheoaaaGreatXVb
set_option maxRecDepth 100000
set_option linter.unusedVariables false
set_option linter.unusedSimpArgs false
namespace Go.Proofs.YtmdnkofmmheoaaaGreat
open Go.RowKit
noncomputable section
open XAF
open XVF

def M_ship_CoverOf_1 (x : Gc) (p1 : Ship) (p2 : Int) : Option Bool :=
 gidx p1.Columns p2 fun y3 =>
 bnd (M_ship_covers x y3) fun r5 =>
 some r5
theorem M_ship_CoverOf_1_w (x : Gc) (p1 : Ship) (p2 : Int) (r : Bool) (h : M_ship_CoverOf_1 x p1 p2 = some r) : Pure Tryz.prog 90 [.agg [G0 x.Bay, LS 1 G0 x.Rows], .dptr (Ship.cs p1), .dptr [G0 p2]] (· = BL r) := by
 unfold M_ship_CoverOf_1 at h
 refine Gx [.tmp 4] Tryz.func90 O O ?_
 refine G6 fun K1 hK1 => G2 ?_
 refine JLg (.ptr 1153 0) (J1 (u := .agg [G0 x.Bay, LS 1 G0 x.Rows]) (cs := [G0 x.Bay, LS 1 G0 x.Rows]) 1153 O O O O O) ?_
 refine JLg (BL false) (G9 O O) ?_
 refine G8 (hK1 _ _ ?_)
 refine Gm [(1, .dptr (Ship.cs p1)), (2, .dptr [G0 p2]), (3, .dptr [G0 x.Bay, LS 1 G0 x.Rows])] [] 1153 rfl rfl rfl trivial rfl (by exact ⟨.conv (.same rfl), .conv (.same rfl), .ptr, trivial⟩) ?_
 refine G6 (fun K2 hK2 => ?_)
 obtain ⟨m4, y3, hm4, hy3, h⟩ := Jq h
 obtain ⟨r5, hr5, h⟩ := Ge h
 refine Jc [] [0, 0, 0, 0, 0, 0, 0, 0] [0, 0, 0, 0, 0, 0, 0, 0] [[]] J5 (by kernel_rfl) rfl rfl ?_
 refine Gn (u := .agg [G0 x.Bay, LS 1 G0 x.Rows]) O O ⟨Gp (Gg tf_agg_58 O O O) O, trivial⟩ ?_
 refine Gn (u := .dptr (Ship.cs p1)) O O ⟨Gp (Gb Hc O O O) O, trivial⟩ ?_
 refine Gn (u := LS 12 G5.av p1.Columns) O O ⟨Gp (Gf Hj O O O) O, trivial⟩ ?_
 refine Gn (u := G0 p2) O O ⟨Gp (Gf Ga O O O) O, trivial⟩ ?_
 refine Gn (u := .dptr (G5.cs y3)) O O ⟨Gp (Gw (f := G5.av) (xs := p1.Columns) (y := y3) O O O Hf hy3 hm4) O, trivial⟩ ?_
 refine Gn (u := .agg (G5.cs y3)) O O ⟨Gp (Gg tf_agg_56 O O O) O, trivial⟩ ?_
 refine Gn (u := BL r5) O O ⟨Gp (Gr (args := [.agg [G0 x.Bay, LS 1 G0 x.Rows], .agg (G5.cs y3)]) O (M_ship_covers_w x y3 r5 hr5) tf_call_91 ⟨O, O, O, O, trivial⟩) O, trivial⟩ ?_
 refine Gn (u := BL r5) O O ⟨Gp (G9 O O) O, trivial⟩ ?_
 refine D_nil ?_
 refine hK2 _ _ ?_
 refine Gq ?_
 exact ⟨[BL r5], [], trivial, O, ⟨⟨_, O, .conv (.same O)⟩, trivial⟩, O, congrArg (fun r : Bool => (BL r : AV)) (Option.some.inj h)⟩

def M_ship_chosen_apiCover (l : List Gc) (wanted : Gc → Option Bool) : Option (List Int) :=
 each (fun y21 i21 (s21 : (List Int)) nx21 =>
  jp (fun kj24 =>
   bnd (wanted y21) fun r27 =>
   bif r27 then
   (need (decide ((s21.length + [(i21 : Int)].length) * 8 ≤ 140737488355328 ∧ s21.length + [(i21 : Int)].length ≤ maxLen)) <|
    kj24 (s21 ++ [(i21 : Int)]))
   else
   (kj24 s21)) fun (j24 : (List Int)) =>
  nx21 j24)
 (fun (s21 : (List Int)) =>
  some s21) l 0 []
theorem M_ship_chosen_apiCover_w (l : List Gc) (wanted : Gc → Option Bool) (wanted_f : FuncId) (wanted_c : List AV) (wanted_B : callB Tryz.prog wanted_f = true) (wanted_d : refsL (fun _ => false) wanted_c = true) (wanted_w : ∀ a0 q, wanted a0 = some q → Pure Tryz.prog wanted_f ([.agg [G0 a0.Bay, LS 1 G0 a0.Rows]] ++ wanted_c) (· = BL q)) (r : (List Int)) (h : M_ship_chosen_apiCover l wanted = some r) : Pure Tryz.prog 89 [LS 2 Gc.av l, .fn wanted_f wanted_c] (· = LS 1 G0 r) := by
 unfold M_ship_chosen_apiCover at h
 refine Gx [.tmp 4] Tryz.func89 O O ?_
 refine G6 fun K1 hK1 => G2 ?_
 refine JLg (LS 1 G0 ([] : List Int)) (Hw 1 O O) ?_
 refine G8 (hK1 _ _ ?_)
 refine G6 fun K2 hK2 => G2 ?_
 refine JLg (OW 1151 1 G0 ([] : List Int)) (A_nilOwn 1151 3 1 O O O) ?_
 refine G8 (hK2 _ _ ?_)
 refine G6 (fun K3 hK3 => ?_)
 refine G6 fun K4 hK4 => G2 ?_
 refine JLg (LS 2 Gc.av l) (G7 O O) ?_
 refine H9 (f := Gc.av) (xs := l) J8 O O (fun hm9 => ?_) O O O
 refine JLg (G0 0) (G7 O O) ?_
 refine G8 (hK4 _ _ ?_)
 refine Gi ?_
 obtain ⟨b21, kx21, hb21, hkx21, h⟩ := Hi h
 refine Gz (fun i21 (s21 : (List Int)) => each b21 kx21 (List.drop i21 l) i21 s21 = some r) (fun i21 s21 => [(1, .fn wanted_f wanted_c), (5, OW 1151 1 G0 s21), (8, LS 2 Gc.av l), (9, G0 (l.length : Int)), (10, G0 (i21 : Int))]) (fun i21 s21 => [(1151, .spare 3 1 s21.length s21.length)]) (fun i21 => l.length - i21) 0 [] h ⟨⟨.same (refsL_any _ _ wanted_d), .same O, .same O, .same O, .same O, trivial⟩, ⟨⟨_, O, .same⟩, trivial⟩, O⟩ ?_
 clear h
 intro i21 s21 hi21 K21 e21
 refine G6 fun K22 hK22 => G2 ?_
 refine JLg (BL (decide ((i21 : Int) < (l.length : Int)))) (He O O O) ?_
 refine G8 (hK22 _ _ ?_)
 refine G6 (fun K23 hK23 => ?_)
 refine Gh O (fun hb => ?_) (fun hb => ?_)
 ·
  have hk21 := lt_len hb
  obtain ⟨y21, nx21, hy21, hn21, h⟩ := Ha hi21 hk21
  replace h := app4 hb21 h
  refine Gj ?_
  refine hK23 _ _ ?_
  obtain ⟨kj24, hkj24, h⟩ := J6 h
  refine Hs (fun j24 : (List Int) => kj24 j24 = some r) (fun j24 => [(1, .fn wanted_f wanted_c), (5, OW 1151 1 G0 j24), (8, LS 2 Gc.av l), (9, G0 (l.length : Int)), (10, G0 (i21 : Int))]) (fun j24 => [(1151, .spare 3 1 j24.length j24.length)]) (fun Kj24 ej24 => ?_) ?_
  ·
   refine Gi ?_
   refine G6 fun K25 hK25 => G2 ?_
   refine JLg (G0 (i21 : Int)) (G7 O O) ?_
   refine JLg (.dptr [G0 y21.Bay, LS 1 G0 y21.Rows]) (Gw (f := Gc.av) (xs := l) (y := y21) O O O J8 hy21 O) ?_
   refine JLg (.agg [G0 y21.Bay, LS 1 G0 y21.Rows]) (Gg tf_agg_58 O O O) ?_
   refine JLg (.ptr 1152 0) (H2 1152 2 tf_zsize_58 O O) ?_
   refine JLg (G0 (i21 : Int)) (G9 O O) ?_
   refine H1 (u := .junk) (Gt (u := .agg [G0 y21.Bay, LS 1 G0 y21.Rows]) (ds := [G0 y21.Bay, LS 1 G0 y21.Rows]) tf_size_58 O O O O O O O O) ?_
   refine G8 (hK25 _ _ ?_)
   refine Gm [(1, .fn wanted_f wanted_c), (5, OW 1151 1 G0 s21), (6, G0 (i21 : Int)), (7, .dptr [G0 y21.Bay, LS 1 G0 y21.Rows]), (8, LS 2 Gc.av l), (9, G0 (l.length : Int)), (10, G0 (i21 : Int))] [(1151, .spare 3 1 s21.length s21.length)] 1152 rfl rfl rfl ⟨⟨_, rfl, .same⟩, trivial⟩ rfl (by exact ⟨.conv (.same (refsL_any _ _ wanted_d)), .conv (.same rfl), .conv (.same rfl), .ptr, .conv (.same rfl), .conv (.same rfl), .conv (.same rfl), trivial⟩) ?_
   refine G6 fun K26 hK26 => G2 ?_
   refine JLg (.fn wanted_f wanted_c) (G7 O O) ?_
   refine JLg (.agg [G0 y21.Bay, LS 1 G0 y21.Rows]) (Gg tf_agg_58 O O O) ?_
   obtain ⟨r27, hr27, h⟩ := Ge h
   refine JLg (BL r27) (Q8 (args := [.agg [G0 y21.Bay, LS 1 G0 y21.Rows]]) (caps := wanted_c) O O (wanted_w y21 _ hr27) wanted_B ⟨O, O, trivial⟩ wanted_d) ?_
   refine G8 (hK26 _ _ ?_)
   refine Gh O (fun hb => ?_) (fun hb => ?_)
   ·
    replace h := bif_t hb h
    refine G2 ?_
    refine JLg (OW 1151 1 G0 s21) (G7 O O) ?_
    refine JLg (G0 (i21 : Int)) (G7 O O) ?_
    refine JLg (LS 1 G0 [(i21 : Int)]) (Gu (xs := [G0 (i21 : Int)]) O ⟨O, O, trivial⟩ H0 Jr O O O O) ?_
    obtain ⟨ha28, h⟩ := Hq h
    refine JLg (OW 1151 1 G0 (s21 ++ [(i21 : Int)])) (Jd (f := G0) (xs := s21) (ys := [(i21 : Int)]) O O O O H0 tf_elem_3 ha28 (fun _ => O) (.inl O) O) ?_
    refine JLg (OW 1151 1 G0 (s21 ++ [(i21 : Int)])) (G9 O O) ?_
    refine G8 ?_
    exact ej24 _ _ (s21 ++ [(i21 : Int)]) h ⟨⟨.same (refsL_any _ _ wanted_d), .same O, .same O, .same O, .same O, trivial⟩, ⟨⟨_, O, .same⟩, trivial⟩, O⟩
   ·
    replace h := bif_f hb h
    refine Gj ?_
    exact ej24 _ _ s21 h ⟨⟨.same (refsL_any _ _ wanted_d), .same O, .same O, .same O, .same O, trivial⟩, ⟨⟨_, O, .same⟩, trivial⟩, O⟩
  ·intro j24 h
   replace h := app1 hkj24 h
   refine G2 ?_
   refine JLg (G0 ((i21 + 1 : Nat) : Int)) (Hd (idx_succ hk21 hm9) O O O) ?_
   refine JLg (G0 ((i21 + 1 : Nat) : Int)) (G7 O O) ?_
   refine G8 ?_
   exact e21 _ _ (i21 + 1) j24 (app1 hn21 h) (by omega) ⟨⟨.same (refsL_any _ _ wanted_d), .same rfl, .same rfl, .same rfl, .same rfl, trivial⟩, ⟨⟨_, rfl, .same⟩, trivial⟩, rfl⟩
 ·
  have h := app1 hkx21 (Hb hi21 (Gy hb))
  refine H4 ?_
  refine hK3 _ _ ?_
  refine G6 fun K29 hK29 => G2 ?_
  refine JLg (OW 1151 1 G0 s21) (G7 O O) ?_
  refine JLg (OW 1151 1 G0 s21) (G9 O O) ?_
  refine G8 (hK29 _ _ ?_)
  refine Gq ?_
  exact ⟨[LS 1 G0 s21], [], trivial, O, ⟨⟨_, O, .conv (.list O)⟩, trivial⟩, O, congrArg (fun r : (List Int) => (LS 1 G0 r : AV)) (Option.some.inj h)⟩

def M_ship_CoverOf (s : Ship) (column : Int) : Option Int :=
 bif ((decide (column < 0)) || (decide ((s.Columns.length : Int) ≤ column))) then
 (some (-1))
 else
 (bnd (M_ship_chosen_apiCover s.Covers (fun z0 => M_ship_CoverOf_1 z0 s column)) fun r6 =>
  bif decide ((r6.length : Int) = 0) then
  (some (-1))
  else
  (gidx r6 0 fun y11 =>
   some y11))
theorem M_ship_CoverOf_w (s : Ship) (column : Int) (r : Int) (h : M_ship_CoverOf s column = some r) : Pure Tryz.prog 58 [.agg (Ship.cs s), G0 column] (· = G0 r) := by
 unfold M_ship_CoverOf at h
 refine Gx [.tmp 4] Tryz.func58 O O ?_
 refine G6 fun K1 hK1 => G2 ?_
 refine JLg (.ptr 1133 0) (J1 (u := .agg (Ship.cs s)) (cs := (Ship.cs s)) 1133 O O O O O) ?_
 refine JLg (.ptr 1134 0) (J1 (u := G0 column) (cs := [G0 column]) 1134 O O O O O) ?_
 refine JLg (G0 0) (G9 O O) ?_
 refine G8 (hK1 _ _ ?_)
 refine Gm [(2, .dptr (Ship.cs s)), (3, .ptr 1134 0)] [(1134, .box 3 [G0 column])] 1133 rfl rfl rfl ⟨⟨_, rfl, .boxEq rfl rfl⟩, trivial⟩ rfl (by exact ⟨.ptr, .conv (.same rfl), trivial⟩) ?_
 refine Gm [(2, .dptr (Ship.cs s)), (3, .dptr [G0 column])] [] 1134 rfl rfl rfl trivial rfl (by exact ⟨.conv (.same rfl), .ptr, trivial⟩) ?_
 refine G6 (fun K2 hK2 => ?_)
 refine G6 fun K3 hK3 => G2 ?_
 refine JLg (G0 column) (Gf Ga O O O) ?_
 refine JLg (BL (decide (column < 0))) (He O O O) ?_
 refine JLg (BL (decide (column < 0))) (G7 O O) ?_
 refine Gd (u := G0 column) [] O O O .scf trivial (fun hc => Gf Ga O O O) ?_
 refine Gd (u := .dptr (Ship.cs s)) [] O O O .scf trivial (fun hc => Gb Hc O O O) ?_
 refine Gd (u := LS 12 G5.av s.Columns) [(10, .dptr (Ship.cs s))] O O O .scf ⟨.all id, trivial⟩ (fun hc => Gf Hj O O O) ?_
 refine Gd (u := G0 (s.Columns.length : Int)) [(11, LS 12 G5.av s.Columns)] O O O .scf ⟨.all id, trivial⟩ (fun hc => A_lenM (f := G5.av) (xs := s.Columns) Hf O O) ?_
 refine Gd (u := BL (decide ((s.Columns.length : Int) ≤ column))) [(9, G0 column), (12, G0 (s.Columns.length : Int))] O O O .scf ⟨.all id, .all id, trivial⟩ (fun hc => A_geq O O O) ?_
 refine JLg (BL ((decide (column < 0)) || (decide ((s.Columns.length : Int) ≤ column)))) (Q0 O O O O) ?_
 refine G8 (hK3 _ _ ?_)
 refine Gh O (fun hb => ?_) (fun hb => ?_)
 ·
  replace h := bif_t hb h
  refine G6 fun K4 hK4 => G2 ?_
  refine JLg (G0 (-1)) (G9 O O) ?_
  refine G8 (hK4 _ _ ?_)
  refine Gq ?_
  exact ⟨[G0 (-1)], [], trivial, O, ⟨⟨_, O, .conv (.same O)⟩, trivial⟩, O, congrArg (fun r : Int => (G0 r : AV)) (Option.some.inj h)⟩
 ·
  replace h := bif_f hb h
  refine Gj ?_
  refine hK2 _ _ ?_
  refine G6 fun K5 hK5 => G2 ?_
  refine JLg (.dptr [LS 2 Gc.av s.Covers, G0 s.Light.Kilos, G0 s.Light.X, G0 s.Light.Y, G0 s.Light.Z, LS 5 Row.av s.Rows, LS 5 Frame.av s.Frames, LS 6 Tank.av s.Tanks, G0 s.G4.Tolerance, G0 s.G4.Trim, G0 s.G4.List_, G0 s.G4.Stability]) (Gb Ja O O O) ?_
  refine JLg (LS 2 Gc.av s.Covers) (Gf Jn O O O) ?_
  refine JLg (.fn 90 [.dptr (Ship.cs s), .dptr [G0 column]]) (A_makeFunc (cs := [.dptr (Ship.cs s), .dptr [G0 column]]) O O) ?_
  obtain ⟨r6, hr6, h⟩ := Ge h
  refine JLg (LS 1 G0 r6) (Gr (args := [LS 2 Gc.av s.Covers, .fn 90 [.dptr (Ship.cs s), .dptr [G0 column]]]) O (M_ship_chosen_apiCover_w s.Covers (fun z0 => M_ship_CoverOf_1 z0 s column) 90 [.dptr (Ship.cs s), .dptr [G0 column]] tf_call_90 O (fun z0 q hq => M_ship_CoverOf_1_w z0 s column q hq) r6 hr6) tf_call_89 ⟨O, O, O, O, trivial⟩) ?_
  refine JLg (LS 1 G0 r6) (G9 O O) ?_
  refine G8 (hK5 _ _ ?_)
  refine G6 (fun K7 hK7 => ?_)
  refine G6 fun K8 hK8 => G2 ?_
  refine JLg (LS 1 G0 r6) (G7 O O) ?_
  refine H9 (f := G0) (xs := r6) H0 O O (fun hm20 => ?_) O O O
  refine JLg (BL (decide ((r6.length : Int) = 0))) (Hx O O O) ?_
  refine G8 (hK8 _ _ ?_)
  refine Gh O (fun hb => ?_) (fun hb => ?_)
  ·
   replace h := bif_t hb h
   refine G6 fun K9 hK9 => G2 ?_
   refine JLg (G0 (-1)) (G9 O O) ?_
   refine G8 (hK9 _ _ ?_)
   refine Gq ?_
   exact ⟨[G0 (-1)], [], trivial, O, ⟨⟨_, O, .conv (.same O)⟩, trivial⟩, O, congrArg (fun r : Int => (G0 r : AV)) (Option.some.inj h)⟩
  ·
   replace h := bif_f hb h
   refine Gj ?_
   refine hK7 _ _ ?_
   refine G6 fun K10 hK10 => G2 ?_
   refine JLg (LS 1 G0 r6) (G7 O O) ?_
   obtain ⟨m12, y11, hm12, hy11, h⟩ := Jq h
   refine JLg (.dptr [G0 y11]) (Gw (f := G0) (xs := r6) (y := y11) O O O H0 hy11 hm12) ?_
   refine JLg (G0 y11) (Gf Ga O O O) ?_
   refine JLg (G0 y11) (G9 O O) ?_
   refine G8 (hK10 _ _ ?_)
   refine Gq ?_
   exact ⟨[G0 y11], [], trivial, O, ⟨⟨_, O, .conv (.same O)⟩, trivial⟩, O, congrArg (fun r : Int => (G0 r : AV)) (Option.some.inj h)⟩

def M_slot_Over (a : Slot) (b : Slot) : Option Bool :=
 bnd (bif ((decide (a.G5 = b.G5)) && (decide (b.Tier < a.Tier))) then M_slot_shares a.Half b.Half else some default) fun r3 =>
 some (((decide (a.G5 = b.G5)) && (decide (b.Tier < a.Tier))) && r3)
theorem M_slot_Over_w (a : Slot) (b : Slot) (r : Bool) (h : M_slot_Over a b = some r) : Pure Tryz.prog 59 [.agg [G0 a.G5, G0 a.Tier, U8 a.Half], .agg [G0 b.G5, G0 b.Tier, U8 b.Half]] (· = BL r) := by
 unfold M_slot_Over at h
 refine Gx [.tmp 4] Tryz.func59 O O ?_
 refine G6 fun K1 hK1 => G2 ?_
 refine JLg (.ptr 1135 0) (J1 (u := .agg [G0 a.G5, G0 a.Tier, U8 a.Half]) (cs := [G0 a.G5, G0 a.Tier, U8 a.Half]) 1135 O O O O O) ?_
 refine JLg (.ptr 1136 0) (J1 (u := .agg [G0 b.G5, G0 b.Tier, U8 b.Half]) (cs := [G0 b.G5, G0 b.Tier, U8 b.Half]) 1136 O O O O O) ?_
 refine JLg (BL false) (G9 O O) ?_
 refine G8 (hK1 _ _ ?_)
 refine Gm [(2, .dptr [G0 a.G5, G0 a.Tier, U8 a.Half]), (3, .ptr 1136 0)] [(1136, .box 51 [G0 b.G5, G0 b.Tier, U8 b.Half])] 1135 rfl rfl rfl ⟨⟨_, rfl, .boxEq rfl rfl⟩, trivial⟩ rfl (by exact ⟨.ptr, .conv (.same rfl), trivial⟩) ?_
 refine Gm [(2, .dptr [G0 a.G5, G0 a.Tier, U8 a.Half]), (3, .dptr [G0 b.G5, G0 b.Tier, U8 b.Half])] [] 1136 rfl rfl rfl trivial rfl (by exact ⟨.conv (.same rfl), .ptr, trivial⟩) ?_
 refine G6 fun K2 hK2 => G2 ?_
 refine JLg (.dptr [G0 a.G5, G0 a.Tier, U8 a.Half]) (Gb Hh O O O) ?_
 refine JLg (G0 a.G5) (Gf Ga O O O) ?_
 refine JLg (.dptr [G0 b.G5, G0 b.Tier, U8 b.Half]) (Gb Hh O O O) ?_
 refine JLg (G0 b.G5) (Gf Ga O O O) ?_
 refine JLg (BL (decide (a.G5 = b.G5))) (Hx O O O) ?_
 refine JLg (BL (decide (a.G5 = b.G5))) (G7 O O) ?_
 refine Gd (u := .dptr [G0 a.Tier, U8 a.Half]) [] O O O .sct trivial (fun hc => Gb Hz O O O) ?_
 refine Gd (u := G0 a.Tier) [(11, .dptr [G0 a.Tier, U8 a.Half])] O O O .sct ⟨.all id, trivial⟩ (fun hc => Gf Ga O O O) ?_
 refine Gd (u := .dptr [G0 b.Tier, U8 b.Half]) [] O O O .sct trivial (fun hc => Gb Hz O O O) ?_
 refine Gd (u := G0 b.Tier) [(13, .dptr [G0 b.Tier, U8 b.Half])] O O O .sct ⟨.all id, trivial⟩ (fun hc => Gf Ga O O O) ?_
 refine Gd (u := BL (decide (b.Tier < a.Tier))) [(12, G0 a.Tier), (14, G0 b.Tier)] O O O .sct ⟨.all id, .all id, trivial⟩ (fun hc => A_gtr O O O) ?_
 refine JLg (BL ((decide (a.G5 = b.G5)) && (decide (b.Tier < a.Tier)))) (J2 O O O O) ?_
 refine JLg (BL ((decide (a.G5 = b.G5)) && (decide (b.Tier < a.Tier)))) (G7 O O) ?_
 refine Gd (u := .dptr [U8 a.Half]) [] O O O .sct trivial (fun hc => Gb Jg O O O) ?_
 refine Gd (u := U8 a.Half) [(18, .dptr [U8 a.Half])] O O O .sct ⟨.all id, trivial⟩ (fun hc => Gf H7 O O O) ?_
 refine Gd (u := .dptr [U8 b.Half]) [] O O O .sct trivial (fun hc => Gb Jg O O O) ?_
 refine Gd (u := U8 b.Half) [(20, .dptr [U8 b.Half])] O O O .sct ⟨.all id, trivial⟩ (fun hc => Gf H7 O O O) ?_
 obtain ⟨r3, hr3, h⟩ := Ge h
 refine Gd (u := BL r3) [(19, U8 a.Half), (21, U8 b.Half)] O O O .sct ⟨.all id, .all id, trivial⟩ (fun hc => Gr (args := [U8 a.Half, U8 b.Half]) O (M_slot_shares_w a.Half b.Half r3 (bif_t hc hr3)) tf_call_74 ⟨O, O, O, O, trivial⟩) ?_
 refine JLg (BL (((decide (a.G5 = b.G5)) && (decide (b.Tier < a.Tier))) && r3)) (J2 O O O O) ?_
 refine JLg (BL (((decide (a.G5 = b.G5)) && (decide (b.Tier < a.Tier))) && r3)) (G9 O O) ?_
 refine G8 (hK2 _ _ ?_)
 refine Gq ?_
 exact ⟨[BL (((decide (a.G5 = b.G5)) && (decide (b.Tier < a.Tier))) && r3)], [], trivial, O, ⟨⟨_, O, .conv (.same O)⟩, trivial⟩, O, congrArg (fun r : Bool => (BL r : AV)) (Option.some.inj h)⟩

def M_plan_set_int_add (m : AMap Int Unit) (k : Int) : Option (Bool × (AMap Int Unit)) :=
 bif (AMap.has m k) then
 (some (false, m))
 else
 (some (true, (AMap.put m k ())))
theorem M_plan_set_int_add_m400000022 (m : AMap Int Unit) (k : Int) (r : Bool × (AMap Int Unit)) (h : M_plan_set_int_add m k = some r) : ACalls Tryz.prog 56 [.mp 1101, G0 k] [(1101, MP 140 (fun n : Int => Value.int .i64 n) (fun _ : Unit => .agg []) m)] (fun av L' => av = BL r.1 ∧ L' = [(1101, MP 140 (fun n : Int => Value.int .i64 n) (fun _ : Unit => .agg []) r.2)]) := by
 unfold M_plan_set_int_add at h
 refine Hy [1101] [.tmp 4] Tryz.func56 O O (inAll O) ?_
 refine G6 fun K1 hK1 => G2 ?_
 refine JLg (BL false) (G9 O O) ?_
 refine G8 (hK1 _ _ ?_)
 refine G6 (fun K2 hK2 => ?_)
 refine G6 fun K3 hK3 => G2 ?_
 refine JLg (.mp 1101) (G7 O O) ?_
 refine JLg (G0 k) (G7 O O) ?_
 refine JLg (.tup [.agg [], BL (AMap.has m k)]) (A_lookupM1 (av := (fun _ : Unit => .agg [])) (m := m) (a := k) () (.agg #[]) O O O O tk_3 tf_map_140 tf_zv_171 O) ?_
 refine JLg (.tup [.agg [], BL (AMap.has m k)]) (G7 O O) ?_
 refine JLg (.agg []) (Gv O O O) ?_
 refine JLg (BL (AMap.has m k)) (Gv O O O) ?_
 refine JLg (.ptr 1130 0) (H2 1130 0 tf_zsize_171 O O) ?_
 refine H1 (u := .junk) (A_store0 (u := .agg []) tf_size_171 O O O O O O) ?_
 refine JLg (BL (AMap.has m k)) (G9 O O) ?_
 refine G8 (hK3 _ _ ?_)
 refine Gm [(0, .mp 1101), (1, G0 k), (6, BL (AMap.has m k))] [(1101, MP 140 (fun n : Int => Value.int .i64 n) (fun _ : Unit => .agg []) m)] 1130 rfl rfl rfl ⟨⟨_, rfl, .map⟩, trivial⟩ rfl (by exact ⟨.conv (.same rfl), .conv (.same rfl), .conv (.same rfl), trivial⟩) ?_
 refine G6 fun K5 hK5 => G2 ?_
 refine JLg (BL (AMap.has m k)) (G7 O O) ?_
 refine G8 (hK5 _ _ ?_)
 refine Gh O (fun hb => ?_) (fun hb => ?_)
 ·
  replace h := bif_t hb h
  refine G6 fun K6 hK6 => G2 ?_
  refine JLg (BL false) (G9 O O) ?_
  refine G8 (hK6 _ _ ?_)
  refine Gq ?_
  obtain rfl := Option.some.inj h
  exact ⟨[BL false], [(1101, MP 140 (fun n : Int => Value.int .i64 n) (fun _ : Unit => .agg []) m)], ⟨⟨_, O, .map⟩, trivial⟩, O, ⟨⟨_, O, .conv (.same O)⟩, trivial⟩, O, O⟩
 ·
  replace h := bif_f hb h
  refine Gj ?_
  refine hK2 _ _ ?_
  refine G6 fun K7 hK7 => G2 ?_
  refine JLg (.mp 1101) (G7 O O) ?_
  refine JLg (G0 k) (G7 O O) ?_
  refine JLg (.agg []) (H8 (cs := []) [] [] [] tf_places_171 tf_zero_171 trivial O O) ?_
  refine H1 (u := .junk) (A_mapUpdateM (m := m) (a := k) (v := ()) O O O O O O tk_3 tf_map_140) ?_
  refine G8 (hK7 _ _ ?_)
  refine G6 fun K8 hK8 => G2 ?_
  refine JLg (BL true) (G9 O O) ?_
  refine G8 (hK8 _ _ ?_)
  refine Gq ?_
  obtain rfl := Option.some.inj h
  exact ⟨[BL true], [(1101, MP 140 (fun n : Int => Value.int .i64 n) (fun _ : Unit => .agg []) (AMap.put m k ()))], ⟨⟨_, O, .map⟩, trivial⟩, O, ⟨⟨_, O, .conv (.same O)⟩, trivial⟩, O, O⟩

def B_plan_lifted_1 (self_ : Int → (AMap Int Unit) → (List Int) → (List (List G3)) → Ship → Option ((AMap Int Unit) × (List Int))) (F : Nat) (id_ : Int) (p1 : AMap Int Unit) (p2 : List Int) (p3 : List (List G3)) (p4 : Ship) : Option ((AMap Int Unit) × (List Int)) :=
 bnd (M_plan_set_int_add p1 id_) fun r3 =>
 bif (!r3.1) then
 (some (r3.2, p2))
 else
 (need (decide ((p2.length + [id_].length) * 8 ≤ 140737488355328 ∧ p2.length + [id_].length ≤ maxLen)) <|
  each (fun y7 i7 (s7 : (AMap Int Unit) × (List Int)) nx7 =>
   jp (fun kj10 =>
    bnd (M_plan_find y7 id_) fun r13 =>
    bif (!r13.2) then
    (kj10 (s7.1, s7.2))
    else
    (jp (fun kj17 =>
      gidx p4.Columns r13.1.G5 fun y19 =>
      bif (!y19.Deck) then
      (bnd (M_ship_CoverOf p4 r13.1.G5) fun r21 =>
       kj17 r21)
      else
      (kj17 (-1))) fun (j17 : Int) =>
     each (fun y56 i56 (s56 : (AMap Int Unit) × (List Int)) nx56 =>
      jp (fun kj59 =>
       bnd (M_slot_Over y56.Slot r13.1) fun r62 =>
       bif r62 then
       (bnd (self_ y56.Box s56.1 s56.2 p3 p4) fun r63 =>
        kj59 (r63.1, r63.2))
       else
       (kj59 (s56.1, s56.2))) fun (j59 : (AMap Int Unit) × (List Int)) =>
      nx56 (j59.1, j59.2))
     (fun (s56 : (AMap Int Unit) × (List Int)) =>
      each (fun y65 i65 (s65 : (AMap Int Unit) × (List Int)) nx65 =>
       each (fun y107 i107 (s107 : (AMap Int Unit) × (List Int)) nx107 =>
        jp (fun kj110 =>
         bnd (bif decide (0 ≤ j17) then gidx p4.Columns y107.Slot.G5 some else some default) fun y113 =>
         bnd (bif ((decide (0 ≤ j17)) && y113.Deck) then M_ship_CoverOf p4 y107.Slot.G5 else some default) fun r114 =>
         bif (((decide (0 ≤ j17)) && y113.Deck) && (decide (r114 = j17))) then
         (bnd (self_ y107.Box s107.1 s107.2 p3 p4) fun r115 =>
          kj110 (r115.1, r115.2))
         else
         (kj110 (s107.1, s107.2))) fun (j110 : (AMap Int Unit) × (List Int)) =>
        nx107 (j110.1, j110.2))
       (fun (s107 : (AMap Int Unit) × (List Int)) =>
        nx65 (s107.1, s107.2)) y65 0 (s65.1, s65.2))
      (fun (s65 : (AMap Int Unit) × (List Int)) =>
       kj10 (s65.1, s65.2)) p3 0 (s56.1, s56.2)) y7 0 (s7.1, s7.2))) fun (j10 : (AMap Int Unit) × (List Int)) =>
   nx7 (j10.1, j10.2))
  (fun (s7 : (AMap Int Unit) × (List Int)) =>
   some (s7.1, s7.2)) p3 0 (r3.2, (p2 ++ [id_])))
def M_plan_lifted_1 : Nat → Int → (AMap Int Unit) → (List Int) → (List (List G3)) → Ship → Option ((AMap Int Unit) × (List Int))
 | 0, _, _, _, _, _ => none
 | F + 1, id_, p1, p2, p3, p4 => B_plan_lifted_1 (M_plan_lifted_1 F) F id_ p1 p2 p3 p4
theorem B_plan_lifted_1_w (self_ : Int → (AMap Int Unit) → (List Int) → (List (List G3)) → Ship → Option ((AMap Int Unit) × (List Int))) (self_w : ∀ (id_ : Int) (p1 : AMap Int Unit) (p2 : List Int) (p3 : List (List G3)) (p4 : Ship) (r : (AMap Int Unit) × (List Int)), self_ id_ p1 p2 p3 p4 = some r → ACalls Tryz.prog 55 [G0 id_, .ptr 1095 0, .ptr 1096 0, .dptr [LS 1 (LS 4 G3.av) p3], .dptr (Ship.cs p4), .ptr 1097 0] [(1095, .box 140 [.mp 1101]), (1101, MP 140 (fun n : Int => Value.int .i64 n) (fun _ : Unit => .agg []) p1), (1096, .box 54 [.vec 1102 p2.length 1 p2.length]), (1102, .vec 3 1 p2.length (p2.map G0)), (1097, .box 141 [.fn 55 [.ptr 1095 0, .ptr 1096 0, .dptr [LS 1 (LS 4 G3.av) p3], .dptr (Ship.cs p4), .ptr 1097 0]])] (fun av L' => av = .tup [] ∧ L' = [(1095, .box 140 [.mp 1101]), (1101, MP 140 (fun n : Int => Value.int .i64 n) (fun _ : Unit => .agg []) r.1), (1096, .box 54 [.vec 1102 r.2.length 1 r.2.length]), (1102, .vec 3 1 r.2.length (r.2.map G0)), (1097, .box 141 [.fn 55 [.ptr 1095 0, .ptr 1096 0, .dptr [LS 1 (LS 4 G3.av) p3], .dptr (Ship.cs p4), .ptr 1097 0]])])) (F : Nat) (id_ : Int) (p1 : AMap Int Unit) (p2 : List Int) (p3 : List (List G3)) (p4 : Ship) (r : (AMap Int Unit) × (List Int)) (h : B_plan_lifted_1 self_ F id_ p1 p2 p3 p4 = some r) : ACalls Tryz.prog 55 [G0 id_, .ptr 1095 0, .ptr 1096 0, .dptr [LS 1 (LS 4 G3.av) p3], .dptr (Ship.cs p4), .ptr 1097 0] [(1095, .box 140 [.mp 1101]), (1101, MP 140 (fun n : Int => Value.int .i64 n) (fun _ : Unit => .agg []) p1), (1096, .box 54 [.vec 1102 p2.length 1 p2.length]), (1102, .vec 3 1 p2.length (p2.map G0)), (1097, .box 141 [.fn 55 [.ptr 1095 0, .ptr 1096 0, .dptr [LS 1 (LS 4 G3.av) p3], .dptr (Ship.cs p4), .ptr 1097 0]])] (fun av L' => av = .tup [] ∧ L' = [(1095, .box 140 [.mp 1101]), (1101, MP 140 (fun n : Int => Value.int .i64 n) (fun _ : Unit => .agg []) r.1), (1096, .box 54 [.vec 1102 r.2.length 1 r.2.length]), (1102, .vec 3 1 r.2.length (r.2.map G0)), (1097, .box 141 [.fn 55 [.ptr 1095 0, .ptr 1096 0, .dptr [LS 1 (LS 4 G3.av) p3], .dptr (Ship.cs p4), .ptr 1097 0]])]) := by
 unfold B_plan_lifted_1 at h
 refine Hy [1095, 1101, 1096, 1102, 1097] [] Tryz.func55 O O (inAll O) ?_
 refine G6 (fun K1 hK1 => ?_)
 refine G6 fun K2 hK2 => G2 ?_
 refine JLg (.mp 1101) (Ht tf_scalar_140 O O O O) ?_
 refine JLg (G0 id_) (G7 O O) ?_
 obtain ⟨r3, hr3, h⟩ := Ge h
 refine JLg (BL r3.1) (Q9 (args := [.mp 1101, G0 id_]) (L0 := [(1101, MP 140 (fun n : Int => Value.int .i64 n) (fun _ : Unit => .agg []) p1)]) (Lr := [(1101, MP 140 (fun n : Int => Value.int .i64 n) (fun _ : Unit => .agg []) r3.2)]) O (M_plan_set_int_add_m400000022 p1 id_ r3 hr3) tf_call_56 ⟨.inl O, O, .inl O, O, trivial⟩ ⟨O, trivial⟩ O O O) ?_
 refine JLg (BL (!r3.1)) (A_not (b := r3.1) O O) ?_
 refine G8 (hK2 _ _ ?_)
 refine Gh O (fun hb => ?_) (fun hb => ?_)
 ·
  replace h := bif_t hb h
  refine Gq ?_
  obtain rfl := Option.some.inj h
  exact ⟨[], [(1095, .box 140 [.mp 1101]), (1101, MP 140 (fun n : Int => Value.int .i64 n) (fun _ : Unit => .agg []) r3.2), (1096, .box 54 [.vec 1102 p2.length 1 p2.length]), (1102, .vec 3 1 p2.length (p2.map G0)), (1097, .box 141 [.fn 55 [.ptr 1095 0, .ptr 1096 0, .dptr [LS 1 (LS 4 G3.av) p3], .dptr (Ship.cs p4), .ptr 1097 0]])], ⟨⟨_, O, .boxL O ⟨.same O, trivial⟩⟩, ⟨_, O, .map⟩, ⟨_, O, .boxL O ⟨.same O, trivial⟩⟩, ⟨_, O, .vec⟩, ⟨_, O, .boxL O ⟨.same O, trivial⟩⟩, trivial⟩, O, trivial, O, O⟩
 ·
  replace h := bif_f hb h
  refine Gj ?_
  refine hK1 _ _ ?_
  refine G6 fun K4 hK4 => G2 ?_
  refine JLg (.vec 1102 p2.length 1 p2.length) (Ht Jt O O O O) ?_
  refine JLg (G0 id_) (G7 O O) ?_
  refine JLg (LS 1 G0 [id_]) (Gu (xs := [G0 id_]) O ⟨O, O, trivial⟩ H0 Jr O O O O) ?_
  obtain ⟨ha5, h⟩ := Hq h
  refine JLg (.vec 1102 ((p2 ++ [id_]).length) 1 ((p2 ++ [id_]).length)) (A_vappendM (f := G0) (xs := p2) (ys := [id_]) (ver := p2.length) (ver1 := (p2 ++ [id_]).length) rfl rfl rfl rfl H0 tf_elem_3 ha5 (fun _ => rfl) (.inl rfl) (by simp)) ?_
  refine H1 (u := .junk) (Gt (u := .vec 1102 ((p2 ++ [id_]).length) 1 ((p2 ++ [id_]).length)) (ds := [.vec 1102 ((p2 ++ [id_]).length) 1 ((p2 ++ [id_]).length)]) tf_size_54 O O O O O O O O) ?_
  refine G8 (hK4 _ _ ?_)
  refine G6 fun K6 hK6 => G2 ?_
  refine JLg (LS 1 (LS 4 G3.av) p3) (Gf Q6 O O O) ?_
  refine H9 (f := (LS 4 G3.av)) (xs := p3) Hu O O (fun hm27 => ?_) O O O
  refine JLg (G0 0) (G7 O O) ?_
  refine G8 (hK6 _ _ ?_)
  refine Gi ?_
  obtain ⟨b7, kx7, hb7, hkx7, h⟩ := Hi h
  refine Gz (fun i7 (s7 : (AMap Int Unit) × (List Int)) => each b7 kx7 (List.drop i7 p3) i7 s7 = some r) (fun i7 s7 => [(0, G0 id_), (3, .dptr [LS 1 (LS 4 G3.av) p3]), (4, .dptr (Ship.cs p4)), (5, .ptr 1097 0), (26, LS 1 (LS 4 G3.av) p3), (27, G0 (p3.length : Int)), (28, G0 (i7 : Int))]) (fun i7 s7 => [(1101, MP 140 (fun n : Int => Value.int .i64 n) (fun _ : Unit => .agg []) s7.1), (1102, .vec 3 1 s7.2.length (s7.2.map G0)), (1095, .box 140 [.mp 1101]), (1096, .box 54 [.vec 1102 s7.2.length 1 s7.2.length]), (1097, .box 141 [.fn 55 [.ptr 1095 0, .ptr 1096 0, .dptr [LS 1 (LS 4 G3.av) p3], .dptr (Ship.cs p4), .ptr 1097 0]])]) (fun i7 => p3.length - i7) 0 (r3.2, (p2 ++ [id_])) h ⟨(by repeat' constructor), ⟨⟨_, rfl, .map⟩, ⟨_, rfl, .vec⟩, ⟨_, rfl, .boxL rfl ⟨.same rfl, trivial⟩⟩, ⟨_, rfl, .boxL rfl ⟨.same rfl, trivial⟩⟩, ⟨_, rfl, .boxL rfl ⟨.same rfl, trivial⟩⟩, trivial⟩, rfl⟩ ?_
  clear h
  intro i7 s7 hi7 K7 e7
  refine G6 fun K8 hK8 => G2 ?_
  refine JLg (BL (decide ((i7 : Int) < (p3.length : Int)))) (He O O O) ?_
  refine G8 (hK8 _ _ ?_)
  refine G6 (fun K9 hK9 => ?_)
  refine Gh O (fun hb => ?_) (fun hb => ?_)
  ·
   have hk7 := lt_len hb
   obtain ⟨y7, nx7, hy7, hn7, h⟩ := Ha hi7 hk7
   replace h := app4 hb7 h
   refine Gj ?_
   refine hK9 _ _ ?_
   obtain ⟨kj10, hkj10, h⟩ := J6 h
   refine Hs (fun j10 : (AMap Int Unit) × (List Int) => kj10 j10 = some r) (fun j10 => [(0, G0 id_), (3, .dptr [LS 1 (LS 4 G3.av) p3]), (4, .dptr (Ship.cs p4)), (5, .ptr 1097 0), (26, LS 1 (LS 4 G3.av) p3), (27, G0 (p3.length : Int)), (28, G0 (i7 : Int))]) (fun j10 => [(1101, MP 140 (fun n : Int => Value.int .i64 n) (fun _ : Unit => .agg []) j10.1), (1102, .vec 3 1 j10.2.length (j10.2.map G0)), (1095, .box 140 [.mp 1101]), (1096, .box 54 [.vec 1102 j10.2.length 1 j10.2.length]), (1097, .box 141 [.fn 55 [.ptr 1095 0, .ptr 1096 0, .dptr [LS 1 (LS 4 G3.av) p3], .dptr (Ship.cs p4), .ptr 1097 0]])]) (fun Kj10 ej10 => ?_) ?_
   ·
    refine Gi ?_
    refine G6 fun K11 hK11 => G2 ?_
    refine JLg (.dptr [LS 4 G3.av y7]) (Gw (f := (LS 4 G3.av)) (xs := p3) (y := y7) O O O Hu hy7 O) ?_
    refine JLg (LS 4 G3.av y7) (Gf tf_scalar_69 O O O) ?_
    refine JLg (LS 4 G3.av y7) (G9 O O) ?_
    refine G8 (hK11 _ _ ?_)
    refine G6 fun K12 hK12 => G2 ?_
    refine JLg (LS 4 G3.av y7) (G7 O O) ?_
    refine JLg (G0 id_) (G7 O O) ?_
    obtain ⟨r13, hr13, h⟩ := Ge h
    refine JLg (.tup [.agg (Slot.cs r13.1), BL r13.2]) (Gr (args := [LS 4 G3.av y7, G0 id_]) O (M_plan_find_w y7 id_ r13 hr13) tf_call_57 ⟨O, O, O, O, trivial⟩) ?_
    refine JLg (.tup [.agg (Slot.cs r13.1), BL r13.2]) (G7 O O) ?_
    refine JLg (.agg (Slot.cs r13.1)) (Gv O O O) ?_
    refine JLg (BL r13.2) (Gv O O O) ?_
    refine JLg (.ptr 1127 0) (H2 1127 3 Q5 O O) ?_
    refine H1 (u := .junk) (Gt (u := .agg (Slot.cs r13.1)) (ds := [G0 r13.1.G5, G0 r13.1.Tier, U8 r13.1.Half]) tf_size_51 O O O O O O O O) ?_
    refine JLg (BL r13.2) (G9 O O) ?_
    refine G8 (hK12 _ _ ?_)
    refine Gm [(0, G0 id_), (3, .dptr [LS 1 (LS 4 G3.av) p3]), (4, .dptr (Ship.cs p4)), (5, .ptr 1097 0), (8, LS 4 G3.av y7), (9, .dptr (Slot.cs r13.1)), (10, BL r13.2), (26, LS 1 (LS 4 G3.av) p3), (27, G0 (p3.length : Int)), (28, G0 (i7 : Int))] [(1101, MP 140 (fun n : Int => Value.int .i64 n) (fun _ : Unit => .agg []) s7.1), (1102, .vec 3 1 s7.2.length (s7.2.map G0)), (1095, .box 140 [.mp 1101]), (1096, .box 54 [.vec 1102 s7.2.length 1 s7.2.length]), (1097, .box 141 [.fn 55 [.ptr 1095 0, .ptr 1096 0, .dptr [LS 1 (LS 4 G3.av) p3], .dptr (Ship.cs p4), .ptr 1097 0]])] 1127 rfl rfl rfl ⟨⟨_, rfl, .map⟩, ⟨_, rfl, .vec⟩, ⟨_, rfl, .boxEq rfl rfl⟩, ⟨_, rfl, .boxEq rfl rfl⟩, ⟨_, rfl, .boxEq rfl rfl⟩, trivial⟩ rfl (by repeat' (first | exact .ptr | constructor)) ?_
    refine G6 (fun K14 hK14 => ?_)
    refine G6 fun K15 hK15 => G2 ?_
    refine JLg (BL r13.2) (G7 O O) ?_
    refine JLg (BL (!r13.2)) (A_not (b := r13.2) O O) ?_
    refine G8 (hK15 _ _ ?_)
    refine Gh O (fun hb => ?_) (fun hb => ?_)
    ·
     replace h := bif_t hb h
     refine H4 ?_
     exact ej10 _ _ (s7.1, s7.2) h ⟨(by repeat' constructor), ⟨⟨_, rfl, .map⟩, ⟨_, rfl, .vec⟩, ⟨_, rfl, .boxL rfl ⟨.same rfl, trivial⟩⟩, ⟨_, rfl, .boxL rfl ⟨.same rfl, trivial⟩⟩, ⟨_, rfl, .boxL rfl ⟨.same rfl, trivial⟩⟩, trivial⟩, rfl⟩
    ·
     replace h := bif_f hb h
     refine Gj ?_
     refine hK14 _ _ ?_
     refine G6 fun K16 hK16 => G2 ?_
     refine JLg (G0 (-1)) (G9 O O) ?_
     refine G8 (hK16 _ _ ?_)
     obtain ⟨kj17, hkj17, h⟩ := J6 h
     refine Hs (fun j17 : Int => kj17 j17 = some r) (fun j17 => [(0, G0 id_), (3, .dptr [LS 1 (LS 4 G3.av) p3]), (4, .dptr (Ship.cs p4)), (5, .ptr 1097 0), (8, LS 4 G3.av y7), (9, .dptr (Slot.cs r13.1)), (11, G0 j17), (26, LS 1 (LS 4 G3.av) p3), (27, G0 (p3.length : Int)), (28, G0 (i7 : Int))]) (fun j17 => [(1101, MP 140 (fun n : Int => Value.int .i64 n) (fun _ : Unit => .agg []) s7.1), (1102, .vec 3 1 s7.2.length (s7.2.map G0)), (1095, .box 140 [.mp 1101]), (1096, .box 54 [.vec 1102 s7.2.length 1 s7.2.length]), (1097, .box 141 [.fn 55 [.ptr 1095 0, .ptr 1096 0, .dptr [LS 1 (LS 4 G3.av) p3], .dptr (Ship.cs p4), .ptr 1097 0]])]) (fun Kj17 ej17 => ?_) ?_
     ·
      refine G6 fun K18 hK18 => G2 ?_
      refine JLg (.dptr (Ship.cs p4)) (Gb Hc O O O) ?_
      refine JLg (LS 12 G5.av p4.Columns) (Gf Hj O O O) ?_
      refine JLg (.dptr (Slot.cs r13.1)) (Gb Hh O O O) ?_
      refine JLg (G0 r13.1.G5) (Gf Ga O O O) ?_
      obtain ⟨m20, y19, hm20, hy19, h⟩ := Jq h
      refine JLg (.dptr (G5.cs y19)) (Gw (f := G5.av) (xs := p4.Columns) (y := y19) O O O Hf hy19 hm20) ?_
      refine JLg (.dptr ((G5.cs y19).drop 2)) (Gb Jw O O O) ?_
      refine JLg (BL y19.Deck) (Gf J9 O O O) ?_
      refine JLg (BL (!y19.Deck)) (A_not (b := y19.Deck) O O) ?_
      refine G8 (hK18 _ _ ?_)
      refine Gh O (fun hb => ?_) (fun hb => ?_)
      ·
       replace h := bif_t hb h
       refine G2 ?_
       refine JLg (.agg (Ship.cs p4)) (Gg H5 O O O) ?_
       refine JLg (.dptr (Slot.cs r13.1)) (Gb Hh O O O) ?_
       refine JLg (G0 r13.1.G5) (Gf Ga O O O) ?_
       obtain ⟨r21, hr21, h⟩ := Ge h
       refine JLg (G0 r21) (Gr (args := [.agg (Ship.cs p4), G0 r13.1.G5]) O (M_ship_CoverOf_w p4 r13.1.G5 r21 hr21) tf_call_58 ⟨O, O, O, O, trivial⟩) ?_
       refine JLg (G0 r21) (G9 O O) ?_
       refine G8 ?_
       exact ej17 _ _ r21 h ⟨(by repeat' constructor), ⟨⟨_, rfl, .map⟩, ⟨_, rfl, .vec⟩, ⟨_, rfl, .boxL rfl ⟨.same rfl, trivial⟩⟩, ⟨_, rfl, .boxL rfl ⟨.same rfl, trivial⟩⟩, ⟨_, rfl, .boxL rfl ⟨.same rfl, trivial⟩⟩, trivial⟩, rfl⟩
      ·
       replace h := bif_f hb h
       refine Gj ?_
       exact ej17 _ _ (-1) h ⟨(by repeat' constructor), ⟨⟨_, rfl, .map⟩, ⟨_, rfl, .vec⟩, ⟨_, rfl, .boxL rfl ⟨.same rfl, trivial⟩⟩, ⟨_, rfl, .boxL rfl ⟨.same rfl, trivial⟩⟩, ⟨_, rfl, .boxL rfl ⟨.same rfl, trivial⟩⟩, trivial⟩, rfl⟩
     ·intro j17 h
      replace h := app1 hkj17 h
      refine G6 (fun K22 hK22 => ?_)
      refine G6 fun K23 hK23 => G2 ?_
      refine JLg (LS 4 G3.av y7) (G7 O O) ?_
      refine H9 (f := G3.av) (xs := y7) Gs O O (fun hm53 => ?_) O O O
      refine JLg (G0 0) (G7 O O) ?_
      refine G8 (hK23 _ _ ?_)
      refine Gi ?_
      obtain ⟨b56, kx56, hb56, hkx56, h⟩ := Hi h
      refine Gz (fun i56 (s56 : (AMap Int Unit) × (List Int)) => each b56 kx56 (List.drop i56 y7) i56 s56 = some r) (fun i56 s56 => [(0, G0 id_), (3, .dptr [LS 1 (LS 4 G3.av) p3]), (4, .dptr (Ship.cs p4)), (5, .ptr 1097 0), (9, .dptr (Slot.cs r13.1)), (11, G0 j17), (26, LS 1 (LS 4 G3.av) p3), (27, G0 (p3.length : Int)), (28, G0 (i7 : Int)), (52, LS 4 G3.av y7), (53, G0 (y7.length : Int)), (54, G0 (i56 : Int))]) (fun i56 s56 => [(1101, MP 140 (fun n : Int => Value.int .i64 n) (fun _ : Unit => .agg []) s56.1), (1102, .vec 3 1 s56.2.length (s56.2.map G0)), (1095, .box 140 [.mp 1101]), (1096, .box 54 [.vec 1102 s56.2.length 1 s56.2.length]), (1097, .box 141 [.fn 55 [.ptr 1095 0, .ptr 1096 0, .dptr [LS 1 (LS 4 G3.av) p3], .dptr (Ship.cs p4), .ptr 1097 0]])]) (fun i56 => y7.length - i56) 0 (s7.1, s7.2) h ⟨(by repeat' constructor), ⟨⟨_, rfl, .map⟩, ⟨_, rfl, .vec⟩, ⟨_, rfl, .boxL rfl ⟨.same rfl, trivial⟩⟩, ⟨_, rfl, .boxL rfl ⟨.same rfl, trivial⟩⟩, ⟨_, rfl, .boxL rfl ⟨.same rfl, trivial⟩⟩, trivial⟩, rfl⟩ ?_
      clear h
      intro i56 s56 hi56 K56 e56
      refine G6 fun K57 hK57 => G2 ?_
      refine JLg (BL (decide ((i56 : Int) < (y7.length : Int)))) (He O O O) ?_
      refine G8 (hK57 _ _ ?_)
      refine G6 (fun K58 hK58 => ?_)
      refine Gh O (fun hb => ?_) (fun hb => ?_)
      ·
       have hk56 := lt_len hb
       obtain ⟨y56, nx56, hy56, hn56, h⟩ := Ha hi56 hk56
       replace h := app4 hb56 h
       refine Gj ?_
       refine hK58 _ _ ?_
       obtain ⟨kj59, hkj59, h⟩ := J6 h
       refine Hs (fun j59 : (AMap Int Unit) × (List Int) => kj59 j59 = some r) (fun j59 => [(0, G0 id_), (3, .dptr [LS 1 (LS 4 G3.av) p3]), (4, .dptr (Ship.cs p4)), (5, .ptr 1097 0), (9, .dptr (Slot.cs r13.1)), (11, G0 j17), (26, LS 1 (LS 4 G3.av) p3), (27, G0 (p3.length : Int)), (28, G0 (i7 : Int)), (52, LS 4 G3.av y7), (53, G0 (y7.length : Int)), (54, G0 (i56 : Int))]) (fun j59 => [(1101, MP 140 (fun n : Int => Value.int .i64 n) (fun _ : Unit => .agg []) j59.1), (1102, .vec 3 1 j59.2.length (j59.2.map G0)), (1095, .box 140 [.mp 1101]), (1096, .box 54 [.vec 1102 j59.2.length 1 j59.2.length]), (1097, .box 141 [.fn 55 [.ptr 1095 0, .ptr 1096 0, .dptr [LS 1 (LS 4 G3.av) p3], .dptr (Ship.cs p4), .ptr 1097 0]])]) (fun Kj59 ej59 => ?_) ?_
       ·
        refine Gi ?_
        refine G6 fun K60 hK60 => G2 ?_
        refine JLg (.dptr (G3.cs y56)) (Gw (f := G3.av) (xs := y7) (y := y56) O O O Gs hy56 O) ?_
        refine JLg (.agg (G3.cs y56)) (Gg Hp O O O) ?_
        refine JLg (.ptr 1128 0) (H2 1128 4 Hk O O) ?_
        refine H1 (u := .junk) (Gt (u := .agg (G3.cs y56)) (ds := [G0 y56.Box, G0 y56.Slot.G5, G0 y56.Slot.Tier, U8 y56.Slot.Half]) J3 O O O O O O O O) ?_
        refine G8 (hK60 _ _ ?_)
        refine Gm [(0, G0 id_), (3, .dptr [LS 1 (LS 4 G3.av) p3]), (4, .dptr (Ship.cs p4)), (5, .ptr 1097 0), (9, .dptr (Slot.cs r13.1)), (11, G0 j17), (13, .dptr (G3.cs y56)), (26, LS 1 (LS 4 G3.av) p3), (27, G0 (p3.length : Int)), (28, G0 (i7 : Int)), (52, LS 4 G3.av y7), (53, G0 (y7.length : Int)), (54, G0 (i56 : Int))] [(1101, MP 140 (fun n : Int => Value.int .i64 n) (fun _ : Unit => .agg []) s56.1), (1102, .vec 3 1 s56.2.length (s56.2.map G0)), (1095, .box 140 [.mp 1101]), (1096, .box 54 [.vec 1102 s56.2.length 1 s56.2.length]), (1097, .box 141 [.fn 55 [.ptr 1095 0, .ptr 1096 0, .dptr [LS 1 (LS 4 G3.av) p3], .dptr (Ship.cs p4), .ptr 1097 0]])] 1128 rfl rfl rfl ⟨⟨_, rfl, .map⟩, ⟨_, rfl, .vec⟩, ⟨_, rfl, .boxEq rfl rfl⟩, ⟨_, rfl, .boxEq rfl rfl⟩, ⟨_, rfl, .boxEq rfl rfl⟩, trivial⟩ rfl (by repeat' (first | exact .ptr | constructor)) ?_
        refine G6 fun K61 hK61 => G2 ?_
        refine JLg (.dptr (Slot.cs y56.Slot)) (Gb Hg O O O) ?_
        refine JLg (.agg (Slot.cs y56.Slot)) (Gg Hr O O O) ?_
        refine JLg (.agg (Slot.cs r13.1)) (Gg Hr O O O) ?_
        obtain ⟨r62, hr62, h⟩ := Ge h
        refine JLg (BL r62) (Gr (args := [.agg (Slot.cs y56.Slot), .agg (Slot.cs r13.1)]) O (M_slot_Over_w y56.Slot r13.1 r62 hr62) tf_call_59 ⟨O, O, O, O, trivial⟩) ?_
        refine G8 (hK61 _ _ ?_)
        refine Gh O (fun hb => ?_) (fun hb => ?_)
        ·
         replace h := bif_t hb h
         refine G2 ?_
         refine JLg (.fn 55 [.ptr 1095 0, .ptr 1096 0, .dptr [LS 1 (LS 4 G3.av) p3], .dptr (Ship.cs p4), .ptr 1097 0]) (Ht tf_scalar_141 O O O O) ?_
         refine JLg (.dptr (G3.cs y56)) (Gb Hn O O O) ?_
         refine JLg (G0 y56.Box) (Gf Ga O O O) ?_
         obtain ⟨r63, hr63, h⟩ := Ge h
         refine JLg (.tup []) (A_callVL (args := [G0 y56.Box]) (caps := [.ptr 1095 0, .ptr 1096 0, .dptr [LS 1 (LS 4 G3.av) p3], .dptr (Ship.cs p4), .ptr 1097 0]) (L0 := [(1095, .box 140 [.mp 1101]), (1101, MP 140 (fun n : Int => Value.int .i64 n) (fun _ : Unit => .agg []) s56.1), (1096, .box 54 [.vec 1102 s56.2.length 1 s56.2.length]), (1102, .vec 3 1 s56.2.length (s56.2.map G0)), (1097, .box 141 [.fn 55 [.ptr 1095 0, .ptr 1096 0, .dptr [LS 1 (LS 4 G3.av) p3], .dptr (Ship.cs p4), .ptr 1097 0]])]) (Lr := [(1095, .box 140 [.mp 1101]), (1101, MP 140 (fun n : Int => Value.int .i64 n) (fun _ : Unit => .agg []) r63.1), (1096, .box 54 [.vec 1102 r63.2.length 1 r63.2.length]), (1102, .vec 3 1 r63.2.length (r63.2.map G0)), (1097, .box 141 [.fn 55 [.ptr 1095 0, .ptr 1096 0, .dptr [LS 1 (LS 4 G3.av) p3], .dptr (Ship.cs p4), .ptr 1097 0]])]) O O (self_w y56.Box s56.1 s56.2 p3 p4 r63 hr63) tf_call_55 ⟨.inl O, O, trivial⟩ O ⟨O, O, O, O, O, trivial⟩ O O O) ?_
         refine G8 ?_
         exact ej59 _ _ (r63.1, r63.2) h ⟨(by repeat' constructor), ⟨⟨_, rfl, .map⟩, ⟨_, rfl, .vec⟩, ⟨_, rfl, .boxL rfl ⟨.same rfl, trivial⟩⟩, ⟨_, rfl, .boxL rfl ⟨.same rfl, trivial⟩⟩, ⟨_, rfl, .boxL rfl ⟨.same rfl, trivial⟩⟩, trivial⟩, rfl⟩
        ·
         replace h := bif_f hb h
         refine Gj ?_
         exact ej59 _ _ (s56.1, s56.2) h ⟨(by repeat' constructor), ⟨⟨_, rfl, .map⟩, ⟨_, rfl, .vec⟩, ⟨_, rfl, .boxL rfl ⟨.same rfl, trivial⟩⟩, ⟨_, rfl, .boxL rfl ⟨.same rfl, trivial⟩⟩, ⟨_, rfl, .boxL rfl ⟨.same rfl, trivial⟩⟩, trivial⟩, rfl⟩
       ·intro j59 h
        replace h := app1 hkj59 h
        refine G2 ?_
        refine JLg (G0 ((i56 + 1 : Nat) : Int)) (Hd (idx_succ hk56 hm53) O O O) ?_
        refine JLg (G0 ((i56 + 1 : Nat) : Int)) (G7 O O) ?_
        refine G8 ?_
        exact e56 _ _ (i56 + 1) (j59.1, j59.2) (app1 hn56 h) (by omega) ⟨(by repeat' constructor), ⟨⟨_, rfl, .map⟩, ⟨_, rfl, .vec⟩, ⟨_, rfl, .boxL rfl ⟨.same rfl, trivial⟩⟩, ⟨_, rfl, .boxL rfl ⟨.same rfl, trivial⟩⟩, ⟨_, rfl, .boxL rfl ⟨.same rfl, trivial⟩⟩, trivial⟩, rfl⟩
      ·
       have h := app1 hkx56 (Hb hi56 (Gy hb))
       refine H4 ?_
       refine hK22 _ _ ?_
       refine G6 fun K64 hK64 => G2 ?_
       refine JLg (LS 1 (LS 4 G3.av) p3) (Gf Q6 O O O) ?_
       refine H9 (f := (LS 4 G3.av)) (xs := p3) Hu O O (fun hm68 => ?_) O O O
       refine JLg (G0 0) (G7 O O) ?_
       refine G8 (hK64 _ _ ?_)
       refine Gi ?_
       obtain ⟨b65, kx65, hb65, hkx65, h⟩ := Hi h
       refine Gz (fun i65 (s65 : (AMap Int Unit) × (List Int)) => each b65 kx65 (List.drop i65 p3) i65 s65 = some r) (fun i65 s65 => [(0, G0 id_), (3, .dptr [LS 1 (LS 4 G3.av) p3]), (4, .dptr (Ship.cs p4)), (5, .ptr 1097 0), (11, G0 j17), (26, LS 1 (LS 4 G3.av) p3), (27, G0 (p3.length : Int)), (28, G0 (i7 : Int)), (67, LS 1 (LS 4 G3.av) p3), (68, G0 (p3.length : Int)), (69, G0 (i65 : Int))]) (fun i65 s65 => [(1101, MP 140 (fun n : Int => Value.int .i64 n) (fun _ : Unit => .agg []) s65.1), (1102, .vec 3 1 s65.2.length (s65.2.map G0)), (1095, .box 140 [.mp 1101]), (1096, .box 54 [.vec 1102 s65.2.length 1 s65.2.length]), (1097, .box 141 [.fn 55 [.ptr 1095 0, .ptr 1096 0, .dptr [LS 1 (LS 4 G3.av) p3], .dptr (Ship.cs p4), .ptr 1097 0]])]) (fun i65 => p3.length - i65) 0 (s56.1, s56.2) h ⟨(by repeat' constructor), ⟨⟨_, rfl, .map⟩, ⟨_, rfl, .vec⟩, ⟨_, rfl, .boxL rfl ⟨.same rfl, trivial⟩⟩, ⟨_, rfl, .boxL rfl ⟨.same rfl, trivial⟩⟩, ⟨_, rfl, .boxL rfl ⟨.same rfl, trivial⟩⟩, trivial⟩, rfl⟩ ?_
       clear h
       intro i65 s65 hi65 K65 e65
       refine G6 fun K66 hK66 => G2 ?_
       refine JLg (BL (decide ((i65 : Int) < (p3.length : Int)))) (He O O O) ?_
       refine G8 (hK66 _ _ ?_)
       refine G6 (fun K67 hK67 => ?_)
       refine Gh O (fun hb => ?_) (fun hb => ?_)
       ·
        have hk65 := lt_len hb
        obtain ⟨y65, nx65, hy65, hn65, h⟩ := Ha hi65 hk65
        replace h := app4 hb65 h
        refine Gj ?_
        refine hK67 _ _ ?_
        refine G6 (fun K68 hK68 => ?_)
        refine Gi ?_
        refine G6 fun K69 hK69 => G2 ?_
        refine JLg (.dptr [LS 4 G3.av y65]) (Gw (f := (LS 4 G3.av)) (xs := p3) (y := y65) O O O Hu hy65 O) ?_
        refine JLg (LS 4 G3.av y65) (Gf tf_scalar_69 O O O) ?_
        refine JLg (LS 4 G3.av y65) (G9 O O) ?_
        refine G8 (hK69 _ _ ?_)
        refine G6 fun K70 hK70 => G2 ?_
        refine JLg (LS 4 G3.av y65) (G7 O O) ?_
        refine H9 (f := G3.av) (xs := y65) Gs O O (fun hm74 => ?_) O O O
        refine JLg (G0 0) (G7 O O) ?_
        refine G8 (hK70 _ _ ?_)
        refine Gi ?_
        obtain ⟨b107, kx107, hb107, hkx107, h⟩ := Hi h
        refine Gz (fun i107 (s107 : (AMap Int Unit) × (List Int)) => each b107 kx107 (List.drop i107 y65) i107 s107 = some r) (fun i107 s107 => [(0, G0 id_), (3, .dptr [LS 1 (LS 4 G3.av) p3]), (4, .dptr (Ship.cs p4)), (5, .ptr 1097 0), (11, G0 j17), (26, LS 1 (LS 4 G3.av) p3), (27, G0 (p3.length : Int)), (28, G0 (i7 : Int)), (67, LS 1 (LS 4 G3.av) p3), (68, G0 (p3.length : Int)), (69, G0 (i65 : Int)), (73, LS 4 G3.av y65), (74, G0 (y65.length : Int)), (75, G0 (i107 : Int))]) (fun i107 s107 => [(1101, MP 140 (fun n : Int => Value.int .i64 n) (fun _ : Unit => .agg []) s107.1), (1102, .vec 3 1 s107.2.length (s107.2.map G0)), (1095, .box 140 [.mp 1101]), (1096, .box 54 [.vec 1102 s107.2.length 1 s107.2.length]), (1097, .box 141 [.fn 55 [.ptr 1095 0, .ptr 1096 0, .dptr [LS 1 (LS 4 G3.av) p3], .dptr (Ship.cs p4), .ptr 1097 0]])]) (fun i107 => y65.length - i107) 0 (s65.1, s65.2) h ⟨(by repeat' constructor), ⟨⟨_, rfl, .map⟩, ⟨_, rfl, .vec⟩, ⟨_, rfl, .boxL rfl ⟨.same rfl, trivial⟩⟩, ⟨_, rfl, .boxL rfl ⟨.same rfl, trivial⟩⟩, ⟨_, rfl, .boxL rfl ⟨.same rfl, trivial⟩⟩, trivial⟩, rfl⟩ ?_
        clear h
        intro i107 s107 hi107 K107 e107
        refine G6 fun K108 hK108 => G2 ?_
        refine JLg (BL (decide ((i107 : Int) < (y65.length : Int)))) (He O O O) ?_
        refine G8 (hK108 _ _ ?_)
        refine G6 (fun K109 hK109 => ?_)
        refine Gh O (fun hb => ?_) (fun hb => ?_)
        ·
         have hk107 := lt_len hb
         obtain ⟨y107, nx107, hy107, hn107, h⟩ := Ha hi107 hk107
         replace h := app4 hb107 h
         refine Gj ?_
         refine hK109 _ _ ?_
         obtain ⟨kj110, hkj110, h⟩ := J6 h
         refine Hs (fun j110 : (AMap Int Unit) × (List Int) => kj110 j110 = some r) (fun j110 => [(0, G0 id_), (3, .dptr [LS 1 (LS 4 G3.av) p3]), (4, .dptr (Ship.cs p4)), (5, .ptr 1097 0), (11, G0 j17), (26, LS 1 (LS 4 G3.av) p3), (27, G0 (p3.length : Int)), (28, G0 (i7 : Int)), (67, LS 1 (LS 4 G3.av) p3), (68, G0 (p3.length : Int)), (69, G0 (i65 : Int)), (73, LS 4 G3.av y65), (74, G0 (y65.length : Int)), (75, G0 (i107 : Int))]) (fun j110 => [(1101, MP 140 (fun n : Int => Value.int .i64 n) (fun _ : Unit => .agg []) j110.1), (1102, .vec 3 1 j110.2.length (j110.2.map G0)), (1095, .box 140 [.mp 1101]), (1096, .box 54 [.vec 1102 j110.2.length 1 j110.2.length]), (1097, .box 141 [.fn 55 [.ptr 1095 0, .ptr 1096 0, .dptr [LS 1 (LS 4 G3.av) p3], .dptr (Ship.cs p4), .ptr 1097 0]])]) (fun Kj110 ej110 => ?_) ?_
         ·
          refine Gi ?_
          refine G6 fun K111 hK111 => G2 ?_
          refine JLg (.dptr (G3.cs y107)) (Gw (f := G3.av) (xs := y65) (y := y107) O O O Gs hy107 O) ?_
          refine JLg (.agg (G3.cs y107)) (Gg Hp O O O) ?_
          refine JLg (.ptr 1129 0) (H2 1129 4 Hk O O) ?_
          refine H1 (u := .junk) (Gt (u := .agg (G3.cs y107)) (ds := [G0 y107.Box, G0 y107.Slot.G5, G0 y107.Slot.Tier, U8 y107.Slot.Half]) J3 O O O O O O O O) ?_
          refine G8 (hK111 _ _ ?_)
          refine Gm [(0, G0 id_), (3, .dptr [LS 1 (LS 4 G3.av) p3]), (4, .dptr (Ship.cs p4)), (5, .ptr 1097 0), (11, G0 j17), (17, .dptr (G3.cs y107)), (26, LS 1 (LS 4 G3.av) p3), (27, G0 (p3.length : Int)), (28, G0 (i7 : Int)), (67, LS 1 (LS 4 G3.av) p3), (68, G0 (p3.length : Int)), (69, G0 (i65 : Int)), (73, LS 4 G3.av y65), (74, G0 (y65.length : Int)), (75, G0 (i107 : Int))] [(1101, MP 140 (fun n : Int => Value.int .i64 n) (fun _ : Unit => .agg []) s107.1), (1102, .vec 3 1 s107.2.length (s107.2.map G0)), (1095, .box 140 [.mp 1101]), (1096, .box 54 [.vec 1102 s107.2.length 1 s107.2.length]), (1097, .box 141 [.fn 55 [.ptr 1095 0, .ptr 1096 0, .dptr [LS 1 (LS 4 G3.av) p3], .dptr (Ship.cs p4), .ptr 1097 0]])] 1129 rfl rfl rfl ⟨⟨_, rfl, .map⟩, ⟨_, rfl, .vec⟩, ⟨_, rfl, .boxEq rfl rfl⟩, ⟨_, rfl, .boxEq rfl rfl⟩, ⟨_, rfl, .boxEq rfl rfl⟩, trivial⟩ rfl (by repeat' (first | exact .ptr | constructor)) ?_
          refine G6 fun K112 hK112 => G2 ?_
          refine JLg (G0 j17) (G7 O O) ?_
          refine JLg (BL (decide (0 ≤ j17))) (A_geq O O O) ?_
          refine JLg (BL (decide (0 ≤ j17))) (G7 O O) ?_
          refine Gd (u := .dptr (Ship.cs p4)) [] O O O .sct trivial (fun hc => Gb Hc O O O) ?_
          refine Gd (u := LS 12 G5.av p4.Columns) [(82, .dptr (Ship.cs p4))] O O O .sct ⟨.all id, trivial⟩ (fun hc => Gf Hj O O O) ?_
          refine Gd (u := .dptr (Slot.cs y107.Slot)) [] O O O .sct trivial (fun hc => Gb Hg O O O) ?_
          refine Gd (u := .dptr (Slot.cs y107.Slot)) [(84, .dptr (Slot.cs y107.Slot))] O O O .sct ⟨.all id, trivial⟩ (fun hc => Gb Hh O O O) ?_
          refine Gd (u := G0 y107.Slot.G5) [(85, .dptr (Slot.cs y107.Slot))] O O O .sct ⟨.all id, trivial⟩ (fun hc => Gf Ga O O O) ?_
          obtain ⟨y113, hy113, h⟩ := Ge h
          refine Gd (u := .dptr (G5.cs y113)) [(83, LS 12 G5.av p4.Columns), (86, G0 y107.Slot.G5)] O O O .sct ⟨.all id, .all id, trivial⟩ (fun hc => (match Q2 (bif_t hc hy113) with | ⟨_, hm_, hy_⟩ => Gw (f := G5.av) (xs := p4.Columns) (y := y113) O O O Hf hy_ hm_)) ?_
          refine Gd (u := .dptr ((G5.cs y113).drop 2)) [(87, .dptr (G5.cs y113))] O O O .sct ⟨.all id, trivial⟩ (fun hc => Gb Jw O O O) ?_
          refine Gd (u := BL y113.Deck) [(88, .dptr ((G5.cs y113).drop 2))] O O O .sct ⟨.all id, trivial⟩ (fun hc => Gf J9 O O O) ?_
          refine JLg (BL ((decide (0 ≤ j17)) && y113.Deck)) (J2 O O O O) ?_
          refine JLg (BL ((decide (0 ≤ j17)) && y113.Deck)) (G7 O O) ?_
          refine Gd (u := .agg (Ship.cs p4)) [] O O O .sct trivial (fun hc => Gg H5 O O O) ?_
          refine Gd (u := .dptr (Slot.cs y107.Slot)) [] O O O .sct trivial (fun hc => Gb Hg O O O) ?_
          refine Gd (u := .dptr (Slot.cs y107.Slot)) [(93, .dptr (Slot.cs y107.Slot))] O O O .sct ⟨.all id, trivial⟩ (fun hc => Gb Hh O O O) ?_
          refine Gd (u := G0 y107.Slot.G5) [(94, .dptr (Slot.cs y107.Slot))] O O O .sct ⟨.all id, trivial⟩ (fun hc => Gf Ga O O O) ?_
          obtain ⟨r114, hr114, h⟩ := Ge h
          refine Gd (u := G0 r114) [(92, .agg (Ship.cs p4)), (95, G0 y107.Slot.G5)] O O O .sct ⟨.all id, .all id, trivial⟩ (fun hc => Gr (args := [.agg (Ship.cs p4), G0 y107.Slot.G5]) O (M_ship_CoverOf_w p4 y107.Slot.G5 r114 (bif_t hc hr114)) tf_call_58 ⟨O, O, O, O, trivial⟩) ?_
          refine Gd (u := G0 j17) [] O O O .sct trivial (fun hc => G7 O O) ?_
          refine Gd (u := BL (decide (r114 = j17))) [(96, G0 r114), (97, G0 j17)] O O O .sct ⟨.all id, .all id, trivial⟩ (fun hc => Hx O O O) ?_
          refine JLg (BL (((decide (0 ≤ j17)) && y113.Deck) && (decide (r114 = j17)))) (J2 O O O O) ?_
          refine G8 (hK112 _ _ ?_)
          refine Gh O (fun hb => ?_) (fun hb => ?_)
          ·
           replace h := bif_t hb h
           refine G2 ?_
           refine JLg (.fn 55 [.ptr 1095 0, .ptr 1096 0, .dptr [LS 1 (LS 4 G3.av) p3], .dptr (Ship.cs p4), .ptr 1097 0]) (Ht tf_scalar_141 O O O O) ?_
           refine JLg (.dptr (G3.cs y107)) (Gb Hn O O O) ?_
           refine JLg (G0 y107.Box) (Gf Ga O O O) ?_
           obtain ⟨r115, hr115, h⟩ := Ge h
           refine JLg (.tup []) (A_callVL (args := [G0 y107.Box]) (caps := [.ptr 1095 0, .ptr 1096 0, .dptr [LS 1 (LS 4 G3.av) p3], .dptr (Ship.cs p4), .ptr 1097 0]) (L0 := [(1095, .box 140 [.mp 1101]), (1101, MP 140 (fun n : Int => Value.int .i64 n) (fun _ : Unit => .agg []) s107.1), (1096, .box 54 [.vec 1102 s107.2.length 1 s107.2.length]), (1102, .vec 3 1 s107.2.length (s107.2.map G0)), (1097, .box 141 [.fn 55 [.ptr 1095 0, .ptr 1096 0, .dptr [LS 1 (LS 4 G3.av) p3], .dptr (Ship.cs p4), .ptr 1097 0]])]) (Lr := [(1095, .box 140 [.mp 1101]), (1101, MP 140 (fun n : Int => Value.int .i64 n) (fun _ : Unit => .agg []) r115.1), (1096, .box 54 [.vec 1102 r115.2.length 1 r115.2.length]), (1102, .vec 3 1 r115.2.length (r115.2.map G0)), (1097, .box 141 [.fn 55 [.ptr 1095 0, .ptr 1096 0, .dptr [LS 1 (LS 4 G3.av) p3], .dptr (Ship.cs p4), .ptr 1097 0]])]) O O (self_w y107.Box s107.1 s107.2 p3 p4 r115 hr115) tf_call_55 ⟨.inl O, O, trivial⟩ O ⟨O, O, O, O, O, trivial⟩ O O O) ?_
           refine G8 ?_
           exact ej110 _ _ (r115.1, r115.2) h ⟨(by repeat' constructor), ⟨⟨_, rfl, .map⟩, ⟨_, rfl, .vec⟩, ⟨_, rfl, .boxL rfl ⟨.same rfl, trivial⟩⟩, ⟨_, rfl, .boxL rfl ⟨.same rfl, trivial⟩⟩, ⟨_, rfl, .boxL rfl ⟨.same rfl, trivial⟩⟩, trivial⟩, rfl⟩
          ·
           replace h := bif_f hb h
           refine Gj ?_
           exact ej110 _ _ (s107.1, s107.2) h ⟨(by repeat' constructor), ⟨⟨_, rfl, .map⟩, ⟨_, rfl, .vec⟩, ⟨_, rfl, .boxL rfl ⟨.same rfl, trivial⟩⟩, ⟨_, rfl, .boxL rfl ⟨.same rfl, trivial⟩⟩, ⟨_, rfl, .boxL rfl ⟨.same rfl, trivial⟩⟩, trivial⟩, rfl⟩
         ·intro j110 h
          replace h := app1 hkj110 h
          refine G2 ?_
          refine JLg (G0 ((i107 + 1 : Nat) : Int)) (Hd (idx_succ hk107 hm74) O O O) ?_
          refine JLg (G0 ((i107 + 1 : Nat) : Int)) (G7 O O) ?_
          refine G8 ?_
          exact e107 _ _ (i107 + 1) (j110.1, j110.2) (app1 hn107 h) (by omega) ⟨(by repeat' constructor), ⟨⟨_, rfl, .map⟩, ⟨_, rfl, .vec⟩, ⟨_, rfl, .boxL rfl ⟨.same rfl, trivial⟩⟩, ⟨_, rfl, .boxL rfl ⟨.same rfl, trivial⟩⟩, ⟨_, rfl, .boxL rfl ⟨.same rfl, trivial⟩⟩, trivial⟩, rfl⟩
        ·
         have h := app1 hkx107 (Hb hi107 (Gy hb))
         refine H4 ?_
         refine hK68 _ _ ?_
         refine G2 ?_
         refine JLg (G0 ((i65 + 1 : Nat) : Int)) (Hd (idx_succ hk65 hm68) O O O) ?_
         refine JLg (G0 ((i65 + 1 : Nat) : Int)) (G7 O O) ?_
         refine G8 ?_
         exact e65 _ _ (i65 + 1) (s107.1, s107.2) (app1 hn65 h) (by omega) ⟨(by repeat' constructor), ⟨⟨_, rfl, .map⟩, ⟨_, rfl, .vec⟩, ⟨_, rfl, .boxL rfl ⟨.same rfl, trivial⟩⟩, ⟨_, rfl, .boxL rfl ⟨.same rfl, trivial⟩⟩, ⟨_, rfl, .boxL rfl ⟨.same rfl, trivial⟩⟩, trivial⟩, rfl⟩
       ·
        have h := app1 hkx65 (Hb hi65 (Gy hb))
        refine H4 ?_
        exact ej10 _ _ (s65.1, s65.2) h ⟨(by repeat' constructor), ⟨⟨_, rfl, .map⟩, ⟨_, rfl, .vec⟩, ⟨_, rfl, .boxL rfl ⟨.same rfl, trivial⟩⟩, ⟨_, rfl, .boxL rfl ⟨.same rfl, trivial⟩⟩, ⟨_, rfl, .boxL rfl ⟨.same rfl, trivial⟩⟩, trivial⟩, rfl⟩
   ·intro j10 h
    replace h := app1 hkj10 h
    refine G2 ?_
    refine JLg (G0 ((i7 + 1 : Nat) : Int)) (Hd (idx_succ hk7 hm27) O O O) ?_
    refine JLg (G0 ((i7 + 1 : Nat) : Int)) (G7 O O) ?_
    refine G8 ?_
    exact e7 _ _ (i7 + 1) (j10.1, j10.2) (app1 hn7 h) (by omega) ⟨(by repeat' constructor), ⟨⟨_, rfl, .map⟩, ⟨_, rfl, .vec⟩, ⟨_, rfl, .boxL rfl ⟨.same rfl, trivial⟩⟩, ⟨_, rfl, .boxL rfl ⟨.same rfl, trivial⟩⟩, ⟨_, rfl, .boxL rfl ⟨.same rfl, trivial⟩⟩, trivial⟩, rfl⟩
  ·
   have h := app1 hkx7 (Hb hi7 (Gy hb))
   refine H4 ?_
   obtain rfl := Option.some.inj h
   exact ⟨[], [(1095, .box 140 [.mp 1101]), (1101, MP 140 (fun n : Int => Value.int .i64 n) (fun _ : Unit => .agg []) s7.1), (1096, .box 54 [.vec 1102 s7.2.length 1 s7.2.length]), (1102, .vec 3 1 s7.2.length (s7.2.map G0)), (1097, .box 141 [.fn 55 [.ptr 1095 0, .ptr 1096 0, .dptr [LS 1 (LS 4 G3.av) p3], .dptr (Ship.cs p4), .ptr 1097 0]])], ⟨⟨_, O, .boxL O ⟨.same O, trivial⟩⟩, ⟨_, O, .map⟩, ⟨_, O, .boxL O ⟨.same O, trivial⟩⟩, ⟨_, O, .vec⟩, ⟨_, O, .boxL O ⟨.same O, trivial⟩⟩, trivial⟩, O, trivial, O, O⟩
theorem M_plan_lifted_1_w : ∀ (F : Nat) (id_ : Int) (p1 : AMap Int Unit) (p2 : List Int) (p3 : List (List G3)) (p4 : Ship) (r : (AMap Int Unit) × (List Int)) (h : M_plan_lifted_1 F id_ p1 p2 p3 p4 = some r), ACalls Tryz.prog 55 [G0 id_, .ptr 1095 0, .ptr 1096 0, .dptr [LS 1 (LS 4 G3.av) p3], .dptr (Ship.cs p4), .ptr 1097 0] [(1095, .box 140 [.mp 1101]), (1101, MP 140 (fun n : Int => Value.int .i64 n) (fun _ : Unit => .agg []) p1), (1096, .box 54 [.vec 1102 p2.length 1 p2.length]), (1102, .vec 3 1 p2.length (p2.map G0)), (1097, .box 141 [.fn 55 [.ptr 1095 0, .ptr 1096 0, .dptr [LS 1 (LS 4 G3.av) p3], .dptr (Ship.cs p4), .ptr 1097 0]])] (fun av L' => av = .tup [] ∧ L' = [(1095, .box 140 [.mp 1101]), (1101, MP 140 (fun n : Int => Value.int .i64 n) (fun _ : Unit => .agg []) r.1), (1096, .box 54 [.vec 1102 r.2.length 1 r.2.length]), (1102, .vec 3 1 r.2.length (r.2.map G0)), (1097, .box 141 [.fn 55 [.ptr 1095 0, .ptr 1096 0, .dptr [LS 1 (LS 4 G3.av) p3], .dptr (Ship.cs p4), .ptr 1097 0]])]) := by
 intro F
 induction F with
 | zero => intro id_ p1 p2 p3 p4 r h; cases h
 | succ F ih => intro id_ p1 p2 p3 p4 r h; exact B_plan_lifted_1_w (M_plan_lifted_1 F) ih F id_ p1 p2 p3 p4 r h

def M_plan_lifted (F : Nat) (s : Ship) (before : List G3) (after : List G3) : Option (List Int) :=
 each (fun y9 i9 (s9 : (AMap Int Unit) × (List Int)) nx9 =>
  each (fun y59 i59 (s59 : (AMap Int Unit) × (List Int)) nx59 =>
   jp (fun kj62 =>
    bnd (M_plan_find before y59.Box) fun r65 =>
    bnd (M_plan_find after y59.Box) fun r67 =>
    bif ((!(r65.2 == r67.2)) || (!decide (r65.1 = r67.1))) then
    (bnd (M_plan_lifted_1 F y59.Box s59.1 s59.2 [before, after] s) fun r69 =>
     kj62 (r69.1, r69.2))
    else
    (kj62 (s59.1, s59.2))) fun (j62 : (AMap Int Unit) × (List Int)) =>
   nx59 (j62.1, j62.2))
  (fun (s59 : (AMap Int Unit) × (List Int)) =>
   nx9 (s59.1, s59.2)) y9 0 (s9.1, s9.2))
 (fun (s9 : (AMap Int Unit) × (List Int)) =>
  bnd (sortIM s9.2) fun r71 =>
  some r71) [before, after] 0 ((AMap.empty : AMap Int Unit), [])
theorem M_plan_lifted_w (F : Nat) (s : Ship) (before : List G3) (after : List G3) (r : (List Int)) (h : M_plan_lifted F s before after = some r) : Pure Tryz.prog 39 [.agg (Ship.cs s), LS 4 G3.av before, LS 4 G3.av after] (· = LS 1 G0 r) := by
 unfold M_plan_lifted at h
 refine Gx [.tmp 6] Tryz.func39 O O ?_
 refine G6 fun K1 hK1 => G2 ?_
 refine JLg (.ptr 1093 0) (J1 (u := .agg (Ship.cs s)) (cs := (Ship.cs s)) 1093 O O O O O) ?_
 refine JLg (LS 1 G0 ([] : List Int)) (Hw 1 O O) ?_
 refine G8 (hK1 _ _ ?_)
 refine Gm [(1, LS 4 G3.av before), (2, LS 4 G3.av after), (3, .dptr (Ship.cs s))] [] 1093 rfl rfl rfl trivial rfl (by exact ⟨.conv (.same rfl), .conv (.same rfl), .ptr, trivial⟩) ?_
 refine G6 fun K2 hK2 => G2 ?_
 refine JLg (LS 4 G3.av before) (G7 O O) ?_
 refine JLg (LS 4 G3.av after) (G7 O O) ?_
 refine JLg (LS 1 (LS 4 G3.av) [before, after]) (Gu (xs := [LS 4 G3.av before, LS 4 G3.av after]) O ⟨O, O, O, O, trivial⟩ Hu tf_zsize_69 O O O O) ?_
 refine JLg (.ptr 1094 0) (H2 1094 1 tf_zsize_38 O O) ?_
 refine H1 (u := .junk) (Gt (u := LS 1 (LS 4 G3.av) [before, after]) (ds := [LS 1 (LS 4 G3.av) [before, after]]) tf_size_38 O O O O O O O O) ?_
 refine G8 (hK2 _ _ ?_)
 refine Gm [(1, LS 4 G3.av before), (2, LS 4 G3.av after), (3, .dptr (Ship.cs s)), (7, .dptr [LS 1 (LS 4 G3.av) [before, after]])] [] 1094 rfl rfl rfl trivial rfl (by repeat' (first | exact .ptr | constructor)) ?_
 refine G6 fun K3 hK3 => G2 ?_
 refine JLg (.mp 1101) (A_makeMapM 1101 (fun n : Int => Value.int .i64 n) (fun _ : Unit => .agg []) O O) ?_
 refine JLg (.ptr 1095 0) (H2 1095 1 tf_zsize_140 O O) ?_
 refine H1 (u := .junk) (Gt (u := .mp 1101) (ds := [.mp 1101]) tf_size_140 O O O O O O O O) ?_
 refine G8 (hK3 _ _ ?_)
 refine G6 fun K4 hK4 => G2 ?_
 refine JLg (.ptr 1096 0) (A_allocZ 1096 [.sc (.slice none 0 0)] [.slice none 0 0] tf_zero_54 ⟨.inl O, trivial⟩ O O) ?_
 refine JL_vecCell 1096 0 1102 3 1 O O O (cs' := [.vec 1102 (([] : List Int).length) 1 (([] : List Int).length)]) O ?_
 refine G8 (hK4 _ _ ?_)
 refine G6 fun K5 hK5 => G2 ?_
 refine JLg (.ptr 1097 0) (H2 1097 1 tf_zsize_141 O O) ?_
 refine G8 (hK5 _ _ ?_)
 refine G6 fun K6 hK6 => G2 ?_
 refine JLg (.fn 55 [.ptr 1095 0, .ptr 1096 0, .dptr [LS 1 (LS 4 G3.av) [before, after]], .dptr (Ship.cs s), .ptr 1097 0]) (A_makeFunc (cs := [.ptr 1095 0, .ptr 1096 0, .dptr [LS 1 (LS 4 G3.av) [before, after]], .dptr (Ship.cs s), .ptr 1097 0]) O O) ?_
 refine H1 (u := .junk) (Gt (u := .fn 55 [.ptr 1095 0, .ptr 1096 0, .dptr [LS 1 (LS 4 G3.av) [before, after]], .dptr (Ship.cs s), .ptr 1097 0]) (ds := [.fn 55 [.ptr 1095 0, .ptr 1096 0, .dptr [LS 1 (LS 4 G3.av) [before, after]], .dptr (Ship.cs s), .ptr 1097 0]]) tf_size_141 O O O O O O O O) ?_
 refine G8 (hK6 _ _ ?_)
 refine G6 (fun K7 hK7 => ?_)
 refine G6 fun K8 hK8 => G2 ?_
 refine JLg (LS 1 (LS 4 G3.av) [before, after]) (Gf Q6 O O O) ?_
 refine H9 (f := (LS 4 G3.av)) (xs := [before, after]) Hu O O (fun hm25 => ?_) O O O
 refine JLg (G0 0) (G7 O O) ?_
 refine G8 (hK8 _ _ ?_)
 refine Gi ?_
 obtain ⟨b9, kx9, hb9, hkx9, h⟩ := Hi h
 refine Gz (fun i9 (s9 : (AMap Int Unit) × (List Int)) => each b9 kx9 (List.drop i9 [before, after]) i9 s9 = some r) (fun i9 s9 => [(1, LS 4 G3.av before), (2, LS 4 G3.av after), (9, .ptr 1096 0), (10, .ptr 1097 0), (24, LS 1 (LS 4 G3.av) [before, after]), (25, G0 ([before, after].length : Int)), (26, G0 (i9 : Int))]) (fun i9 s9 => [(1101, MP 140 (fun n : Int => Value.int .i64 n) (fun _ : Unit => .agg []) s9.1), (1102, .vec 3 1 s9.2.length (s9.2.map G0)), (1095, .box 140 [.mp 1101]), (1096, .box 54 [.vec 1102 s9.2.length 1 s9.2.length]), (1097, .box 141 [.fn 55 [.ptr 1095 0, .ptr 1096 0, .dptr [LS 1 (LS 4 G3.av) [before, after]], .dptr (Ship.cs s), .ptr 1097 0]])]) (fun i9 => [before, after].length - i9) 0 ((AMap.empty : AMap Int Unit), []) h ⟨(by repeat' constructor), ⟨⟨_, rfl, .map⟩, ⟨_, rfl, .vec⟩, ⟨_, rfl, .boxL rfl ⟨.same rfl, trivial⟩⟩, ⟨_, rfl, .boxL rfl ⟨.same rfl, trivial⟩⟩, ⟨_, rfl, .boxL rfl ⟨.same rfl, trivial⟩⟩, trivial⟩, rfl⟩ ?_
 clear h
 intro i9 s9 hi9 K9 e9
 refine G6 fun K10 hK10 => G2 ?_
 refine JLg (BL (decide ((i9 : Int) < ([before, after].length : Int)))) (He O O O) ?_
 refine G8 (hK10 _ _ ?_)
 refine G6 (fun K11 hK11 => ?_)
 refine Gh O (fun hb => ?_) (fun hb => ?_)
 ·
  have hk9 := lt_len hb
  obtain ⟨y9, nx9, hy9, hn9, h⟩ := Ha hi9 hk9
  replace h := app4 hb9 h
  refine Gj ?_
  refine hK11 _ _ ?_
  refine G6 (fun K12 hK12 => ?_)
  refine Gi ?_
  refine G6 fun K13 hK13 => G2 ?_
  refine JLg (.dptr [LS 4 G3.av y9]) (Gw (f := (LS 4 G3.av)) (xs := [before, after]) (y := y9) O O O Hu hy9 O) ?_
  refine JLg (LS 4 G3.av y9) (Gf tf_scalar_69 O O O) ?_
  refine JLg (LS 4 G3.av y9) (G9 O O) ?_
  refine G8 (hK13 _ _ ?_)
  refine G6 fun K14 hK14 => G2 ?_
  refine JLg (LS 4 G3.av y9) (G7 O O) ?_
  refine H9 (f := G3.av) (xs := y9) Gs O O (fun hm31 => ?_) O O O
  refine JLg (G0 0) (G7 O O) ?_
  refine G8 (hK14 _ _ ?_)
  refine Gi ?_
  obtain ⟨b59, kx59, hb59, hkx59, h⟩ := Hi h
  refine Gz (fun i59 (s59 : (AMap Int Unit) × (List Int)) => each b59 kx59 (List.drop i59 y9) i59 s59 = some r) (fun i59 s59 => [(1, LS 4 G3.av before), (2, LS 4 G3.av after), (9, .ptr 1096 0), (10, .ptr 1097 0), (24, LS 1 (LS 4 G3.av) [before, after]), (25, G0 ([before, after].length : Int)), (26, G0 (i9 : Int)), (30, LS 4 G3.av y9), (31, G0 (y9.length : Int)), (32, G0 (i59 : Int))]) (fun i59 s59 => [(1101, MP 140 (fun n : Int => Value.int .i64 n) (fun _ : Unit => .agg []) s59.1), (1102, .vec 3 1 s59.2.length (s59.2.map G0)), (1095, .box 140 [.mp 1101]), (1096, .box 54 [.vec 1102 s59.2.length 1 s59.2.length]), (1097, .box 141 [.fn 55 [.ptr 1095 0, .ptr 1096 0, .dptr [LS 1 (LS 4 G3.av) [before, after]], .dptr (Ship.cs s), .ptr 1097 0]])]) (fun i59 => y9.length - i59) 0 (s9.1, s9.2) h ⟨(by repeat' constructor), ⟨⟨_, rfl, .map⟩, ⟨_, rfl, .vec⟩, ⟨_, rfl, .boxL rfl ⟨.same rfl, trivial⟩⟩, ⟨_, rfl, .boxL rfl ⟨.same rfl, trivial⟩⟩, ⟨_, rfl, .boxL rfl ⟨.same rfl, trivial⟩⟩, trivial⟩, rfl⟩ ?_
  clear h
  intro i59 s59 hi59 K59 e59
  refine G6 fun K60 hK60 => G2 ?_
  refine JLg (BL (decide ((i59 : Int) < (y9.length : Int)))) (He O O O) ?_
  refine G8 (hK60 _ _ ?_)
  refine G6 (fun K61 hK61 => ?_)
  refine Gh O (fun hb => ?_) (fun hb => ?_)
  ·
   have hk59 := lt_len hb
   obtain ⟨y59, nx59, hy59, hn59, h⟩ := Ha hi59 hk59
   replace h := app4 hb59 h
   refine Gj ?_
   refine hK61 _ _ ?_
   obtain ⟨kj62, hkj62, h⟩ := J6 h
   refine Hs (fun j62 : (AMap Int Unit) × (List Int) => kj62 j62 = some r) (fun j62 => [(1, LS 4 G3.av before), (2, LS 4 G3.av after), (9, .ptr 1096 0), (10, .ptr 1097 0), (24, LS 1 (LS 4 G3.av) [before, after]), (25, G0 ([before, after].length : Int)), (26, G0 (i9 : Int)), (30, LS 4 G3.av y9), (31, G0 (y9.length : Int)), (32, G0 (i59 : Int))]) (fun j62 => [(1101, MP 140 (fun n : Int => Value.int .i64 n) (fun _ : Unit => .agg []) j62.1), (1102, .vec 3 1 j62.2.length (j62.2.map G0)), (1095, .box 140 [.mp 1101]), (1096, .box 54 [.vec 1102 j62.2.length 1 j62.2.length]), (1097, .box 141 [.fn 55 [.ptr 1095 0, .ptr 1096 0, .dptr [LS 1 (LS 4 G3.av) [before, after]], .dptr (Ship.cs s), .ptr 1097 0]])]) (fun Kj62 ej62 => ?_) ?_
   ·
    refine Gi ?_
    refine G6 fun K63 hK63 => G2 ?_
    refine JLg (.dptr (G3.cs y59)) (Gw (f := G3.av) (xs := y9) (y := y59) O O O Gs hy59 O) ?_
    refine JLg (.agg (G3.cs y59)) (Gg Hp O O O) ?_
    refine JLg (.ptr 1098 0) (H2 1098 4 Hk O O) ?_
    refine H1 (u := .junk) (Gt (u := .agg (G3.cs y59)) (ds := [G0 y59.Box, G0 y59.Slot.G5, G0 y59.Slot.Tier, U8 y59.Slot.Half]) J3 O O O O O O O O) ?_
    refine G8 (hK63 _ _ ?_)
    refine Gm [(1, LS 4 G3.av before), (2, LS 4 G3.av after), (9, .ptr 1096 0), (10, .ptr 1097 0), (14, .dptr (G3.cs y59)), (24, LS 1 (LS 4 G3.av) [before, after]), (25, G0 ([before, after].length : Int)), (26, G0 (i9 : Int)), (30, LS 4 G3.av y9), (31, G0 (y9.length : Int)), (32, G0 (i59 : Int))] [(1101, MP 140 (fun n : Int => Value.int .i64 n) (fun _ : Unit => .agg []) s59.1), (1102, .vec 3 1 s59.2.length (s59.2.map G0)), (1095, .box 140 [.mp 1101]), (1096, .box 54 [.vec 1102 s59.2.length 1 s59.2.length]), (1097, .box 141 [.fn 55 [.ptr 1095 0, .ptr 1096 0, .dptr [LS 1 (LS 4 G3.av) [before, after]], .dptr (Ship.cs s), .ptr 1097 0]])] 1098 rfl rfl rfl ⟨⟨_, rfl, .map⟩, ⟨_, rfl, .vec⟩, ⟨_, rfl, .boxEq rfl rfl⟩, ⟨_, rfl, .boxEq rfl rfl⟩, ⟨_, rfl, .boxEq rfl rfl⟩, trivial⟩ rfl (by repeat' (first | exact .ptr | constructor)) ?_
    refine G6 fun K64 hK64 => G2 ?_
    refine JLg (LS 4 G3.av before) (G7 O O) ?_
    refine JLg (.dptr (G3.cs y59)) (Gb Hn O O O) ?_
    refine JLg (G0 y59.Box) (Gf Ga O O O) ?_
    obtain ⟨r65, hr65, h⟩ := Ge h
    refine JLg (.tup [.agg (Slot.cs r65.1), BL r65.2]) (Gr (args := [LS 4 G3.av before, G0 y59.Box]) O (M_plan_find_w before y59.Box r65 hr65) tf_call_57 ⟨O, O, O, O, trivial⟩) ?_
    refine JLg (.tup [.agg (Slot.cs r65.1), BL r65.2]) (G7 O O) ?_
    refine JLg (.agg (Slot.cs r65.1)) (Gv O O O) ?_
    refine JLg (BL r65.2) (Gv O O O) ?_
    refine JLg (.ptr 1099 0) (H2 1099 3 Q5 O O) ?_
    refine H1 (u := .junk) (Gt (u := .agg (Slot.cs r65.1)) (ds := [G0 r65.1.G5, G0 r65.1.Tier, U8 r65.1.Half]) tf_size_51 O O O O O O O O) ?_
    refine JLg (BL r65.2) (G9 O O) ?_
    refine G8 (hK64 _ _ ?_)
    refine Gm [(1, LS 4 G3.av before), (2, LS 4 G3.av after), (9, .ptr 1096 0), (10, .ptr 1097 0), (14, .dptr (G3.cs y59)), (15, .dptr (Slot.cs r65.1)), (16, BL r65.2), (24, LS 1 (LS 4 G3.av) [before, after]), (25, G0 ([before, after].length : Int)), (26, G0 (i9 : Int)), (30, LS 4 G3.av y9), (31, G0 (y9.length : Int)), (32, G0 (i59 : Int))] [(1101, MP 140 (fun n : Int => Value.int .i64 n) (fun _ : Unit => .agg []) s59.1), (1102, .vec 3 1 s59.2.length (s59.2.map G0)), (1095, .box 140 [.mp 1101]), (1096, .box 54 [.vec 1102 s59.2.length 1 s59.2.length]), (1097, .box 141 [.fn 55 [.ptr 1095 0, .ptr 1096 0, .dptr [LS 1 (LS 4 G3.av) [before, after]], .dptr (Ship.cs s), .ptr 1097 0]])] 1099 rfl rfl rfl ⟨⟨_, rfl, .map⟩, ⟨_, rfl, .vec⟩, ⟨_, rfl, .boxEq rfl rfl⟩, ⟨_, rfl, .boxEq rfl rfl⟩, ⟨_, rfl, .boxEq rfl rfl⟩, trivial⟩ rfl (by repeat' (first | exact .ptr | constructor)) ?_
    refine G6 fun K66 hK66 => G2 ?_
    refine JLg (LS 4 G3.av after) (G7 O O) ?_
    refine JLg (.dptr (G3.cs y59)) (Gb Hn O O O) ?_
    refine JLg (G0 y59.Box) (Gf Ga O O O) ?_
    obtain ⟨r67, hr67, h⟩ := Ge h
    refine JLg (.tup [.agg (Slot.cs r67.1), BL r67.2]) (Gr (args := [LS 4 G3.av after, G0 y59.Box]) O (M_plan_find_w after y59.Box r67 hr67) tf_call_57 ⟨O, O, O, O, trivial⟩) ?_
    refine JLg (.tup [.agg (Slot.cs r67.1), BL r67.2]) (G7 O O) ?_
    refine JLg (.agg (Slot.cs r67.1)) (Gv O O O) ?_
    refine JLg (BL r67.2) (Gv O O O) ?_
    refine JLg (.ptr 1100 0) (H2 1100 3 Q5 O O) ?_
    refine H1 (u := .junk) (Gt (u := .agg (Slot.cs r67.1)) (ds := [G0 r67.1.G5, G0 r67.1.Tier, U8 r67.1.Half]) tf_size_51 O O O O O O O O) ?_
    refine JLg (BL r67.2) (G9 O O) ?_
    refine G8 (hK66 _ _ ?_)
    refine Gm [(1, LS 4 G3.av before), (2, LS 4 G3.av after), (9, .ptr 1096 0), (10, .ptr 1097 0), (14, .dptr (G3.cs y59)), (15, .dptr (Slot.cs r65.1)), (16, BL r65.2), (17, .dptr (Slot.cs r67.1)), (18, BL r67.2), (24, LS 1 (LS 4 G3.av) [before, after]), (25, G0 ([before, after].length : Int)), (26, G0 (i9 : Int)), (30, LS 4 G3.av y9), (31, G0 (y9.length : Int)), (32, G0 (i59 : Int))] [(1101, MP 140 (fun n : Int => Value.int .i64 n) (fun _ : Unit => .agg []) s59.1), (1102, .vec 3 1 s59.2.length (s59.2.map G0)), (1095, .box 140 [.mp 1101]), (1096, .box 54 [.vec 1102 s59.2.length 1 s59.2.length]), (1097, .box 141 [.fn 55 [.ptr 1095 0, .ptr 1096 0, .dptr [LS 1 (LS 4 G3.av) [before, after]], .dptr (Ship.cs s), .ptr 1097 0]])] 1100 rfl rfl rfl ⟨⟨_, rfl, .map⟩, ⟨_, rfl, .vec⟩, ⟨_, rfl, .boxEq rfl rfl⟩, ⟨_, rfl, .boxEq rfl rfl⟩, ⟨_, rfl, .boxEq rfl rfl⟩, trivial⟩ rfl (by repeat' (first | exact .ptr | constructor)) ?_
    refine G6 fun K68 hK68 => G2 ?_
    refine JLg (BL r65.2) (G7 O O) ?_
    refine JLg (BL r67.2) (G7 O O) ?_
    refine JLg (BL (!(r65.2 == r67.2))) (A_neBool tf_bool_4 O O O) ?_
    refine JLg (BL (!(r65.2 == r67.2))) (G7 O O) ?_
    refine Gd (u := .agg (Slot.cs r65.1)) [] O O O .scf trivial (fun hc => Gg Hr O O O) ?_
    refine Gd (u := .agg (Slot.cs r67.1)) [] O O O .scf trivial (fun hc => Gg Hr O O O) ?_
    refine Gd (u := BL (!decide (r65.1 = r67.1))) [(54, .agg (Slot.cs r65.1)), (55, .agg (Slot.cs r67.1))] O O O .scf ⟨.all id, .all id, trivial⟩ (fun hc => A_neAgg (vs := [.int .i64 r65.1.G5, .int .i64 r65.1.Tier, .int .u8 r65.1.Half]) (us := [.int .i64 r67.1.G5, .int .i64 r67.1.Tier, .int .u8 r67.1.Half]) 4 O (tq_51 r65.1 r67.1) tf_aggof_51 tf_eqg_51 O O O) ?_
    refine JLg (BL ((!(r65.2 == r67.2)) || (!decide (r65.1 = r67.1)))) (Q0 O O O O) ?_
    refine G8 (hK68 _ _ ?_)
    refine Gh O (fun hb => ?_) (fun hb => ?_)
    ·
     replace h := bif_t hb h
     refine G2 ?_
     refine JLg (.fn 55 [.ptr 1095 0, .ptr 1096 0, .dptr [LS 1 (LS 4 G3.av) [before, after]], .dptr (Ship.cs s), .ptr 1097 0]) (Ht tf_scalar_141 O O O O) ?_
     refine JLg (.dptr (G3.cs y59)) (Gb Hn O O O) ?_
     refine JLg (G0 y59.Box) (Gf Ga O O O) ?_
     obtain ⟨r69, hr69, h⟩ := Ge h
     refine JLg (.tup []) (A_callVL (args := [G0 y59.Box]) (caps := [.ptr 1095 0, .ptr 1096 0, .dptr [LS 1 (LS 4 G3.av) [before, after]], .dptr (Ship.cs s), .ptr 1097 0]) (L0 := [(1095, .box 140 [.mp 1101]), (1101, MP 140 (fun n : Int => Value.int .i64 n) (fun _ : Unit => .agg []) s59.1), (1096, .box 54 [.vec 1102 s59.2.length 1 s59.2.length]), (1102, .vec 3 1 s59.2.length (s59.2.map G0)), (1097, .box 141 [.fn 55 [.ptr 1095 0, .ptr 1096 0, .dptr [LS 1 (LS 4 G3.av) [before, after]], .dptr (Ship.cs s), .ptr 1097 0]])]) (Lr := [(1095, .box 140 [.mp 1101]), (1101, MP 140 (fun n : Int => Value.int .i64 n) (fun _ : Unit => .agg []) r69.1), (1096, .box 54 [.vec 1102 r69.2.length 1 r69.2.length]), (1102, .vec 3 1 r69.2.length (r69.2.map G0)), (1097, .box 141 [.fn 55 [.ptr 1095 0, .ptr 1096 0, .dptr [LS 1 (LS 4 G3.av) [before, after]], .dptr (Ship.cs s), .ptr 1097 0]])]) O O (M_plan_lifted_1_w F y59.Box s59.1 s59.2 [before, after] s r69 hr69) tf_call_55 ⟨.inl O, O, trivial⟩ O ⟨O, O, O, O, O, trivial⟩ O O O) ?_
     refine G8 ?_
     exact ej62 _ _ (r69.1, r69.2) h ⟨(by repeat' constructor), ⟨⟨_, rfl, .map⟩, ⟨_, rfl, .vec⟩, ⟨_, rfl, .boxL rfl ⟨.same rfl, trivial⟩⟩, ⟨_, rfl, .boxL rfl ⟨.same rfl, trivial⟩⟩, ⟨_, rfl, .boxL rfl ⟨.same rfl, trivial⟩⟩, trivial⟩, rfl⟩
    ·
     replace h := bif_f hb h
     refine Gj ?_
     exact ej62 _ _ (s59.1, s59.2) h ⟨(by repeat' constructor), ⟨⟨_, rfl, .map⟩, ⟨_, rfl, .vec⟩, ⟨_, rfl, .boxL rfl ⟨.same rfl, trivial⟩⟩, ⟨_, rfl, .boxL rfl ⟨.same rfl, trivial⟩⟩, ⟨_, rfl, .boxL rfl ⟨.same rfl, trivial⟩⟩, trivial⟩, rfl⟩
   ·intro j62 h
    replace h := app1 hkj62 h
    refine G2 ?_
    refine JLg (G0 ((i59 + 1 : Nat) : Int)) (Hd (idx_succ hk59 hm31) O O O) ?_
    refine JLg (G0 ((i59 + 1 : Nat) : Int)) (G7 O O) ?_
    refine G8 ?_
    exact e59 _ _ (i59 + 1) (j62.1, j62.2) (app1 hn59 h) (by omega) ⟨(by repeat' constructor), ⟨⟨_, rfl, .map⟩, ⟨_, rfl, .vec⟩, ⟨_, rfl, .boxL rfl ⟨.same rfl, trivial⟩⟩, ⟨_, rfl, .boxL rfl ⟨.same rfl, trivial⟩⟩, ⟨_, rfl, .boxL rfl ⟨.same rfl, trivial⟩⟩, trivial⟩, rfl⟩
  ·
   have h := app1 hkx59 (Hb hi59 (Gy hb))
   refine H4 ?_
   refine hK12 _ _ ?_
   refine G2 ?_
   refine JLg (G0 ((i9 + 1 : Nat) : Int)) (Hd (idx_succ hk9 hm25) O O O) ?_
   refine JLg (G0 ((i9 + 1 : Nat) : Int)) (G7 O O) ?_
   refine G8 ?_
   exact e9 _ _ (i9 + 1) (s59.1, s59.2) (app1 hn9 h) (by omega) ⟨(by repeat' constructor), ⟨⟨_, rfl, .map⟩, ⟨_, rfl, .vec⟩, ⟨_, rfl, .boxL rfl ⟨.same rfl, trivial⟩⟩, ⟨_, rfl, .boxL rfl ⟨.same rfl, trivial⟩⟩, ⟨_, rfl, .boxL rfl ⟨.same rfl, trivial⟩⟩, trivial⟩, rfl⟩
 ·
  have h := app1 hkx9 (Hb hi9 (Gy hb))
  refine H4 ?_
  refine hK7 _ _ ?_
  refine G6 fun K70 hK70 => G2 ?_
  refine JLg (.vec 1102 s9.2.length 1 s9.2.length) (Ht Jt O O O O) ?_
  obtain ⟨r71, hr71, h⟩ := Ge h
  refine JLg (.tup []) (A_sortI (F := 60) (xs := s9.2) (r := r71) O sortILaw_60 sortINone_60 tf_call_60 O O O hr71 O) ?_
  refine G8 (hK70 _ _ ?_)
  refine G6 fun K72 hK72 => G2 ?_
  refine JLg (.vec 1102 s9.2.length 1 s9.2.length) (Ht Jt O O O O) ?_
  refine JLg (.vec 1102 s9.2.length 1 s9.2.length) (G9 O O) ?_
  refine G8 (hK72 _ _ ?_)
  refine JC_vfreeze [(6, LS 1 G0 r71)] [] 1102 rfl rfl trivial rfl (by exact ⟨.vec, trivial⟩) ?_
  refine Gq ?_
  exact ⟨[LS 1 G0 r71], [], trivial, O, ⟨⟨_, O, .conv (.same O)⟩, trivial⟩, O, congrArg (fun r : (List Int) => (LS 1 G0 r : AV)) (Option.some.inj h)⟩

def M_plan_Lifted (F : Nat) (s : Ship) (boxes : List Box) (before : List G3) (after : List G3) : Option ((List Int) × Int) :=
 bnd (M_stow_Right s boxes before) fun r4 =>
 bnd (bif (!(!r4)) then M_stow_Right s boxes after else some default) fun r5 =>
 bif ((!r4) || (!r5)) then
 (some ([], 2))
 else
 (bnd (M_plan_lifted F s before after) fun r8 =>
  some (r8, 0))
theorem M_plan_Lifted_w (F : Nat) (s : Ship) (boxes : List Box) (before : List G3) (after : List G3) (r : (List Int) × Int) (h : M_plan_Lifted F s boxes before after = some r) : Pure Tryz.prog 23 [.agg (Ship.cs s), LS 9 Box.av boxes, LS 4 G3.av before, LS 4 G3.av after] (· = .tup [LS 1 G0 r.1, G0 r.2]) := by
 unfold M_plan_Lifted at h
 refine Gx [.tmp 8, .tmp 9] Tryz.func23 O O ?_
 refine G6 fun K1 hK1 => G2 ?_
 refine JLg (.ptr 1067 0) (J1 (u := .agg (Ship.cs s)) (cs := (Ship.cs s)) 1067 O O O O O) ?_
 refine JLg (LS 1 G0 ([] : List Int)) (Hw 1 O O) ?_
 refine JLg (G0 0) (G9 O O) ?_
 refine G8 (hK1 _ _ ?_)
 refine Gm [(1, LS 9 Box.av boxes), (2, LS 4 G3.av before), (3, LS 4 G3.av after), (4, .dptr (Ship.cs s))] [] 1067 rfl rfl rfl trivial rfl (by repeat' (first | exact .ptr | constructor)) ?_
 refine G6 (fun K2 hK2 => ?_)
 refine G6 fun K3 hK3 => G2 ?_
 refine JLg (.agg (Ship.cs s)) (Gg H5 O O O) ?_
 refine JLg (LS 9 Box.av boxes) (G7 O O) ?_
 refine JLg (LS 4 G3.av before) (G7 O O) ?_
 obtain ⟨r4, hr4, h⟩ := Ge h
 refine JLg (BL r4) (Gr (args := [.agg (Ship.cs s), LS 9 Box.av boxes, LS 4 G3.av before]) O (M_stow_Right_w s boxes before r4 hr4) tf_call_28 ⟨O, O, O, O, O, O, trivial⟩) ?_
 refine JLg (BL (!r4)) (A_not (b := r4) O O) ?_
 refine JLg (BL (!r4)) (G7 O O) ?_
 refine Gd (u := .agg (Ship.cs s)) [] O O O .scf trivial (fun hc => Gg H5 O O O) ?_
 refine Gd (u := LS 9 Box.av boxes) [] O O O .scf trivial (fun hc => G7 O O) ?_
 refine Gd (u := LS 4 G3.av after) [] O O O .scf trivial (fun hc => G7 O O) ?_
 obtain ⟨r5, hr5, h⟩ := Ge h
 refine Gd (u := BL r5) [(16, .agg (Ship.cs s)), (17, LS 9 Box.av boxes), (18, LS 4 G3.av after)] O O O .scf ⟨.all id, .all id, .all id, trivial⟩ (fun hc => Gr (args := [.agg (Ship.cs s), LS 9 Box.av boxes, LS 4 G3.av after]) O (M_stow_Right_w s boxes after r5 (bif_t hc hr5)) tf_call_28 ⟨O, O, O, O, O, O, trivial⟩) ?_
 refine Gd (u := BL (!r5)) [(19, BL r5)] O O O .scf ⟨.all id, trivial⟩ (fun hc => A_not (b := r5) O O) ?_
 refine JLg (BL ((!r4) || (!r5))) (Q0 O O O O) ?_
 refine G8 (hK3 _ _ ?_)
 refine Gh O (fun hb => ?_) (fun hb => ?_)
 ·
  replace h := bif_t hb h
  refine G6 fun K6 hK6 => G2 ?_
  refine JLg (LS 1 G0 ([] : List Int)) (Hw 1 O O) ?_
  refine JLg (G0 2) (G9 O O) ?_
  refine G8 (hK6 _ _ ?_)
  refine Gq ?_
  exact ⟨[LS 1 G0 ([] : List Int), G0 2], [], trivial, O, ⟨⟨_, O, .conv (.same O)⟩, ⟨_, O, .conv (.same O)⟩, trivial⟩, O, congrArg (fun r : (List Int) × Int => (.tup [LS 1 G0 r.1, G0 r.2] : AV)) (Option.some.inj h)⟩
 ·
  replace h := bif_f hb h
  refine Gj ?_
  refine hK2 _ _ ?_
  refine G6 fun K7 hK7 => G2 ?_
  refine JLg (.agg (Ship.cs s)) (Gg H5 O O O) ?_
  refine JLg (LS 4 G3.av before) (G7 O O) ?_
  refine JLg (LS 4 G3.av after) (G7 O O) ?_
  obtain ⟨r8, hr8, h⟩ := Ge h
  refine JLg (LS 1 G0 r8) (Gr (args := [.agg (Ship.cs s), LS 4 G3.av before, LS 4 G3.av after]) O (M_plan_lifted_w F s before after r8 hr8) tf_call_39 ⟨O, O, O, O, O, O, trivial⟩) ?_
  refine JLg (LS 1 G0 r8) (G9 O O) ?_
  refine JLg (G0 0) (G9 O O) ?_
  refine G8 (hK7 _ _ ?_)
  refine Gq ?_
  exact ⟨[LS 1 G0 r8, G0 0], [], trivial, O, ⟨⟨_, O, .conv (.same O)⟩, ⟨_, O, .conv (.same O)⟩, trivial⟩, O, congrArg (fun r : (List Int) × Int => (.tup [LS 1 G0 r.1, G0 r.2] : AV)) (Option.some.inj h)⟩
end
end Go.Proofs.YtmdnkofmmheoaaaGreat
