/-
  Models of functions of the program, and that they return what the models say.
-/
import Derived.Test.YtpbhhakkhlfbnaaProg
import Derived.Test.YtpbhhakkhlfbnaaSortM
import Derived.Test.YtpbhhakkhlfbnaaSortLay
import Derived.Test.YtpbhhakkhlfbnaaRel
import Derived.Test.YtpbhhakkhlfbnaaXAa
import Derived.Test.YtpbhhakkhlfbnaaXA
import Derived.Test.YtpbhhakkhlfbnaaSpecA
import Derived.Test.YtpbhhakkhlfbnaaSpecG
import Derived.Test.YtpbhhakkhlfbnaaXB
import Derived.Test.YtpbhhakkhlfbnaaSpecB
import Derived.Test.YtpbhhakkhlfbnaaXC
set_option maxRecDepth 100000
set_option linter.unusedVariables false
set_option linter.unusedSimpArgs false
namespace Go.Proofs.Ytpbhhakkhlfbnaa
open Go.RowKit
noncomputable section
structure law07_Place where
  Bay : Int
  Row : Int
  Tiers : Int
  Deck : Bool
  deriving DecidableEq, Inhabited
def law07_Place.cs (x : law07_Place) : List AV := [U8 x.Bay, U8 x.Row, U8 x.Tiers, BL x.Deck]
def law07_Place.av (x : law07_Place) : AV := .agg x.cs
namespace XDF
open XAF
open XBF
open XCF
theorem tf_agg_69 : aggB Try.prog 69 4 = true := by kernel_rfl
theorem tf_bool_4 : boolB Try.prog 4 = true := by kernel_rfl
theorem tf_call_18 : callB Try.prog 18 = true := by kernel_rfl
theorem tf_call_35 : callB Try.prog 35 = true := by kernel_rfl
theorem tf_call_36 : callB Try.prog 36 = true := by kernel_rfl
theorem tf_call_8 : callB Try.prog 8 = true := by kernel_rfl
theorem tf_elem_73 : elemB Try.prog 73 2 32 = true := by kernel_rfl
theorem tf_field_69_0 : fieldB Try.prog 69 0 0 = true := by kernel_rfl
theorem tf_field_69_1 : fieldB Try.prog 69 1 1 = true := by kernel_rfl
theorem tf_field_69_2 : fieldB Try.prog 69 2 2 = true := by kernel_rfl
theorem tf_field_69_3 : fieldB Try.prog 69 3 3 = true := by kernel_rfl
theorem tf_int_36 : intB Try.prog 36 .u16 = true := by kernel_rfl
theorem tf_int_5 : intB Try.prog 5 .u8 = true := by kernel_rfl
theorem tf_places_73 : placesOf Try.prog 73 = some [(0, 1), (1, 1)] := by kernel_rfl
theorem tf_size_38 : sizeB Try.prog 38 1 = true := by kernel_rfl
theorem tf_size_69 : sizeB Try.prog 69 4 = true := by kernel_rfl
theorem tf_slice_34 : sliceB Try.prog 34 69 4 = true := by kernel_rfl
theorem tf_zero_73 : (Try.prog.info? 73).bind (fun i => i.zero.map Value.cells) = some (List.toArray [.int .i64 0, .slice none 0 0]) := by kernel_rfl
theorem tf_zsize_47 : zsizeB Try.prog 47 13 = true := by kernel_rfl
theorem tf_zsize_69 : zsizeB Try.prog 69 4 = true := by kernel_rfl
end XDF
open XAF
open XBF
open XCF
open XDF

def M_ship_Find_1 (c : Column) (p1 : Int) (p2 : Int) (p3 : Bool) : Option Bool :=
  some (((decide (c.Bay = p1)) && (decide (c.Row = p2))) && (c.Deck == p3))
theorem M_ship_Find_1_w (c : Column) (p1 : Int) (p2 : Int) (p3 : Bool) (r : Bool) (h : M_ship_Find_1 c p1 p2 p3 = some r) : Pure Try.prog 36 [.agg (Column.cs c), .dptr [I64 p1], .dptr [I64 p2], .dptr [BL p3]] (· = BL r) := by
  unfold M_ship_Find_1 at h
  refine Pure_ofG [.tmp 5] Try.func36 rfl rfl ?_
  refine JC_seq (fun K1 hK1 => ?_)
  refine JC_region ?_
  refine JL_go (u := .ptr 370000004 0) (A_box (u := .agg (Column.cs c)) (cs := [I64 c.Bay, I64 c.Row, BL c.Deck, I64 c.Tiers, I64 c.Height, I64 c.Kilos20, I64 c.Kilos40, I64 c.Lash, LS 1 I64 c.Plugs, I64 c.X, I64 c.Y, I64 c.Z]) 370000004 rfl rfl rfl rfl rfl) ?_ rfl rfl rfl
  refine JL_go (u := BL false) (A_assign rfl rfl) ?_ rfl rfl rfl
  refine JL_nil ?_
  refine hK1 _ _ ?_
  refine JC_freeze [(1, .dptr [I64 p1]), (2, .dptr [I64 p2]), (3, .dptr [BL p3]), (4, .dptr (Column.cs c))] [] 370000004 rfl rfl rfl trivial rfl (by exact ⟨.conv (.same rfl), .conv (.same rfl), .conv (.same rfl), .ptr, trivial⟩) ?_
  refine JC_seq (fun K2 hK2 => ?_)
  refine JC_region ?_
  refine JL_go (u := .dptr (Column.cs c)) (A_fieldM tf_field_54_0 rfl rfl rfl) ?_ rfl rfl rfl
  refine JL_go (u := I64 c.Bay) (A_load tf_scalar_3 rfl rfl rfl) ?_ rfl rfl rfl
  refine JL_go (u := I64 p1) (A_load tf_scalar_3 rfl rfl rfl) ?_ rfl rfl rfl
  refine JL_go (u := BL (decide (c.Bay = p1))) (A_eql rfl rfl rfl) ?_ rfl rfl rfl
  refine JL_go (u := BL (decide (c.Bay = p1))) (A_move rfl rfl) ?_ rfl rfl rfl
  refine JL_opt (u := .dptr ((Column.cs c).drop 1)) [] rfl rfl rfl .sct trivial (fun hc => A_fieldM tf_field_54_1 rfl rfl rfl) ?_ rfl rfl rfl
  refine JL_opt (u := I64 c.Row) [(11, .dptr ((Column.cs c).drop 1))] rfl rfl rfl .sct ⟨.all id, trivial⟩ (fun hc => A_load tf_scalar_3 rfl rfl rfl) ?_ rfl rfl rfl
  refine JL_opt (u := I64 p2) [] rfl rfl rfl .sct trivial (fun hc => A_load tf_scalar_3 rfl rfl rfl) ?_ rfl rfl rfl
  refine JL_opt (u := BL (decide (c.Row = p2))) [(12, I64 c.Row), (13, I64 p2)] rfl rfl rfl .sct ⟨.all id, .all id, trivial⟩ (fun hc => A_eql rfl rfl rfl) ?_ rfl rfl rfl
  refine JL_go (u := BL ((decide (c.Bay = p1)) && (decide (c.Row = p2)))) (A_and rfl rfl rfl rfl) ?_ rfl rfl rfl
  refine JL_go (u := BL ((decide (c.Bay = p1)) && (decide (c.Row = p2)))) (A_move rfl rfl) ?_ rfl rfl rfl
  refine JL_opt (u := .dptr ((Column.cs c).drop 2)) [] rfl rfl rfl .sct trivial (fun hc => A_fieldM tf_field_54_2 rfl rfl rfl) ?_ rfl rfl rfl
  refine JL_opt (u := BL c.Deck) [(17, .dptr ((Column.cs c).drop 2))] rfl rfl rfl .sct ⟨.all id, trivial⟩ (fun hc => A_load tf_scalar_4 rfl rfl rfl) ?_ rfl rfl rfl
  refine JL_opt (u := BL p3) [] rfl rfl rfl .sct trivial (fun hc => A_load tf_scalar_4 rfl rfl rfl) ?_ rfl rfl rfl
  refine JL_opt (u := BL (c.Deck == p3)) [(18, BL c.Deck), (19, BL p3)] rfl rfl rfl .sct ⟨.all id, .all id, trivial⟩ (fun hc => A_eqBool tf_bool_4 rfl rfl rfl) ?_ rfl rfl rfl
  refine JL_go (u := BL (((decide (c.Bay = p1)) && (decide (c.Row = p2))) && (c.Deck == p3))) (A_and rfl rfl rfl rfl) ?_ rfl rfl rfl
  refine JL_go (u := BL (((decide (c.Bay = p1)) && (decide (c.Row = p2))) && (c.Deck == p3))) (A_assign rfl rfl) ?_ rfl rfl rfl
  refine JL_nil ?_
  refine hK2 _ _ ?_
  refine JC_ret ?_
  exact ⟨[BL (((decide (c.Bay = p1)) && (decide (c.Row = p2))) && (c.Deck == p3))], [], trivial, rfl, ⟨⟨_, rfl, .conv (.same rfl)⟩, trivial⟩, rfl, congrArg (fun r : Bool => (BL r : AV)) (Option.some.inj h)⟩

def M_ship_chosen_apiColumn (l : List Column) (wanted : Column → Option Bool) : Option (List Int) :=
  each (fun y21 i21 (s21 : (List Int)) nx21 =>
    jp (fun kj24 =>
      bnd (wanted y21) fun r27 =>
      bif r27 then
      (need (decide ((s21.length + [(i21 : Int)].length) * 8 ≤ 140737488355328 ∧ s21.length + [(i21 : Int)].length ≤ maxLen)) <|
        kj24 (s21 ++ [(i21 : Int)]))
      else
      (kj24 s21)) fun (j24 : (List Int)) =>
    nx21 j24)
  (fun (s21 : (List Int)) =>
    some s21) l 0 []
theorem M_ship_chosen_apiColumn_w (l : List Column) (wanted : Column → Option Bool) (wanted_f : FuncId) (wanted_c : List AV) (wanted_B : callB Try.prog wanted_f = true) (wanted_d : refsL (fun _ => false) wanted_c = true) (wanted_w : ∀ a0 q, wanted a0 = some q → Pure Try.prog wanted_f ([.agg (Column.cs a0)] ++ wanted_c) (· = BL q)) (r : (List Int)) (h : M_ship_chosen_apiColumn l wanted = some r) : Pure Try.prog 35 [LS 12 Column.av l, .fn wanted_f wanted_c] (· = LS 1 I64 r) := by
  unfold M_ship_chosen_apiColumn at h
  refine Pure_ofG [.tmp 4] Try.func35 rfl rfl ?_
  refine JC_seq (fun K1 hK1 => ?_)
  refine JC_region ?_
  refine JL_go (u := LS 1 I64 ([] : List Int)) (A_nilList 1 rfl rfl) ?_ rfl rfl rfl
  refine JL_nil ?_
  refine hK1 _ _ ?_
  refine JC_seq (fun K2 hK2 => ?_)
  refine JC_region ?_
  refine JL_go (u := OW 360000005 1 I64 ([] : List Int)) (A_nilOwn 360000005 3 1 rfl rfl rfl) ?_ rfl rfl rfl
  refine JL_nil ?_
  refine hK2 _ _ ?_
  refine JC_seq (fun K3 hK3 => ?_)
  refine JC_seq (fun K4 hK4 => ?_)
  refine JC_region ?_
  refine JL_go (u := LS 12 Column.av l) (A_move rfl rfl) ?_ rfl rfl rfl
  refine JL_lenM (f := Column.av) (xs := l) tf_slice_37 rfl rfl (fun hm9 => ?_) rfl rfl rfl
  refine JL_go (u := I64 0) (A_move rfl rfl) ?_ rfl rfl rfl
  refine JL_nil ?_
  refine hK4 _ _ ?_
  refine JC_block ?_
  obtain ⟨b21, kx21, hb21, hkx21, h⟩ := each_in h
  refine JC_loop2 (fun i21 (s21 : (List Int)) => each b21 kx21 (List.drop i21 l) i21 s21 = some r) (fun i21 s21 => [(1, .fn wanted_f wanted_c), (5, OW 360000005 1 I64 s21), (8, LS 12 Column.av l), (9, I64 (l.length : Int)), (10, I64 (i21 : Int))]) (fun i21 s21 => [(360000005, .spare 3 1 s21.length s21.length)]) (fun i21 => l.length - i21) 0 [] h ⟨⟨.same (refsL_any _ _ wanted_d), .same rfl, .same rfl, .same rfl, .same rfl, trivial⟩, ⟨⟨_, rfl, .same⟩, trivial⟩, rfl⟩ ?_
  clear h
  intro i21 s21 hi21 K21 e21
  refine JC_seq (fun K22 hK22 => ?_)
  refine JC_region ?_
  refine JL_go (u := BL (decide ((i21 : Int) < (l.length : Int)))) (A_lss rfl rfl rfl) ?_ rfl rfl rfl
  refine JL_nil ?_
  refine hK22 _ _ ?_
  refine JC_seq (fun K23 hK23 => ?_)
  refine JC_cond rfl (fun hb => ?_) (fun hb => ?_)
  ·
    have hk21 := lt_len hb
    obtain ⟨y21, nx21, hy21, hn21, h⟩ := each_out hi21 hk21
    replace h := app4 hb21 h
    refine JC_skip ?_
    refine hK23 _ _ ?_
    obtain ⟨kj24, hkj24, h⟩ := jp_out h
    refine JC_seqJ (fun j24 : (List Int) => kj24 j24 = some r) (fun j24 => [(1, .fn wanted_f wanted_c), (5, OW 360000005 1 I64 j24), (8, LS 12 Column.av l), (9, I64 (l.length : Int)), (10, I64 (i21 : Int))]) (fun j24 => [(360000005, .spare 3 1 j24.length j24.length)]) (fun Kj24 ej24 => ?_) ?_
    ·
      refine JC_block ?_
      refine JC_seq (fun K25 hK25 => ?_)
      refine JC_region ?_
      refine JL_go (u := I64 (i21 : Int)) (A_move rfl rfl) ?_ rfl rfl rfl
      refine JL_go (u := .dptr (Column.cs y21)) (A_indexM (f := Column.av) (xs := l) (y := y21) rfl rfl rfl tf_slice_37 hy21 rfl) ?_ rfl rfl rfl
      refine JL_go (u := .agg (Column.cs y21)) (A_loadAgg tf_agg_54 rfl rfl rfl) ?_ rfl rfl rfl
      refine JL_go (u := .ptr 360000007 0) (A_allocJ 360000007 12 tf_zsize_54 rfl rfl) ?_ rfl rfl rfl
      refine JL_go (u := I64 (i21 : Int)) (A_assign rfl rfl) ?_ rfl rfl rfl
      refine JL_go0 (u := .junk) (A_store (u := .agg (Column.cs y21)) (ds := [I64 y21.Bay, I64 y21.Row, BL y21.Deck, I64 y21.Tiers, I64 y21.Height, I64 y21.Kilos20, I64 y21.Kilos40, I64 y21.Lash, LS 1 I64 y21.Plugs, I64 y21.X, I64 y21.Y, I64 y21.Z]) tf_size_54 rfl rfl rfl rfl rfl rfl rfl rfl) ?_ rfl rfl
      refine JL_nil ?_
      refine hK25 _ _ ?_
      refine JC_freeze [(1, .fn wanted_f wanted_c), (5, OW 360000005 1 I64 s21), (6, I64 (i21 : Int)), (7, .dptr (Column.cs y21)), (8, LS 12 Column.av l), (9, I64 (l.length : Int)), (10, I64 (i21 : Int))] [(360000005, .spare 3 1 s21.length s21.length)] 360000007 rfl rfl rfl ⟨⟨_, rfl, .same⟩, trivial⟩ rfl (by exact ⟨.conv (.same (refsL_any _ _ wanted_d)), .conv (.same rfl), .conv (.same rfl), .ptr, .conv (.same rfl), .conv (.same rfl), .conv (.same rfl), trivial⟩) ?_
      refine JC_seq (fun K26 hK26 => ?_)
      refine JC_region ?_
      refine JL_go (u := .fn wanted_f wanted_c) (A_move rfl rfl) ?_ rfl rfl rfl
      refine JL_go (u := .agg (Column.cs y21)) (A_loadAgg tf_agg_54 rfl rfl rfl) ?_ rfl rfl rfl
      obtain ⟨r27, hr27, h⟩ := bnd_out h
      refine JL_go (u := BL r27) (A_callV1 (args := [.agg (Column.cs y21)]) (caps := wanted_c) rfl rfl (wanted_w y21 _ hr27) wanted_B ⟨rfl, rfl, trivial⟩ wanted_d) ?_ rfl rfl rfl
      refine JL_nil ?_
      refine hK26 _ _ ?_
      refine JC_cond rfl (fun hb => ?_) (fun hb => ?_)
      ·
        replace h := bif_t hb h
        refine JC_region ?_
        refine JL_go (u := OW 360000005 1 I64 s21) (A_move rfl rfl) ?_ rfl rfl rfl
        refine JL_go (u := I64 (i21 : Int)) (A_move rfl rfl) ?_ rfl rfl rfl
        refine JL_go (u := LS 1 I64 [(i21 : Int)]) (A_buildSlice (xs := [I64 (i21 : Int)]) rfl ⟨rfl, rfl, trivial⟩ tf_slice_52 tf_zsize_3 rfl rfl rfl rfl) ?_ rfl rfl rfl
        obtain ⟨ha28, h⟩ := need_out h
        refine JL_go (u := OW 360000005 1 I64 (s21 ++ [(i21 : Int)])) (A_appendM (f := I64) (xs := s21) (ys := [(i21 : Int)]) rfl rfl rfl rfl tf_slice_52 tf_elem_3 ha28 (fun _ => rfl) (.inl rfl) rfl) ?_ rfl rfl rfl
        refine JL_go (u := OW 360000005 1 I64 (s21 ++ [(i21 : Int)])) (A_assign rfl rfl) ?_ rfl rfl rfl
        refine JL_nil ?_
        exact ej24 _ _ (s21 ++ [(i21 : Int)]) h ⟨⟨.same (refsL_any _ _ wanted_d), .same rfl, .same rfl, .same rfl, .same rfl, trivial⟩, ⟨⟨_, rfl, .same⟩, trivial⟩, rfl⟩
      ·
        replace h := bif_f hb h
        refine JC_skip ?_
        exact ej24 _ _ s21 h ⟨⟨.same (refsL_any _ _ wanted_d), .same rfl, .same rfl, .same rfl, .same rfl, trivial⟩, ⟨⟨_, rfl, .same⟩, trivial⟩, rfl⟩
    · intro j24 h
      replace h := app1 hkj24 h
      refine JC_region ?_
      refine JL_go (u := I64 ((i21 + 1 : Nat) : Int)) (A_add (idx_succ hk21 hm9) rfl rfl rfl) ?_ rfl rfl rfl
      refine JL_go (u := I64 ((i21 + 1 : Nat) : Int)) (A_move rfl rfl) ?_ rfl rfl rfl
      refine JL_nil ?_
      exact e21 _ _ (i21 + 1) j24 (app1 hn21 h) (by omega) ⟨⟨.same (refsL_any _ _ wanted_d), .same rfl, .same rfl, .same rfl, .same rfl, trivial⟩, ⟨⟨_, rfl, .same⟩, trivial⟩, rfl⟩
  ·
    have h := app1 hkx21 (each_nil hi21 (not_lt_len hb))
    refine JC_exit ?_
    refine hK3 _ _ ?_
    refine JC_seq (fun K29 hK29 => ?_)
    refine JC_region ?_
    refine JL_go (u := OW 360000005 1 I64 s21) (A_move rfl rfl) ?_ rfl rfl rfl
    refine JL_go (u := OW 360000005 1 I64 s21) (A_assign rfl rfl) ?_ rfl rfl rfl
    refine JL_nil ?_
    refine hK29 _ _ ?_
    refine JC_ret ?_
    exact ⟨[LS 1 I64 s21], [], trivial, rfl, ⟨⟨_, rfl, .conv (.list rfl)⟩, trivial⟩, rfl, congrArg (fun r : (List Int) => (LS 1 I64 r : AV)) (Option.some.inj h)⟩

def M_ship_Find (s : Ship) (bay : Int) (row : Int) (deck : Bool) : Option (Int × Bool) :=
  bnd (M_ship_chosen_apiColumn s.Columns (fun z0 => M_ship_Find_1 z0 bay row deck)) fun r3 =>
  bif decide ((r3.length : Int) = 0) then
  (some (0, false))
  else
  (gidx r3 0 fun y8 =>
    some (y8, true))
theorem M_ship_Find_w (s : Ship) (bay : Int) (row : Int) (deck : Bool) (r : Int × Bool) (h : M_ship_Find s bay row deck = some r) : Pure Try.prog 18 [.agg (Ship.cs s), I64 bay, I64 row, BL deck] (· = .tup [I64 r.1, BL r.2]) := by
  unfold M_ship_Find at h
  refine Pure_ofG [.tmp 8, .tmp 9] Try.func18 rfl rfl ?_
  refine JC_seq (fun K1 hK1 => ?_)
  refine JC_region ?_
  refine JL_go (u := .ptr 190000004 0) (A_box (u := .agg (Ship.cs s)) (cs := [LS 12 Column.av s.Columns, LS 2 Cover.av s.Covers, I64 s.Light.Kilos, I64 s.Light.X, I64 s.Light.Y, I64 s.Light.Z, LS 5 Row.av s.Rows, LS 5 Frame.av s.Frames, LS 6 Tank.av s.Tanks, I64 s.Limits.Tolerance, I64 s.Limits.Trim, I64 s.Limits.List_, I64 s.Limits.Stability]) 190000004 rfl rfl rfl rfl rfl) ?_ rfl rfl rfl
  refine JL_go (u := .ptr 190000005 0) (A_box (u := I64 bay) (cs := [I64 bay]) 190000005 rfl rfl rfl rfl rfl) ?_ rfl rfl rfl
  refine JL_go (u := .ptr 190000006 0) (A_box (u := I64 row) (cs := [I64 row]) 190000006 rfl rfl rfl rfl rfl) ?_ rfl rfl rfl
  refine JL_go (u := .ptr 190000007 0) (A_box (u := BL deck) (cs := [BL deck]) 190000007 rfl rfl rfl rfl rfl) ?_ rfl rfl rfl
  refine JL_go (u := I64 0) (A_assign rfl rfl) ?_ rfl rfl rfl
  refine JL_go (u := BL false) (A_assign rfl rfl) ?_ rfl rfl rfl
  refine JL_nil ?_
  refine hK1 _ _ ?_
  refine JC_freeze [(4, .dptr (Ship.cs s)), (5, .ptr 190000005 0), (6, .ptr 190000006 0), (7, .ptr 190000007 0)] [(190000005, .box 3 [I64 bay]), (190000006, .box 3 [I64 row]), (190000007, .box 4 [BL deck])] 190000004 rfl rfl rfl ⟨⟨_, rfl, .boxEq rfl rfl⟩, ⟨_, rfl, .boxEq rfl rfl⟩, ⟨_, rfl, .boxEq rfl rfl⟩, trivial⟩ rfl (by exact ⟨.ptr, .conv (.same rfl), .conv (.same rfl), .conv (.same rfl), trivial⟩) ?_
  refine JC_freeze [(4, .dptr (Ship.cs s)), (5, .dptr [I64 bay]), (6, .ptr 190000006 0), (7, .ptr 190000007 0)] [(190000006, .box 3 [I64 row]), (190000007, .box 4 [BL deck])] 190000005 rfl rfl rfl ⟨⟨_, rfl, .boxEq rfl rfl⟩, ⟨_, rfl, .boxEq rfl rfl⟩, trivial⟩ rfl (by exact ⟨.conv (.same rfl), .ptr, .conv (.same rfl), .conv (.same rfl), trivial⟩) ?_
  refine JC_freeze [(4, .dptr (Ship.cs s)), (5, .dptr [I64 bay]), (6, .dptr [I64 row]), (7, .ptr 190000007 0)] [(190000007, .box 4 [BL deck])] 190000006 rfl rfl rfl ⟨⟨_, rfl, .boxEq rfl rfl⟩, trivial⟩ rfl (by exact ⟨.conv (.same rfl), .conv (.same rfl), .ptr, .conv (.same rfl), trivial⟩) ?_
  refine JC_freeze [(4, .dptr (Ship.cs s)), (5, .dptr [I64 bay]), (6, .dptr [I64 row]), (7, .dptr [BL deck])] [] 190000007 rfl rfl rfl trivial rfl (by exact ⟨.conv (.same rfl), .conv (.same rfl), .conv (.same rfl), .ptr, trivial⟩) ?_
  refine JC_seq (fun K2 hK2 => ?_)
  refine JC_region ?_
  refine JL_go (u := .dptr (Ship.cs s)) (A_fieldM tf_field_47_0 rfl rfl rfl) ?_ rfl rfl rfl
  refine JL_go (u := LS 12 Column.av s.Columns) (A_load tf_scalar_37 rfl rfl rfl) ?_ rfl rfl rfl
  refine JL_go (u := .fn 36 [.dptr [I64 bay], .dptr [I64 row], .dptr [BL deck]]) (A_makeFunc (cs := [.dptr [I64 bay], .dptr [I64 row], .dptr [BL deck]]) rfl rfl) ?_ rfl rfl rfl
  obtain ⟨r3, hr3, h⟩ := bnd_out h
  refine JL_go (u := LS 1 I64 r3) (A_call1 (args := [LS 12 Column.av s.Columns, .fn 36 [.dptr [I64 bay], .dptr [I64 row], .dptr [BL deck]]]) rfl (M_ship_chosen_apiColumn_w s.Columns (fun z0 => M_ship_Find_1 z0 bay row deck) 36 [.dptr [I64 bay], .dptr [I64 row], .dptr [BL deck]] tf_call_36 rfl (fun z0 q hq => M_ship_Find_1_w z0 bay row deck q hq) r3 hr3) tf_call_35 ⟨rfl, rfl, rfl, rfl, trivial⟩) ?_ rfl rfl rfl
  refine JL_go (u := LS 1 I64 r3) (A_assign rfl rfl) ?_ rfl rfl rfl
  refine JL_nil ?_
  refine hK2 _ _ ?_
  refine JC_seq (fun K4 hK4 => ?_)
  refine JC_seq (fun K5 hK5 => ?_)
  refine JC_region ?_
  refine JL_go (u := LS 1 I64 r3) (A_move rfl rfl) ?_ rfl rfl rfl
  refine JL_lenM (f := I64) (xs := r3) tf_slice_52 rfl rfl (fun hm16 => ?_) rfl rfl rfl
  refine JL_go (u := BL (decide ((r3.length : Int) = 0))) (A_eql rfl rfl rfl) ?_ rfl rfl rfl
  refine JL_nil ?_
  refine hK5 _ _ ?_
  refine JC_cond rfl (fun hb => ?_) (fun hb => ?_)
  ·
    replace h := bif_t hb h
    refine JC_seq (fun K6 hK6 => ?_)
    refine JC_region ?_
    refine JL_go (u := I64 0) (A_assign rfl rfl) ?_ rfl rfl rfl
    refine JL_go (u := BL false) (A_assign rfl rfl) ?_ rfl rfl rfl
    refine JL_nil ?_
    refine hK6 _ _ ?_
    refine JC_ret ?_
    exact ⟨[I64 0, BL false], [], trivial, rfl, ⟨⟨_, rfl, .conv (.same rfl)⟩, ⟨_, rfl, .conv (.same rfl)⟩, trivial⟩, rfl, congrArg (fun r : Int × Bool => (.tup [I64 r.1, BL r.2] : AV)) (Option.some.inj h)⟩
  ·
    replace h := bif_f hb h
    refine JC_skip ?_
    refine hK4 _ _ ?_
    refine JC_seq (fun K7 hK7 => ?_)
    refine JC_region ?_
    refine JL_go (u := LS 1 I64 r3) (A_move rfl rfl) ?_ rfl rfl rfl
    obtain ⟨m9, y8, hm9, hy8, h⟩ := gidx_out h
    refine JL_go (u := .dptr [I64 y8]) (A_indexM (f := I64) (xs := r3) (y := y8) rfl rfl rfl tf_slice_52 hy8 hm9) ?_ rfl rfl rfl
    refine JL_go (u := I64 y8) (A_load tf_scalar_3 rfl rfl rfl) ?_ rfl rfl rfl
    refine JL_go (u := I64 y8) (A_assign rfl rfl) ?_ rfl rfl rfl
    refine JL_go (u := BL true) (A_assign rfl rfl) ?_ rfl rfl rfl
    refine JL_nil ?_
    refine hK7 _ _ ?_
    refine JC_ret ?_
    exact ⟨[I64 y8, BL true], [], trivial, rfl, ⟨⟨_, rfl, .conv (.same rfl)⟩, ⟨_, rfl, .conv (.same rfl)⟩, trivial⟩, rfl, congrArg (fun r : Int × Bool => (.tup [I64 r.1, BL r.2] : AV)) (Option.some.inj h)⟩

def M_twistlocklaw07_Built (l : List law07_Place) (covers : Int) : Option Ship :=
  bnd (natIn (min (l.length : Int) 12) l.length) fun m5 =>
  each (fun y106 i106 (s106 : (List Column) × (List Cover) × Int × Int × Int × Int × (List Row) × (List Frame) × (List Tank) × Int × Int × Int × Int) nx106 =>
    jp (fun kj109 =>
      chk (y106.Bay) fun v112 =>
      bnd (rem64 v112 5) fun v113 =>
      chk (y106.Row) fun v114 =>
      bnd (rem64 v114 5) fun v115 =>
      chk (y106.Tiers) fun v116 =>
      bnd (rem64 v116 4) fun v117 =>
      chk (2 + v117) fun v118 =>
      chk (13000 * v113) fun v120 =>
      chk (v120 - 26000) fun v121 =>
      chk (2500 * v115) fun v122 =>
      chk (v122 - 5000) fun v123 =>
      jp (fun kj124 =>
        bif y106.Deck then
        (kj124 20000)
        else
        (kj124 2000)) fun (j124 : Int) =>
      bnd (M_ship_Find (Ship.mk s106.1 s106.2.1 (Light.mk s106.2.2.1 s106.2.2.2.1 s106.2.2.2.2.1 s106.2.2.2.2.2.1) s106.2.2.2.2.2.2.1 s106.2.2.2.2.2.2.2.1 s106.2.2.2.2.2.2.2.2.1 (Limits.mk s106.2.2.2.2.2.2.2.2.2.1 s106.2.2.2.2.2.2.2.2.2.2.1 s106.2.2.2.2.2.2.2.2.2.2.2.1 s106.2.2.2.2.2.2.2.2.2.2.2.2)) v113 v115 y106.Deck) fun r127 =>
      bif (!r127.2) then
      (need (decide ((s106.1.length + [(Column.mk v113 v115 y106.Deck v118 0 500000000 500000000 0 [] v121 v123 j124)].length) * 112 ≤ 140737488355328 ∧ s106.1.length + [(Column.mk v113 v115 y106.Deck v118 0 500000000 500000000 0 [] v121 v123 j124)].length ≤ maxLen)) <|
        kj109 (s106.1 ++ [(Column.mk v113 v115 y106.Deck v118 0 500000000 500000000 0 [] v121 v123 j124)]))
      else
      (kj109 s106.1)) fun (j109 : (List Column)) =>
    nx106 (j109, s106.2.1, s106.2.2.1, s106.2.2.2.1, s106.2.2.2.2.1, s106.2.2.2.2.2.1, s106.2.2.2.2.2.2.1, s106.2.2.2.2.2.2.2.1, s106.2.2.2.2.2.2.2.2.1, s106.2.2.2.2.2.2.2.2.2.1, s106.2.2.2.2.2.2.2.2.2.2.1, s106.2.2.2.2.2.2.2.2.2.2.2.1, s106.2.2.2.2.2.2.2.2.2.2.2.2))
  (fun (s106 : (List Column) × (List Cover) × Int × Int × Int × Int × (List Row) × (List Frame) × (List Tank) × Int × Int × Int × Int) =>
    jp (fun kj130 =>
      bif decide ((s106.1.length : Int) = 0) then
      (kj130 ([(Column.mk 0 0 false 3 0 500000000 500000000 0 [] 0 0 2000)]))
      else
      (kj130 s106.1)) fun (j130 : (List Column)) =>
    need (decide (5 ≤ 9223372036854775807)) <|
    upto (fun i200 (s200 : (List Column) × (List Cover) × Int × Int × Int × Int × (List Row) × (List Frame) × (List Tank) × Int × Int × Int × Int) nx200 =>
      jp (fun kj203 =>
        jp (fun kj204 =>
          chk (2 * (i200 : Int)) fun v206 =>
          bnd (natIn v206 4294967295) fun m207 =>
          bif decide ((band .u32 (shrN .u32 covers m207) 1) = 1) then
          (need (decide ((s200.2.1.length + [(Cover.mk (i200 : Int) [0, 1])].length) * 32 ≤ 140737488355328 ∧ s200.2.1.length + [(Cover.mk (i200 : Int) [0, 1])].length ≤ maxLen)) <|
            kj204 (s200.2.1 ++ [(Cover.mk (i200 : Int) [0, 1])]))
          else
          (kj204 s200.2.1)) fun (j204 : (List Cover)) =>
        chk (2 * (i200 : Int)) fun v210 =>
        chk (v210 + 1) fun v211 =>
        bnd (natIn v211 4294967295) fun m212 =>
        bif decide ((band .u32 (shrN .u32 covers m212) 1) = 1) then
        (need (decide ((j204.length + [(Cover.mk (i200 : Int) [2, 3, 4])].length) * 32 ≤ 140737488355328 ∧ j204.length + [(Cover.mk (i200 : Int) [2, 3, 4])].length ≤ maxLen)) <|
          kj203 (j204 ++ [(Cover.mk (i200 : Int) [2, 3, 4])]))
        else
        (kj203 j204)) fun (j203 : (List Cover)) =>
      nx200 (s200.1, j203, s200.2.2.1, s200.2.2.2.1, s200.2.2.2.2.1, s200.2.2.2.2.2.1, s200.2.2.2.2.2.2.1, s200.2.2.2.2.2.2.2.1, s200.2.2.2.2.2.2.2.2.1, s200.2.2.2.2.2.2.2.2.2.1, s200.2.2.2.2.2.2.2.2.2.2.1, s200.2.2.2.2.2.2.2.2.2.2.2.1, s200.2.2.2.2.2.2.2.2.2.2.2.2))
    (fun (s200 : (List Column) × (List Cover) × Int × Int × Int × Int × (List Row) × (List Frame) × (List Tank) × Int × Int × Int × Int) =>
      some (Ship.mk s200.1 s200.2.1 (Light.mk s200.2.2.1 s200.2.2.2.1 s200.2.2.2.2.1 s200.2.2.2.2.2.1) s200.2.2.2.2.2.2.1 s200.2.2.2.2.2.2.2.1 s200.2.2.2.2.2.2.2.2.1 (Limits.mk s200.2.2.2.2.2.2.2.2.2.1 s200.2.2.2.2.2.2.2.2.2.2.1 s200.2.2.2.2.2.2.2.2.2.2.2.1 s200.2.2.2.2.2.2.2.2.2.2.2.2))) (5 : Int).toNat 0 (j130, s106.2.1, s106.2.2.1, s106.2.2.2.1, s106.2.2.2.2.1, s106.2.2.2.2.2.1, s106.2.2.2.2.2.2.1, s106.2.2.2.2.2.2.2.1, s106.2.2.2.2.2.2.2.2.1, s106.2.2.2.2.2.2.2.2.2.1, s106.2.2.2.2.2.2.2.2.2.2.1, s106.2.2.2.2.2.2.2.2.2.2.2.1, s106.2.2.2.2.2.2.2.2.2.2.2.2)) (l.take m5) 0 ([], [], 0, 0, 0, 0, [], [], [], 0, 0, 0, 0)
theorem M_twistlocklaw07_Built_w (l : List law07_Place) (covers : Int) (r : Ship) (h : M_twistlocklaw07_Built l covers = some r) : Pure Try.prog 8 [LS 4 law07_Place.av l, .sc (.int .u32 covers)] (· = .agg (Ship.cs r)) := by
  unfold M_twistlocklaw07_Built at h
  refine Pure_ofG [.cell 4 47] Try.func8 rfl rfl ?_
  refine JC_seq (fun K1 hK1 => ?_)
  refine JC_region ?_
  refine JL_go (u := .ptr 90000004 0) (A_allocZ 90000004 [LS 12 Column.av ([] : List Column), LS 2 Cover.av ([] : List Cover), I64 0, I64 0, I64 0, I64 0, LS 5 Row.av ([] : List Row), LS 5 Frame.av ([] : List Frame), LS 6 Tank.av ([] : List Tank), I64 0, I64 0, I64 0, I64 0] [.slice none 0 0, .slice none 0 0, .int .i64 0, .int .i64 0, .int .i64 0, .int .i64 0, .slice none 0 0, .slice none 0 0, .slice none 0 0, .int .i64 0, .int .i64 0, .int .i64 0, .int .i64 0] tf_zero_47 ⟨.inr ⟨_, rfl, rfl⟩, .inr ⟨_, rfl, rfl⟩, .inl rfl, .inl rfl, .inl rfl, .inl rfl, .inr ⟨_, rfl, rfl⟩, .inr ⟨_, rfl, rfl⟩, .inr ⟨_, rfl, rfl⟩, .inl rfl, .inl rfl, .inl rfl, .inl rfl, trivial⟩ rfl rfl) ?_ rfl rfl rfl
  refine JL_nil ?_
  refine hK1 _ _ ?_
  refine JC_seq (fun K2 hK2 => ?_)
  refine JC_region ?_
  refine JL_go (u := .ptr 90000005 0) (A_allocZ 90000005 [.sc (.slice none 0 0), .sc (.slice none 0 0), I64 0, I64 0, I64 0, I64 0, LS 5 Row.av ([] : List Row), LS 5 Frame.av ([] : List Frame), LS 6 Tank.av ([] : List Tank), I64 0, I64 0, I64 0, I64 0] [.slice none 0 0, .slice none 0 0, .int .i64 0, .int .i64 0, .int .i64 0, .int .i64 0, .slice none 0 0, .slice none 0 0, .slice none 0 0, .int .i64 0, .int .i64 0, .int .i64 0, .int .i64 0] tf_zero_47 ⟨.inl rfl, .inl rfl, .inl rfl, .inl rfl, .inl rfl, .inl rfl, .inr ⟨_, rfl, rfl⟩, .inr ⟨_, rfl, rfl⟩, .inr ⟨_, rfl, rfl⟩, .inl rfl, .inl rfl, .inl rfl, .inl rfl, trivial⟩ rfl rfl) ?_ rfl rfl rfl
  refine JL_ownCell 90000005 0 90006000 54 12 rfl rfl rfl (cs' := [OW 90006000 12 Column.av ([] : List Column), .sc (.slice none 0 0), I64 0, I64 0, I64 0, I64 0, LS 5 Row.av ([] : List Row), LS 5 Frame.av ([] : List Frame), LS 6 Tank.av ([] : List Tank), I64 0, I64 0, I64 0, I64 0]) rfl ?_
  refine JL_ownCell 90000005 1 90006001 73 2 rfl rfl rfl (cs' := [OW 90006000 12 Column.av ([] : List Column), OW 90006001 2 Cover.av ([] : List Cover), I64 0, I64 0, I64 0, I64 0, LS 5 Row.av ([] : List Row), LS 5 Frame.av ([] : List Frame), LS 6 Tank.av ([] : List Tank), I64 0, I64 0, I64 0, I64 0]) rfl ?_
  refine JL_nil ?_
  refine hK2 _ _ ?_
  refine JC_seq (fun K3 hK3 => ?_)
  refine JC_seq (fun K4 hK4 => ?_)
  refine JC_region ?_
  refine JL_go (u := LS 4 law07_Place.av l) (A_move rfl rfl) ?_ rfl rfl rfl
  refine JL_go (u := LS 4 law07_Place.av l) (A_move rfl rfl) ?_ rfl rfl rfl
  refine JL_lenM (f := law07_Place.av) (xs := l) tf_slice_34 rfl rfl (fun hm14 => ?_) rfl rfl rfl
  refine JL_go (u := I64 (min (l.length : Int) 12)) (A_min rfl rfl rfl) ?_ rfl rfl rfl
  obtain ⟨m5, hm5, h⟩ := bnd_out h
  refine JL_go (u := LS 4 law07_Place.av (l.take m5)) (A_sliceHiM (f := law07_Place.av) (xs := l) rfl rfl rfl tf_slice_34 (natIn_out hm5)) ?_ rfl rfl rfl
  refine JL_lenM (f := law07_Place.av) (xs := (l.take m5)) tf_slice_34 rfl rfl (fun hm17 => ?_) rfl rfl rfl
  refine JL_go (u := I64 0) (A_move rfl rfl) ?_ rfl rfl rfl
  refine JL_nil ?_
  refine hK4 _ _ ?_
  refine JC_block ?_
  obtain ⟨b106, kx106, hb106, hkx106, h⟩ := each_in h
  refine JC_loop2 (fun i106 (s106 : (List Column) × (List Cover) × Int × Int × Int × Int × (List Row) × (List Frame) × (List Tank) × Int × Int × Int × Int) => each b106 kx106 (List.drop i106 (l.take m5)) i106 s106 = some r) (fun i106 s106 => [(1, .sc (.int .u32 covers)), (4, .ptr 90000004 0), (5, .ptr 90000005 0), (16, LS 4 law07_Place.av (l.take m5)), (17, I64 ((l.take m5).length : Int)), (18, I64 (i106 : Int))]) (fun i106 s106 => [(90006000, .spare 54 12 s106.1.length s106.1.length), (90006001, .spare 73 2 s106.2.1.length s106.2.1.length), (90000004, .box 47 [LS 12 Column.av ([] : List Column), LS 2 Cover.av ([] : List Cover), I64 0, I64 0, I64 0, I64 0, LS 5 Row.av ([] : List Row), LS 5 Frame.av ([] : List Frame), LS 6 Tank.av ([] : List Tank), I64 0, I64 0, I64 0, I64 0]), (90000005, .box 47 [OW 90006000 12 Column.av s106.1, OW 90006001 2 Cover.av s106.2.1, I64 s106.2.2.1, I64 s106.2.2.2.1, I64 s106.2.2.2.2.1, I64 s106.2.2.2.2.2.1, LS 5 Row.av s106.2.2.2.2.2.2.1, LS 5 Frame.av s106.2.2.2.2.2.2.2.1, LS 6 Tank.av s106.2.2.2.2.2.2.2.2.1, I64 s106.2.2.2.2.2.2.2.2.2.1, I64 s106.2.2.2.2.2.2.2.2.2.2.1, I64 s106.2.2.2.2.2.2.2.2.2.2.2.1, I64 s106.2.2.2.2.2.2.2.2.2.2.2.2])]) (fun i106 => (l.take m5).length - i106) 0 ([], [], 0, 0, 0, 0, [], [], [], 0, 0, 0, 0) h ⟨⟨.same rfl, .same rfl, .same rfl, .same rfl, .same rfl, .same rfl, trivial⟩, ⟨⟨_, rfl, .same⟩, ⟨_, rfl, .same⟩, ⟨_, rfl, .boxL rfl ⟨.same rfl, .same rfl, .same rfl, .same rfl, .same rfl, .same rfl, .same rfl, .same rfl, .same rfl, .same rfl, .same rfl, .same rfl, .same rfl, trivial⟩⟩, ⟨_, rfl, .boxL rfl ⟨.same rfl, .same rfl, .same rfl, .same rfl, .same rfl, .same rfl, .same rfl, .same rfl, .same rfl, .same rfl, .same rfl, .same rfl, .same rfl, trivial⟩⟩, trivial⟩, rfl⟩ ?_
  clear h
  intro i106 s106 hi106 K106 e106
  refine JC_seq (fun K107 hK107 => ?_)
  refine JC_region ?_
  refine JL_go (u := BL (decide ((i106 : Int) < ((l.take m5).length : Int)))) (A_lss rfl rfl rfl) ?_ rfl rfl rfl
  refine JL_nil ?_
  refine hK107 _ _ ?_
  refine JC_seq (fun K108 hK108 => ?_)
  refine JC_cond rfl (fun hb => ?_) (fun hb => ?_)
  ·
    have hk106 := lt_len hb
    obtain ⟨y106, nx106, hy106, hn106, h⟩ := each_out hi106 hk106
    replace h := app4 hb106 h
    refine JC_skip ?_
    refine hK108 _ _ ?_
    obtain ⟨kj109, hkj109, h⟩ := jp_out h
    refine JC_seqJ (fun j109 : (List Column) => kj109 j109 = some r) (fun j109 => [(1, .sc (.int .u32 covers)), (4, .ptr 90000004 0), (5, .ptr 90000005 0), (16, LS 4 law07_Place.av (l.take m5)), (17, I64 ((l.take m5).length : Int)), (18, I64 (i106 : Int))]) (fun j109 => [(90006000, .spare 54 12 j109.length j109.length), (90006001, .spare 73 2 s106.2.1.length s106.2.1.length), (90000004, .box 47 [LS 12 Column.av ([] : List Column), LS 2 Cover.av ([] : List Cover), I64 0, I64 0, I64 0, I64 0, LS 5 Row.av ([] : List Row), LS 5 Frame.av ([] : List Frame), LS 6 Tank.av ([] : List Tank), I64 0, I64 0, I64 0, I64 0]), (90000005, .box 47 [OW 90006000 12 Column.av j109, OW 90006001 2 Cover.av s106.2.1, I64 s106.2.2.1, I64 s106.2.2.2.1, I64 s106.2.2.2.2.1, I64 s106.2.2.2.2.2.1, LS 5 Row.av s106.2.2.2.2.2.2.1, LS 5 Frame.av s106.2.2.2.2.2.2.2.1, LS 6 Tank.av s106.2.2.2.2.2.2.2.2.1, I64 s106.2.2.2.2.2.2.2.2.2.1, I64 s106.2.2.2.2.2.2.2.2.2.2.1, I64 s106.2.2.2.2.2.2.2.2.2.2.2.1, I64 s106.2.2.2.2.2.2.2.2.2.2.2.2])]) (fun Kj109 ej109 => ?_) ?_
    ·
      refine JC_block ?_
      refine JC_seq (fun K110 hK110 => ?_)
      refine JC_region ?_
      refine JL_go (u := .dptr (law07_Place.cs y106)) (A_indexM (f := law07_Place.av) (xs := (l.take m5)) (y := y106) rfl rfl rfl tf_slice_34 hy106 rfl) ?_ rfl rfl rfl
      refine JL_go (u := .agg (law07_Place.cs y106)) (A_loadAgg tf_agg_69 rfl rfl rfl) ?_ rfl rfl rfl
      refine JL_go (u := .ptr 90000007 0) (A_allocJ 90000007 4 tf_zsize_69 rfl rfl) ?_ rfl rfl rfl
      refine JL_go0 (u := .junk) (A_store (u := .agg (law07_Place.cs y106)) (ds := [U8 y106.Bay, U8 y106.Row, U8 y106.Tiers, BL y106.Deck]) tf_size_69 rfl rfl rfl rfl rfl rfl rfl rfl) ?_ rfl rfl
      refine JL_nil ?_
      refine hK110 _ _ ?_
      refine JC_freeze [(1, .sc (.int .u32 covers)), (4, .ptr 90000004 0), (5, .ptr 90000005 0), (7, .dptr (law07_Place.cs y106)), (16, LS 4 law07_Place.av (l.take m5)), (17, I64 ((l.take m5).length : Int)), (18, I64 (i106 : Int))] [(90006000, .spare 54 12 s106.1.length s106.1.length), (90006001, .spare 73 2 s106.2.1.length s106.2.1.length), (90000004, .box 47 [LS 12 Column.av ([] : List Column), LS 2 Cover.av ([] : List Cover), I64 0, I64 0, I64 0, I64 0, LS 5 Row.av ([] : List Row), LS 5 Frame.av ([] : List Frame), LS 6 Tank.av ([] : List Tank), I64 0, I64 0, I64 0, I64 0]), (90000005, .box 47 [OW 90006000 12 Column.av s106.1, OW 90006001 2 Cover.av s106.2.1, I64 s106.2.2.1, I64 s106.2.2.2.1, I64 s106.2.2.2.2.1, I64 s106.2.2.2.2.2.1, LS 5 Row.av s106.2.2.2.2.2.2.1, LS 5 Frame.av s106.2.2.2.2.2.2.2.1, LS 6 Tank.av s106.2.2.2.2.2.2.2.2.1, I64 s106.2.2.2.2.2.2.2.2.2.1, I64 s106.2.2.2.2.2.2.2.2.2.2.1, I64 s106.2.2.2.2.2.2.2.2.2.2.2.1, I64 s106.2.2.2.2.2.2.2.2.2.2.2.2])] 90000007 rfl rfl rfl ⟨⟨_, rfl, .same⟩, ⟨_, rfl, .same⟩, ⟨_, rfl, .boxEq rfl rfl⟩, ⟨_, rfl, .boxEq rfl rfl⟩, trivial⟩ rfl (by exact ⟨.conv (.same rfl), .conv (.same rfl), .conv (.same rfl), .ptr, .conv (.same rfl), .conv (.same rfl), .conv (.same rfl), trivial⟩) ?_
      refine JC_seq (fun K111 hK111 => ?_)
      refine JC_region ?_
      refine JL_go (u := .dptr (law07_Place.cs y106)) (A_fieldM tf_field_69_0 rfl rfl rfl) ?_ rfl rfl rfl
      refine JL_go (u := U8 y106.Bay) (A_load tf_scalar_5 rfl rfl rfl) ?_ rfl rfl rfl
      obtain ⟨v112, hv112, h⟩ := chk_out h
      refine JL_go (u := I64 v112) (A_conv tf_int_3 tf_int_5 hv112 rfl rfl) ?_ rfl rfl rfl
      obtain ⟨v113, hv113, h⟩ := bnd_out h
      refine JL_go (u := I64 v113) (A_rem (rem64_out hv113).1 (rem64_out hv113).2 rfl rfl rfl) ?_ rfl rfl rfl
      refine JL_go (u := .dptr ((law07_Place.cs y106).drop 1)) (A_fieldM tf_field_69_1 rfl rfl rfl) ?_ rfl rfl rfl
      refine JL_go (u := U8 y106.Row) (A_load tf_scalar_5 rfl rfl rfl) ?_ rfl rfl rfl
      obtain ⟨v114, hv114, h⟩ := chk_out h
      refine JL_go (u := I64 v114) (A_conv tf_int_3 tf_int_5 hv114 rfl rfl) ?_ rfl rfl rfl
      obtain ⟨v115, hv115, h⟩ := bnd_out h
      refine JL_go (u := I64 v115) (A_rem (rem64_out hv115).1 (rem64_out hv115).2 rfl rfl rfl) ?_ rfl rfl rfl
      refine JL_go (u := .dptr [BL y106.Deck]) (A_fieldM tf_field_69_3 rfl rfl rfl) ?_ rfl rfl rfl
      refine JL_go (u := BL y106.Deck) (A_load tf_scalar_4 rfl rfl rfl) ?_ rfl rfl rfl
      refine JL_go (u := .dptr [U8 y106.Tiers, BL y106.Deck]) (A_fieldM tf_field_69_2 rfl rfl rfl) ?_ rfl rfl rfl
      refine JL_go (u := U8 y106.Tiers) (A_load tf_scalar_5 rfl rfl rfl) ?_ rfl rfl rfl
      obtain ⟨v116, hv116, h⟩ := chk_out h
      refine JL_go (u := I64 v116) (A_conv tf_int_3 tf_int_5 hv116 rfl rfl) ?_ rfl rfl rfl
      obtain ⟨v117, hv117, h⟩ := bnd_out h
      refine JL_go (u := I64 v117) (A_rem (rem64_out hv117).1 (rem64_out hv117).2 rfl rfl rfl) ?_ rfl rfl rfl
      obtain ⟨v118, hv118, h⟩ := chk_out h
      refine JL_go (u := I64 v118) (A_add hv118 rfl rfl rfl) ?_ rfl rfl rfl
      refine JL_go (u := .agg [I64 v113, I64 v115, BL y106.Deck, I64 v118, I64 0, I64 500000000, I64 500000000, I64 0, LS 1 I64 ([] : List Int), I64 0, I64 0, I64 0]) (A_buildZ (cs := [I64 v113, I64 v115, BL y106.Deck, I64 v118, I64 0, I64 500000000, I64 500000000, I64 0, LS 1 I64 ([] : List Int), I64 0, I64 0, I64 0]) [(0, 1), (1, 1), (2, 1), (3, 1), (4, 1), (5, 1), (6, 1), (7, 1), (8, 1), (9, 1), (10, 1), (11, 1)] [I64 0, I64 0, BL false, I64 0, I64 0, I64 0, I64 0, I64 0, LS 1 I64 ([] : List Int), I64 0, I64 0, I64 0] [.int .i64 0, .int .i64 0, .bool false, .int .i64 0, .int .i64 0, .int .i64 0, .int .i64 0, .int .i64 0, .slice none 0 0, .int .i64 0, .int .i64 0, .int .i64 0] tf_places_54 tf_zero_54 ⟨.inl rfl, .inl rfl, .inl rfl, .inl rfl, .inl rfl, .inl rfl, .inl rfl, .inl rfl, .inr ⟨_, rfl, rfl⟩, .inl rfl, .inl rfl, .inl rfl, trivial⟩ rfl rfl) ?_ rfl rfl rfl
      refine JL_go (u := .ptr 90000008 0) (A_allocJ 90000008 12 tf_zsize_54 rfl rfl) ?_ rfl rfl rfl
      refine JL_go0 (u := .junk) (A_store (u := .agg [I64 v113, I64 v115, BL y106.Deck, I64 v118, I64 0, I64 500000000, I64 500000000, I64 0, LS 1 I64 ([] : List Int), I64 0, I64 0, I64 0]) (ds := [I64 v113, I64 v115, BL y106.Deck, I64 v118, I64 0, I64 500000000, I64 500000000, I64 0, LS 1 I64 ([] : List Int), I64 0, I64 0, I64 0]) tf_size_54 rfl rfl rfl rfl rfl rfl rfl rfl) ?_ rfl rfl
      refine JL_nil ?_
      refine hK111 _ _ ?_
      refine JC_seq (fun K119 hK119 => ?_)
      refine JC_region ?_
      refine JL_go (u := .ptr 90000008 0) (A_fieldL tf_field_54_0 rfl rfl) ?_ rfl rfl rfl
      refine JL_go (u := I64 v113) (A_loadL tf_scalar_3 rfl rfl rfl rfl) ?_ rfl rfl rfl
      obtain ⟨v120, hv120, h⟩ := chk_out h
      refine JL_go (u := I64 v120) (A_mul hv120 rfl rfl rfl) ?_ rfl rfl rfl
      obtain ⟨v121, hv121, h⟩ := chk_out h
      refine JL_go (u := I64 v121) (A_sub hv121 rfl rfl rfl) ?_ rfl rfl rfl
      refine JL_go (u := .ptr 90000008 1) (A_fieldL tf_field_54_1 rfl rfl) ?_ rfl rfl rfl
      refine JL_go (u := I64 v115) (A_loadL tf_scalar_3 rfl rfl rfl rfl) ?_ rfl rfl rfl
      obtain ⟨v122, hv122, h⟩ := chk_out h
      refine JL_go (u := I64 v122) (A_mul hv122 rfl rfl rfl) ?_ rfl rfl rfl
      obtain ⟨v123, hv123, h⟩ := chk_out h
      refine JL_go (u := I64 v123) (A_sub hv123 rfl rfl rfl) ?_ rfl rfl rfl
      refine JL_go (u := .ptr 90000008 9) (A_fieldL tf_field_54_9 rfl rfl) ?_ rfl rfl rfl
      refine JL_go0 (u := .junk) (A_store (u := I64 v121) (ds := [I64 v113, I64 v115, BL y106.Deck, I64 v118, I64 0, I64 500000000, I64 500000000, I64 0, LS 1 I64 ([] : List Int), I64 v121, I64 0, I64 0]) tf_size_3 rfl rfl rfl rfl rfl rfl rfl rfl) ?_ rfl rfl
      refine JL_go (u := .ptr 90000008 10) (A_fieldL tf_field_54_10 rfl rfl) ?_ rfl rfl rfl
      refine JL_go0 (u := .junk) (A_store (u := I64 v123) (ds := [I64 v113, I64 v115, BL y106.Deck, I64 v118, I64 0, I64 500000000, I64 500000000, I64 0, LS 1 I64 ([] : List Int), I64 v121, I64 v123, I64 0]) tf_size_3 rfl rfl rfl rfl rfl rfl rfl rfl) ?_ rfl rfl
      refine JL_go (u := .ptr 90000008 11) (A_fieldL tf_field_54_11 rfl rfl) ?_ rfl rfl rfl
      refine JL_go0 (u := .junk) (A_store (u := I64 2000) (ds := [I64 v113, I64 v115, BL y106.Deck, I64 v118, I64 0, I64 500000000, I64 500000000, I64 0, LS 1 I64 ([] : List Int), I64 v121, I64 v123, I64 2000]) tf_size_3 rfl rfl rfl rfl rfl rfl rfl rfl) ?_ rfl rfl
      refine JL_nil ?_
      refine hK119 _ _ ?_
      obtain ⟨kj124, hkj124, h⟩ := jp_out h
      refine JC_seqJ (fun j124 : Int => kj124 j124 = some r) (fun j124 => [(1, .sc (.int .u32 covers)), (4, .ptr 90000004 0), (5, .ptr 90000005 0), (8, .ptr 90000008 0), (16, LS 4 law07_Place.av (l.take m5)), (17, I64 ((l.take m5).length : Int)), (18, I64 (i106 : Int))]) (fun j124 => [(90006000, .spare 54 12 s106.1.length s106.1.length), (90006001, .spare 73 2 s106.2.1.length s106.2.1.length), (90000004, .box 47 [LS 12 Column.av ([] : List Column), LS 2 Cover.av ([] : List Cover), I64 0, I64 0, I64 0, I64 0, LS 5 Row.av ([] : List Row), LS 5 Frame.av ([] : List Frame), LS 6 Tank.av ([] : List Tank), I64 0, I64 0, I64 0, I64 0]), (90000005, .box 47 [OW 90006000 12 Column.av s106.1, OW 90006001 2 Cover.av s106.2.1, I64 s106.2.2.1, I64 s106.2.2.2.1, I64 s106.2.2.2.2.1, I64 s106.2.2.2.2.2.1, LS 5 Row.av s106.2.2.2.2.2.2.1, LS 5 Frame.av s106.2.2.2.2.2.2.2.1, LS 6 Tank.av s106.2.2.2.2.2.2.2.2.1, I64 s106.2.2.2.2.2.2.2.2.2.1, I64 s106.2.2.2.2.2.2.2.2.2.2.1, I64 s106.2.2.2.2.2.2.2.2.2.2.2.1, I64 s106.2.2.2.2.2.2.2.2.2.2.2.2]), (90000008, .box 54 [I64 v113, I64 v115, BL y106.Deck, I64 v118, I64 0, I64 500000000, I64 500000000, I64 0, LS 1 I64 ([] : List Int), I64 v121, I64 v123, I64 j124])]) (fun Kj124 ej124 => ?_) ?_
      ·
        refine JC_seq (fun K125 hK125 => ?_)
        refine JC_region ?_
        refine JL_go (u := .ptr 90000008 2) (A_fieldL tf_field_54_2 rfl rfl) ?_ rfl rfl rfl
        refine JL_go (u := BL y106.Deck) (A_loadL tf_scalar_4 rfl rfl rfl rfl) ?_ rfl rfl rfl
        refine JL_nil ?_
        refine hK125 _ _ ?_
        refine JC_cond rfl (fun hb => ?_) (fun hb => ?_)
        ·
          replace h := bif_t hb h
          refine JC_region ?_
          refine JL_go (u := .ptr 90000008 11) (A_fieldL tf_field_54_11 rfl rfl) ?_ rfl rfl rfl
          refine JL_go0 (u := .junk) (A_store (u := I64 20000) (ds := [I64 v113, I64 v115, BL y106.Deck, I64 v118, I64 0, I64 500000000, I64 500000000, I64 0, LS 1 I64 ([] : List Int), I64 v121, I64 v123, I64 20000]) tf_size_3 rfl rfl rfl rfl rfl rfl rfl rfl) ?_ rfl rfl
          refine JL_nil ?_
          exact ej124 _ _ 20000 h ⟨⟨.same rfl, .same rfl, .same rfl, .same rfl, .same rfl, .same rfl, .same rfl, trivial⟩, ⟨⟨_, rfl, .same⟩, ⟨_, rfl, .same⟩, ⟨_, rfl, .boxL rfl ⟨.same rfl, .same rfl, .same rfl, .same rfl, .same rfl, .same rfl, .same rfl, .same rfl, .same rfl, .same rfl, .same rfl, .same rfl, .same rfl, trivial⟩⟩, ⟨_, rfl, .boxL rfl ⟨.same rfl, .same rfl, .same rfl, .same rfl, .same rfl, .same rfl, .same rfl, .same rfl, .same rfl, .same rfl, .same rfl, .same rfl, .same rfl, trivial⟩⟩, ⟨_, rfl, .boxL rfl ⟨.same rfl, .same rfl, .same rfl, .same rfl, .same rfl, .same rfl, .same rfl, .same rfl, .same rfl, .same rfl, .same rfl, .same rfl, trivial⟩⟩, trivial⟩, rfl⟩
        ·
          replace h := bif_f hb h
          refine JC_skip ?_
          exact ej124 _ _ 2000 h ⟨⟨.same rfl, .same rfl, .same rfl, .same rfl, .same rfl, .same rfl, .same rfl, trivial⟩, ⟨⟨_, rfl, .same⟩, ⟨_, rfl, .same⟩, ⟨_, rfl, .boxL rfl ⟨.same rfl, .same rfl, .same rfl, .same rfl, .same rfl, .same rfl, .same rfl, .same rfl, .same rfl, .same rfl, .same rfl, .same rfl, .same rfl, trivial⟩⟩, ⟨_, rfl, .boxL rfl ⟨.same rfl, .same rfl, .same rfl, .same rfl, .same rfl, .same rfl, .same rfl, .same rfl, .same rfl, .same rfl, .same rfl, .same rfl, .same rfl, trivial⟩⟩, ⟨_, rfl, .boxL rfl ⟨.same rfl, .same rfl, .same rfl, .same rfl, .same rfl, .same rfl, .same rfl, .same rfl, .same rfl, .same rfl, .same rfl, .same rfl, trivial⟩⟩, trivial⟩, rfl⟩
      · intro j124 h
        replace h := app1 hkj124 h
        refine JC_seq (fun K126 hK126 => ?_)
        refine JC_region ?_
        refine JL_go (u := .agg [OW 90006000 12 Column.av s106.1, OW 90006001 2 Cover.av s106.2.1, I64 s106.2.2.1, I64 s106.2.2.2.1, I64 s106.2.2.2.2.1, I64 s106.2.2.2.2.2.1, LS 5 Row.av s106.2.2.2.2.2.2.1, LS 5 Frame.av s106.2.2.2.2.2.2.2.1, LS 6 Tank.av s106.2.2.2.2.2.2.2.2.1, I64 s106.2.2.2.2.2.2.2.2.2.1, I64 s106.2.2.2.2.2.2.2.2.2.2.1, I64 s106.2.2.2.2.2.2.2.2.2.2.2.1, I64 s106.2.2.2.2.2.2.2.2.2.2.2.2]) (A_loadAggL tf_agg_47 rfl rfl rfl rfl) ?_ rfl rfl rfl
        refine JL_go (u := .ptr 90000008 0) (A_fieldL tf_field_54_0 rfl rfl) ?_ rfl rfl rfl
        refine JL_go (u := I64 v113) (A_loadL tf_scalar_3 rfl rfl rfl rfl) ?_ rfl rfl rfl
        refine JL_go (u := .ptr 90000008 1) (A_fieldL tf_field_54_1 rfl rfl) ?_ rfl rfl rfl
        refine JL_go (u := I64 v115) (A_loadL tf_scalar_3 rfl rfl rfl rfl) ?_ rfl rfl rfl
        refine JL_go (u := .ptr 90000008 2) (A_fieldL tf_field_54_2 rfl rfl) ?_ rfl rfl rfl
        refine JL_go (u := BL y106.Deck) (A_loadL tf_scalar_4 rfl rfl rfl rfl) ?_ rfl rfl rfl
        obtain ⟨r127, hr127, h⟩ := bnd_out h
        refine JL_go (u := .tup [I64 r127.1, BL r127.2]) (A_call1 (args := [.agg [LS 12 Column.av s106.1, LS 2 Cover.av s106.2.1, I64 s106.2.2.1, I64 s106.2.2.2.1, I64 s106.2.2.2.2.1, I64 s106.2.2.2.2.2.1, LS 5 Row.av s106.2.2.2.2.2.2.1, LS 5 Frame.av s106.2.2.2.2.2.2.2.1, LS 6 Tank.av s106.2.2.2.2.2.2.2.2.1, I64 s106.2.2.2.2.2.2.2.2.2.1, I64 s106.2.2.2.2.2.2.2.2.2.2.1, I64 s106.2.2.2.2.2.2.2.2.2.2.2.1, I64 s106.2.2.2.2.2.2.2.2.2.2.2.2], I64 v113, I64 v115, BL y106.Deck]) rfl (M_ship_Find_w (Ship.mk s106.1 s106.2.1 (Light.mk s106.2.2.1 s106.2.2.2.1 s106.2.2.2.2.1 s106.2.2.2.2.2.1) s106.2.2.2.2.2.2.1 s106.2.2.2.2.2.2.2.1 s106.2.2.2.2.2.2.2.2.1 (Limits.mk s106.2.2.2.2.2.2.2.2.2.1 s106.2.2.2.2.2.2.2.2.2.2.1 s106.2.2.2.2.2.2.2.2.2.2.2.1 s106.2.2.2.2.2.2.2.2.2.2.2.2)) v113 v115 y106.Deck r127 hr127) tf_call_18 ⟨rfl, rfl, rfl, rfl, rfl, rfl, rfl, rfl, trivial⟩) ?_ rfl rfl rfl
        refine JL_go (u := .tup [I64 r127.1, BL r127.2]) (A_move rfl rfl) ?_ rfl rfl rfl
        refine JL_go (u := I64 r127.1) (A_extract rfl rfl rfl) ?_ rfl rfl rfl
        refine JL_go (u := BL r127.2) (A_extract rfl rfl rfl) ?_ rfl rfl rfl
        refine JL_go (u := I64 r127.1) (A_assign rfl rfl) ?_ rfl rfl rfl
        refine JL_go (u := BL r127.2) (A_assign rfl rfl) ?_ rfl rfl rfl
        refine JL_nil ?_
        refine hK126 _ _ ?_
        refine JC_freeze [(1, .sc (.int .u32 covers)), (4, .ptr 90000004 0), (5, .ptr 90000005 0), (8, .dptr [I64 v113, I64 v115, BL y106.Deck, I64 v118, I64 0, I64 500000000, I64 500000000, I64 0, LS 1 I64 ([] : List Int), I64 v121, I64 v123, I64 j124]), (10, BL r127.2), (16, LS 4 law07_Place.av (l.take m5)), (17, I64 ((l.take m5).length : Int)), (18, I64 (i106 : Int))] [(90006000, .spare 54 12 s106.1.length s106.1.length), (90006001, .spare 73 2 s106.2.1.length s106.2.1.length), (90000004, .box 47 [LS 12 Column.av ([] : List Column), LS 2 Cover.av ([] : List Cover), I64 0, I64 0, I64 0, I64 0, LS 5 Row.av ([] : List Row), LS 5 Frame.av ([] : List Frame), LS 6 Tank.av ([] : List Tank), I64 0, I64 0, I64 0, I64 0]), (90000005, .box 47 [OW 90006000 12 Column.av s106.1, OW 90006001 2 Cover.av s106.2.1, I64 s106.2.2.1, I64 s106.2.2.2.1, I64 s106.2.2.2.2.1, I64 s106.2.2.2.2.2.1, LS 5 Row.av s106.2.2.2.2.2.2.1, LS 5 Frame.av s106.2.2.2.2.2.2.2.1, LS 6 Tank.av s106.2.2.2.2.2.2.2.2.1, I64 s106.2.2.2.2.2.2.2.2.2.1, I64 s106.2.2.2.2.2.2.2.2.2.2.1, I64 s106.2.2.2.2.2.2.2.2.2.2.2.1, I64 s106.2.2.2.2.2.2.2.2.2.2.2.2])] 90000008 rfl rfl rfl ⟨⟨_, rfl, .same⟩, ⟨_, rfl, .same⟩, ⟨_, rfl, .boxEq rfl rfl⟩, ⟨_, rfl, .boxEq rfl rfl⟩, trivial⟩ rfl (by exact ⟨.conv (.same rfl), .conv (.same rfl), .conv (.same rfl), .ptr, .conv (.same rfl), .conv (.same rfl), .conv (.same rfl), .conv (.same rfl), trivial⟩) ?_
        refine JC_seq (fun K128 hK128 => ?_)
        refine JC_region ?_
        refine JL_go (u := BL r127.2) (A_move rfl rfl) ?_ rfl rfl rfl
        refine JL_go (u := BL (!r127.2)) (A_not rfl rfl) ?_ rfl rfl rfl
        refine JL_nil ?_
        refine hK128 _ _ ?_
        refine JC_cond rfl (fun hb => ?_) (fun hb => ?_)
        ·
          replace h := bif_t hb h
          refine JC_region ?_
          refine JL_go (u := .ptr 90000005 0) (A_fieldL tf_field_47_0 rfl rfl) ?_ rfl rfl rfl
          refine JL_go (u := OW 90006000 12 Column.av s106.1) (A_loadL tf_scalar_37 rfl rfl rfl rfl) ?_ rfl rfl rfl
          refine JL_go (u := .agg [I64 v113, I64 v115, BL y106.Deck, I64 v118, I64 0, I64 500000000, I64 500000000, I64 0, LS 1 I64 ([] : List Int), I64 v121, I64 v123, I64 j124]) (A_loadAgg tf_agg_54 rfl rfl rfl) ?_ rfl rfl rfl
          refine JL_go (u := LS 12 Column.av ([(Column.mk v113 v115 y106.Deck v118 0 500000000 500000000 0 [] v121 v123 j124)])) (A_buildSlice (xs := [.agg [I64 v113, I64 v115, BL y106.Deck, I64 v118, I64 0, I64 500000000, I64 500000000, I64 0, LS 1 I64 ([] : List Int), I64 v121, I64 v123, I64 j124]]) rfl ⟨rfl, rfl, trivial⟩ tf_slice_37 tf_zsize_54 rfl rfl rfl rfl) ?_ rfl rfl rfl
          obtain ⟨ha129, h⟩ := need_out h
          refine JL_go (u := OW 90006000 12 Column.av (s106.1 ++ [(Column.mk v113 v115 y106.Deck v118 0 500000000 500000000 0 [] v121 v123 j124)])) (A_appendM (f := Column.av) (xs := s106.1) (ys := [(Column.mk v113 v115 y106.Deck v118 0 500000000 500000000 0 [] v121 v123 j124)]) rfl rfl rfl rfl tf_slice_37 tf_elem_54 ha129 (fun _ => rfl) (.inl rfl) rfl) ?_ rfl rfl rfl
          refine JL_go (u := .ptr 90000005 0) (A_fieldL tf_field_47_0 rfl rfl) ?_ rfl rfl rfl
          refine JL_go0 (u := .junk) (A_store (u := OW 90006000 12 Column.av (s106.1 ++ [(Column.mk v113 v115 y106.Deck v118 0 500000000 500000000 0 [] v121 v123 j124)])) (ds := [OW 90006000 12 Column.av (s106.1 ++ [(Column.mk v113 v115 y106.Deck v118 0 500000000 500000000 0 [] v121 v123 j124)]), OW 90006001 2 Cover.av s106.2.1, I64 s106.2.2.1, I64 s106.2.2.2.1, I64 s106.2.2.2.2.1, I64 s106.2.2.2.2.2.1, LS 5 Row.av s106.2.2.2.2.2.2.1, LS 5 Frame.av s106.2.2.2.2.2.2.2.1, LS 6 Tank.av s106.2.2.2.2.2.2.2.2.1, I64 s106.2.2.2.2.2.2.2.2.2.1, I64 s106.2.2.2.2.2.2.2.2.2.2.1, I64 s106.2.2.2.2.2.2.2.2.2.2.2.1, I64 s106.2.2.2.2.2.2.2.2.2.2.2.2]) tf_size_37 rfl rfl rfl rfl rfl rfl rfl rfl) ?_ rfl rfl
          refine JL_nil ?_
          exact ej109 _ _ (s106.1 ++ [(Column.mk v113 v115 y106.Deck v118 0 500000000 500000000 0 [] v121 v123 j124)]) h ⟨⟨.same rfl, .same rfl, .same rfl, .same rfl, .same rfl, .same rfl, trivial⟩, ⟨⟨_, rfl, .same⟩, ⟨_, rfl, .same⟩, ⟨_, rfl, .boxL rfl ⟨.same rfl, .same rfl, .same rfl, .same rfl, .same rfl, .same rfl, .same rfl, .same rfl, .same rfl, .same rfl, .same rfl, .same rfl, .same rfl, trivial⟩⟩, ⟨_, rfl, .boxL rfl ⟨.same rfl, .same rfl, .same rfl, .same rfl, .same rfl, .same rfl, .same rfl, .same rfl, .same rfl, .same rfl, .same rfl, .same rfl, .same rfl, trivial⟩⟩, trivial⟩, rfl⟩
        ·
          replace h := bif_f hb h
          refine JC_skip ?_
          exact ej109 _ _ s106.1 h ⟨⟨.same rfl, .same rfl, .same rfl, .same rfl, .same rfl, .same rfl, trivial⟩, ⟨⟨_, rfl, .same⟩, ⟨_, rfl, .same⟩, ⟨_, rfl, .boxL rfl ⟨.same rfl, .same rfl, .same rfl, .same rfl, .same rfl, .same rfl, .same rfl, .same rfl, .same rfl, .same rfl, .same rfl, .same rfl, .same rfl, trivial⟩⟩, ⟨_, rfl, .boxL rfl ⟨.same rfl, .same rfl, .same rfl, .same rfl, .same rfl, .same rfl, .same rfl, .same rfl, .same rfl, .same rfl, .same rfl, .same rfl, .same rfl, trivial⟩⟩, trivial⟩, rfl⟩
    · intro j109 h
      replace h := app1 hkj109 h
      refine JC_region ?_
      refine JL_go (u := I64 ((i106 + 1 : Nat) : Int)) (A_add (idx_succ hk106 hm17) rfl rfl rfl) ?_ rfl rfl rfl
      refine JL_go (u := I64 ((i106 + 1 : Nat) : Int)) (A_move rfl rfl) ?_ rfl rfl rfl
      refine JL_nil ?_
      exact e106 _ _ (i106 + 1) (j109, s106.2.1, s106.2.2.1, s106.2.2.2.1, s106.2.2.2.2.1, s106.2.2.2.2.2.1, s106.2.2.2.2.2.2.1, s106.2.2.2.2.2.2.2.1, s106.2.2.2.2.2.2.2.2.1, s106.2.2.2.2.2.2.2.2.2.1, s106.2.2.2.2.2.2.2.2.2.2.1, s106.2.2.2.2.2.2.2.2.2.2.2.1, s106.2.2.2.2.2.2.2.2.2.2.2.2) (app1 hn106 h) (by omega) ⟨⟨.same rfl, .same rfl, .same rfl, .same rfl, .same rfl, .same rfl, trivial⟩, ⟨⟨_, rfl, .same⟩, ⟨_, rfl, .same⟩, ⟨_, rfl, .boxL rfl ⟨.same rfl, .same rfl, .same rfl, .same rfl, .same rfl, .same rfl, .same rfl, .same rfl, .same rfl, .same rfl, .same rfl, .same rfl, .same rfl, trivial⟩⟩, ⟨_, rfl, .boxL rfl ⟨.same rfl, .same rfl, .same rfl, .same rfl, .same rfl, .same rfl, .same rfl, .same rfl, .same rfl, .same rfl, .same rfl, .same rfl, .same rfl, trivial⟩⟩, trivial⟩, rfl⟩
  ·
    have h := app1 hkx106 (each_nil hi106 (not_lt_len hb))
    refine JC_exit ?_
    refine hK3 _ _ ?_
    obtain ⟨kj130, hkj130, h⟩ := jp_out h
    refine JC_seqJ (fun j130 : (List Column) => kj130 j130 = some r) (fun j130 => [(1, .sc (.int .u32 covers)), (4, .ptr 90000004 0), (5, .ptr 90000005 0)]) (fun j130 => [(90006001, .spare 73 2 s106.2.1.length s106.2.1.length), (90000004, .box 47 [LS 12 Column.av ([] : List Column), LS 2 Cover.av ([] : List Cover), I64 0, I64 0, I64 0, I64 0, LS 5 Row.av ([] : List Row), LS 5 Frame.av ([] : List Frame), LS 6 Tank.av ([] : List Tank), I64 0, I64 0, I64 0, I64 0]), (90000005, .box 47 [LS 12 Column.av j130, OW 90006001 2 Cover.av s106.2.1, I64 s106.2.2.1, I64 s106.2.2.2.1, I64 s106.2.2.2.2.1, I64 s106.2.2.2.2.2.1, LS 5 Row.av s106.2.2.2.2.2.2.1, LS 5 Frame.av s106.2.2.2.2.2.2.2.1, LS 6 Tank.av s106.2.2.2.2.2.2.2.2.1, I64 s106.2.2.2.2.2.2.2.2.2.1, I64 s106.2.2.2.2.2.2.2.2.2.2.1, I64 s106.2.2.2.2.2.2.2.2.2.2.2.1, I64 s106.2.2.2.2.2.2.2.2.2.2.2.2])]) (fun Kj130 ej130 => ?_) ?_
    ·
      refine JC_seq (fun K131 hK131 => ?_)
      refine JC_region ?_
      refine JL_go (u := .ptr 90000005 0) (A_fieldL tf_field_47_0 rfl rfl) ?_ rfl rfl rfl
      refine JL_go (u := OW 90006000 12 Column.av s106.1) (A_loadL tf_scalar_37 rfl rfl rfl rfl) ?_ rfl rfl rfl
      refine JL_lenM (f := Column.av) (xs := s106.1) tf_slice_37 rfl rfl (fun hm74 => ?_) rfl rfl rfl
      refine JL_go (u := BL (decide ((s106.1.length : Int) = 0))) (A_eql rfl rfl rfl) ?_ rfl rfl rfl
      refine JL_nil ?_
      refine hK131 _ _ ?_
      refine JC_cond rfl (fun hb => ?_) (fun hb => ?_)
      ·
        replace h := bif_t hb h
        refine JC_region ?_
        refine JL_go (u := .agg [I64 0, I64 0, BL false, I64 3, I64 0, I64 500000000, I64 500000000, I64 0, LS 1 I64 ([] : List Int), I64 0, I64 0, I64 2000]) (A_buildZ (cs := [I64 0, I64 0, BL false, I64 3, I64 0, I64 500000000, I64 500000000, I64 0, LS 1 I64 ([] : List Int), I64 0, I64 0, I64 2000]) [(0, 1), (1, 1), (2, 1), (3, 1), (4, 1), (5, 1), (6, 1), (7, 1), (8, 1), (9, 1), (10, 1), (11, 1)] [I64 0, I64 0, BL false, I64 0, I64 0, I64 0, I64 0, I64 0, LS 1 I64 ([] : List Int), I64 0, I64 0, I64 0] [.int .i64 0, .int .i64 0, .bool false, .int .i64 0, .int .i64 0, .int .i64 0, .int .i64 0, .int .i64 0, .slice none 0 0, .int .i64 0, .int .i64 0, .int .i64 0] tf_places_54 tf_zero_54 ⟨.inl rfl, .inl rfl, .inl rfl, .inl rfl, .inl rfl, .inl rfl, .inl rfl, .inl rfl, .inr ⟨_, rfl, rfl⟩, .inl rfl, .inl rfl, .inl rfl, trivial⟩ rfl rfl) ?_ rfl rfl rfl
        refine JL_go (u := LS 12 Column.av ([(Column.mk 0 0 false 3 0 500000000 500000000 0 [] 0 0 2000)])) (A_buildSlice (xs := [.agg [I64 0, I64 0, BL false, I64 3, I64 0, I64 500000000, I64 500000000, I64 0, LS 1 I64 ([] : List Int), I64 0, I64 0, I64 2000]]) rfl ⟨rfl, rfl, trivial⟩ tf_slice_37 tf_zsize_54 rfl rfl rfl rfl) ?_ rfl rfl rfl
        refine JL_go (u := .ptr 90000005 0) (A_fieldL tf_field_47_0 rfl rfl) ?_ rfl rfl rfl
        refine JL_go0 (u := .junk) (A_store (u := LS 12 Column.av ([(Column.mk 0 0 false 3 0 500000000 500000000 0 [] 0 0 2000)])) (ds := [LS 12 Column.av ([(Column.mk 0 0 false 3 0 500000000 500000000 0 [] 0 0 2000)]), OW 90006001 2 Cover.av s106.2.1, I64 s106.2.2.1, I64 s106.2.2.2.1, I64 s106.2.2.2.2.1, I64 s106.2.2.2.2.2.1, LS 5 Row.av s106.2.2.2.2.2.2.1, LS 5 Frame.av s106.2.2.2.2.2.2.2.1, LS 6 Tank.av s106.2.2.2.2.2.2.2.2.1, I64 s106.2.2.2.2.2.2.2.2.2.1, I64 s106.2.2.2.2.2.2.2.2.2.2.1, I64 s106.2.2.2.2.2.2.2.2.2.2.2.1, I64 s106.2.2.2.2.2.2.2.2.2.2.2.2]) tf_size_37 rfl rfl rfl rfl rfl rfl rfl rfl) ?_ rfl rfl
        refine JL_nil ?_
        exact ej130 _ _ ([(Column.mk 0 0 false 3 0 500000000 500000000 0 [] 0 0 2000)]) h ⟨⟨.same rfl, .same rfl, .same rfl, trivial⟩, ⟨⟨_, rfl, .same⟩, ⟨_, rfl, .boxL rfl ⟨.same rfl, .same rfl, .same rfl, .same rfl, .same rfl, .same rfl, .same rfl, .same rfl, .same rfl, .same rfl, .same rfl, .same rfl, .same rfl, trivial⟩⟩, ⟨_, rfl, .boxL rfl ⟨.same rfl, .same rfl, .same rfl, .same rfl, .same rfl, .same rfl, .same rfl, .same rfl, .same rfl, .same rfl, .same rfl, .same rfl, .same rfl, trivial⟩⟩, trivial⟩, rfl⟩
      ·
        replace h := bif_f hb h
        refine JC_skip ?_
        exact ej130 _ _ s106.1 h ⟨⟨.same rfl, .same rfl, .same rfl, trivial⟩, ⟨⟨_, rfl, .same⟩, ⟨_, rfl, .boxL rfl ⟨.same rfl, .same rfl, .same rfl, .same rfl, .same rfl, .same rfl, .same rfl, .same rfl, .same rfl, .same rfl, .same rfl, .same rfl, .same rfl, trivial⟩⟩, ⟨_, rfl, .boxL rfl ⟨.list rfl, .same rfl, .same rfl, .same rfl, .same rfl, .same rfl, .same rfl, .same rfl, .same rfl, .same rfl, .same rfl, .same rfl, .same rfl, trivial⟩⟩, trivial⟩, rfl⟩
    · intro j130 h
      replace h := app1 hkj130 h
      refine JC_seq (fun K132 hK132 => ?_)
      refine JC_seq (fun K133 hK133 => ?_)
      refine JC_region ?_
      refine JL_go (u := I64 0) (A_assign rfl rfl) ?_ rfl rfl rfl
      refine JL_nil ?_
      refine hK133 _ _ ?_
      refine JC_block ?_
      obtain ⟨hx200, h⟩ := need_out h
      obtain ⟨b200, kx200, hb200, hkx200, h⟩ := upto_in h
      refine JC_loop2 (fun i200 (s200 : (List Column) × (List Cover) × Int × Int × Int × Int × (List Row) × (List Frame) × (List Tank) × Int × Int × Int × Int) => upto b200 kx200 ((5 : Int).toNat - i200) i200 s200 = some r) (fun i200 s200 => [(1, .sc (.int .u32 covers)), (4, .ptr 90000004 0), (5, .ptr 90000005 0), (11, I64 (i200 : Int))]) (fun i200 s200 => [(90006001, .spare 73 2 s200.2.1.length s200.2.1.length), (90000004, .box 47 [LS 12 Column.av ([] : List Column), LS 2 Cover.av ([] : List Cover), I64 0, I64 0, I64 0, I64 0, LS 5 Row.av ([] : List Row), LS 5 Frame.av ([] : List Frame), LS 6 Tank.av ([] : List Tank), I64 0, I64 0, I64 0, I64 0]), (90000005, .box 47 [LS 12 Column.av s200.1, OW 90006001 2 Cover.av s200.2.1, I64 s200.2.2.1, I64 s200.2.2.2.1, I64 s200.2.2.2.2.1, I64 s200.2.2.2.2.2.1, LS 5 Row.av s200.2.2.2.2.2.2.1, LS 5 Frame.av s200.2.2.2.2.2.2.2.1, LS 6 Tank.av s200.2.2.2.2.2.2.2.2.1, I64 s200.2.2.2.2.2.2.2.2.2.1, I64 s200.2.2.2.2.2.2.2.2.2.2.1, I64 s200.2.2.2.2.2.2.2.2.2.2.2.1, I64 s200.2.2.2.2.2.2.2.2.2.2.2.2])]) (fun i200 => (5 : Int).toNat - i200) 0 (j130, s106.2.1, s106.2.2.1, s106.2.2.2.1, s106.2.2.2.2.1, s106.2.2.2.2.2.1, s106.2.2.2.2.2.2.1, s106.2.2.2.2.2.2.2.1, s106.2.2.2.2.2.2.2.2.1, s106.2.2.2.2.2.2.2.2.2.1, s106.2.2.2.2.2.2.2.2.2.2.1, s106.2.2.2.2.2.2.2.2.2.2.2.1, s106.2.2.2.2.2.2.2.2.2.2.2.2) h ⟨⟨.same rfl, .same rfl, .same rfl, .same rfl, trivial⟩, ⟨⟨_, rfl, .same⟩, ⟨_, rfl, .boxL rfl ⟨.same rfl, .same rfl, .same rfl, .same rfl, .same rfl, .same rfl, .same rfl, .same rfl, .same rfl, .same rfl, .same rfl, .same rfl, .same rfl, trivial⟩⟩, ⟨_, rfl, .boxL rfl ⟨.same rfl, .same rfl, .same rfl, .same rfl, .same rfl, .same rfl, .same rfl, .same rfl, .same rfl, .same rfl, .same rfl, .same rfl, .same rfl, trivial⟩⟩, trivial⟩, rfl⟩ ?_
      clear h
      intro i200 s200 hi200 K200 e200
      refine JC_seq (fun K201 hK201 => ?_)
      refine JC_seq (fun K202 hK202 => ?_)
      refine JC_region ?_
      refine JL_go (u := I64 (i200 : Int)) (A_move rfl rfl) ?_ rfl rfl rfl
      refine JL_go (u := BL (decide ((i200 : Int) < 5))) (A_lss rfl rfl rfl) ?_ rfl rfl rfl
      refine JL_nil ?_
      refine hK202 _ _ ?_
      refine JC_cond rfl (fun hb => ?_) (fun hb => ?_)
      ·
        have hk200 := lt_toNat hb
        obtain ⟨nx200, hn200, h⟩ := upto_out hi200 hk200
        replace h := app3 hb200 h
        refine JC_skip ?_
        refine hK201 _ _ ?_
        obtain ⟨kj203, hkj203, h⟩ := jp_out h
        refine JC_seqJ (fun j203 : (List Cover) => kj203 j203 = some r) (fun j203 => [(1, .sc (.int .u32 covers)), (4, .ptr 90000004 0), (5, .ptr 90000005 0), (11, I64 (i200 : Int))]) (fun j203 => [(90006001, .spare 73 2 j203.length j203.length), (90000004, .box 47 [LS 12 Column.av ([] : List Column), LS 2 Cover.av ([] : List Cover), I64 0, I64 0, I64 0, I64 0, LS 5 Row.av ([] : List Row), LS 5 Frame.av ([] : List Frame), LS 6 Tank.av ([] : List Tank), I64 0, I64 0, I64 0, I64 0]), (90000005, .box 47 [LS 12 Column.av s200.1, OW 90006001 2 Cover.av j203, I64 s200.2.2.1, I64 s200.2.2.2.1, I64 s200.2.2.2.2.1, I64 s200.2.2.2.2.2.1, LS 5 Row.av s200.2.2.2.2.2.2.1, LS 5 Frame.av s200.2.2.2.2.2.2.2.1, LS 6 Tank.av s200.2.2.2.2.2.2.2.2.1, I64 s200.2.2.2.2.2.2.2.2.2.1, I64 s200.2.2.2.2.2.2.2.2.2.2.1, I64 s200.2.2.2.2.2.2.2.2.2.2.2.1, I64 s200.2.2.2.2.2.2.2.2.2.2.2.2])]) (fun Kj203 ej203 => ?_) ?_
        ·
          refine JC_block ?_
          obtain ⟨kj204, hkj204, h⟩ := jp_out h
          refine JC_seqJ (fun j204 : (List Cover) => kj204 j204 = some r) (fun j204 => [(1, .sc (.int .u32 covers)), (4, .ptr 90000004 0), (5, .ptr 90000005 0), (11, I64 (i200 : Int))]) (fun j204 => [(90006001, .spare 73 2 j204.length j204.length), (90000004, .box 47 [LS 12 Column.av ([] : List Column), LS 2 Cover.av ([] : List Cover), I64 0, I64 0, I64 0, I64 0, LS 5 Row.av ([] : List Row), LS 5 Frame.av ([] : List Frame), LS 6 Tank.av ([] : List Tank), I64 0, I64 0, I64 0, I64 0]), (90000005, .box 47 [LS 12 Column.av s200.1, OW 90006001 2 Cover.av j204, I64 s200.2.2.1, I64 s200.2.2.2.1, I64 s200.2.2.2.2.1, I64 s200.2.2.2.2.2.1, LS 5 Row.av s200.2.2.2.2.2.2.1, LS 5 Frame.av s200.2.2.2.2.2.2.2.1, LS 6 Tank.av s200.2.2.2.2.2.2.2.2.1, I64 s200.2.2.2.2.2.2.2.2.2.1, I64 s200.2.2.2.2.2.2.2.2.2.2.1, I64 s200.2.2.2.2.2.2.2.2.2.2.2.1, I64 s200.2.2.2.2.2.2.2.2.2.2.2.2])]) (fun Kj204 ej204 => ?_) ?_
          ·
            refine JC_seq (fun K205 hK205 => ?_)
            refine JC_region ?_
            refine JL_go (u := .sc (.int .u32 covers)) (A_move rfl rfl) ?_ rfl rfl rfl
            refine JL_go (u := I64 (i200 : Int)) (A_move rfl rfl) ?_ rfl rfl rfl
            obtain ⟨v206, hv206, h⟩ := chk_out h
            refine JL_go (u := I64 v206) (A_mul hv206 rfl rfl rfl) ?_ rfl rfl rfl
            obtain ⟨m207, hm207, h⟩ := bnd_out h
            refine JL_go (u := .sc (.int .u32 (shrN .u32 covers m207))) (A_shrM (s := m207) (natIn_out hm207).1 rfl rfl rfl) ?_ rfl rfl rfl
            refine JL_go (u := .sc (.int .u32 (band .u32 (shrN .u32 covers m207) 1))) (A_band rfl rfl rfl) ?_ rfl rfl rfl
            refine JL_go (u := BL (decide ((band .u32 (shrN .u32 covers m207) 1) = 1))) (A_eql rfl rfl rfl) ?_ rfl rfl rfl
            refine JL_nil ?_
            refine hK205 _ _ ?_
            refine JC_cond rfl (fun hb => ?_) (fun hb => ?_)
            ·
              replace h := bif_t hb h
              refine JC_region ?_
              refine JL_go (u := .ptr 90000005 1) (A_fieldL tf_field_47_1 rfl rfl) ?_ rfl rfl rfl
              refine JL_go (u := OW 90006001 2 Cover.av s200.2.1) (A_loadL tf_scalar_38 rfl rfl rfl rfl) ?_ rfl rfl rfl
              refine JL_go (u := I64 (i200 : Int)) (A_move rfl rfl) ?_ rfl rfl rfl
              refine JL_go (u := LS 1 I64 [0, 1]) (A_buildSlice (xs := [I64 0, I64 1]) rfl ⟨rfl, rfl, rfl, rfl, trivial⟩ tf_slice_52 tf_zsize_3 rfl rfl rfl rfl) ?_ rfl rfl rfl
              refine JL_go (u := .agg [I64 (i200 : Int), LS 1 I64 [0, 1]]) (A_buildZ (cs := [I64 (i200 : Int), LS 1 I64 [0, 1]]) [(0, 1), (1, 1)] [I64 0, LS 1 I64 ([] : List Int)] [.int .i64 0, .slice none 0 0] tf_places_73 tf_zero_73 ⟨.inl rfl, .inr ⟨_, rfl, rfl⟩, trivial⟩ rfl rfl) ?_ rfl rfl rfl
              refine JL_go (u := LS 2 Cover.av ([(Cover.mk (i200 : Int) [0, 1])])) (A_buildSlice (xs := [.agg [I64 (i200 : Int), LS 1 I64 [0, 1]]]) rfl ⟨rfl, rfl, trivial⟩ tf_slice_38 tf_zsize_73 rfl rfl rfl rfl) ?_ rfl rfl rfl
              obtain ⟨ha208, h⟩ := need_out h
              refine JL_go (u := OW 90006001 2 Cover.av (s200.2.1 ++ [(Cover.mk (i200 : Int) [0, 1])])) (A_appendM (f := Cover.av) (xs := s200.2.1) (ys := [(Cover.mk (i200 : Int) [0, 1])]) rfl rfl rfl rfl tf_slice_38 tf_elem_73 ha208 (fun _ => rfl) (.inl rfl) rfl) ?_ rfl rfl rfl
              refine JL_go (u := .ptr 90000005 1) (A_fieldL tf_field_47_1 rfl rfl) ?_ rfl rfl rfl
              refine JL_go0 (u := .junk) (A_store (u := OW 90006001 2 Cover.av (s200.2.1 ++ [(Cover.mk (i200 : Int) [0, 1])])) (ds := [LS 12 Column.av s200.1, OW 90006001 2 Cover.av (s200.2.1 ++ [(Cover.mk (i200 : Int) [0, 1])]), I64 s200.2.2.1, I64 s200.2.2.2.1, I64 s200.2.2.2.2.1, I64 s200.2.2.2.2.2.1, LS 5 Row.av s200.2.2.2.2.2.2.1, LS 5 Frame.av s200.2.2.2.2.2.2.2.1, LS 6 Tank.av s200.2.2.2.2.2.2.2.2.1, I64 s200.2.2.2.2.2.2.2.2.2.1, I64 s200.2.2.2.2.2.2.2.2.2.2.1, I64 s200.2.2.2.2.2.2.2.2.2.2.2.1, I64 s200.2.2.2.2.2.2.2.2.2.2.2.2]) tf_size_38 rfl rfl rfl rfl rfl rfl rfl rfl) ?_ rfl rfl
              refine JL_nil ?_
              exact ej204 _ _ (s200.2.1 ++ [(Cover.mk (i200 : Int) [0, 1])]) h ⟨⟨.same rfl, .same rfl, .same rfl, .same rfl, trivial⟩, ⟨⟨_, rfl, .same⟩, ⟨_, rfl, .boxL rfl ⟨.same rfl, .same rfl, .same rfl, .same rfl, .same rfl, .same rfl, .same rfl, .same rfl, .same rfl, .same rfl, .same rfl, .same rfl, .same rfl, trivial⟩⟩, ⟨_, rfl, .boxL rfl ⟨.same rfl, .same rfl, .same rfl, .same rfl, .same rfl, .same rfl, .same rfl, .same rfl, .same rfl, .same rfl, .same rfl, .same rfl, .same rfl, trivial⟩⟩, trivial⟩, rfl⟩
            ·
              replace h := bif_f hb h
              refine JC_skip ?_
              exact ej204 _ _ s200.2.1 h ⟨⟨.same rfl, .same rfl, .same rfl, .same rfl, trivial⟩, ⟨⟨_, rfl, .same⟩, ⟨_, rfl, .boxL rfl ⟨.same rfl, .same rfl, .same rfl, .same rfl, .same rfl, .same rfl, .same rfl, .same rfl, .same rfl, .same rfl, .same rfl, .same rfl, .same rfl, trivial⟩⟩, ⟨_, rfl, .boxL rfl ⟨.same rfl, .same rfl, .same rfl, .same rfl, .same rfl, .same rfl, .same rfl, .same rfl, .same rfl, .same rfl, .same rfl, .same rfl, .same rfl, trivial⟩⟩, trivial⟩, rfl⟩
          · intro j204 h
            replace h := app1 hkj204 h
            refine JC_seq (fun K209 hK209 => ?_)
            refine JC_region ?_
            refine JL_go (u := .sc (.int .u32 covers)) (A_move rfl rfl) ?_ rfl rfl rfl
            refine JL_go (u := I64 (i200 : Int)) (A_move rfl rfl) ?_ rfl rfl rfl
            obtain ⟨v210, hv210, h⟩ := chk_out h
            refine JL_go (u := I64 v210) (A_mul hv210 rfl rfl rfl) ?_ rfl rfl rfl
            obtain ⟨v211, hv211, h⟩ := chk_out h
            refine JL_go (u := I64 v211) (A_add hv211 rfl rfl rfl) ?_ rfl rfl rfl
            obtain ⟨m212, hm212, h⟩ := bnd_out h
            refine JL_go (u := .sc (.int .u32 (shrN .u32 covers m212))) (A_shrM (s := m212) (natIn_out hm212).1 rfl rfl rfl) ?_ rfl rfl rfl
            refine JL_go (u := .sc (.int .u32 (band .u32 (shrN .u32 covers m212) 1))) (A_band rfl rfl rfl) ?_ rfl rfl rfl
            refine JL_go (u := BL (decide ((band .u32 (shrN .u32 covers m212) 1) = 1))) (A_eql rfl rfl rfl) ?_ rfl rfl rfl
            refine JL_nil ?_
            refine hK209 _ _ ?_
            refine JC_cond rfl (fun hb => ?_) (fun hb => ?_)
            ·
              replace h := bif_t hb h
              refine JC_region ?_
              refine JL_go (u := .ptr 90000005 1) (A_fieldL tf_field_47_1 rfl rfl) ?_ rfl rfl rfl
              refine JL_go (u := OW 90006001 2 Cover.av j204) (A_loadL tf_scalar_38 rfl rfl rfl rfl) ?_ rfl rfl rfl
              refine JL_go (u := I64 (i200 : Int)) (A_move rfl rfl) ?_ rfl rfl rfl
              refine JL_go (u := LS 1 I64 [2, 3, 4]) (A_buildSlice (xs := [I64 2, I64 3, I64 4]) rfl ⟨rfl, rfl, rfl, rfl, rfl, rfl, trivial⟩ tf_slice_52 tf_zsize_3 rfl rfl rfl rfl) ?_ rfl rfl rfl
              refine JL_go (u := .agg [I64 (i200 : Int), LS 1 I64 [2, 3, 4]]) (A_buildZ (cs := [I64 (i200 : Int), LS 1 I64 [2, 3, 4]]) [(0, 1), (1, 1)] [I64 0, LS 1 I64 ([] : List Int)] [.int .i64 0, .slice none 0 0] tf_places_73 tf_zero_73 ⟨.inl rfl, .inr ⟨_, rfl, rfl⟩, trivial⟩ rfl rfl) ?_ rfl rfl rfl
              refine JL_go (u := LS 2 Cover.av ([(Cover.mk (i200 : Int) [2, 3, 4])])) (A_buildSlice (xs := [.agg [I64 (i200 : Int), LS 1 I64 [2, 3, 4]]]) rfl ⟨rfl, rfl, trivial⟩ tf_slice_38 tf_zsize_73 rfl rfl rfl rfl) ?_ rfl rfl rfl
              obtain ⟨ha213, h⟩ := need_out h
              refine JL_go (u := OW 90006001 2 Cover.av (j204 ++ [(Cover.mk (i200 : Int) [2, 3, 4])])) (A_appendM (f := Cover.av) (xs := j204) (ys := [(Cover.mk (i200 : Int) [2, 3, 4])]) rfl rfl rfl rfl tf_slice_38 tf_elem_73 ha213 (fun _ => rfl) (.inl rfl) rfl) ?_ rfl rfl rfl
              refine JL_go (u := .ptr 90000005 1) (A_fieldL tf_field_47_1 rfl rfl) ?_ rfl rfl rfl
              refine JL_go0 (u := .junk) (A_store (u := OW 90006001 2 Cover.av (j204 ++ [(Cover.mk (i200 : Int) [2, 3, 4])])) (ds := [LS 12 Column.av s200.1, OW 90006001 2 Cover.av (j204 ++ [(Cover.mk (i200 : Int) [2, 3, 4])]), I64 s200.2.2.1, I64 s200.2.2.2.1, I64 s200.2.2.2.2.1, I64 s200.2.2.2.2.2.1, LS 5 Row.av s200.2.2.2.2.2.2.1, LS 5 Frame.av s200.2.2.2.2.2.2.2.1, LS 6 Tank.av s200.2.2.2.2.2.2.2.2.1, I64 s200.2.2.2.2.2.2.2.2.2.1, I64 s200.2.2.2.2.2.2.2.2.2.2.1, I64 s200.2.2.2.2.2.2.2.2.2.2.2.1, I64 s200.2.2.2.2.2.2.2.2.2.2.2.2]) tf_size_38 rfl rfl rfl rfl rfl rfl rfl rfl) ?_ rfl rfl
              refine JL_nil ?_
              exact ej203 _ _ (j204 ++ [(Cover.mk (i200 : Int) [2, 3, 4])]) h ⟨⟨.same rfl, .same rfl, .same rfl, .same rfl, trivial⟩, ⟨⟨_, rfl, .same⟩, ⟨_, rfl, .boxL rfl ⟨.same rfl, .same rfl, .same rfl, .same rfl, .same rfl, .same rfl, .same rfl, .same rfl, .same rfl, .same rfl, .same rfl, .same rfl, .same rfl, trivial⟩⟩, ⟨_, rfl, .boxL rfl ⟨.same rfl, .same rfl, .same rfl, .same rfl, .same rfl, .same rfl, .same rfl, .same rfl, .same rfl, .same rfl, .same rfl, .same rfl, .same rfl, trivial⟩⟩, trivial⟩, rfl⟩
            ·
              replace h := bif_f hb h
              refine JC_skip ?_
              exact ej203 _ _ j204 h ⟨⟨.same rfl, .same rfl, .same rfl, .same rfl, trivial⟩, ⟨⟨_, rfl, .same⟩, ⟨_, rfl, .boxL rfl ⟨.same rfl, .same rfl, .same rfl, .same rfl, .same rfl, .same rfl, .same rfl, .same rfl, .same rfl, .same rfl, .same rfl, .same rfl, .same rfl, trivial⟩⟩, ⟨_, rfl, .boxL rfl ⟨.same rfl, .same rfl, .same rfl, .same rfl, .same rfl, .same rfl, .same rfl, .same rfl, .same rfl, .same rfl, .same rfl, .same rfl, .same rfl, trivial⟩⟩, trivial⟩, rfl⟩
        · intro j203 h
          replace h := app1 hkj203 h
          refine JC_region ?_
          refine JL_go (u := I64 (i200 : Int)) (A_move rfl rfl) ?_ rfl rfl rfl
          refine JL_go (u := I64 ((i200 + 1 : Nat) : Int)) (A_add (idx_succ hk200 (toNat_max hx200)) rfl rfl rfl) ?_ rfl rfl rfl
          refine JL_go (u := I64 ((i200 + 1 : Nat) : Int)) (A_assign rfl rfl) ?_ rfl rfl rfl
          refine JL_nil ?_
          exact e200 _ _ (i200 + 1) (s200.1, j203, s200.2.2.1, s200.2.2.2.1, s200.2.2.2.2.1, s200.2.2.2.2.2.1, s200.2.2.2.2.2.2.1, s200.2.2.2.2.2.2.2.1, s200.2.2.2.2.2.2.2.2.1, s200.2.2.2.2.2.2.2.2.2.1, s200.2.2.2.2.2.2.2.2.2.2.1, s200.2.2.2.2.2.2.2.2.2.2.2.1, s200.2.2.2.2.2.2.2.2.2.2.2.2) (app1 hn200 h) (by omega) ⟨⟨.same rfl, .same rfl, .same rfl, .same rfl, trivial⟩, ⟨⟨_, rfl, .same⟩, ⟨_, rfl, .boxL rfl ⟨.same rfl, .same rfl, .same rfl, .same rfl, .same rfl, .same rfl, .same rfl, .same rfl, .same rfl, .same rfl, .same rfl, .same rfl, .same rfl, trivial⟩⟩, ⟨_, rfl, .boxL rfl ⟨.same rfl, .same rfl, .same rfl, .same rfl, .same rfl, .same rfl, .same rfl, .same rfl, .same rfl, .same rfl, .same rfl, .same rfl, .same rfl, trivial⟩⟩, trivial⟩, rfl⟩
      ·
        have h := app1 hkx200 (upto_nil hi200 (not_lt_toNat hb))
        refine JC_exit ?_
        refine hK132 _ _ ?_
        refine JC_seq (fun K214 hK214 => ?_)
        refine JC_region ?_
        refine JL_go (u := .agg [LS 12 Column.av s200.1, OW 90006001 2 Cover.av s200.2.1, I64 s200.2.2.1, I64 s200.2.2.2.1, I64 s200.2.2.2.2.1, I64 s200.2.2.2.2.2.1, LS 5 Row.av s200.2.2.2.2.2.2.1, LS 5 Frame.av s200.2.2.2.2.2.2.2.1, LS 6 Tank.av s200.2.2.2.2.2.2.2.2.1, I64 s200.2.2.2.2.2.2.2.2.2.1, I64 s200.2.2.2.2.2.2.2.2.2.2.1, I64 s200.2.2.2.2.2.2.2.2.2.2.2.1, I64 s200.2.2.2.2.2.2.2.2.2.2.2.2]) (A_loadAggL tf_agg_47 rfl rfl rfl rfl) ?_ rfl rfl rfl
        refine JL_go0 (u := .junk) (A_store (u := .agg [LS 12 Column.av s200.1, OW 90006001 2 Cover.av s200.2.1, I64 s200.2.2.1, I64 s200.2.2.2.1, I64 s200.2.2.2.2.1, I64 s200.2.2.2.2.2.1, LS 5 Row.av s200.2.2.2.2.2.2.1, LS 5 Frame.av s200.2.2.2.2.2.2.2.1, LS 6 Tank.av s200.2.2.2.2.2.2.2.2.1, I64 s200.2.2.2.2.2.2.2.2.2.1, I64 s200.2.2.2.2.2.2.2.2.2.2.1, I64 s200.2.2.2.2.2.2.2.2.2.2.2.1, I64 s200.2.2.2.2.2.2.2.2.2.2.2.2]) (ds := [LS 12 Column.av s200.1, OW 90006001 2 Cover.av s200.2.1, I64 s200.2.2.1, I64 s200.2.2.2.1, I64 s200.2.2.2.2.1, I64 s200.2.2.2.2.2.1, LS 5 Row.av s200.2.2.2.2.2.2.1, LS 5 Frame.av s200.2.2.2.2.2.2.2.1, LS 6 Tank.av s200.2.2.2.2.2.2.2.2.1, I64 s200.2.2.2.2.2.2.2.2.2.1, I64 s200.2.2.2.2.2.2.2.2.2.2.1, I64 s200.2.2.2.2.2.2.2.2.2.2.2.1, I64 s200.2.2.2.2.2.2.2.2.2.2.2.2]) tf_size_47 rfl rfl rfl rfl rfl rfl rfl rfl) ?_ rfl rfl
        refine JL_nil ?_
        refine hK214 _ _ ?_
        refine JC_ret ?_
        exact ⟨[.agg [LS 12 Column.av s200.1, LS 2 Cover.av s200.2.1, I64 s200.2.2.1, I64 s200.2.2.2.1, I64 s200.2.2.2.2.1, I64 s200.2.2.2.2.2.1, LS 5 Row.av s200.2.2.2.2.2.2.1, LS 5 Frame.av s200.2.2.2.2.2.2.2.1, LS 6 Tank.av s200.2.2.2.2.2.2.2.2.1, I64 s200.2.2.2.2.2.2.2.2.2.1, I64 s200.2.2.2.2.2.2.2.2.2.2.1, I64 s200.2.2.2.2.2.2.2.2.2.2.2.1, I64 s200.2.2.2.2.2.2.2.2.2.2.2.2]], [], trivial, rfl, ⟨⟨_, ⟨_, _, _, _, rfl, rfl, rfl, .inl ⟨tf_agg_47, rfl⟩⟩, .agg ⟨.same rfl, .list rfl, .same rfl, .same rfl, .same rfl, .same rfl, .same rfl, .same rfl, .same rfl, .same rfl, .same rfl, .same rfl, .same rfl, trivial⟩⟩, trivial⟩, rfl, congrArg (fun r : Ship => (.agg (Ship.cs r) : AV)) (Option.some.inj h)⟩

def M_twistlocklaw27_BoundNeeds (F : Nat) (l : List law07_Place) (covers : Int) (a : Int) (b : Int) (c : Int) (d : Int) : Option Bool :=
  bnd (M_twistlocklaw07_Built l covers) fun r3 =>
  chk (a) fun v5 =>
  bnd (rem64 v5 1001) fun v6 =>
  chk (b) fun v7 =>
  bnd (rem64 v7 1001) fun v8 =>
  chk (c) fun v9 =>
  bnd (rem64 v9 1001) fun v10 =>
  chk (d) fun v11 =>
  bnd (rem64 v11 1001) fun v12 =>
  bnd (M_bound_Need r3 0 0) fun r14 =>
  bnd (M_bound_Need r3 1 0) fun r16 =>
  bnd (M_bound_Need r3 v6 v8) fun r18 =>
  bnd (M_bound_Need r3 v10 v12) fun r20 =>
  chk (v6 + v10) fun v22 =>
  chk (v8 + v12) fun v23 =>
  bnd (M_bound_Need r3 v22 v23) fun r24 =>
  chk (r14.2 + r16.2) fun v27 =>
  chk (v27 + r18.2) fun v28 =>
  chk (v28 + r20.2) fun v29 =>
  chk (v29 + r24.2) fun v30 =>
  bnd (bif (!(((((decide (v30 ≠ 0)) || (decide (r14.1 ≠ 0))) || (decide (r16.1 ≠ 2))) || (decide (r24.1 < r18.1))) || (decide (r24.1 < r20.1)))) then chk (r18.1 + r20.1) some else some 0) fun v31 =>
  bif ((((((decide (v30 ≠ 0)) || (decide (r14.1 ≠ 0))) || (decide (r16.1 ≠ 2))) || (decide (r24.1 < r18.1))) || (decide (r24.1 < r20.1))) || (decide (v31 < r24.1))) then
  (some false)
  else
  (each (fun y46 i46 (s46 : Int) nx46 =>
      nx46 (max s46 y46.Tiers))
    (fun (s46 : Int) =>
      chk (r18.1 * s46) fun v52 =>
      chk (2 * v6) fun v53 =>
      chk (v53 + v8) fun v54 =>
      bnd (bif decide (v54 ≤ v52) then quo64 r18.1 2 else some 0) fun v55 =>
      bnd (bif decide (v54 ≤ v52) then chk (v55 * s46) some else some 0) fun v56 =>
      bnd (bif (!(decide (r18.1 = 0))) then chk (r18.1 - 1) some else some 0) fun v58 =>
      bnd (bif (!(decide (r18.1 = 0))) then chk (v58 * s46) some else some 0) fun v59 =>
      bnd (bif (!(decide (r18.1 = 0))) then chk (2 * v6) some else some 0) fun v60 =>
      bnd (bif (!(decide (r18.1 = 0))) then chk (v60 + v8) some else some 0) fun v61 =>
      bnd (bif (!((decide (r18.1 = 0)) || (decide (v59 < v61)))) then chk (r18.1 - 1) some else some 0) fun v62 =>
      bnd (bif (!((decide (r18.1 = 0)) || (decide (v59 < v61)))) then quo64 v62 2 else some 0) fun v63 =>
      bnd (bif (!((decide (r18.1 = 0)) || (decide (v59 < v61)))) then chk (v63 * s46) some else some 0) fun v64 =>
      bnd (bif (((decide (v54 ≤ v52)) && (decide (v6 ≤ v56))) && (((decide (r18.1 = 0)) || (decide (v59 < v61))) || (decide (v64 < v6)))) then M_twistlocklaw27_awake F else some default) fun r66 =>
      some ((((decide (v54 ≤ v52)) && (decide (v6 ≤ v56))) && (((decide (r18.1 = 0)) || (decide (v59 < v61))) || (decide (v64 < v6)))) && r66)) r3.Columns 0 0)
theorem M_twistlocklaw27_BoundNeeds_w (F : Nat) (l : List law07_Place) (covers : Int) (a : Int) (b : Int) (c : Int) (d : Int) (r : Bool) (h : M_twistlocklaw27_BoundNeeds F l covers a b c d = some r) : Pure Try.prog 4 [LS 4 law07_Place.av l, .sc (.int .u32 covers), .sc (.int .u16 a), .sc (.int .u16 b), .sc (.int .u16 c), .sc (.int .u16 d)] (· = BL r) := by
  unfold M_twistlocklaw27_BoundNeeds at h
  refine Pure_ofG [.tmp 12] Try.func4 rfl rfl ?_
  refine JC_seq (fun K1 hK1 => ?_)
  refine JC_region ?_
  refine JL_go (u := BL false) (A_assign rfl rfl) ?_ rfl rfl rfl
  refine JL_nil ?_
  refine hK1 _ _ ?_
  refine JC_seq (fun K2 hK2 => ?_)
  refine JC_region ?_
  refine JL_go (u := LS 4 law07_Place.av l) (A_move rfl rfl) ?_ rfl rfl rfl
  refine JL_go (u := .sc (.int .u32 covers)) (A_move rfl rfl) ?_ rfl rfl rfl
  obtain ⟨r3, hr3, h⟩ := bnd_out h
  refine JL_go (u := .agg (Ship.cs r3)) (A_call1 (args := [LS 4 law07_Place.av l, .sc (.int .u32 covers)]) rfl (M_twistlocklaw07_Built_w l covers r3 hr3) tf_call_8 ⟨rfl, rfl, rfl, rfl, trivial⟩) ?_ rfl rfl rfl
  refine JL_go (u := .ptr 50000013 0) (A_allocJ 50000013 13 tf_zsize_47 rfl rfl) ?_ rfl rfl rfl
  refine JL_go0 (u := .junk) (A_store (u := .agg (Ship.cs r3)) (ds := [LS 12 Column.av r3.Columns, LS 2 Cover.av r3.Covers, I64 r3.Light.Kilos, I64 r3.Light.X, I64 r3.Light.Y, I64 r3.Light.Z, LS 5 Row.av r3.Rows, LS 5 Frame.av r3.Frames, LS 6 Tank.av r3.Tanks, I64 r3.Limits.Tolerance, I64 r3.Limits.Trim, I64 r3.Limits.List_, I64 r3.Limits.Stability]) tf_size_47 rfl rfl rfl rfl rfl rfl rfl rfl) ?_ rfl rfl
  refine JL_nil ?_
  refine hK2 _ _ ?_
  refine JC_freeze [(2, .sc (.int .u16 a)), (3, .sc (.int .u16 b)), (4, .sc (.int .u16 c)), (5, .sc (.int .u16 d)), (13, .dptr (Ship.cs r3))] [] 50000013 rfl rfl rfl trivial rfl (by exact ⟨.conv (.same rfl), .conv (.same rfl), .conv (.same rfl), .conv (.same rfl), .ptr, trivial⟩) ?_
  refine JC_seq (fun K4 hK4 => ?_)
  refine JC_region ?_
  refine JL_go (u := .sc (.int .u16 a)) (A_move rfl rfl) ?_ rfl rfl rfl
  obtain ⟨v5, hv5, h⟩ := chk_out h
  refine JL_go (u := I64 v5) (A_conv tf_int_3 tf_int_36 hv5 rfl rfl) ?_ rfl rfl rfl
  obtain ⟨v6, hv6, h⟩ := bnd_out h
  refine JL_go (u := I64 v6) (A_rem (rem64_out hv6).1 (rem64_out hv6).2 rfl rfl rfl) ?_ rfl rfl rfl
  refine JL_go (u := .sc (.int .u16 b)) (A_move rfl rfl) ?_ rfl rfl rfl
  obtain ⟨v7, hv7, h⟩ := chk_out h
  refine JL_go (u := I64 v7) (A_conv tf_int_3 tf_int_36 hv7 rfl rfl) ?_ rfl rfl rfl
  obtain ⟨v8, hv8, h⟩ := bnd_out h
  refine JL_go (u := I64 v8) (A_rem (rem64_out hv8).1 (rem64_out hv8).2 rfl rfl rfl) ?_ rfl rfl rfl
  refine JL_go (u := .sc (.int .u16 c)) (A_move rfl rfl) ?_ rfl rfl rfl
  obtain ⟨v9, hv9, h⟩ := chk_out h
  refine JL_go (u := I64 v9) (A_conv tf_int_3 tf_int_36 hv9 rfl rfl) ?_ rfl rfl rfl
  obtain ⟨v10, hv10, h⟩ := bnd_out h
  refine JL_go (u := I64 v10) (A_rem (rem64_out hv10).1 (rem64_out hv10).2 rfl rfl rfl) ?_ rfl rfl rfl
  refine JL_go (u := .sc (.int .u16 d)) (A_move rfl rfl) ?_ rfl rfl rfl
  obtain ⟨v11, hv11, h⟩ := chk_out h
  refine JL_go (u := I64 v11) (A_conv tf_int_3 tf_int_36 hv11 rfl rfl) ?_ rfl rfl rfl
  obtain ⟨v12, hv12, h⟩ := bnd_out h
  refine JL_go (u := I64 v12) (A_rem (rem64_out hv12).1 (rem64_out hv12).2 rfl rfl rfl) ?_ rfl rfl rfl
  refine JL_go (u := I64 v6) (A_assign rfl rfl) ?_ rfl rfl rfl
  refine JL_go (u := I64 v8) (A_assign rfl rfl) ?_ rfl rfl rfl
  refine JL_go (u := I64 v10) (A_assign rfl rfl) ?_ rfl rfl rfl
  refine JL_go (u := I64 v12) (A_assign rfl rfl) ?_ rfl rfl rfl
  refine JL_nil ?_
  refine hK4 _ _ ?_
  refine JC_seq (fun K13 hK13 => ?_)
  refine JC_region ?_
  refine JL_go (u := .agg (Ship.cs r3)) (A_loadAgg tf_agg_47 rfl rfl rfl) ?_ rfl rfl rfl
  obtain ⟨r14, hr14, h⟩ := bnd_out h
  refine JL_go (u := .tup [I64 r14.1, I64 r14.2]) (A_call1 (args := [.agg (Ship.cs r3), I64 0, I64 0]) rfl (M_bound_Need_w r3 0 0 r14 hr14) tf_call_9 ⟨rfl, rfl, rfl, rfl, rfl, rfl, trivial⟩) ?_ rfl rfl rfl
  refine JL_go (u := .tup [I64 r14.1, I64 r14.2]) (A_move rfl rfl) ?_ rfl rfl rfl
  refine JL_go (u := I64 r14.1) (A_extract rfl rfl rfl) ?_ rfl rfl rfl
  refine JL_go (u := I64 r14.2) (A_extract rfl rfl rfl) ?_ rfl rfl rfl
  refine JL_go (u := I64 r14.1) (A_assign rfl rfl) ?_ rfl rfl rfl
  refine JL_go (u := I64 r14.2) (A_assign rfl rfl) ?_ rfl rfl rfl
  refine JL_nil ?_
  refine hK13 _ _ ?_
  refine JC_seq (fun K15 hK15 => ?_)
  refine JC_region ?_
  refine JL_go (u := .agg (Ship.cs r3)) (A_loadAgg tf_agg_47 rfl rfl rfl) ?_ rfl rfl rfl
  obtain ⟨r16, hr16, h⟩ := bnd_out h
  refine JL_go (u := .tup [I64 r16.1, I64 r16.2]) (A_call1 (args := [.agg (Ship.cs r3), I64 1, I64 0]) rfl (M_bound_Need_w r3 1 0 r16 hr16) tf_call_9 ⟨rfl, rfl, rfl, rfl, rfl, rfl, trivial⟩) ?_ rfl rfl rfl
  refine JL_go (u := .tup [I64 r16.1, I64 r16.2]) (A_move rfl rfl) ?_ rfl rfl rfl
  refine JL_go (u := I64 r16.1) (A_extract rfl rfl rfl) ?_ rfl rfl rfl
  refine JL_go (u := I64 r16.2) (A_extract rfl rfl rfl) ?_ rfl rfl rfl
  refine JL_go (u := I64 r16.1) (A_assign rfl rfl) ?_ rfl rfl rfl
  refine JL_go (u := I64 r16.2) (A_assign rfl rfl) ?_ rfl rfl rfl
  refine JL_nil ?_
  refine hK15 _ _ ?_
  refine JC_seq (fun K17 hK17 => ?_)
  refine JC_region ?_
  refine JL_go (u := .agg (Ship.cs r3)) (A_loadAgg tf_agg_47 rfl rfl rfl) ?_ rfl rfl rfl
  refine JL_go (u := I64 v6) (A_move rfl rfl) ?_ rfl rfl rfl
  refine JL_go (u := I64 v8) (A_move rfl rfl) ?_ rfl rfl rfl
  obtain ⟨r18, hr18, h⟩ := bnd_out h
  refine JL_go (u := .tup [I64 r18.1, I64 r18.2]) (A_call1 (args := [.agg (Ship.cs r3), I64 v6, I64 v8]) rfl (M_bound_Need_w r3 v6 v8 r18 hr18) tf_call_9 ⟨rfl, rfl, rfl, rfl, rfl, rfl, trivial⟩) ?_ rfl rfl rfl
  refine JL_go (u := .tup [I64 r18.1, I64 r18.2]) (A_move rfl rfl) ?_ rfl rfl rfl
  refine JL_go (u := I64 r18.1) (A_extract rfl rfl rfl) ?_ rfl rfl rfl
  refine JL_go (u := I64 r18.2) (A_extract rfl rfl rfl) ?_ rfl rfl rfl
  refine JL_go (u := I64 r18.1) (A_assign rfl rfl) ?_ rfl rfl rfl
  refine JL_go (u := I64 r18.2) (A_assign rfl rfl) ?_ rfl rfl rfl
  refine JL_nil ?_
  refine hK17 _ _ ?_
  refine JC_seq (fun K19 hK19 => ?_)
  refine JC_region ?_
  refine JL_go (u := .agg (Ship.cs r3)) (A_loadAgg tf_agg_47 rfl rfl rfl) ?_ rfl rfl rfl
  refine JL_go (u := I64 v10) (A_move rfl rfl) ?_ rfl rfl rfl
  refine JL_go (u := I64 v12) (A_move rfl rfl) ?_ rfl rfl rfl
  obtain ⟨r20, hr20, h⟩ := bnd_out h
  refine JL_go (u := .tup [I64 r20.1, I64 r20.2]) (A_call1 (args := [.agg (Ship.cs r3), I64 v10, I64 v12]) rfl (M_bound_Need_w r3 v10 v12 r20 hr20) tf_call_9 ⟨rfl, rfl, rfl, rfl, rfl, rfl, trivial⟩) ?_ rfl rfl rfl
  refine JL_go (u := .tup [I64 r20.1, I64 r20.2]) (A_move rfl rfl) ?_ rfl rfl rfl
  refine JL_go (u := I64 r20.1) (A_extract rfl rfl rfl) ?_ rfl rfl rfl
  refine JL_go (u := I64 r20.2) (A_extract rfl rfl rfl) ?_ rfl rfl rfl
  refine JL_go (u := I64 r20.1) (A_assign rfl rfl) ?_ rfl rfl rfl
  refine JL_go (u := I64 r20.2) (A_assign rfl rfl) ?_ rfl rfl rfl
  refine JL_nil ?_
  refine hK19 _ _ ?_
  refine JC_seq (fun K21 hK21 => ?_)
  refine JC_region ?_
  refine JL_go (u := .agg (Ship.cs r3)) (A_loadAgg tf_agg_47 rfl rfl rfl) ?_ rfl rfl rfl
  refine JL_go (u := I64 v6) (A_move rfl rfl) ?_ rfl rfl rfl
  refine JL_go (u := I64 v10) (A_move rfl rfl) ?_ rfl rfl rfl
  obtain ⟨v22, hv22, h⟩ := chk_out h
  refine JL_go (u := I64 v22) (A_add hv22 rfl rfl rfl) ?_ rfl rfl rfl
  refine JL_go (u := I64 v8) (A_move rfl rfl) ?_ rfl rfl rfl
  refine JL_go (u := I64 v12) (A_move rfl rfl) ?_ rfl rfl rfl
  obtain ⟨v23, hv23, h⟩ := chk_out h
  refine JL_go (u := I64 v23) (A_add hv23 rfl rfl rfl) ?_ rfl rfl rfl
  obtain ⟨r24, hr24, h⟩ := bnd_out h
  refine JL_go (u := .tup [I64 r24.1, I64 r24.2]) (A_call1 (args := [.agg (Ship.cs r3), I64 v22, I64 v23]) rfl (M_bound_Need_w r3 v22 v23 r24 hr24) tf_call_9 ⟨rfl, rfl, rfl, rfl, rfl, rfl, trivial⟩) ?_ rfl rfl rfl
  refine JL_go (u := .tup [I64 r24.1, I64 r24.2]) (A_move rfl rfl) ?_ rfl rfl rfl
  refine JL_go (u := I64 r24.1) (A_extract rfl rfl rfl) ?_ rfl rfl rfl
  refine JL_go (u := I64 r24.2) (A_extract rfl rfl rfl) ?_ rfl rfl rfl
  refine JL_go (u := I64 r24.1) (A_assign rfl rfl) ?_ rfl rfl rfl
  refine JL_go (u := I64 r24.2) (A_assign rfl rfl) ?_ rfl rfl rfl
  refine JL_nil ?_
  refine hK21 _ _ ?_
  refine JC_seq (fun K25 hK25 => ?_)
  refine JC_seq (fun K26 hK26 => ?_)
  refine JC_region ?_
  refine JL_go (u := I64 r14.2) (A_move rfl rfl) ?_ rfl rfl rfl
  refine JL_go (u := I64 r16.2) (A_move rfl rfl) ?_ rfl rfl rfl
  obtain ⟨v27, hv27, h⟩ := chk_out h
  refine JL_go (u := I64 v27) (A_add hv27 rfl rfl rfl) ?_ rfl rfl rfl
  refine JL_go (u := I64 r18.2) (A_move rfl rfl) ?_ rfl rfl rfl
  obtain ⟨v28, hv28, h⟩ := chk_out h
  refine JL_go (u := I64 v28) (A_add hv28 rfl rfl rfl) ?_ rfl rfl rfl
  refine JL_go (u := I64 r20.2) (A_move rfl rfl) ?_ rfl rfl rfl
  obtain ⟨v29, hv29, h⟩ := chk_out h
  refine JL_go (u := I64 v29) (A_add hv29 rfl rfl rfl) ?_ rfl rfl rfl
  refine JL_go (u := I64 r24.2) (A_move rfl rfl) ?_ rfl rfl rfl
  obtain ⟨v30, hv30, h⟩ := chk_out h
  refine JL_go (u := I64 v30) (A_add hv30 rfl rfl rfl) ?_ rfl rfl rfl
  refine JL_go (u := BL (decide (v30 ≠ 0))) (A_neq rfl rfl rfl) ?_ rfl rfl rfl
  refine JL_go (u := BL (decide (v30 ≠ 0))) (A_move rfl rfl) ?_ rfl rfl rfl
  refine JL_opt (u := I64 r14.1) [] rfl rfl rfl .scf trivial (fun hc => A_move rfl rfl) ?_ rfl rfl rfl
  refine JL_opt (u := BL (decide (r14.1 ≠ 0))) [(94, I64 r14.1)] rfl rfl rfl .scf ⟨.all id, trivial⟩ (fun hc => A_neq rfl rfl rfl) ?_ rfl rfl rfl
  refine JL_go (u := BL ((decide (v30 ≠ 0)) || (decide (r14.1 ≠ 0)))) (A_or rfl rfl rfl rfl) ?_ rfl rfl rfl
  refine JL_go (u := BL ((decide (v30 ≠ 0)) || (decide (r14.1 ≠ 0)))) (A_move rfl rfl) ?_ rfl rfl rfl
  refine JL_opt (u := I64 r16.1) [] rfl rfl rfl .scf trivial (fun hc => A_move rfl rfl) ?_ rfl rfl rfl
  refine JL_opt (u := BL (decide (r16.1 ≠ 2))) [(98, I64 r16.1)] rfl rfl rfl .scf ⟨.all id, trivial⟩ (fun hc => A_neq rfl rfl rfl) ?_ rfl rfl rfl
  refine JL_go (u := BL (((decide (v30 ≠ 0)) || (decide (r14.1 ≠ 0))) || (decide (r16.1 ≠ 2)))) (A_or rfl rfl rfl rfl) ?_ rfl rfl rfl
  refine JL_go (u := BL (((decide (v30 ≠ 0)) || (decide (r14.1 ≠ 0))) || (decide (r16.1 ≠ 2)))) (A_move rfl rfl) ?_ rfl rfl rfl
  refine JL_opt (u := I64 r24.1) [] rfl rfl rfl .scf trivial (fun hc => A_move rfl rfl) ?_ rfl rfl rfl
  refine JL_opt (u := I64 r18.1) [] rfl rfl rfl .scf trivial (fun hc => A_move rfl rfl) ?_ rfl rfl rfl
  refine JL_opt (u := BL (decide (r24.1 < r18.1))) [(102, I64 r24.1), (103, I64 r18.1)] rfl rfl rfl .scf ⟨.all id, .all id, trivial⟩ (fun hc => A_lss rfl rfl rfl) ?_ rfl rfl rfl
  refine JL_go (u := BL ((((decide (v30 ≠ 0)) || (decide (r14.1 ≠ 0))) || (decide (r16.1 ≠ 2))) || (decide (r24.1 < r18.1)))) (A_or rfl rfl rfl rfl) ?_ rfl rfl rfl
  refine JL_go (u := BL ((((decide (v30 ≠ 0)) || (decide (r14.1 ≠ 0))) || (decide (r16.1 ≠ 2))) || (decide (r24.1 < r18.1)))) (A_move rfl rfl) ?_ rfl rfl rfl
  refine JL_opt (u := I64 r24.1) [] rfl rfl rfl .scf trivial (fun hc => A_move rfl rfl) ?_ rfl rfl rfl
  refine JL_opt (u := I64 r20.1) [] rfl rfl rfl .scf trivial (fun hc => A_move rfl rfl) ?_ rfl rfl rfl
  refine JL_opt (u := BL (decide (r24.1 < r20.1))) [(107, I64 r24.1), (108, I64 r20.1)] rfl rfl rfl .scf ⟨.all id, .all id, trivial⟩ (fun hc => A_lss rfl rfl rfl) ?_ rfl rfl rfl
  refine JL_go (u := BL (((((decide (v30 ≠ 0)) || (decide (r14.1 ≠ 0))) || (decide (r16.1 ≠ 2))) || (decide (r24.1 < r18.1))) || (decide (r24.1 < r20.1)))) (A_or rfl rfl rfl rfl) ?_ rfl rfl rfl
  refine JL_go (u := BL (((((decide (v30 ≠ 0)) || (decide (r14.1 ≠ 0))) || (decide (r16.1 ≠ 2))) || (decide (r24.1 < r18.1))) || (decide (r24.1 < r20.1)))) (A_move rfl rfl) ?_ rfl rfl rfl
  refine JL_opt (u := I64 r24.1) [] rfl rfl rfl .scf trivial (fun hc => A_move rfl rfl) ?_ rfl rfl rfl
  refine JL_opt (u := I64 r18.1) [] rfl rfl rfl .scf trivial (fun hc => A_move rfl rfl) ?_ rfl rfl rfl
  refine JL_opt (u := I64 r20.1) [] rfl rfl rfl .scf trivial (fun hc => A_move rfl rfl) ?_ rfl rfl rfl
  obtain ⟨v31, hv31, h⟩ := bnd_out h
  refine JL_opt (u := I64 v31) [(113, I64 r18.1), (114, I64 r20.1)] rfl rfl rfl .scf ⟨.all id, .all id, trivial⟩ (fun hc => A_add (chk_some (bif_t hc hv31)) rfl rfl rfl) ?_ rfl rfl rfl
  refine JL_opt (u := BL (decide (v31 < r24.1))) [(112, I64 r24.1), (115, I64 v31)] rfl rfl rfl .scf ⟨.all id, .all id, trivial⟩ (fun hc => A_gtr rfl rfl rfl) ?_ rfl rfl rfl
  refine JL_go (u := BL ((((((decide (v30 ≠ 0)) || (decide (r14.1 ≠ 0))) || (decide (r16.1 ≠ 2))) || (decide (r24.1 < r18.1))) || (decide (r24.1 < r20.1))) || (decide (v31 < r24.1)))) (A_or rfl rfl rfl rfl) ?_ rfl rfl rfl
  refine JL_nil ?_
  refine hK26 _ _ ?_
  refine JC_cond rfl (fun hb => ?_) (fun hb => ?_)
  ·
    replace h := bif_t hb h
    refine JC_seq (fun K32 hK32 => ?_)
    refine JC_region ?_
    refine JL_go (u := BL false) (A_assign rfl rfl) ?_ rfl rfl rfl
    refine JL_nil ?_
    refine hK32 _ _ ?_
    refine JC_ret ?_
    exact ⟨[BL false], [], trivial, rfl, ⟨⟨_, rfl, .conv (.same rfl)⟩, trivial⟩, rfl, congrArg (fun r : Bool => (BL r : AV)) (Option.some.inj h)⟩
  ·
    replace h := bif_f hb h
    refine JC_skip ?_
    refine hK25 _ _ ?_
    refine JC_seq (fun K33 hK33 => ?_)
    refine JC_region ?_
    refine JL_go (u := I64 0) (A_assign rfl rfl) ?_ rfl rfl rfl
    refine JL_nil ?_
    refine hK33 _ _ ?_
    refine JC_seq (fun K34 hK34 => ?_)
    refine JC_seq (fun K35 hK35 => ?_)
    refine JC_region ?_
    refine JL_go (u := .dptr (Ship.cs r3)) (A_fieldM tf_field_47_0 rfl rfl rfl) ?_ rfl rfl rfl
    refine JL_go (u := LS 12 Column.av r3.Columns) (A_load tf_scalar_37 rfl rfl rfl) ?_ rfl rfl rfl
    refine JL_lenM (f := Column.av) (xs := r3.Columns) tf_slice_37 rfl rfl (fun hm120 => ?_) rfl rfl rfl
    refine JL_go (u := I64 0) (A_move rfl rfl) ?_ rfl rfl rfl
    refine JL_nil ?_
    refine hK35 _ _ ?_
    refine JC_block ?_
    obtain ⟨b46, kx46, hb46, hkx46, h⟩ := each_in h
    refine JC_loop2 (fun i46 (s46 : Int) => each b46 kx46 (List.drop i46 r3.Columns) i46 s46 = some r) (fun i46 s46 => [(14, I64 v6), (15, I64 v8), (22, I64 r18.1), (28, I64 s46), (119, LS 12 Column.av r3.Columns), (120, I64 (r3.Columns.length : Int)), (121, I64 (i46 : Int))]) (fun i46 s46 => []) (fun i46 => r3.Columns.length - i46) 0 0 h ⟨⟨.same rfl, .same rfl, .same rfl, .same rfl, .same rfl, .same rfl, .same rfl, trivial⟩, trivial, rfl⟩ ?_
    clear h
    intro i46 s46 hi46 K46 e46
    refine JC_seq (fun K47 hK47 => ?_)
    refine JC_region ?_
    refine JL_go (u := BL (decide ((i46 : Int) < (r3.Columns.length : Int)))) (A_lss rfl rfl rfl) ?_ rfl rfl rfl
    refine JL_nil ?_
    refine hK47 _ _ ?_
    refine JC_seq (fun K48 hK48 => ?_)
    refine JC_cond rfl (fun hb => ?_) (fun hb => ?_)
    ·
      have hk46 := lt_len hb
      obtain ⟨y46, nx46, hy46, hn46, h⟩ := each_out hi46 hk46
      replace h := app4 hb46 h
      refine JC_skip ?_
      refine hK48 _ _ ?_
      refine JC_seq (fun K49 hK49 => ?_)
      refine JC_block ?_
      refine JC_seq (fun K50 hK50 => ?_)
      refine JC_region ?_
      refine JL_go (u := .dptr (Column.cs y46)) (A_indexM (f := Column.av) (xs := r3.Columns) (y := y46) rfl rfl rfl tf_slice_37 hy46 rfl) ?_ rfl rfl rfl
      refine JL_go (u := .agg (Column.cs y46)) (A_loadAgg tf_agg_54 rfl rfl rfl) ?_ rfl rfl rfl
      refine JL_go (u := .ptr 50000030 0) (A_allocJ 50000030 12 tf_zsize_54 rfl rfl) ?_ rfl rfl rfl
      refine JL_go0 (u := .junk) (A_store (u := .agg (Column.cs y46)) (ds := [I64 y46.Bay, I64 y46.Row, BL y46.Deck, I64 y46.Tiers, I64 y46.Height, I64 y46.Kilos20, I64 y46.Kilos40, I64 y46.Lash, LS 1 I64 y46.Plugs, I64 y46.X, I64 y46.Y, I64 y46.Z]) tf_size_54 rfl rfl rfl rfl rfl rfl rfl rfl) ?_ rfl rfl
      refine JL_nil ?_
      refine hK50 _ _ ?_
      refine JC_freeze [(14, I64 v6), (15, I64 v8), (22, I64 r18.1), (28, I64 s46), (30, .dptr (Column.cs y46)), (119, LS 12 Column.av r3.Columns), (120, I64 (r3.Columns.length : Int)), (121, I64 (i46 : Int))] [] 50000030 rfl rfl rfl trivial rfl (by exact ⟨.conv (.same rfl), .conv (.same rfl), .conv (.same rfl), .conv (.same rfl), .ptr, .conv (.same rfl), .conv (.same rfl), .conv (.same rfl), trivial⟩) ?_
      refine JC_region ?_
      refine JL_go (u := I64 s46) (A_move rfl rfl) ?_ rfl rfl rfl
      refine JL_go (u := .dptr ((Column.cs y46).drop 3)) (A_fieldM tf_field_54_3 rfl rfl rfl) ?_ rfl rfl rfl
      refine JL_go (u := I64 y46.Tiers) (A_load tf_scalar_3 rfl rfl rfl) ?_ rfl rfl rfl
      refine JL_go (u := I64 (max s46 y46.Tiers)) (A_max rfl rfl rfl) ?_ rfl rfl rfl
      refine JL_go (u := I64 (max s46 y46.Tiers)) (A_assign rfl rfl) ?_ rfl rfl rfl
      refine JL_nil ?_
      refine hK49 _ _ ?_
      refine JC_region ?_
      refine JL_go (u := I64 ((i46 + 1 : Nat) : Int)) (A_add (idx_succ hk46 hm120) rfl rfl rfl) ?_ rfl rfl rfl
      refine JL_go (u := I64 ((i46 + 1 : Nat) : Int)) (A_move rfl rfl) ?_ rfl rfl rfl
      refine JL_nil ?_
      exact e46 _ _ (i46 + 1) (max s46 y46.Tiers) (app1 hn46 h) (by omega) ⟨⟨.same rfl, .same rfl, .same rfl, .same rfl, .same rfl, .same rfl, .same rfl, trivial⟩, trivial, rfl⟩
    ·
      have h := app1 hkx46 (each_nil hi46 (not_lt_len hb))
      refine JC_exit ?_
      refine hK34 _ _ ?_
      refine JC_seq (fun K51 hK51 => ?_)
      refine JC_region ?_
      refine JL_go (u := I64 r18.1) (A_move rfl rfl) ?_ rfl rfl rfl
      refine JL_go (u := I64 s46) (A_move rfl rfl) ?_ rfl rfl rfl
      obtain ⟨v52, hv52, h⟩ := chk_out h
      refine JL_go (u := I64 v52) (A_mul hv52 rfl rfl rfl) ?_ rfl rfl rfl
      refine JL_go (u := I64 v6) (A_move rfl rfl) ?_ rfl rfl rfl
      obtain ⟨v53, hv53, h⟩ := chk_out h
      refine JL_go (u := I64 v53) (A_mul hv53 rfl rfl rfl) ?_ rfl rfl rfl
      refine JL_go (u := I64 v8) (A_move rfl rfl) ?_ rfl rfl rfl
      obtain ⟨v54, hv54, h⟩ := chk_out h
      refine JL_go (u := I64 v54) (A_add hv54 rfl rfl rfl) ?_ rfl rfl rfl
      refine JL_go (u := BL (decide (v54 ≤ v52))) (A_geq rfl rfl rfl) ?_ rfl rfl rfl
      refine JL_go (u := BL (decide (v54 ≤ v52))) (A_move rfl rfl) ?_ rfl rfl rfl
      refine JL_opt (u := I64 r18.1) [] rfl rfl rfl .sct trivial (fun hc => A_move rfl rfl) ?_ rfl rfl rfl
      obtain ⟨v55, hv55, h⟩ := bnd_out h
      refine JL_opt (u := I64 v55) [(139, I64 r18.1)] rfl rfl rfl .sct ⟨.all id, trivial⟩ (fun hc => A_quo (quo64_out (bif_t hc hv55)).1 (quo64_out (bif_t hc hv55)).2 rfl rfl rfl) ?_ rfl rfl rfl
      refine JL_opt (u := I64 s46) [] rfl rfl rfl .sct trivial (fun hc => A_move rfl rfl) ?_ rfl rfl rfl
      obtain ⟨v56, hv56, h⟩ := bnd_out h
      refine JL_opt (u := I64 v56) [(140, I64 v55), (141, I64 s46)] rfl rfl rfl .sct ⟨.all id, .all id, trivial⟩ (fun hc => A_mul (chk_some (bif_t hc hv56)) rfl rfl rfl) ?_ rfl rfl rfl
      refine JL_opt (u := I64 v6) [] rfl rfl rfl .sct trivial (fun hc => A_move rfl rfl) ?_ rfl rfl rfl
      refine JL_opt (u := BL (decide (v6 ≤ v56))) [(142, I64 v56), (143, I64 v6)] rfl rfl rfl .sct ⟨.all id, .all id, trivial⟩ (fun hc => A_geq rfl rfl rfl) ?_ rfl rfl rfl
      refine JL_go (u := BL ((decide (v54 ≤ v52)) && (decide (v6 ≤ v56)))) (A_and rfl rfl rfl rfl) ?_ rfl rfl rfl
      refine JL_go (u := BL ((decide (v54 ≤ v52)) && (decide (v6 ≤ v56)))) (A_assign rfl rfl) ?_ rfl rfl rfl
      refine JL_nil ?_
      refine hK51 _ _ ?_
      refine JC_seq (fun K57 hK57 => ?_)
      refine JC_region ?_
      refine JL_go (u := I64 r18.1) (A_move rfl rfl) ?_ rfl rfl rfl
      refine JL_go (u := BL (decide (r18.1 = 0))) (A_eql rfl rfl rfl) ?_ rfl rfl rfl
      refine JL_go (u := BL (decide (r18.1 = 0))) (A_move rfl rfl) ?_ rfl rfl rfl
      refine JL_opt (u := I64 r18.1) [] rfl rfl rfl .scf trivial (fun hc => A_move rfl rfl) ?_ rfl rfl rfl
      obtain ⟨v58, hv58, h⟩ := bnd_out h
      refine JL_opt (u := I64 v58) [(149, I64 r18.1)] rfl rfl rfl .scf ⟨.all id, trivial⟩ (fun hc => A_sub (chk_some (bif_t hc hv58)) rfl rfl rfl) ?_ rfl rfl rfl
      refine JL_opt (u := I64 s46) [] rfl rfl rfl .scf trivial (fun hc => A_move rfl rfl) ?_ rfl rfl rfl
      obtain ⟨v59, hv59, h⟩ := bnd_out h
      refine JL_opt (u := I64 v59) [(150, I64 v58), (151, I64 s46)] rfl rfl rfl .scf ⟨.all id, .all id, trivial⟩ (fun hc => A_mul (chk_some (bif_t hc hv59)) rfl rfl rfl) ?_ rfl rfl rfl
      refine JL_opt (u := I64 v6) [] rfl rfl rfl .scf trivial (fun hc => A_move rfl rfl) ?_ rfl rfl rfl
      obtain ⟨v60, hv60, h⟩ := bnd_out h
      refine JL_opt (u := I64 v60) [(153, I64 v6)] rfl rfl rfl .scf ⟨.all id, trivial⟩ (fun hc => A_mul (chk_some (bif_t hc hv60)) rfl rfl rfl) ?_ rfl rfl rfl
      refine JL_opt (u := I64 v8) [] rfl rfl rfl .scf trivial (fun hc => A_move rfl rfl) ?_ rfl rfl rfl
      obtain ⟨v61, hv61, h⟩ := bnd_out h
      refine JL_opt (u := I64 v61) [(154, I64 v60), (155, I64 v8)] rfl rfl rfl .scf ⟨.all id, .all id, trivial⟩ (fun hc => A_add (chk_some (bif_t hc hv61)) rfl rfl rfl) ?_ rfl rfl rfl
      refine JL_opt (u := BL (decide (v59 < v61))) [(152, I64 v59), (156, I64 v61)] rfl rfl rfl .scf ⟨.all id, .all id, trivial⟩ (fun hc => A_lss rfl rfl rfl) ?_ rfl rfl rfl
      refine JL_go (u := BL ((decide (r18.1 = 0)) || (decide (v59 < v61)))) (A_or rfl rfl rfl rfl) ?_ rfl rfl rfl
      refine JL_go (u := BL ((decide (r18.1 = 0)) || (decide (v59 < v61)))) (A_move rfl rfl) ?_ rfl rfl rfl
      refine JL_opt (u := I64 r18.1) [] rfl rfl rfl .scf trivial (fun hc => A_move rfl rfl) ?_ rfl rfl rfl
      obtain ⟨v62, hv62, h⟩ := bnd_out h
      refine JL_opt (u := I64 v62) [(160, I64 r18.1)] rfl rfl rfl .scf ⟨.all id, trivial⟩ (fun hc => A_sub (chk_some (bif_t hc hv62)) rfl rfl rfl) ?_ rfl rfl rfl
      obtain ⟨v63, hv63, h⟩ := bnd_out h
      refine JL_opt (u := I64 v63) [(161, I64 v62)] rfl rfl rfl .scf ⟨.all id, trivial⟩ (fun hc => A_quo (quo64_out (bif_t hc hv63)).1 (quo64_out (bif_t hc hv63)).2 rfl rfl rfl) ?_ rfl rfl rfl
      refine JL_opt (u := I64 s46) [] rfl rfl rfl .scf trivial (fun hc => A_move rfl rfl) ?_ rfl rfl rfl
      obtain ⟨v64, hv64, h⟩ := bnd_out h
      refine JL_opt (u := I64 v64) [(162, I64 v63), (163, I64 s46)] rfl rfl rfl .scf ⟨.all id, .all id, trivial⟩ (fun hc => A_mul (chk_some (bif_t hc hv64)) rfl rfl rfl) ?_ rfl rfl rfl
      refine JL_opt (u := I64 v6) [] rfl rfl rfl .scf trivial (fun hc => A_move rfl rfl) ?_ rfl rfl rfl
      refine JL_opt (u := BL (decide (v64 < v6))) [(164, I64 v64), (165, I64 v6)] rfl rfl rfl .scf ⟨.all id, .all id, trivial⟩ (fun hc => A_lss rfl rfl rfl) ?_ rfl rfl rfl
      refine JL_go (u := BL (((decide (r18.1 = 0)) || (decide (v59 < v61))) || (decide (v64 < v6)))) (A_or rfl rfl rfl rfl) ?_ rfl rfl rfl
      refine JL_go (u := BL (((decide (r18.1 = 0)) || (decide (v59 < v61))) || (decide (v64 < v6)))) (A_assign rfl rfl) ?_ rfl rfl rfl
      refine JL_nil ?_
      refine hK57 _ _ ?_
      refine JC_seq (fun K65 hK65 => ?_)
      refine JC_region ?_
      refine JL_go (u := BL ((decide (v54 ≤ v52)) && (decide (v6 ≤ v56)))) (A_move rfl rfl) ?_ rfl rfl rfl
      refine JL_go (u := BL ((decide (v54 ≤ v52)) && (decide (v6 ≤ v56)))) (A_move rfl rfl) ?_ rfl rfl rfl
      refine JL_opt (u := BL (((decide (r18.1 = 0)) || (decide (v59 < v61))) || (decide (v64 < v6)))) [] rfl rfl rfl .sct trivial (fun hc => A_move rfl rfl) ?_ rfl rfl rfl
      refine JL_go (u := BL (((decide (v54 ≤ v52)) && (decide (v6 ≤ v56))) && (((decide (r18.1 = 0)) || (decide (v59 < v61))) || (decide (v64 < v6))))) (A_and rfl rfl rfl rfl) ?_ rfl rfl rfl
      refine JL_go (u := BL (((decide (v54 ≤ v52)) && (decide (v6 ≤ v56))) && (((decide (r18.1 = 0)) || (decide (v59 < v61))) || (decide (v64 < v6))))) (A_move rfl rfl) ?_ rfl rfl rfl
      obtain ⟨r66, hr66, h⟩ := bnd_out h
      refine JL_opt (u := BL r66) [] rfl rfl rfl .sct trivial (fun hc => A_call1 (args := []) rfl (M_twistlocklaw27_awake_w F r66 (bif_t hc hr66)) tf_call_5 trivial) ?_ rfl rfl rfl
      refine JL_go (u := BL ((((decide (v54 ≤ v52)) && (decide (v6 ≤ v56))) && (((decide (r18.1 = 0)) || (decide (v59 < v61))) || (decide (v64 < v6)))) && r66)) (A_and rfl rfl rfl rfl) ?_ rfl rfl rfl
      refine JL_go (u := BL ((((decide (v54 ≤ v52)) && (decide (v6 ≤ v56))) && (((decide (r18.1 = 0)) || (decide (v59 < v61))) || (decide (v64 < v6)))) && r66)) (A_assign rfl rfl) ?_ rfl rfl rfl
      refine JL_nil ?_
      refine hK65 _ _ ?_
      refine JC_ret ?_
      exact ⟨[BL ((((decide (v54 ≤ v52)) && (decide (v6 ≤ v56))) && (((decide (r18.1 = 0)) || (decide (v59 < v61))) || (decide (v64 < v6)))) && r66)], [], trivial, rfl, ⟨⟨_, rfl, .conv (.same rfl)⟩, trivial⟩, rfl, congrArg (fun r : Bool => (BL r : AV)) (Option.some.inj h)⟩
end
end Go.Proofs.Ytpbhhakkhlfbnaa
