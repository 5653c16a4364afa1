/-
 Models of functions of the program, and that they return what the models say.
-/
import Derived.Test.YtlhfflmknlfafaaProg
import Derived.Test.YtlhfflmknlfafaaSortM
import Derived.Test.YtlhfflmknlfafaaSortLay
import Derived.Test.YtlhfflmknlfafaaRel
import Derived.Test.YtlhfflmknlfafaaLit0
import Derived.Test.YtlhfflmknlfafaaXA
import Derived.Test.YtlhfflmknlfafaaSpecA
import Derived.Test.YtlhfflmknlfafaaSpecI
import Derived.Test.YtlhfflmknlfafaaSpecG
import Derived.Test.YtlhfflmknlfafaaXVa
set_option maxRecDepth 100000
set_option linter.unusedVariables false
set_option linter.unusedSimpArgs false
namespace Go.Proofs.Ytlhfflmknlfafaa
open Go.RowKit
noncomputable section
open XAF
open XVF

def M_twistlocklaw23_voyage (F : Nat) (s : Ship) (boxes : List Box) (home : AMap Int Int) (calls : Int) : Option (Plan × Int × (AMap Int Int)) :=
 need (decide (calls ≤ 9223372036854775807)) <|
 upto (fun i6 (s6 : (List (List Gb)) × (List (List Int)) × (AMap Int Slot)) nx6 =>
  need (decide (10 ≤ 9223372036854775807)) <|
  upto (fun i13 (s13 : (List Gb)) nx13 =>
   each (fun y42 i42 (s42 : (List Gb)) nx42 =>
    jp (fun kj45 =>
     bnd (some (AMap.get s6.2.2 y42.ID (Slot.mk 0 0 0))) fun v48 =>
     bif ((((AMap.has s6.2.2 y42.ID) && (decide (v48.Tier = (i13 : Int)))) && (decide (y42.Load < (i6 : Int)))) && (decide ((i6 : Int) < y42.Discharge))) then
     (bnd (M_twistlocklaw23_with s42 (Gb.mk y42.ID v48)) fun r51 =>
      bnd (M_stow_Right s boxes r51) fun r53 =>
      bif r53 then
      (kj45 r51)
      else
      (kj45 s42))
     else
     (kj45 s42)) fun (j45 : (List Gb)) =>
    nx42 j45)
   (fun (s42 : (List Gb)) =>
    nx13 s42) boxes 0 s13)
  (fun (s13 : (List Gb)) =>
   each (fun y56 i56 (s56 : (List Gb)) nx56 =>
    jp (fun kj59 =>
     bnd (bif (!((decide ((i6 : Int) < y56.Load)) || (decide (y56.Discharge ≤ (i6 : Int))))) then M_twistlocklaw23_holds s56 y56.ID else some default) fun r63 =>
     bif (((decide ((i6 : Int) < y56.Load)) || (decide (y56.Discharge ≤ (i6 : Int)))) || r63) then
     (kj59 s56)
     else
     (loop (fun nx67 (s67 : (List Gb) × Bool × Int) =>
       bif ((decide (s67.2.2 < (s.Columns.length : Int))) && (!s67.2.1)) then
       (jp (fun kj70 =>
         bnd (M_slot_All s y56.Size) fun r72 =>
         each (fun y99 i99 (s99 : (List Gb) × Bool) nx99 =>
          bnd (M_twistlocklaw23_with s99.1 (Gb.mk y56.ID y99)) fun r105 =>
          bnd (some (AMap.get home y56.ID 0)) fun v107 =>
          chk (v107 + s67.2.2) fun v108 =>
          bnd (rem64 v108 (s.Columns.length : Int)) fun v109 =>
          bnd (bif decide (y99.G8 = v109) then M_stow_Right s boxes r105 else some default) fun r110 =>
          bif ((decide (y99.G8 = v109)) && r110) then
          (kj70 (r105, true))
          else
          (nx99 (s99.1, s99.2)))
         (fun (s99 : (List Gb) × Bool) =>
          kj70 (s99.1, s99.2)) r72 0 (s67.1, s67.2.1)) fun (j70 : (List Gb) × Bool) =>
        chk (s67.2.2 + 1) fun v112 =>
        nx67 (j70.1, j70.2, v112))
       else
       (bif (!s67.2.1) then
        (some ((Plan.mk [] []), y56.ID, home))
        else
        (kj59 s67.1))) F (s56, false, 0))) fun (j59 : (List Gb)) =>
    nx56 j59)
   (fun (s56 : (List Gb)) =>
    each (fun y138 i138 (s138 : (AMap Int Slot)) nx138 =>
     nx138 (AMap.put s138 y138.Box y138.Slot))
    (fun (s138 : (AMap Int Slot)) =>
     need (decide ((s6.1.length + [s56].length) * 24 ≤ 140737488355328 ∧ s6.1.length + [s56].length ≤ maxLen)) <|
     nx6 ((s6.1 ++ [s56]), s6.2.1, s138)) s56 0 (AMap.empty : AMap Int Slot)) boxes 0 s13) (10 : Int).toNat 0 [])
 (fun (s6 : (List (List Gb)) × (List (List Int)) × (AMap Int Slot)) =>
  some ((Plan.mk s6.1 s6.2.1), 0, home)) calls.toNat 0 ([], [], (AMap.empty : AMap Int Slot))
theorem M_twistlocklaw23_voyage_m60000020 (F : Nat) (s : Ship) (boxes : List Box) (home : AMap Int Int) (calls : Int) (r : Plan × Int × (AMap Int Int)) (h : M_twistlocklaw23_voyage F s boxes home calls = some r) : ACalls Try.prog 11 [.agg (Ship.cs s), LS 9 Box.av boxes, .mp 1022, G2 calls] [(1022, MP 66 (fun n : Int => Value.int .i64 n) G2 home)] (fun av L' => av = .tup [.agg [LS 1 (LS 4 Gb.av) r.1.States, LS 1 (LS 1 G2) r.1.Water], G2 r.2.1] ∧ L' = [(1022, MP 66 (fun n : Int => Value.int .i64 n) G2 r.2.2)]) := by
 unfold M_twistlocklaw23_voyage at h
 refine ACalls_ofG [1022] [.cell 8 41, .tmp 9] Try.func11 rfl rfl (inAll rfl) ?_
 refine G6 fun K1 hK1 => G3 ?_
 refine G1 (u := .ptr 1036 0) (J2 (u := .agg (Ship.cs s)) (cs := (Ship.cs s)) 1036 rfl rfl rfl rfl rfl) ?_
 refine G1 (u := .ptr 1037 0) (A_allocZ 1037 [LS 1 (LS 4 Gb.av) ([] : List (List Gb)), LS 1 (LS 1 G2) ([] : List (List Int))] [.slice none 0 0, .slice none 0 0] tf_zero_41 ⟨.inr ⟨_, rfl, rfl⟩, .inr ⟨_, rfl, rfl⟩, trivial⟩ rfl rfl) ?_
 refine G1 (u := G2 0) (Ga rfl rfl) ?_
 refine G9 (hK1 _ _ ?_)
 refine Gq [(1, LS 9 Box.av boxes), (2, .mp 1022), (3, G2 calls), (4, .dptr (Ship.cs s)), (8, .ptr 1037 0)] [(1022, MP 66 (fun n : Int => Value.int .i64 n) G2 home), (1037, .box 41 [LS 1 (LS 4 Gb.av) ([] : List (List Gb)), LS 1 (LS 1 G2) ([] : List (List Int))])] 1036 rfl rfl rfl ⟨⟨_, rfl, .map⟩, ⟨_, rfl, .boxEq rfl rfl⟩, trivial⟩ rfl (by repeat' (first | exact .ptr | constructor)) ?_
 refine G6 fun K2 hK2 => G3 ?_
 refine G1 (u := .ptr 1038 0) (A_allocZ 1038 [.sc (.slice none 0 0), LS 1 (LS 1 G2) ([] : List (List Int))] [.slice none 0 0, .slice none 0 0] tf_zero_41 ⟨.inl rfl, .inr ⟨_, rfl, rfl⟩, trivial⟩ rfl rfl) ?_
 refine JL_ownCell 1038 0 1046 96 1 rfl rfl rfl (cs' := [OW 1046 1 (LS 4 Gb.av) ([] : List (List Gb)), LS 1 (LS 1 G2) ([] : List (List Int))]) rfl ?_
 refine G9 (hK2 _ _ ?_)
 refine G6 fun K3 hK3 => G3 ?_
 refine G1 (u := .mp 1044) (A_makeMapM 1044 (fun n : Int => Value.int .i64 n) Slot.av rfl rfl) ?_
 refine G1 (u := .mp 1044) (Ga rfl rfl) ?_
 refine G9 (hK3 _ _ ?_)
 refine G6 (fun K4 hK4 => ?_)
 refine G6 fun K5 hK5 => G3 ?_
 refine G1 (u := G2 0) (Ga rfl rfl) ?_
 refine G9 (hK5 _ _ ?_)
 refine Gk ?_
 obtain ⟨hx6, h⟩ := He h
 obtain ⟨b6, kx6, hb6, hkx6, h⟩ := upto_in h
 refine H2 (fun i6 (s6 : (List (List Gb)) × (List (List Int)) × (AMap Int Slot)) => upto b6 kx6 (calls.toNat - i6) i6 s6 = some r) (fun i6 s6 => [(1, LS 9 Box.av boxes), (2, .mp 1022), (3, G2 calls), (4, .dptr (Ship.cs s)), (8, .ptr 1037 0), (10, .ptr 1038 0), (11, .mp 1044), (12, G2 (i6 : Int))]) (fun i6 s6 => [(1022, MP 66 (fun n : Int => Value.int .i64 n) G2 home), (1046, .spare 96 1 s6.1.length s6.1.length), (1044, MP 95 (fun n : Int => Value.int .i64 n) Slot.av s6.2.2), (1037, .box 41 [LS 1 (LS 4 Gb.av) ([] : List (List Gb)), LS 1 (LS 1 G2) ([] : List (List Int))]), (1038, .box 41 [OW 1046 1 (LS 4 Gb.av) s6.1, LS 1 (LS 1 G2) s6.2.1])]) (fun i6 => calls.toNat - i6) 0 ([], [], (AMap.empty : AMap Int Slot)) h ⟨(by repeat' constructor), ⟨⟨_, rfl, .map⟩, ⟨_, rfl, .same⟩, ⟨_, rfl, .map⟩, ⟨_, rfl, .boxL rfl ⟨.same rfl, .same rfl, trivial⟩⟩, ⟨_, rfl, .boxL rfl ⟨.same rfl, .same rfl, trivial⟩⟩, trivial⟩, rfl⟩ ?_
 clear h
 intro i6 s6 hi6 K6 e6
 refine G6 (fun K7 hK7 => ?_)
 refine G6 fun K8 hK8 => G3 ?_
 refine G1 (u := G2 (i6 : Int)) (G5 rfl rfl) ?_
 refine G1 (u := G2 calls) (G5 rfl rfl) ?_
 refine G1 (u := BL (decide ((i6 : Int) < calls))) (Hg rfl rfl rfl) ?_
 refine G9 (hK8 _ _ ?_)
 refine Gm rfl (fun hb => ?_) (fun hb => ?_)
 ·
  have hk6 := lt_toNat hb
  obtain ⟨nx6, hn6, h⟩ := upto_out hi6 hk6
  replace h := app3 hb6 h
  refine Gp ?_
  refine hK7 _ _ ?_
  refine G6 (fun K9 hK9 => ?_)
  refine Gk ?_
  refine G6 fun K10 hK10 => G3 ?_
  refine G1 (u := LS 4 Gb.av ([] : List Gb)) (J4 4 rfl rfl) ?_
  refine G9 (hK10 _ _ ?_)
  refine G6 (fun K11 hK11 => ?_)
  refine G6 fun K12 hK12 => G3 ?_
  refine G1 (u := G2 0) (Ga rfl rfl) ?_
  refine G9 (hK12 _ _ ?_)
  refine Gk ?_
  obtain ⟨hx13, h⟩ := He h
  obtain ⟨b13, kx13, hb13, hkx13, h⟩ := upto_in h
  refine H2 (fun i13 (s13 : (List Gb)) => upto b13 kx13 ((10 : Int).toNat - i13) i13 s13 = some r) (fun i13 s13 => [(1, LS 9 Box.av boxes), (2, .mp 1022), (3, G2 calls), (4, .dptr (Ship.cs s)), (8, .ptr 1037 0), (10, .ptr 1038 0), (11, .mp 1044), (12, G2 (i6 : Int)), (13, LS 4 Gb.av s13), (14, G2 (i13 : Int))]) (fun i13 s13 => [(1022, MP 66 (fun n : Int => Value.int .i64 n) G2 home), (1046, .spare 96 1 s6.1.length s6.1.length), (1044, MP 95 (fun n : Int => Value.int .i64 n) Slot.av s6.2.2), (1037, .box 41 [LS 1 (LS 4 Gb.av) ([] : List (List Gb)), LS 1 (LS 1 G2) ([] : List (List Int))]), (1038, .box 41 [OW 1046 1 (LS 4 Gb.av) s6.1, LS 1 (LS 1 G2) s6.2.1])]) (fun i13 => (10 : Int).toNat - i13) 0 [] h ⟨(by repeat' constructor), ⟨⟨_, rfl, .map⟩, ⟨_, rfl, .same⟩, ⟨_, rfl, .map⟩, ⟨_, rfl, .boxL rfl ⟨.same rfl, .same rfl, trivial⟩⟩, ⟨_, rfl, .boxL rfl ⟨.same rfl, .same rfl, trivial⟩⟩, trivial⟩, rfl⟩ ?_
  clear h
  intro i13 s13 hi13 K13 e13
  refine G6 (fun K14 hK14 => ?_)
  refine G6 fun K15 hK15 => G3 ?_
  refine G1 (u := G2 (i13 : Int)) (G5 rfl rfl) ?_
  refine G1 (u := BL (decide ((i13 : Int) < 10))) (Hg rfl rfl rfl) ?_
  refine G9 (hK15 _ _ ?_)
  refine Gm rfl (fun hb => ?_) (fun hb => ?_)
  ·
   have hk13 := lt_toNat hb
   obtain ⟨nx13, hn13, h⟩ := upto_out hi13 hk13
   replace h := app3 hb13 h
   refine Gp ?_
   refine hK14 _ _ ?_
   refine G6 (fun K16 hK16 => ?_)
   refine Gk ?_
   refine G6 fun K17 hK17 => G3 ?_
   refine G1 (u := LS 9 Box.av boxes) (G5 rfl rfl) ?_
   refine H9 (f := Box.av) (xs := boxes) Hp rfl rfl (fun hm40 => ?_) rfl rfl rfl
   refine G1 (u := G2 0) (G5 rfl rfl) ?_
   refine G9 (hK17 _ _ ?_)
   refine Gk ?_
   obtain ⟨b42, kx42, hb42, hkx42, h⟩ := Hj h
   refine H2 (fun i42 (s42 : (List Gb)) => each b42 kx42 (List.drop i42 boxes) i42 s42 = some r) (fun i42 s42 => [(1, LS 9 Box.av boxes), (2, .mp 1022), (3, G2 calls), (4, .dptr (Ship.cs s)), (8, .ptr 1037 0), (10, .ptr 1038 0), (11, .mp 1044), (12, G2 (i6 : Int)), (13, LS 4 Gb.av s42), (14, G2 (i13 : Int)), (39, LS 9 Box.av boxes), (40, G2 (boxes.length : Int)), (41, G2 (i42 : Int))]) (fun i42 s42 => [(1022, MP 66 (fun n : Int => Value.int .i64 n) G2 home), (1046, .spare 96 1 s6.1.length s6.1.length), (1044, MP 95 (fun n : Int => Value.int .i64 n) Slot.av s6.2.2), (1037, .box 41 [LS 1 (LS 4 Gb.av) ([] : List (List Gb)), LS 1 (LS 1 G2) ([] : List (List Int))]), (1038, .box 41 [OW 1046 1 (LS 4 Gb.av) s6.1, LS 1 (LS 1 G2) s6.2.1])]) (fun i42 => boxes.length - i42) 0 s13 h ⟨(by repeat' constructor), ⟨⟨_, rfl, .map⟩, ⟨_, rfl, .same⟩, ⟨_, rfl, .map⟩, ⟨_, rfl, .boxL rfl ⟨.same rfl, .same rfl, trivial⟩⟩, ⟨_, rfl, .boxL rfl ⟨.same rfl, .same rfl, trivial⟩⟩, trivial⟩, rfl⟩ ?_
   clear h
   intro i42 s42 hi42 K42 e42
   refine G6 fun K43 hK43 => G3 ?_
   refine G1 (u := BL (decide ((i42 : Int) < (boxes.length : Int)))) (Hg rfl rfl rfl) ?_
   refine G9 (hK43 _ _ ?_)
   refine G6 (fun K44 hK44 => ?_)
   refine Gm rfl (fun hb => ?_) (fun hb => ?_)
   ·
    have hk42 := lt_len hb
    obtain ⟨y42, nx42, hy42, hn42, h⟩ := Hc hi42 hk42
    replace h := app4 hb42 h
    refine Gp ?_
    refine hK44 _ _ ?_
    obtain ⟨kj45, hkj45, h⟩ := Jf h
    refine Ht (fun j45 : (List Gb) => kj45 j45 = some r) (fun j45 => [(1, LS 9 Box.av boxes), (2, .mp 1022), (3, G2 calls), (4, .dptr (Ship.cs s)), (8, .ptr 1037 0), (10, .ptr 1038 0), (11, .mp 1044), (12, G2 (i6 : Int)), (13, LS 4 Gb.av j45), (14, G2 (i13 : Int)), (39, LS 9 Box.av boxes), (40, G2 (boxes.length : Int)), (41, G2 (i42 : Int))]) (fun j45 => [(1022, MP 66 (fun n : Int => Value.int .i64 n) G2 home), (1046, .spare 96 1 s6.1.length s6.1.length), (1044, MP 95 (fun n : Int => Value.int .i64 n) Slot.av s6.2.2), (1037, .box 41 [LS 1 (LS 4 Gb.av) ([] : List (List Gb)), LS 1 (LS 1 G2) ([] : List (List Int))]), (1038, .box 41 [OW 1046 1 (LS 4 Gb.av) s6.1, LS 1 (LS 1 G2) s6.2.1])]) (fun Kj45 ej45 => ?_) ?_
    ·
     refine Gk ?_
     refine G6 fun K46 hK46 => G3 ?_
     refine G1 (u := .dptr (Box.cs y42)) (Gw (f := Box.av) (xs := boxes) (y := y42) rfl rfl rfl Hp hy42 rfl) ?_
     refine G1 (u := .agg (Box.cs y42)) (Gf Jw rfl rfl rfl) ?_
     refine G1 (u := .ptr 1039 0) (H8 1039 9 Jd rfl rfl) ?_
     refine H6 (u := .junk) (Gz (u := .agg (Box.cs y42)) (ds := (Box.cs y42)) Jx rfl rfl rfl rfl rfl rfl rfl rfl) ?_
     refine G9 (hK46 _ _ ?_)
     refine Gq [(1, LS 9 Box.av boxes), (2, .mp 1022), (3, G2 calls), (4, .dptr (Ship.cs s)), (8, .ptr 1037 0), (10, .ptr 1038 0), (11, .mp 1044), (12, G2 (i6 : Int)), (13, LS 4 Gb.av s42), (14, G2 (i13 : Int)), (16, .dptr (Box.cs y42)), (39, LS 9 Box.av boxes), (40, G2 (boxes.length : Int)), (41, G2 (i42 : Int))] [(1022, MP 66 (fun n : Int => Value.int .i64 n) G2 home), (1046, .spare 96 1 s6.1.length s6.1.length), (1044, MP 95 (fun n : Int => Value.int .i64 n) Slot.av s6.2.2), (1037, .box 41 [LS 1 (LS 4 Gb.av) ([] : List (List Gb)), LS 1 (LS 1 G2) ([] : List (List Int))]), (1038, .box 41 [OW 1046 1 (LS 4 Gb.av) s6.1, LS 1 (LS 1 G2) s6.2.1])] 1039 rfl rfl rfl ⟨⟨_, rfl, .map⟩, ⟨_, rfl, .same⟩, ⟨_, rfl, .map⟩, ⟨_, rfl, .boxEq rfl rfl⟩, ⟨_, rfl, .boxEq rfl rfl⟩, trivial⟩ rfl (by repeat' (first | exact .ptr | constructor)) ?_
     refine G6 fun K47 hK47 => G3 ?_
     refine G1 (u := .mp 1044) (G5 rfl rfl) ?_
     refine G1 (u := .dptr (Box.cs y42)) (Gd Hu rfl rfl rfl) ?_
     refine G1 (u := G2 y42.ID) (Gn Gc rfl rfl rfl) ?_
     obtain ⟨v48, hv48, h⟩ := Gg h
     refine G1 (u := .tup [.agg (Slot.cs v48), BL (AMap.has s6.2.2 y42.ID)]) (((Option.some.inj hv48) ▸ A_lookupM1 (av := Slot.av) (m := s6.2.2) (a := y42.ID) (Slot.mk 0 0 0) (.agg #[.int .i64 0, .int .i64 0, .int .u8 0]) rfl rfl rfl rfl tk_3 tf_map_95 tf_zv_98 rfl)) ?_
     refine G1 (u := .tup [.agg (Slot.cs v48), BL (AMap.has s6.2.2 y42.ID)]) (G5 rfl rfl) ?_
     refine G1 (u := .agg (Slot.cs v48)) (Gx rfl rfl rfl) ?_
     refine G1 (u := BL (AMap.has s6.2.2 y42.ID)) (Gx rfl rfl rfl) ?_
     refine G1 (u := .ptr 1040 0) (H8 1040 3 tf_zsize_98 rfl rfl) ?_
     refine H6 (u := .junk) (Gz (u := .agg (Slot.cs v48)) (ds := [G2 v48.G8, G2 v48.Tier, U8 v48.Half]) tf_size_98 rfl rfl rfl rfl rfl rfl rfl rfl) ?_
     refine G1 (u := BL (AMap.has s6.2.2 y42.ID)) (Ga rfl rfl) ?_
     refine G9 (hK47 _ _ ?_)
     refine Gq [(1, LS 9 Box.av boxes), (2, .mp 1022), (3, G2 calls), (4, .dptr (Ship.cs s)), (8, .ptr 1037 0), (10, .ptr 1038 0), (11, .mp 1044), (12, G2 (i6 : Int)), (13, LS 4 Gb.av s42), (14, G2 (i13 : Int)), (16, .dptr (Box.cs y42)), (17, .dptr (Slot.cs v48)), (18, BL (AMap.has s6.2.2 y42.ID)), (39, LS 9 Box.av boxes), (40, G2 (boxes.length : Int)), (41, G2 (i42 : Int))] [(1022, MP 66 (fun n : Int => Value.int .i64 n) G2 home), (1046, .spare 96 1 s6.1.length s6.1.length), (1044, MP 95 (fun n : Int => Value.int .i64 n) Slot.av s6.2.2), (1037, .box 41 [LS 1 (LS 4 Gb.av) ([] : List (List Gb)), LS 1 (LS 1 G2) ([] : List (List Int))]), (1038, .box 41 [OW 1046 1 (LS 4 Gb.av) s6.1, LS 1 (LS 1 G2) s6.2.1])] 1040 rfl rfl rfl ⟨⟨_, rfl, .map⟩, ⟨_, rfl, .same⟩, ⟨_, rfl, .map⟩, ⟨_, rfl, .boxEq rfl rfl⟩, ⟨_, rfl, .boxEq rfl rfl⟩, trivial⟩ rfl (by repeat' (first | exact .ptr | constructor)) ?_
     refine G6 fun K49 hK49 => G3 ?_
     refine G1 (u := BL (AMap.has s6.2.2 y42.ID)) (G5 rfl rfl) ?_
     refine G1 (u := BL (AMap.has s6.2.2 y42.ID)) (G5 rfl rfl) ?_
     refine Gj (u := .dptr [G2 v48.Tier, U8 v48.Half]) [] rfl rfl rfl .sct trivial (fun hc => Gd tf_field_98_1 rfl rfl rfl) ?_
     refine Gj (u := G2 v48.Tier) [(54, .dptr [G2 v48.Tier, U8 v48.Half])] rfl rfl rfl .sct ⟨.all id, trivial⟩ (fun hc => Gn Gc rfl rfl rfl) ?_
     refine Gj (u := G2 (i13 : Int)) [] rfl rfl rfl .sct trivial (fun hc => G5 rfl rfl) ?_
     refine Gj (u := BL (decide (v48.Tier = (i13 : Int)))) [(55, G2 v48.Tier), (56, G2 (i13 : Int))] rfl rfl rfl .sct ⟨.all id, .all id, trivial⟩ (fun hc => Jb rfl rfl rfl) ?_
     refine G1 (u := BL ((AMap.has s6.2.2 y42.ID) && (decide (v48.Tier = (i13 : Int))))) (Jc rfl rfl rfl rfl) ?_
     refine G1 (u := BL ((AMap.has s6.2.2 y42.ID) && (decide (v48.Tier = (i13 : Int))))) (G5 rfl rfl) ?_
     refine Gj (u := .dptr ((Box.cs y42).drop 5)) [] rfl rfl rfl .sct trivial (fun hc => Gd Jv rfl rfl rfl) ?_
     refine Gj (u := G2 y42.Load) [(60, .dptr ((Box.cs y42).drop 5))] rfl rfl rfl .sct ⟨.all id, trivial⟩ (fun hc => Gn Gc rfl rfl rfl) ?_
     refine Gj (u := G2 (i6 : Int)) [] rfl rfl rfl .sct trivial (fun hc => G5 rfl rfl) ?_
     refine Gj (u := BL (decide (y42.Load < (i6 : Int)))) [(61, G2 y42.Load), (62, G2 (i6 : Int))] rfl rfl rfl .sct ⟨.all id, .all id, trivial⟩ (fun hc => Hg rfl rfl rfl) ?_
     refine G1 (u := BL (((AMap.has s6.2.2 y42.ID) && (decide (v48.Tier = (i13 : Int)))) && (decide (y42.Load < (i6 : Int))))) (Jc rfl rfl rfl rfl) ?_
     refine G1 (u := BL (((AMap.has s6.2.2 y42.ID) && (decide (v48.Tier = (i13 : Int)))) && (decide (y42.Load < (i6 : Int))))) (G5 rfl rfl) ?_
     refine Gj (u := G2 (i6 : Int)) [] rfl rfl rfl .sct trivial (fun hc => G5 rfl rfl) ?_
     refine Gj (u := .dptr ((Box.cs y42).drop 6)) [] rfl rfl rfl .sct trivial (fun hc => Gd tf_field_70_6 rfl rfl rfl) ?_
     refine Gj (u := G2 y42.Discharge) [(67, .dptr ((Box.cs y42).drop 6))] rfl rfl rfl .sct ⟨.all id, trivial⟩ (fun hc => Gn Gc rfl rfl rfl) ?_
     refine Gj (u := BL (decide ((i6 : Int) < y42.Discharge))) [(66, G2 (i6 : Int)), (68, G2 y42.Discharge)] rfl rfl rfl .sct ⟨.all id, .all id, trivial⟩ (fun hc => Hg rfl rfl rfl) ?_
     refine G1 (u := BL ((((AMap.has s6.2.2 y42.ID) && (decide (v48.Tier = (i13 : Int)))) && (decide (y42.Load < (i6 : Int)))) && (decide ((i6 : Int) < y42.Discharge)))) (Jc rfl rfl rfl rfl) ?_
     refine G9 (hK49 _ _ ?_)
     refine Gm rfl (fun hb => ?_) (fun hb => ?_)
     ·
      replace h := bif_t hb h
      refine G6 fun K50 hK50 => G3 ?_
      refine G1 (u := LS 4 Gb.av s42) (G5 rfl rfl) ?_
      refine G1 (u := .dptr (Box.cs y42)) (Gd Hu rfl rfl rfl) ?_
      refine G1 (u := G2 y42.ID) (Gn Gc rfl rfl rfl) ?_
      refine G1 (u := .agg (Slot.cs v48)) (Gf Jn rfl rfl rfl) ?_
      refine G1 (u := .agg [G2 y42.ID, G2 v48.G8, G2 v48.Tier, U8 v48.Half]) (Hn (cs := [G2 y42.ID, G2 v48.G8, G2 v48.Tier, U8 v48.Half]) [(0, 1), (1, 3)] [G2 0, G2 0, G2 0, U8 0] [.int .i64 0, .int .i64 0, .int .i64 0, .int .u8 0] tf_places_102 tf_zero_102 ⟨.inl rfl, .inl rfl, .inl rfl, .inl rfl, trivial⟩ rfl rfl) ?_
      obtain ⟨r51, hr51, h⟩ := Gg h
      refine G1 (u := LS 4 Gb.av r51) (Gu (args := [LS 4 Gb.av s42, .agg [G2 y42.ID, G2 v48.G8, G2 v48.Tier, U8 v48.Half]]) rfl (M_twistlocklaw23_with_w s42 (Gb.mk y42.ID v48) r51 hr51) tf_call_28 ⟨rfl, rfl, rfl, rfl, trivial⟩) ?_
      refine G1 (u := LS 4 Gb.av r51) (Ga rfl rfl) ?_
      refine G9 (hK50 _ _ ?_)
      refine G6 fun K52 hK52 => G3 ?_
      refine G1 (u := .agg (Ship.cs s)) (Gf Hh rfl rfl rfl) ?_
      refine G1 (u := LS 9 Box.av boxes) (G5 rfl rfl) ?_
      refine G1 (u := LS 4 Gb.av r51) (G5 rfl rfl) ?_
      obtain ⟨r53, hr53, h⟩ := Gg h
      refine G1 (u := BL r53) (Gu (args := [.agg (Ship.cs s), LS 9 Box.av boxes, LS 4 Gb.av r51]) rfl (M_stow_Right_w s boxes r51 r53 hr53) tf_call_29 ⟨rfl, rfl, rfl, rfl, rfl, rfl, trivial⟩) ?_
      refine G9 (hK52 _ _ ?_)
      refine Gm rfl (fun hb => ?_) (fun hb => ?_)
      ·
       replace h := bif_t hb h
       refine G3 ?_
       refine G1 (u := LS 4 Gb.av r51) (G5 rfl rfl) ?_
       refine G1 (u := LS 4 Gb.av r51) (Ga rfl rfl) ?_
       refine G9 ?_
       exact ej45 _ _ r51 h ⟨(by repeat' constructor), ⟨⟨_, rfl, .map⟩, ⟨_, rfl, .same⟩, ⟨_, rfl, .map⟩, ⟨_, rfl, .boxL rfl ⟨.same rfl, .same rfl, trivial⟩⟩, ⟨_, rfl, .boxL rfl ⟨.same rfl, .same rfl, trivial⟩⟩, trivial⟩, rfl⟩
      ·
       replace h := bif_f hb h
       refine Gp ?_
       exact ej45 _ _ s42 h ⟨(by repeat' constructor), ⟨⟨_, rfl, .map⟩, ⟨_, rfl, .same⟩, ⟨_, rfl, .map⟩, ⟨_, rfl, .boxL rfl ⟨.same rfl, .same rfl, trivial⟩⟩, ⟨_, rfl, .boxL rfl ⟨.same rfl, .same rfl, trivial⟩⟩, trivial⟩, rfl⟩
     ·
      replace h := bif_f hb h
      refine Gp ?_
      exact ej45 _ _ s42 h ⟨(by repeat' constructor), ⟨⟨_, rfl, .map⟩, ⟨_, rfl, .same⟩, ⟨_, rfl, .map⟩, ⟨_, rfl, .boxL rfl ⟨.same rfl, .same rfl, trivial⟩⟩, ⟨_, rfl, .boxL rfl ⟨.same rfl, .same rfl, trivial⟩⟩, trivial⟩, rfl⟩
    ·intro j45 h
     replace h := app1 hkj45 h
     refine G3 ?_
     refine G1 (u := G2 ((i42 + 1 : Nat) : Int)) (H7 (idx_succ hk42 hm40) rfl rfl rfl) ?_
     refine G1 (u := G2 ((i42 + 1 : Nat) : Int)) (G5 rfl rfl) ?_
     refine G9 ?_
     exact e42 _ _ (i42 + 1) j45 (app1 hn42 h) (by omega) ⟨(by repeat' constructor), ⟨⟨_, rfl, .map⟩, ⟨_, rfl, .same⟩, ⟨_, rfl, .map⟩, ⟨_, rfl, .boxL rfl ⟨.same rfl, .same rfl, trivial⟩⟩, ⟨_, rfl, .boxL rfl ⟨.same rfl, .same rfl, trivial⟩⟩, trivial⟩, rfl⟩
   ·
    have h := app1 hkx42 (Hd hi42 (H3 hb))
    refine H4 ?_
    refine hK16 _ _ ?_
    refine G3 ?_
    refine G1 (u := G2 (i13 : Int)) (G5 rfl rfl) ?_
    refine G1 (u := G2 ((i13 + 1 : Nat) : Int)) (H7 (idx_succ hk13 (toNat_max hx13)) rfl rfl rfl) ?_
    refine G1 (u := G2 ((i13 + 1 : Nat) : Int)) (Ga rfl rfl) ?_
    refine G9 ?_
    exact e13 _ _ (i13 + 1) s42 (app1 hn13 h) (by omega) ⟨(by repeat' constructor), ⟨⟨_, rfl, .map⟩, ⟨_, rfl, .same⟩, ⟨_, rfl, .map⟩, ⟨_, rfl, .boxL rfl ⟨.same rfl, .same rfl, trivial⟩⟩, ⟨_, rfl, .boxL rfl ⟨.same rfl, .same rfl, trivial⟩⟩, trivial⟩, rfl⟩
  ·
   have h := app1 hkx13 (upto_nil hi13 (not_lt_toNat hb))
   refine H4 ?_
   refine hK11 _ _ ?_
   refine G6 (fun K54 hK54 => ?_)
   refine G6 fun K55 hK55 => G3 ?_
   refine G1 (u := LS 9 Box.av boxes) (G5 rfl rfl) ?_
   refine H9 (f := Box.av) (xs := boxes) Hp rfl rfl (fun hm84 => ?_) rfl rfl rfl
   refine G1 (u := G2 0) (G5 rfl rfl) ?_
   refine G9 (hK55 _ _ ?_)
   refine Gk ?_
   obtain ⟨b56, kx56, hb56, hkx56, h⟩ := Hj h
   refine H2 (fun i56 (s56 : (List Gb)) => each b56 kx56 (List.drop i56 boxes) i56 s56 = some r) (fun i56 s56 => [(1, LS 9 Box.av boxes), (2, .mp 1022), (3, G2 calls), (4, .dptr (Ship.cs s)), (8, .ptr 1037 0), (10, .ptr 1038 0), (12, G2 (i6 : Int)), (13, LS 4 Gb.av s56), (83, LS 9 Box.av boxes), (84, G2 (boxes.length : Int)), (85, G2 (i56 : Int))]) (fun i56 s56 => [(1022, MP 66 (fun n : Int => Value.int .i64 n) G2 home), (1046, .spare 96 1 s6.1.length s6.1.length), (1044, MP 95 (fun n : Int => Value.int .i64 n) Slot.av s6.2.2), (1037, .box 41 [LS 1 (LS 4 Gb.av) ([] : List (List Gb)), LS 1 (LS 1 G2) ([] : List (List Int))]), (1038, .box 41 [OW 1046 1 (LS 4 Gb.av) s6.1, LS 1 (LS 1 G2) s6.2.1])]) (fun i56 => boxes.length - i56) 0 s13 h ⟨(by repeat' constructor), ⟨⟨_, rfl, .map⟩, ⟨_, rfl, .same⟩, ⟨_, rfl, .map⟩, ⟨_, rfl, .boxL rfl ⟨.same rfl, .same rfl, trivial⟩⟩, ⟨_, rfl, .boxL rfl ⟨.same rfl, .same rfl, trivial⟩⟩, trivial⟩, rfl⟩ ?_
   clear h
   intro i56 s56 hi56 K56 e56
   refine G6 fun K57 hK57 => G3 ?_
   refine G1 (u := BL (decide ((i56 : Int) < (boxes.length : Int)))) (Hg rfl rfl rfl) ?_
   refine G9 (hK57 _ _ ?_)
   refine G6 (fun K58 hK58 => ?_)
   refine Gm rfl (fun hb => ?_) (fun hb => ?_)
   ·
    have hk56 := lt_len hb
    obtain ⟨y56, nx56, hy56, hn56, h⟩ := Hc hi56 hk56
    replace h := app4 hb56 h
    refine Gp ?_
    refine hK58 _ _ ?_
    obtain ⟨kj59, hkj59, h⟩ := Jf h
    refine Ht (fun j59 : (List Gb) => kj59 j59 = some r) (fun j59 => [(1, LS 9 Box.av boxes), (2, .mp 1022), (3, G2 calls), (4, .dptr (Ship.cs s)), (8, .ptr 1037 0), (10, .ptr 1038 0), (12, G2 (i6 : Int)), (13, LS 4 Gb.av j59), (83, LS 9 Box.av boxes), (84, G2 (boxes.length : Int)), (85, G2 (i56 : Int))]) (fun j59 => [(1022, MP 66 (fun n : Int => Value.int .i64 n) G2 home), (1046, .spare 96 1 s6.1.length s6.1.length), (1044, MP 95 (fun n : Int => Value.int .i64 n) Slot.av s6.2.2), (1037, .box 41 [LS 1 (LS 4 Gb.av) ([] : List (List Gb)), LS 1 (LS 1 G2) ([] : List (List Int))]), (1038, .box 41 [OW 1046 1 (LS 4 Gb.av) s6.1, LS 1 (LS 1 G2) s6.2.1])]) (fun Kj59 ej59 => ?_) ?_
    ·
     refine Gk ?_
     refine G6 fun K60 hK60 => G3 ?_
     refine G1 (u := .dptr (Box.cs y56)) (Gw (f := Box.av) (xs := boxes) (y := y56) rfl rfl rfl Hp hy56 rfl) ?_
     refine G1 (u := .agg (Box.cs y56)) (Gf Jw rfl rfl rfl) ?_
     refine G1 (u := .ptr 1041 0) (H8 1041 9 Jd rfl rfl) ?_
     refine H6 (u := .junk) (Gz (u := .agg (Box.cs y56)) (ds := (Box.cs y56)) Jx rfl rfl rfl rfl rfl rfl rfl rfl) ?_
     refine G9 (hK60 _ _ ?_)
     refine Gq [(1, LS 9 Box.av boxes), (2, .mp 1022), (3, G2 calls), (4, .dptr (Ship.cs s)), (8, .ptr 1037 0), (10, .ptr 1038 0), (12, G2 (i6 : Int)), (13, LS 4 Gb.av s56), (21, .dptr (Box.cs y56)), (83, LS 9 Box.av boxes), (84, G2 (boxes.length : Int)), (85, G2 (i56 : Int))] [(1022, MP 66 (fun n : Int => Value.int .i64 n) G2 home), (1046, .spare 96 1 s6.1.length s6.1.length), (1044, MP 95 (fun n : Int => Value.int .i64 n) Slot.av s6.2.2), (1037, .box 41 [LS 1 (LS 4 Gb.av) ([] : List (List Gb)), LS 1 (LS 1 G2) ([] : List (List Int))]), (1038, .box 41 [OW 1046 1 (LS 4 Gb.av) s6.1, LS 1 (LS 1 G2) s6.2.1])] 1041 rfl rfl rfl ⟨⟨_, rfl, .map⟩, ⟨_, rfl, .same⟩, ⟨_, rfl, .map⟩, ⟨_, rfl, .boxEq rfl rfl⟩, ⟨_, rfl, .boxEq rfl rfl⟩, trivial⟩ rfl (by repeat' (first | exact .ptr | constructor)) ?_
     refine G6 (fun K61 hK61 => ?_)
     refine G6 fun K62 hK62 => G3 ?_
     refine G1 (u := .dptr ((Box.cs y56).drop 5)) (Gd Jv rfl rfl rfl) ?_
     refine G1 (u := G2 y56.Load) (Gn Gc rfl rfl rfl) ?_
     refine G1 (u := G2 (i6 : Int)) (G5 rfl rfl) ?_
     refine G1 (u := BL (decide ((i6 : Int) < y56.Load))) (Jy rfl rfl rfl) ?_
     refine G1 (u := BL (decide ((i6 : Int) < y56.Load))) (G5 rfl rfl) ?_
     refine Gj (u := G2 (i6 : Int)) [] rfl rfl rfl .scf trivial (fun hc => G5 rfl rfl) ?_
     refine Gj (u := .dptr ((Box.cs y56).drop 6)) [] rfl rfl rfl .scf trivial (fun hc => Gd tf_field_70_6 rfl rfl rfl) ?_
     refine Gj (u := G2 y56.Discharge) [(95, .dptr ((Box.cs y56).drop 6))] rfl rfl rfl .scf ⟨.all id, trivial⟩ (fun hc => Gn Gc rfl rfl rfl) ?_
     refine Gj (u := BL (decide (y56.Discharge ≤ (i6 : Int)))) [(94, G2 (i6 : Int)), (96, G2 y56.Discharge)] rfl rfl rfl .scf ⟨.all id, .all id, trivial⟩ (fun hc => A_geq rfl rfl rfl) ?_
     refine G1 (u := BL ((decide ((i6 : Int) < y56.Load)) || (decide (y56.Discharge ≤ (i6 : Int))))) (A_or rfl rfl rfl rfl) ?_
     refine G1 (u := BL ((decide ((i6 : Int) < y56.Load)) || (decide (y56.Discharge ≤ (i6 : Int))))) (G5 rfl rfl) ?_
     refine Gj (u := LS 4 Gb.av s56) [] rfl rfl rfl .scf trivial (fun hc => G5 rfl rfl) ?_
     refine Gj (u := .dptr (Box.cs y56)) [] rfl rfl rfl .scf trivial (fun hc => Gd Hu rfl rfl rfl) ?_
     refine Gj (u := G2 y56.ID) [(101, .dptr (Box.cs y56))] rfl rfl rfl .scf ⟨.all id, trivial⟩ (fun hc => Gn Gc rfl rfl rfl) ?_
     obtain ⟨r63, hr63, h⟩ := Gg h
     refine Gj (u := BL r63) [(100, LS 4 Gb.av s56), (102, G2 y56.ID)] rfl rfl rfl .scf ⟨.all id, .all id, trivial⟩ (fun hc => Gu (args := [LS 4 Gb.av s56, G2 y56.ID]) rfl (M_twistlocklaw23_holds_w s56 y56.ID r63 (bif_t hc hr63)) tf_call_30 ⟨rfl, rfl, rfl, rfl, trivial⟩) ?_
     refine G1 (u := BL (((decide ((i6 : Int) < y56.Load)) || (decide (y56.Discharge ≤ (i6 : Int)))) || r63)) (A_or rfl rfl rfl rfl) ?_
     refine G9 (hK62 _ _ ?_)
     refine Gm rfl (fun hb => ?_) (fun hb => ?_)
     ·
      replace h := bif_t hb h
      refine H4 ?_
      exact ej59 _ _ s56 h ⟨(by repeat' constructor), ⟨⟨_, rfl, .map⟩, ⟨_, rfl, .same⟩, ⟨_, rfl, .map⟩, ⟨_, rfl, .boxL rfl ⟨.same rfl, .same rfl, trivial⟩⟩, ⟨_, rfl, .boxL rfl ⟨.same rfl, .same rfl, trivial⟩⟩, trivial⟩, rfl⟩
     ·
      replace h := bif_f hb h
      refine Gp ?_
      refine hK61 _ _ ?_
      refine G6 fun K64 hK64 => G3 ?_
      refine G1 (u := BL false) (Ga rfl rfl) ?_
      refine G9 (hK64 _ _ ?_)
      refine G6 (fun K65 hK65 => ?_)
      refine G6 fun K66 hK66 => G3 ?_
      refine G1 (u := G2 0) (Ga rfl rfl) ?_
      refine G9 (hK66 _ _ ?_)
      refine Gk ?_
      obtain ⟨b67, hb67, h⟩ := loop_in h
      refine H2 (fun i67 (s67 : (List Gb) × Bool × Int) => loop b67 i67 s67 = some r) (fun i67 s67 => [(1, LS 9 Box.av boxes), (2, .mp 1022), (3, G2 calls), (4, .dptr (Ship.cs s)), (8, .ptr 1037 0), (10, .ptr 1038 0), (12, G2 (i6 : Int)), (13, LS 4 Gb.av s67.1), (21, .dptr (Box.cs y56)), (22, BL s67.2.1), (23, G2 s67.2.2), (83, LS 9 Box.av boxes), (84, G2 (boxes.length : Int)), (85, G2 (i56 : Int))]) (fun i67 s67 => [(1022, MP 66 (fun n : Int => Value.int .i64 n) G2 home), (1046, .spare 96 1 s6.1.length s6.1.length), (1044, MP 95 (fun n : Int => Value.int .i64 n) Slot.av s6.2.2), (1037, .box 41 [LS 1 (LS 4 Gb.av) ([] : List (List Gb)), LS 1 (LS 1 G2) ([] : List (List Int))]), (1038, .box 41 [OW 1046 1 (LS 4 Gb.av) s6.1, LS 1 (LS 1 G2) s6.2.1])]) (fun i67 => i67) F (s56, false, 0) h ⟨(by repeat' constructor), ⟨⟨_, rfl, .map⟩, ⟨_, rfl, .same⟩, ⟨_, rfl, .map⟩, ⟨_, rfl, .boxL rfl ⟨.same rfl, .same rfl, trivial⟩⟩, ⟨_, rfl, .boxL rfl ⟨.same rfl, .same rfl, trivial⟩⟩, trivial⟩, rfl⟩ ?_
      clear h
      intro i67 s67 hi67 K67 e67
      obtain ⟨m67, nx67, hm_67, hn67, h⟩ := loop_out hi67
      replace h := app2 hb67 h
      refine G6 (fun K68 hK68 => ?_)
      refine G6 fun K69 hK69 => G3 ?_
      refine G1 (u := G2 s67.2.2) (G5 rfl rfl) ?_
      refine G1 (u := .dptr (Ship.cs s)) (Gd Hb rfl rfl rfl) ?_
      refine G1 (u := LS 12 G8.av s.Columns) (Gn Hm rfl rfl rfl) ?_
      refine H9 (f := G8.av) (xs := s.Columns) Ha rfl rfl (fun hm108 => ?_) rfl rfl rfl
      refine G1 (u := BL (decide (s67.2.2 < (s.Columns.length : Int)))) (Hg rfl rfl rfl) ?_
      refine G1 (u := BL (decide (s67.2.2 < (s.Columns.length : Int)))) (G5 rfl rfl) ?_
      refine Gj (u := BL s67.2.1) [] rfl rfl rfl .sct trivial (fun hc => G5 rfl rfl) ?_
      refine Gj (u := BL (!s67.2.1)) [(111, BL s67.2.1)] rfl rfl rfl .sct ⟨.all id, trivial⟩ (fun hc => A_not (b := s67.2.1) rfl rfl) ?_
      refine G1 (u := BL ((decide (s67.2.2 < (s.Columns.length : Int))) && (!s67.2.1))) (Jc rfl rfl rfl rfl) ?_
      refine G9 (hK69 _ _ ?_)
      refine Gm rfl (fun hb => ?_) (fun hb => ?_)
      ·
       replace h := bif_t hb h
       refine Gp ?_
       refine hK68 _ _ ?_
       obtain ⟨kj70, hkj70, h⟩ := Jf h
       refine Ht (fun j70 : (List Gb) × Bool => kj70 j70 = some r) (fun j70 => [(1, LS 9 Box.av boxes), (2, .mp 1022), (3, G2 calls), (4, .dptr (Ship.cs s)), (8, .ptr 1037 0), (10, .ptr 1038 0), (12, G2 (i6 : Int)), (13, LS 4 Gb.av j70.1), (21, .dptr (Box.cs y56)), (22, BL j70.2), (23, G2 s67.2.2), (83, LS 9 Box.av boxes), (84, G2 (boxes.length : Int)), (85, G2 (i56 : Int))]) (fun j70 => [(1022, MP 66 (fun n : Int => Value.int .i64 n) G2 home), (1046, .spare 96 1 s6.1.length s6.1.length), (1044, MP 95 (fun n : Int => Value.int .i64 n) Slot.av s6.2.2), (1037, .box 41 [LS 1 (LS 4 Gb.av) ([] : List (List Gb)), LS 1 (LS 1 G2) ([] : List (List Int))]), (1038, .box 41 [OW 1046 1 (LS 4 Gb.av) s6.1, LS 1 (LS 1 G2) s6.2.1])]) (fun Kj70 ej70 => ?_) ?_
       ·
        refine Gk ?_
        refine G6 fun K71 hK71 => G3 ?_
        refine G1 (u := .agg (Ship.cs s)) (Gf Hh rfl rfl rfl) ?_
        refine G1 (u := .dptr ((Box.cs y56).drop 2)) (Gd tf_field_70_2 rfl rfl rfl) ?_
        refine G1 (u := U8 y56.Size) (Gn Hk rfl rfl rfl) ?_
        obtain ⟨r72, hr72, h⟩ := Gg h
        refine G1 (u := LS 3 Slot.av r72) (Gu (args := [.agg (Ship.cs s), U8 y56.Size]) rfl (M_slot_All_w s y56.Size r72 hr72) tf_call_31 ⟨rfl, rfl, rfl, rfl, trivial⟩) ?_
        refine H9 (f := Slot.av) (xs := r72) Jg rfl rfl (fun hm120 => ?_) rfl rfl rfl
        refine G1 (u := G2 0) (G5 rfl rfl) ?_
        refine G9 (hK71 _ _ ?_)
        refine Gk ?_
        obtain ⟨b99, kx99, hb99, hkx99, h⟩ := Hj h
        refine H2 (fun i99 (s99 : (List Gb) × Bool) => each b99 kx99 (List.drop i99 r72) i99 s99 = some r) (fun i99 s99 => [(1, LS 9 Box.av boxes), (2, .mp 1022), (3, G2 calls), (4, .dptr (Ship.cs s)), (8, .ptr 1037 0), (10, .ptr 1038 0), (12, G2 (i6 : Int)), (13, LS 4 Gb.av s99.1), (21, .dptr (Box.cs y56)), (22, BL s99.2), (23, G2 s67.2.2), (83, LS 9 Box.av boxes), (84, G2 (boxes.length : Int)), (85, G2 (i56 : Int)), (119, LS 3 Slot.av r72), (120, G2 (r72.length : Int)), (121, G2 (i99 : Int))]) (fun i99 s99 => [(1022, MP 66 (fun n : Int => Value.int .i64 n) G2 home), (1046, .spare 96 1 s6.1.length s6.1.length), (1044, MP 95 (fun n : Int => Value.int .i64 n) Slot.av s6.2.2), (1037, .box 41 [LS 1 (LS 4 Gb.av) ([] : List (List Gb)), LS 1 (LS 1 G2) ([] : List (List Int))]), (1038, .box 41 [OW 1046 1 (LS 4 Gb.av) s6.1, LS 1 (LS 1 G2) s6.2.1])]) (fun i99 => r72.length - i99) 0 (s67.1, s67.2.1) h ⟨(by repeat' constructor), ⟨⟨_, rfl, .map⟩, ⟨_, rfl, .same⟩, ⟨_, rfl, .map⟩, ⟨_, rfl, .boxL rfl ⟨.same rfl, .same rfl, trivial⟩⟩, ⟨_, rfl, .boxL rfl ⟨.same rfl, .same rfl, trivial⟩⟩, trivial⟩, rfl⟩ ?_
        clear h
        intro i99 s99 hi99 K99 e99
        refine G6 fun K100 hK100 => G3 ?_
        refine G1 (u := BL (decide ((i99 : Int) < (r72.length : Int)))) (Hg rfl rfl rfl) ?_
        refine G9 (hK100 _ _ ?_)
        refine G6 (fun K101 hK101 => ?_)
        refine Gm rfl (fun hb => ?_) (fun hb => ?_)
        ·
         have hk99 := lt_len hb
         obtain ⟨y99, nx99, hy99, hn99, h⟩ := Hc hi99 hk99
         replace h := app4 hb99 h
         refine Gp ?_
         refine hK101 _ _ ?_
         refine G6 (fun K102 hK102 => ?_)
         refine Gk ?_
         refine G6 fun K103 hK103 => G3 ?_
         refine G1 (u := .dptr (Slot.cs y99)) (Gw (f := Slot.av) (xs := r72) (y := y99) rfl rfl rfl Jg hy99 rfl) ?_
         refine G1 (u := .agg (Slot.cs y99)) (Gf Jn rfl rfl rfl) ?_
         refine G1 (u := .ptr 1042 0) (H8 1042 3 tf_zsize_98 rfl rfl) ?_
         refine H6 (u := .junk) (Gz (u := .agg (Slot.cs y99)) (ds := [G2 y99.G8, G2 y99.Tier, U8 y99.Half]) tf_size_98 rfl rfl rfl rfl rfl rfl rfl rfl) ?_
         refine G9 (hK103 _ _ ?_)
         refine Gq [(1, LS 9 Box.av boxes), (2, .mp 1022), (3, G2 calls), (4, .dptr (Ship.cs s)), (8, .ptr 1037 0), (10, .ptr 1038 0), (12, G2 (i6 : Int)), (13, LS 4 Gb.av s99.1), (21, .dptr (Box.cs y56)), (22, BL s99.2), (23, G2 s67.2.2), (25, .dptr (Slot.cs y99)), (83, LS 9 Box.av boxes), (84, G2 (boxes.length : Int)), (85, G2 (i56 : Int)), (119, LS 3 Slot.av r72), (120, G2 (r72.length : Int)), (121, G2 (i99 : Int))] [(1022, MP 66 (fun n : Int => Value.int .i64 n) G2 home), (1046, .spare 96 1 s6.1.length s6.1.length), (1044, MP 95 (fun n : Int => Value.int .i64 n) Slot.av s6.2.2), (1037, .box 41 [LS 1 (LS 4 Gb.av) ([] : List (List Gb)), LS 1 (LS 1 G2) ([] : List (List Int))]), (1038, .box 41 [OW 1046 1 (LS 4 Gb.av) s6.1, LS 1 (LS 1 G2) s6.2.1])] 1042 rfl rfl rfl ⟨⟨_, rfl, .map⟩, ⟨_, rfl, .same⟩, ⟨_, rfl, .map⟩, ⟨_, rfl, .boxEq rfl rfl⟩, ⟨_, rfl, .boxEq rfl rfl⟩, trivial⟩ rfl (by repeat' (first | exact .ptr | constructor)) ?_
         refine G6 fun K104 hK104 => G3 ?_
         refine G1 (u := LS 4 Gb.av s99.1) (G5 rfl rfl) ?_
         refine G1 (u := .dptr (Box.cs y56)) (Gd Hu rfl rfl rfl) ?_
         refine G1 (u := G2 y56.ID) (Gn Gc rfl rfl rfl) ?_
         refine G1 (u := .agg (Slot.cs y99)) (Gf Jn rfl rfl rfl) ?_
         refine G1 (u := .agg [G2 y56.ID, G2 y99.G8, G2 y99.Tier, U8 y99.Half]) (Hn (cs := [G2 y56.ID, G2 y99.G8, G2 y99.Tier, U8 y99.Half]) [(0, 1), (1, 3)] [G2 0, G2 0, G2 0, U8 0] [.int .i64 0, .int .i64 0, .int .i64 0, .int .u8 0] tf_places_102 tf_zero_102 ⟨.inl rfl, .inl rfl, .inl rfl, .inl rfl, trivial⟩ rfl rfl) ?_
         obtain ⟨r105, hr105, h⟩ := Gg h
         refine G1 (u := LS 4 Gb.av r105) (Gu (args := [LS 4 Gb.av s99.1, .agg [G2 y56.ID, G2 y99.G8, G2 y99.Tier, U8 y99.Half]]) rfl (M_twistlocklaw23_with_w s99.1 (Gb.mk y56.ID y99) r105 hr105) tf_call_28 ⟨rfl, rfl, rfl, rfl, trivial⟩) ?_
         refine G1 (u := LS 4 Gb.av r105) (Ga rfl rfl) ?_
         refine G9 (hK104 _ _ ?_)
         refine G6 (fun K106 hK106 => ?_)
         refine J3 (l' := [(1, LS 9 Box.av boxes), (2, .mp 1022), (3, G2 calls), (4, .dptr (Ship.cs s)), (8, .ptr 1037 0), (10, .ptr 1038 0), (12, G2 (i6 : Int)), (13, LS 4 Gb.av s99.1), (21, .dptr (Box.cs y56)), (22, BL s99.2), (23, G2 s67.2.2), (25, .dptr (Slot.cs y99)), (26, LS 4 Gb.av r105), (83, LS 9 Box.av boxes), (84, G2 (boxes.length : Int)), (85, G2 (i56 : Int)), (119, LS 3 Slot.av r72), (120, G2 (r72.length : Int)), (121, G2 (i99 : Int))]) (L' := [(1022, MP 66 (fun n : Int => Value.int .i64 n) G2 home), (1046, .spare 96 1 s6.1.length s6.1.length), (1044, MP 95 (fun n : Int => Value.int .i64 n) Slot.av s6.2.2), (1037, .box 41 [LS 1 (LS 4 Gb.av) ([] : List (List Gb)), LS 1 (LS 1 G2) ([] : List (List Int))]), (1038, .box 41 [OW 1046 1 (LS 4 Gb.av) s6.1, LS 1 (LS 1 G2) s6.2.1])]) ⟨(by repeat' constructor), ⟨⟨_, rfl, .map⟩, ⟨_, rfl, .same⟩, ⟨_, rfl, .map⟩, ⟨_, rfl, .boxL rfl ⟨.same rfl, .same rfl, trivial⟩⟩, ⟨_, rfl, .boxL rfl ⟨.same rfl, .same rfl, trivial⟩⟩, trivial⟩, rfl⟩ ?_
         obtain ⟨v107, hv107, h⟩ := Gg h
         obtain ⟨v108, hv108, h⟩ := Gy h
         obtain ⟨v109, hv109, h⟩ := Gg h
         obtain ⟨r110, hr110, h⟩ := Gg h
         refine Hy [] [0, 0, 0, 0, 0, 0, 0, 0, 0, 0, 0, 0, 0, 0, 0, 0, 0, 0, 0] [0, 0, 0, 0, 0, 0, 0, 0, 0, 0, 0, 0, 0, 0, 0, 0, 0, 0, 0] [[(1022, MP 66 (fun n : Int => Value.int .i64 n) G2 home), (1046, .spare 96 1 s6.1.length s6.1.length), (1044, MP 95 (fun n : Int => Value.int .i64 n) Slot.av s6.2.2), (1037, .box 41 [LS 1 (LS 4 Gb.av) ([] : List (List Gb)), LS 1 (LS 1 G2) ([] : List (List Int))]), (1038, .box 41 [OW 1046 1 (LS 4 Gb.av) s6.1, LS 1 (LS 1 G2) s6.2.1])]] Hr (by kernel_rfl) rfl rfl ?_
         refine Ge (u := .dptr (Slot.cs y99)) rfl rfl ⟨Gi (Gd Js rfl rfl rfl) rfl, trivial⟩ ?_
         refine Ge (u := G2 y99.G8) rfl rfl ⟨Gi (Gn Gc rfl rfl rfl) rfl, trivial⟩ ?_
         refine Ge (u := .mp 1022) rfl rfl ⟨Gi (G5 rfl rfl) rfl, trivial⟩ ?_
         refine Ge (u := .dptr (Box.cs y56)) rfl rfl ⟨Gi (Gd Hu rfl rfl rfl) rfl, trivial⟩ ?_
         refine Ge (u := G2 y56.ID) rfl rfl ⟨Gi (Gn Gc rfl rfl rfl) rfl, trivial⟩ ?_
         refine Ge (u := G2 v107) rfl rfl ⟨Gi (((Option.some.inj hv107) ▸ A_lookupM0 (av := G2) (m := home) (a := y56.ID) 0 (.int .i64 0) rfl rfl rfl rfl tk_3 tf_map_66 tf_zv_3 rfl)) rfl, trivial⟩ ?_
         refine Ge (u := G2 s67.2.2) rfl rfl ⟨Gi (G5 rfl rfl) rfl, trivial⟩ ?_
         refine Ge (u := G2 v108) rfl rfl ⟨Gi (H7 hv108 rfl rfl rfl) rfl, trivial⟩ ?_
         refine Ge (u := .dptr (Ship.cs s)) rfl rfl ⟨Gi (Gd Hb rfl rfl rfl) rfl, trivial⟩ ?_
         refine Ge (u := LS 12 G8.av s.Columns) rfl rfl ⟨Gi (Gn Hm rfl rfl rfl) rfl, trivial⟩ ?_
         refine Ge (u := G2 (s.Columns.length : Int)) rfl rfl ⟨Gi (Jz (f := G8.av) (xs := s.Columns) Ha rfl rfl) rfl, trivial⟩ ?_
         refine Ge (u := G2 v109) rfl rfl ⟨Gi (A_rem (rem64_out hv109).1 (rem64_out hv109).2 rfl rfl rfl) rfl, trivial⟩ ?_
         refine Ge (u := BL (decide (y99.G8 = v109))) rfl rfl ⟨Gi (Jb rfl rfl rfl) rfl, trivial⟩ ?_
         refine Ge (u := BL (decide (y99.G8 = v109))) rfl rfl ⟨Gi (G5 rfl rfl) rfl, trivial⟩ ?_
         refine Ge (u := .opt (decide (y99.G8 = v109)) (.agg (Ship.cs s))) rfl rfl ⟨Gv [] rfl rfl rfl .sct trivial (fun hc => Gf Hh rfl rfl rfl) rfl, trivial⟩ ?_
         refine Ge (u := .opt (decide (y99.G8 = v109)) (LS 9 Box.av boxes)) rfl rfl ⟨Gv [] rfl rfl rfl .sct trivial (fun hc => G5 rfl rfl) rfl, trivial⟩ ?_
         refine Ge (u := .opt (decide (y99.G8 = v109)) (LS 4 Gb.av r105)) rfl rfl ⟨Gv [] rfl rfl rfl .sct trivial (fun hc => G5 rfl rfl) rfl, trivial⟩ ?_
         refine Ge (u := .opt (decide (y99.G8 = v109)) (BL r110)) rfl rfl ⟨Gv [(145, .agg (Ship.cs s)), (146, LS 9 Box.av boxes), (147, LS 4 Gb.av r105)] rfl rfl rfl .sct ⟨.all id, .all id, .all id, trivial⟩ (fun hc => Gu (args := [.agg (Ship.cs s), LS 9 Box.av boxes, LS 4 Gb.av r105]) rfl (M_stow_Right_w s boxes r105 r110 (bif_t hc hr110)) tf_call_29 ⟨rfl, rfl, rfl, rfl, rfl, rfl, trivial⟩) rfl, trivial⟩ ?_
         refine Ge (u := BL ((decide (y99.G8 = v109)) && r110)) rfl rfl ⟨Gi (Jc rfl rfl rfl rfl) rfl, trivial⟩ ?_
         refine Q3 ?_
         refine hK106 _ _ ?_
         refine Gm rfl (fun hb => ?_) (fun hb => ?_)
         ·
          replace h := bif_t hb h
          refine G6 fun K111 hK111 => G3 ?_
          refine G1 (u := LS 4 Gb.av r105) (G5 rfl rfl) ?_
          refine G1 (u := LS 4 Gb.av r105) (Ga rfl rfl) ?_
          refine G1 (u := BL true) (Ga rfl rfl) ?_
          refine G9 (hK111 _ _ ?_)
          refine H4 ?_
          exact ej70 _ _ (r105, true) h ⟨(by repeat' constructor), ⟨⟨_, rfl, .map⟩, ⟨_, rfl, .same⟩, ⟨_, rfl, .map⟩, ⟨_, rfl, .boxL rfl ⟨.same rfl, .same rfl, trivial⟩⟩, ⟨_, rfl, .boxL rfl ⟨.same rfl, .same rfl, trivial⟩⟩, trivial⟩, rfl⟩
         ·
          replace h := bif_f hb h
          refine Gp ?_
          refine hK102 _ _ ?_
          refine G3 ?_
          refine G1 (u := G2 ((i99 + 1 : Nat) : Int)) (H7 (idx_succ hk99 hm120) rfl rfl rfl) ?_
          refine G1 (u := G2 ((i99 + 1 : Nat) : Int)) (G5 rfl rfl) ?_
          refine G9 ?_
          exact e99 _ _ (i99 + 1) (s99.1, s99.2) (app1 hn99 h) (by omega) ⟨(by repeat' constructor), ⟨⟨_, rfl, .map⟩, ⟨_, rfl, .same⟩, ⟨_, rfl, .map⟩, ⟨_, rfl, .boxL rfl ⟨.same rfl, .same rfl, trivial⟩⟩, ⟨_, rfl, .boxL rfl ⟨.same rfl, .same rfl, trivial⟩⟩, trivial⟩, rfl⟩
        ·
         have h := app1 hkx99 (Hd hi99 (H3 hb))
         refine H4 ?_
         exact ej70 _ _ (s99.1, s99.2) h ⟨(by repeat' constructor), ⟨⟨_, rfl, .map⟩, ⟨_, rfl, .same⟩, ⟨_, rfl, .map⟩, ⟨_, rfl, .boxL rfl ⟨.same rfl, .same rfl, trivial⟩⟩, ⟨_, rfl, .boxL rfl ⟨.same rfl, .same rfl, trivial⟩⟩, trivial⟩, rfl⟩
       ·intro j70 h
        replace h := app1 hkj70 h
        refine G3 ?_
        refine G1 (u := G2 s67.2.2) (G5 rfl rfl) ?_
        obtain ⟨v112, hv112, h⟩ := Gy h
        refine G1 (u := G2 v112) (H7 hv112 rfl rfl rfl) ?_
        refine G1 (u := G2 v112) (Ga rfl rfl) ?_
        refine G9 ?_
        exact e67 _ _ m67 (j70.1, j70.2, v112) (app1 hn67 h) (by omega) ⟨(by repeat' constructor), ⟨⟨_, rfl, .map⟩, ⟨_, rfl, .same⟩, ⟨_, rfl, .map⟩, ⟨_, rfl, .boxL rfl ⟨.same rfl, .same rfl, trivial⟩⟩, ⟨_, rfl, .boxL rfl ⟨.same rfl, .same rfl, trivial⟩⟩, trivial⟩, rfl⟩
      ·
       replace h := bif_f hb h
       refine H4 ?_
       refine hK65 _ _ ?_
       refine G6 fun K113 hK113 => G3 ?_
       refine G1 (u := BL s67.2.1) (G5 rfl rfl) ?_
       refine G1 (u := BL (!s67.2.1)) (A_not (b := s67.2.1) rfl rfl) ?_
       refine G9 (hK113 _ _ ?_)
       refine Gm rfl (fun hb => ?_) (fun hb => ?_)
       ·
        replace h := bif_t hb h
        refine G6 (fun K114 hK114 => ?_)
        refine J3 (l' := [(8, .ptr 1037 0), (21, .dptr (Box.cs y56))]) (L' := [(1022, MP 66 (fun n : Int => Value.int .i64 n) G2 home), (1046, .spare 96 1 s6.1.length s6.1.length), (1044, MP 95 (fun n : Int => Value.int .i64 n) Slot.av s6.2.2), (1037, .box 41 [LS 1 (LS 4 Gb.av) ([] : List (List Gb)), LS 1 (LS 1 G2) ([] : List (List Int))]), (1038, .box 41 [OW 1046 1 (LS 4 Gb.av) s6.1, LS 1 (LS 1 G2) s6.2.1])]) ⟨⟨.same rfl, .same rfl, trivial⟩, ⟨⟨_, rfl, .map⟩, ⟨_, rfl, .same⟩, ⟨_, rfl, .map⟩, ⟨_, rfl, .boxL rfl ⟨.same rfl, .same rfl, trivial⟩⟩, ⟨_, rfl, .boxL rfl ⟨.same rfl, .same rfl, trivial⟩⟩, trivial⟩, rfl⟩ ?_
        refine Hy [3] [0, 0, 0, 0, 1] [0, 1, 1, 0, 1] [[(1022, MP 66 (fun n : Int => Value.int .i64 n) G2 home), (1046, .spare 96 1 s6.1.length s6.1.length), (1044, MP 95 (fun n : Int => Value.int .i64 n) Slot.av s6.2.2), (1037, .box 41 [LS 1 (LS 4 Gb.av) ([] : List (List Gb)), LS 1 (LS 1 G2) ([] : List (List Int))]), (1038, .box 41 [OW 1046 1 (LS 4 Gb.av) s6.1, LS 1 (LS 1 G2) s6.2.1])], ((1037, .box 41 [LS 1 (LS 4 Gb.av) ([] : List (List Gb)), LS 1 (LS 1 G2) ([] : List (List Int))]) :: [(1022, MP 66 (fun n : Int => Value.int .i64 n) G2 home), (1046, .spare 96 1 s6.1.length s6.1.length), (1044, MP 95 (fun n : Int => Value.int .i64 n) Slot.av s6.2.2), (1037, .box 41 [LS 1 (LS 4 Gb.av) ([] : List (List Gb)), LS 1 (LS 1 G2) ([] : List (List Int))]), (1038, .box 41 [OW 1046 1 (LS 4 Gb.av) s6.1, LS 1 (LS 1 G2) s6.2.1])])] Hr (by kernel_rfl) rfl rfl ?_
        refine Ge (u := .agg [LS 1 (LS 4 Gb.av) ([] : List (List Gb)), LS 1 (LS 1 G2) ([] : List (List Int))]) rfl rfl ⟨Gi (Hn (cs := [LS 1 (LS 4 Gb.av) ([] : List (List Gb)), LS 1 (LS 1 G2) ([] : List (List Int))]) [(0, 1), (1, 1)] [LS 1 (LS 4 Gb.av) ([] : List (List Gb)), LS 1 (LS 1 G2) ([] : List (List Int))] [.slice none 0 0, .slice none 0 0] tf_places_41 tf_zero_41 ⟨.inr ⟨_, rfl, rfl⟩, .inr ⟨_, rfl, rfl⟩, trivial⟩ rfl rfl) rfl, trivial⟩ ?_
        refine Ge (u := .dptr (Box.cs y56)) rfl rfl ⟨Gi (Gd Hu rfl rfl rfl) rfl, Gi (Gd Hu rfl rfl rfl) rfl, trivial⟩ ?_
        refine Ge (u := G2 y56.ID) rfl rfl ⟨Gi (Gn Gc rfl rfl rfl) rfl, Gi (Gn Gc rfl rfl rfl) rfl, trivial⟩ ?_
        refine D_w0 (u := .junk) rfl rfl rfl rfl (Gi (Gz (u := .agg [LS 1 (LS 4 Gb.av) ([] : List (List Gb)), LS 1 (LS 1 G2) ([] : List (List Int))]) (ds := [LS 1 (LS 4 Gb.av) ([] : List (List Gb)), LS 1 (LS 1 G2) ([] : List (List Int))]) tf_size_41 rfl rfl rfl rfl rfl rfl rfl rfl) rfl) ?_
        refine Ge (u := G2 y56.ID) rfl rfl ⟨Gi (Ga rfl rfl) rfl, trivial⟩ ?_
        refine Q3 ?_
        refine hK114 _ _ ?_
        refine J3 (l' := [(8, .ptr 1037 0), (9, G2 y56.ID)]) (L' := [(1022, MP 66 (fun n : Int => Value.int .i64 n) G2 home), (1044, MP 95 (fun n : Int => Value.int .i64 n) Slot.av s6.2.2), (1037, .box 41 [LS 1 (LS 4 Gb.av) ([] : List (List Gb)), LS 1 (LS 1 G2) ([] : List (List Int))]), (1038, .box 41 [LS 1 (LS 4 Gb.av) s6.1, LS 1 (LS 1 G2) s6.2.1])]) ⟨⟨.same rfl, .same rfl, trivial⟩, ⟨⟨_, rfl, .map⟩, ⟨_, rfl, .map⟩, ⟨_, rfl, .boxL rfl ⟨.same rfl, .same rfl, trivial⟩⟩, ⟨_, rfl, .boxL rfl ⟨.list rfl, .same rfl, trivial⟩⟩, trivial⟩, rfl⟩ ?_
        refine Gq [(8, .ptr 1037 0), (9, G2 y56.ID)] [(1022, MP 66 (fun n : Int => Value.int .i64 n) G2 home), (1044, MP 95 (fun n : Int => Value.int .i64 n) Slot.av s6.2.2), (1037, .box 41 [LS 1 (LS 4 Gb.av) ([] : List (List Gb)), LS 1 (LS 1 G2) ([] : List (List Int))])] 1038 rfl rfl rfl ⟨⟨_, rfl, .map⟩, ⟨_, rfl, .map⟩, ⟨_, rfl, .boxEq rfl rfl⟩, trivial⟩ rfl (by exact ⟨.conv (.same rfl), .conv (.same rfl), trivial⟩) ?_
        refine Gt ?_
        obtain rfl := Option.some.inj h
        exact ⟨[.agg [LS 1 (LS 4 Gb.av) ([] : List (List Gb)), LS 1 (LS 1 G2) ([] : List (List Int))], G2 y56.ID], [(1022, MP 66 (fun n : Int => Value.int .i64 n) G2 home)], ⟨⟨_, rfl, .map⟩, trivial⟩, rfl, ⟨⟨_, ⟨_, _, _, _, rfl, rfl, rfl, .inl ⟨tf_agg_41, rfl⟩⟩, .conv (.same rfl)⟩, ⟨_, rfl, .conv (.same rfl)⟩, trivial⟩, rfl, rfl⟩
       ·
        replace h := bif_f hb h
        refine Gp ?_
        exact ej59 _ _ s67.1 h ⟨(by repeat' constructor), ⟨⟨_, rfl, .map⟩, ⟨_, rfl, .same⟩, ⟨_, rfl, .map⟩, ⟨_, rfl, .boxL rfl ⟨.same rfl, .same rfl, trivial⟩⟩, ⟨_, rfl, .boxL rfl ⟨.same rfl, .same rfl, trivial⟩⟩, trivial⟩, rfl⟩
    ·intro j59 h
     replace h := app1 hkj59 h
     refine G3 ?_
     refine G1 (u := G2 ((i56 + 1 : Nat) : Int)) (H7 (idx_succ hk56 hm84) rfl rfl rfl) ?_
     refine G1 (u := G2 ((i56 + 1 : Nat) : Int)) (G5 rfl rfl) ?_
     refine G9 ?_
     exact e56 _ _ (i56 + 1) j59 (app1 hn56 h) (by omega) ⟨(by repeat' constructor), ⟨⟨_, rfl, .map⟩, ⟨_, rfl, .same⟩, ⟨_, rfl, .map⟩, ⟨_, rfl, .boxL rfl ⟨.same rfl, .same rfl, trivial⟩⟩, ⟨_, rfl, .boxL rfl ⟨.same rfl, .same rfl, trivial⟩⟩, trivial⟩, rfl⟩
   ·
    have h := app1 hkx56 (Hd hi56 (H3 hb))
    refine H4 ?_
    refine hK54 _ _ ?_
    refine G6 fun K115 hK115 => G3 ?_
    refine G1 (u := .mp 1045) (A_makeMapM 1045 (fun n : Int => Value.int .i64 n) Slot.av rfl rfl) ?_
    refine G1 (u := .mp 1045) (Ga rfl rfl) ?_
    refine JL_rename 1044 1045 (MP 95 (fun n : Int => Value.int .i64 n) Slot.av (AMap.empty : AMap Int Slot)) [(1, LS 9 Box.av boxes), (2, .mp 1022), (3, G2 calls), (4, .dptr (Ship.cs s)), (8, .ptr 1037 0), (10, .ptr 1038 0), (12, G2 (i6 : Int)), (13, LS 4 Gb.av s56), (83, LS 9 Box.av boxes), (84, G2 (boxes.length : Int)), (85, G2 (i56 : Int)), (86, BL (decide ((i56 : Int) < (boxes.length : Int)))), (158, .mp 1045), (11, .mp 1045)] [(1, LS 9 Box.av boxes), (2, .mp 1022), (3, G2 calls), (4, .dptr (Ship.cs s)), (8, .ptr 1037 0), (10, .ptr 1038 0), (12, G2 (i6 : Int)), (13, LS 4 Gb.av s56), (83, LS 9 Box.av boxes), (84, G2 (boxes.length : Int)), (85, G2 (i56 : Int)), (86, BL (decide ((i56 : Int) < (boxes.length : Int)))), (158, .mp 1044), (11, .mp 1044)] [(1022, MP 66 (fun n : Int => Value.int .i64 n) G2 home), (1046, .spare 96 1 s6.1.length s6.1.length), (1037, .box 41 [LS 1 (LS 4 Gb.av) ([] : List (List Gb)), LS 1 (LS 1 G2) ([] : List (List Int))]), (1038, .box 41 [OW 1046 1 (LS 4 Gb.av) s6.1, LS 1 (LS 1 G2) s6.2.1])] ⟨_, _, rfl⟩ ⟨(by repeat' constructor), ⟨⟨_, rfl, .map⟩, ⟨_, rfl, .map⟩, ⟨_, rfl, .same⟩, ⟨_, rfl, .boxL rfl ⟨.same rfl, .same rfl, trivial⟩⟩, ⟨_, rfl, .boxL rfl ⟨.same rfl, .same rfl, trivial⟩⟩, trivial⟩, rfl⟩ rfl rfl rfl rfl rfl ⟨⟨_, rfl, .map⟩, ⟨_, rfl, .same⟩, ⟨_, rfl, .boxEq rfl rfl⟩, ⟨_, rfl, .boxEq rfl rfl⟩, trivial⟩ ⟨.inr ⟨rfl, rfl⟩, ⟨.inr ⟨rfl, rfl⟩, ⟨.inr ⟨rfl, rfl⟩, ⟨.inr ⟨rfl, rfl⟩, ⟨.inr ⟨rfl, rfl⟩, ⟨.inr ⟨rfl, rfl⟩, ⟨.inr ⟨rfl, rfl⟩, ⟨.inr ⟨rfl, rfl⟩, ⟨.inr ⟨rfl, rfl⟩, ⟨.inr ⟨rfl, rfl⟩, ⟨.inr ⟨rfl, rfl⟩, ⟨.inr ⟨rfl, rfl⟩, ⟨.inl ⟨rfl, rfl⟩, ⟨.inl ⟨rfl, rfl⟩, trivial⟩⟩⟩⟩⟩⟩⟩⟩⟩⟩⟩⟩⟩⟩ ?_
    refine G9 (hK115 _ _ ?_)
    refine G6 (fun K116 hK116 => ?_)
    refine G6 fun K117 hK117 => G3 ?_
    refine G1 (u := LS 4 Gb.av s56) (G5 rfl rfl) ?_
    refine H9 (f := Gb.av) (xs := s56) Hq rfl rfl (fun hm160 => ?_) rfl rfl rfl
    refine G1 (u := G2 0) (G5 rfl rfl) ?_
    refine G9 (hK117 _ _ ?_)
    refine Gk ?_
    obtain ⟨b138, kx138, hb138, hkx138, h⟩ := Hj h
    refine H2 (fun i138 (s138 : (AMap Int Slot)) => each b138 kx138 (List.drop i138 s56) i138 s138 = some r) (fun i138 s138 => [(1, LS 9 Box.av boxes), (2, .mp 1022), (3, G2 calls), (4, .dptr (Ship.cs s)), (8, .ptr 1037 0), (10, .ptr 1038 0), (11, .mp 1044), (12, G2 (i6 : Int)), (13, LS 4 Gb.av s56), (159, LS 4 Gb.av s56), (160, G2 (s56.length : Int)), (161, G2 (i138 : Int))]) (fun i138 s138 => [(1044, MP 95 (fun n : Int => Value.int .i64 n) Slot.av s138), (1022, MP 66 (fun n : Int => Value.int .i64 n) G2 home), (1046, .spare 96 1 s6.1.length s6.1.length), (1037, .box 41 [LS 1 (LS 4 Gb.av) ([] : List (List Gb)), LS 1 (LS 1 G2) ([] : List (List Int))]), (1038, .box 41 [OW 1046 1 (LS 4 Gb.av) s6.1, LS 1 (LS 1 G2) s6.2.1])]) (fun i138 => s56.length - i138) 0 (AMap.empty : AMap Int Slot) h ⟨(by repeat' constructor), ⟨⟨_, rfl, .map⟩, ⟨_, rfl, .map⟩, ⟨_, rfl, .same⟩, ⟨_, rfl, .boxL rfl ⟨.same rfl, .same rfl, trivial⟩⟩, ⟨_, rfl, .boxL rfl ⟨.same rfl, .same rfl, trivial⟩⟩, trivial⟩, rfl⟩ ?_
    clear h
    intro i138 s138 hi138 K138 e138
    refine G6 fun K139 hK139 => G3 ?_
    refine G1 (u := BL (decide ((i138 : Int) < (s56.length : Int)))) (Hg rfl rfl rfl) ?_
    refine G9 (hK139 _ _ ?_)
    refine G6 (fun K140 hK140 => ?_)
    refine Gm rfl (fun hb => ?_) (fun hb => ?_)
    ·
     have hk138 := lt_len hb
     obtain ⟨y138, nx138, hy138, hn138, h⟩ := Hc hi138 hk138
     replace h := app4 hb138 h
     refine Gp ?_
     refine hK140 _ _ ?_
     refine G6 (fun K141 hK141 => ?_)
     refine Gk ?_
     refine G6 fun K142 hK142 => G3 ?_
     refine G1 (u := .dptr (Gb.cs y138)) (Gw (f := Gb.av) (xs := s56) (y := y138) rfl rfl rfl Hq hy138 rfl) ?_
     refine G1 (u := .agg (Gb.cs y138)) (Gf tf_agg_102 rfl rfl rfl) ?_
     refine G1 (u := .ptr 1043 0) (H8 1043 4 Ji rfl rfl) ?_
     refine H6 (u := .junk) (Gz (u := .agg (Gb.cs y138)) (ds := [G2 y138.Box, G2 y138.Slot.G8, G2 y138.Slot.Tier, U8 y138.Slot.Half]) tf_size_102 rfl rfl rfl rfl rfl rfl rfl rfl) ?_
     refine G9 (hK142 _ _ ?_)
     refine Gq [(1, LS 9 Box.av boxes), (2, .mp 1022), (3, G2 calls), (4, .dptr (Ship.cs s)), (8, .ptr 1037 0), (10, .ptr 1038 0), (11, .mp 1044), (12, G2 (i6 : Int)), (13, LS 4 Gb.av s56), (28, .dptr (Gb.cs y138)), (159, LS 4 Gb.av s56), (160, G2 (s56.length : Int)), (161, G2 (i138 : Int))] [(1044, MP 95 (fun n : Int => Value.int .i64 n) Slot.av s138), (1022, MP 66 (fun n : Int => Value.int .i64 n) G2 home), (1046, .spare 96 1 s6.1.length s6.1.length), (1037, .box 41 [LS 1 (LS 4 Gb.av) ([] : List (List Gb)), LS 1 (LS 1 G2) ([] : List (List Int))]), (1038, .box 41 [OW 1046 1 (LS 4 Gb.av) s6.1, LS 1 (LS 1 G2) s6.2.1])] 1043 rfl rfl rfl ⟨⟨_, rfl, .map⟩, ⟨_, rfl, .map⟩, ⟨_, rfl, .same⟩, ⟨_, rfl, .boxEq rfl rfl⟩, ⟨_, rfl, .boxEq rfl rfl⟩, trivial⟩ rfl (by repeat' (first | exact .ptr | constructor)) ?_
     refine G3 ?_
     refine G1 (u := .mp 1044) (G5 rfl rfl) ?_
     refine G1 (u := .dptr (Gb.cs y138)) (Gd Ja rfl rfl rfl) ?_
     refine G1 (u := G2 y138.Box) (Gn Gc rfl rfl rfl) ?_
     refine G1 (u := .dptr (Slot.cs y138.Slot)) (Gd Jm rfl rfl rfl) ?_
     refine G1 (u := .agg (Slot.cs y138.Slot)) (Gf Jn rfl rfl rfl) ?_
     refine H6 (u := .junk) (A_mapUpdateM (m := s138) (a := y138.Box) (v := y138.Slot) rfl rfl rfl rfl rfl rfl tk_3 tf_map_95) ?_
     refine G9 (hK141 _ _ ?_)
     refine G3 ?_
     refine G1 (u := G2 ((i138 + 1 : Nat) : Int)) (H7 (idx_succ hk138 hm160) rfl rfl rfl) ?_
     refine G1 (u := G2 ((i138 + 1 : Nat) : Int)) (G5 rfl rfl) ?_
     refine G9 ?_
     exact e138 _ _ (i138 + 1) (AMap.put s138 y138.Box y138.Slot) (app1 hn138 h) (by omega) ⟨(by repeat' constructor), ⟨⟨_, rfl, .map⟩, ⟨_, rfl, .map⟩, ⟨_, rfl, .same⟩, ⟨_, rfl, .boxL rfl ⟨.same rfl, .same rfl, trivial⟩⟩, ⟨_, rfl, .boxL rfl ⟨.same rfl, .same rfl, trivial⟩⟩, trivial⟩, rfl⟩
    ·
     have h := app1 hkx138 (Hd hi138 (H3 hb))
     refine H4 ?_
     refine hK116 _ _ ?_
     refine G3 ?_
     refine G1 (u := .ptr 1038 0) (Hi tf_field_41_0 rfl rfl) ?_
     refine G1 (u := OW 1046 1 (LS 4 Gb.av) s6.1) (J5 tf_scalar_38 rfl rfl rfl rfl) ?_
     refine G1 (u := LS 4 Gb.av s56) (G5 rfl rfl) ?_
     refine G1 (u := LS 1 (LS 4 Gb.av) [s56]) (H1 (xs := [LS 4 Gb.av s56]) rfl ⟨rfl, rfl, trivial⟩ tf_slice_38 tf_zsize_96 rfl rfl rfl rfl) ?_
     obtain ⟨ha143, h⟩ := He h
     refine G1 (u := OW 1046 1 (LS 4 Gb.av) (s6.1 ++ [s56])) (Hs (f := (LS 4 Gb.av)) (xs := s6.1) (ys := [s56]) rfl rfl rfl rfl tf_slice_38 tf_elem_96 ha143 (fun _ => rfl) (.inl rfl) rfl) ?_
     refine G1 (u := .ptr 1038 0) (Hi tf_field_41_0 rfl rfl) ?_
     refine H6 (u := .junk) (Gz (u := OW 1046 1 (LS 4 Gb.av) (s6.1 ++ [s56])) (ds := [OW 1046 1 (LS 4 Gb.av) (s6.1 ++ [s56]), LS 1 (LS 1 G2) s6.2.1]) tf_size_38 rfl rfl rfl rfl rfl rfl rfl rfl) ?_
     refine G9 (hK9 _ _ ?_)
     refine G3 ?_
     refine G1 (u := G2 (i6 : Int)) (G5 rfl rfl) ?_
     refine G1 (u := G2 ((i6 + 1 : Nat) : Int)) (H7 (idx_succ hk6 (toNat_max hx6)) rfl rfl rfl) ?_
     refine G1 (u := G2 ((i6 + 1 : Nat) : Int)) (Ga rfl rfl) ?_
     refine G9 ?_
     exact e6 _ _ (i6 + 1) ((s6.1 ++ [s56]), s6.2.1, s138) (app1 hn6 h) (by omega) ⟨(by repeat' constructor), ⟨⟨_, rfl, .map⟩, ⟨_, rfl, .same⟩, ⟨_, rfl, .map⟩, ⟨_, rfl, .boxL rfl ⟨.same rfl, .same rfl, trivial⟩⟩, ⟨_, rfl, .boxL rfl ⟨.same rfl, .same rfl, trivial⟩⟩, trivial⟩, rfl⟩
 ·
  have h := app1 hkx6 (upto_nil hi6 (not_lt_toNat hb))
  refine H4 ?_
  refine hK4 _ _ ?_
  refine G6 fun K144 hK144 => G3 ?_
  refine G1 (u := .agg [OW 1046 1 (LS 4 Gb.av) s6.1, LS 1 (LS 1 G2) s6.2.1]) (A_loadAggL tf_agg_41 rfl rfl rfl rfl) ?_
  refine H6 (u := .junk) (Gz (u := .agg [OW 1046 1 (LS 4 Gb.av) s6.1, LS 1 (LS 1 G2) s6.2.1]) (ds := [OW 1046 1 (LS 4 Gb.av) s6.1, LS 1 (LS 1 G2) s6.2.1]) tf_size_41 rfl rfl rfl rfl rfl rfl rfl rfl) ?_
  refine G1 (u := G2 0) (Ga rfl rfl) ?_
  refine G9 (hK144 _ _ ?_)
  refine Gt ?_
  obtain rfl := Option.some.inj h
  exact ⟨[.agg [LS 1 (LS 4 Gb.av) s6.1, LS 1 (LS 1 G2) s6.2.1], G2 0], [(1022, MP 66 (fun n : Int => Value.int .i64 n) G2 home)], ⟨⟨_, rfl, .map⟩, trivial⟩, rfl, ⟨⟨_, ⟨_, _, _, _, rfl, rfl, rfl, .inl ⟨tf_agg_41, rfl⟩⟩, .agg ⟨.list rfl, .same rfl, trivial⟩⟩, ⟨_, rfl, .conv (.same rfl)⟩, trivial⟩, rfl, rfl⟩

def M_twistlocklaw23_Voyage (F : Nat) (s : Ship) (l : List law23_Item) (calls : Int) (most : Int) : Option ((List Box) × Plan) :=
 bnd (natIn (min (l.length : Int) most) l.length) fun m6 =>
 each (fun y119 i119 (s119 : (List Box) × (AMap Int Int)) nx119 =>
  chk (5 * ((i119 + 1 : Nat) : Int)) fun v125 =>
  chk (y119.Kilos) fun v126 =>
  chk (100 * v126) fun v127 =>
  chk (1000 + v127) fun v128 =>
  chk (y119.Load) fun v129 =>
  chk (calls - 1) fun v130 =>
  bnd (rem64 v129 v130) fun v131 =>
  chk (v131 + 1) fun v133 =>
  chk (y119.Stay) fun v134 =>
  chk (calls - 1) fun v135 =>
  chk (v135 - v131) fun v136 =>
  bnd (rem64 v134 v136) fun v137 =>
  chk (v133 + v137) fun v138 =>
  jp (fun kj139 =>
   bif y119.Small then
   (kj139 (20, false))
   else
   (kj139 (40, y119.High))) fun (j139 : Int × Bool) =>
  chk (y119.G8) fun v142 =>
  bnd (rem64 v142 (s.Columns.length : Int)) fun v143 =>
  need (decide ((s119.1.length + [(Box.mk v125 ByteArray.empty j139.1 j139.2 v128 v131 v138 0 false)].length) * 64 ≤ 140737488355328 ∧ s119.1.length + [(Box.mk v125 ByteArray.empty j139.1 j139.2 v128 v131 v138 0 false)].length ≤ maxLen)) <|
  nx119 ((s119.1 ++ [(Box.mk v125 ByteArray.empty j139.1 j139.2 v128 v131 v138 0 false)]), (AMap.put s119.2 v125 v143)))
 (fun (s119 : (List Box) × (AMap Int Int)) =>
  chk ((s119.1.length : Int) + 1) fun v147 =>
  need (decide (v147 ≤ 9223372036854775807)) <|
  upto (fun i148 (s148 : (List Box) × (AMap Int Int)) nx148 =>
   bnd (M_twistlocklaw23_voyage F s s148.1 s148.2 calls) fun r153 =>
   bif decide (r153.2.1 = 0) then
   (some (s148.1, r153.1))
   else
   (each (fun y174 i174 (s174 : (List Box)) nx174 =>
     jp (fun kj177 =>
      bif decide (y174.ID ≠ r153.2.1) then
      (need (decide ((s174.length + [y174].length) * 64 ≤ 140737488355328 ∧ s174.length + [y174].length ≤ maxLen)) <|
       kj177 (s174 ++ [y174]))
      else
      (kj177 s174)) fun (j177 : (List Box)) =>
     nx174 j177)
    (fun (s174 : (List Box)) =>
     nx148 (s174, r153.2.2)) s148.1 0 []))
  (fun (s148 : (List Box) × (AMap Int Int)) =>
   bnd (natOf calls) fun m182 =>
   need (decide (24 * m182 ≤ 281474976710656 ∧ m182 ≤ maxLen ∧ m182 * 1 ≤ 16777216)) <|
   some ([], (Plan.mk (List.replicate m182 ([] : List Gb)) []))) v147.toNat 0 (s119.1, s119.2)) (l.take m6) 0 ([], (AMap.empty : AMap Int Int))
theorem M_twistlocklaw23_Voyage_w (F : Nat) (s : Ship) (l : List law23_Item) (calls : Int) (most : Int) (r : (List Box) × Plan) (h : M_twistlocklaw23_Voyage F s l calls most = some r) : Pure Try.prog 5 [.agg (Ship.cs s), LS 6 law23_Item.av l, G2 calls, G2 most] (· = .tup [LS 9 Box.av r.1, .agg [LS 1 (LS 4 Gb.av) r.2.States, LS 1 (LS 1 G2) r.2.Water]]) := by
 unfold M_twistlocklaw23_Voyage at h
 refine H0 [.tmp 8, .cell 9 41] Try.func5 rfl rfl ?_
 refine G6 fun K1 hK1 => G3 ?_
 refine G1 (u := .ptr 1014 0) (J2 (u := .agg (Ship.cs s)) (cs := (Ship.cs s)) 1014 rfl rfl rfl rfl rfl) ?_
 refine G1 (u := LS 9 Box.av ([] : List Box)) (J4 9 rfl rfl) ?_
 refine G1 (u := .ptr 1015 0) (A_allocZ 1015 [LS 1 (LS 4 Gb.av) ([] : List (List Gb)), LS 1 (LS 1 G2) ([] : List (List Int))] [.slice none 0 0, .slice none 0 0] tf_zero_41 ⟨.inr ⟨_, rfl, rfl⟩, .inr ⟨_, rfl, rfl⟩, trivial⟩ rfl rfl) ?_
 refine G9 (hK1 _ _ ?_)
 refine Gq [(1, LS 6 law23_Item.av l), (2, G2 calls), (3, G2 most), (4, .dptr (Ship.cs s)), (9, .ptr 1015 0)] [(1015, .box 41 [LS 1 (LS 4 Gb.av) ([] : List (List Gb)), LS 1 (LS 1 G2) ([] : List (List Int))])] 1014 rfl rfl rfl ⟨⟨_, rfl, .boxEq rfl rfl⟩, trivial⟩ rfl (by repeat' (first | exact .ptr | constructor)) ?_
 refine G6 fun K2 hK2 => G3 ?_
 refine G1 (u := OW 1016 9 Box.av ([] : List Box)) (A_nilOwn 1016 70 9 rfl rfl rfl) ?_
 refine G9 (hK2 _ _ ?_)
 refine G6 fun K3 hK3 => G3 ?_
 refine G1 (u := .mp 1022) (A_makeMapM 1022 (fun n : Int => Value.int .i64 n) G2 rfl rfl) ?_
 refine G1 (u := .mp 1022) (Ga rfl rfl) ?_
 refine G9 (hK3 _ _ ?_)
 refine G6 (fun K4 hK4 => ?_)
 refine G6 fun K5 hK5 => G3 ?_
 refine G1 (u := LS 6 law23_Item.av l) (G5 rfl rfl) ?_
 refine G1 (u := LS 6 law23_Item.av l) (G5 rfl rfl) ?_
 refine H9 (f := law23_Item.av) (xs := l) tf_slice_24 rfl rfl (fun hm23 => ?_) rfl rfl rfl
 refine G1 (u := G2 most) (G5 rfl rfl) ?_
 refine G1 (u := G2 (min (l.length : Int) most)) (A_min rfl rfl rfl) ?_
 obtain ⟨m6, hm6, h⟩ := Gg h
 refine G1 (u := LS 6 law23_Item.av (l.take m6)) (A_sliceHiM (f := law23_Item.av) (xs := l) rfl rfl rfl tf_slice_24 (natIn_out hm6)) ?_
 refine H9 (f := law23_Item.av) (xs := (l.take m6)) tf_slice_24 rfl rfl (fun hm27 => ?_) rfl rfl rfl
 refine G1 (u := G2 0) (G5 rfl rfl) ?_
 refine G9 (hK5 _ _ ?_)
 refine Gk ?_
 obtain ⟨b119, kx119, hb119, hkx119, h⟩ := Hj h
 refine H2 (fun i119 (s119 : (List Box) × (AMap Int Int)) => each b119 kx119 (List.drop i119 (l.take m6)) i119 s119 = some r) (fun i119 s119 => [(2, G2 calls), (4, .dptr (Ship.cs s)), (9, .ptr 1015 0), (10, OW 1016 9 Box.av s119.1), (11, .mp 1022), (26, LS 6 law23_Item.av (l.take m6)), (27, G2 ((l.take m6).length : Int)), (28, G2 (i119 : Int))]) (fun i119 s119 => [(1016, .spare 70 9 s119.1.length s119.1.length), (1022, MP 66 (fun n : Int => Value.int .i64 n) G2 s119.2), (1015, .box 41 [LS 1 (LS 4 Gb.av) ([] : List (List Gb)), LS 1 (LS 1 G2) ([] : List (List Int))])]) (fun i119 => (l.take m6).length - i119) 0 ([], (AMap.empty : AMap Int Int)) h ⟨(by repeat' constructor), ⟨⟨_, rfl, .same⟩, ⟨_, rfl, .map⟩, ⟨_, rfl, .boxL rfl ⟨.same rfl, .same rfl, trivial⟩⟩, trivial⟩, rfl⟩ ?_
 clear h
 intro i119 s119 hi119 K119 e119
 refine G6 fun K120 hK120 => G3 ?_
 refine G1 (u := BL (decide ((i119 : Int) < ((l.take m6).length : Int)))) (Hg rfl rfl rfl) ?_
 refine G9 (hK120 _ _ ?_)
 refine G6 (fun K121 hK121 => ?_)
 refine Gm rfl (fun hb => ?_) (fun hb => ?_)
 ·
  have hk119 := lt_len hb
  obtain ⟨y119, nx119, hy119, hn119, h⟩ := Hc hi119 hk119
  replace h := app4 hb119 h
  refine Gp ?_
  refine hK121 _ _ ?_
  refine G6 (fun K122 hK122 => ?_)
  refine Gk ?_
  refine G6 fun K123 hK123 => G3 ?_
  refine G1 (u := G2 (i119 : Int)) (G5 rfl rfl) ?_
  refine G1 (u := .dptr (law23_Item.cs y119)) (Gw (f := law23_Item.av) (xs := (l.take m6)) (y := y119) rfl rfl rfl tf_slice_24 hy119 rfl) ?_
  refine G1 (u := .agg (law23_Item.cs y119)) (Gf tf_agg_68 rfl rfl rfl) ?_
  refine G1 (u := .ptr 1017 0) (H8 1017 6 tf_zsize_68 rfl rfl) ?_
  refine G1 (u := G2 (i119 : Int)) (Ga rfl rfl) ?_
  refine H6 (u := .junk) (Gz (u := .agg (law23_Item.cs y119)) (ds := [U8 y119.G8, U8 y119.Kilos, U8 y119.Load, U8 y119.Stay, BL y119.Small, BL y119.High]) tf_size_68 rfl rfl rfl rfl rfl rfl rfl rfl) ?_
  refine G9 (hK123 _ _ ?_)
  refine Gq [(2, G2 calls), (4, .dptr (Ship.cs s)), (9, .ptr 1015 0), (10, OW 1016 9 Box.av s119.1), (11, .mp 1022), (12, G2 (i119 : Int)), (13, .dptr (law23_Item.cs y119)), (26, LS 6 law23_Item.av (l.take m6)), (27, G2 ((l.take m6).length : Int)), (28, G2 (i119 : Int))] [(1016, .spare 70 9 s119.1.length s119.1.length), (1022, MP 66 (fun n : Int => Value.int .i64 n) G2 s119.2), (1015, .box 41 [LS 1 (LS 4 Gb.av) ([] : List (List Gb)), LS 1 (LS 1 G2) ([] : List (List Int))])] 1017 rfl rfl rfl ⟨⟨_, rfl, .same⟩, ⟨_, rfl, .map⟩, ⟨_, rfl, .boxEq rfl rfl⟩, trivial⟩ rfl (by repeat' (first | exact .ptr | constructor)) ?_
  refine G6 (fun K124 hK124 => ?_)
  refine J3 (l' := [(2, G2 calls), (4, .dptr (Ship.cs s)), (9, .ptr 1015 0), (10, OW 1016 9 Box.av s119.1), (11, .mp 1022), (12, G2 (i119 : Int)), (13, .dptr (law23_Item.cs y119)), (26, LS 6 law23_Item.av (l.take m6)), (27, G2 ((l.take m6).length : Int)), (28, G2 (i119 : Int))]) (L' := [(1016, .spare 70 9 s119.1.length s119.1.length), (1022, MP 66 (fun n : Int => Value.int .i64 n) G2 s119.2), (1015, .box 41 [LS 1 (LS 4 Gb.av) ([] : List (List Gb)), LS 1 (LS 1 G2) ([] : List (List Int))])]) ⟨(by repeat' constructor), ⟨⟨_, rfl, .same⟩, ⟨_, rfl, .map⟩, ⟨_, rfl, .boxL rfl ⟨.same rfl, .same rfl, trivial⟩⟩, trivial⟩, rfl⟩ ?_
  obtain ⟨v125, hv125, h⟩ := Gy h
  obtain ⟨v126, hv126, h⟩ := Gy h
  obtain ⟨v127, hv127, h⟩ := Gy h
  obtain ⟨v128, hv128, h⟩ := Gy h
  obtain ⟨v129, hv129, h⟩ := Gy h
  obtain ⟨v130, hv130, h⟩ := Gy h
  obtain ⟨v131, hv131, h⟩ := Gg h
  refine Hy [17, 18] [0, 0, 0, 0, 0, 0, 0, 0, 0, 0, 0, 0, 0, 0, 0, 0, 0, 0, 0] [1, 1, 1, 1, 1, 1, 1, 1, 1, 1, 1, 1, 1, 1, 1, 1, 1, 0, 0] [[(1016, .spare 70 9 s119.1.length s119.1.length), (1022, MP 66 (fun n : Int => Value.int .i64 n) G2 s119.2), (1015, .box 41 [LS 1 (LS 4 Gb.av) ([] : List (List Gb)), LS 1 (LS 1 G2) ([] : List (List Int))])], ((1018, .box 70 [.junk, .junk, .junk, .junk, .junk, .junk, .junk, .junk, .junk]) :: [(1016, .spare 70 9 s119.1.length s119.1.length), (1022, MP 66 (fun n : Int => Value.int .i64 n) G2 s119.2), (1015, .box 41 [LS 1 (LS 4 Gb.av) ([] : List (List Gb)), LS 1 (LS 1 G2) ([] : List (List Int))])]), ((1018, .box 70 [G2 v125, ST ByteArray.empty, U8 40, BL y119.High, G2 v128, G2 v131, G2 0, U8 0, BL false]) :: ((1018, .box 70 [.junk, .junk, .junk, .junk, .junk, .junk, .junk, .junk, .junk]) :: [(1016, .spare 70 9 s119.1.length s119.1.length), (1022, MP 66 (fun n : Int => Value.int .i64 n) G2 s119.2), (1015, .box 41 [LS 1 (LS 4 Gb.av) ([] : List (List Gb)), LS 1 (LS 1 G2) ([] : List (List Int))])]))] Hr (by kernel_rfl) rfl rfl ?_
  refine Ge (u := G2 (i119 : Int)) rfl rfl ⟨Gi (G5 rfl rfl) rfl, Gi (G5 rfl rfl) rfl, trivial⟩ ?_
  refine Ge (u := G2 ((i119 + 1 : Nat) : Int)) rfl rfl ⟨Gi (H7 (idx_succ hk119 hm27) rfl rfl rfl) rfl, Gi (H7 (idx_succ hk119 hm27) rfl rfl rfl) rfl, trivial⟩ ?_
  refine Ge (u := G2 v125) rfl rfl ⟨Gi (A_mul hv125 rfl rfl rfl) rfl, Gi (A_mul hv125 rfl rfl rfl) rfl, trivial⟩ ?_
  refine Ge (u := .dptr [BL y119.High]) rfl rfl ⟨Gi (Gd tf_field_68_5 rfl rfl rfl) rfl, Gi (Gd tf_field_68_5 rfl rfl rfl) rfl, trivial⟩ ?_
  refine Ge (u := BL y119.High) rfl rfl ⟨Gi (Gn Jk rfl rfl rfl) rfl, Gi (Gn Jk rfl rfl rfl) rfl, trivial⟩ ?_
  refine Ge (u := .dptr ((law23_Item.cs y119).drop 1)) rfl rfl ⟨Gi (Gd tf_field_68_1 rfl rfl rfl) rfl, Gi (Gd tf_field_68_1 rfl rfl rfl) rfl, trivial⟩ ?_
  refine Ge (u := U8 y119.Kilos) rfl rfl ⟨Gi (Gn Hk rfl rfl rfl) rfl, Gi (Gn Hk rfl rfl rfl) rfl, trivial⟩ ?_
  refine Ge (u := G2 v126) rfl rfl ⟨Gi (A_conv Jo tf_int_5 hv126 rfl rfl) rfl, Gi (A_conv Jo tf_int_5 hv126 rfl rfl) rfl, trivial⟩ ?_
  refine Ge (u := G2 v127) rfl rfl ⟨Gi (A_mul hv127 rfl rfl rfl) rfl, Gi (A_mul hv127 rfl rfl rfl) rfl, trivial⟩ ?_
  refine Ge (u := G2 v128) rfl rfl ⟨Gi (H7 hv128 rfl rfl rfl) rfl, Gi (H7 hv128 rfl rfl rfl) rfl, trivial⟩ ?_
  refine Ge (u := .dptr ((law23_Item.cs y119).drop 2)) rfl rfl ⟨Gi (Gd tf_field_68_2 rfl rfl rfl) rfl, Gi (Gd tf_field_68_2 rfl rfl rfl) rfl, trivial⟩ ?_
  refine Ge (u := U8 y119.Load) rfl rfl ⟨Gi (Gn Hk rfl rfl rfl) rfl, Gi (Gn Hk rfl rfl rfl) rfl, trivial⟩ ?_
  refine Ge (u := G2 v129) rfl rfl ⟨Gi (A_conv Jo tf_int_5 hv129 rfl rfl) rfl, Gi (A_conv Jo tf_int_5 hv129 rfl rfl) rfl, trivial⟩ ?_
  refine Ge (u := G2 calls) rfl rfl ⟨Gi (G5 rfl rfl) rfl, Gi (G5 rfl rfl) rfl, trivial⟩ ?_
  refine Ge (u := G2 v130) rfl rfl ⟨Gi (A_sub hv130 rfl rfl rfl) rfl, Gi (A_sub hv130 rfl rfl rfl) rfl, trivial⟩ ?_
  refine Ge (u := G2 v131) rfl rfl ⟨Gi (A_rem (rem64_out hv131).1 (rem64_out hv131).2 rfl rfl rfl) rfl, Gi (A_rem (rem64_out hv131).1 (rem64_out hv131).2 rfl rfl rfl) rfl, trivial⟩ ?_
  refine Ge (u := .agg [G2 v125, ST ByteArray.empty, U8 40, BL y119.High, G2 v128, G2 v131, G2 0, U8 0, BL false]) rfl rfl ⟨Gi (Hn (cs := [G2 v125, ST ByteArray.empty, U8 40, BL y119.High, G2 v128, G2 v131, G2 0, U8 0, BL false]) [(0, 1), (1, 1), (2, 1), (3, 1), (4, 1), (5, 1), (6, 1), (7, 1), (8, 1)] [G2 0, ST ByteArray.empty, U8 0, BL false, G2 0, G2 0, G2 0, U8 0, BL false] [.int .i64 0, .string ByteArray.empty, .int .u8 0, .bool false, .int .i64 0, .int .i64 0, .int .i64 0, .int .u8 0, .bool false] Jq tf_zero_70 ⟨.inl rfl, .inl rfl, .inl rfl, .inl rfl, .inl rfl, .inl rfl, .inl rfl, .inl rfl, .inl rfl, trivial⟩ rfl rfl) rfl, Gi (Hn (cs := [G2 v125, ST ByteArray.empty, U8 40, BL y119.High, G2 v128, G2 v131, G2 0, U8 0, BL false]) [(0, 1), (1, 1), (2, 1), (3, 1), (4, 1), (5, 1), (6, 1), (7, 1), (8, 1)] [G2 0, ST ByteArray.empty, U8 0, BL false, G2 0, G2 0, G2 0, U8 0, BL false] [.int .i64 0, .string ByteArray.empty, .int .u8 0, .bool false, .int .i64 0, .int .i64 0, .int .i64 0, .int .u8 0, .bool false] Jq tf_zero_70 ⟨.inl rfl, .inl rfl, .inl rfl, .inl rfl, .inl rfl, .inl rfl, .inl rfl, .inl rfl, .inl rfl, trivial⟩ rfl rfl) rfl, trivial⟩ ?_
  refine D_w (u := .ptr 1018 0) rfl rfl rfl rfl (Gi (H8 1018 9 Jd rfl rfl) rfl) ?_
  refine D_w0 (u := .junk) rfl rfl rfl rfl (Gi (Gz (u := .agg [G2 v125, ST ByteArray.empty, U8 40, BL y119.High, G2 v128, G2 v131, G2 0, U8 0, BL false]) (ds := [G2 v125, ST ByteArray.empty, U8 40, BL y119.High, G2 v128, G2 v131, G2 0, U8 0, BL false]) Jx rfl rfl rfl rfl rfl rfl rfl rfl) rfl) ?_
  refine Q3 ?_
  refine hK124 _ _ ?_
  refine G6 (fun K132 hK132 => ?_)
  refine J3 (l' := [(2, G2 calls), (4, .dptr (Ship.cs s)), (9, .ptr 1015 0), (10, OW 1016 9 Box.av s119.1), (11, .mp 1022), (13, .dptr (law23_Item.cs y119)), (14, .ptr 1018 0), (26, LS 6 law23_Item.av (l.take m6)), (27, G2 ((l.take m6).length : Int)), (28, G2 (i119 : Int))]) (L' := [(1016, .spare 70 9 s119.1.length s119.1.length), (1022, MP 66 (fun n : Int => Value.int .i64 n) G2 s119.2), (1015, .box 41 [LS 1 (LS 4 Gb.av) ([] : List (List Gb)), LS 1 (LS 1 G2) ([] : List (List Int))]), (1018, .box 70 [G2 v125, ST ByteArray.empty, U8 40, BL y119.High, G2 v128, G2 v131, G2 0, U8 0, BL false])]) ⟨(by repeat' constructor), ⟨⟨_, rfl, .same⟩, ⟨_, rfl, .map⟩, ⟨_, rfl, .boxL rfl ⟨.same rfl, .same rfl, trivial⟩⟩, ⟨_, rfl, .boxL rfl (by repeat' constructor)⟩, trivial⟩, rfl⟩ ?_
  obtain ⟨v133, hv133, h⟩ := Gy h
  obtain ⟨v134, hv134, h⟩ := Gy h
  obtain ⟨v135, hv135, h⟩ := Gy h
  obtain ⟨v136, hv136, h⟩ := Gy h
  obtain ⟨v137, hv137, h⟩ := Gg h
  obtain ⟨v138, hv138, h⟩ := Gy h
  refine Hy [14] [0, 0, 0, 0, 0, 0, 0, 0, 0, 0, 0, 0, 0, 0, 0] [0, 0, 0, 0, 0, 0, 0, 0, 0, 0, 0, 0, 0, 0, 0] [[(1016, .spare 70 9 s119.1.length s119.1.length), (1022, MP 66 (fun n : Int => Value.int .i64 n) G2 s119.2), (1015, .box 41 [LS 1 (LS 4 Gb.av) ([] : List (List Gb)), LS 1 (LS 1 G2) ([] : List (List Int))]), (1018, .box 70 [G2 v125, ST ByteArray.empty, U8 40, BL y119.High, G2 v128, G2 v131, G2 0, U8 0, BL false])], ((1018, .box 70 [G2 v125, ST ByteArray.empty, U8 40, BL y119.High, G2 v128, G2 v131, G2 v138, U8 0, BL false]) :: [(1016, .spare 70 9 s119.1.length s119.1.length), (1022, MP 66 (fun n : Int => Value.int .i64 n) G2 s119.2), (1015, .box 41 [LS 1 (LS 4 Gb.av) ([] : List (List Gb)), LS 1 (LS 1 G2) ([] : List (List Int))]), (1018, .box 70 [G2 v125, ST ByteArray.empty, U8 40, BL y119.High, G2 v128, G2 v131, G2 0, U8 0, BL false])])] Hr (by kernel_rfl) rfl rfl ?_
  refine Ge (u := .ptr 1018 5) rfl rfl ⟨Gi (Hi Jv rfl rfl) rfl, trivial⟩ ?_
  refine Ge (u := G2 v131) rfl rfl ⟨Gi (J5 Gc rfl rfl rfl rfl) rfl, trivial⟩ ?_
  refine Ge (u := G2 v133) rfl rfl ⟨Gi (H7 hv133 rfl rfl rfl) rfl, trivial⟩ ?_
  refine Ge (u := .dptr ((law23_Item.cs y119).drop 3)) rfl rfl ⟨Gi (Gd tf_field_68_3 rfl rfl rfl) rfl, trivial⟩ ?_
  refine Ge (u := U8 y119.Stay) rfl rfl ⟨Gi (Gn Hk rfl rfl rfl) rfl, trivial⟩ ?_
  refine Ge (u := G2 v134) rfl rfl ⟨Gi (A_conv Jo tf_int_5 hv134 rfl rfl) rfl, trivial⟩ ?_
  refine Ge (u := G2 calls) rfl rfl ⟨Gi (G5 rfl rfl) rfl, trivial⟩ ?_
  refine Ge (u := G2 v135) rfl rfl ⟨Gi (A_sub hv135 rfl rfl rfl) rfl, trivial⟩ ?_
  refine Ge (u := .ptr 1018 5) rfl rfl ⟨Gi (Hi Jv rfl rfl) rfl, trivial⟩ ?_
  refine Ge (u := G2 v131) rfl rfl ⟨Gi (J5 Gc rfl rfl rfl rfl) rfl, trivial⟩ ?_
  refine Ge (u := G2 v136) rfl rfl ⟨Gi (A_sub hv136 rfl rfl rfl) rfl, trivial⟩ ?_
  refine Ge (u := G2 v137) rfl rfl ⟨Gi (A_rem (rem64_out hv137).1 (rem64_out hv137).2 rfl rfl rfl) rfl, trivial⟩ ?_
  refine Ge (u := G2 v138) rfl rfl ⟨Gi (H7 hv138 rfl rfl rfl) rfl, trivial⟩ ?_
  refine Ge (u := .ptr 1018 6) rfl rfl ⟨Gi (Hi tf_field_70_6 rfl rfl) rfl, trivial⟩ ?_
  refine D_w0 (u := .junk) rfl rfl rfl rfl (Gi (Gz (u := G2 v138) (ds := [G2 v125, ST ByteArray.empty, U8 40, BL y119.High, G2 v128, G2 v131, G2 v138, U8 0, BL false]) J0 rfl rfl rfl rfl rfl rfl rfl rfl) rfl) ?_
  refine Q3 ?_
  refine hK132 _ _ ?_
  obtain ⟨kj139, hkj139, h⟩ := Jf h
  refine Ht (fun j139 : Int × Bool => kj139 j139 = some r) (fun j139 => [(2, G2 calls), (4, .dptr (Ship.cs s)), (9, .ptr 1015 0), (10, OW 1016 9 Box.av s119.1), (11, .mp 1022), (13, .dptr (law23_Item.cs y119)), (14, .ptr 1018 0), (26, LS 6 law23_Item.av (l.take m6)), (27, G2 ((l.take m6).length : Int)), (28, G2 (i119 : Int))]) (fun j139 => [(1016, .spare 70 9 s119.1.length s119.1.length), (1022, MP 66 (fun n : Int => Value.int .i64 n) G2 s119.2), (1015, .box 41 [LS 1 (LS 4 Gb.av) ([] : List (List Gb)), LS 1 (LS 1 G2) ([] : List (List Int))]), (1018, .box 70 [G2 v125, ST ByteArray.empty, U8 j139.1, BL j139.2, G2 v128, G2 v131, G2 v138, U8 0, BL false])]) (fun Kj139 ej139 => ?_) ?_
  ·
   refine G6 fun K140 hK140 => G3 ?_
   refine G1 (u := .dptr [BL y119.Small, BL y119.High]) (Gd tf_field_68_4 rfl rfl rfl) ?_
   refine G1 (u := BL y119.Small) (Gn Jk rfl rfl rfl) ?_
   refine G9 (hK140 _ _ ?_)
   refine Gm rfl (fun hb => ?_) (fun hb => ?_)
   ·
    replace h := bif_t hb h
    refine G3 ?_
    refine G1 (u := .ptr 1018 2) (Hi tf_field_70_2 rfl rfl) ?_
    refine H6 (u := .junk) (Gz (u := U8 20) (ds := [G2 v125, ST ByteArray.empty, U8 20, BL y119.High, G2 v128, G2 v131, G2 v138, U8 0, BL false]) tf_size_5 rfl rfl rfl rfl rfl rfl rfl rfl) ?_
    refine G1 (u := .ptr 1018 3) (Hi tf_field_70_3 rfl rfl) ?_
    refine H6 (u := .junk) (Gz (u := BL false) (ds := [G2 v125, ST ByteArray.empty, U8 20, BL false, G2 v128, G2 v131, G2 v138, U8 0, BL false]) tf_size_4 rfl rfl rfl rfl rfl rfl rfl rfl) ?_
    refine G9 ?_
    exact ej139 _ _ (20, false) h ⟨(by repeat' constructor), ⟨⟨_, rfl, .same⟩, ⟨_, rfl, .map⟩, ⟨_, rfl, .boxL rfl ⟨.same rfl, .same rfl, trivial⟩⟩, ⟨_, rfl, .boxL rfl (by repeat' constructor)⟩, trivial⟩, rfl⟩
   ·
    replace h := bif_f hb h
    refine Gp ?_
    exact ej139 _ _ (40, y119.High) h ⟨(by repeat' constructor), ⟨⟨_, rfl, .same⟩, ⟨_, rfl, .map⟩, ⟨_, rfl, .boxL rfl ⟨.same rfl, .same rfl, trivial⟩⟩, ⟨_, rfl, .boxL rfl (by repeat' constructor)⟩, trivial⟩, rfl⟩
  ·intro j139 h
   replace h := app1 hkj139 h
   refine G6 (fun K141 hK141 => ?_)
   refine J3 (l' := [(2, G2 calls), (4, .dptr (Ship.cs s)), (9, .ptr 1015 0), (10, OW 1016 9 Box.av s119.1), (11, .mp 1022), (13, .dptr (law23_Item.cs y119)), (14, .ptr 1018 0), (26, LS 6 law23_Item.av (l.take m6)), (27, G2 ((l.take m6).length : Int)), (28, G2 (i119 : Int))]) (L' := [(1016, .spare 70 9 s119.1.length s119.1.length), (1022, MP 66 (fun n : Int => Value.int .i64 n) G2 s119.2), (1015, .box 41 [LS 1 (LS 4 Gb.av) ([] : List (List Gb)), LS 1 (LS 1 G2) ([] : List (List Int))]), (1018, .box 70 [G2 v125, ST ByteArray.empty, U8 j139.1, BL j139.2, G2 v128, G2 v131, G2 v138, U8 0, BL false])]) ⟨(by repeat' constructor), ⟨⟨_, rfl, .same⟩, ⟨_, rfl, .map⟩, ⟨_, rfl, .boxL rfl ⟨.same rfl, .same rfl, trivial⟩⟩, ⟨_, rfl, .boxL rfl (by repeat' constructor)⟩, trivial⟩, rfl⟩ ?_
   obtain ⟨v142, hv142, h⟩ := Gy h
   obtain ⟨v143, hv143, h⟩ := Gg h
   refine Hy [10] [0, 0, 0, 0, 0, 0, 0, 0, 0, 0, 0] [0, 0, 0, 0, 0, 0, 0, 0, 0, 0, 0] [[(1016, .spare 70 9 s119.1.length s119.1.length), (1022, MP 66 (fun n : Int => Value.int .i64 n) G2 s119.2), (1015, .box 41 [LS 1 (LS 4 Gb.av) ([] : List (List Gb)), LS 1 (LS 1 G2) ([] : List (List Int))]), (1018, .box 70 [G2 v125, ST ByteArray.empty, U8 j139.1, BL j139.2, G2 v128, G2 v131, G2 v138, U8 0, BL false])], ((1022, MP 66 (fun n : Int => Value.int .i64 n) G2 (AMap.put s119.2 v125 v143)) :: [(1016, .spare 70 9 s119.1.length s119.1.length), (1022, MP 66 (fun n : Int => Value.int .i64 n) G2 s119.2), (1015, .box 41 [LS 1 (LS 4 Gb.av) ([] : List (List Gb)), LS 1 (LS 1 G2) ([] : List (List Int))]), (1018, .box 70 [G2 v125, ST ByteArray.empty, U8 j139.1, BL j139.2, G2 v128, G2 v131, G2 v138, U8 0, BL false])])] Hr (by kernel_rfl) rfl rfl ?_
   refine Ge (u := .mp 1022) rfl rfl ⟨Gi (G5 rfl rfl) rfl, trivial⟩ ?_
   refine Ge (u := .ptr 1018 0) rfl rfl ⟨Gi (Hi Hu rfl rfl) rfl, trivial⟩ ?_
   refine Ge (u := G2 v125) rfl rfl ⟨Gi (J5 Gc rfl rfl rfl rfl) rfl, trivial⟩ ?_
   refine Ge (u := .dptr (law23_Item.cs y119)) rfl rfl ⟨Gi (Gd tf_field_68_0 rfl rfl rfl) rfl, trivial⟩ ?_
   refine Ge (u := U8 y119.G8) rfl rfl ⟨Gi (Gn Hk rfl rfl rfl) rfl, trivial⟩ ?_
   refine Ge (u := G2 v142) rfl rfl ⟨Gi (A_conv Jo tf_int_5 hv142 rfl rfl) rfl, trivial⟩ ?_
   refine Ge (u := .dptr (Ship.cs s)) rfl rfl ⟨Gi (Gd Hb rfl rfl rfl) rfl, trivial⟩ ?_
   refine Ge (u := LS 12 G8.av s.Columns) rfl rfl ⟨Gi (Gn Hm rfl rfl rfl) rfl, trivial⟩ ?_
   refine Ge (u := G2 (s.Columns.length : Int)) rfl rfl ⟨Gi (Jz (f := G8.av) (xs := s.Columns) Ha rfl rfl) rfl, trivial⟩ ?_
   refine Ge (u := G2 v143) rfl rfl ⟨Gi (A_rem (rem64_out hv143).1 (rem64_out hv143).2 rfl rfl rfl) rfl, trivial⟩ ?_
   refine D_w0 (u := .junk) rfl rfl rfl rfl (Gi (A_mapUpdateM (m := s119.2) (a := v125) (v := v143) rfl rfl rfl rfl rfl rfl tk_3 tf_map_66) rfl) ?_
   refine Q3 ?_
   refine hK141 _ _ ?_
   refine Gq [(2, G2 calls), (4, .dptr (Ship.cs s)), (9, .ptr 1015 0), (10, OW 1016 9 Box.av s119.1), (11, .mp 1022), (14, .dptr [G2 v125, ST ByteArray.empty, U8 j139.1, BL j139.2, G2 v128, G2 v131, G2 v138, U8 0, BL false]), (26, LS 6 law23_Item.av (l.take m6)), (27, G2 ((l.take m6).length : Int)), (28, G2 (i119 : Int))] [(1016, .spare 70 9 s119.1.length s119.1.length), (1022, MP 66 (fun n : Int => Value.int .i64 n) G2 (AMap.put s119.2 v125 v143)), (1015, .box 41 [LS 1 (LS 4 Gb.av) ([] : List (List Gb)), LS 1 (LS 1 G2) ([] : List (List Int))])] 1018 rfl rfl rfl ⟨⟨_, rfl, .same⟩, ⟨_, rfl, .map⟩, ⟨_, rfl, .boxEq rfl rfl⟩, trivial⟩ rfl (by repeat' (first | exact .ptr | constructor)) ?_
   refine G3 ?_
   refine G1 (u := OW 1016 9 Box.av s119.1) (G5 rfl rfl) ?_
   refine G1 (u := .agg [G2 v125, ST ByteArray.empty, U8 j139.1, BL j139.2, G2 v128, G2 v131, G2 v138, U8 0, BL false]) (Gf Jw rfl rfl rfl) ?_
   refine G1 (u := LS 9 Box.av [(Box.mk v125 ByteArray.empty j139.1 j139.2 v128 v131 v138 0 false)]) (H1 (xs := [.agg [G2 v125, ST ByteArray.empty, U8 j139.1, BL j139.2, G2 v128, G2 v131, G2 v138, U8 0, BL false]]) rfl ⟨rfl, rfl, trivial⟩ Hp Jd rfl rfl rfl rfl) ?_
   obtain ⟨ha144, h⟩ := He h
   refine G1 (u := OW 1016 9 Box.av (s119.1 ++ [(Box.mk v125 ByteArray.empty j139.1 j139.2 v128 v131 v138 0 false)])) (Hs (f := Box.av) (xs := s119.1) (ys := [(Box.mk v125 ByteArray.empty j139.1 j139.2 v128 v131 v138 0 false)]) rfl rfl rfl rfl Hp tf_elem_70 ha144 (fun _ => rfl) (.inl rfl) rfl) ?_
   refine G1 (u := OW 1016 9 Box.av (s119.1 ++ [(Box.mk v125 ByteArray.empty j139.1 j139.2 v128 v131 v138 0 false)])) (Ga rfl rfl) ?_
   refine G9 (hK122 _ _ ?_)
   refine G3 ?_
   refine G1 (u := G2 ((i119 + 1 : Nat) : Int)) (H7 (idx_succ hk119 hm27) rfl rfl rfl) ?_
   refine G1 (u := G2 ((i119 + 1 : Nat) : Int)) (G5 rfl rfl) ?_
   refine G9 ?_
   exact e119 _ _ (i119 + 1) ((s119.1 ++ [(Box.mk v125 ByteArray.empty j139.1 j139.2 v128 v131 v138 0 false)]), (AMap.put s119.2 v125 v143)) (app1 hn119 h) (by omega) ⟨(by repeat' constructor), ⟨⟨_, rfl, .same⟩, ⟨_, rfl, .map⟩, ⟨_, rfl, .boxL rfl ⟨.same rfl, .same rfl, trivial⟩⟩, trivial⟩, rfl⟩
 ·
  have h := app1 hkx119 (Hd hi119 (H3 hb))
  refine H4 ?_
  refine hK4 _ _ ?_
  refine G6 (fun K145 hK145 => ?_)
  refine G6 fun K146 hK146 => G3 ?_
  refine G1 (u := OW 1016 9 Box.av s119.1) (G5 rfl rfl) ?_
  refine H9 (f := Box.av) (xs := s119.1) Hp rfl rfl (fun hm84 => ?_) rfl rfl rfl
  obtain ⟨v147, hv147, h⟩ := Gy h
  refine G1 (u := G2 v147) (H7 hv147 rfl rfl rfl) ?_
  refine G1 (u := G2 0) (G5 rfl rfl) ?_
  refine G9 (hK146 _ _ ?_)
  refine Gk ?_
  obtain ⟨hx148, h⟩ := He h
  obtain ⟨b148, kx148, hb148, hkx148, h⟩ := upto_in h
  refine H2 (fun i148 (s148 : (List Box) × (AMap Int Int)) => upto b148 kx148 (v147.toNat - i148) i148 s148 = some r) (fun i148 s148 => [(2, G2 calls), (4, .dptr (Ship.cs s)), (9, .ptr 1015 0), (10, LS 9 Box.av s148.1), (11, .mp 1022), (85, G2 v147), (86, G2 (i148 : Int))]) (fun i148 s148 => [(1022, MP 66 (fun n : Int => Value.int .i64 n) G2 s148.2), (1015, .box 41 [LS 1 (LS 4 Gb.av) ([] : List (List Gb)), LS 1 (LS 1 G2) ([] : List (List Int))])]) (fun i148 => v147.toNat - i148) 0 (s119.1, s119.2) h ⟨⟨.same rfl, .same rfl, .same rfl, .list rfl, .same rfl, .same rfl, .same rfl, trivial⟩, ⟨⟨_, rfl, .map⟩, ⟨_, rfl, .boxL rfl ⟨.same rfl, .same rfl, trivial⟩⟩, trivial⟩, rfl⟩ ?_
  clear h
  intro i148 s148 hi148 K148 e148
  refine G6 fun K149 hK149 => G3 ?_
  refine G1 (u := BL (decide ((i148 : Int) < v147))) (Hg rfl rfl rfl) ?_
  refine G9 (hK149 _ _ ?_)
  refine G6 (fun K150 hK150 => ?_)
  refine Gm rfl (fun hb => ?_) (fun hb => ?_)
  ·
   have hk148 := lt_toNat hb
   obtain ⟨nx148, hn148, h⟩ := upto_out hi148 hk148
   replace h := app3 hb148 h
   refine Gp ?_
   refine hK150 _ _ ?_
   refine G6 (fun K151 hK151 => ?_)
   refine Gk ?_
   refine G6 fun K152 hK152 => G3 ?_
   refine G1 (u := .agg (Ship.cs s)) (Gf Hh rfl rfl rfl) ?_
   refine G1 (u := LS 9 Box.av s148.1) (G5 rfl rfl) ?_
   refine G1 (u := .mp 1022) (G5 rfl rfl) ?_
   refine G1 (u := G2 calls) (G5 rfl rfl) ?_
   obtain ⟨r153, hr153, h⟩ := Gg h
   refine G1 (u := .tup [.agg [LS 1 (LS 4 Gb.av) r153.1.States, LS 1 (LS 1 G2) r153.1.Water], G2 r153.2.1]) (A_callL (args := [.agg (Ship.cs s), LS 9 Box.av s148.1, .mp 1022, G2 calls]) (L0 := [(1022, MP 66 (fun n : Int => Value.int .i64 n) G2 s148.2)]) (Lr := [(1022, MP 66 (fun n : Int => Value.int .i64 n) G2 r153.2.2)]) rfl (M_twistlocklaw23_voyage_m60000020 F s s148.1 s148.2 calls r153 hr153) tf_call_11 ⟨.inl rfl, rfl, .inl rfl, rfl, .inl rfl, rfl, .inl rfl, rfl, trivial⟩ ⟨rfl, trivial⟩ rfl rfl rfl) ?_
   refine G1 (u := .tup [.agg [LS 1 (LS 4 Gb.av) r153.1.States, LS 1 (LS 1 G2) r153.1.Water], G2 r153.2.1]) (G5 rfl rfl) ?_
   refine G1 (u := .agg [LS 1 (LS 4 Gb.av) r153.1.States, LS 1 (LS 1 G2) r153.1.Water]) (Gx rfl rfl rfl) ?_
   refine G1 (u := G2 r153.2.1) (Gx rfl rfl rfl) ?_
   refine G1 (u := .ptr 1019 0) (H8 1019 2 tf_zsize_41 rfl rfl) ?_
   refine H6 (u := .junk) (Gz (u := .agg [LS 1 (LS 4 Gb.av) r153.1.States, LS 1 (LS 1 G2) r153.1.Water]) (ds := [LS 1 (LS 4 Gb.av) r153.1.States, LS 1 (LS 1 G2) r153.1.Water]) tf_size_41 rfl rfl rfl rfl rfl rfl rfl rfl) ?_
   refine G1 (u := G2 r153.2.1) (Ga rfl rfl) ?_
   refine G9 (hK152 _ _ ?_)
   refine Gq [(2, G2 calls), (4, .dptr (Ship.cs s)), (9, .ptr 1015 0), (10, LS 9 Box.av s148.1), (11, .mp 1022), (15, .dptr [LS 1 (LS 4 Gb.av) r153.1.States, LS 1 (LS 1 G2) r153.1.Water]), (16, G2 r153.2.1), (85, G2 v147), (86, G2 (i148 : Int))] [(1022, MP 66 (fun n : Int => Value.int .i64 n) G2 r153.2.2), (1015, .box 41 [LS 1 (LS 4 Gb.av) ([] : List (List Gb)), LS 1 (LS 1 G2) ([] : List (List Int))])] 1019 rfl rfl rfl ⟨⟨_, rfl, .map⟩, ⟨_, rfl, .boxEq rfl rfl⟩, trivial⟩ rfl (by repeat' (first | exact .ptr | constructor)) ?_
   refine G6 (fun K154 hK154 => ?_)
   refine G6 fun K155 hK155 => G3 ?_
   refine G1 (u := G2 r153.2.1) (G5 rfl rfl) ?_
   refine G1 (u := BL (decide (r153.2.1 = 0))) (Jb rfl rfl rfl) ?_
   refine G9 (hK155 _ _ ?_)
   refine Gm rfl (fun hb => ?_) (fun hb => ?_)
   ·
    replace h := bif_t hb h
    refine G6 (fun K156 hK156 => ?_)
    refine J3 (l' := [(9, .ptr 1015 0), (10, LS 9 Box.av s148.1), (15, .dptr [LS 1 (LS 4 Gb.av) r153.1.States, LS 1 (LS 1 G2) r153.1.Water])]) (L' := [(1022, MP 66 (fun n : Int => Value.int .i64 n) G2 r153.2.2), (1015, .box 41 [LS 1 (LS 4 Gb.av) ([] : List (List Gb)), LS 1 (LS 1 G2) ([] : List (List Int))])]) ⟨⟨.same rfl, .same rfl, .same rfl, trivial⟩, ⟨⟨_, rfl, .map⟩, ⟨_, rfl, .boxL rfl ⟨.same rfl, .same rfl, trivial⟩⟩, trivial⟩, rfl⟩ ?_
    refine Hy [3] [0, 0, 0, 0] [0, 0, 0, 0] [[(1022, MP 66 (fun n : Int => Value.int .i64 n) G2 r153.2.2), (1015, .box 41 [LS 1 (LS 4 Gb.av) ([] : List (List Gb)), LS 1 (LS 1 G2) ([] : List (List Int))])], ((1015, .box 41 [LS 1 (LS 4 Gb.av) r153.1.States, LS 1 (LS 1 G2) r153.1.Water]) :: [(1022, MP 66 (fun n : Int => Value.int .i64 n) G2 r153.2.2), (1015, .box 41 [LS 1 (LS 4 Gb.av) ([] : List (List Gb)), LS 1 (LS 1 G2) ([] : List (List Int))])])] Hr (by kernel_rfl) rfl rfl ?_
    refine Ge (u := LS 9 Box.av s148.1) rfl rfl ⟨Gi (G5 rfl rfl) rfl, trivial⟩ ?_
    refine Ge (u := .agg [LS 1 (LS 4 Gb.av) r153.1.States, LS 1 (LS 1 G2) r153.1.Water]) rfl rfl ⟨Gi (Gf tf_agg_41 rfl rfl rfl) rfl, trivial⟩ ?_
    refine Ge (u := LS 9 Box.av s148.1) rfl rfl ⟨Gi (Ga rfl rfl) rfl, trivial⟩ ?_
    refine D_w0 (u := .junk) rfl rfl rfl rfl (Gi (Gz (u := .agg [LS 1 (LS 4 Gb.av) r153.1.States, LS 1 (LS 1 G2) r153.1.Water]) (ds := [LS 1 (LS 4 Gb.av) r153.1.States, LS 1 (LS 1 G2) r153.1.Water]) tf_size_41 rfl rfl rfl rfl rfl rfl rfl rfl) rfl) ?_
    refine Q3 ?_
    refine hK156 _ _ ?_
    refine Gt ?_
    exact ⟨[LS 9 Box.av s148.1, .agg [LS 1 (LS 4 Gb.av) r153.1.States, LS 1 (LS 1 G2) r153.1.Water]], [], trivial, rfl, ⟨⟨_, rfl, .conv (.same rfl)⟩, ⟨_, ⟨_, _, _, _, rfl, rfl, rfl, .inl ⟨tf_agg_41, rfl⟩⟩, .conv (.same rfl)⟩, trivial⟩, rfl, congrArg (fun r : (List Box) × Plan => (.tup [LS 9 Box.av r.1, .agg [LS 1 (LS 4 Gb.av) r.2.States, LS 1 (LS 1 G2) r.2.Water]] : AV)) (Option.some.inj h)⟩
   ·
    replace h := bif_f hb h
    refine Gp ?_
    refine hK154 _ _ ?_
    refine G6 fun K157 hK157 => G3 ?_
    refine G1 (u := OW 1020 9 Box.av ([] : List Box)) (A_nilOwn 1020 70 9 rfl rfl rfl) ?_
    refine G9 (hK157 _ _ ?_)
    refine G6 (fun K158 hK158 => ?_)
    refine G6 fun K159 hK159 => G3 ?_
    refine G1 (u := LS 9 Box.av s148.1) (G5 rfl rfl) ?_
    refine H9 (f := Box.av) (xs := s148.1) Hp rfl rfl (fun hm101 => ?_) rfl rfl rfl
    refine G1 (u := G2 0) (G5 rfl rfl) ?_
    refine G9 (hK159 _ _ ?_)
    refine Gk ?_
    obtain ⟨b174, kx174, hb174, hkx174, h⟩ := Hj h
    refine H2 (fun i174 (s174 : (List Box)) => each b174 kx174 (List.drop i174 s148.1) i174 s174 = some r) (fun i174 s174 => [(2, G2 calls), (4, .dptr (Ship.cs s)), (9, .ptr 1015 0), (11, .mp 1022), (16, G2 r153.2.1), (17, OW 1020 9 Box.av s174), (85, G2 v147), (86, G2 (i148 : Int)), (100, LS 9 Box.av s148.1), (101, G2 (s148.1.length : Int)), (102, G2 (i174 : Int))]) (fun i174 s174 => [(1022, MP 66 (fun n : Int => Value.int .i64 n) G2 r153.2.2), (1020, .spare 70 9 s174.length s174.length), (1015, .box 41 [LS 1 (LS 4 Gb.av) ([] : List (List Gb)), LS 1 (LS 1 G2) ([] : List (List Int))])]) (fun i174 => s148.1.length - i174) 0 [] h ⟨(by repeat' constructor), ⟨⟨_, rfl, .map⟩, ⟨_, rfl, .same⟩, ⟨_, rfl, .boxL rfl ⟨.same rfl, .same rfl, trivial⟩⟩, trivial⟩, rfl⟩ ?_
    clear h
    intro i174 s174 hi174 K174 e174
    refine G6 fun K175 hK175 => G3 ?_
    refine G1 (u := BL (decide ((i174 : Int) < (s148.1.length : Int)))) (Hg rfl rfl rfl) ?_
    refine G9 (hK175 _ _ ?_)
    refine G6 (fun K176 hK176 => ?_)
    refine Gm rfl (fun hb => ?_) (fun hb => ?_)
    ·
     have hk174 := lt_len hb
     obtain ⟨y174, nx174, hy174, hn174, h⟩ := Hc hi174 hk174
     replace h := app4 hb174 h
     refine Gp ?_
     refine hK176 _ _ ?_
     obtain ⟨kj177, hkj177, h⟩ := Jf h
     refine Ht (fun j177 : (List Box) => kj177 j177 = some r) (fun j177 => [(2, G2 calls), (4, .dptr (Ship.cs s)), (9, .ptr 1015 0), (11, .mp 1022), (16, G2 r153.2.1), (17, OW 1020 9 Box.av j177), (85, G2 v147), (86, G2 (i148 : Int)), (100, LS 9 Box.av s148.1), (101, G2 (s148.1.length : Int)), (102, G2 (i174 : Int))]) (fun j177 => [(1022, MP 66 (fun n : Int => Value.int .i64 n) G2 r153.2.2), (1020, .spare 70 9 j177.length j177.length), (1015, .box 41 [LS 1 (LS 4 Gb.av) ([] : List (List Gb)), LS 1 (LS 1 G2) ([] : List (List Int))])]) (fun Kj177 ej177 => ?_) ?_
     ·
      refine Gk ?_
      refine G6 fun K178 hK178 => G3 ?_
      refine G1 (u := .dptr (Box.cs y174)) (Gw (f := Box.av) (xs := s148.1) (y := y174) rfl rfl rfl Hp hy174 rfl) ?_
      refine G1 (u := .agg (Box.cs y174)) (Gf Jw rfl rfl rfl) ?_
      refine G1 (u := .ptr 1021 0) (H8 1021 9 Jd rfl rfl) ?_
      refine H6 (u := .junk) (Gz (u := .agg (Box.cs y174)) (ds := (Box.cs y174)) Jx rfl rfl rfl rfl rfl rfl rfl rfl) ?_
      refine G9 (hK178 _ _ ?_)
      refine Gq [(2, G2 calls), (4, .dptr (Ship.cs s)), (9, .ptr 1015 0), (11, .mp 1022), (16, G2 r153.2.1), (17, OW 1020 9 Box.av s174), (19, .dptr (Box.cs y174)), (85, G2 v147), (86, G2 (i148 : Int)), (100, LS 9 Box.av s148.1), (101, G2 (s148.1.length : Int)), (102, G2 (i174 : Int))] [(1022, MP 66 (fun n : Int => Value.int .i64 n) G2 r153.2.2), (1020, .spare 70 9 s174.length s174.length), (1015, .box 41 [LS 1 (LS 4 Gb.av) ([] : List (List Gb)), LS 1 (LS 1 G2) ([] : List (List Int))])] 1021 rfl rfl rfl ⟨⟨_, rfl, .map⟩, ⟨_, rfl, .same⟩, ⟨_, rfl, .boxEq rfl rfl⟩, trivial⟩ rfl (by repeat' (first | exact .ptr | constructor)) ?_
      refine G6 fun K179 hK179 => G3 ?_
      refine G1 (u := .dptr (Box.cs y174)) (Gd Hu rfl rfl rfl) ?_
      refine G1 (u := G2 y174.ID) (Gn Gc rfl rfl rfl) ?_
      refine G1 (u := G2 r153.2.1) (G5 rfl rfl) ?_
      refine G1 (u := BL (decide (y174.ID ≠ r153.2.1))) (A_neq rfl rfl rfl) ?_
      refine G9 (hK179 _ _ ?_)
      refine Gm rfl (fun hb => ?_) (fun hb => ?_)
      ·
       replace h := bif_t hb h
       refine G3 ?_
       refine G1 (u := OW 1020 9 Box.av s174) (G5 rfl rfl) ?_
       refine G1 (u := .agg (Box.cs y174)) (Gf Jw rfl rfl rfl) ?_
       refine G1 (u := LS 9 Box.av [y174]) (H1 (xs := [.agg (Box.cs y174)]) rfl ⟨rfl, rfl, trivial⟩ Hp Jd rfl rfl rfl rfl) ?_
       obtain ⟨ha180, h⟩ := He h
       refine G1 (u := OW 1020 9 Box.av (s174 ++ [y174])) (Hs (f := Box.av) (xs := s174) (ys := [y174]) rfl rfl rfl rfl Hp tf_elem_70 ha180 (fun _ => rfl) (.inl rfl) rfl) ?_
       refine G1 (u := OW 1020 9 Box.av (s174 ++ [y174])) (Ga rfl rfl) ?_
       refine G9 ?_
       exact ej177 _ _ (s174 ++ [y174]) h ⟨(by repeat' constructor), ⟨⟨_, rfl, .map⟩, ⟨_, rfl, .same⟩, ⟨_, rfl, .boxL rfl ⟨.same rfl, .same rfl, trivial⟩⟩, trivial⟩, rfl⟩
      ·
       replace h := bif_f hb h
       refine Gp ?_
       exact ej177 _ _ s174 h ⟨(by repeat' constructor), ⟨⟨_, rfl, .map⟩, ⟨_, rfl, .same⟩, ⟨_, rfl, .boxL rfl ⟨.same rfl, .same rfl, trivial⟩⟩, trivial⟩, rfl⟩
     ·intro j177 h
      replace h := app1 hkj177 h
      refine G3 ?_
      refine G1 (u := G2 ((i174 + 1 : Nat) : Int)) (H7 (idx_succ hk174 hm101) rfl rfl rfl) ?_
      refine G1 (u := G2 ((i174 + 1 : Nat) : Int)) (G5 rfl rfl) ?_
      refine G9 ?_
      exact e174 _ _ (i174 + 1) j177 (app1 hn174 h) (by omega) ⟨(by repeat' constructor), ⟨⟨_, rfl, .map⟩, ⟨_, rfl, .same⟩, ⟨_, rfl, .boxL rfl ⟨.same rfl, .same rfl, trivial⟩⟩, trivial⟩, rfl⟩
    ·
     have h := app1 hkx174 (Hd hi174 (H3 hb))
     refine H4 ?_
     refine hK158 _ _ ?_
     refine G3 ?_
     refine G1 (u := OW 1020 9 Box.av s174) (G5 rfl rfl) ?_
     refine G1 (u := OW 1020 9 Box.av s174) (Ga rfl rfl) ?_
     refine G9 (hK151 _ _ ?_)
     refine G3 ?_
     refine G1 (u := G2 ((i148 + 1 : Nat) : Int)) (H7 (idx_succ hk148 (toNat_max hx148)) rfl rfl rfl) ?_
     refine G1 (u := G2 ((i148 + 1 : Nat) : Int)) (G5 rfl rfl) ?_
     refine G9 ?_
     exact e148 _ _ (i148 + 1) (s174, r153.2.2) (app1 hn148 h) (by omega) ⟨⟨.same rfl, .same rfl, .same rfl, .list rfl, .same rfl, .same rfl, .same rfl, trivial⟩, ⟨⟨_, rfl, .map⟩, ⟨_, rfl, .boxL rfl ⟨.same rfl, .same rfl, trivial⟩⟩, trivial⟩, rfl⟩
  ·
   have h := app1 hkx148 (upto_nil hi148 (not_lt_toNat hb))
   refine H4 ?_
   refine hK145 _ _ ?_
   refine G6 (fun K181 hK181 => ?_)
   refine J3 (l' := [(2, G2 calls), (9, .ptr 1015 0)]) (L' := [(1022, MP 66 (fun n : Int => Value.int .i64 n) G2 s148.2), (1015, .box 41 [LS 1 (LS 4 Gb.av) ([] : List (List Gb)), LS 1 (LS 1 G2) ([] : List (List Int))])]) ⟨⟨.same rfl, .same rfl, trivial⟩, ⟨⟨_, rfl, .map⟩, ⟨_, rfl, .boxL rfl ⟨.same rfl, .same rfl, trivial⟩⟩, trivial⟩, rfl⟩ ?_
   obtain ⟨m182, hm182, h⟩ := Gg h
   obtain ⟨ha183, h⟩ := He h
   refine Hy [4] [0, 0, 0, 0, 0] [0, 0, 0, 0, 0] [[(1022, MP 66 (fun n : Int => Value.int .i64 n) G2 s148.2), (1015, .box 41 [LS 1 (LS 4 Gb.av) ([] : List (List Gb)), LS 1 (LS 1 G2) ([] : List (List Int))])], ((1015, .box 41 [LS 1 (LS 4 Gb.av) (List.replicate m182 ([] : List Gb)), LS 1 (LS 1 G2) ([] : List (List Int))]) :: [(1022, MP 66 (fun n : Int => Value.int .i64 n) G2 s148.2), (1015, .box 41 [LS 1 (LS 4 Gb.av) ([] : List (List Gb)), LS 1 (LS 1 G2) ([] : List (List Int))])])] Hr (by kernel_rfl) rfl rfl ?_
   refine Ge (u := G2 calls) rfl rfl ⟨Gi (G5 rfl rfl) rfl, trivial⟩ ?_
   refine Ge (u := LS 1 (LS 4 Gb.av) (List.replicate m182 ([] : List Gb))) rfl rfl ⟨Gi (A_makeDM (f := (LS 4 Gb.av)) (n := m182) [] [.slice none 0 0] rfl rfl rfl tf_slice_38 tf_elem_96 tf_zero_96 (natOf_out hm182) (natOf_out hm182) ha183 ⟨.inr ⟨_, rfl, rfl⟩, trivial⟩ rfl) rfl, trivial⟩ ?_
   refine Ge (u := .agg [LS 1 (LS 4 Gb.av) (List.replicate m182 ([] : List Gb)), LS 1 (LS 1 G2) ([] : List (List Int))]) rfl rfl ⟨Gi (Hn (cs := [LS 1 (LS 4 Gb.av) (List.replicate m182 ([] : List Gb)), LS 1 (LS 1 G2) ([] : List (List Int))]) [(0, 1), (1, 1)] [LS 1 (LS 4 Gb.av) ([] : List (List Gb)), LS 1 (LS 1 G2) ([] : List (List Int))] [.slice none 0 0, .slice none 0 0] tf_places_41 tf_zero_41 ⟨.inr ⟨_, rfl, rfl⟩, .inr ⟨_, rfl, rfl⟩, trivial⟩ rfl rfl) rfl, trivial⟩ ?_
   refine Ge (u := LS 9 Box.av ([] : List Box)) rfl rfl ⟨Gi (J4 9 rfl rfl) rfl, trivial⟩ ?_
   refine D_w0 (u := .junk) rfl rfl rfl rfl (Gi (Gz (u := .agg [LS 1 (LS 4 Gb.av) (List.replicate m182 ([] : List Gb)), LS 1 (LS 1 G2) ([] : List (List Int))]) (ds := [LS 1 (LS 4 Gb.av) (List.replicate m182 ([] : List Gb)), LS 1 (LS 1 G2) ([] : List (List Int))]) tf_size_41 rfl rfl rfl rfl rfl rfl rfl rfl) rfl) ?_
   refine Q3 ?_
   refine hK181 _ _ ?_
   refine Gt ?_
   exact ⟨[LS 9 Box.av ([] : List Box), .agg [LS 1 (LS 4 Gb.av) (List.replicate m182 ([] : List Gb)), LS 1 (LS 1 G2) ([] : List (List Int))]], [], trivial, rfl, ⟨⟨_, rfl, .conv (.same rfl)⟩, ⟨_, ⟨_, _, _, _, rfl, rfl, rfl, .inl ⟨tf_agg_41, rfl⟩⟩, .conv (.same rfl)⟩, trivial⟩, rfl, congrArg (fun r : (List Box) × Plan => (.tup [LS 9 Box.av r.1, .agg [LS 1 (LS 4 Gb.av) r.2.States, LS 1 (LS 1 G2) r.2.Water]] : AV)) (Option.some.inj h)⟩

def M_ship_Find_1 (c : G8) (p1 : Int) (p2 : Int) (p3 : Bool) : Option Bool :=
 some (((decide (c.Bay = p1)) && (decide (c.Row = p2))) && (c.Deck == p3))
theorem M_ship_Find_1_w (c : G8) (p1 : Int) (p2 : Int) (p3 : Bool) (r : Bool) (h : M_ship_Find_1 c p1 p2 p3 = some r) : Pure Try.prog 27 [.agg (G8.cs c), .dptr [G2 p1], .dptr [G2 p2], .dptr [BL p3]] (· = BL r) := by
 unfold M_ship_Find_1 at h
 refine H0 [.tmp 5] Try.func27 rfl rfl ?_
 refine G6 fun K1 hK1 => G3 ?_
 refine G1 (u := .ptr 1082 0) (J2 (u := .agg (G8.cs c)) (cs := (G8.cs c)) 1082 rfl rfl rfl rfl rfl) ?_
 refine G1 (u := BL false) (Ga rfl rfl) ?_
 refine G9 (hK1 _ _ ?_)
 refine Gq [(1, .dptr [G2 p1]), (2, .dptr [G2 p2]), (3, .dptr [BL p3]), (4, .dptr (G8.cs c))] [] 1082 rfl rfl rfl trivial rfl (by repeat' (first | exact .ptr | constructor)) ?_
 refine G6 fun K2 hK2 => G3 ?_
 refine G1 (u := .dptr (G8.cs c)) (Gd tf_field_50_0 rfl rfl rfl) ?_
 refine G1 (u := G2 c.Bay) (Gn Gc rfl rfl rfl) ?_
 refine G1 (u := G2 p1) (Gn Gc rfl rfl rfl) ?_
 refine G1 (u := BL (decide (c.Bay = p1))) (Jb rfl rfl rfl) ?_
 refine G1 (u := BL (decide (c.Bay = p1))) (G5 rfl rfl) ?_
 refine Gj (u := .dptr [G2 c.Row, BL c.Deck, G2 c.Tiers, G2 c.Height, G2 c.Kilos20, G2 c.Kilos40, G2 c.Lash, LS 1 G2 c.Plugs, G2 c.X, G2 c.Y, G2 c.Z]) [] rfl rfl rfl .sct trivial (fun hc => Gd tf_field_50_1 rfl rfl rfl) ?_
 refine Gj (u := G2 c.Row) [(11, .dptr [G2 c.Row, BL c.Deck, G2 c.Tiers, G2 c.Height, G2 c.Kilos20, G2 c.Kilos40, G2 c.Lash, LS 1 G2 c.Plugs, G2 c.X, G2 c.Y, G2 c.Z])] rfl rfl rfl .sct ⟨.all id, trivial⟩ (fun hc => Gn Gc rfl rfl rfl) ?_
 refine Gj (u := G2 p2) [] rfl rfl rfl .sct trivial (fun hc => Gn Gc rfl rfl rfl) ?_
 refine Gj (u := BL (decide (c.Row = p2))) [(12, G2 c.Row), (13, G2 p2)] rfl rfl rfl .sct ⟨.all id, .all id, trivial⟩ (fun hc => Jb rfl rfl rfl) ?_
 refine G1 (u := BL ((decide (c.Bay = p1)) && (decide (c.Row = p2)))) (Jc rfl rfl rfl rfl) ?_
 refine G1 (u := BL ((decide (c.Bay = p1)) && (decide (c.Row = p2)))) (G5 rfl rfl) ?_
 refine Gj (u := .dptr [BL c.Deck, G2 c.Tiers, G2 c.Height, G2 c.Kilos20, G2 c.Kilos40, G2 c.Lash, LS 1 G2 c.Plugs, G2 c.X, G2 c.Y, G2 c.Z]) [] rfl rfl rfl .sct trivial (fun hc => Gd tf_field_50_2 rfl rfl rfl) ?_
 refine Gj (u := BL c.Deck) [(17, .dptr [BL c.Deck, G2 c.Tiers, G2 c.Height, G2 c.Kilos20, G2 c.Kilos40, G2 c.Lash, LS 1 G2 c.Plugs, G2 c.X, G2 c.Y, G2 c.Z])] rfl rfl rfl .sct ⟨.all id, trivial⟩ (fun hc => Gn Jk rfl rfl rfl) ?_
 refine Gj (u := BL p3) [] rfl rfl rfl .sct trivial (fun hc => Gn Jk rfl rfl rfl) ?_
 refine Gj (u := BL (c.Deck == p3)) [(18, BL c.Deck), (19, BL p3)] rfl rfl rfl .sct ⟨.all id, .all id, trivial⟩ (fun hc => A_eqBool tf_bool_4 rfl rfl rfl) ?_
 refine G1 (u := BL (((decide (c.Bay = p1)) && (decide (c.Row = p2))) && (c.Deck == p3))) (Jc rfl rfl rfl rfl) ?_
 refine G1 (u := BL (((decide (c.Bay = p1)) && (decide (c.Row = p2))) && (c.Deck == p3))) (Ga rfl rfl) ?_
 refine G9 (hK2 _ _ ?_)
 refine Gt ?_
 exact ⟨[BL (((decide (c.Bay = p1)) && (decide (c.Row = p2))) && (c.Deck == p3))], [], trivial, rfl, ⟨⟨_, rfl, .conv (.same rfl)⟩, trivial⟩, rfl, congrArg (fun r : Bool => (BL r : AV)) (Option.some.inj h)⟩

def M_ship_chosen_apiColumn (l : List G8) (wanted : G8 → Option Bool) : Option (List Int) :=
 each (fun y21 i21 (s21 : (List Int)) nx21 =>
  jp (fun kj24 =>
   bnd (wanted y21) fun r27 =>
   bif r27 then
   (need (decide ((s21.length + [(i21 : Int)].length) * 8 ≤ 140737488355328 ∧ s21.length + [(i21 : Int)].length ≤ maxLen)) <|
    kj24 (s21 ++ [(i21 : Int)]))
   else
   (kj24 s21)) fun (j24 : (List Int)) =>
  nx21 j24)
 (fun (s21 : (List Int)) =>
  some s21) l 0 []
theorem M_ship_chosen_apiColumn_w (l : List G8) (wanted : G8 → Option Bool) (wanted_f : FuncId) (wanted_c : List AV) (wanted_B : callB Try.prog wanted_f = true) (wanted_d : refsL (fun _ => false) wanted_c = true) (wanted_w : ∀ a0 q, wanted a0 = some q → Pure Try.prog wanted_f ([.agg (G8.cs a0)] ++ wanted_c) (· = BL q)) (r : (List Int)) (h : M_ship_chosen_apiColumn l wanted = some r) : Pure Try.prog 26 [LS 12 G8.av l, .fn wanted_f wanted_c] (· = LS 1 G2 r) := by
 unfold M_ship_chosen_apiColumn at h
 refine H0 [.tmp 4] Try.func26 rfl rfl ?_
 refine G6 fun K1 hK1 => G3 ?_
 refine G1 (u := LS 1 G2 ([] : List Int)) (J4 1 rfl rfl) ?_
 refine G9 (hK1 _ _ ?_)
 refine G6 fun K2 hK2 => G3 ?_
 refine G1 (u := OW 1080 1 G2 ([] : List Int)) (A_nilOwn 1080 3 1 rfl rfl rfl) ?_
 refine G9 (hK2 _ _ ?_)
 refine G6 (fun K3 hK3 => ?_)
 refine G6 fun K4 hK4 => G3 ?_
 refine G1 (u := LS 12 G8.av l) (G5 rfl rfl) ?_
 refine H9 (f := G8.av) (xs := l) Ha rfl rfl (fun hm9 => ?_) rfl rfl rfl
 refine G1 (u := G2 0) (G5 rfl rfl) ?_
 refine G9 (hK4 _ _ ?_)
 refine Gk ?_
 obtain ⟨b21, kx21, hb21, hkx21, h⟩ := Hj h
 refine H2 (fun i21 (s21 : (List Int)) => each b21 kx21 (List.drop i21 l) i21 s21 = some r) (fun i21 s21 => [(1, .fn wanted_f wanted_c), (5, OW 1080 1 G2 s21), (8, LS 12 G8.av l), (9, G2 (l.length : Int)), (10, G2 (i21 : Int))]) (fun i21 s21 => [(1080, .spare 3 1 s21.length s21.length)]) (fun i21 => l.length - i21) 0 [] h ⟨⟨.same (refsL_any _ _ wanted_d), .same rfl, .same rfl, .same rfl, .same rfl, trivial⟩, ⟨⟨_, rfl, .same⟩, trivial⟩, rfl⟩ ?_
 clear h
 intro i21 s21 hi21 K21 e21
 refine G6 fun K22 hK22 => G3 ?_
 refine G1 (u := BL (decide ((i21 : Int) < (l.length : Int)))) (Hg rfl rfl rfl) ?_
 refine G9 (hK22 _ _ ?_)
 refine G6 (fun K23 hK23 => ?_)
 refine Gm rfl (fun hb => ?_) (fun hb => ?_)
 ·
  have hk21 := lt_len hb
  obtain ⟨y21, nx21, hy21, hn21, h⟩ := Hc hi21 hk21
  replace h := app4 hb21 h
  refine Gp ?_
  refine hK23 _ _ ?_
  obtain ⟨kj24, hkj24, h⟩ := Jf h
  refine Ht (fun j24 : (List Int) => kj24 j24 = some r) (fun j24 => [(1, .fn wanted_f wanted_c), (5, OW 1080 1 G2 j24), (8, LS 12 G8.av l), (9, G2 (l.length : Int)), (10, G2 (i21 : Int))]) (fun j24 => [(1080, .spare 3 1 j24.length j24.length)]) (fun Kj24 ej24 => ?_) ?_
  ·
   refine Gk ?_
   refine G6 fun K25 hK25 => G3 ?_
   refine G1 (u := G2 (i21 : Int)) (G5 rfl rfl) ?_
   refine G1 (u := .dptr (G8.cs y21)) (Gw (f := G8.av) (xs := l) (y := y21) rfl rfl rfl Ha hy21 rfl) ?_
   refine G1 (u := .agg (G8.cs y21)) (Gf tf_agg_50 rfl rfl rfl) ?_
   refine G1 (u := .ptr 1081 0) (H8 1081 12 Q1 rfl rfl) ?_
   refine G1 (u := G2 (i21 : Int)) (Ga rfl rfl) ?_
   refine H6 (u := .junk) (Gz (u := .agg (G8.cs y21)) (ds := (G8.cs y21)) tf_size_50 rfl rfl rfl rfl rfl rfl rfl rfl) ?_
   refine G9 (hK25 _ _ ?_)
   refine Gq [(1, .fn wanted_f wanted_c), (5, OW 1080 1 G2 s21), (6, G2 (i21 : Int)), (7, .dptr (G8.cs y21)), (8, LS 12 G8.av l), (9, G2 (l.length : Int)), (10, G2 (i21 : Int))] [(1080, .spare 3 1 s21.length s21.length)] 1081 rfl rfl rfl ⟨⟨_, rfl, .same⟩, trivial⟩ rfl (by exact ⟨.conv (.same (refsL_any _ _ wanted_d)), .conv (.same rfl), .conv (.same rfl), .ptr, .conv (.same rfl), .conv (.same rfl), .conv (.same rfl), trivial⟩) ?_
   refine G6 fun K26 hK26 => G3 ?_
   refine G1 (u := .fn wanted_f wanted_c) (G5 rfl rfl) ?_
   refine G1 (u := .agg (G8.cs y21)) (Gf tf_agg_50 rfl rfl rfl) ?_
   obtain ⟨r27, hr27, h⟩ := Gg h
   refine G1 (u := BL r27) (A_callV1 (args := [.agg (G8.cs y21)]) (caps := wanted_c) rfl rfl (wanted_w y21 _ hr27) wanted_B ⟨rfl, rfl, trivial⟩ wanted_d) ?_
   refine G9 (hK26 _ _ ?_)
   refine Gm rfl (fun hb => ?_) (fun hb => ?_)
   ·
    replace h := bif_t hb h
    refine G3 ?_
    refine G1 (u := OW 1080 1 G2 s21) (G5 rfl rfl) ?_
    refine G1 (u := G2 (i21 : Int)) (G5 rfl rfl) ?_
    refine G1 (u := LS 1 G2 [(i21 : Int)]) (H1 (xs := [G2 (i21 : Int)]) rfl ⟨rfl, rfl, trivial⟩ Gr tf_zsize_3 rfl rfl rfl rfl) ?_
    obtain ⟨ha28, h⟩ := He h
    refine G1 (u := OW 1080 1 G2 (s21 ++ [(i21 : Int)])) (Hs (f := G2) (xs := s21) (ys := [(i21 : Int)]) rfl rfl rfl rfl Gr Q0 ha28 (fun _ => rfl) (.inl rfl) rfl) ?_
    refine G1 (u := OW 1080 1 G2 (s21 ++ [(i21 : Int)])) (Ga rfl rfl) ?_
    refine G9 ?_
    exact ej24 _ _ (s21 ++ [(i21 : Int)]) h ⟨⟨.same (refsL_any _ _ wanted_d), .same rfl, .same rfl, .same rfl, .same rfl, trivial⟩, ⟨⟨_, rfl, .same⟩, trivial⟩, rfl⟩
   ·
    replace h := bif_f hb h
    refine Gp ?_
    exact ej24 _ _ s21 h ⟨⟨.same (refsL_any _ _ wanted_d), .same rfl, .same rfl, .same rfl, .same rfl, trivial⟩, ⟨⟨_, rfl, .same⟩, trivial⟩, rfl⟩
  ·intro j24 h
   replace h := app1 hkj24 h
   refine G3 ?_
   refine G1 (u := G2 ((i21 + 1 : Nat) : Int)) (H7 (idx_succ hk21 hm9) rfl rfl rfl) ?_
   refine G1 (u := G2 ((i21 + 1 : Nat) : Int)) (G5 rfl rfl) ?_
   refine G9 ?_
   exact e21 _ _ (i21 + 1) j24 (app1 hn21 h) (by omega) ⟨⟨.same (refsL_any _ _ wanted_d), .same rfl, .same rfl, .same rfl, .same rfl, trivial⟩, ⟨⟨_, rfl, .same⟩, trivial⟩, rfl⟩
 ·
  have h := app1 hkx21 (Hd hi21 (H3 hb))
  refine H4 ?_
  refine hK3 _ _ ?_
  refine G6 fun K29 hK29 => G3 ?_
  refine G1 (u := OW 1080 1 G2 s21) (G5 rfl rfl) ?_
  refine G1 (u := OW 1080 1 G2 s21) (Ga rfl rfl) ?_
  refine G9 (hK29 _ _ ?_)
  refine Gt ?_
  exact ⟨[LS 1 G2 s21], [], trivial, rfl, ⟨⟨_, rfl, .conv (.list rfl)⟩, trivial⟩, rfl, congrArg (fun r : (List Int) => (LS 1 G2 r : AV)) (Option.some.inj h)⟩

def M_ship_Find (s : Ship) (bay : Int) (row : Int) (deck : Bool) : Option (Int × Bool) :=
 bnd (M_ship_chosen_apiColumn s.Columns (fun z0 => M_ship_Find_1 z0 bay row deck)) fun r3 =>
 bif decide ((r3.length : Int) = 0) then
 (some (0, false))
 else
 (gidx r3 0 fun y8 =>
  some (y8, true))
theorem M_ship_Find_w (s : Ship) (bay : Int) (row : Int) (deck : Bool) (r : Int × Bool) (h : M_ship_Find s bay row deck = some r) : Pure Try.prog 10 [.agg (Ship.cs s), G2 bay, G2 row, BL deck] (· = .tup [G2 r.1, BL r.2]) := by
 unfold M_ship_Find at h
 refine H0 [.tmp 8, .tmp 9] Try.func10 rfl rfl ?_
 refine G6 fun K1 hK1 => G3 ?_
 refine G1 (u := .ptr 1032 0) (J2 (u := .agg (Ship.cs s)) (cs := (Ship.cs s)) 1032 rfl rfl rfl rfl rfl) ?_
 refine G1 (u := .ptr 1033 0) (J2 (u := G2 bay) (cs := [G2 bay]) 1033 rfl rfl rfl rfl rfl) ?_
 refine G1 (u := .ptr 1034 0) (J2 (u := G2 row) (cs := [G2 row]) 1034 rfl rfl rfl rfl rfl) ?_
 refine G1 (u := .ptr 1035 0) (J2 (u := BL deck) (cs := [BL deck]) 1035 rfl rfl rfl rfl rfl) ?_
 refine G1 (u := G2 0) (Ga rfl rfl) ?_
 refine G1 (u := BL false) (Ga rfl rfl) ?_
 refine G9 (hK1 _ _ ?_)
 refine Gq [(4, .dptr (Ship.cs s)), (5, .ptr 1033 0), (6, .ptr 1034 0), (7, .ptr 1035 0)] [(1033, .box 3 [G2 bay]), (1034, .box 3 [G2 row]), (1035, .box 4 [BL deck])] 1032 rfl rfl rfl ⟨⟨_, rfl, .boxEq rfl rfl⟩, ⟨_, rfl, .boxEq rfl rfl⟩, ⟨_, rfl, .boxEq rfl rfl⟩, trivial⟩ rfl (by repeat' (first | exact .ptr | constructor)) ?_
 refine Gq [(4, .dptr (Ship.cs s)), (5, .dptr [G2 bay]), (6, .ptr 1034 0), (7, .ptr 1035 0)] [(1034, .box 3 [G2 row]), (1035, .box 4 [BL deck])] 1033 rfl rfl rfl ⟨⟨_, rfl, .boxEq rfl rfl⟩, ⟨_, rfl, .boxEq rfl rfl⟩, trivial⟩ rfl (by repeat' (first | exact .ptr | constructor)) ?_
 refine Gq [(4, .dptr (Ship.cs s)), (5, .dptr [G2 bay]), (6, .dptr [G2 row]), (7, .ptr 1035 0)] [(1035, .box 4 [BL deck])] 1034 rfl rfl rfl ⟨⟨_, rfl, .boxEq rfl rfl⟩, trivial⟩ rfl (by repeat' (first | exact .ptr | constructor)) ?_
 refine Gq [(4, .dptr (Ship.cs s)), (5, .dptr [G2 bay]), (6, .dptr [G2 row]), (7, .dptr [BL deck])] [] 1035 rfl rfl rfl trivial rfl (by repeat' (first | exact .ptr | constructor)) ?_
 refine G6 fun K2 hK2 => G3 ?_
 refine G1 (u := .dptr (Ship.cs s)) (Gd Hb rfl rfl rfl) ?_
 refine G1 (u := LS 12 G8.av s.Columns) (Gn Hm rfl rfl rfl) ?_
 refine G1 (u := .fn 27 [.dptr [G2 bay], .dptr [G2 row], .dptr [BL deck]]) (A_makeFunc (cs := [.dptr [G2 bay], .dptr [G2 row], .dptr [BL deck]]) rfl rfl) ?_
 obtain ⟨r3, hr3, h⟩ := Gg h
 refine G1 (u := LS 1 G2 r3) (Gu (args := [LS 12 G8.av s.Columns, .fn 27 [.dptr [G2 bay], .dptr [G2 row], .dptr [BL deck]]]) rfl (M_ship_chosen_apiColumn_w s.Columns (fun z0 => M_ship_Find_1 z0 bay row deck) 27 [.dptr [G2 bay], .dptr [G2 row], .dptr [BL deck]] tf_call_27 rfl (fun z0 q hq => M_ship_Find_1_w z0 bay row deck q hq) r3 hr3) tf_call_26 ⟨rfl, rfl, rfl, rfl, trivial⟩) ?_
 refine G1 (u := LS 1 G2 r3) (Ga rfl rfl) ?_
 refine G9 (hK2 _ _ ?_)
 refine G6 (fun K4 hK4 => ?_)
 refine G6 fun K5 hK5 => G3 ?_
 refine G1 (u := LS 1 G2 r3) (G5 rfl rfl) ?_
 refine H9 (f := G2) (xs := r3) Gr rfl rfl (fun hm16 => ?_) rfl rfl rfl
 refine G1 (u := BL (decide ((r3.length : Int) = 0))) (Jb rfl rfl rfl) ?_
 refine G9 (hK5 _ _ ?_)
 refine Gm rfl (fun hb => ?_) (fun hb => ?_)
 ·
  replace h := bif_t hb h
  refine G6 fun K6 hK6 => G3 ?_
  refine G1 (u := G2 0) (Ga rfl rfl) ?_
  refine G1 (u := BL false) (Ga rfl rfl) ?_
  refine G9 (hK6 _ _ ?_)
  refine Gt ?_
  exact ⟨[G2 0, BL false], [], trivial, rfl, ⟨⟨_, rfl, .conv (.same rfl)⟩, ⟨_, rfl, .conv (.same rfl)⟩, trivial⟩, rfl, congrArg (fun r : Int × Bool => (.tup [G2 r.1, BL r.2] : AV)) (Option.some.inj h)⟩
 ·
  replace h := bif_f hb h
  refine Gp ?_
  refine hK4 _ _ ?_
  refine G6 fun K7 hK7 => G3 ?_
  refine G1 (u := LS 1 G2 r3) (G5 rfl rfl) ?_
  obtain ⟨m9, y8, hm9, hy8, h⟩ := Je h
  refine G1 (u := .dptr [G2 y8]) (Gw (f := G2) (xs := r3) (y := y8) rfl rfl rfl Gr hy8 hm9) ?_
  refine G1 (u := G2 y8) (Gn Gc rfl rfl rfl) ?_
  refine G1 (u := G2 y8) (Ga rfl rfl) ?_
  refine G1 (u := BL true) (Ga rfl rfl) ?_
  refine G9 (hK7 _ _ ?_)
  refine Gt ?_
  exact ⟨[G2 y8, BL true], [], trivial, rfl, ⟨⟨_, rfl, .conv (.same rfl)⟩, ⟨_, rfl, .conv (.same rfl)⟩, trivial⟩, rfl, congrArg (fun r : Int × Bool => (.tup [G2 r.1, BL r.2] : AV)) (Option.some.inj h)⟩

def M_twistlocklaw07_Built (l : List law07_Place) (covers : Int) : Option Ship :=
 bnd (natIn (min (l.length : Int) 12) l.length) fun m5 =>
 each (fun y106 i106 (s106 : (List G8) × (List Cover) × Int × Int × Int × Int × (List Row) × (List Frame) × (List Tank) × Int × Int × Int × Int) nx106 =>
  jp (fun kj109 =>
   chk (y106.Bay) fun v112 =>
   bnd (rem64 v112 5) fun v113 =>
   chk (y106.Row) fun v114 =>
   bnd (rem64 v114 5) fun v115 =>
   chk (y106.Tiers) fun v116 =>
   bnd (rem64 v116 4) fun v117 =>
   chk (2 + v117) fun v118 =>
   chk (13000 * v113) fun v120 =>
   chk (v120 - 26000) fun v121 =>
   chk (2500 * v115) fun v122 =>
   chk (v122 - 5000) fun v123 =>
   jp (fun kj124 =>
    bif y106.Deck then
    (kj124 20000)
    else
    (kj124 2000)) fun (j124 : Int) =>
   bnd (M_ship_Find (Ship.mk s106.1 s106.2.1 (Light.mk s106.2.2.1 s106.2.2.2.1 s106.2.2.2.2.1 s106.2.2.2.2.2.1) s106.2.2.2.2.2.2.1 s106.2.2.2.2.2.2.2.1 s106.2.2.2.2.2.2.2.2.1 (G4.mk s106.2.2.2.2.2.2.2.2.2.1 s106.2.2.2.2.2.2.2.2.2.2.1 s106.2.2.2.2.2.2.2.2.2.2.2.1 s106.2.2.2.2.2.2.2.2.2.2.2.2)) v113 v115 y106.Deck) fun r127 =>
   bif (!r127.2) then
   (need (decide ((s106.1.length + [(G8.mk v113 v115 y106.Deck v118 0 500000000 500000000 0 [] v121 v123 j124)].length) * 112 ≤ 140737488355328 ∧ s106.1.length + [(G8.mk v113 v115 y106.Deck v118 0 500000000 500000000 0 [] v121 v123 j124)].length ≤ maxLen)) <|
    kj109 (s106.1 ++ [(G8.mk v113 v115 y106.Deck v118 0 500000000 500000000 0 [] v121 v123 j124)]))
   else
   (kj109 s106.1)) fun (j109 : (List G8)) =>
  nx106 (j109, s106.2.1, s106.2.2.1, s106.2.2.2.1, s106.2.2.2.2.1, s106.2.2.2.2.2.1, s106.2.2.2.2.2.2.1, s106.2.2.2.2.2.2.2.1, s106.2.2.2.2.2.2.2.2.1, s106.2.2.2.2.2.2.2.2.2.1, s106.2.2.2.2.2.2.2.2.2.2.1, s106.2.2.2.2.2.2.2.2.2.2.2.1, s106.2.2.2.2.2.2.2.2.2.2.2.2))
 (fun (s106 : (List G8) × (List Cover) × Int × Int × Int × Int × (List Row) × (List Frame) × (List Tank) × Int × Int × Int × Int) =>
  jp (fun kj130 =>
   bif decide ((s106.1.length : Int) = 0) then
   (kj130 ([(G8.mk 0 0 false 3 0 500000000 500000000 0 [] 0 0 2000)]))
   else
   (kj130 s106.1)) fun (j130 : (List G8)) =>
  need (decide (5 ≤ 9223372036854775807)) <|
  upto (fun i200 (s200 : (List G8) × (List Cover) × Int × Int × Int × Int × (List Row) × (List Frame) × (List Tank) × Int × Int × Int × Int) nx200 =>
   jp (fun kj203 =>
    jp (fun kj204 =>
     chk (2 * (i200 : Int)) fun v206 =>
     bnd (natIn v206 4294967295) fun m207 =>
     bif decide ((band .u32 (shrN .u32 covers m207) 1) = 1) then
     (need (decide ((s200.2.1.length + [(Cover.mk (i200 : Int) [0, 1])].length) * 32 ≤ 140737488355328 ∧ s200.2.1.length + [(Cover.mk (i200 : Int) [0, 1])].length ≤ maxLen)) <|
      kj204 (s200.2.1 ++ [(Cover.mk (i200 : Int) [0, 1])]))
     else
     (kj204 s200.2.1)) fun (j204 : (List Cover)) =>
    chk (2 * (i200 : Int)) fun v210 =>
    chk (v210 + 1) fun v211 =>
    bnd (natIn v211 4294967295) fun m212 =>
    bif decide ((band .u32 (shrN .u32 covers m212) 1) = 1) then
    (need (decide ((j204.length + [(Cover.mk (i200 : Int) [2, 3, 4])].length) * 32 ≤ 140737488355328 ∧ j204.length + [(Cover.mk (i200 : Int) [2, 3, 4])].length ≤ maxLen)) <|
     kj203 (j204 ++ [(Cover.mk (i200 : Int) [2, 3, 4])]))
    else
    (kj203 j204)) fun (j203 : (List Cover)) =>
   nx200 (s200.1, j203, s200.2.2.1, s200.2.2.2.1, s200.2.2.2.2.1, s200.2.2.2.2.2.1, s200.2.2.2.2.2.2.1, s200.2.2.2.2.2.2.2.1, s200.2.2.2.2.2.2.2.2.1, s200.2.2.2.2.2.2.2.2.2.1, s200.2.2.2.2.2.2.2.2.2.2.1, s200.2.2.2.2.2.2.2.2.2.2.2.1, s200.2.2.2.2.2.2.2.2.2.2.2.2))
  (fun (s200 : (List G8) × (List Cover) × Int × Int × Int × Int × (List Row) × (List Frame) × (List Tank) × Int × Int × Int × Int) =>
   some (Ship.mk s200.1 s200.2.1 (Light.mk s200.2.2.1 s200.2.2.2.1 s200.2.2.2.2.1 s200.2.2.2.2.2.1) s200.2.2.2.2.2.2.1 s200.2.2.2.2.2.2.2.1 s200.2.2.2.2.2.2.2.2.1 (G4.mk s200.2.2.2.2.2.2.2.2.2.1 s200.2.2.2.2.2.2.2.2.2.2.1 s200.2.2.2.2.2.2.2.2.2.2.2.1 s200.2.2.2.2.2.2.2.2.2.2.2.2))) (5 : Int).toNat 0 (j130, s106.2.1, s106.2.2.1, s106.2.2.2.1, s106.2.2.2.2.1, s106.2.2.2.2.2.1, s106.2.2.2.2.2.2.1, s106.2.2.2.2.2.2.2.1, s106.2.2.2.2.2.2.2.2.1, s106.2.2.2.2.2.2.2.2.2.1, s106.2.2.2.2.2.2.2.2.2.2.1, s106.2.2.2.2.2.2.2.2.2.2.2.1, s106.2.2.2.2.2.2.2.2.2.2.2.2)) (l.take m5) 0 ([], [], 0, 0, 0, 0, [], [], [], 0, 0, 0, 0)
theorem M_twistlocklaw07_Built_w (l : List law07_Place) (covers : Int) (r : Ship) (h : M_twistlocklaw07_Built l covers = some r) : Pure Try.prog 4 [LS 4 law07_Place.av l, .sc (.int .u32 covers)] (· = .agg (Ship.cs r)) := by
 unfold M_twistlocklaw07_Built at h
 refine H0 [.cell 4 35] Try.func4 rfl rfl ?_
 refine G6 fun K1 hK1 => G3 ?_
 refine G1 (u := .ptr 1008 0) (A_allocZ 1008 [LS 12 G8.av ([] : List G8), LS 2 Cover.av ([] : List Cover), G2 0, G2 0, G2 0, G2 0, LS 5 Row.av ([] : List Row), LS 5 Frame.av ([] : List Frame), LS 6 Tank.av ([] : List Tank), G2 0, G2 0, G2 0, G2 0] [.slice none 0 0, .slice none 0 0, .int .i64 0, .int .i64 0, .int .i64 0, .int .i64 0, .slice none 0 0, .slice none 0 0, .slice none 0 0, .int .i64 0, .int .i64 0, .int .i64 0, .int .i64 0] tf_zero_35 ⟨.inr ⟨_, rfl, rfl⟩, .inr ⟨_, rfl, rfl⟩, .inl rfl, .inl rfl, .inl rfl, .inl rfl, .inr ⟨_, rfl, rfl⟩, .inr ⟨_, rfl, rfl⟩, .inr ⟨_, rfl, rfl⟩, .inl rfl, .inl rfl, .inl rfl, .inl rfl, trivial⟩ rfl rfl) ?_
 refine G9 (hK1 _ _ ?_)
 refine G6 fun K2 hK2 => G3 ?_
 refine G1 (u := .ptr 1009 0) (A_allocZ 1009 [.sc (.slice none 0 0), .sc (.slice none 0 0), G2 0, G2 0, G2 0, G2 0, LS 5 Row.av ([] : List Row), LS 5 Frame.av ([] : List Frame), LS 6 Tank.av ([] : List Tank), G2 0, G2 0, G2 0, G2 0] [.slice none 0 0, .slice none 0 0, .int .i64 0, .int .i64 0, .int .i64 0, .int .i64 0, .slice none 0 0, .slice none 0 0, .slice none 0 0, .int .i64 0, .int .i64 0, .int .i64 0, .int .i64 0] tf_zero_35 ⟨.inl rfl, .inl rfl, .inl rfl, .inl rfl, .inl rfl, .inl rfl, .inr ⟨_, rfl, rfl⟩, .inr ⟨_, rfl, rfl⟩, .inr ⟨_, rfl, rfl⟩, .inl rfl, .inl rfl, .inl rfl, .inl rfl, trivial⟩ rfl rfl) ?_
 refine JL_ownCell 1009 0 1012 50 12 rfl rfl rfl (cs' := [OW 1012 12 G8.av ([] : List G8), .sc (.slice none 0 0), G2 0, G2 0, G2 0, G2 0, LS 5 Row.av ([] : List Row), LS 5 Frame.av ([] : List Frame), LS 6 Tank.av ([] : List Tank), G2 0, G2 0, G2 0, G2 0]) rfl ?_
 refine JL_ownCell 1009 1 1013 65 2 rfl rfl rfl (cs' := [OW 1012 12 G8.av ([] : List G8), OW 1013 2 Cover.av ([] : List Cover), G2 0, G2 0, G2 0, G2 0, LS 5 Row.av ([] : List Row), LS 5 Frame.av ([] : List Frame), LS 6 Tank.av ([] : List Tank), G2 0, G2 0, G2 0, G2 0]) rfl ?_
 refine G9 (hK2 _ _ ?_)
 refine G6 (fun K3 hK3 => ?_)
 refine G6 fun K4 hK4 => G3 ?_
 refine G1 (u := LS 4 law07_Place.av l) (G5 rfl rfl) ?_
 refine G1 (u := LS 4 law07_Place.av l) (G5 rfl rfl) ?_
 refine H9 (f := law07_Place.av) (xs := l) tf_slice_22 rfl rfl (fun hm14 => ?_) rfl rfl rfl
 refine G1 (u := G2 (min (l.length : Int) 12)) (A_min rfl rfl rfl) ?_
 obtain ⟨m5, hm5, h⟩ := Gg h
 refine G1 (u := LS 4 law07_Place.av (l.take m5)) (A_sliceHiM (f := law07_Place.av) (xs := l) rfl rfl rfl tf_slice_22 (natIn_out hm5)) ?_
 refine H9 (f := law07_Place.av) (xs := (l.take m5)) tf_slice_22 rfl rfl (fun hm17 => ?_) rfl rfl rfl
 refine G1 (u := G2 0) (G5 rfl rfl) ?_
 refine G9 (hK4 _ _ ?_)
 refine Gk ?_
 obtain ⟨b106, kx106, hb106, hkx106, h⟩ := Hj h
 refine H2 (fun i106 (s106 : (List G8) × (List Cover) × Int × Int × Int × Int × (List Row) × (List Frame) × (List Tank) × Int × Int × Int × Int) => each b106 kx106 (List.drop i106 (l.take m5)) i106 s106 = some r) (fun i106 s106 => [(1, .sc (.int .u32 covers)), (4, .ptr 1008 0), (5, .ptr 1009 0), (16, LS 4 law07_Place.av (l.take m5)), (17, G2 ((l.take m5).length : Int)), (18, G2 (i106 : Int))]) (fun i106 s106 => [(1012, .spare 50 12 s106.1.length s106.1.length), (1013, .spare 65 2 s106.2.1.length s106.2.1.length), (1008, .box 35 [LS 12 G8.av ([] : List G8), LS 2 Cover.av ([] : List Cover), G2 0, G2 0, G2 0, G2 0, LS 5 Row.av ([] : List Row), LS 5 Frame.av ([] : List Frame), LS 6 Tank.av ([] : List Tank), G2 0, G2 0, G2 0, G2 0]), (1009, .box 35 [OW 1012 12 G8.av s106.1, OW 1013 2 Cover.av s106.2.1, G2 s106.2.2.1, G2 s106.2.2.2.1, G2 s106.2.2.2.2.1, G2 s106.2.2.2.2.2.1, LS 5 Row.av s106.2.2.2.2.2.2.1, LS 5 Frame.av s106.2.2.2.2.2.2.2.1, LS 6 Tank.av s106.2.2.2.2.2.2.2.2.1, G2 s106.2.2.2.2.2.2.2.2.2.1, G2 s106.2.2.2.2.2.2.2.2.2.2.1, G2 s106.2.2.2.2.2.2.2.2.2.2.2.1, G2 s106.2.2.2.2.2.2.2.2.2.2.2.2])]) (fun i106 => (l.take m5).length - i106) 0 ([], [], 0, 0, 0, 0, [], [], [], 0, 0, 0, 0) h ⟨(by repeat' constructor), ⟨⟨_, rfl, .same⟩, ⟨_, rfl, .same⟩, ⟨_, rfl, .boxL rfl (by repeat' constructor)⟩, ⟨_, rfl, .boxL rfl (by repeat' constructor)⟩, trivial⟩, rfl⟩ ?_
 clear h
 intro i106 s106 hi106 K106 e106
 refine G6 fun K107 hK107 => G3 ?_
 refine G1 (u := BL (decide ((i106 : Int) < ((l.take m5).length : Int)))) (Hg rfl rfl rfl) ?_
 refine G9 (hK107 _ _ ?_)
 refine G6 (fun K108 hK108 => ?_)
 refine Gm rfl (fun hb => ?_) (fun hb => ?_)
 ·
  have hk106 := lt_len hb
  obtain ⟨y106, nx106, hy106, hn106, h⟩ := Hc hi106 hk106
  replace h := app4 hb106 h
  refine Gp ?_
  refine hK108 _ _ ?_
  obtain ⟨kj109, hkj109, h⟩ := Jf h
  refine Ht (fun j109 : (List G8) => kj109 j109 = some r) (fun j109 => [(1, .sc (.int .u32 covers)), (4, .ptr 1008 0), (5, .ptr 1009 0), (16, LS 4 law07_Place.av (l.take m5)), (17, G2 ((l.take m5).length : Int)), (18, G2 (i106 : Int))]) (fun j109 => [(1012, .spare 50 12 j109.length j109.length), (1013, .spare 65 2 s106.2.1.length s106.2.1.length), (1008, .box 35 [LS 12 G8.av ([] : List G8), LS 2 Cover.av ([] : List Cover), G2 0, G2 0, G2 0, G2 0, LS 5 Row.av ([] : List Row), LS 5 Frame.av ([] : List Frame), LS 6 Tank.av ([] : List Tank), G2 0, G2 0, G2 0, G2 0]), (1009, .box 35 [OW 1012 12 G8.av j109, OW 1013 2 Cover.av s106.2.1, G2 s106.2.2.1, G2 s106.2.2.2.1, G2 s106.2.2.2.2.1, G2 s106.2.2.2.2.2.1, LS 5 Row.av s106.2.2.2.2.2.2.1, LS 5 Frame.av s106.2.2.2.2.2.2.2.1, LS 6 Tank.av s106.2.2.2.2.2.2.2.2.1, G2 s106.2.2.2.2.2.2.2.2.2.1, G2 s106.2.2.2.2.2.2.2.2.2.2.1, G2 s106.2.2.2.2.2.2.2.2.2.2.2.1, G2 s106.2.2.2.2.2.2.2.2.2.2.2.2])]) (fun Kj109 ej109 => ?_) ?_
  ·
   refine Gk ?_
   refine G6 fun K110 hK110 => G3 ?_
   refine G1 (u := .dptr (law07_Place.cs y106)) (Gw (f := law07_Place.av) (xs := (l.take m5)) (y := y106) rfl rfl rfl tf_slice_22 hy106 rfl) ?_
   refine G1 (u := .agg (law07_Place.cs y106)) (Gf tf_agg_61 rfl rfl rfl) ?_
   refine G1 (u := .ptr 1010 0) (H8 1010 4 tf_zsize_61 rfl rfl) ?_
   refine H6 (u := .junk) (Gz (u := .agg (law07_Place.cs y106)) (ds := [U8 y106.Bay, U8 y106.Row, U8 y106.Tiers, BL y106.Deck]) tf_size_61 rfl rfl rfl rfl rfl rfl rfl rfl) ?_
   refine G9 (hK110 _ _ ?_)
   refine Gq [(1, .sc (.int .u32 covers)), (4, .ptr 1008 0), (5, .ptr 1009 0), (7, .dptr (law07_Place.cs y106)), (16, LS 4 law07_Place.av (l.take m5)), (17, G2 ((l.take m5).length : Int)), (18, G2 (i106 : Int))] [(1012, .spare 50 12 s106.1.length s106.1.length), (1013, .spare 65 2 s106.2.1.length s106.2.1.length), (1008, .box 35 [LS 12 G8.av ([] : List G8), LS 2 Cover.av ([] : List Cover), G2 0, G2 0, G2 0, G2 0, LS 5 Row.av ([] : List Row), LS 5 Frame.av ([] : List Frame), LS 6 Tank.av ([] : List Tank), G2 0, G2 0, G2 0, G2 0]), (1009, .box 35 [OW 1012 12 G8.av s106.1, OW 1013 2 Cover.av s106.2.1, G2 s106.2.2.1, G2 s106.2.2.2.1, G2 s106.2.2.2.2.1, G2 s106.2.2.2.2.2.1, LS 5 Row.av s106.2.2.2.2.2.2.1, LS 5 Frame.av s106.2.2.2.2.2.2.2.1, LS 6 Tank.av s106.2.2.2.2.2.2.2.2.1, G2 s106.2.2.2.2.2.2.2.2.2.1, G2 s106.2.2.2.2.2.2.2.2.2.2.1, G2 s106.2.2.2.2.2.2.2.2.2.2.2.1, G2 s106.2.2.2.2.2.2.2.2.2.2.2.2])] 1010 rfl rfl rfl ⟨⟨_, rfl, .same⟩, ⟨_, rfl, .same⟩, ⟨_, rfl, .boxEq rfl rfl⟩, ⟨_, rfl, .boxEq rfl rfl⟩, trivial⟩ rfl (by repeat' (first | exact .ptr | constructor)) ?_
   refine G6 fun K111 hK111 => G3 ?_
   refine G1 (u := .dptr (law07_Place.cs y106)) (Gd tf_field_61_0 rfl rfl rfl) ?_
   refine G1 (u := U8 y106.Bay) (Gn Hk rfl rfl rfl) ?_
   obtain ⟨v112, hv112, h⟩ := Gy h
   refine G1 (u := G2 v112) (A_conv Jo tf_int_5 hv112 rfl rfl) ?_
   obtain ⟨v113, hv113, h⟩ := Gg h
   refine G1 (u := G2 v113) (A_rem (rem64_out hv113).1 (rem64_out hv113).2 rfl rfl rfl) ?_
   refine G1 (u := .dptr ((law07_Place.cs y106).drop 1)) (Gd tf_field_61_1 rfl rfl rfl) ?_
   refine G1 (u := U8 y106.Row) (Gn Hk rfl rfl rfl) ?_
   obtain ⟨v114, hv114, h⟩ := Gy h
   refine G1 (u := G2 v114) (A_conv Jo tf_int_5 hv114 rfl rfl) ?_
   obtain ⟨v115, hv115, h⟩ := Gg h
   refine G1 (u := G2 v115) (A_rem (rem64_out hv115).1 (rem64_out hv115).2 rfl rfl rfl) ?_
   refine G1 (u := .dptr [BL y106.Deck]) (Gd tf_field_61_3 rfl rfl rfl) ?_
   refine G1 (u := BL y106.Deck) (Gn Jk rfl rfl rfl) ?_
   refine G1 (u := .dptr [U8 y106.Tiers, BL y106.Deck]) (Gd tf_field_61_2 rfl rfl rfl) ?_
   refine G1 (u := U8 y106.Tiers) (Gn Hk rfl rfl rfl) ?_
   obtain ⟨v116, hv116, h⟩ := Gy h
   refine G1 (u := G2 v116) (A_conv Jo tf_int_5 hv116 rfl rfl) ?_
   obtain ⟨v117, hv117, h⟩ := Gg h
   refine G1 (u := G2 v117) (A_rem (rem64_out hv117).1 (rem64_out hv117).2 rfl rfl rfl) ?_
   obtain ⟨v118, hv118, h⟩ := Gy h
   refine G1 (u := G2 v118) (H7 hv118 rfl rfl rfl) ?_
   refine G1 (u := .agg [G2 v113, G2 v115, BL y106.Deck, G2 v118, G2 0, G2 500000000, G2 500000000, G2 0, LS 1 G2 ([] : List Int), G2 0, G2 0, G2 0]) (Hn (cs := [G2 v113, G2 v115, BL y106.Deck, G2 v118, G2 0, G2 500000000, G2 500000000, G2 0, LS 1 G2 ([] : List Int), G2 0, G2 0, G2 0]) [(0, 1), (1, 1), (2, 1), (3, 1), (4, 1), (5, 1), (6, 1), (7, 1), (8, 1), (9, 1), (10, 1), (11, 1)] [G2 0, G2 0, BL false, G2 0, G2 0, G2 0, G2 0, G2 0, LS 1 G2 ([] : List Int), G2 0, G2 0, G2 0] [.int .i64 0, .int .i64 0, .bool false, .int .i64 0, .int .i64 0, .int .i64 0, .int .i64 0, .int .i64 0, .slice none 0 0, .int .i64 0, .int .i64 0, .int .i64 0] tf_places_50 tf_zero_50 ⟨.inl rfl, .inl rfl, .inl rfl, .inl rfl, .inl rfl, .inl rfl, .inl rfl, .inl rfl, .inr ⟨_, rfl, rfl⟩, .inl rfl, .inl rfl, .inl rfl, trivial⟩ rfl rfl) ?_
   refine G1 (u := .ptr 1011 0) (H8 1011 12 Q1 rfl rfl) ?_
   refine H6 (u := .junk) (Gz (u := .agg [G2 v113, G2 v115, BL y106.Deck, G2 v118, G2 0, G2 500000000, G2 500000000, G2 0, LS 1 G2 ([] : List Int), G2 0, G2 0, G2 0]) (ds := [G2 v113, G2 v115, BL y106.Deck, G2 v118, G2 0, G2 500000000, G2 500000000, G2 0, LS 1 G2 ([] : List Int), G2 0, G2 0, G2 0]) tf_size_50 rfl rfl rfl rfl rfl rfl rfl rfl) ?_
   refine G9 (hK111 _ _ ?_)
   refine G6 fun K119 hK119 => G3 ?_
   refine G1 (u := .ptr 1011 0) (Hi tf_field_50_0 rfl rfl) ?_
   refine G1 (u := G2 v113) (J5 Gc rfl rfl rfl rfl) ?_
   obtain ⟨v120, hv120, h⟩ := Gy h
   refine G1 (u := G2 v120) (A_mul hv120 rfl rfl rfl) ?_
   obtain ⟨v121, hv121, h⟩ := Gy h
   refine G1 (u := G2 v121) (A_sub hv121 rfl rfl rfl) ?_
   refine G1 (u := .ptr 1011 1) (Hi tf_field_50_1 rfl rfl) ?_
   refine G1 (u := G2 v115) (J5 Gc rfl rfl rfl rfl) ?_
   obtain ⟨v122, hv122, h⟩ := Gy h
   refine G1 (u := G2 v122) (A_mul hv122 rfl rfl rfl) ?_
   obtain ⟨v123, hv123, h⟩ := Gy h
   refine G1 (u := G2 v123) (A_sub hv123 rfl rfl rfl) ?_
   refine G1 (u := .ptr 1011 9) (Hi tf_field_50_9 rfl rfl) ?_
   refine H6 (u := .junk) (Gz (u := G2 v121) (ds := [G2 v113, G2 v115, BL y106.Deck, G2 v118, G2 0, G2 500000000, G2 500000000, G2 0, LS 1 G2 ([] : List Int), G2 v121, G2 0, G2 0]) J0 rfl rfl rfl rfl rfl rfl rfl rfl) ?_
   refine G1 (u := .ptr 1011 10) (Hi tf_field_50_10 rfl rfl) ?_
   refine H6 (u := .junk) (Gz (u := G2 v123) (ds := [G2 v113, G2 v115, BL y106.Deck, G2 v118, G2 0, G2 500000000, G2 500000000, G2 0, LS 1 G2 ([] : List Int), G2 v121, G2 v123, G2 0]) J0 rfl rfl rfl rfl rfl rfl rfl rfl) ?_
   refine G1 (u := .ptr 1011 11) (Hi tf_field_50_11 rfl rfl) ?_
   refine H6 (u := .junk) (Gz (u := G2 2000) (ds := [G2 v113, G2 v115, BL y106.Deck, G2 v118, G2 0, G2 500000000, G2 500000000, G2 0, LS 1 G2 ([] : List Int), G2 v121, G2 v123, G2 2000]) J0 rfl rfl rfl rfl rfl rfl rfl rfl) ?_
   refine G9 (hK119 _ _ ?_)
   obtain ⟨kj124, hkj124, h⟩ := Jf h
   refine Ht (fun j124 : Int => kj124 j124 = some r) (fun j124 => [(1, .sc (.int .u32 covers)), (4, .ptr 1008 0), (5, .ptr 1009 0), (8, .ptr 1011 0), (16, LS 4 law07_Place.av (l.take m5)), (17, G2 ((l.take m5).length : Int)), (18, G2 (i106 : Int))]) (fun j124 => [(1012, .spare 50 12 s106.1.length s106.1.length), (1013, .spare 65 2 s106.2.1.length s106.2.1.length), (1008, .box 35 [LS 12 G8.av ([] : List G8), LS 2 Cover.av ([] : List Cover), G2 0, G2 0, G2 0, G2 0, LS 5 Row.av ([] : List Row), LS 5 Frame.av ([] : List Frame), LS 6 Tank.av ([] : List Tank), G2 0, G2 0, G2 0, G2 0]), (1009, .box 35 [OW 1012 12 G8.av s106.1, OW 1013 2 Cover.av s106.2.1, G2 s106.2.2.1, G2 s106.2.2.2.1, G2 s106.2.2.2.2.1, G2 s106.2.2.2.2.2.1, LS 5 Row.av s106.2.2.2.2.2.2.1, LS 5 Frame.av s106.2.2.2.2.2.2.2.1, LS 6 Tank.av s106.2.2.2.2.2.2.2.2.1, G2 s106.2.2.2.2.2.2.2.2.2.1, G2 s106.2.2.2.2.2.2.2.2.2.2.1, G2 s106.2.2.2.2.2.2.2.2.2.2.2.1, G2 s106.2.2.2.2.2.2.2.2.2.2.2.2]), (1011, .box 50 [G2 v113, G2 v115, BL y106.Deck, G2 v118, G2 0, G2 500000000, G2 500000000, G2 0, LS 1 G2 ([] : List Int), G2 v121, G2 v123, G2 j124])]) (fun Kj124 ej124 => ?_) ?_
   ·
    refine G6 fun K125 hK125 => G3 ?_
    refine G1 (u := .ptr 1011 2) (Hi tf_field_50_2 rfl rfl) ?_
    refine G1 (u := BL y106.Deck) (J5 Jk rfl rfl rfl rfl) ?_
    refine G9 (hK125 _ _ ?_)
    refine Gm rfl (fun hb => ?_) (fun hb => ?_)
    ·
     replace h := bif_t hb h
     refine G3 ?_
     refine G1 (u := .ptr 1011 11) (Hi tf_field_50_11 rfl rfl) ?_
     refine H6 (u := .junk) (Gz (u := G2 20000) (ds := [G2 v113, G2 v115, BL y106.Deck, G2 v118, G2 0, G2 500000000, G2 500000000, G2 0, LS 1 G2 ([] : List Int), G2 v121, G2 v123, G2 20000]) J0 rfl rfl rfl rfl rfl rfl rfl rfl) ?_
     refine G9 ?_
     exact ej124 _ _ 20000 h ⟨(by repeat' constructor), ⟨⟨_, rfl, .same⟩, ⟨_, rfl, .same⟩, ⟨_, rfl, .boxL rfl (by repeat' constructor)⟩, ⟨_, rfl, .boxL rfl (by repeat' constructor)⟩, ⟨_, rfl, .boxL rfl (by repeat' constructor)⟩, trivial⟩, rfl⟩
    ·
     replace h := bif_f hb h
     refine Gp ?_
     exact ej124 _ _ 2000 h ⟨(by repeat' constructor), ⟨⟨_, rfl, .same⟩, ⟨_, rfl, .same⟩, ⟨_, rfl, .boxL rfl (by repeat' constructor)⟩, ⟨_, rfl, .boxL rfl (by repeat' constructor)⟩, ⟨_, rfl, .boxL rfl (by repeat' constructor)⟩, trivial⟩, rfl⟩
   ·intro j124 h
    replace h := app1 hkj124 h
    refine G6 fun K126 hK126 => G3 ?_
    refine G1 (u := .agg [OW 1012 12 G8.av s106.1, OW 1013 2 Cover.av s106.2.1, G2 s106.2.2.1, G2 s106.2.2.2.1, G2 s106.2.2.2.2.1, G2 s106.2.2.2.2.2.1, LS 5 Row.av s106.2.2.2.2.2.2.1, LS 5 Frame.av s106.2.2.2.2.2.2.2.1, LS 6 Tank.av s106.2.2.2.2.2.2.2.2.1, G2 s106.2.2.2.2.2.2.2.2.2.1, G2 s106.2.2.2.2.2.2.2.2.2.2.1, G2 s106.2.2.2.2.2.2.2.2.2.2.2.1, G2 s106.2.2.2.2.2.2.2.2.2.2.2.2]) (A_loadAggL Hh rfl rfl rfl rfl) ?_
    refine G1 (u := .ptr 1011 0) (Hi tf_field_50_0 rfl rfl) ?_
    refine G1 (u := G2 v113) (J5 Gc rfl rfl rfl rfl) ?_
    refine G1 (u := .ptr 1011 1) (Hi tf_field_50_1 rfl rfl) ?_
    refine G1 (u := G2 v115) (J5 Gc rfl rfl rfl rfl) ?_
    refine G1 (u := .ptr 1011 2) (Hi tf_field_50_2 rfl rfl) ?_
    refine G1 (u := BL y106.Deck) (J5 Jk rfl rfl rfl rfl) ?_
    obtain ⟨r127, hr127, h⟩ := Gg h
    refine G1 (u := .tup [G2 r127.1, BL r127.2]) (Gu (args := [.agg [LS 12 G8.av s106.1, LS 2 Cover.av s106.2.1, G2 s106.2.2.1, G2 s106.2.2.2.1, G2 s106.2.2.2.2.1, G2 s106.2.2.2.2.2.1, LS 5 Row.av s106.2.2.2.2.2.2.1, LS 5 Frame.av s106.2.2.2.2.2.2.2.1, LS 6 Tank.av s106.2.2.2.2.2.2.2.2.1, G2 s106.2.2.2.2.2.2.2.2.2.1, G2 s106.2.2.2.2.2.2.2.2.2.2.1, G2 s106.2.2.2.2.2.2.2.2.2.2.2.1, G2 s106.2.2.2.2.2.2.2.2.2.2.2.2], G2 v113, G2 v115, BL y106.Deck]) rfl (M_ship_Find_w (Ship.mk s106.1 s106.2.1 (Light.mk s106.2.2.1 s106.2.2.2.1 s106.2.2.2.2.1 s106.2.2.2.2.2.1) s106.2.2.2.2.2.2.1 s106.2.2.2.2.2.2.2.1 s106.2.2.2.2.2.2.2.2.1 (G4.mk s106.2.2.2.2.2.2.2.2.2.1 s106.2.2.2.2.2.2.2.2.2.2.1 s106.2.2.2.2.2.2.2.2.2.2.2.1 s106.2.2.2.2.2.2.2.2.2.2.2.2)) v113 v115 y106.Deck r127 hr127) tf_call_10 ⟨rfl, rfl, rfl, rfl, rfl, rfl, rfl, rfl, trivial⟩) ?_
    refine G1 (u := .tup [G2 r127.1, BL r127.2]) (G5 rfl rfl) ?_
    refine G1 (u := G2 r127.1) (Gx rfl rfl rfl) ?_
    refine G1 (u := BL r127.2) (Gx rfl rfl rfl) ?_
    refine G1 (u := G2 r127.1) (Ga rfl rfl) ?_
    refine G1 (u := BL r127.2) (Ga rfl rfl) ?_
    refine G9 (hK126 _ _ ?_)
    refine Gq [(1, .sc (.int .u32 covers)), (4, .ptr 1008 0), (5, .ptr 1009 0), (8, .dptr [G2 v113, G2 v115, BL y106.Deck, G2 v118, G2 0, G2 500000000, G2 500000000, G2 0, LS 1 G2 ([] : List Int), G2 v121, G2 v123, G2 j124]), (10, BL r127.2), (16, LS 4 law07_Place.av (l.take m5)), (17, G2 ((l.take m5).length : Int)), (18, G2 (i106 : Int))] [(1012, .spare 50 12 s106.1.length s106.1.length), (1013, .spare 65 2 s106.2.1.length s106.2.1.length), (1008, .box 35 [LS 12 G8.av ([] : List G8), LS 2 Cover.av ([] : List Cover), G2 0, G2 0, G2 0, G2 0, LS 5 Row.av ([] : List Row), LS 5 Frame.av ([] : List Frame), LS 6 Tank.av ([] : List Tank), G2 0, G2 0, G2 0, G2 0]), (1009, .box 35 [OW 1012 12 G8.av s106.1, OW 1013 2 Cover.av s106.2.1, G2 s106.2.2.1, G2 s106.2.2.2.1, G2 s106.2.2.2.2.1, G2 s106.2.2.2.2.2.1, LS 5 Row.av s106.2.2.2.2.2.2.1, LS 5 Frame.av s106.2.2.2.2.2.2.2.1, LS 6 Tank.av s106.2.2.2.2.2.2.2.2.1, G2 s106.2.2.2.2.2.2.2.2.2.1, G2 s106.2.2.2.2.2.2.2.2.2.2.1, G2 s106.2.2.2.2.2.2.2.2.2.2.2.1, G2 s106.2.2.2.2.2.2.2.2.2.2.2.2])] 1011 rfl rfl rfl ⟨⟨_, rfl, .same⟩, ⟨_, rfl, .same⟩, ⟨_, rfl, .boxEq rfl rfl⟩, ⟨_, rfl, .boxEq rfl rfl⟩, trivial⟩ rfl (by repeat' (first | exact .ptr | constructor)) ?_
    refine G6 fun K128 hK128 => G3 ?_
    refine G1 (u := BL r127.2) (G5 rfl rfl) ?_
    refine G1 (u := BL (!r127.2)) (A_not (b := r127.2) rfl rfl) ?_
    refine G9 (hK128 _ _ ?_)
    refine Gm rfl (fun hb => ?_) (fun hb => ?_)
    ·
     replace h := bif_t hb h
     refine G3 ?_
     refine G1 (u := .ptr 1009 0) (Hi Hb rfl rfl) ?_
     refine G1 (u := OW 1012 12 G8.av s106.1) (J5 Hm rfl rfl rfl rfl) ?_
     refine G1 (u := .agg [G2 v113, G2 v115, BL y106.Deck, G2 v118, G2 0, G2 500000000, G2 500000000, G2 0, LS 1 G2 ([] : List Int), G2 v121, G2 v123, G2 j124]) (Gf tf_agg_50 rfl rfl rfl) ?_
     refine G1 (u := LS 12 G8.av ([(G8.mk v113 v115 y106.Deck v118 0 500000000 500000000 0 [] v121 v123 j124)])) (H1 (xs := [.agg [G2 v113, G2 v115, BL y106.Deck, G2 v118, G2 0, G2 500000000, G2 500000000, G2 0, LS 1 G2 ([] : List Int), G2 v121, G2 v123, G2 j124]]) rfl ⟨rfl, rfl, trivial⟩ Ha Q1 rfl rfl rfl rfl) ?_
     obtain ⟨ha129, h⟩ := He h
     refine G1 (u := OW 1012 12 G8.av (s106.1 ++ [(G8.mk v113 v115 y106.Deck v118 0 500000000 500000000 0 [] v121 v123 j124)])) (Hs (f := G8.av) (xs := s106.1) (ys := [(G8.mk v113 v115 y106.Deck v118 0 500000000 500000000 0 [] v121 v123 j124)]) rfl rfl rfl rfl Ha tf_elem_50 ha129 (fun _ => rfl) (.inl rfl) rfl) ?_
     refine G1 (u := .ptr 1009 0) (Hi Hb rfl rfl) ?_
     refine H6 (u := .junk) (Gz (u := OW 1012 12 G8.av (s106.1 ++ [(G8.mk v113 v115 y106.Deck v118 0 500000000 500000000 0 [] v121 v123 j124)])) (ds := [OW 1012 12 G8.av (s106.1 ++ [(G8.mk v113 v115 y106.Deck v118 0 500000000 500000000 0 [] v121 v123 j124)]), OW 1013 2 Cover.av s106.2.1, G2 s106.2.2.1, G2 s106.2.2.2.1, G2 s106.2.2.2.2.1, G2 s106.2.2.2.2.2.1, LS 5 Row.av s106.2.2.2.2.2.2.1, LS 5 Frame.av s106.2.2.2.2.2.2.2.1, LS 6 Tank.av s106.2.2.2.2.2.2.2.2.1, G2 s106.2.2.2.2.2.2.2.2.2.1, G2 s106.2.2.2.2.2.2.2.2.2.2.1, G2 s106.2.2.2.2.2.2.2.2.2.2.2.1, G2 s106.2.2.2.2.2.2.2.2.2.2.2.2]) tf_size_25 rfl rfl rfl rfl rfl rfl rfl rfl) ?_
     refine G9 ?_
     exact ej109 _ _ (s106.1 ++ [(G8.mk v113 v115 y106.Deck v118 0 500000000 500000000 0 [] v121 v123 j124)]) h ⟨(by repeat' constructor), ⟨⟨_, rfl, .same⟩, ⟨_, rfl, .same⟩, ⟨_, rfl, .boxL rfl (by repeat' constructor)⟩, ⟨_, rfl, .boxL rfl (by repeat' constructor)⟩, trivial⟩, rfl⟩
    ·
     replace h := bif_f hb h
     refine Gp ?_
     exact ej109 _ _ s106.1 h ⟨(by repeat' constructor), ⟨⟨_, rfl, .same⟩, ⟨_, rfl, .same⟩, ⟨_, rfl, .boxL rfl (by repeat' constructor)⟩, ⟨_, rfl, .boxL rfl (by repeat' constructor)⟩, trivial⟩, rfl⟩
  ·intro j109 h
   replace h := app1 hkj109 h
   refine G3 ?_
   refine G1 (u := G2 ((i106 + 1 : Nat) : Int)) (H7 (idx_succ hk106 hm17) rfl rfl rfl) ?_
   refine G1 (u := G2 ((i106 + 1 : Nat) : Int)) (G5 rfl rfl) ?_
   refine G9 ?_
   exact e106 _ _ (i106 + 1) (j109, s106.2.1, s106.2.2.1, s106.2.2.2.1, s106.2.2.2.2.1, s106.2.2.2.2.2.1, s106.2.2.2.2.2.2.1, s106.2.2.2.2.2.2.2.1, s106.2.2.2.2.2.2.2.2.1, s106.2.2.2.2.2.2.2.2.2.1, s106.2.2.2.2.2.2.2.2.2.2.1, s106.2.2.2.2.2.2.2.2.2.2.2.1, s106.2.2.2.2.2.2.2.2.2.2.2.2) (app1 hn106 h) (by omega) ⟨(by repeat' constructor), ⟨⟨_, rfl, .same⟩, ⟨_, rfl, .same⟩, ⟨_, rfl, .boxL rfl (by repeat' constructor)⟩, ⟨_, rfl, .boxL rfl (by repeat' constructor)⟩, trivial⟩, rfl⟩
 ·
  have h := app1 hkx106 (Hd hi106 (H3 hb))
  refine H4 ?_
  refine hK3 _ _ ?_
  obtain ⟨kj130, hkj130, h⟩ := Jf h
  refine Ht (fun j130 : (List G8) => kj130 j130 = some r) (fun j130 => [(1, .sc (.int .u32 covers)), (4, .ptr 1008 0), (5, .ptr 1009 0)]) (fun j130 => [(1013, .spare 65 2 s106.2.1.length s106.2.1.length), (1008, .box 35 [LS 12 G8.av ([] : List G8), LS 2 Cover.av ([] : List Cover), G2 0, G2 0, G2 0, G2 0, LS 5 Row.av ([] : List Row), LS 5 Frame.av ([] : List Frame), LS 6 Tank.av ([] : List Tank), G2 0, G2 0, G2 0, G2 0]), (1009, .box 35 [LS 12 G8.av j130, OW 1013 2 Cover.av s106.2.1, G2 s106.2.2.1, G2 s106.2.2.2.1, G2 s106.2.2.2.2.1, G2 s106.2.2.2.2.2.1, LS 5 Row.av s106.2.2.2.2.2.2.1, LS 5 Frame.av s106.2.2.2.2.2.2.2.1, LS 6 Tank.av s106.2.2.2.2.2.2.2.2.1, G2 s106.2.2.2.2.2.2.2.2.2.1, G2 s106.2.2.2.2.2.2.2.2.2.2.1, G2 s106.2.2.2.2.2.2.2.2.2.2.2.1, G2 s106.2.2.2.2.2.2.2.2.2.2.2.2])]) (fun Kj130 ej130 => ?_) ?_
  ·
   refine G6 fun K131 hK131 => G3 ?_
   refine G1 (u := .ptr 1009 0) (Hi Hb rfl rfl) ?_
   refine G1 (u := OW 1012 12 G8.av s106.1) (J5 Hm rfl rfl rfl rfl) ?_
   refine H9 (f := G8.av) (xs := s106.1) Ha rfl rfl (fun hm74 => ?_) rfl rfl rfl
   refine G1 (u := BL (decide ((s106.1.length : Int) = 0))) (Jb rfl rfl rfl) ?_
   refine G9 (hK131 _ _ ?_)
   refine Gm rfl (fun hb => ?_) (fun hb => ?_)
   ·
    replace h := bif_t hb h
    refine G3 ?_
    refine G1 (u := .agg [G2 0, G2 0, BL false, G2 3, G2 0, G2 500000000, G2 500000000, G2 0, LS 1 G2 ([] : List Int), G2 0, G2 0, G2 2000]) (Hn (cs := [G2 0, G2 0, BL false, G2 3, G2 0, G2 500000000, G2 500000000, G2 0, LS 1 G2 ([] : List Int), G2 0, G2 0, G2 2000]) [(0, 1), (1, 1), (2, 1), (3, 1), (4, 1), (5, 1), (6, 1), (7, 1), (8, 1), (9, 1), (10, 1), (11, 1)] [G2 0, G2 0, BL false, G2 0, G2 0, G2 0, G2 0, G2 0, LS 1 G2 ([] : List Int), G2 0, G2 0, G2 0] [.int .i64 0, .int .i64 0, .bool false, .int .i64 0, .int .i64 0, .int .i64 0, .int .i64 0, .int .i64 0, .slice none 0 0, .int .i64 0, .int .i64 0, .int .i64 0] tf_places_50 tf_zero_50 ⟨.inl rfl, .inl rfl, .inl rfl, .inl rfl, .inl rfl, .inl rfl, .inl rfl, .inl rfl, .inr ⟨_, rfl, rfl⟩, .inl rfl, .inl rfl, .inl rfl, trivial⟩ rfl rfl) ?_
    refine G1 (u := LS 12 G8.av ([(G8.mk 0 0 false 3 0 500000000 500000000 0 [] 0 0 2000)])) (H1 (xs := [.agg [G2 0, G2 0, BL false, G2 3, G2 0, G2 500000000, G2 500000000, G2 0, LS 1 G2 ([] : List Int), G2 0, G2 0, G2 2000]]) rfl ⟨rfl, rfl, trivial⟩ Ha Q1 rfl rfl rfl rfl) ?_
    refine G1 (u := .ptr 1009 0) (Hi Hb rfl rfl) ?_
    refine H6 (u := .junk) (Gz (u := LS 12 G8.av ([(G8.mk 0 0 false 3 0 500000000 500000000 0 [] 0 0 2000)])) (ds := [LS 12 G8.av ([(G8.mk 0 0 false 3 0 500000000 500000000 0 [] 0 0 2000)]), OW 1013 2 Cover.av s106.2.1, G2 s106.2.2.1, G2 s106.2.2.2.1, G2 s106.2.2.2.2.1, G2 s106.2.2.2.2.2.1, LS 5 Row.av s106.2.2.2.2.2.2.1, LS 5 Frame.av s106.2.2.2.2.2.2.2.1, LS 6 Tank.av s106.2.2.2.2.2.2.2.2.1, G2 s106.2.2.2.2.2.2.2.2.2.1, G2 s106.2.2.2.2.2.2.2.2.2.2.1, G2 s106.2.2.2.2.2.2.2.2.2.2.2.1, G2 s106.2.2.2.2.2.2.2.2.2.2.2.2]) tf_size_25 rfl rfl rfl rfl rfl rfl rfl rfl) ?_
    refine G9 ?_
    exact ej130 _ _ ([(G8.mk 0 0 false 3 0 500000000 500000000 0 [] 0 0 2000)]) h ⟨⟨.same rfl, .same rfl, .same rfl, trivial⟩, ⟨⟨_, rfl, .same⟩, ⟨_, rfl, .boxL rfl (by repeat' constructor)⟩, ⟨_, rfl, .boxL rfl (by repeat' constructor)⟩, trivial⟩, rfl⟩
   ·
    replace h := bif_f hb h
    refine Gp ?_
    exact ej130 _ _ s106.1 h ⟨⟨.same rfl, .same rfl, .same rfl, trivial⟩, ⟨⟨_, rfl, .same⟩, ⟨_, rfl, .boxL rfl (by repeat' constructor)⟩, ⟨_, rfl, .boxL rfl ⟨.list rfl, .same rfl, .same rfl, .same rfl, .same rfl, .same rfl, .same rfl, .same rfl, .same rfl, .same rfl, .same rfl, .same rfl, .same rfl, trivial⟩⟩, trivial⟩, rfl⟩
  ·intro j130 h
   replace h := app1 hkj130 h
   refine G6 (fun K132 hK132 => ?_)
   refine G6 fun K133 hK133 => G3 ?_
   refine G1 (u := G2 0) (Ga rfl rfl) ?_
   refine G9 (hK133 _ _ ?_)
   refine Gk ?_
   obtain ⟨hx200, h⟩ := He h
   obtain ⟨b200, kx200, hb200, hkx200, h⟩ := upto_in h
   refine H2 (fun i200 (s200 : (List G8) × (List Cover) × Int × Int × Int × Int × (List Row) × (List Frame) × (List Tank) × Int × Int × Int × Int) => upto b200 kx200 ((5 : Int).toNat - i200) i200 s200 = some r) (fun i200 s200 => [(1, .sc (.int .u32 covers)), (4, .ptr 1008 0), (5, .ptr 1009 0), (11, G2 (i200 : Int))]) (fun i200 s200 => [(1013, .spare 65 2 s200.2.1.length s200.2.1.length), (1008, .box 35 [LS 12 G8.av ([] : List G8), LS 2 Cover.av ([] : List Cover), G2 0, G2 0, G2 0, G2 0, LS 5 Row.av ([] : List Row), LS 5 Frame.av ([] : List Frame), LS 6 Tank.av ([] : List Tank), G2 0, G2 0, G2 0, G2 0]), (1009, .box 35 [LS 12 G8.av s200.1, OW 1013 2 Cover.av s200.2.1, G2 s200.2.2.1, G2 s200.2.2.2.1, G2 s200.2.2.2.2.1, G2 s200.2.2.2.2.2.1, LS 5 Row.av s200.2.2.2.2.2.2.1, LS 5 Frame.av s200.2.2.2.2.2.2.2.1, LS 6 Tank.av s200.2.2.2.2.2.2.2.2.1, G2 s200.2.2.2.2.2.2.2.2.2.1, G2 s200.2.2.2.2.2.2.2.2.2.2.1, G2 s200.2.2.2.2.2.2.2.2.2.2.2.1, G2 s200.2.2.2.2.2.2.2.2.2.2.2.2])]) (fun i200 => (5 : Int).toNat - i200) 0 (j130, s106.2.1, s106.2.2.1, s106.2.2.2.1, s106.2.2.2.2.1, s106.2.2.2.2.2.1, s106.2.2.2.2.2.2.1, s106.2.2.2.2.2.2.2.1, s106.2.2.2.2.2.2.2.2.1, s106.2.2.2.2.2.2.2.2.2.1, s106.2.2.2.2.2.2.2.2.2.2.1, s106.2.2.2.2.2.2.2.2.2.2.2.1, s106.2.2.2.2.2.2.2.2.2.2.2.2) h ⟨(by repeat' constructor), ⟨⟨_, rfl, .same⟩, ⟨_, rfl, .boxL rfl (by repeat' constructor)⟩, ⟨_, rfl, .boxL rfl (by repeat' constructor)⟩, trivial⟩, rfl⟩ ?_
   clear h
   intro i200 s200 hi200 K200 e200
   refine G6 (fun K201 hK201 => ?_)
   refine G6 fun K202 hK202 => G3 ?_
   refine G1 (u := G2 (i200 : Int)) (G5 rfl rfl) ?_
   refine G1 (u := BL (decide ((i200 : Int) < 5))) (Hg rfl rfl rfl) ?_
   refine G9 (hK202 _ _ ?_)
   refine Gm rfl (fun hb => ?_) (fun hb => ?_)
   ·
    have hk200 := lt_toNat hb
    obtain ⟨nx200, hn200, h⟩ := upto_out hi200 hk200
    replace h := app3 hb200 h
    refine Gp ?_
    refine hK201 _ _ ?_
    obtain ⟨kj203, hkj203, h⟩ := Jf h
    refine Ht (fun j203 : (List Cover) => kj203 j203 = some r) (fun j203 => [(1, .sc (.int .u32 covers)), (4, .ptr 1008 0), (5, .ptr 1009 0), (11, G2 (i200 : Int))]) (fun j203 => [(1013, .spare 65 2 j203.length j203.length), (1008, .box 35 [LS 12 G8.av ([] : List G8), LS 2 Cover.av ([] : List Cover), G2 0, G2 0, G2 0, G2 0, LS 5 Row.av ([] : List Row), LS 5 Frame.av ([] : List Frame), LS 6 Tank.av ([] : List Tank), G2 0, G2 0, G2 0, G2 0]), (1009, .box 35 [LS 12 G8.av s200.1, OW 1013 2 Cover.av j203, G2 s200.2.2.1, G2 s200.2.2.2.1, G2 s200.2.2.2.2.1, G2 s200.2.2.2.2.2.1, LS 5 Row.av s200.2.2.2.2.2.2.1, LS 5 Frame.av s200.2.2.2.2.2.2.2.1, LS 6 Tank.av s200.2.2.2.2.2.2.2.2.1, G2 s200.2.2.2.2.2.2.2.2.2.1, G2 s200.2.2.2.2.2.2.2.2.2.2.1, G2 s200.2.2.2.2.2.2.2.2.2.2.2.1, G2 s200.2.2.2.2.2.2.2.2.2.2.2.2])]) (fun Kj203 ej203 => ?_) ?_
    ·
     refine Gk ?_
     obtain ⟨kj204, hkj204, h⟩ := Jf h
     refine Ht (fun j204 : (List Cover) => kj204 j204 = some r) (fun j204 => [(1, .sc (.int .u32 covers)), (4, .ptr 1008 0), (5, .ptr 1009 0), (11, G2 (i200 : Int))]) (fun j204 => [(1013, .spare 65 2 j204.length j204.length), (1008, .box 35 [LS 12 G8.av ([] : List G8), LS 2 Cover.av ([] : List Cover), G2 0, G2 0, G2 0, G2 0, LS 5 Row.av ([] : List Row), LS 5 Frame.av ([] : List Frame), LS 6 Tank.av ([] : List Tank), G2 0, G2 0, G2 0, G2 0]), (1009, .box 35 [LS 12 G8.av s200.1, OW 1013 2 Cover.av j204, G2 s200.2.2.1, G2 s200.2.2.2.1, G2 s200.2.2.2.2.1, G2 s200.2.2.2.2.2.1, LS 5 Row.av s200.2.2.2.2.2.2.1, LS 5 Frame.av s200.2.2.2.2.2.2.2.1, LS 6 Tank.av s200.2.2.2.2.2.2.2.2.1, G2 s200.2.2.2.2.2.2.2.2.2.1, G2 s200.2.2.2.2.2.2.2.2.2.2.1, G2 s200.2.2.2.2.2.2.2.2.2.2.2.1, G2 s200.2.2.2.2.2.2.2.2.2.2.2.2])]) (fun Kj204 ej204 => ?_) ?_
     ·
      refine G6 fun K205 hK205 => G3 ?_
      refine G1 (u := .sc (.int .u32 covers)) (G5 rfl rfl) ?_
      refine G1 (u := G2 (i200 : Int)) (G5 rfl rfl) ?_
      obtain ⟨v206, hv206, h⟩ := Gy h
      refine G1 (u := G2 v206) (A_mul hv206 rfl rfl rfl) ?_
      obtain ⟨m207, hm207, h⟩ := Gg h
      refine G1 (u := .sc (.int .u32 (shrN .u32 covers m207))) (A_shrM (s := m207) (natIn_out hm207).1 rfl rfl rfl) ?_
      refine G1 (u := .sc (.int .u32 (band .u32 (shrN .u32 covers m207) 1))) (A_band rfl rfl rfl) ?_
      refine G1 (u := BL (decide ((band .u32 (shrN .u32 covers m207) 1) = 1))) (Jb rfl rfl rfl) ?_
      refine G9 (hK205 _ _ ?_)
      refine Gm rfl (fun hb => ?_) (fun hb => ?_)
      ·
       replace h := bif_t hb h
       refine G3 ?_
       refine G1 (u := .ptr 1009 1) (Hi tf_field_35_1 rfl rfl) ?_
       refine G1 (u := OW 1013 2 Cover.av s200.2.1) (J5 tf_scalar_26 rfl rfl rfl rfl) ?_
       refine G1 (u := G2 (i200 : Int)) (G5 rfl rfl) ?_
       refine G1 (u := LS 1 G2 [0, 1]) (H1 (xs := [G2 0, G2 1]) rfl ⟨rfl, rfl, rfl, rfl, trivial⟩ Gr tf_zsize_3 rfl rfl rfl rfl) ?_
       refine G1 (u := .agg [G2 (i200 : Int), LS 1 G2 [0, 1]]) (Hn (cs := [G2 (i200 : Int), LS 1 G2 [0, 1]]) [(0, 1), (1, 1)] [G2 0, LS 1 G2 ([] : List Int)] [.int .i64 0, .slice none 0 0] tf_places_65 tf_zero_65 ⟨.inl rfl, .inr ⟨_, rfl, rfl⟩, trivial⟩ rfl rfl) ?_
       refine G1 (u := LS 2 Cover.av ([(Cover.mk (i200 : Int) [0, 1])])) (H1 (xs := [.agg [G2 (i200 : Int), LS 1 G2 [0, 1]]]) rfl ⟨rfl, rfl, trivial⟩ tf_slice_26 tf_zsize_65 rfl rfl rfl rfl) ?_
       obtain ⟨ha208, h⟩ := He h
       refine G1 (u := OW 1013 2 Cover.av (s200.2.1 ++ [(Cover.mk (i200 : Int) [0, 1])])) (Hs (f := Cover.av) (xs := s200.2.1) (ys := [(Cover.mk (i200 : Int) [0, 1])]) rfl rfl rfl rfl tf_slice_26 tf_elem_65 ha208 (fun _ => rfl) (.inl rfl) rfl) ?_
       refine G1 (u := .ptr 1009 1) (Hi tf_field_35_1 rfl rfl) ?_
       refine H6 (u := .junk) (Gz (u := OW 1013 2 Cover.av (s200.2.1 ++ [(Cover.mk (i200 : Int) [0, 1])])) (ds := [LS 12 G8.av s200.1, OW 1013 2 Cover.av (s200.2.1 ++ [(Cover.mk (i200 : Int) [0, 1])]), G2 s200.2.2.1, G2 s200.2.2.2.1, G2 s200.2.2.2.2.1, G2 s200.2.2.2.2.2.1, LS 5 Row.av s200.2.2.2.2.2.2.1, LS 5 Frame.av s200.2.2.2.2.2.2.2.1, LS 6 Tank.av s200.2.2.2.2.2.2.2.2.1, G2 s200.2.2.2.2.2.2.2.2.2.1, G2 s200.2.2.2.2.2.2.2.2.2.2.1, G2 s200.2.2.2.2.2.2.2.2.2.2.2.1, G2 s200.2.2.2.2.2.2.2.2.2.2.2.2]) tf_size_26 rfl rfl rfl rfl rfl rfl rfl rfl) ?_
       refine G9 ?_
       exact ej204 _ _ (s200.2.1 ++ [(Cover.mk (i200 : Int) [0, 1])]) h ⟨(by repeat' constructor), ⟨⟨_, rfl, .same⟩, ⟨_, rfl, .boxL rfl (by repeat' constructor)⟩, ⟨_, rfl, .boxL rfl (by repeat' constructor)⟩, trivial⟩, rfl⟩
      ·
       replace h := bif_f hb h
       refine Gp ?_
       exact ej204 _ _ s200.2.1 h ⟨(by repeat' constructor), ⟨⟨_, rfl, .same⟩, ⟨_, rfl, .boxL rfl (by repeat' constructor)⟩, ⟨_, rfl, .boxL rfl (by repeat' constructor)⟩, trivial⟩, rfl⟩
     ·intro j204 h
      replace h := app1 hkj204 h
      refine G6 fun K209 hK209 => G3 ?_
      refine G1 (u := .sc (.int .u32 covers)) (G5 rfl rfl) ?_
      refine G1 (u := G2 (i200 : Int)) (G5 rfl rfl) ?_
      obtain ⟨v210, hv210, h⟩ := Gy h
      refine G1 (u := G2 v210) (A_mul hv210 rfl rfl rfl) ?_
      obtain ⟨v211, hv211, h⟩ := Gy h
      refine G1 (u := G2 v211) (H7 hv211 rfl rfl rfl) ?_
      obtain ⟨m212, hm212, h⟩ := Gg h
      refine G1 (u := .sc (.int .u32 (shrN .u32 covers m212))) (A_shrM (s := m212) (natIn_out hm212).1 rfl rfl rfl) ?_
      refine G1 (u := .sc (.int .u32 (band .u32 (shrN .u32 covers m212) 1))) (A_band rfl rfl rfl) ?_
      refine G1 (u := BL (decide ((band .u32 (shrN .u32 covers m212) 1) = 1))) (Jb rfl rfl rfl) ?_
      refine G9 (hK209 _ _ ?_)
      refine Gm rfl (fun hb => ?_) (fun hb => ?_)
      ·
       replace h := bif_t hb h
       refine G3 ?_
       refine G1 (u := .ptr 1009 1) (Hi tf_field_35_1 rfl rfl) ?_
       refine G1 (u := OW 1013 2 Cover.av j204) (J5 tf_scalar_26 rfl rfl rfl rfl) ?_
       refine G1 (u := G2 (i200 : Int)) (G5 rfl rfl) ?_
       refine G1 (u := LS 1 G2 [2, 3, 4]) (H1 (xs := [G2 2, G2 3, G2 4]) rfl ⟨rfl, rfl, rfl, rfl, rfl, rfl, trivial⟩ Gr tf_zsize_3 rfl rfl rfl rfl) ?_
       refine G1 (u := .agg [G2 (i200 : Int), LS 1 G2 [2, 3, 4]]) (Hn (cs := [G2 (i200 : Int), LS 1 G2 [2, 3, 4]]) [(0, 1), (1, 1)] [G2 0, LS 1 G2 ([] : List Int)] [.int .i64 0, .slice none 0 0] tf_places_65 tf_zero_65 ⟨.inl rfl, .inr ⟨_, rfl, rfl⟩, trivial⟩ rfl rfl) ?_
       refine G1 (u := LS 2 Cover.av ([(Cover.mk (i200 : Int) [2, 3, 4])])) (H1 (xs := [.agg [G2 (i200 : Int), LS 1 G2 [2, 3, 4]]]) rfl ⟨rfl, rfl, trivial⟩ tf_slice_26 tf_zsize_65 rfl rfl rfl rfl) ?_
       obtain ⟨ha213, h⟩ := He h
       refine G1 (u := OW 1013 2 Cover.av (j204 ++ [(Cover.mk (i200 : Int) [2, 3, 4])])) (Hs (f := Cover.av) (xs := j204) (ys := [(Cover.mk (i200 : Int) [2, 3, 4])]) rfl rfl rfl rfl tf_slice_26 tf_elem_65 ha213 (fun _ => rfl) (.inl rfl) rfl) ?_
       refine G1 (u := .ptr 1009 1) (Hi tf_field_35_1 rfl rfl) ?_
       refine H6 (u := .junk) (Gz (u := OW 1013 2 Cover.av (j204 ++ [(Cover.mk (i200 : Int) [2, 3, 4])])) (ds := [LS 12 G8.av s200.1, OW 1013 2 Cover.av (j204 ++ [(Cover.mk (i200 : Int) [2, 3, 4])]), G2 s200.2.2.1, G2 s200.2.2.2.1, G2 s200.2.2.2.2.1, G2 s200.2.2.2.2.2.1, LS 5 Row.av s200.2.2.2.2.2.2.1, LS 5 Frame.av s200.2.2.2.2.2.2.2.1, LS 6 Tank.av s200.2.2.2.2.2.2.2.2.1, G2 s200.2.2.2.2.2.2.2.2.2.1, G2 s200.2.2.2.2.2.2.2.2.2.2.1, G2 s200.2.2.2.2.2.2.2.2.2.2.2.1, G2 s200.2.2.2.2.2.2.2.2.2.2.2.2]) tf_size_26 rfl rfl rfl rfl rfl rfl rfl rfl) ?_
       refine G9 ?_
       exact ej203 _ _ (j204 ++ [(Cover.mk (i200 : Int) [2, 3, 4])]) h ⟨(by repeat' constructor), ⟨⟨_, rfl, .same⟩, ⟨_, rfl, .boxL rfl (by repeat' constructor)⟩, ⟨_, rfl, .boxL rfl (by repeat' constructor)⟩, trivial⟩, rfl⟩
      ·
       replace h := bif_f hb h
       refine Gp ?_
       exact ej203 _ _ j204 h ⟨(by repeat' constructor), ⟨⟨_, rfl, .same⟩, ⟨_, rfl, .boxL rfl (by repeat' constructor)⟩, ⟨_, rfl, .boxL rfl (by repeat' constructor)⟩, trivial⟩, rfl⟩
    ·intro j203 h
     replace h := app1 hkj203 h
     refine G3 ?_
     refine G1 (u := G2 (i200 : Int)) (G5 rfl rfl) ?_
     refine G1 (u := G2 ((i200 + 1 : Nat) : Int)) (H7 (idx_succ hk200 (toNat_max hx200)) rfl rfl rfl) ?_
     refine G1 (u := G2 ((i200 + 1 : Nat) : Int)) (Ga rfl rfl) ?_
     refine G9 ?_
     exact e200 _ _ (i200 + 1) (s200.1, j203, s200.2.2.1, s200.2.2.2.1, s200.2.2.2.2.1, s200.2.2.2.2.2.1, s200.2.2.2.2.2.2.1, s200.2.2.2.2.2.2.2.1, s200.2.2.2.2.2.2.2.2.1, s200.2.2.2.2.2.2.2.2.2.1, s200.2.2.2.2.2.2.2.2.2.2.1, s200.2.2.2.2.2.2.2.2.2.2.2.1, s200.2.2.2.2.2.2.2.2.2.2.2.2) (app1 hn200 h) (by omega) ⟨(by repeat' constructor), ⟨⟨_, rfl, .same⟩, ⟨_, rfl, .boxL rfl (by repeat' constructor)⟩, ⟨_, rfl, .boxL rfl (by repeat' constructor)⟩, trivial⟩, rfl⟩
   ·
    have h := app1 hkx200 (upto_nil hi200 (not_lt_toNat hb))
    refine H4 ?_
    refine hK132 _ _ ?_
    refine G6 fun K214 hK214 => G3 ?_
    refine G1 (u := .agg [LS 12 G8.av s200.1, OW 1013 2 Cover.av s200.2.1, G2 s200.2.2.1, G2 s200.2.2.2.1, G2 s200.2.2.2.2.1, G2 s200.2.2.2.2.2.1, LS 5 Row.av s200.2.2.2.2.2.2.1, LS 5 Frame.av s200.2.2.2.2.2.2.2.1, LS 6 Tank.av s200.2.2.2.2.2.2.2.2.1, G2 s200.2.2.2.2.2.2.2.2.2.1, G2 s200.2.2.2.2.2.2.2.2.2.2.1, G2 s200.2.2.2.2.2.2.2.2.2.2.2.1, G2 s200.2.2.2.2.2.2.2.2.2.2.2.2]) (A_loadAggL Hh rfl rfl rfl rfl) ?_
    refine H6 (u := .junk) (Gz (u := .agg [LS 12 G8.av s200.1, OW 1013 2 Cover.av s200.2.1, G2 s200.2.2.1, G2 s200.2.2.2.1, G2 s200.2.2.2.2.1, G2 s200.2.2.2.2.2.1, LS 5 Row.av s200.2.2.2.2.2.2.1, LS 5 Frame.av s200.2.2.2.2.2.2.2.1, LS 6 Tank.av s200.2.2.2.2.2.2.2.2.1, G2 s200.2.2.2.2.2.2.2.2.2.1, G2 s200.2.2.2.2.2.2.2.2.2.2.1, G2 s200.2.2.2.2.2.2.2.2.2.2.2.1, G2 s200.2.2.2.2.2.2.2.2.2.2.2.2]) (ds := [LS 12 G8.av s200.1, OW 1013 2 Cover.av s200.2.1, G2 s200.2.2.1, G2 s200.2.2.2.1, G2 s200.2.2.2.2.1, G2 s200.2.2.2.2.2.1, LS 5 Row.av s200.2.2.2.2.2.2.1, LS 5 Frame.av s200.2.2.2.2.2.2.2.1, LS 6 Tank.av s200.2.2.2.2.2.2.2.2.1, G2 s200.2.2.2.2.2.2.2.2.2.1, G2 s200.2.2.2.2.2.2.2.2.2.2.1, G2 s200.2.2.2.2.2.2.2.2.2.2.2.1, G2 s200.2.2.2.2.2.2.2.2.2.2.2.2]) tf_size_35 rfl rfl rfl rfl rfl rfl rfl rfl) ?_
    refine G9 (hK214 _ _ ?_)
    refine Gt ?_
    exact ⟨[.agg [LS 12 G8.av s200.1, LS 2 Cover.av s200.2.1, G2 s200.2.2.1, G2 s200.2.2.2.1, G2 s200.2.2.2.2.1, G2 s200.2.2.2.2.2.1, LS 5 Row.av s200.2.2.2.2.2.2.1, LS 5 Frame.av s200.2.2.2.2.2.2.2.1, LS 6 Tank.av s200.2.2.2.2.2.2.2.2.1, G2 s200.2.2.2.2.2.2.2.2.2.1, G2 s200.2.2.2.2.2.2.2.2.2.2.1, G2 s200.2.2.2.2.2.2.2.2.2.2.2.1, G2 s200.2.2.2.2.2.2.2.2.2.2.2.2]], [], trivial, rfl, ⟨⟨_, ⟨_, _, _, _, rfl, rfl, rfl, .inl ⟨Hh, rfl⟩⟩, .agg ⟨.same rfl, .list rfl, .same rfl, .same rfl, .same rfl, .same rfl, .same rfl, .same rfl, .same rfl, .same rfl, .same rfl, .same rfl, .same rfl, trivial⟩⟩, trivial⟩, rfl, congrArg (fun r : Ship => (.agg (Ship.cs r) : AV)) (Option.some.inj h)⟩
end
end Go.Proofs.Ytlhfflmknlfafaa
