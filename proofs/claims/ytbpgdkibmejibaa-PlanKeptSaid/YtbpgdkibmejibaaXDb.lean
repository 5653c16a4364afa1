/-
 Models of functions of the program, and that they return what the models say.
-/
import Derived.Test.YtbpgdkibmejibaaProg
import Derived.Test.YtbpgdkibmejibaaSortM
import Derived.Test.YtbpgdkibmejibaaSortLay
import Derived.Test.YtbpgdkibmejibaaRel
import Derived.Test.YtbpgdkibmejibaaLit0
import Derived.Test.YtbpgdkibmejibaaXA
import Derived.Test.YtbpgdkibmejibaaSpecA
import Derived.Test.YtbpgdkibmejibaaSpecI
import Derived.Test.YtbpgdkibmejibaaXDa
set_option maxRecDepth 100000
set_option linter.unusedVariables false
set_option linter.unusedSimpArgs false
namespace Go.Proofs.Ytbpgdkibmejibaa
open Go.RowKit
noncomputable section
open XAF
open XDF

def M_slot_All (s : Ship) (size : Int) : Option (List Slot) :=
 bnd (M_slot_slots s size) fun r5 =>
 bnd (S_slot_slots_1 s size) fun ys8 =>
 each (fun y8 i8 (s8 : (List Slot)) nx8 =>
  need (decide ((s8.length + [y8].length) * 24 ≤ 140737488355328 ∧ s8.length + [y8].length ≤ maxLen)) <|
  nx8 (s8 ++ [y8]))
 (fun (s8 : (List Slot)) =>
  some s8) ys8 0 []
theorem M_slot_All_w (s : Ship) (size : Int) (r : (List Slot)) (h : M_slot_All s size = some r) : Pure Try.prog 18 [.agg [LS 12 Column.av s.Columns, LS 2 Cover.av s.Covers, I64 s.Light.Kilos, I64 s.Light.X, I64 s.Light.Y, I64 s.Light.Z, LS 5 Row.av s.Rows, LS 5 Frame.av s.Frames, LS 6 Tank.av s.Tanks, I64 s.Limits.Tolerance, I64 s.Limits.Trim, I64 s.Limits.List_, I64 s.Limits.Stability], U8 size] (· = LS 3 Slot.av r) := by
 unfold M_slot_All at h
 refine Pure_ofG [.tmp 4] Try.func18 rfl rfl ?_
 refine Js fun K1 hK1 => Jr ?_
 refine Jg (u := .ptr 1036 0) (A_box (u := .agg [LS 12 Column.av s.Columns, LS 2 Cover.av s.Covers, I64 s.Light.Kilos, I64 s.Light.X, I64 s.Light.Y, I64 s.Light.Z, LS 5 Row.av s.Rows, LS 5 Frame.av s.Frames, LS 6 Tank.av s.Tanks, I64 s.Limits.Tolerance, I64 s.Limits.Trim, I64 s.Limits.List_, I64 s.Limits.Stability]) (cs := [LS 12 Column.av s.Columns, LS 2 Cover.av s.Covers, I64 s.Light.Kilos, I64 s.Light.X, I64 s.Light.Y, I64 s.Light.Z, LS 5 Row.av s.Rows, LS 5 Frame.av s.Frames, LS 6 Tank.av s.Tanks, I64 s.Limits.Tolerance, I64 s.Limits.Trim, I64 s.Limits.List_, I64 s.Limits.Stability]) 1036 rfl rfl rfl rfl rfl) ?_ rfl rfl rfl
 refine Jg (u := LS 3 Slot.av ([] : List Slot)) (A_nilList 3 rfl rfl) ?_ rfl rfl rfl
 refine Jn (hK1 _ _ ?_)
 refine JC_freeze [(1, U8 size), (2, .dptr [LS 12 Column.av s.Columns, LS 2 Cover.av s.Covers, I64 s.Light.Kilos, I64 s.Light.X, I64 s.Light.Y, I64 s.Light.Z, LS 5 Row.av s.Rows, LS 5 Frame.av s.Frames, LS 6 Tank.av s.Tanks, I64 s.Limits.Tolerance, I64 s.Limits.Trim, I64 s.Limits.List_, I64 s.Limits.Stability])] [] 1036 rfl rfl rfl trivial rfl (by exact ⟨.conv (.same rfl), .ptr, trivial⟩) ?_
 refine Js fun K2 hK2 => Jr ?_
 refine Jg (u := .ptr 1037 0) (A_allocZ 1037 [.sc (.slice none 0 0)] [.slice none 0 0] tf_zero_77 ⟨.inl rfl, trivial⟩ rfl rfl) ?_ rfl rfl rfl
 refine JL_ownCell 1037 0 1039 80 3 rfl rfl rfl (cs' := [OW 1039 3 Slot.av ([] : List Slot)]) rfl ?_
 refine Jn (hK2 _ _ ?_)
 refine Js (fun K3 hK3 => ?_)
 refine Js fun K4 hK4 => Jr ?_
 refine Jg (u := .agg [LS 12 Column.av s.Columns, LS 2 Cover.av s.Covers, I64 s.Light.Kilos, I64 s.Light.X, I64 s.Light.Y, I64 s.Light.Z, LS 5 Row.av s.Rows, LS 5 Frame.av s.Frames, LS 6 Tank.av s.Tanks, I64 s.Limits.Tolerance, I64 s.Limits.Trim, I64 s.Limits.List_, I64 s.Limits.Stability]) (A_loadAgg tf_agg_35 rfl rfl rfl) ?_ rfl rfl rfl
 refine Jg (u := U8 size) (Am rfl rfl) ?_ rfl rfl rfl
 obtain ⟨r5, hr5, h⟩ := bnd_out h
 refine Jg (u := .fn 55 [.dptr [LS 12 Column.av s.Columns, LS 2 Cover.av s.Covers, I64 s.Light.Kilos, I64 s.Light.X, I64 s.Light.Y, I64 s.Light.Z, LS 5 Row.av s.Rows, LS 5 Frame.av s.Frames, LS 6 Tank.av s.Tanks, I64 s.Limits.Tolerance, I64 s.Limits.Trim, I64 s.Limits.List_, I64 s.Limits.Stability], .dptr [U8 size]]) (A_call1 (args := [.agg [LS 12 Column.av s.Columns, LS 2 Cover.av s.Covers, I64 s.Light.Kilos, I64 s.Light.X, I64 s.Light.Y, I64 s.Light.Z, LS 5 Row.av s.Rows, LS 5 Frame.av s.Frames, LS 6 Tank.av s.Tanks, I64 s.Limits.Tolerance, I64 s.Limits.Trim, I64 s.Limits.List_, I64 s.Limits.Stability], U8 size]) rfl (M_slot_slots_w s size r5 hr5) tf_call_34 ⟨rfl, rfl, rfl, rfl, trivial⟩) ?_ rfl rfl rfl
 refine Jn (hK4 _ _ ?_)
 refine JC_block ?_
 obtain ⟨ys8, hy_8, h⟩ := bnd_out h
 obtain ⟨b8, kx8, hb8, hkx8, h⟩ := each_in h
 refine JC_rangeFunc (ps := [10]) [(5, .ptr 1037 0), (9, .fn 55 [.dptr [LS 12 Column.av s.Columns, LS 2 Cover.av s.Covers, I64 s.Light.Kilos, I64 s.Light.X, I64 s.Light.Y, I64 s.Light.Z, LS 5 Row.av s.Rows, LS 5 Frame.av s.Frames, LS 6 Tank.av s.Tanks, I64 s.Limits.Tolerance, I64 s.Limits.Trim, I64 s.Limits.List_, I64 s.Limits.Stability], .dptr [U8 size]])] (ys8.map (fun y : Slot => [.agg [I64 y.Column, I64 y.Tier, U8 y.Half]])) (fun i8 (s8 : (List Slot)) => each b8 kx8 (List.drop i8 ys8) i8 s8 = some r) (fun s8 => [(1039, .spare 80 3 s8.length s8.length), (1037, .box 77 [OW 1039 3 Slot.av s8])]) [] rfl rfl rfl tf_call_55 (S_slot_slots_1_w.down s size ys8 hy_8) h ⟨⟨.same rfl, .same rfl, trivial⟩, ⟨⟨_, rfl, .same⟩, ⟨_, rfl, .boxL rfl ⟨.same rfl, trivial⟩⟩, trivial⟩, rfl⟩ rfl (fun us_ hus_ => by obtain ⟨_, _, rfl⟩ := List.mem_map.1 hus_; rfl) (fun p_ hp_ => Nat.blt_eq.mp (by revert p_; decide)) (fun _ => ⟨.same rfl, .same rfl, trivial⟩) (fun _ => rfl) ?_ ?_
 ·
  intro i8 us_ s8 hu_ hi8 lr_ K8 e8
  obtain ⟨hk8, rfl⟩ := mapf_at hu_
  obtain ⟨y8, nx8, hy8, hn8, h⟩ := each_out hi8 hk8
  replace h := app4 hb8 h
  obtain ⟨_, rfl⟩ := List.getElem?_eq_some_iff.1 hy8
  generalize ys8[i8] = y8 at h ⊢
  change JC _ _ _ _ [(10, .agg [I64 y8.Column, I64 y8.Tier, U8 y8.Half]), (5, .ptr 1037 0), (9, .fn 55 [.dptr [LS 12 Column.av s.Columns, LS 2 Cover.av s.Covers, I64 s.Light.Kilos, I64 s.Light.X, I64 s.Light.Y, I64 s.Light.Z, LS 5 Row.av s.Rows, LS 5 Frame.av s.Frames, LS 6 Tank.av s.Tanks, I64 s.Limits.Tolerance, I64 s.Limits.Trim, I64 s.Limits.List_, I64 s.Limits.Stability], .dptr [U8 size]])] [(1039, .spare 80 3 s8.length s8.length), (1037, .box 77 [OW 1039 3 Slot.av s8])]
  refine Jr ?_
  refine Jg (u := .ptr 1038 0) (A_allocJ 1038 3 tf_zsize_80 rfl rfl) ?_ rfl rfl rfl
  refine JL_go0 (u := .junk) (A_store (u := .agg [I64 y8.Column, I64 y8.Tier, U8 y8.Half]) (ds := [I64 y8.Column, I64 y8.Tier, U8 y8.Half]) tf_size_80 rfl rfl rfl rfl rfl rfl rfl rfl) ?_ rfl rfl
  refine Jn ?_
  refine Mid_freeze [(5, .ptr 1037 0), (6, .dptr [I64 y8.Column, I64 y8.Tier, U8 y8.Half])] [(1039, .spare 80 3 s8.length s8.length), (1037, .box 77 [OW 1039 3 Slot.av s8])] 1038 rfl rfl rfl ⟨⟨_, rfl, .same⟩, ⟨_, rfl, .boxEq rfl rfl⟩, trivial⟩ rfl (by exact ⟨.conv (.same rfl), .ptr, trivial⟩) ?_
  refine Mid_go ?_
  refine JC_block ?_
  refine Jr ?_
  refine Jg (u := OW 1039 3 Slot.av s8) (A_loadL tf_scalar_77 rfl rfl rfl rfl) ?_ rfl rfl rfl
  refine Jg (u := .agg [I64 y8.Column, I64 y8.Tier, U8 y8.Half]) (A_loadAgg tf_agg_80 rfl rfl rfl) ?_ rfl rfl rfl
  refine Jg (u := LS 3 Slot.av [y8]) (A_buildSlice (xs := [.agg [I64 y8.Column, I64 y8.Tier, U8 y8.Half]]) rfl ⟨rfl, rfl, trivial⟩ tf_slice_77 tf_zsize_80 rfl rfl rfl rfl) ?_ rfl rfl rfl
  obtain ⟨ha9, h⟩ := need_out h
  refine Jg (u := OW 1039 3 Slot.av (s8 ++ [y8])) (A_appendM (f := Slot.av) (xs := s8) (ys := [y8]) rfl rfl rfl rfl tf_slice_77 tf_elem_80 ha9 (fun _ => rfl) (.inl rfl) rfl) ?_ rfl rfl rfl
  refine JL_go0 (u := .junk) (A_store (u := OW 1039 3 Slot.av (s8 ++ [y8])) (ds := [OW 1039 3 Slot.av (s8 ++ [y8])]) tf_size_77 rfl rfl rfl rfl rfl rfl rfl rfl) ?_ rfl rfl
  refine Jn ?_
  exact e8 _ _ (s8 ++ [y8]) (app1 hn8 h) ⟨trivial, ⟨⟨_, rfl, .same⟩, ⟨_, rfl, .boxL rfl ⟨.same rfl, trivial⟩⟩, trivial⟩, rfl⟩
 ·
  intro s8 h
  rw [List.length_map] at h
  replace h := app1 hkx8 (each_nil h (Nat.lt_irrefl _))
  refine hK3 _ _ ?_
  refine Js fun K10 hK10 => Jr ?_
  refine Jg (u := OW 1039 3 Slot.av s8) (A_loadL tf_scalar_77 rfl rfl rfl rfl) ?_ rfl rfl rfl
  refine Jg (u := OW 1039 3 Slot.av s8) (Aa rfl rfl) ?_ rfl rfl rfl
  refine Jn (hK10 _ _ ?_)
  refine JC_fits (l' := [(4, LS 3 Slot.av s8)]) (L' := [(1037, .box 77 [LS 3 Slot.av s8])]) ⟨⟨.list rfl, trivial⟩, ⟨⟨_, rfl, .boxL rfl ⟨.list rfl, trivial⟩⟩, trivial⟩, rfl⟩ ?_
  refine JC_freeze [(4, LS 3 Slot.av s8)] [] 1037 rfl rfl rfl trivial rfl (by exact ⟨.conv (.same rfl), trivial⟩) ?_
  refine JC_ret ?_
  exact ⟨[LS 3 Slot.av s8], [], trivial, rfl, ⟨⟨_, rfl, .conv (.same rfl)⟩, trivial⟩, rfl, congrArg (fun r : (List Slot) => (LS 3 Slot.av r : AV)) (Option.some.inj h)⟩

def M_twistlocklaw23_voyage (F : Nat) (s : Ship) (boxes : List Box) (home : AMap Int Int) (calls : Int) : Option (Plan × Int × (AMap Int Int)) :=
 need (decide (calls ≤ 9223372036854775807)) <|
 upto (fun i6 (s6 : (List (List Stowed)) × (List (List Int)) × (AMap Int Slot)) nx6 =>
  need (decide (10 ≤ 9223372036854775807)) <|
  upto (fun i13 (s13 : (List Stowed)) nx13 =>
   each (fun y42 i42 (s42 : (List Stowed)) nx42 =>
    jp (fun kj45 =>
     bnd (some (AMap.get s6.2.2 y42.ID (Slot.mk 0 0 0))) fun v48 =>
     bif ((((AMap.has s6.2.2 y42.ID) && (decide (v48.Tier = (i13 : Int)))) && (decide (y42.Load < (i6 : Int)))) && (decide ((i6 : Int) < y42.Discharge))) then
     (bnd (M_twistlocklaw23_with s42 (Stowed.mk y42.ID v48)) fun r51 =>
      bnd (M_stow_Right s boxes r51) fun r53 =>
      bif r53 then
      (kj45 r51)
      else
      (kj45 s42))
     else
     (kj45 s42)) fun (j45 : (List Stowed)) =>
    nx42 j45)
   (fun (s42 : (List Stowed)) =>
    nx13 s42) boxes 0 s13)
  (fun (s13 : (List Stowed)) =>
   each (fun y56 i56 (s56 : (List Stowed)) nx56 =>
    jp (fun kj59 =>
     bnd (bif (!((decide ((i6 : Int) < y56.Load)) || (decide (y56.Discharge ≤ (i6 : Int))))) then M_twistlocklaw23_holds s56 y56.ID else some default) fun r63 =>
     bif (((decide ((i6 : Int) < y56.Load)) || (decide (y56.Discharge ≤ (i6 : Int)))) || r63) then
     (kj59 s56)
     else
     (loop (fun nx67 (s67 : (List Stowed) × Bool × Int) =>
       bif ((decide (s67.2.2 < (s.Columns.length : Int))) && (!s67.2.1)) then
       (jp (fun kj70 =>
         bnd (M_slot_All s y56.Size) fun r72 =>
         each (fun y99 i99 (s99 : (List Stowed) × Bool) nx99 =>
          bnd (M_twistlocklaw23_with s99.1 (Stowed.mk y56.ID y99)) fun r105 =>
          bnd (some (AMap.get home y56.ID 0)) fun v107 =>
          chk (v107 + s67.2.2) fun v108 =>
          bnd (rem64 v108 (s.Columns.length : Int)) fun v109 =>
          bnd (bif decide (y99.Column = v109) then M_stow_Right s boxes r105 else some default) fun r110 =>
          bif ((decide (y99.Column = v109)) && r110) then
          (kj70 (r105, true))
          else
          (nx99 (s99.1, s99.2)))
         (fun (s99 : (List Stowed) × Bool) =>
          kj70 (s99.1, s99.2)) r72 0 (s67.1, s67.2.1)) fun (j70 : (List Stowed) × Bool) =>
        chk (s67.2.2 + 1) fun v112 =>
        nx67 (j70.1, j70.2, v112))
       else
       (bif (!s67.2.1) then
        (some ((Plan.mk [] []), y56.ID, home))
        else
        (kj59 s67.1))) F (s56, false, 0))) fun (j59 : (List Stowed)) =>
    nx56 j59)
   (fun (s56 : (List Stowed)) =>
    each (fun y138 i138 (s138 : (AMap Int Slot)) nx138 =>
     nx138 (AMap.put s138 y138.Box y138.Slot))
    (fun (s138 : (AMap Int Slot)) =>
     need (decide ((s6.1.length + [s56].length) * 24 ≤ 140737488355328 ∧ s6.1.length + [s56].length ≤ maxLen)) <|
     nx6 ((s6.1 ++ [s56]), s6.2.1, s138)) s56 0 (AMap.empty : AMap Int Slot)) boxes 0 s13) (10 : Int).toNat 0 [])
 (fun (s6 : (List (List Stowed)) × (List (List Int)) × (AMap Int Slot)) =>
  some ((Plan.mk s6.1 s6.2.1), 0, home)) calls.toNat 0 ([], [], (AMap.empty : AMap Int Slot))
theorem M_twistlocklaw23_voyage_m140000020 (F : Nat) (s : Ship) (boxes : List Box) (home : AMap Int Int) (calls : Int) (r : Plan × Int × (AMap Int Int)) (h : M_twistlocklaw23_voyage F s boxes home calls = some r) : ACalls Try.prog 27 [.agg [LS 12 Column.av s.Columns, LS 2 Cover.av s.Covers, I64 s.Light.Kilos, I64 s.Light.X, I64 s.Light.Y, I64 s.Light.Z, LS 5 Row.av s.Rows, LS 5 Frame.av s.Frames, LS 6 Tank.av s.Tanks, I64 s.Limits.Tolerance, I64 s.Limits.Trim, I64 s.Limits.List_, I64 s.Limits.Stability], LS 9 Box.av boxes, .mp 1023, I64 calls] [(1023, MP 66 (fun n : Int => Value.int .i64 n) I64 home)] (fun av L' => av = .tup [.agg [LS 1 (LS 4 Stowed.av) r.1.States, LS 1 (LS 1 I64) r.1.Water], I64 r.2.1] ∧ L' = [(1023, MP 66 (fun n : Int => Value.int .i64 n) I64 r.2.2)]) := by
 unfold M_twistlocklaw23_voyage at h
 refine ACalls_ofG [1023] [.cell 8 59, .tmp 9] Try.func27 rfl rfl (inAll rfl) ?_
 refine Js fun K1 hK1 => Jr ?_
 refine Jg (u := .ptr 1063 0) (A_box (u := .agg [LS 12 Column.av s.Columns, LS 2 Cover.av s.Covers, I64 s.Light.Kilos, I64 s.Light.X, I64 s.Light.Y, I64 s.Light.Z, LS 5 Row.av s.Rows, LS 5 Frame.av s.Frames, LS 6 Tank.av s.Tanks, I64 s.Limits.Tolerance, I64 s.Limits.Trim, I64 s.Limits.List_, I64 s.Limits.Stability]) (cs := [LS 12 Column.av s.Columns, LS 2 Cover.av s.Covers, I64 s.Light.Kilos, I64 s.Light.X, I64 s.Light.Y, I64 s.Light.Z, LS 5 Row.av s.Rows, LS 5 Frame.av s.Frames, LS 6 Tank.av s.Tanks, I64 s.Limits.Tolerance, I64 s.Limits.Trim, I64 s.Limits.List_, I64 s.Limits.Stability]) 1063 rfl rfl rfl rfl rfl) ?_ rfl rfl rfl
 refine Jg (u := .ptr 1064 0) (A_allocZ 1064 [LS 1 (LS 4 Stowed.av) ([] : List (List Stowed)), LS 1 (LS 1 I64) ([] : List (List Int))] [.slice none 0 0, .slice none 0 0] tf_zero_59 ⟨.inr ⟨_, rfl, rfl⟩, .inr ⟨_, rfl, rfl⟩, trivial⟩ rfl rfl) ?_ rfl rfl rfl
 refine Jg (u := I64 0) (Aa rfl rfl) ?_ rfl rfl rfl
 refine Jn (hK1 _ _ ?_)
 refine JC_freeze [(1, LS 9 Box.av boxes), (2, .mp 1023), (3, I64 calls), (4, .dptr [LS 12 Column.av s.Columns, LS 2 Cover.av s.Covers, I64 s.Light.Kilos, I64 s.Light.X, I64 s.Light.Y, I64 s.Light.Z, LS 5 Row.av s.Rows, LS 5 Frame.av s.Frames, LS 6 Tank.av s.Tanks, I64 s.Limits.Tolerance, I64 s.Limits.Trim, I64 s.Limits.List_, I64 s.Limits.Stability]), (8, .ptr 1064 0)] [(1023, MP 66 (fun n : Int => Value.int .i64 n) I64 home), (1064, .box 59 [LS 1 (LS 4 Stowed.av) ([] : List (List Stowed)), LS 1 (LS 1 I64) ([] : List (List Int))])] 1063 rfl rfl rfl ⟨⟨_, rfl, .map⟩, ⟨_, rfl, .boxEq rfl rfl⟩, trivial⟩ rfl (by exact ⟨.conv (.same rfl), .conv (.same rfl), .conv (.same rfl), .ptr, .conv (.same rfl), trivial⟩) ?_
 refine Js fun K2 hK2 => Jr ?_
 refine Jg (u := .ptr 1065 0) (A_allocZ 1065 [.sc (.slice none 0 0), LS 1 (LS 1 I64) ([] : List (List Int))] [.slice none 0 0, .slice none 0 0] tf_zero_59 ⟨.inl rfl, .inr ⟨_, rfl, rfl⟩, trivial⟩ rfl rfl) ?_ rfl rfl rfl
 refine JL_ownCell 1065 0 1073 40 1 rfl rfl rfl (cs' := [OW 1073 1 (LS 4 Stowed.av) ([] : List (List Stowed)), LS 1 (LS 1 I64) ([] : List (List Int))]) rfl ?_
 refine Jn (hK2 _ _ ?_)
 refine Js fun K3 hK3 => Jr ?_
 refine Jg (u := .mp 1071) (A_makeMapM 1071 (fun n : Int => Value.int .i64 n) Slot.av rfl rfl) ?_ rfl rfl rfl
 refine Jg (u := .mp 1071) (Aa rfl rfl) ?_ rfl rfl rfl
 refine Jn (hK3 _ _ ?_)
 refine Js (fun K4 hK4 => ?_)
 refine Js fun K5 hK5 => Jr ?_
 refine Jg (u := I64 0) (Aa rfl rfl) ?_ rfl rfl rfl
 refine Jn (hK5 _ _ ?_)
 refine JC_block ?_
 obtain ⟨hx6, h⟩ := need_out h
 obtain ⟨b6, kx6, hb6, hkx6, h⟩ := upto_in h
 refine JC_loop2 (fun i6 (s6 : (List (List Stowed)) × (List (List Int)) × (AMap Int Slot)) => upto b6 kx6 (calls.toNat - i6) i6 s6 = some r) (fun i6 s6 => [(1, LS 9 Box.av boxes), (2, .mp 1023), (3, I64 calls), (4, .dptr [LS 12 Column.av s.Columns, LS 2 Cover.av s.Covers, I64 s.Light.Kilos, I64 s.Light.X, I64 s.Light.Y, I64 s.Light.Z, LS 5 Row.av s.Rows, LS 5 Frame.av s.Frames, LS 6 Tank.av s.Tanks, I64 s.Limits.Tolerance, I64 s.Limits.Trim, I64 s.Limits.List_, I64 s.Limits.Stability]), (8, .ptr 1064 0), (10, .ptr 1065 0), (11, .mp 1071), (12, I64 (i6 : Int))]) (fun i6 s6 => [(1023, MP 66 (fun n : Int => Value.int .i64 n) I64 home), (1073, .spare 40 1 s6.1.length s6.1.length), (1071, MP 121 (fun n : Int => Value.int .i64 n) Slot.av s6.2.2), (1064, .box 59 [LS 1 (LS 4 Stowed.av) ([] : List (List Stowed)), LS 1 (LS 1 I64) ([] : List (List Int))]), (1065, .box 59 [OW 1073 1 (LS 4 Stowed.av) s6.1, LS 1 (LS 1 I64) s6.2.1])]) (fun i6 => calls.toNat - i6) 0 ([], [], (AMap.empty : AMap Int Slot)) h ⟨⟨.same rfl, .same rfl, .same rfl, .same rfl, .same rfl, .same rfl, .same rfl, .same rfl, trivial⟩, ⟨⟨_, rfl, .map⟩, ⟨_, rfl, .same⟩, ⟨_, rfl, .map⟩, ⟨_, rfl, .boxL rfl ⟨.same rfl, .same rfl, trivial⟩⟩, ⟨_, rfl, .boxL rfl ⟨.same rfl, .same rfl, trivial⟩⟩, trivial⟩, rfl⟩ ?_
 clear h
 intro i6 s6 hi6 K6 e6
 refine Js (fun K7 hK7 => ?_)
 refine Js fun K8 hK8 => Jr ?_
 refine Jg (u := I64 (i6 : Int)) (Am rfl rfl) ?_ rfl rfl rfl
 refine Jg (u := I64 calls) (Am rfl rfl) ?_ rfl rfl rfl
 refine Jg (u := BL (decide ((i6 : Int) < calls))) (A_lss rfl rfl rfl) ?_ rfl rfl rfl
 refine Jn (hK8 _ _ ?_)
 refine JC_cond rfl (fun hb => ?_) (fun hb => ?_)
 ·
  have hk6 := lt_toNat hb
  obtain ⟨nx6, hn6, h⟩ := upto_out hi6 hk6
  replace h := app3 hb6 h
  refine JC_skip ?_
  refine hK7 _ _ ?_
  refine Js (fun K9 hK9 => ?_)
  refine JC_block ?_
  refine Js fun K10 hK10 => Jr ?_
  refine Jg (u := LS 4 Stowed.av ([] : List Stowed)) (A_nilList 4 rfl rfl) ?_ rfl rfl rfl
  refine Jn (hK10 _ _ ?_)
  refine Js (fun K11 hK11 => ?_)
  refine Js fun K12 hK12 => Jr ?_
  refine Jg (u := I64 0) (Aa rfl rfl) ?_ rfl rfl rfl
  refine Jn (hK12 _ _ ?_)
  refine JC_block ?_
  obtain ⟨hx13, h⟩ := need_out h
  obtain ⟨b13, kx13, hb13, hkx13, h⟩ := upto_in h
  refine JC_loop2 (fun i13 (s13 : (List Stowed)) => upto b13 kx13 ((10 : Int).toNat - i13) i13 s13 = some r) (fun i13 s13 => [(1, LS 9 Box.av boxes), (2, .mp 1023), (3, I64 calls), (4, .dptr [LS 12 Column.av s.Columns, LS 2 Cover.av s.Covers, I64 s.Light.Kilos, I64 s.Light.X, I64 s.Light.Y, I64 s.Light.Z, LS 5 Row.av s.Rows, LS 5 Frame.av s.Frames, LS 6 Tank.av s.Tanks, I64 s.Limits.Tolerance, I64 s.Limits.Trim, I64 s.Limits.List_, I64 s.Limits.Stability]), (8, .ptr 1064 0), (10, .ptr 1065 0), (11, .mp 1071), (12, I64 (i6 : Int)), (13, LS 4 Stowed.av s13), (14, I64 (i13 : Int))]) (fun i13 s13 => [(1023, MP 66 (fun n : Int => Value.int .i64 n) I64 home), (1073, .spare 40 1 s6.1.length s6.1.length), (1071, MP 121 (fun n : Int => Value.int .i64 n) Slot.av s6.2.2), (1064, .box 59 [LS 1 (LS 4 Stowed.av) ([] : List (List Stowed)), LS 1 (LS 1 I64) ([] : List (List Int))]), (1065, .box 59 [OW 1073 1 (LS 4 Stowed.av) s6.1, LS 1 (LS 1 I64) s6.2.1])]) (fun i13 => (10 : Int).toNat - i13) 0 [] h ⟨⟨.same rfl, .same rfl, .same rfl, .same rfl, .same rfl, .same rfl, .same rfl, .same rfl, .same rfl, .same rfl, trivial⟩, ⟨⟨_, rfl, .map⟩, ⟨_, rfl, .same⟩, ⟨_, rfl, .map⟩, ⟨_, rfl, .boxL rfl ⟨.same rfl, .same rfl, trivial⟩⟩, ⟨_, rfl, .boxL rfl ⟨.same rfl, .same rfl, trivial⟩⟩, trivial⟩, rfl⟩ ?_
  clear h
  intro i13 s13 hi13 K13 e13
  refine Js (fun K14 hK14 => ?_)
  refine Js fun K15 hK15 => Jr ?_
  refine Jg (u := I64 (i13 : Int)) (Am rfl rfl) ?_ rfl rfl rfl
  refine Jg (u := BL (decide ((i13 : Int) < 10))) (A_lss rfl rfl rfl) ?_ rfl rfl rfl
  refine Jn (hK15 _ _ ?_)
  refine JC_cond rfl (fun hb => ?_) (fun hb => ?_)
  ·
   have hk13 := lt_toNat hb
   obtain ⟨nx13, hn13, h⟩ := upto_out hi13 hk13
   replace h := app3 hb13 h
   refine JC_skip ?_
   refine hK14 _ _ ?_
   refine Js (fun K16 hK16 => ?_)
   refine JC_block ?_
   refine Js fun K17 hK17 => Jr ?_
   refine Jg (u := LS 9 Box.av boxes) (Am rfl rfl) ?_ rfl rfl rfl
   refine JL_lenM (f := Box.av) (xs := boxes) tf_slice_39 rfl rfl (fun hm40 => ?_) rfl rfl rfl
   refine Jg (u := I64 0) (Am rfl rfl) ?_ rfl rfl rfl
   refine Jn (hK17 _ _ ?_)
   refine JC_block ?_
   obtain ⟨b42, kx42, hb42, hkx42, h⟩ := each_in h
   refine JC_loop2 (fun i42 (s42 : (List Stowed)) => each b42 kx42 (List.drop i42 boxes) i42 s42 = some r) (fun i42 s42 => [(1, LS 9 Box.av boxes), (2, .mp 1023), (3, I64 calls), (4, .dptr [LS 12 Column.av s.Columns, LS 2 Cover.av s.Covers, I64 s.Light.Kilos, I64 s.Light.X, I64 s.Light.Y, I64 s.Light.Z, LS 5 Row.av s.Rows, LS 5 Frame.av s.Frames, LS 6 Tank.av s.Tanks, I64 s.Limits.Tolerance, I64 s.Limits.Trim, I64 s.Limits.List_, I64 s.Limits.Stability]), (8, .ptr 1064 0), (10, .ptr 1065 0), (11, .mp 1071), (12, I64 (i6 : Int)), (13, LS 4 Stowed.av s42), (14, I64 (i13 : Int)), (39, LS 9 Box.av boxes), (40, I64 (boxes.length : Int)), (41, I64 (i42 : Int))]) (fun i42 s42 => [(1023, MP 66 (fun n : Int => Value.int .i64 n) I64 home), (1073, .spare 40 1 s6.1.length s6.1.length), (1071, MP 121 (fun n : Int => Value.int .i64 n) Slot.av s6.2.2), (1064, .box 59 [LS 1 (LS 4 Stowed.av) ([] : List (List Stowed)), LS 1 (LS 1 I64) ([] : List (List Int))]), (1065, .box 59 [OW 1073 1 (LS 4 Stowed.av) s6.1, LS 1 (LS 1 I64) s6.2.1])]) (fun i42 => boxes.length - i42) 0 s13 h ⟨⟨.same rfl, .same rfl, .same rfl, .same rfl, .same rfl, .same rfl, .same rfl, .same rfl, .same rfl, .same rfl, .same rfl, .same rfl, .same rfl, trivial⟩, ⟨⟨_, rfl, .map⟩, ⟨_, rfl, .same⟩, ⟨_, rfl, .map⟩, ⟨_, rfl, .boxL rfl ⟨.same rfl, .same rfl, trivial⟩⟩, ⟨_, rfl, .boxL rfl ⟨.same rfl, .same rfl, trivial⟩⟩, trivial⟩, rfl⟩ ?_
   clear h
   intro i42 s42 hi42 K42 e42
   refine Js fun K43 hK43 => Jr ?_
   refine Jg (u := BL (decide ((i42 : Int) < (boxes.length : Int)))) (A_lss rfl rfl rfl) ?_ rfl rfl rfl
   refine Jn (hK43 _ _ ?_)
   refine Js (fun K44 hK44 => ?_)
   refine JC_cond rfl (fun hb => ?_) (fun hb => ?_)
   ·
    have hk42 := lt_len hb
    obtain ⟨y42, nx42, hy42, hn42, h⟩ := each_out hi42 hk42
    replace h := app4 hb42 h
    refine JC_skip ?_
    refine hK44 _ _ ?_
    obtain ⟨kj45, hkj45, h⟩ := jp_out h
    refine JC_seqJ (fun j45 : (List Stowed) => kj45 j45 = some r) (fun j45 => [(1, LS 9 Box.av boxes), (2, .mp 1023), (3, I64 calls), (4, .dptr [LS 12 Column.av s.Columns, LS 2 Cover.av s.Covers, I64 s.Light.Kilos, I64 s.Light.X, I64 s.Light.Y, I64 s.Light.Z, LS 5 Row.av s.Rows, LS 5 Frame.av s.Frames, LS 6 Tank.av s.Tanks, I64 s.Limits.Tolerance, I64 s.Limits.Trim, I64 s.Limits.List_, I64 s.Limits.Stability]), (8, .ptr 1064 0), (10, .ptr 1065 0), (11, .mp 1071), (12, I64 (i6 : Int)), (13, LS 4 Stowed.av j45), (14, I64 (i13 : Int)), (39, LS 9 Box.av boxes), (40, I64 (boxes.length : Int)), (41, I64 (i42 : Int))]) (fun j45 => [(1023, MP 66 (fun n : Int => Value.int .i64 n) I64 home), (1073, .spare 40 1 s6.1.length s6.1.length), (1071, MP 121 (fun n : Int => Value.int .i64 n) Slot.av s6.2.2), (1064, .box 59 [LS 1 (LS 4 Stowed.av) ([] : List (List Stowed)), LS 1 (LS 1 I64) ([] : List (List Int))]), (1065, .box 59 [OW 1073 1 (LS 4 Stowed.av) s6.1, LS 1 (LS 1 I64) s6.2.1])]) (fun Kj45 ej45 => ?_) ?_
    ·
     refine JC_block ?_
     refine Js fun K46 hK46 => Jr ?_
     refine Jg (u := .dptr (Box.cs y42)) (A_indexM (f := Box.av) (xs := boxes) (y := y42) rfl rfl rfl tf_slice_39 hy42 rfl) ?_ rfl rfl rfl
     refine Jg (u := .agg (Box.cs y42)) (A_loadAgg tf_agg_50 rfl rfl rfl) ?_ rfl rfl rfl
     refine Jg (u := .ptr 1066 0) (A_allocJ 1066 9 tf_zsize_50 rfl rfl) ?_ rfl rfl rfl
     refine JL_go0 (u := .junk) (A_store (u := .agg (Box.cs y42)) (ds := [I64 y42.ID, ST y42.Number, U8 y42.Size, BL y42.High, I64 y42.Kilos, I64 y42.Load, I64 y42.Discharge, U8 y42.Class, BL y42.Reefer]) tf_size_50 rfl rfl rfl rfl rfl rfl rfl rfl) ?_ rfl rfl
     refine Jn (hK46 _ _ ?_)
     refine JC_freeze [(1, LS 9 Box.av boxes), (2, .mp 1023), (3, I64 calls), (4, .dptr [LS 12 Column.av s.Columns, LS 2 Cover.av s.Covers, I64 s.Light.Kilos, I64 s.Light.X, I64 s.Light.Y, I64 s.Light.Z, LS 5 Row.av s.Rows, LS 5 Frame.av s.Frames, LS 6 Tank.av s.Tanks, I64 s.Limits.Tolerance, I64 s.Limits.Trim, I64 s.Limits.List_, I64 s.Limits.Stability]), (8, .ptr 1064 0), (10, .ptr 1065 0), (11, .mp 1071), (12, I64 (i6 : Int)), (13, LS 4 Stowed.av s42), (14, I64 (i13 : Int)), (16, .dptr (Box.cs y42)), (39, LS 9 Box.av boxes), (40, I64 (boxes.length : Int)), (41, I64 (i42 : Int))] [(1023, MP 66 (fun n : Int => Value.int .i64 n) I64 home), (1073, .spare 40 1 s6.1.length s6.1.length), (1071, MP 121 (fun n : Int => Value.int .i64 n) Slot.av s6.2.2), (1064, .box 59 [LS 1 (LS 4 Stowed.av) ([] : List (List Stowed)), LS 1 (LS 1 I64) ([] : List (List Int))]), (1065, .box 59 [OW 1073 1 (LS 4 Stowed.av) s6.1, LS 1 (LS 1 I64) s6.2.1])] 1066 rfl rfl rfl ⟨⟨_, rfl, .map⟩, ⟨_, rfl, .same⟩, ⟨_, rfl, .map⟩, ⟨_, rfl, .boxEq rfl rfl⟩, ⟨_, rfl, .boxEq rfl rfl⟩, trivial⟩ rfl (by exact ⟨.conv (.same rfl), .conv (.same rfl), .conv (.same rfl), .conv (.same rfl), .conv (.same rfl), .conv (.same rfl), .conv (.same rfl), .conv (.same rfl), .conv (.same rfl), .conv (.same rfl), .ptr, .conv (.same rfl), .conv (.same rfl), .conv (.same rfl), trivial⟩) ?_
     refine Js fun K47 hK47 => Jr ?_
     refine Jg (u := .mp 1071) (Am rfl rfl) ?_ rfl rfl rfl
     refine Jg (u := .dptr (Box.cs y42)) (A_fieldM tf_field_50_0 rfl rfl rfl) ?_ rfl rfl rfl
     refine Jg (u := I64 y42.ID) (A_load tf_scalar_3 rfl rfl rfl) ?_ rfl rfl rfl
     obtain ⟨v48, hv48, h⟩ := bnd_out h
     refine Jg (u := .tup [.agg (Slot.cs v48), BL (AMap.has s6.2.2 y42.ID)]) (((Option.some.inj hv48) ▸ A_lookupM1 (av := Slot.av) (m := s6.2.2) (a := y42.ID) (Slot.mk 0 0 0) (.agg #[.int .i64 0, .int .i64 0, .int .u8 0]) rfl rfl rfl rfl tk_3 tf_map_121 tf_zv_80 rfl)) ?_ rfl rfl rfl
     refine Jg (u := .tup [.agg (Slot.cs v48), BL (AMap.has s6.2.2 y42.ID)]) (Am rfl rfl) ?_ rfl rfl rfl
     refine Jg (u := .agg (Slot.cs v48)) (A_extract rfl rfl rfl) ?_ rfl rfl rfl
     refine Jg (u := BL (AMap.has s6.2.2 y42.ID)) (A_extract rfl rfl rfl) ?_ rfl rfl rfl
     refine Jg (u := .ptr 1067 0) (A_allocJ 1067 3 tf_zsize_80 rfl rfl) ?_ rfl rfl rfl
     refine JL_go0 (u := .junk) (A_store (u := .agg (Slot.cs v48)) (ds := [I64 v48.Column, I64 v48.Tier, U8 v48.Half]) tf_size_80 rfl rfl rfl rfl rfl rfl rfl rfl) ?_ rfl rfl
     refine Jg (u := BL (AMap.has s6.2.2 y42.ID)) (Aa rfl rfl) ?_ rfl rfl rfl
     refine Jn (hK47 _ _ ?_)
     refine JC_freeze [(1, LS 9 Box.av boxes), (2, .mp 1023), (3, I64 calls), (4, .dptr [LS 12 Column.av s.Columns, LS 2 Cover.av s.Covers, I64 s.Light.Kilos, I64 s.Light.X, I64 s.Light.Y, I64 s.Light.Z, LS 5 Row.av s.Rows, LS 5 Frame.av s.Frames, LS 6 Tank.av s.Tanks, I64 s.Limits.Tolerance, I64 s.Limits.Trim, I64 s.Limits.List_, I64 s.Limits.Stability]), (8, .ptr 1064 0), (10, .ptr 1065 0), (11, .mp 1071), (12, I64 (i6 : Int)), (13, LS 4 Stowed.av s42), (14, I64 (i13 : Int)), (16, .dptr (Box.cs y42)), (17, .dptr (Slot.cs v48)), (18, BL (AMap.has s6.2.2 y42.ID)), (39, LS 9 Box.av boxes), (40, I64 (boxes.length : Int)), (41, I64 (i42 : Int))] [(1023, MP 66 (fun n : Int => Value.int .i64 n) I64 home), (1073, .spare 40 1 s6.1.length s6.1.length), (1071, MP 121 (fun n : Int => Value.int .i64 n) Slot.av s6.2.2), (1064, .box 59 [LS 1 (LS 4 Stowed.av) ([] : List (List Stowed)), LS 1 (LS 1 I64) ([] : List (List Int))]), (1065, .box 59 [OW 1073 1 (LS 4 Stowed.av) s6.1, LS 1 (LS 1 I64) s6.2.1])] 1067 rfl rfl rfl ⟨⟨_, rfl, .map⟩, ⟨_, rfl, .same⟩, ⟨_, rfl, .map⟩, ⟨_, rfl, .boxEq rfl rfl⟩, ⟨_, rfl, .boxEq rfl rfl⟩, trivial⟩ rfl (by exact ⟨.conv (.same rfl), .conv (.same rfl), .conv (.same rfl), .conv (.same rfl), .conv (.same rfl), .conv (.same rfl), .conv (.same rfl), .conv (.same rfl), .conv (.same rfl), .conv (.same rfl), .conv (.same rfl), .ptr, .conv (.same rfl), .conv (.same rfl), .conv (.same rfl), .conv (.same rfl), trivial⟩) ?_
     refine Js fun K49 hK49 => Jr ?_
     refine Jg (u := BL (AMap.has s6.2.2 y42.ID)) (Am rfl rfl) ?_ rfl rfl rfl
     refine Jg (u := BL (AMap.has s6.2.2 y42.ID)) (Am rfl rfl) ?_ rfl rfl rfl
     refine JL_opt (u := .dptr [I64 v48.Tier, U8 v48.Half]) [] rfl rfl rfl .sct trivial (fun hc => A_fieldM tf_field_80_1 rfl rfl rfl) ?_ rfl rfl rfl
     refine JL_opt (u := I64 v48.Tier) [(54, .dptr [I64 v48.Tier, U8 v48.Half])] rfl rfl rfl .sct ⟨.all id, trivial⟩ (fun hc => A_load tf_scalar_3 rfl rfl rfl) ?_ rfl rfl rfl
     refine JL_opt (u := I64 (i13 : Int)) [] rfl rfl rfl .sct trivial (fun hc => Am rfl rfl) ?_ rfl rfl rfl
     refine JL_opt (u := BL (decide (v48.Tier = (i13 : Int)))) [(55, I64 v48.Tier), (56, I64 (i13 : Int))] rfl rfl rfl .sct ⟨.all id, .all id, trivial⟩ (fun hc => A_eql rfl rfl rfl) ?_ rfl rfl rfl
     refine Jg (u := BL ((AMap.has s6.2.2 y42.ID) && (decide (v48.Tier = (i13 : Int))))) (A_and rfl rfl rfl rfl) ?_ rfl rfl rfl
     refine Jg (u := BL ((AMap.has s6.2.2 y42.ID) && (decide (v48.Tier = (i13 : Int))))) (Am rfl rfl) ?_ rfl rfl rfl
     refine JL_opt (u := .dptr ((Box.cs y42).drop 5)) [] rfl rfl rfl .sct trivial (fun hc => A_fieldM tf_field_50_5 rfl rfl rfl) ?_ rfl rfl rfl
     refine JL_opt (u := I64 y42.Load) [(60, .dptr ((Box.cs y42).drop 5))] rfl rfl rfl .sct ⟨.all id, trivial⟩ (fun hc => A_load tf_scalar_3 rfl rfl rfl) ?_ rfl rfl rfl
     refine JL_opt (u := I64 (i6 : Int)) [] rfl rfl rfl .sct trivial (fun hc => Am rfl rfl) ?_ rfl rfl rfl
     refine JL_opt (u := BL (decide (y42.Load < (i6 : Int)))) [(61, I64 y42.Load), (62, I64 (i6 : Int))] rfl rfl rfl .sct ⟨.all id, .all id, trivial⟩ (fun hc => A_lss rfl rfl rfl) ?_ rfl rfl rfl
     refine Jg (u := BL (((AMap.has s6.2.2 y42.ID) && (decide (v48.Tier = (i13 : Int)))) && (decide (y42.Load < (i6 : Int))))) (A_and rfl rfl rfl rfl) ?_ rfl rfl rfl
     refine Jg (u := BL (((AMap.has s6.2.2 y42.ID) && (decide (v48.Tier = (i13 : Int)))) && (decide (y42.Load < (i6 : Int))))) (Am rfl rfl) ?_ rfl rfl rfl
     refine JL_opt (u := I64 (i6 : Int)) [] rfl rfl rfl .sct trivial (fun hc => Am rfl rfl) ?_ rfl rfl rfl
     refine JL_opt (u := .dptr ((Box.cs y42).drop 6)) [] rfl rfl rfl .sct trivial (fun hc => A_fieldM tf_field_50_6 rfl rfl rfl) ?_ rfl rfl rfl
     refine JL_opt (u := I64 y42.Discharge) [(67, .dptr ((Box.cs y42).drop 6))] rfl rfl rfl .sct ⟨.all id, trivial⟩ (fun hc => A_load tf_scalar_3 rfl rfl rfl) ?_ rfl rfl rfl
     refine JL_opt (u := BL (decide ((i6 : Int) < y42.Discharge))) [(66, I64 (i6 : Int)), (68, I64 y42.Discharge)] rfl rfl rfl .sct ⟨.all id, .all id, trivial⟩ (fun hc => A_lss rfl rfl rfl) ?_ rfl rfl rfl
     refine Jg (u := BL ((((AMap.has s6.2.2 y42.ID) && (decide (v48.Tier = (i13 : Int)))) && (decide (y42.Load < (i6 : Int)))) && (decide ((i6 : Int) < y42.Discharge)))) (A_and rfl rfl rfl rfl) ?_ rfl rfl rfl
     refine Jn (hK49 _ _ ?_)
     refine JC_cond rfl (fun hb => ?_) (fun hb => ?_)
     ·
      replace h := bif_t hb h
      refine Js fun K50 hK50 => Jr ?_
      refine Jg (u := LS 4 Stowed.av s42) (Am rfl rfl) ?_ rfl rfl rfl
      refine Jg (u := .dptr (Box.cs y42)) (A_fieldM tf_field_50_0 rfl rfl rfl) ?_ rfl rfl rfl
      refine Jg (u := I64 y42.ID) (A_load tf_scalar_3 rfl rfl rfl) ?_ rfl rfl rfl
      refine Jg (u := .agg (Slot.cs v48)) (A_loadAgg tf_agg_80 rfl rfl rfl) ?_ rfl rfl rfl
      refine Jg (u := .agg [I64 y42.ID, I64 v48.Column, I64 v48.Tier, U8 v48.Half]) (A_buildZ (cs := [I64 y42.ID, I64 v48.Column, I64 v48.Tier, U8 v48.Half]) [(0, 1), (1, 3)] [I64 0, I64 0, I64 0, U8 0] [.int .i64 0, .int .i64 0, .int .i64 0, .int .u8 0] tf_places_82 tf_zero_82 ⟨.inl rfl, .inl rfl, .inl rfl, .inl rfl, trivial⟩ rfl rfl) ?_ rfl rfl rfl
      obtain ⟨r51, hr51, h⟩ := bnd_out h
      refine Jg (u := LS 4 Stowed.av r51) (A_call1 (args := [LS 4 Stowed.av s42, .agg [I64 y42.ID, I64 v48.Column, I64 v48.Tier, U8 v48.Half]]) rfl (M_twistlocklaw23_with_w s42 (Stowed.mk y42.ID v48) r51 hr51) tf_call_50 ⟨rfl, rfl, rfl, rfl, trivial⟩) ?_ rfl rfl rfl
      refine Jg (u := LS 4 Stowed.av r51) (Aa rfl rfl) ?_ rfl rfl rfl
      refine Jn (hK50 _ _ ?_)
      refine Js fun K52 hK52 => Jr ?_
      refine Jg (u := .agg [LS 12 Column.av s.Columns, LS 2 Cover.av s.Covers, I64 s.Light.Kilos, I64 s.Light.X, I64 s.Light.Y, I64 s.Light.Z, LS 5 Row.av s.Rows, LS 5 Frame.av s.Frames, LS 6 Tank.av s.Tanks, I64 s.Limits.Tolerance, I64 s.Limits.Trim, I64 s.Limits.List_, I64 s.Limits.Stability]) (A_loadAgg tf_agg_35 rfl rfl rfl) ?_ rfl rfl rfl
      refine Jg (u := LS 9 Box.av boxes) (Am rfl rfl) ?_ rfl rfl rfl
      refine Jg (u := LS 4 Stowed.av r51) (Am rfl rfl) ?_ rfl rfl rfl
      obtain ⟨r53, hr53, h⟩ := bnd_out h
      refine Jg (u := BL r53) (A_call1 (args := [.agg [LS 12 Column.av s.Columns, LS 2 Cover.av s.Covers, I64 s.Light.Kilos, I64 s.Light.X, I64 s.Light.Y, I64 s.Light.Z, LS 5 Row.av s.Rows, LS 5 Frame.av s.Frames, LS 6 Tank.av s.Tanks, I64 s.Limits.Tolerance, I64 s.Limits.Trim, I64 s.Limits.List_, I64 s.Limits.Stability], LS 9 Box.av boxes, LS 4 Stowed.av r51]) rfl (M_stow_Right_w s boxes r51 r53 hr53) tf_call_19 ⟨rfl, rfl, rfl, rfl, rfl, rfl, trivial⟩) ?_ rfl rfl rfl
      refine Jn (hK52 _ _ ?_)
      refine JC_cond rfl (fun hb => ?_) (fun hb => ?_)
      ·
       replace h := bif_t hb h
       refine Jr ?_
       refine Jg (u := LS 4 Stowed.av r51) (Am rfl rfl) ?_ rfl rfl rfl
       refine Jg (u := LS 4 Stowed.av r51) (Aa rfl rfl) ?_ rfl rfl rfl
       refine Jn ?_
       exact ej45 _ _ r51 h ⟨⟨.same rfl, .same rfl, .same rfl, .same rfl, .same rfl, .same rfl, .same rfl, .same rfl, .same rfl, .same rfl, .same rfl, .same rfl, .same rfl, trivial⟩, ⟨⟨_, rfl, .map⟩, ⟨_, rfl, .same⟩, ⟨_, rfl, .map⟩, ⟨_, rfl, .boxL rfl ⟨.same rfl, .same rfl, trivial⟩⟩, ⟨_, rfl, .boxL rfl ⟨.same rfl, .same rfl, trivial⟩⟩, trivial⟩, rfl⟩
      ·
       replace h := bif_f hb h
       refine JC_skip ?_
       exact ej45 _ _ s42 h ⟨⟨.same rfl, .same rfl, .same rfl, .same rfl, .same rfl, .same rfl, .same rfl, .same rfl, .same rfl, .same rfl, .same rfl, .same rfl, .same rfl, trivial⟩, ⟨⟨_, rfl, .map⟩, ⟨_, rfl, .same⟩, ⟨_, rfl, .map⟩, ⟨_, rfl, .boxL rfl ⟨.same rfl, .same rfl, trivial⟩⟩, ⟨_, rfl, .boxL rfl ⟨.same rfl, .same rfl, trivial⟩⟩, trivial⟩, rfl⟩
     ·
      replace h := bif_f hb h
      refine JC_skip ?_
      exact ej45 _ _ s42 h ⟨⟨.same rfl, .same rfl, .same rfl, .same rfl, .same rfl, .same rfl, .same rfl, .same rfl, .same rfl, .same rfl, .same rfl, .same rfl, .same rfl, trivial⟩, ⟨⟨_, rfl, .map⟩, ⟨_, rfl, .same⟩, ⟨_, rfl, .map⟩, ⟨_, rfl, .boxL rfl ⟨.same rfl, .same rfl, trivial⟩⟩, ⟨_, rfl, .boxL rfl ⟨.same rfl, .same rfl, trivial⟩⟩, trivial⟩, rfl⟩
    ·intro j45 h
     replace h := app1 hkj45 h
     refine Jr ?_
     refine Jg (u := I64 ((i42 + 1 : Nat) : Int)) (A_add (idx_succ hk42 hm40) rfl rfl rfl) ?_ rfl rfl rfl
     refine Jg (u := I64 ((i42 + 1 : Nat) : Int)) (Am rfl rfl) ?_ rfl rfl rfl
     refine Jn ?_
     exact e42 _ _ (i42 + 1) j45 (app1 hn42 h) (by omega) ⟨⟨.same rfl, .same rfl, .same rfl, .same rfl, .same rfl, .same rfl, .same rfl, .same rfl, .same rfl, .same rfl, .same rfl, .same rfl, .same rfl, trivial⟩, ⟨⟨_, rfl, .map⟩, ⟨_, rfl, .same⟩, ⟨_, rfl, .map⟩, ⟨_, rfl, .boxL rfl ⟨.same rfl, .same rfl, trivial⟩⟩, ⟨_, rfl, .boxL rfl ⟨.same rfl, .same rfl, trivial⟩⟩, trivial⟩, rfl⟩
   ·
    have h := app1 hkx42 (each_nil hi42 (not_lt_len hb))
    refine JC_exit ?_
    refine hK16 _ _ ?_
    refine Jr ?_
    refine Jg (u := I64 (i13 : Int)) (Am rfl rfl) ?_ rfl rfl rfl
    refine Jg (u := I64 ((i13 + 1 : Nat) : Int)) (A_add (idx_succ hk13 (toNat_max hx13)) rfl rfl rfl) ?_ rfl rfl rfl
    refine Jg (u := I64 ((i13 + 1 : Nat) : Int)) (Aa rfl rfl) ?_ rfl rfl rfl
    refine Jn ?_
    exact e13 _ _ (i13 + 1) s42 (app1 hn13 h) (by omega) ⟨⟨.same rfl, .same rfl, .same rfl, .same rfl, .same rfl, .same rfl, .same rfl, .same rfl, .same rfl, .same rfl, trivial⟩, ⟨⟨_, rfl, .map⟩, ⟨_, rfl, .same⟩, ⟨_, rfl, .map⟩, ⟨_, rfl, .boxL rfl ⟨.same rfl, .same rfl, trivial⟩⟩, ⟨_, rfl, .boxL rfl ⟨.same rfl, .same rfl, trivial⟩⟩, trivial⟩, rfl⟩
  ·
   have h := app1 hkx13 (upto_nil hi13 (not_lt_toNat hb))
   refine JC_exit ?_
   refine hK11 _ _ ?_
   refine Js (fun K54 hK54 => ?_)
   refine Js fun K55 hK55 => Jr ?_
   refine Jg (u := LS 9 Box.av boxes) (Am rfl rfl) ?_ rfl rfl rfl
   refine JL_lenM (f := Box.av) (xs := boxes) tf_slice_39 rfl rfl (fun hm84 => ?_) rfl rfl rfl
   refine Jg (u := I64 0) (Am rfl rfl) ?_ rfl rfl rfl
   refine Jn (hK55 _ _ ?_)
   refine JC_block ?_
   obtain ⟨b56, kx56, hb56, hkx56, h⟩ := each_in h
   refine JC_loop2 (fun i56 (s56 : (List Stowed)) => each b56 kx56 (List.drop i56 boxes) i56 s56 = some r) (fun i56 s56 => [(1, LS 9 Box.av boxes), (2, .mp 1023), (3, I64 calls), (4, .dptr [LS 12 Column.av s.Columns, LS 2 Cover.av s.Covers, I64 s.Light.Kilos, I64 s.Light.X, I64 s.Light.Y, I64 s.Light.Z, LS 5 Row.av s.Rows, LS 5 Frame.av s.Frames, LS 6 Tank.av s.Tanks, I64 s.Limits.Tolerance, I64 s.Limits.Trim, I64 s.Limits.List_, I64 s.Limits.Stability]), (8, .ptr 1064 0), (10, .ptr 1065 0), (12, I64 (i6 : Int)), (13, LS 4 Stowed.av s56), (83, LS 9 Box.av boxes), (84, I64 (boxes.length : Int)), (85, I64 (i56 : Int))]) (fun i56 s56 => [(1023, MP 66 (fun n : Int => Value.int .i64 n) I64 home), (1073, .spare 40 1 s6.1.length s6.1.length), (1071, MP 121 (fun n : Int => Value.int .i64 n) Slot.av s6.2.2), (1064, .box 59 [LS 1 (LS 4 Stowed.av) ([] : List (List Stowed)), LS 1 (LS 1 I64) ([] : List (List Int))]), (1065, .box 59 [OW 1073 1 (LS 4 Stowed.av) s6.1, LS 1 (LS 1 I64) s6.2.1])]) (fun i56 => boxes.length - i56) 0 s13 h ⟨⟨.same rfl, .same rfl, .same rfl, .same rfl, .same rfl, .same rfl, .same rfl, .same rfl, .same rfl, .same rfl, .same rfl, trivial⟩, ⟨⟨_, rfl, .map⟩, ⟨_, rfl, .same⟩, ⟨_, rfl, .map⟩, ⟨_, rfl, .boxL rfl ⟨.same rfl, .same rfl, trivial⟩⟩, ⟨_, rfl, .boxL rfl ⟨.same rfl, .same rfl, trivial⟩⟩, trivial⟩, rfl⟩ ?_
   clear h
   intro i56 s56 hi56 K56 e56
   refine Js fun K57 hK57 => Jr ?_
   refine Jg (u := BL (decide ((i56 : Int) < (boxes.length : Int)))) (A_lss rfl rfl rfl) ?_ rfl rfl rfl
   refine Jn (hK57 _ _ ?_)
   refine Js (fun K58 hK58 => ?_)
   refine JC_cond rfl (fun hb => ?_) (fun hb => ?_)
   ·
    have hk56 := lt_len hb
    obtain ⟨y56, nx56, hy56, hn56, h⟩ := each_out hi56 hk56
    replace h := app4 hb56 h
    refine JC_skip ?_
    refine hK58 _ _ ?_
    obtain ⟨kj59, hkj59, h⟩ := jp_out h
    refine JC_seqJ (fun j59 : (List Stowed) => kj59 j59 = some r) (fun j59 => [(1, LS 9 Box.av boxes), (2, .mp 1023), (3, I64 calls), (4, .dptr [LS 12 Column.av s.Columns, LS 2 Cover.av s.Covers, I64 s.Light.Kilos, I64 s.Light.X, I64 s.Light.Y, I64 s.Light.Z, LS 5 Row.av s.Rows, LS 5 Frame.av s.Frames, LS 6 Tank.av s.Tanks, I64 s.Limits.Tolerance, I64 s.Limits.Trim, I64 s.Limits.List_, I64 s.Limits.Stability]), (8, .ptr 1064 0), (10, .ptr 1065 0), (12, I64 (i6 : Int)), (13, LS 4 Stowed.av j59), (83, LS 9 Box.av boxes), (84, I64 (boxes.length : Int)), (85, I64 (i56 : Int))]) (fun j59 => [(1023, MP 66 (fun n : Int => Value.int .i64 n) I64 home), (1073, .spare 40 1 s6.1.length s6.1.length), (1071, MP 121 (fun n : Int => Value.int .i64 n) Slot.av s6.2.2), (1064, .box 59 [LS 1 (LS 4 Stowed.av) ([] : List (List Stowed)), LS 1 (LS 1 I64) ([] : List (List Int))]), (1065, .box 59 [OW 1073 1 (LS 4 Stowed.av) s6.1, LS 1 (LS 1 I64) s6.2.1])]) (fun Kj59 ej59 => ?_) ?_
    ·
     refine JC_block ?_
     refine Js fun K60 hK60 => Jr ?_
     refine Jg (u := .dptr (Box.cs y56)) (A_indexM (f := Box.av) (xs := boxes) (y := y56) rfl rfl rfl tf_slice_39 hy56 rfl) ?_ rfl rfl rfl
     refine Jg (u := .agg (Box.cs y56)) (A_loadAgg tf_agg_50 rfl rfl rfl) ?_ rfl rfl rfl
     refine Jg (u := .ptr 1068 0) (A_allocJ 1068 9 tf_zsize_50 rfl rfl) ?_ rfl rfl rfl
     refine JL_go0 (u := .junk) (A_store (u := .agg (Box.cs y56)) (ds := [I64 y56.ID, ST y56.Number, U8 y56.Size, BL y56.High, I64 y56.Kilos, I64 y56.Load, I64 y56.Discharge, U8 y56.Class, BL y56.Reefer]) tf_size_50 rfl rfl rfl rfl rfl rfl rfl rfl) ?_ rfl rfl
     refine Jn (hK60 _ _ ?_)
     refine JC_freeze [(1, LS 9 Box.av boxes), (2, .mp 1023), (3, I64 calls), (4, .dptr [LS 12 Column.av s.Columns, LS 2 Cover.av s.Covers, I64 s.Light.Kilos, I64 s.Light.X, I64 s.Light.Y, I64 s.Light.Z, LS 5 Row.av s.Rows, LS 5 Frame.av s.Frames, LS 6 Tank.av s.Tanks, I64 s.Limits.Tolerance, I64 s.Limits.Trim, I64 s.Limits.List_, I64 s.Limits.Stability]), (8, .ptr 1064 0), (10, .ptr 1065 0), (12, I64 (i6 : Int)), (13, LS 4 Stowed.av s56), (21, .dptr (Box.cs y56)), (83, LS 9 Box.av boxes), (84, I64 (boxes.length : Int)), (85, I64 (i56 : Int))] [(1023, MP 66 (fun n : Int => Value.int .i64 n) I64 home), (1073, .spare 40 1 s6.1.length s6.1.length), (1071, MP 121 (fun n : Int => Value.int .i64 n) Slot.av s6.2.2), (1064, .box 59 [LS 1 (LS 4 Stowed.av) ([] : List (List Stowed)), LS 1 (LS 1 I64) ([] : List (List Int))]), (1065, .box 59 [OW 1073 1 (LS 4 Stowed.av) s6.1, LS 1 (LS 1 I64) s6.2.1])] 1068 rfl rfl rfl ⟨⟨_, rfl, .map⟩, ⟨_, rfl, .same⟩, ⟨_, rfl, .map⟩, ⟨_, rfl, .boxEq rfl rfl⟩, ⟨_, rfl, .boxEq rfl rfl⟩, trivial⟩ rfl (by exact ⟨.conv (.same rfl), .conv (.same rfl), .conv (.same rfl), .conv (.same rfl), .conv (.same rfl), .conv (.same rfl), .conv (.same rfl), .conv (.same rfl), .ptr, .conv (.same rfl), .conv (.same rfl), .conv (.same rfl), trivial⟩) ?_
     refine Js (fun K61 hK61 => ?_)
     refine Js fun K62 hK62 => Jr ?_
     refine Jg (u := .dptr ((Box.cs y56).drop 5)) (A_fieldM tf_field_50_5 rfl rfl rfl) ?_ rfl rfl rfl
     refine Jg (u := I64 y56.Load) (A_load tf_scalar_3 rfl rfl rfl) ?_ rfl rfl rfl
     refine Jg (u := I64 (i6 : Int)) (Am rfl rfl) ?_ rfl rfl rfl
     refine Jg (u := BL (decide ((i6 : Int) < y56.Load))) (A_gtr rfl rfl rfl) ?_ rfl rfl rfl
     refine Jg (u := BL (decide ((i6 : Int) < y56.Load))) (Am rfl rfl) ?_ rfl rfl rfl
     refine JL_opt (u := I64 (i6 : Int)) [] rfl rfl rfl .scf trivial (fun hc => Am rfl rfl) ?_ rfl rfl rfl
     refine JL_opt (u := .dptr ((Box.cs y56).drop 6)) [] rfl rfl rfl .scf trivial (fun hc => A_fieldM tf_field_50_6 rfl rfl rfl) ?_ rfl rfl rfl
     refine JL_opt (u := I64 y56.Discharge) [(95, .dptr ((Box.cs y56).drop 6))] rfl rfl rfl .scf ⟨.all id, trivial⟩ (fun hc => A_load tf_scalar_3 rfl rfl rfl) ?_ rfl rfl rfl
     refine JL_opt (u := BL (decide (y56.Discharge ≤ (i6 : Int)))) [(94, I64 (i6 : Int)), (96, I64 y56.Discharge)] rfl rfl rfl .scf ⟨.all id, .all id, trivial⟩ (fun hc => A_geq rfl rfl rfl) ?_ rfl rfl rfl
     refine Jg (u := BL ((decide ((i6 : Int) < y56.Load)) || (decide (y56.Discharge ≤ (i6 : Int))))) (A_or rfl rfl rfl rfl) ?_ rfl rfl rfl
     refine Jg (u := BL ((decide ((i6 : Int) < y56.Load)) || (decide (y56.Discharge ≤ (i6 : Int))))) (Am rfl rfl) ?_ rfl rfl rfl
     refine JL_opt (u := LS 4 Stowed.av s56) [] rfl rfl rfl .scf trivial (fun hc => Am rfl rfl) ?_ rfl rfl rfl
     refine JL_opt (u := .dptr (Box.cs y56)) [] rfl rfl rfl .scf trivial (fun hc => A_fieldM tf_field_50_0 rfl rfl rfl) ?_ rfl rfl rfl
     refine JL_opt (u := I64 y56.ID) [(101, .dptr (Box.cs y56))] rfl rfl rfl .scf ⟨.all id, trivial⟩ (fun hc => A_load tf_scalar_3 rfl rfl rfl) ?_ rfl rfl rfl
     obtain ⟨r63, hr63, h⟩ := bnd_out h
     refine JL_opt (u := BL r63) [(100, LS 4 Stowed.av s56), (102, I64 y56.ID)] rfl rfl rfl .scf ⟨.all id, .all id, trivial⟩ (fun hc => A_call1 (args := [LS 4 Stowed.av s56, I64 y56.ID]) rfl (M_twistlocklaw23_holds_w s56 y56.ID r63 (bif_t hc hr63)) tf_call_11 ⟨rfl, rfl, rfl, rfl, trivial⟩) ?_ rfl rfl rfl
     refine Jg (u := BL (((decide ((i6 : Int) < y56.Load)) || (decide (y56.Discharge ≤ (i6 : Int)))) || r63)) (A_or rfl rfl rfl rfl) ?_ rfl rfl rfl
     refine Jn (hK62 _ _ ?_)
     refine JC_cond rfl (fun hb => ?_) (fun hb => ?_)
     ·
      replace h := bif_t hb h
      refine JC_exit ?_
      exact ej59 _ _ s56 h ⟨⟨.same rfl, .same rfl, .same rfl, .same rfl, .same rfl, .same rfl, .same rfl, .same rfl, .same rfl, .same rfl, .same rfl, trivial⟩, ⟨⟨_, rfl, .map⟩, ⟨_, rfl, .same⟩, ⟨_, rfl, .map⟩, ⟨_, rfl, .boxL rfl ⟨.same rfl, .same rfl, trivial⟩⟩, ⟨_, rfl, .boxL rfl ⟨.same rfl, .same rfl, trivial⟩⟩, trivial⟩, rfl⟩
     ·
      replace h := bif_f hb h
      refine JC_skip ?_
      refine hK61 _ _ ?_
      refine Js fun K64 hK64 => Jr ?_
      refine Jg (u := BL false) (Aa rfl rfl) ?_ rfl rfl rfl
      refine Jn (hK64 _ _ ?_)
      refine Js (fun K65 hK65 => ?_)
      refine Js fun K66 hK66 => Jr ?_
      refine Jg (u := I64 0) (Aa rfl rfl) ?_ rfl rfl rfl
      refine Jn (hK66 _ _ ?_)
      refine JC_block ?_
      obtain ⟨b67, hb67, h⟩ := loop_in h
      refine JC_loop2 (fun i67 (s67 : (List Stowed) × Bool × Int) => loop b67 i67 s67 = some r) (fun i67 s67 => [(1, LS 9 Box.av boxes), (2, .mp 1023), (3, I64 calls), (4, .dptr [LS 12 Column.av s.Columns, LS 2 Cover.av s.Covers, I64 s.Light.Kilos, I64 s.Light.X, I64 s.Light.Y, I64 s.Light.Z, LS 5 Row.av s.Rows, LS 5 Frame.av s.Frames, LS 6 Tank.av s.Tanks, I64 s.Limits.Tolerance, I64 s.Limits.Trim, I64 s.Limits.List_, I64 s.Limits.Stability]), (8, .ptr 1064 0), (10, .ptr 1065 0), (12, I64 (i6 : Int)), (13, LS 4 Stowed.av s67.1), (21, .dptr (Box.cs y56)), (22, BL s67.2.1), (23, I64 s67.2.2), (83, LS 9 Box.av boxes), (84, I64 (boxes.length : Int)), (85, I64 (i56 : Int))]) (fun i67 s67 => [(1023, MP 66 (fun n : Int => Value.int .i64 n) I64 home), (1073, .spare 40 1 s6.1.length s6.1.length), (1071, MP 121 (fun n : Int => Value.int .i64 n) Slot.av s6.2.2), (1064, .box 59 [LS 1 (LS 4 Stowed.av) ([] : List (List Stowed)), LS 1 (LS 1 I64) ([] : List (List Int))]), (1065, .box 59 [OW 1073 1 (LS 4 Stowed.av) s6.1, LS 1 (LS 1 I64) s6.2.1])]) (fun i67 => i67) F (s56, false, 0) h ⟨⟨.same rfl, .same rfl, .same rfl, .same rfl, .same rfl, .same rfl, .same rfl, .same rfl, .same rfl, .same rfl, .same rfl, .same rfl, .same rfl, .same rfl, trivial⟩, ⟨⟨_, rfl, .map⟩, ⟨_, rfl, .same⟩, ⟨_, rfl, .map⟩, ⟨_, rfl, .boxL rfl ⟨.same rfl, .same rfl, trivial⟩⟩, ⟨_, rfl, .boxL rfl ⟨.same rfl, .same rfl, trivial⟩⟩, trivial⟩, rfl⟩ ?_
      clear h
      intro i67 s67 hi67 K67 e67
      obtain ⟨m67, nx67, hm_67, hn67, h⟩ := loop_out hi67
      replace h := app2 hb67 h
      refine Js (fun K68 hK68 => ?_)
      refine Js fun K69 hK69 => Jr ?_
      refine Jg (u := I64 s67.2.2) (Am rfl rfl) ?_ rfl rfl rfl
      refine Jg (u := .dptr [LS 12 Column.av s.Columns, LS 2 Cover.av s.Covers, I64 s.Light.Kilos, I64 s.Light.X, I64 s.Light.Y, I64 s.Light.Z, LS 5 Row.av s.Rows, LS 5 Frame.av s.Frames, LS 6 Tank.av s.Tanks, I64 s.Limits.Tolerance, I64 s.Limits.Trim, I64 s.Limits.List_, I64 s.Limits.Stability]) (A_fieldM tf_field_35_0 rfl rfl rfl) ?_ rfl rfl rfl
      refine Jg (u := LS 12 Column.av s.Columns) (A_load tf_scalar_25 rfl rfl rfl) ?_ rfl rfl rfl
      refine JL_lenM (f := Column.av) (xs := s.Columns) tf_slice_25 rfl rfl (fun hm108 => ?_) rfl rfl rfl
      refine Jg (u := BL (decide (s67.2.2 < (s.Columns.length : Int)))) (A_lss rfl rfl rfl) ?_ rfl rfl rfl
      refine Jg (u := BL (decide (s67.2.2 < (s.Columns.length : Int)))) (Am rfl rfl) ?_ rfl rfl rfl
      refine JL_opt (u := BL s67.2.1) [] rfl rfl rfl .sct trivial (fun hc => Am rfl rfl) ?_ rfl rfl rfl
      refine JL_opt (u := BL (!s67.2.1)) [(111, BL s67.2.1)] rfl rfl rfl .sct ⟨.all id, trivial⟩ (fun hc => A_not (b := s67.2.1) rfl rfl) ?_ rfl rfl rfl
      refine Jg (u := BL ((decide (s67.2.2 < (s.Columns.length : Int))) && (!s67.2.1))) (A_and rfl rfl rfl rfl) ?_ rfl rfl rfl
      refine Jn (hK69 _ _ ?_)
      refine JC_cond rfl (fun hb => ?_) (fun hb => ?_)
      ·
       replace h := bif_t hb h
       refine JC_skip ?_
       refine hK68 _ _ ?_
       obtain ⟨kj70, hkj70, h⟩ := jp_out h
       refine JC_seqJ (fun j70 : (List Stowed) × Bool => kj70 j70 = some r) (fun j70 => [(1, LS 9 Box.av boxes), (2, .mp 1023), (3, I64 calls), (4, .dptr [LS 12 Column.av s.Columns, LS 2 Cover.av s.Covers, I64 s.Light.Kilos, I64 s.Light.X, I64 s.Light.Y, I64 s.Light.Z, LS 5 Row.av s.Rows, LS 5 Frame.av s.Frames, LS 6 Tank.av s.Tanks, I64 s.Limits.Tolerance, I64 s.Limits.Trim, I64 s.Limits.List_, I64 s.Limits.Stability]), (8, .ptr 1064 0), (10, .ptr 1065 0), (12, I64 (i6 : Int)), (13, LS 4 Stowed.av j70.1), (21, .dptr (Box.cs y56)), (22, BL j70.2), (23, I64 s67.2.2), (83, LS 9 Box.av boxes), (84, I64 (boxes.length : Int)), (85, I64 (i56 : Int))]) (fun j70 => [(1023, MP 66 (fun n : Int => Value.int .i64 n) I64 home), (1073, .spare 40 1 s6.1.length s6.1.length), (1071, MP 121 (fun n : Int => Value.int .i64 n) Slot.av s6.2.2), (1064, .box 59 [LS 1 (LS 4 Stowed.av) ([] : List (List Stowed)), LS 1 (LS 1 I64) ([] : List (List Int))]), (1065, .box 59 [OW 1073 1 (LS 4 Stowed.av) s6.1, LS 1 (LS 1 I64) s6.2.1])]) (fun Kj70 ej70 => ?_) ?_
       ·
        refine JC_block ?_
        refine Js fun K71 hK71 => Jr ?_
        refine Jg (u := .agg [LS 12 Column.av s.Columns, LS 2 Cover.av s.Covers, I64 s.Light.Kilos, I64 s.Light.X, I64 s.Light.Y, I64 s.Light.Z, LS 5 Row.av s.Rows, LS 5 Frame.av s.Frames, LS 6 Tank.av s.Tanks, I64 s.Limits.Tolerance, I64 s.Limits.Trim, I64 s.Limits.List_, I64 s.Limits.Stability]) (A_loadAgg tf_agg_35 rfl rfl rfl) ?_ rfl rfl rfl
        refine Jg (u := .dptr ((Box.cs y56).drop 2)) (A_fieldM tf_field_50_2 rfl rfl rfl) ?_ rfl rfl rfl
        refine Jg (u := U8 y56.Size) (A_load tf_scalar_5 rfl rfl rfl) ?_ rfl rfl rfl
        obtain ⟨r72, hr72, h⟩ := bnd_out h
        refine Jg (u := LS 3 Slot.av r72) (A_call1 (args := [.agg [LS 12 Column.av s.Columns, LS 2 Cover.av s.Covers, I64 s.Light.Kilos, I64 s.Light.X, I64 s.Light.Y, I64 s.Light.Z, LS 5 Row.av s.Rows, LS 5 Frame.av s.Frames, LS 6 Tank.av s.Tanks, I64 s.Limits.Tolerance, I64 s.Limits.Trim, I64 s.Limits.List_, I64 s.Limits.Stability], U8 y56.Size]) rfl (M_slot_All_w s y56.Size r72 hr72) tf_call_18 ⟨rfl, rfl, rfl, rfl, trivial⟩) ?_ rfl rfl rfl
        refine JL_lenM (f := Slot.av) (xs := r72) tf_slice_77 rfl rfl (fun hm120 => ?_) rfl rfl rfl
        refine Jg (u := I64 0) (Am rfl rfl) ?_ rfl rfl rfl
        refine Jn (hK71 _ _ ?_)
        refine JC_block ?_
        obtain ⟨b99, kx99, hb99, hkx99, h⟩ := each_in h
        refine JC_loop2 (fun i99 (s99 : (List Stowed) × Bool) => each b99 kx99 (List.drop i99 r72) i99 s99 = some r) (fun i99 s99 => [(1, LS 9 Box.av boxes), (2, .mp 1023), (3, I64 calls), (4, .dptr [LS 12 Column.av s.Columns, LS 2 Cover.av s.Covers, I64 s.Light.Kilos, I64 s.Light.X, I64 s.Light.Y, I64 s.Light.Z, LS 5 Row.av s.Rows, LS 5 Frame.av s.Frames, LS 6 Tank.av s.Tanks, I64 s.Limits.Tolerance, I64 s.Limits.Trim, I64 s.Limits.List_, I64 s.Limits.Stability]), (8, .ptr 1064 0), (10, .ptr 1065 0), (12, I64 (i6 : Int)), (13, LS 4 Stowed.av s99.1), (21, .dptr (Box.cs y56)), (22, BL s99.2), (23, I64 s67.2.2), (83, LS 9 Box.av boxes), (84, I64 (boxes.length : Int)), (85, I64 (i56 : Int)), (119, LS 3 Slot.av r72), (120, I64 (r72.length : Int)), (121, I64 (i99 : Int))]) (fun i99 s99 => [(1023, MP 66 (fun n : Int => Value.int .i64 n) I64 home), (1073, .spare 40 1 s6.1.length s6.1.length), (1071, MP 121 (fun n : Int => Value.int .i64 n) Slot.av s6.2.2), (1064, .box 59 [LS 1 (LS 4 Stowed.av) ([] : List (List Stowed)), LS 1 (LS 1 I64) ([] : List (List Int))]), (1065, .box 59 [OW 1073 1 (LS 4 Stowed.av) s6.1, LS 1 (LS 1 I64) s6.2.1])]) (fun i99 => r72.length - i99) 0 (s67.1, s67.2.1) h ⟨⟨.same rfl, .same rfl, .same rfl, .same rfl, .same rfl, .same rfl, .same rfl, .same rfl, .same rfl, .same rfl, .same rfl, .same rfl, .same rfl, .same rfl, .same rfl, .same rfl, .same rfl, trivial⟩, ⟨⟨_, rfl, .map⟩, ⟨_, rfl, .same⟩, ⟨_, rfl, .map⟩, ⟨_, rfl, .boxL rfl ⟨.same rfl, .same rfl, trivial⟩⟩, ⟨_, rfl, .boxL rfl ⟨.same rfl, .same rfl, trivial⟩⟩, trivial⟩, rfl⟩ ?_
        clear h
        intro i99 s99 hi99 K99 e99
        refine Js fun K100 hK100 => Jr ?_
        refine Jg (u := BL (decide ((i99 : Int) < (r72.length : Int)))) (A_lss rfl rfl rfl) ?_ rfl rfl rfl
        refine Jn (hK100 _ _ ?_)
        refine Js (fun K101 hK101 => ?_)
        refine JC_cond rfl (fun hb => ?_) (fun hb => ?_)
        ·
         have hk99 := lt_len hb
         obtain ⟨y99, nx99, hy99, hn99, h⟩ := each_out hi99 hk99
         replace h := app4 hb99 h
         refine JC_skip ?_
         refine hK101 _ _ ?_
         refine Js (fun K102 hK102 => ?_)
         refine JC_block ?_
         refine Js fun K103 hK103 => Jr ?_
         refine Jg (u := .dptr (Slot.cs y99)) (A_indexM (f := Slot.av) (xs := r72) (y := y99) rfl rfl rfl tf_slice_77 hy99 rfl) ?_ rfl rfl rfl
         refine Jg (u := .agg (Slot.cs y99)) (A_loadAgg tf_agg_80 rfl rfl rfl) ?_ rfl rfl rfl
         refine Jg (u := .ptr 1069 0) (A_allocJ 1069 3 tf_zsize_80 rfl rfl) ?_ rfl rfl rfl
         refine JL_go0 (u := .junk) (A_store (u := .agg (Slot.cs y99)) (ds := [I64 y99.Column, I64 y99.Tier, U8 y99.Half]) tf_size_80 rfl rfl rfl rfl rfl rfl rfl rfl) ?_ rfl rfl
         refine Jn (hK103 _ _ ?_)
         refine JC_freeze [(1, LS 9 Box.av boxes), (2, .mp 1023), (3, I64 calls), (4, .dptr [LS 12 Column.av s.Columns, LS 2 Cover.av s.Covers, I64 s.Light.Kilos, I64 s.Light.X, I64 s.Light.Y, I64 s.Light.Z, LS 5 Row.av s.Rows, LS 5 Frame.av s.Frames, LS 6 Tank.av s.Tanks, I64 s.Limits.Tolerance, I64 s.Limits.Trim, I64 s.Limits.List_, I64 s.Limits.Stability]), (8, .ptr 1064 0), (10, .ptr 1065 0), (12, I64 (i6 : Int)), (13, LS 4 Stowed.av s99.1), (21, .dptr (Box.cs y56)), (22, BL s99.2), (23, I64 s67.2.2), (25, .dptr (Slot.cs y99)), (83, LS 9 Box.av boxes), (84, I64 (boxes.length : Int)), (85, I64 (i56 : Int)), (119, LS 3 Slot.av r72), (120, I64 (r72.length : Int)), (121, I64 (i99 : Int))] [(1023, MP 66 (fun n : Int => Value.int .i64 n) I64 home), (1073, .spare 40 1 s6.1.length s6.1.length), (1071, MP 121 (fun n : Int => Value.int .i64 n) Slot.av s6.2.2), (1064, .box 59 [LS 1 (LS 4 Stowed.av) ([] : List (List Stowed)), LS 1 (LS 1 I64) ([] : List (List Int))]), (1065, .box 59 [OW 1073 1 (LS 4 Stowed.av) s6.1, LS 1 (LS 1 I64) s6.2.1])] 1069 rfl rfl rfl ⟨⟨_, rfl, .map⟩, ⟨_, rfl, .same⟩, ⟨_, rfl, .map⟩, ⟨_, rfl, .boxEq rfl rfl⟩, ⟨_, rfl, .boxEq rfl rfl⟩, trivial⟩ rfl (by exact ⟨.conv (.same rfl), .conv (.same rfl), .conv (.same rfl), .conv (.same rfl), .conv (.same rfl), .conv (.same rfl), .conv (.same rfl), .conv (.same rfl), .conv (.same rfl), .conv (.same rfl), .conv (.same rfl), .ptr, .conv (.same rfl), .conv (.same rfl), .conv (.same rfl), .conv (.same rfl), .conv (.same rfl), .conv (.same rfl), trivial⟩) ?_
         refine Js fun K104 hK104 => Jr ?_
         refine Jg (u := LS 4 Stowed.av s99.1) (Am rfl rfl) ?_ rfl rfl rfl
         refine Jg (u := .dptr (Box.cs y56)) (A_fieldM tf_field_50_0 rfl rfl rfl) ?_ rfl rfl rfl
         refine Jg (u := I64 y56.ID) (A_load tf_scalar_3 rfl rfl rfl) ?_ rfl rfl rfl
         refine Jg (u := .agg (Slot.cs y99)) (A_loadAgg tf_agg_80 rfl rfl rfl) ?_ rfl rfl rfl
         refine Jg (u := .agg [I64 y56.ID, I64 y99.Column, I64 y99.Tier, U8 y99.Half]) (A_buildZ (cs := [I64 y56.ID, I64 y99.Column, I64 y99.Tier, U8 y99.Half]) [(0, 1), (1, 3)] [I64 0, I64 0, I64 0, U8 0] [.int .i64 0, .int .i64 0, .int .i64 0, .int .u8 0] tf_places_82 tf_zero_82 ⟨.inl rfl, .inl rfl, .inl rfl, .inl rfl, trivial⟩ rfl rfl) ?_ rfl rfl rfl
         obtain ⟨r105, hr105, h⟩ := bnd_out h
         refine Jg (u := LS 4 Stowed.av r105) (A_call1 (args := [LS 4 Stowed.av s99.1, .agg [I64 y56.ID, I64 y99.Column, I64 y99.Tier, U8 y99.Half]]) rfl (M_twistlocklaw23_with_w s99.1 (Stowed.mk y56.ID y99) r105 hr105) tf_call_50 ⟨rfl, rfl, rfl, rfl, trivial⟩) ?_ rfl rfl rfl
         refine Jg (u := LS 4 Stowed.av r105) (Aa rfl rfl) ?_ rfl rfl rfl
         refine Jn (hK104 _ _ ?_)
         refine Js (fun K106 hK106 => ?_)
         refine JC_fits (l' := [(1, LS 9 Box.av boxes), (2, .mp 1023), (3, I64 calls), (4, .dptr [LS 12 Column.av s.Columns, LS 2 Cover.av s.Covers, I64 s.Light.Kilos, I64 s.Light.X, I64 s.Light.Y, I64 s.Light.Z, LS 5 Row.av s.Rows, LS 5 Frame.av s.Frames, LS 6 Tank.av s.Tanks, I64 s.Limits.Tolerance, I64 s.Limits.Trim, I64 s.Limits.List_, I64 s.Limits.Stability]), (8, .ptr 1064 0), (10, .ptr 1065 0), (12, I64 (i6 : Int)), (13, LS 4 Stowed.av s99.1), (21, .dptr (Box.cs y56)), (22, BL s99.2), (23, I64 s67.2.2), (25, .dptr (Slot.cs y99)), (26, LS 4 Stowed.av r105), (83, LS 9 Box.av boxes), (84, I64 (boxes.length : Int)), (85, I64 (i56 : Int)), (119, LS 3 Slot.av r72), (120, I64 (r72.length : Int)), (121, I64 (i99 : Int))]) (L' := [(1023, MP 66 (fun n : Int => Value.int .i64 n) I64 home), (1073, .spare 40 1 s6.1.length s6.1.length), (1071, MP 121 (fun n : Int => Value.int .i64 n) Slot.av s6.2.2), (1064, .box 59 [LS 1 (LS 4 Stowed.av) ([] : List (List Stowed)), LS 1 (LS 1 I64) ([] : List (List Int))]), (1065, .box 59 [OW 1073 1 (LS 4 Stowed.av) s6.1, LS 1 (LS 1 I64) s6.2.1])]) ⟨⟨.same rfl, .same rfl, .same rfl, .same rfl, .same rfl, .same rfl, .same rfl, .same rfl, .same rfl, .same rfl, .same rfl, .same rfl, .same rfl, .same rfl, .same rfl, .same rfl, .same rfl, .same rfl, .same rfl, trivial⟩, ⟨⟨_, rfl, .map⟩, ⟨_, rfl, .same⟩, ⟨_, rfl, .map⟩, ⟨_, rfl, .boxL rfl ⟨.same rfl, .same rfl, trivial⟩⟩, ⟨_, rfl, .boxL rfl ⟨.same rfl, .same rfl, trivial⟩⟩, trivial⟩, rfl⟩ ?_
         obtain ⟨v107, hv107, h⟩ := bnd_out h
         obtain ⟨v108, hv108, h⟩ := chk_out h
         obtain ⟨v109, hv109, h⟩ := bnd_out h
         obtain ⟨r110, hr110, h⟩ := bnd_out h
         refine JC_draw [] [0, 0, 0, 0, 0, 0, 0, 0, 0, 0, 0, 0, 0, 0, 0, 0, 0, 0, 0] [0, 0, 0, 0, 0, 0, 0, 0, 0, 0, 0, 0, 0, 0, 0, 0, 0, 0, 0] [[(1023, MP 66 (fun n : Int => Value.int .i64 n) I64 home), (1073, .spare 40 1 s6.1.length s6.1.length), (1071, MP 121 (fun n : Int => Value.int .i64 n) Slot.av s6.2.2), (1064, .box 59 [LS 1 (LS 4 Stowed.av) ([] : List (List Stowed)), LS 1 (LS 1 I64) ([] : List (List Int))]), (1065, .box 59 [OW 1073 1 (LS 4 Stowed.av) s6.1, LS 1 (LS 1 I64) s6.2.1])]] tf_mixed (by kernel_rfl) rfl rfl ?_
         refine D_ro (u := .dptr (Slot.cs y99)) rfl rfl ⟨O_go (A_fieldM tf_field_80_0 rfl rfl rfl) rfl, trivial⟩ ?_ rfl
         refine D_ro (u := I64 y99.Column) rfl rfl ⟨O_go (A_load tf_scalar_3 rfl rfl rfl) rfl, trivial⟩ ?_ rfl
         refine D_ro (u := .mp 1023) rfl rfl ⟨O_go (Am rfl rfl) rfl, trivial⟩ ?_ rfl
         refine D_ro (u := .dptr (Box.cs y56)) rfl rfl ⟨O_go (A_fieldM tf_field_50_0 rfl rfl rfl) rfl, trivial⟩ ?_ rfl
         refine D_ro (u := I64 y56.ID) rfl rfl ⟨O_go (A_load tf_scalar_3 rfl rfl rfl) rfl, trivial⟩ ?_ rfl
         refine D_ro (u := I64 v107) rfl rfl ⟨O_go (((Option.some.inj hv107) ▸ A_lookupM0 (av := I64) (m := home) (a := y56.ID) 0 (.int .i64 0) rfl rfl rfl rfl tk_3 tf_map_66 tf_zv_3 rfl)) rfl, trivial⟩ ?_ rfl
         refine D_ro (u := I64 s67.2.2) rfl rfl ⟨O_go (Am rfl rfl) rfl, trivial⟩ ?_ rfl
         refine D_ro (u := I64 v108) rfl rfl ⟨O_go (A_add hv108 rfl rfl rfl) rfl, trivial⟩ ?_ rfl
         refine D_ro (u := .dptr [LS 12 Column.av s.Columns, LS 2 Cover.av s.Covers, I64 s.Light.Kilos, I64 s.Light.X, I64 s.Light.Y, I64 s.Light.Z, LS 5 Row.av s.Rows, LS 5 Frame.av s.Frames, LS 6 Tank.av s.Tanks, I64 s.Limits.Tolerance, I64 s.Limits.Trim, I64 s.Limits.List_, I64 s.Limits.Stability]) rfl rfl ⟨O_go (A_fieldM tf_field_35_0 rfl rfl rfl) rfl, trivial⟩ ?_ rfl
         refine D_ro (u := LS 12 Column.av s.Columns) rfl rfl ⟨O_go (A_load tf_scalar_25 rfl rfl rfl) rfl, trivial⟩ ?_ rfl
         refine D_ro (u := I64 (s.Columns.length : Int)) rfl rfl ⟨O_go (A_lenM (f := Column.av) (xs := s.Columns) tf_slice_25 rfl rfl) rfl, trivial⟩ ?_ rfl
         refine D_ro (u := I64 v109) rfl rfl ⟨O_go (A_rem (rem64_out hv109).1 (rem64_out hv109).2 rfl rfl rfl) rfl, trivial⟩ ?_ rfl
         refine D_ro (u := BL (decide (y99.Column = v109))) rfl rfl ⟨O_go (A_eql rfl rfl rfl) rfl, trivial⟩ ?_ rfl
         refine D_ro (u := BL (decide (y99.Column = v109))) rfl rfl ⟨O_go (Am rfl rfl) rfl, trivial⟩ ?_ rfl
         refine D_ro (u := .opt (decide (y99.Column = v109)) (.agg [LS 12 Column.av s.Columns, LS 2 Cover.av s.Covers, I64 s.Light.Kilos, I64 s.Light.X, I64 s.Light.Y, I64 s.Light.Z, LS 5 Row.av s.Rows, LS 5 Frame.av s.Frames, LS 6 Tank.av s.Tanks, I64 s.Limits.Tolerance, I64 s.Limits.Trim, I64 s.Limits.List_, I64 s.Limits.Stability])) rfl rfl ⟨O_opt [] rfl rfl rfl .sct trivial (fun hc => A_loadAgg tf_agg_35 rfl rfl rfl) rfl, trivial⟩ ?_ rfl
         refine D_ro (u := .opt (decide (y99.Column = v109)) (LS 9 Box.av boxes)) rfl rfl ⟨O_opt [] rfl rfl rfl .sct trivial (fun hc => Am rfl rfl) rfl, trivial⟩ ?_ rfl
         refine D_ro (u := .opt (decide (y99.Column = v109)) (LS 4 Stowed.av r105)) rfl rfl ⟨O_opt [] rfl rfl rfl .sct trivial (fun hc => Am rfl rfl) rfl, trivial⟩ ?_ rfl
         refine D_ro (u := .opt (decide (y99.Column = v109)) (BL r110)) rfl rfl ⟨O_opt [(145, .agg [LS 12 Column.av s.Columns, LS 2 Cover.av s.Covers, I64 s.Light.Kilos, I64 s.Light.X, I64 s.Light.Y, I64 s.Light.Z, LS 5 Row.av s.Rows, LS 5 Frame.av s.Frames, LS 6 Tank.av s.Tanks, I64 s.Limits.Tolerance, I64 s.Limits.Trim, I64 s.Limits.List_, I64 s.Limits.Stability]), (146, LS 9 Box.av boxes), (147, LS 4 Stowed.av r105)] rfl rfl rfl .sct ⟨.all id, .all id, .all id, trivial⟩ (fun hc => A_call1 (args := [.agg [LS 12 Column.av s.Columns, LS 2 Cover.av s.Covers, I64 s.Light.Kilos, I64 s.Light.X, I64 s.Light.Y, I64 s.Light.Z, LS 5 Row.av s.Rows, LS 5 Frame.av s.Frames, LS 6 Tank.av s.Tanks, I64 s.Limits.Tolerance, I64 s.Limits.Trim, I64 s.Limits.List_, I64 s.Limits.Stability], LS 9 Box.av boxes, LS 4 Stowed.av r105]) rfl (M_stow_Right_w s boxes r105 r110 (bif_t hc hr110)) tf_call_19 ⟨rfl, rfl, rfl, rfl, rfl, rfl, trivial⟩) rfl, trivial⟩ ?_ rfl
         refine D_ro (u := BL ((decide (y99.Column = v109)) && r110)) rfl rfl ⟨O_go (A_and rfl rfl rfl rfl) rfl, trivial⟩ ?_ rfl
         refine D_nil ?_
         refine hK106 _ _ ?_
         refine JC_cond rfl (fun hb => ?_) (fun hb => ?_)
         ·
          replace h := bif_t hb h
          refine Js fun K111 hK111 => Jr ?_
          refine Jg (u := LS 4 Stowed.av r105) (Am rfl rfl) ?_ rfl rfl rfl
          refine Jg (u := LS 4 Stowed.av r105) (Aa rfl rfl) ?_ rfl rfl rfl
          refine Jg (u := BL true) (Aa rfl rfl) ?_ rfl rfl rfl
          refine Jn (hK111 _ _ ?_)
          refine JC_exit ?_
          exact ej70 _ _ (r105, true) h ⟨⟨.same rfl, .same rfl, .same rfl, .same rfl, .same rfl, .same rfl, .same rfl, .same rfl, .same rfl, .same rfl, .same rfl, .same rfl, .same rfl, .same rfl, trivial⟩, ⟨⟨_, rfl, .map⟩, ⟨_, rfl, .same⟩, ⟨_, rfl, .map⟩, ⟨_, rfl, .boxL rfl ⟨.same rfl, .same rfl, trivial⟩⟩, ⟨_, rfl, .boxL rfl ⟨.same rfl, .same rfl, trivial⟩⟩, trivial⟩, rfl⟩
         ·
          replace h := bif_f hb h
          refine JC_skip ?_
          refine hK102 _ _ ?_
          refine Jr ?_
          refine Jg (u := I64 ((i99 + 1 : Nat) : Int)) (A_add (idx_succ hk99 hm120) rfl rfl rfl) ?_ rfl rfl rfl
          refine Jg (u := I64 ((i99 + 1 : Nat) : Int)) (Am rfl rfl) ?_ rfl rfl rfl
          refine Jn ?_
          exact e99 _ _ (i99 + 1) (s99.1, s99.2) (app1 hn99 h) (by omega) ⟨⟨.same rfl, .same rfl, .same rfl, .same rfl, .same rfl, .same rfl, .same rfl, .same rfl, .same rfl, .same rfl, .same rfl, .same rfl, .same rfl, .same rfl, .same rfl, .same rfl, .same rfl, trivial⟩, ⟨⟨_, rfl, .map⟩, ⟨_, rfl, .same⟩, ⟨_, rfl, .map⟩, ⟨_, rfl, .boxL rfl ⟨.same rfl, .same rfl, trivial⟩⟩, ⟨_, rfl, .boxL rfl ⟨.same rfl, .same rfl, trivial⟩⟩, trivial⟩, rfl⟩
        ·
         have h := app1 hkx99 (each_nil hi99 (not_lt_len hb))
         refine JC_exit ?_
         exact ej70 _ _ (s99.1, s99.2) h ⟨⟨.same rfl, .same rfl, .same rfl, .same rfl, .same rfl, .same rfl, .same rfl, .same rfl, .same rfl, .same rfl, .same rfl, .same rfl, .same rfl, .same rfl, trivial⟩, ⟨⟨_, rfl, .map⟩, ⟨_, rfl, .same⟩, ⟨_, rfl, .map⟩, ⟨_, rfl, .boxL rfl ⟨.same rfl, .same rfl, trivial⟩⟩, ⟨_, rfl, .boxL rfl ⟨.same rfl, .same rfl, trivial⟩⟩, trivial⟩, rfl⟩
       ·intro j70 h
        replace h := app1 hkj70 h
        refine Jr ?_
        refine Jg (u := I64 s67.2.2) (Am rfl rfl) ?_ rfl rfl rfl
        obtain ⟨v112, hv112, h⟩ := chk_out h
        refine Jg (u := I64 v112) (A_add hv112 rfl rfl rfl) ?_ rfl rfl rfl
        refine Jg (u := I64 v112) (Aa rfl rfl) ?_ rfl rfl rfl
        refine Jn ?_
        exact e67 _ _ m67 (j70.1, j70.2, v112) (app1 hn67 h) (by omega) ⟨⟨.same rfl, .same rfl, .same rfl, .same rfl, .same rfl, .same rfl, .same rfl, .same rfl, .same rfl, .same rfl, .same rfl, .same rfl, .same rfl, .same rfl, trivial⟩, ⟨⟨_, rfl, .map⟩, ⟨_, rfl, .same⟩, ⟨_, rfl, .map⟩, ⟨_, rfl, .boxL rfl ⟨.same rfl, .same rfl, trivial⟩⟩, ⟨_, rfl, .boxL rfl ⟨.same rfl, .same rfl, trivial⟩⟩, trivial⟩, rfl⟩
      ·
       replace h := bif_f hb h
       refine JC_exit ?_
       refine hK65 _ _ ?_
       refine Js fun K113 hK113 => Jr ?_
       refine Jg (u := BL s67.2.1) (Am rfl rfl) ?_ rfl rfl rfl
       refine Jg (u := BL (!s67.2.1)) (A_not (b := s67.2.1) rfl rfl) ?_ rfl rfl rfl
       refine Jn (hK113 _ _ ?_)
       refine JC_cond rfl (fun hb => ?_) (fun hb => ?_)
       ·
        replace h := bif_t hb h
        refine Js (fun K114 hK114 => ?_)
        refine JC_fits (l' := [(8, .ptr 1064 0), (21, .dptr (Box.cs y56))]) (L' := [(1023, MP 66 (fun n : Int => Value.int .i64 n) I64 home), (1073, .spare 40 1 s6.1.length s6.1.length), (1071, MP 121 (fun n : Int => Value.int .i64 n) Slot.av s6.2.2), (1064, .box 59 [LS 1 (LS 4 Stowed.av) ([] : List (List Stowed)), LS 1 (LS 1 I64) ([] : List (List Int))]), (1065, .box 59 [OW 1073 1 (LS 4 Stowed.av) s6.1, LS 1 (LS 1 I64) s6.2.1])]) ⟨⟨.same rfl, .same rfl, trivial⟩, ⟨⟨_, rfl, .map⟩, ⟨_, rfl, .same⟩, ⟨_, rfl, .map⟩, ⟨_, rfl, .boxL rfl ⟨.same rfl, .same rfl, trivial⟩⟩, ⟨_, rfl, .boxL rfl ⟨.same rfl, .same rfl, trivial⟩⟩, trivial⟩, rfl⟩ ?_
        refine JC_draw [3] [0, 0, 0, 0, 1] [0, 1, 1, 0, 1] [[(1023, MP 66 (fun n : Int => Value.int .i64 n) I64 home), (1073, .spare 40 1 s6.1.length s6.1.length), (1071, MP 121 (fun n : Int => Value.int .i64 n) Slot.av s6.2.2), (1064, .box 59 [LS 1 (LS 4 Stowed.av) ([] : List (List Stowed)), LS 1 (LS 1 I64) ([] : List (List Int))]), (1065, .box 59 [OW 1073 1 (LS 4 Stowed.av) s6.1, LS 1 (LS 1 I64) s6.2.1])], ((1064, .box 59 [LS 1 (LS 4 Stowed.av) ([] : List (List Stowed)), LS 1 (LS 1 I64) ([] : List (List Int))]) :: [(1023, MP 66 (fun n : Int => Value.int .i64 n) I64 home), (1073, .spare 40 1 s6.1.length s6.1.length), (1071, MP 121 (fun n : Int => Value.int .i64 n) Slot.av s6.2.2), (1064, .box 59 [LS 1 (LS 4 Stowed.av) ([] : List (List Stowed)), LS 1 (LS 1 I64) ([] : List (List Int))]), (1065, .box 59 [OW 1073 1 (LS 4 Stowed.av) s6.1, LS 1 (LS 1 I64) s6.2.1])])] tf_mixed (by kernel_rfl) rfl rfl ?_
        refine D_ro (u := .agg [LS 1 (LS 4 Stowed.av) ([] : List (List Stowed)), LS 1 (LS 1 I64) ([] : List (List Int))]) rfl rfl ⟨O_go (A_buildZ (cs := [LS 1 (LS 4 Stowed.av) ([] : List (List Stowed)), LS 1 (LS 1 I64) ([] : List (List Int))]) [(0, 1), (1, 1)] [LS 1 (LS 4 Stowed.av) ([] : List (List Stowed)), LS 1 (LS 1 I64) ([] : List (List Int))] [.slice none 0 0, .slice none 0 0] tf_places_59 tf_zero_59 ⟨.inr ⟨_, rfl, rfl⟩, .inr ⟨_, rfl, rfl⟩, trivial⟩ rfl rfl) rfl, trivial⟩ ?_ rfl
        refine D_ro (u := .dptr (Box.cs y56)) rfl rfl ⟨O_go (A_fieldM tf_field_50_0 rfl rfl rfl) rfl, O_go (A_fieldM tf_field_50_0 rfl rfl rfl) rfl, trivial⟩ ?_ rfl
        refine D_ro (u := I64 y56.ID) rfl rfl ⟨O_go (A_load tf_scalar_3 rfl rfl rfl) rfl, O_go (A_load tf_scalar_3 rfl rfl rfl) rfl, trivial⟩ ?_ rfl
        refine D_w0 (u := .junk) rfl rfl rfl rfl (O_go (A_store (u := .agg [LS 1 (LS 4 Stowed.av) ([] : List (List Stowed)), LS 1 (LS 1 I64) ([] : List (List Int))]) (ds := [LS 1 (LS 4 Stowed.av) ([] : List (List Stowed)), LS 1 (LS 1 I64) ([] : List (List Int))]) tf_size_59 rfl rfl rfl rfl rfl rfl rfl rfl) rfl) ?_
        refine D_ro (u := I64 y56.ID) rfl rfl ⟨O_go (Aa rfl rfl) rfl, trivial⟩ ?_ rfl
        refine D_nil ?_
        refine hK114 _ _ ?_
        refine JC_fits (l' := [(8, .ptr 1064 0), (9, I64 y56.ID)]) (L' := [(1023, MP 66 (fun n : Int => Value.int .i64 n) I64 home), (1071, MP 121 (fun n : Int => Value.int .i64 n) Slot.av s6.2.2), (1064, .box 59 [LS 1 (LS 4 Stowed.av) ([] : List (List Stowed)), LS 1 (LS 1 I64) ([] : List (List Int))]), (1065, .box 59 [LS 1 (LS 4 Stowed.av) s6.1, LS 1 (LS 1 I64) s6.2.1])]) ⟨⟨.same rfl, .same rfl, trivial⟩, ⟨⟨_, rfl, .map⟩, ⟨_, rfl, .map⟩, ⟨_, rfl, .boxL rfl ⟨.same rfl, .same rfl, trivial⟩⟩, ⟨_, rfl, .boxL rfl ⟨.list rfl, .same rfl, trivial⟩⟩, trivial⟩, rfl⟩ ?_
        refine JC_freeze [(8, .ptr 1064 0), (9, I64 y56.ID)] [(1023, MP 66 (fun n : Int => Value.int .i64 n) I64 home), (1071, MP 121 (fun n : Int => Value.int .i64 n) Slot.av s6.2.2), (1064, .box 59 [LS 1 (LS 4 Stowed.av) ([] : List (List Stowed)), LS 1 (LS 1 I64) ([] : List (List Int))])] 1065 rfl rfl rfl ⟨⟨_, rfl, .map⟩, ⟨_, rfl, .map⟩, ⟨_, rfl, .boxEq rfl rfl⟩, trivial⟩ rfl (by exact ⟨.conv (.same rfl), .conv (.same rfl), trivial⟩) ?_
        refine JC_ret ?_
        obtain rfl := Option.some.inj h
        exact ⟨[.agg [LS 1 (LS 4 Stowed.av) ([] : List (List Stowed)), LS 1 (LS 1 I64) ([] : List (List Int))], I64 y56.ID], [(1023, MP 66 (fun n : Int => Value.int .i64 n) I64 home)], ⟨⟨_, rfl, .map⟩, trivial⟩, rfl, ⟨⟨_, ⟨_, _, _, _, rfl, rfl, rfl, .inl ⟨tf_agg_59, rfl⟩⟩, .conv (.same rfl)⟩, ⟨_, rfl, .conv (.same rfl)⟩, trivial⟩, rfl, rfl⟩
       ·
        replace h := bif_f hb h
        refine JC_skip ?_
        exact ej59 _ _ s67.1 h ⟨⟨.same rfl, .same rfl, .same rfl, .same rfl, .same rfl, .same rfl, .same rfl, .same rfl, .same rfl, .same rfl, .same rfl, trivial⟩, ⟨⟨_, rfl, .map⟩, ⟨_, rfl, .same⟩, ⟨_, rfl, .map⟩, ⟨_, rfl, .boxL rfl ⟨.same rfl, .same rfl, trivial⟩⟩, ⟨_, rfl, .boxL rfl ⟨.same rfl, .same rfl, trivial⟩⟩, trivial⟩, rfl⟩
    ·intro j59 h
     replace h := app1 hkj59 h
     refine Jr ?_
     refine Jg (u := I64 ((i56 + 1 : Nat) : Int)) (A_add (idx_succ hk56 hm84) rfl rfl rfl) ?_ rfl rfl rfl
     refine Jg (u := I64 ((i56 + 1 : Nat) : Int)) (Am rfl rfl) ?_ rfl rfl rfl
     refine Jn ?_
     exact e56 _ _ (i56 + 1) j59 (app1 hn56 h) (by omega) ⟨⟨.same rfl, .same rfl, .same rfl, .same rfl, .same rfl, .same rfl, .same rfl, .same rfl, .same rfl, .same rfl, .same rfl, trivial⟩, ⟨⟨_, rfl, .map⟩, ⟨_, rfl, .same⟩, ⟨_, rfl, .map⟩, ⟨_, rfl, .boxL rfl ⟨.same rfl, .same rfl, trivial⟩⟩, ⟨_, rfl, .boxL rfl ⟨.same rfl, .same rfl, trivial⟩⟩, trivial⟩, rfl⟩
   ·
    have h := app1 hkx56 (each_nil hi56 (not_lt_len hb))
    refine JC_exit ?_
    refine hK54 _ _ ?_
    refine Js fun K115 hK115 => Jr ?_
    refine Jg (u := .mp 1072) (A_makeMapM 1072 (fun n : Int => Value.int .i64 n) Slot.av rfl rfl) ?_ rfl rfl rfl
    refine Jg (u := .mp 1072) (Aa rfl rfl) ?_ rfl rfl rfl
    refine JL_rename 1071 1072 (MP 121 (fun n : Int => Value.int .i64 n) Slot.av (AMap.empty : AMap Int Slot)) [(1, LS 9 Box.av boxes), (2, .mp 1023), (3, I64 calls), (4, .dptr [LS 12 Column.av s.Columns, LS 2 Cover.av s.Covers, I64 s.Light.Kilos, I64 s.Light.X, I64 s.Light.Y, I64 s.Light.Z, LS 5 Row.av s.Rows, LS 5 Frame.av s.Frames, LS 6 Tank.av s.Tanks, I64 s.Limits.Tolerance, I64 s.Limits.Trim, I64 s.Limits.List_, I64 s.Limits.Stability]), (8, .ptr 1064 0), (10, .ptr 1065 0), (12, I64 (i6 : Int)), (13, LS 4 Stowed.av s56), (83, LS 9 Box.av boxes), (84, I64 (boxes.length : Int)), (85, I64 (i56 : Int)), (86, BL (decide ((i56 : Int) < (boxes.length : Int)))), (158, .mp 1072), (11, .mp 1072)] [(1, LS 9 Box.av boxes), (2, .mp 1023), (3, I64 calls), (4, .dptr [LS 12 Column.av s.Columns, LS 2 Cover.av s.Covers, I64 s.Light.Kilos, I64 s.Light.X, I64 s.Light.Y, I64 s.Light.Z, LS 5 Row.av s.Rows, LS 5 Frame.av s.Frames, LS 6 Tank.av s.Tanks, I64 s.Limits.Tolerance, I64 s.Limits.Trim, I64 s.Limits.List_, I64 s.Limits.Stability]), (8, .ptr 1064 0), (10, .ptr 1065 0), (12, I64 (i6 : Int)), (13, LS 4 Stowed.av s56), (83, LS 9 Box.av boxes), (84, I64 (boxes.length : Int)), (85, I64 (i56 : Int)), (86, BL (decide ((i56 : Int) < (boxes.length : Int)))), (158, .mp 1071), (11, .mp 1071)] [(1023, MP 66 (fun n : Int => Value.int .i64 n) I64 home), (1073, .spare 40 1 s6.1.length s6.1.length), (1064, .box 59 [LS 1 (LS 4 Stowed.av) ([] : List (List Stowed)), LS 1 (LS 1 I64) ([] : List (List Int))]), (1065, .box 59 [OW 1073 1 (LS 4 Stowed.av) s6.1, LS 1 (LS 1 I64) s6.2.1])] ⟨_, _, rfl⟩ ⟨⟨.same rfl, .same rfl, .same rfl, .same rfl, .same rfl, .same rfl, .same rfl, .same rfl, .same rfl, .same rfl, .same rfl, .same rfl, .same rfl, .same rfl, trivial⟩, ⟨⟨_, rfl, .map⟩, ⟨_, rfl, .map⟩, ⟨_, rfl, .same⟩, ⟨_, rfl, .boxL rfl ⟨.same rfl, .same rfl, trivial⟩⟩, ⟨_, rfl, .boxL rfl ⟨.same rfl, .same rfl, trivial⟩⟩, trivial⟩, rfl⟩ rfl rfl rfl rfl rfl ⟨⟨_, rfl, .map⟩, ⟨_, rfl, .same⟩, ⟨_, rfl, .boxEq rfl rfl⟩, ⟨_, rfl, .boxEq rfl rfl⟩, trivial⟩ ⟨.inr ⟨rfl, rfl⟩, ⟨.inr ⟨rfl, rfl⟩, ⟨.inr ⟨rfl, rfl⟩, ⟨.inr ⟨rfl, rfl⟩, ⟨.inr ⟨rfl, rfl⟩, ⟨.inr ⟨rfl, rfl⟩, ⟨.inr ⟨rfl, rfl⟩, ⟨.inr ⟨rfl, rfl⟩, ⟨.inr ⟨rfl, rfl⟩, ⟨.inr ⟨rfl, rfl⟩, ⟨.inr ⟨rfl, rfl⟩, ⟨.inr ⟨rfl, rfl⟩, ⟨.inl ⟨rfl, rfl⟩, ⟨.inl ⟨rfl, rfl⟩, trivial⟩⟩⟩⟩⟩⟩⟩⟩⟩⟩⟩⟩⟩⟩ ?_
    refine Jn (hK115 _ _ ?_)
    refine Js (fun K116 hK116 => ?_)
    refine Js fun K117 hK117 => Jr ?_
    refine Jg (u := LS 4 Stowed.av s56) (Am rfl rfl) ?_ rfl rfl rfl
    refine JL_lenM (f := Stowed.av) (xs := s56) tf_slice_40 rfl rfl (fun hm160 => ?_) rfl rfl rfl
    refine Jg (u := I64 0) (Am rfl rfl) ?_ rfl rfl rfl
    refine Jn (hK117 _ _ ?_)
    refine JC_block ?_
    obtain ⟨b138, kx138, hb138, hkx138, h⟩ := each_in h
    refine JC_loop2 (fun i138 (s138 : (AMap Int Slot)) => each b138 kx138 (List.drop i138 s56) i138 s138 = some r) (fun i138 s138 => [(1, LS 9 Box.av boxes), (2, .mp 1023), (3, I64 calls), (4, .dptr [LS 12 Column.av s.Columns, LS 2 Cover.av s.Covers, I64 s.Light.Kilos, I64 s.Light.X, I64 s.Light.Y, I64 s.Light.Z, LS 5 Row.av s.Rows, LS 5 Frame.av s.Frames, LS 6 Tank.av s.Tanks, I64 s.Limits.Tolerance, I64 s.Limits.Trim, I64 s.Limits.List_, I64 s.Limits.Stability]), (8, .ptr 1064 0), (10, .ptr 1065 0), (11, .mp 1071), (12, I64 (i6 : Int)), (13, LS 4 Stowed.av s56), (159, LS 4 Stowed.av s56), (160, I64 (s56.length : Int)), (161, I64 (i138 : Int))]) (fun i138 s138 => [(1071, MP 121 (fun n : Int => Value.int .i64 n) Slot.av s138), (1023, MP 66 (fun n : Int => Value.int .i64 n) I64 home), (1073, .spare 40 1 s6.1.length s6.1.length), (1064, .box 59 [LS 1 (LS 4 Stowed.av) ([] : List (List Stowed)), LS 1 (LS 1 I64) ([] : List (List Int))]), (1065, .box 59 [OW 1073 1 (LS 4 Stowed.av) s6.1, LS 1 (LS 1 I64) s6.2.1])]) (fun i138 => s56.length - i138) 0 (AMap.empty : AMap Int Slot) h ⟨⟨.same rfl, .same rfl, .same rfl, .same rfl, .same rfl, .same rfl, .same rfl, .same rfl, .same rfl, .same rfl, .same rfl, .same rfl, trivial⟩, ⟨⟨_, rfl, .map⟩, ⟨_, rfl, .map⟩, ⟨_, rfl, .same⟩, ⟨_, rfl, .boxL rfl ⟨.same rfl, .same rfl, trivial⟩⟩, ⟨_, rfl, .boxL rfl ⟨.same rfl, .same rfl, trivial⟩⟩, trivial⟩, rfl⟩ ?_
    clear h
    intro i138 s138 hi138 K138 e138
    refine Js fun K139 hK139 => Jr ?_
    refine Jg (u := BL (decide ((i138 : Int) < (s56.length : Int)))) (A_lss rfl rfl rfl) ?_ rfl rfl rfl
    refine Jn (hK139 _ _ ?_)
    refine Js (fun K140 hK140 => ?_)
    refine JC_cond rfl (fun hb => ?_) (fun hb => ?_)
    ·
     have hk138 := lt_len hb
     obtain ⟨y138, nx138, hy138, hn138, h⟩ := each_out hi138 hk138
     replace h := app4 hb138 h
     refine JC_skip ?_
     refine hK140 _ _ ?_
     refine Js (fun K141 hK141 => ?_)
     refine JC_block ?_
     refine Js fun K142 hK142 => Jr ?_
     refine Jg (u := .dptr (Stowed.cs y138)) (A_indexM (f := Stowed.av) (xs := s56) (y := y138) rfl rfl rfl tf_slice_40 hy138 rfl) ?_ rfl rfl rfl
     refine Jg (u := .agg (Stowed.cs y138)) (A_loadAgg tf_agg_82 rfl rfl rfl) ?_ rfl rfl rfl
     refine Jg (u := .ptr 1070 0) (A_allocJ 1070 4 tf_zsize_82 rfl rfl) ?_ rfl rfl rfl
     refine JL_go0 (u := .junk) (A_store (u := .agg (Stowed.cs y138)) (ds := [I64 y138.Box, I64 y138.Slot.Column, I64 y138.Slot.Tier, U8 y138.Slot.Half]) tf_size_82 rfl rfl rfl rfl rfl rfl rfl rfl) ?_ rfl rfl
     refine Jn (hK142 _ _ ?_)
     refine JC_freeze [(1, LS 9 Box.av boxes), (2, .mp 1023), (3, I64 calls), (4, .dptr [LS 12 Column.av s.Columns, LS 2 Cover.av s.Covers, I64 s.Light.Kilos, I64 s.Light.X, I64 s.Light.Y, I64 s.Light.Z, LS 5 Row.av s.Rows, LS 5 Frame.av s.Frames, LS 6 Tank.av s.Tanks, I64 s.Limits.Tolerance, I64 s.Limits.Trim, I64 s.Limits.List_, I64 s.Limits.Stability]), (8, .ptr 1064 0), (10, .ptr 1065 0), (11, .mp 1071), (12, I64 (i6 : Int)), (13, LS 4 Stowed.av s56), (28, .dptr (Stowed.cs y138)), (159, LS 4 Stowed.av s56), (160, I64 (s56.length : Int)), (161, I64 (i138 : Int))] [(1071, MP 121 (fun n : Int => Value.int .i64 n) Slot.av s138), (1023, MP 66 (fun n : Int => Value.int .i64 n) I64 home), (1073, .spare 40 1 s6.1.length s6.1.length), (1064, .box 59 [LS 1 (LS 4 Stowed.av) ([] : List (List Stowed)), LS 1 (LS 1 I64) ([] : List (List Int))]), (1065, .box 59 [OW 1073 1 (LS 4 Stowed.av) s6.1, LS 1 (LS 1 I64) s6.2.1])] 1070 rfl rfl rfl ⟨⟨_, rfl, .map⟩, ⟨_, rfl, .map⟩, ⟨_, rfl, .same⟩, ⟨_, rfl, .boxEq rfl rfl⟩, ⟨_, rfl, .boxEq rfl rfl⟩, trivial⟩ rfl (by exact ⟨.conv (.same rfl), .conv (.same rfl), .conv (.same rfl), .conv (.same rfl), .conv (.same rfl), .conv (.same rfl), .conv (.same rfl), .conv (.same rfl), .conv (.same rfl), .ptr, .conv (.same rfl), .conv (.same rfl), .conv (.same rfl), trivial⟩) ?_
     refine Jr ?_
     refine Jg (u := .mp 1071) (Am rfl rfl) ?_ rfl rfl rfl
     refine Jg (u := .dptr (Stowed.cs y138)) (A_fieldM tf_field_82_0 rfl rfl rfl) ?_ rfl rfl rfl
     refine Jg (u := I64 y138.Box) (A_load tf_scalar_3 rfl rfl rfl) ?_ rfl rfl rfl
     refine Jg (u := .dptr (Slot.cs y138.Slot)) (A_fieldM tf_field_82_1 rfl rfl rfl) ?_ rfl rfl rfl
     refine Jg (u := .agg (Slot.cs y138.Slot)) (A_loadAgg tf_agg_80 rfl rfl rfl) ?_ rfl rfl rfl
     refine JL_go0 (u := .junk) (A_mapUpdateM (m := s138) (a := y138.Box) (v := y138.Slot) rfl rfl rfl rfl rfl rfl tk_3 tf_map_121) ?_ rfl rfl
     refine Jn (hK141 _ _ ?_)
     refine Jr ?_
     refine Jg (u := I64 ((i138 + 1 : Nat) : Int)) (A_add (idx_succ hk138 hm160) rfl rfl rfl) ?_ rfl rfl rfl
     refine Jg (u := I64 ((i138 + 1 : Nat) : Int)) (Am rfl rfl) ?_ rfl rfl rfl
     refine Jn ?_
     exact e138 _ _ (i138 + 1) (AMap.put s138 y138.Box y138.Slot) (app1 hn138 h) (by omega) ⟨⟨.same rfl, .same rfl, .same rfl, .same rfl, .same rfl, .same rfl, .same rfl, .same rfl, .same rfl, .same rfl, .same rfl, .same rfl, trivial⟩, ⟨⟨_, rfl, .map⟩, ⟨_, rfl, .map⟩, ⟨_, rfl, .same⟩, ⟨_, rfl, .boxL rfl ⟨.same rfl, .same rfl, trivial⟩⟩, ⟨_, rfl, .boxL rfl ⟨.same rfl, .same rfl, trivial⟩⟩, trivial⟩, rfl⟩
    ·
     have h := app1 hkx138 (each_nil hi138 (not_lt_len hb))
     refine JC_exit ?_
     refine hK116 _ _ ?_
     refine Jr ?_
     refine Jg (u := .ptr 1065 0) (A_fieldL tf_field_59_0 rfl rfl) ?_ rfl rfl rfl
     refine Jg (u := OW 1073 1 (LS 4 Stowed.av) s6.1) (A_loadL tf_scalar_56 rfl rfl rfl rfl) ?_ rfl rfl rfl
     refine Jg (u := LS 4 Stowed.av s56) (Am rfl rfl) ?_ rfl rfl rfl
     refine Jg (u := LS 1 (LS 4 Stowed.av) [s56]) (A_buildSlice (xs := [LS 4 Stowed.av s56]) rfl ⟨rfl, rfl, trivial⟩ tf_slice_56 tf_zsize_40 rfl rfl rfl rfl) ?_ rfl rfl rfl
     obtain ⟨ha143, h⟩ := need_out h
     refine Jg (u := OW 1073 1 (LS 4 Stowed.av) (s6.1 ++ [s56])) (A_appendM (f := (LS 4 Stowed.av)) (xs := s6.1) (ys := [s56]) rfl rfl rfl rfl tf_slice_56 tf_elem_40 ha143 (fun _ => rfl) (.inl rfl) rfl) ?_ rfl rfl rfl
     refine Jg (u := .ptr 1065 0) (A_fieldL tf_field_59_0 rfl rfl) ?_ rfl rfl rfl
     refine JL_go0 (u := .junk) (A_store (u := OW 1073 1 (LS 4 Stowed.av) (s6.1 ++ [s56])) (ds := [OW 1073 1 (LS 4 Stowed.av) (s6.1 ++ [s56]), LS 1 (LS 1 I64) s6.2.1]) tf_size_56 rfl rfl rfl rfl rfl rfl rfl rfl) ?_ rfl rfl
     refine Jn (hK9 _ _ ?_)
     refine Jr ?_
     refine Jg (u := I64 (i6 : Int)) (Am rfl rfl) ?_ rfl rfl rfl
     refine Jg (u := I64 ((i6 + 1 : Nat) : Int)) (A_add (idx_succ hk6 (toNat_max hx6)) rfl rfl rfl) ?_ rfl rfl rfl
     refine Jg (u := I64 ((i6 + 1 : Nat) : Int)) (Aa rfl rfl) ?_ rfl rfl rfl
     refine Jn ?_
     exact e6 _ _ (i6 + 1) ((s6.1 ++ [s56]), s6.2.1, s138) (app1 hn6 h) (by omega) ⟨⟨.same rfl, .same rfl, .same rfl, .same rfl, .same rfl, .same rfl, .same rfl, .same rfl, trivial⟩, ⟨⟨_, rfl, .map⟩, ⟨_, rfl, .same⟩, ⟨_, rfl, .map⟩, ⟨_, rfl, .boxL rfl ⟨.same rfl, .same rfl, trivial⟩⟩, ⟨_, rfl, .boxL rfl ⟨.same rfl, .same rfl, trivial⟩⟩, trivial⟩, rfl⟩
 ·
  have h := app1 hkx6 (upto_nil hi6 (not_lt_toNat hb))
  refine JC_exit ?_
  refine hK4 _ _ ?_
  refine Js fun K144 hK144 => Jr ?_
  refine Jg (u := .agg [OW 1073 1 (LS 4 Stowed.av) s6.1, LS 1 (LS 1 I64) s6.2.1]) (A_loadAggL tf_agg_59 rfl rfl rfl rfl) ?_ rfl rfl rfl
  refine JL_go0 (u := .junk) (A_store (u := .agg [OW 1073 1 (LS 4 Stowed.av) s6.1, LS 1 (LS 1 I64) s6.2.1]) (ds := [OW 1073 1 (LS 4 Stowed.av) s6.1, LS 1 (LS 1 I64) s6.2.1]) tf_size_59 rfl rfl rfl rfl rfl rfl rfl rfl) ?_ rfl rfl
  refine Jg (u := I64 0) (Aa rfl rfl) ?_ rfl rfl rfl
  refine Jn (hK144 _ _ ?_)
  refine JC_ret ?_
  obtain rfl := Option.some.inj h
  exact ⟨[.agg [LS 1 (LS 4 Stowed.av) s6.1, LS 1 (LS 1 I64) s6.2.1], I64 0], [(1023, MP 66 (fun n : Int => Value.int .i64 n) I64 home)], ⟨⟨_, rfl, .map⟩, trivial⟩, rfl, ⟨⟨_, ⟨_, _, _, _, rfl, rfl, rfl, .inl ⟨tf_agg_59, rfl⟩⟩, .agg ⟨.list rfl, .same rfl, trivial⟩⟩, ⟨_, rfl, .conv (.same rfl)⟩, trivial⟩, rfl, rfl⟩

def M_twistlocklaw23_Voyage (F : Nat) (s : Ship) (l : List law23_Item) (calls : Int) (most : Int) : Option ((List Box) × Plan) :=
 bnd (natIn (min (l.length : Int) most) l.length) fun m6 =>
 each (fun y119 i119 (s119 : (List Box) × (AMap Int Int)) nx119 =>
  chk (5 * ((i119 + 1 : Nat) : Int)) fun v125 =>
  chk (y119.Kilos) fun v126 =>
  chk (100 * v126) fun v127 =>
  chk (1000 + v127) fun v128 =>
  chk (y119.Load) fun v129 =>
  chk (calls - 1) fun v130 =>
  bnd (rem64 v129 v130) fun v131 =>
  chk (v131 + 1) fun v133 =>
  chk (y119.Stay) fun v134 =>
  chk (calls - 1) fun v135 =>
  chk (v135 - v131) fun v136 =>
  bnd (rem64 v134 v136) fun v137 =>
  chk (v133 + v137) fun v138 =>
  jp (fun kj139 =>
   bif y119.Small then
   (kj139 (20, false))
   else
   (kj139 (40, y119.High))) fun (j139 : Int × Bool) =>
  chk (y119.Column) fun v142 =>
  bnd (rem64 v142 (s.Columns.length : Int)) fun v143 =>
  need (decide ((s119.1.length + [(Box.mk v125 ByteArray.empty j139.1 j139.2 v128 v131 v138 0 false)].length) * 64 ≤ 140737488355328 ∧ s119.1.length + [(Box.mk v125 ByteArray.empty j139.1 j139.2 v128 v131 v138 0 false)].length ≤ maxLen)) <|
  nx119 ((s119.1 ++ [(Box.mk v125 ByteArray.empty j139.1 j139.2 v128 v131 v138 0 false)]), (AMap.put s119.2 v125 v143)))
 (fun (s119 : (List Box) × (AMap Int Int)) =>
  chk ((s119.1.length : Int) + 1) fun v147 =>
  need (decide (v147 ≤ 9223372036854775807)) <|
  upto (fun i148 (s148 : (List Box) × (AMap Int Int)) nx148 =>
   bnd (M_twistlocklaw23_voyage F s s148.1 s148.2 calls) fun r153 =>
   bif decide (r153.2.1 = 0) then
   (some (s148.1, r153.1))
   else
   (each (fun y174 i174 (s174 : (List Box)) nx174 =>
     jp (fun kj177 =>
      bif decide (y174.ID ≠ r153.2.1) then
      (need (decide ((s174.length + [y174].length) * 64 ≤ 140737488355328 ∧ s174.length + [y174].length ≤ maxLen)) <|
       kj177 (s174 ++ [y174]))
      else
      (kj177 s174)) fun (j177 : (List Box)) =>
     nx174 j177)
    (fun (s174 : (List Box)) =>
     nx148 (s174, r153.2.2)) s148.1 0 []))
  (fun (s148 : (List Box) × (AMap Int Int)) =>
   bnd (natOf calls) fun m182 =>
   need (decide (24 * m182 ≤ 281474976710656 ∧ m182 ≤ maxLen ∧ m182 * 1 ≤ 16777216)) <|
   some ([], (Plan.mk (List.replicate m182 ([] : List Stowed)) []))) v147.toNat 0 (s119.1, s119.2)) (l.take m6) 0 ([], (AMap.empty : AMap Int Int))
theorem M_twistlocklaw23_Voyage_w (F : Nat) (s : Ship) (l : List law23_Item) (calls : Int) (most : Int) (r : (List Box) × Plan) (h : M_twistlocklaw23_Voyage F s l calls most = some r) : Pure Try.prog 13 [.agg [LS 12 Column.av s.Columns, LS 2 Cover.av s.Covers, I64 s.Light.Kilos, I64 s.Light.X, I64 s.Light.Y, I64 s.Light.Z, LS 5 Row.av s.Rows, LS 5 Frame.av s.Frames, LS 6 Tank.av s.Tanks, I64 s.Limits.Tolerance, I64 s.Limits.Trim, I64 s.Limits.List_, I64 s.Limits.Stability], LS 6 law23_Item.av l, I64 calls, I64 most] (· = .tup [LS 9 Box.av r.1, .agg [LS 1 (LS 4 Stowed.av) r.2.States, LS 1 (LS 1 I64) r.2.Water]]) := by
 unfold M_twistlocklaw23_Voyage at h
 refine Pure_ofG [.tmp 8, .cell 9 59] Try.func13 rfl rfl ?_
 refine Js fun K1 hK1 => Jr ?_
 refine Jg (u := .ptr 1015 0) (A_box (u := .agg [LS 12 Column.av s.Columns, LS 2 Cover.av s.Covers, I64 s.Light.Kilos, I64 s.Light.X, I64 s.Light.Y, I64 s.Light.Z, LS 5 Row.av s.Rows, LS 5 Frame.av s.Frames, LS 6 Tank.av s.Tanks, I64 s.Limits.Tolerance, I64 s.Limits.Trim, I64 s.Limits.List_, I64 s.Limits.Stability]) (cs := [LS 12 Column.av s.Columns, LS 2 Cover.av s.Covers, I64 s.Light.Kilos, I64 s.Light.X, I64 s.Light.Y, I64 s.Light.Z, LS 5 Row.av s.Rows, LS 5 Frame.av s.Frames, LS 6 Tank.av s.Tanks, I64 s.Limits.Tolerance, I64 s.Limits.Trim, I64 s.Limits.List_, I64 s.Limits.Stability]) 1015 rfl rfl rfl rfl rfl) ?_ rfl rfl rfl
 refine Jg (u := LS 9 Box.av ([] : List Box)) (A_nilList 9 rfl rfl) ?_ rfl rfl rfl
 refine Jg (u := .ptr 1016 0) (A_allocZ 1016 [LS 1 (LS 4 Stowed.av) ([] : List (List Stowed)), LS 1 (LS 1 I64) ([] : List (List Int))] [.slice none 0 0, .slice none 0 0] tf_zero_59 ⟨.inr ⟨_, rfl, rfl⟩, .inr ⟨_, rfl, rfl⟩, trivial⟩ rfl rfl) ?_ rfl rfl rfl
 refine Jn (hK1 _ _ ?_)
 refine JC_freeze [(1, LS 6 law23_Item.av l), (2, I64 calls), (3, I64 most), (4, .dptr [LS 12 Column.av s.Columns, LS 2 Cover.av s.Covers, I64 s.Light.Kilos, I64 s.Light.X, I64 s.Light.Y, I64 s.Light.Z, LS 5 Row.av s.Rows, LS 5 Frame.av s.Frames, LS 6 Tank.av s.Tanks, I64 s.Limits.Tolerance, I64 s.Limits.Trim, I64 s.Limits.List_, I64 s.Limits.Stability]), (9, .ptr 1016 0)] [(1016, .box 59 [LS 1 (LS 4 Stowed.av) ([] : List (List Stowed)), LS 1 (LS 1 I64) ([] : List (List Int))])] 1015 rfl rfl rfl ⟨⟨_, rfl, .boxEq rfl rfl⟩, trivial⟩ rfl (by exact ⟨.conv (.same rfl), .conv (.same rfl), .conv (.same rfl), .ptr, .conv (.same rfl), trivial⟩) ?_
 refine Js fun K2 hK2 => Jr ?_
 refine Jg (u := OW 1017 9 Box.av ([] : List Box)) (A_nilOwn 1017 50 9 rfl rfl rfl) ?_ rfl rfl rfl
 refine Jn (hK2 _ _ ?_)
 refine Js fun K3 hK3 => Jr ?_
 refine Jg (u := .mp 1023) (A_makeMapM 1023 (fun n : Int => Value.int .i64 n) I64 rfl rfl) ?_ rfl rfl rfl
 refine Jg (u := .mp 1023) (Aa rfl rfl) ?_ rfl rfl rfl
 refine Jn (hK3 _ _ ?_)
 refine Js (fun K4 hK4 => ?_)
 refine Js fun K5 hK5 => Jr ?_
 refine Jg (u := LS 6 law23_Item.av l) (Am rfl rfl) ?_ rfl rfl rfl
 refine Jg (u := LS 6 law23_Item.av l) (Am rfl rfl) ?_ rfl rfl rfl
 refine JL_lenM (f := law23_Item.av) (xs := l) tf_slice_55 rfl rfl (fun hm23 => ?_) rfl rfl rfl
 refine Jg (u := I64 most) (Am rfl rfl) ?_ rfl rfl rfl
 refine Jg (u := I64 (min (l.length : Int) most)) (A_min rfl rfl rfl) ?_ rfl rfl rfl
 obtain ⟨m6, hm6, h⟩ := bnd_out h
 refine Jg (u := LS 6 law23_Item.av (l.take m6)) (A_sliceHiM (f := law23_Item.av) (xs := l) rfl rfl rfl tf_slice_55 (natIn_out hm6)) ?_ rfl rfl rfl
 refine JL_lenM (f := law23_Item.av) (xs := (l.take m6)) tf_slice_55 rfl rfl (fun hm27 => ?_) rfl rfl rfl
 refine Jg (u := I64 0) (Am rfl rfl) ?_ rfl rfl rfl
 refine Jn (hK5 _ _ ?_)
 refine JC_block ?_
 obtain ⟨b119, kx119, hb119, hkx119, h⟩ := each_in h
 refine JC_loop2 (fun i119 (s119 : (List Box) × (AMap Int Int)) => each b119 kx119 (List.drop i119 (l.take m6)) i119 s119 = some r) (fun i119 s119 => [(2, I64 calls), (4, .dptr [LS 12 Column.av s.Columns, LS 2 Cover.av s.Covers, I64 s.Light.Kilos, I64 s.Light.X, I64 s.Light.Y, I64 s.Light.Z, LS 5 Row.av s.Rows, LS 5 Frame.av s.Frames, LS 6 Tank.av s.Tanks, I64 s.Limits.Tolerance, I64 s.Limits.Trim, I64 s.Limits.List_, I64 s.Limits.Stability]), (9, .ptr 1016 0), (10, OW 1017 9 Box.av s119.1), (11, .mp 1023), (26, LS 6 law23_Item.av (l.take m6)), (27, I64 ((l.take m6).length : Int)), (28, I64 (i119 : Int))]) (fun i119 s119 => [(1017, .spare 50 9 s119.1.length s119.1.length), (1023, MP 66 (fun n : Int => Value.int .i64 n) I64 s119.2), (1016, .box 59 [LS 1 (LS 4 Stowed.av) ([] : List (List Stowed)), LS 1 (LS 1 I64) ([] : List (List Int))])]) (fun i119 => (l.take m6).length - i119) 0 ([], (AMap.empty : AMap Int Int)) h ⟨⟨.same rfl, .same rfl, .same rfl, .same rfl, .same rfl, .same rfl, .same rfl, .same rfl, trivial⟩, ⟨⟨_, rfl, .same⟩, ⟨_, rfl, .map⟩, ⟨_, rfl, .boxL rfl ⟨.same rfl, .same rfl, trivial⟩⟩, trivial⟩, rfl⟩ ?_
 clear h
 intro i119 s119 hi119 K119 e119
 refine Js fun K120 hK120 => Jr ?_
 refine Jg (u := BL (decide ((i119 : Int) < ((l.take m6).length : Int)))) (A_lss rfl rfl rfl) ?_ rfl rfl rfl
 refine Jn (hK120 _ _ ?_)
 refine Js (fun K121 hK121 => ?_)
 refine JC_cond rfl (fun hb => ?_) (fun hb => ?_)
 ·
  have hk119 := lt_len hb
  obtain ⟨y119, nx119, hy119, hn119, h⟩ := each_out hi119 hk119
  replace h := app4 hb119 h
  refine JC_skip ?_
  refine hK121 _ _ ?_
  refine Js (fun K122 hK122 => ?_)
  refine JC_block ?_
  refine Js fun K123 hK123 => Jr ?_
  refine Jg (u := I64 (i119 : Int)) (Am rfl rfl) ?_ rfl rfl rfl
  refine Jg (u := .dptr (law23_Item.cs y119)) (A_indexM (f := law23_Item.av) (xs := (l.take m6)) (y := y119) rfl rfl rfl tf_slice_55 hy119 rfl) ?_ rfl rfl rfl
  refine Jg (u := .agg (law23_Item.cs y119)) (A_loadAgg tf_agg_92 rfl rfl rfl) ?_ rfl rfl rfl
  refine Jg (u := .ptr 1018 0) (A_allocJ 1018 6 tf_zsize_92 rfl rfl) ?_ rfl rfl rfl
  refine Jg (u := I64 (i119 : Int)) (Aa rfl rfl) ?_ rfl rfl rfl
  refine JL_go0 (u := .junk) (A_store (u := .agg (law23_Item.cs y119)) (ds := [U8 y119.Column, U8 y119.Kilos, U8 y119.Load, U8 y119.Stay, BL y119.Small, BL y119.High]) tf_size_92 rfl rfl rfl rfl rfl rfl rfl rfl) ?_ rfl rfl
  refine Jn (hK123 _ _ ?_)
  refine JC_freeze [(2, I64 calls), (4, .dptr [LS 12 Column.av s.Columns, LS 2 Cover.av s.Covers, I64 s.Light.Kilos, I64 s.Light.X, I64 s.Light.Y, I64 s.Light.Z, LS 5 Row.av s.Rows, LS 5 Frame.av s.Frames, LS 6 Tank.av s.Tanks, I64 s.Limits.Tolerance, I64 s.Limits.Trim, I64 s.Limits.List_, I64 s.Limits.Stability]), (9, .ptr 1016 0), (10, OW 1017 9 Box.av s119.1), (11, .mp 1023), (12, I64 (i119 : Int)), (13, .dptr (law23_Item.cs y119)), (26, LS 6 law23_Item.av (l.take m6)), (27, I64 ((l.take m6).length : Int)), (28, I64 (i119 : Int))] [(1017, .spare 50 9 s119.1.length s119.1.length), (1023, MP 66 (fun n : Int => Value.int .i64 n) I64 s119.2), (1016, .box 59 [LS 1 (LS 4 Stowed.av) ([] : List (List Stowed)), LS 1 (LS 1 I64) ([] : List (List Int))])] 1018 rfl rfl rfl ⟨⟨_, rfl, .same⟩, ⟨_, rfl, .map⟩, ⟨_, rfl, .boxEq rfl rfl⟩, trivial⟩ rfl (by exact ⟨.conv (.same rfl), .conv (.same rfl), .conv (.same rfl), .conv (.same rfl), .conv (.same rfl), .conv (.same rfl), .ptr, .conv (.same rfl), .conv (.same rfl), .conv (.same rfl), trivial⟩) ?_
  refine Js (fun K124 hK124 => ?_)
  refine JC_fits (l' := [(2, I64 calls), (4, .dptr [LS 12 Column.av s.Columns, LS 2 Cover.av s.Covers, I64 s.Light.Kilos, I64 s.Light.X, I64 s.Light.Y, I64 s.Light.Z, LS 5 Row.av s.Rows, LS 5 Frame.av s.Frames, LS 6 Tank.av s.Tanks, I64 s.Limits.Tolerance, I64 s.Limits.Trim, I64 s.Limits.List_, I64 s.Limits.Stability]), (9, .ptr 1016 0), (10, OW 1017 9 Box.av s119.1), (11, .mp 1023), (12, I64 (i119 : Int)), (13, .dptr (law23_Item.cs y119)), (26, LS 6 law23_Item.av (l.take m6)), (27, I64 ((l.take m6).length : Int)), (28, I64 (i119 : Int))]) (L' := [(1017, .spare 50 9 s119.1.length s119.1.length), (1023, MP 66 (fun n : Int => Value.int .i64 n) I64 s119.2), (1016, .box 59 [LS 1 (LS 4 Stowed.av) ([] : List (List Stowed)), LS 1 (LS 1 I64) ([] : List (List Int))])]) ⟨⟨.same rfl, .same rfl, .same rfl, .same rfl, .same rfl, .same rfl, .same rfl, .same rfl, .same rfl, .same rfl, trivial⟩, ⟨⟨_, rfl, .same⟩, ⟨_, rfl, .map⟩, ⟨_, rfl, .boxL rfl ⟨.same rfl, .same rfl, trivial⟩⟩, trivial⟩, rfl⟩ ?_
  obtain ⟨v125, hv125, h⟩ := chk_out h
  obtain ⟨v126, hv126, h⟩ := chk_out h
  obtain ⟨v127, hv127, h⟩ := chk_out h
  obtain ⟨v128, hv128, h⟩ := chk_out h
  obtain ⟨v129, hv129, h⟩ := chk_out h
  obtain ⟨v130, hv130, h⟩ := chk_out h
  obtain ⟨v131, hv131, h⟩ := bnd_out h
  refine JC_draw [17, 18] [0, 0, 0, 0, 0, 0, 0, 0, 0, 0, 0, 0, 0, 0, 0, 0, 0, 0, 0] [1, 1, 1, 1, 1, 1, 1, 1, 1, 1, 1, 1, 1, 1, 1, 1, 1, 0, 0] [[(1017, .spare 50 9 s119.1.length s119.1.length), (1023, MP 66 (fun n : Int => Value.int .i64 n) I64 s119.2), (1016, .box 59 [LS 1 (LS 4 Stowed.av) ([] : List (List Stowed)), LS 1 (LS 1 I64) ([] : List (List Int))])], ((1019, .box 50 [.junk, .junk, .junk, .junk, .junk, .junk, .junk, .junk, .junk]) :: [(1017, .spare 50 9 s119.1.length s119.1.length), (1023, MP 66 (fun n : Int => Value.int .i64 n) I64 s119.2), (1016, .box 59 [LS 1 (LS 4 Stowed.av) ([] : List (List Stowed)), LS 1 (LS 1 I64) ([] : List (List Int))])]), ((1019, .box 50 [I64 v125, ST ByteArray.empty, U8 40, BL y119.High, I64 v128, I64 v131, I64 0, U8 0, BL false]) :: ((1019, .box 50 [.junk, .junk, .junk, .junk, .junk, .junk, .junk, .junk, .junk]) :: [(1017, .spare 50 9 s119.1.length s119.1.length), (1023, MP 66 (fun n : Int => Value.int .i64 n) I64 s119.2), (1016, .box 59 [LS 1 (LS 4 Stowed.av) ([] : List (List Stowed)), LS 1 (LS 1 I64) ([] : List (List Int))])]))] tf_mixed (by kernel_rfl) rfl rfl ?_
  refine D_ro (u := I64 (i119 : Int)) rfl rfl ⟨O_go (Am rfl rfl) rfl, O_go (Am rfl rfl) rfl, trivial⟩ ?_ rfl
  refine D_ro (u := I64 ((i119 + 1 : Nat) : Int)) rfl rfl ⟨O_go (A_add (idx_succ hk119 hm27) rfl rfl rfl) rfl, O_go (A_add (idx_succ hk119 hm27) rfl rfl rfl) rfl, trivial⟩ ?_ rfl
  refine D_ro (u := I64 v125) rfl rfl ⟨O_go (A_mul hv125 rfl rfl rfl) rfl, O_go (A_mul hv125 rfl rfl rfl) rfl, trivial⟩ ?_ rfl
  refine D_ro (u := .dptr [BL y119.High]) rfl rfl ⟨O_go (A_fieldM tf_field_92_5 rfl rfl rfl) rfl, O_go (A_fieldM tf_field_92_5 rfl rfl rfl) rfl, trivial⟩ ?_ rfl
  refine D_ro (u := BL y119.High) rfl rfl ⟨O_go (A_load tf_scalar_4 rfl rfl rfl) rfl, O_go (A_load tf_scalar_4 rfl rfl rfl) rfl, trivial⟩ ?_ rfl
  refine D_ro (u := .dptr ((law23_Item.cs y119).drop 1)) rfl rfl ⟨O_go (A_fieldM tf_field_92_1 rfl rfl rfl) rfl, O_go (A_fieldM tf_field_92_1 rfl rfl rfl) rfl, trivial⟩ ?_ rfl
  refine D_ro (u := U8 y119.Kilos) rfl rfl ⟨O_go (A_load tf_scalar_5 rfl rfl rfl) rfl, O_go (A_load tf_scalar_5 rfl rfl rfl) rfl, trivial⟩ ?_ rfl
  refine D_ro (u := I64 v126) rfl rfl ⟨O_go (A_conv tf_int_3 tf_int_5 hv126 rfl rfl) rfl, O_go (A_conv tf_int_3 tf_int_5 hv126 rfl rfl) rfl, trivial⟩ ?_ rfl
  refine D_ro (u := I64 v127) rfl rfl ⟨O_go (A_mul hv127 rfl rfl rfl) rfl, O_go (A_mul hv127 rfl rfl rfl) rfl, trivial⟩ ?_ rfl
  refine D_ro (u := I64 v128) rfl rfl ⟨O_go (A_add hv128 rfl rfl rfl) rfl, O_go (A_add hv128 rfl rfl rfl) rfl, trivial⟩ ?_ rfl
  refine D_ro (u := .dptr ((law23_Item.cs y119).drop 2)) rfl rfl ⟨O_go (A_fieldM tf_field_92_2 rfl rfl rfl) rfl, O_go (A_fieldM tf_field_92_2 rfl rfl rfl) rfl, trivial⟩ ?_ rfl
  refine D_ro (u := U8 y119.Load) rfl rfl ⟨O_go (A_load tf_scalar_5 rfl rfl rfl) rfl, O_go (A_load tf_scalar_5 rfl rfl rfl) rfl, trivial⟩ ?_ rfl
  refine D_ro (u := I64 v129) rfl rfl ⟨O_go (A_conv tf_int_3 tf_int_5 hv129 rfl rfl) rfl, O_go (A_conv tf_int_3 tf_int_5 hv129 rfl rfl) rfl, trivial⟩ ?_ rfl
  refine D_ro (u := I64 calls) rfl rfl ⟨O_go (Am rfl rfl) rfl, O_go (Am rfl rfl) rfl, trivial⟩ ?_ rfl
  refine D_ro (u := I64 v130) rfl rfl ⟨O_go (A_sub hv130 rfl rfl rfl) rfl, O_go (A_sub hv130 rfl rfl rfl) rfl, trivial⟩ ?_ rfl
  refine D_ro (u := I64 v131) rfl rfl ⟨O_go (A_rem (rem64_out hv131).1 (rem64_out hv131).2 rfl rfl rfl) rfl, O_go (A_rem (rem64_out hv131).1 (rem64_out hv131).2 rfl rfl rfl) rfl, trivial⟩ ?_ rfl
  refine D_ro (u := .agg [I64 v125, ST ByteArray.empty, U8 40, BL y119.High, I64 v128, I64 v131, I64 0, U8 0, BL false]) rfl rfl ⟨O_go (A_buildZ (cs := [I64 v125, ST ByteArray.empty, U8 40, BL y119.High, I64 v128, I64 v131, I64 0, U8 0, BL false]) [(0, 1), (1, 1), (2, 1), (3, 1), (4, 1), (5, 1), (6, 1), (7, 1), (8, 1)] [I64 0, ST ByteArray.empty, U8 0, BL false, I64 0, I64 0, I64 0, U8 0, BL false] [.int .i64 0, .string ByteArray.empty, .int .u8 0, .bool false, .int .i64 0, .int .i64 0, .int .i64 0, .int .u8 0, .bool false] tf_places_50 tf_zero_50 ⟨.inl rfl, .inl rfl, .inl rfl, .inl rfl, .inl rfl, .inl rfl, .inl rfl, .inl rfl, .inl rfl, trivial⟩ rfl rfl) rfl, O_go (A_buildZ (cs := [I64 v125, ST ByteArray.empty, U8 40, BL y119.High, I64 v128, I64 v131, I64 0, U8 0, BL false]) [(0, 1), (1, 1), (2, 1), (3, 1), (4, 1), (5, 1), (6, 1), (7, 1), (8, 1)] [I64 0, ST ByteArray.empty, U8 0, BL false, I64 0, I64 0, I64 0, U8 0, BL false] [.int .i64 0, .string ByteArray.empty, .int .u8 0, .bool false, .int .i64 0, .int .i64 0, .int .i64 0, .int .u8 0, .bool false] tf_places_50 tf_zero_50 ⟨.inl rfl, .inl rfl, .inl rfl, .inl rfl, .inl rfl, .inl rfl, .inl rfl, .inl rfl, .inl rfl, trivial⟩ rfl rfl) rfl, trivial⟩ ?_ rfl
  refine D_w (u := .ptr 1019 0) rfl rfl rfl rfl (O_go (A_allocJ 1019 9 tf_zsize_50 rfl rfl) rfl) ?_ rfl
  refine D_w0 (u := .junk) rfl rfl rfl rfl (O_go (A_store (u := .agg [I64 v125, ST ByteArray.empty, U8 40, BL y119.High, I64 v128, I64 v131, I64 0, U8 0, BL false]) (ds := [I64 v125, ST ByteArray.empty, U8 40, BL y119.High, I64 v128, I64 v131, I64 0, U8 0, BL false]) tf_size_50 rfl rfl rfl rfl rfl rfl rfl rfl) rfl) ?_
  refine D_nil ?_
  refine hK124 _ _ ?_
  refine Js (fun K132 hK132 => ?_)
  refine JC_fits (l' := [(2, I64 calls), (4, .dptr [LS 12 Column.av s.Columns, LS 2 Cover.av s.Covers, I64 s.Light.Kilos, I64 s.Light.X, I64 s.Light.Y, I64 s.Light.Z, LS 5 Row.av s.Rows, LS 5 Frame.av s.Frames, LS 6 Tank.av s.Tanks, I64 s.Limits.Tolerance, I64 s.Limits.Trim, I64 s.Limits.List_, I64 s.Limits.Stability]), (9, .ptr 1016 0), (10, OW 1017 9 Box.av s119.1), (11, .mp 1023), (13, .dptr (law23_Item.cs y119)), (14, .ptr 1019 0), (26, LS 6 law23_Item.av (l.take m6)), (27, I64 ((l.take m6).length : Int)), (28, I64 (i119 : Int))]) (L' := [(1017, .spare 50 9 s119.1.length s119.1.length), (1023, MP 66 (fun n : Int => Value.int .i64 n) I64 s119.2), (1016, .box 59 [LS 1 (LS 4 Stowed.av) ([] : List (List Stowed)), LS 1 (LS 1 I64) ([] : List (List Int))]), (1019, .box 50 [I64 v125, ST ByteArray.empty, U8 40, BL y119.High, I64 v128, I64 v131, I64 0, U8 0, BL false])]) ⟨⟨.same rfl, .same rfl, .same rfl, .same rfl, .same rfl, .same rfl, .same rfl, .same rfl, .same rfl, .same rfl, trivial⟩, ⟨⟨_, rfl, .same⟩, ⟨_, rfl, .map⟩, ⟨_, rfl, .boxL rfl ⟨.same rfl, .same rfl, trivial⟩⟩, ⟨_, rfl, .boxL rfl ⟨.same rfl, .same rfl, .same rfl, .same rfl, .same rfl, .same rfl, .same rfl, .same rfl, .same rfl, trivial⟩⟩, trivial⟩, rfl⟩ ?_
  obtain ⟨v133, hv133, h⟩ := chk_out h
  obtain ⟨v134, hv134, h⟩ := chk_out h
  obtain ⟨v135, hv135, h⟩ := chk_out h
  obtain ⟨v136, hv136, h⟩ := chk_out h
  obtain ⟨v137, hv137, h⟩ := bnd_out h
  obtain ⟨v138, hv138, h⟩ := chk_out h
  refine JC_draw [14] [0, 0, 0, 0, 0, 0, 0, 0, 0, 0, 0, 0, 0, 0, 0] [0, 0, 0, 0, 0, 0, 0, 0, 0, 0, 0, 0, 0, 0, 0] [[(1017, .spare 50 9 s119.1.length s119.1.length), (1023, MP 66 (fun n : Int => Value.int .i64 n) I64 s119.2), (1016, .box 59 [LS 1 (LS 4 Stowed.av) ([] : List (List Stowed)), LS 1 (LS 1 I64) ([] : List (List Int))]), (1019, .box 50 [I64 v125, ST ByteArray.empty, U8 40, BL y119.High, I64 v128, I64 v131, I64 0, U8 0, BL false])], ((1019, .box 50 [I64 v125, ST ByteArray.empty, U8 40, BL y119.High, I64 v128, I64 v131, I64 v138, U8 0, BL false]) :: [(1017, .spare 50 9 s119.1.length s119.1.length), (1023, MP 66 (fun n : Int => Value.int .i64 n) I64 s119.2), (1016, .box 59 [LS 1 (LS 4 Stowed.av) ([] : List (List Stowed)), LS 1 (LS 1 I64) ([] : List (List Int))]), (1019, .box 50 [I64 v125, ST ByteArray.empty, U8 40, BL y119.High, I64 v128, I64 v131, I64 0, U8 0, BL false])])] tf_mixed (by kernel_rfl) rfl rfl ?_
  refine D_ro (u := .ptr 1019 5) rfl rfl ⟨O_go (A_fieldL tf_field_50_5 rfl rfl) rfl, trivial⟩ ?_ rfl
  refine D_ro (u := I64 v131) rfl rfl ⟨O_go (A_loadL tf_scalar_3 rfl rfl rfl rfl) rfl, trivial⟩ ?_ rfl
  refine D_ro (u := I64 v133) rfl rfl ⟨O_go (A_add hv133 rfl rfl rfl) rfl, trivial⟩ ?_ rfl
  refine D_ro (u := .dptr ((law23_Item.cs y119).drop 3)) rfl rfl ⟨O_go (A_fieldM tf_field_92_3 rfl rfl rfl) rfl, trivial⟩ ?_ rfl
  refine D_ro (u := U8 y119.Stay) rfl rfl ⟨O_go (A_load tf_scalar_5 rfl rfl rfl) rfl, trivial⟩ ?_ rfl
  refine D_ro (u := I64 v134) rfl rfl ⟨O_go (A_conv tf_int_3 tf_int_5 hv134 rfl rfl) rfl, trivial⟩ ?_ rfl
  refine D_ro (u := I64 calls) rfl rfl ⟨O_go (Am rfl rfl) rfl, trivial⟩ ?_ rfl
  refine D_ro (u := I64 v135) rfl rfl ⟨O_go (A_sub hv135 rfl rfl rfl) rfl, trivial⟩ ?_ rfl
  refine D_ro (u := .ptr 1019 5) rfl rfl ⟨O_go (A_fieldL tf_field_50_5 rfl rfl) rfl, trivial⟩ ?_ rfl
  refine D_ro (u := I64 v131) rfl rfl ⟨O_go (A_loadL tf_scalar_3 rfl rfl rfl rfl) rfl, trivial⟩ ?_ rfl
  refine D_ro (u := I64 v136) rfl rfl ⟨O_go (A_sub hv136 rfl rfl rfl) rfl, trivial⟩ ?_ rfl
  refine D_ro (u := I64 v137) rfl rfl ⟨O_go (A_rem (rem64_out hv137).1 (rem64_out hv137).2 rfl rfl rfl) rfl, trivial⟩ ?_ rfl
  refine D_ro (u := I64 v138) rfl rfl ⟨O_go (A_add hv138 rfl rfl rfl) rfl, trivial⟩ ?_ rfl
  refine D_ro (u := .ptr 1019 6) rfl rfl ⟨O_go (A_fieldL tf_field_50_6 rfl rfl) rfl, trivial⟩ ?_ rfl
  refine D_w0 (u := .junk) rfl rfl rfl rfl (O_go (A_store (u := I64 v138) (ds := [I64 v125, ST ByteArray.empty, U8 40, BL y119.High, I64 v128, I64 v131, I64 v138, U8 0, BL false]) tf_size_3 rfl rfl rfl rfl rfl rfl rfl rfl) rfl) ?_
  refine D_nil ?_
  refine hK132 _ _ ?_
  obtain ⟨kj139, hkj139, h⟩ := jp_out h
  refine JC_seqJ (fun j139 : Int × Bool => kj139 j139 = some r) (fun j139 => [(2, I64 calls), (4, .dptr [LS 12 Column.av s.Columns, LS 2 Cover.av s.Covers, I64 s.Light.Kilos, I64 s.Light.X, I64 s.Light.Y, I64 s.Light.Z, LS 5 Row.av s.Rows, LS 5 Frame.av s.Frames, LS 6 Tank.av s.Tanks, I64 s.Limits.Tolerance, I64 s.Limits.Trim, I64 s.Limits.List_, I64 s.Limits.Stability]), (9, .ptr 1016 0), (10, OW 1017 9 Box.av s119.1), (11, .mp 1023), (13, .dptr (law23_Item.cs y119)), (14, .ptr 1019 0), (26, LS 6 law23_Item.av (l.take m6)), (27, I64 ((l.take m6).length : Int)), (28, I64 (i119 : Int))]) (fun j139 => [(1017, .spare 50 9 s119.1.length s119.1.length), (1023, MP 66 (fun n : Int => Value.int .i64 n) I64 s119.2), (1016, .box 59 [LS 1 (LS 4 Stowed.av) ([] : List (List Stowed)), LS 1 (LS 1 I64) ([] : List (List Int))]), (1019, .box 50 [I64 v125, ST ByteArray.empty, U8 j139.1, BL j139.2, I64 v128, I64 v131, I64 v138, U8 0, BL false])]) (fun Kj139 ej139 => ?_) ?_
  ·
   refine Js fun K140 hK140 => Jr ?_
   refine Jg (u := .dptr [BL y119.Small, BL y119.High]) (A_fieldM tf_field_92_4 rfl rfl rfl) ?_ rfl rfl rfl
   refine Jg (u := BL y119.Small) (A_load tf_scalar_4 rfl rfl rfl) ?_ rfl rfl rfl
   refine Jn (hK140 _ _ ?_)
   refine JC_cond rfl (fun hb => ?_) (fun hb => ?_)
   ·
    replace h := bif_t hb h
    refine Jr ?_
    refine Jg (u := .ptr 1019 2) (A_fieldL tf_field_50_2 rfl rfl) ?_ rfl rfl rfl
    refine JL_go0 (u := .junk) (A_store (u := U8 20) (ds := [I64 v125, ST ByteArray.empty, U8 20, BL y119.High, I64 v128, I64 v131, I64 v138, U8 0, BL false]) tf_size_5 rfl rfl rfl rfl rfl rfl rfl rfl) ?_ rfl rfl
    refine Jg (u := .ptr 1019 3) (A_fieldL tf_field_50_3 rfl rfl) ?_ rfl rfl rfl
    refine JL_go0 (u := .junk) (A_store (u := BL false) (ds := [I64 v125, ST ByteArray.empty, U8 20, BL false, I64 v128, I64 v131, I64 v138, U8 0, BL false]) tf_size_4 rfl rfl rfl rfl rfl rfl rfl rfl) ?_ rfl rfl
    refine Jn ?_
    exact ej139 _ _ (20, false) h ⟨⟨.same rfl, .same rfl, .same rfl, .same rfl, .same rfl, .same rfl, .same rfl, .same rfl, .same rfl, .same rfl, trivial⟩, ⟨⟨_, rfl, .same⟩, ⟨_, rfl, .map⟩, ⟨_, rfl, .boxL rfl ⟨.same rfl, .same rfl, trivial⟩⟩, ⟨_, rfl, .boxL rfl ⟨.same rfl, .same rfl, .same rfl, .same rfl, .same rfl, .same rfl, .same rfl, .same rfl, .same rfl, trivial⟩⟩, trivial⟩, rfl⟩
   ·
    replace h := bif_f hb h
    refine JC_skip ?_
    exact ej139 _ _ (40, y119.High) h ⟨⟨.same rfl, .same rfl, .same rfl, .same rfl, .same rfl, .same rfl, .same rfl, .same rfl, .same rfl, .same rfl, trivial⟩, ⟨⟨_, rfl, .same⟩, ⟨_, rfl, .map⟩, ⟨_, rfl, .boxL rfl ⟨.same rfl, .same rfl, trivial⟩⟩, ⟨_, rfl, .boxL rfl ⟨.same rfl, .same rfl, .same rfl, .same rfl, .same rfl, .same rfl, .same rfl, .same rfl, .same rfl, trivial⟩⟩, trivial⟩, rfl⟩
  ·intro j139 h
   replace h := app1 hkj139 h
   refine Js (fun K141 hK141 => ?_)
   refine JC_fits (l' := [(2, I64 calls), (4, .dptr [LS 12 Column.av s.Columns, LS 2 Cover.av s.Covers, I64 s.Light.Kilos, I64 s.Light.X, I64 s.Light.Y, I64 s.Light.Z, LS 5 Row.av s.Rows, LS 5 Frame.av s.Frames, LS 6 Tank.av s.Tanks, I64 s.Limits.Tolerance, I64 s.Limits.Trim, I64 s.Limits.List_, I64 s.Limits.Stability]), (9, .ptr 1016 0), (10, OW 1017 9 Box.av s119.1), (11, .mp 1023), (13, .dptr (law23_Item.cs y119)), (14, .ptr 1019 0), (26, LS 6 law23_Item.av (l.take m6)), (27, I64 ((l.take m6).length : Int)), (28, I64 (i119 : Int))]) (L' := [(1017, .spare 50 9 s119.1.length s119.1.length), (1023, MP 66 (fun n : Int => Value.int .i64 n) I64 s119.2), (1016, .box 59 [LS 1 (LS 4 Stowed.av) ([] : List (List Stowed)), LS 1 (LS 1 I64) ([] : List (List Int))]), (1019, .box 50 [I64 v125, ST ByteArray.empty, U8 j139.1, BL j139.2, I64 v128, I64 v131, I64 v138, U8 0, BL false])]) ⟨⟨.same rfl, .same rfl, .same rfl, .same rfl, .same rfl, .same rfl, .same rfl, .same rfl, .same rfl, .same rfl, trivial⟩, ⟨⟨_, rfl, .same⟩, ⟨_, rfl, .map⟩, ⟨_, rfl, .boxL rfl ⟨.same rfl, .same rfl, trivial⟩⟩, ⟨_, rfl, .boxL rfl ⟨.same rfl, .same rfl, .same rfl, .same rfl, .same rfl, .same rfl, .same rfl, .same rfl, .same rfl, trivial⟩⟩, trivial⟩, rfl⟩ ?_
   obtain ⟨v142, hv142, h⟩ := chk_out h
   obtain ⟨v143, hv143, h⟩ := bnd_out h
   refine JC_draw [10] [0, 0, 0, 0, 0, 0, 0, 0, 0, 0, 0] [0, 0, 0, 0, 0, 0, 0, 0, 0, 0, 0] [[(1017, .spare 50 9 s119.1.length s119.1.length), (1023, MP 66 (fun n : Int => Value.int .i64 n) I64 s119.2), (1016, .box 59 [LS 1 (LS 4 Stowed.av) ([] : List (List Stowed)), LS 1 (LS 1 I64) ([] : List (List Int))]), (1019, .box 50 [I64 v125, ST ByteArray.empty, U8 j139.1, BL j139.2, I64 v128, I64 v131, I64 v138, U8 0, BL false])], ((1023, MP 66 (fun n : Int => Value.int .i64 n) I64 (AMap.put s119.2 v125 v143)) :: [(1017, .spare 50 9 s119.1.length s119.1.length), (1023, MP 66 (fun n : Int => Value.int .i64 n) I64 s119.2), (1016, .box 59 [LS 1 (LS 4 Stowed.av) ([] : List (List Stowed)), LS 1 (LS 1 I64) ([] : List (List Int))]), (1019, .box 50 [I64 v125, ST ByteArray.empty, U8 j139.1, BL j139.2, I64 v128, I64 v131, I64 v138, U8 0, BL false])])] tf_mixed (by kernel_rfl) rfl rfl ?_
   refine D_ro (u := .mp 1023) rfl rfl ⟨O_go (Am rfl rfl) rfl, trivial⟩ ?_ rfl
   refine D_ro (u := .ptr 1019 0) rfl rfl ⟨O_go (A_fieldL tf_field_50_0 rfl rfl) rfl, trivial⟩ ?_ rfl
   refine D_ro (u := I64 v125) rfl rfl ⟨O_go (A_loadL tf_scalar_3 rfl rfl rfl rfl) rfl, trivial⟩ ?_ rfl
   refine D_ro (u := .dptr (law23_Item.cs y119)) rfl rfl ⟨O_go (A_fieldM tf_field_92_0 rfl rfl rfl) rfl, trivial⟩ ?_ rfl
   refine D_ro (u := U8 y119.Column) rfl rfl ⟨O_go (A_load tf_scalar_5 rfl rfl rfl) rfl, trivial⟩ ?_ rfl
   refine D_ro (u := I64 v142) rfl rfl ⟨O_go (A_conv tf_int_3 tf_int_5 hv142 rfl rfl) rfl, trivial⟩ ?_ rfl
   refine D_ro (u := .dptr [LS 12 Column.av s.Columns, LS 2 Cover.av s.Covers, I64 s.Light.Kilos, I64 s.Light.X, I64 s.Light.Y, I64 s.Light.Z, LS 5 Row.av s.Rows, LS 5 Frame.av s.Frames, LS 6 Tank.av s.Tanks, I64 s.Limits.Tolerance, I64 s.Limits.Trim, I64 s.Limits.List_, I64 s.Limits.Stability]) rfl rfl ⟨O_go (A_fieldM tf_field_35_0 rfl rfl rfl) rfl, trivial⟩ ?_ rfl
   refine D_ro (u := LS 12 Column.av s.Columns) rfl rfl ⟨O_go (A_load tf_scalar_25 rfl rfl rfl) rfl, trivial⟩ ?_ rfl
   refine D_ro (u := I64 (s.Columns.length : Int)) rfl rfl ⟨O_go (A_lenM (f := Column.av) (xs := s.Columns) tf_slice_25 rfl rfl) rfl, trivial⟩ ?_ rfl
   refine D_ro (u := I64 v143) rfl rfl ⟨O_go (A_rem (rem64_out hv143).1 (rem64_out hv143).2 rfl rfl rfl) rfl, trivial⟩ ?_ rfl
   refine D_w0 (u := .junk) rfl rfl rfl rfl (O_go (A_mapUpdateM (m := s119.2) (a := v125) (v := v143) rfl rfl rfl rfl rfl rfl tk_3 tf_map_66) rfl) ?_
   refine D_nil ?_
   refine hK141 _ _ ?_
   refine JC_freeze [(2, I64 calls), (4, .dptr [LS 12 Column.av s.Columns, LS 2 Cover.av s.Covers, I64 s.Light.Kilos, I64 s.Light.X, I64 s.Light.Y, I64 s.Light.Z, LS 5 Row.av s.Rows, LS 5 Frame.av s.Frames, LS 6 Tank.av s.Tanks, I64 s.Limits.Tolerance, I64 s.Limits.Trim, I64 s.Limits.List_, I64 s.Limits.Stability]), (9, .ptr 1016 0), (10, OW 1017 9 Box.av s119.1), (11, .mp 1023), (14, .dptr [I64 v125, ST ByteArray.empty, U8 j139.1, BL j139.2, I64 v128, I64 v131, I64 v138, U8 0, BL false]), (26, LS 6 law23_Item.av (l.take m6)), (27, I64 ((l.take m6).length : Int)), (28, I64 (i119 : Int))] [(1017, .spare 50 9 s119.1.length s119.1.length), (1023, MP 66 (fun n : Int => Value.int .i64 n) I64 (AMap.put s119.2 v125 v143)), (1016, .box 59 [LS 1 (LS 4 Stowed.av) ([] : List (List Stowed)), LS 1 (LS 1 I64) ([] : List (List Int))])] 1019 rfl rfl rfl ⟨⟨_, rfl, .same⟩, ⟨_, rfl, .map⟩, ⟨_, rfl, .boxEq rfl rfl⟩, trivial⟩ rfl (by exact ⟨.conv (.same rfl), .conv (.same rfl), .conv (.same rfl), .conv (.same rfl), .conv (.same rfl), .ptr, .conv (.same rfl), .conv (.same rfl), .conv (.same rfl), trivial⟩) ?_
   refine Jr ?_
   refine Jg (u := OW 1017 9 Box.av s119.1) (Am rfl rfl) ?_ rfl rfl rfl
   refine Jg (u := .agg [I64 v125, ST ByteArray.empty, U8 j139.1, BL j139.2, I64 v128, I64 v131, I64 v138, U8 0, BL false]) (A_loadAgg tf_agg_50 rfl rfl rfl) ?_ rfl rfl rfl
   refine Jg (u := LS 9 Box.av [(Box.mk v125 ByteArray.empty j139.1 j139.2 v128 v131 v138 0 false)]) (A_buildSlice (xs := [.agg [I64 v125, ST ByteArray.empty, U8 j139.1, BL j139.2, I64 v128, I64 v131, I64 v138, U8 0, BL false]]) rfl ⟨rfl, rfl, trivial⟩ tf_slice_39 tf_zsize_50 rfl rfl rfl rfl) ?_ rfl rfl rfl
   obtain ⟨ha144, h⟩ := need_out h
   refine Jg (u := OW 1017 9 Box.av (s119.1 ++ [(Box.mk v125 ByteArray.empty j139.1 j139.2 v128 v131 v138 0 false)])) (A_appendM (f := Box.av) (xs := s119.1) (ys := [(Box.mk v125 ByteArray.empty j139.1 j139.2 v128 v131 v138 0 false)]) rfl rfl rfl rfl tf_slice_39 tf_elem_50 ha144 (fun _ => rfl) (.inl rfl) rfl) ?_ rfl rfl rfl
   refine Jg (u := OW 1017 9 Box.av (s119.1 ++ [(Box.mk v125 ByteArray.empty j139.1 j139.2 v128 v131 v138 0 false)])) (Aa rfl rfl) ?_ rfl rfl rfl
   refine Jn (hK122 _ _ ?_)
   refine Jr ?_
   refine Jg (u := I64 ((i119 + 1 : Nat) : Int)) (A_add (idx_succ hk119 hm27) rfl rfl rfl) ?_ rfl rfl rfl
   refine Jg (u := I64 ((i119 + 1 : Nat) : Int)) (Am rfl rfl) ?_ rfl rfl rfl
   refine Jn ?_
   exact e119 _ _ (i119 + 1) ((s119.1 ++ [(Box.mk v125 ByteArray.empty j139.1 j139.2 v128 v131 v138 0 false)]), (AMap.put s119.2 v125 v143)) (app1 hn119 h) (by omega) ⟨⟨.same rfl, .same rfl, .same rfl, .same rfl, .same rfl, .same rfl, .same rfl, .same rfl, trivial⟩, ⟨⟨_, rfl, .same⟩, ⟨_, rfl, .map⟩, ⟨_, rfl, .boxL rfl ⟨.same rfl, .same rfl, trivial⟩⟩, trivial⟩, rfl⟩
 ·
  have h := app1 hkx119 (each_nil hi119 (not_lt_len hb))
  refine JC_exit ?_
  refine hK4 _ _ ?_
  refine Js (fun K145 hK145 => ?_)
  refine Js fun K146 hK146 => Jr ?_
  refine Jg (u := OW 1017 9 Box.av s119.1) (Am rfl rfl) ?_ rfl rfl rfl
  refine JL_lenM (f := Box.av) (xs := s119.1) tf_slice_39 rfl rfl (fun hm84 => ?_) rfl rfl rfl
  obtain ⟨v147, hv147, h⟩ := chk_out h
  refine Jg (u := I64 v147) (A_add hv147 rfl rfl rfl) ?_ rfl rfl rfl
  refine Jg (u := I64 0) (Am rfl rfl) ?_ rfl rfl rfl
  refine Jn (hK146 _ _ ?_)
  refine JC_block ?_
  obtain ⟨hx148, h⟩ := need_out h
  obtain ⟨b148, kx148, hb148, hkx148, h⟩ := upto_in h
  refine JC_loop2 (fun i148 (s148 : (List Box) × (AMap Int Int)) => upto b148 kx148 (v147.toNat - i148) i148 s148 = some r) (fun i148 s148 => [(2, I64 calls), (4, .dptr [LS 12 Column.av s.Columns, LS 2 Cover.av s.Covers, I64 s.Light.Kilos, I64 s.Light.X, I64 s.Light.Y, I64 s.Light.Z, LS 5 Row.av s.Rows, LS 5 Frame.av s.Frames, LS 6 Tank.av s.Tanks, I64 s.Limits.Tolerance, I64 s.Limits.Trim, I64 s.Limits.List_, I64 s.Limits.Stability]), (9, .ptr 1016 0), (10, LS 9 Box.av s148.1), (11, .mp 1023), (85, I64 v147), (86, I64 (i148 : Int))]) (fun i148 s148 => [(1023, MP 66 (fun n : Int => Value.int .i64 n) I64 s148.2), (1016, .box 59 [LS 1 (LS 4 Stowed.av) ([] : List (List Stowed)), LS 1 (LS 1 I64) ([] : List (List Int))])]) (fun i148 => v147.toNat - i148) 0 (s119.1, s119.2) h ⟨⟨.same rfl, .same rfl, .same rfl, .list rfl, .same rfl, .same rfl, .same rfl, trivial⟩, ⟨⟨_, rfl, .map⟩, ⟨_, rfl, .boxL rfl ⟨.same rfl, .same rfl, trivial⟩⟩, trivial⟩, rfl⟩ ?_
  clear h
  intro i148 s148 hi148 K148 e148
  refine Js fun K149 hK149 => Jr ?_
  refine Jg (u := BL (decide ((i148 : Int) < v147))) (A_lss rfl rfl rfl) ?_ rfl rfl rfl
  refine Jn (hK149 _ _ ?_)
  refine Js (fun K150 hK150 => ?_)
  refine JC_cond rfl (fun hb => ?_) (fun hb => ?_)
  ·
   have hk148 := lt_toNat hb
   obtain ⟨nx148, hn148, h⟩ := upto_out hi148 hk148
   replace h := app3 hb148 h
   refine JC_skip ?_
   refine hK150 _ _ ?_
   refine Js (fun K151 hK151 => ?_)
   refine JC_block ?_
   refine Js fun K152 hK152 => Jr ?_
   refine Jg (u := .agg [LS 12 Column.av s.Columns, LS 2 Cover.av s.Covers, I64 s.Light.Kilos, I64 s.Light.X, I64 s.Light.Y, I64 s.Light.Z, LS 5 Row.av s.Rows, LS 5 Frame.av s.Frames, LS 6 Tank.av s.Tanks, I64 s.Limits.Tolerance, I64 s.Limits.Trim, I64 s.Limits.List_, I64 s.Limits.Stability]) (A_loadAgg tf_agg_35 rfl rfl rfl) ?_ rfl rfl rfl
   refine Jg (u := LS 9 Box.av s148.1) (Am rfl rfl) ?_ rfl rfl rfl
   refine Jg (u := .mp 1023) (Am rfl rfl) ?_ rfl rfl rfl
   refine Jg (u := I64 calls) (Am rfl rfl) ?_ rfl rfl rfl
   obtain ⟨r153, hr153, h⟩ := bnd_out h
   refine Jg (u := .tup [.agg [LS 1 (LS 4 Stowed.av) r153.1.States, LS 1 (LS 1 I64) r153.1.Water], I64 r153.2.1]) (A_callL (args := [.agg [LS 12 Column.av s.Columns, LS 2 Cover.av s.Covers, I64 s.Light.Kilos, I64 s.Light.X, I64 s.Light.Y, I64 s.Light.Z, LS 5 Row.av s.Rows, LS 5 Frame.av s.Frames, LS 6 Tank.av s.Tanks, I64 s.Limits.Tolerance, I64 s.Limits.Trim, I64 s.Limits.List_, I64 s.Limits.Stability], LS 9 Box.av s148.1, .mp 1023, I64 calls]) (L0 := [(1023, MP 66 (fun n : Int => Value.int .i64 n) I64 s148.2)]) (Lr := [(1023, MP 66 (fun n : Int => Value.int .i64 n) I64 r153.2.2)]) rfl (M_twistlocklaw23_voyage_m140000020 F s s148.1 s148.2 calls r153 hr153) tf_call_27 ⟨.inl rfl, rfl, .inl rfl, rfl, .inl rfl, rfl, .inl rfl, rfl, trivial⟩ ⟨rfl, trivial⟩ rfl rfl rfl) ?_ rfl rfl rfl
   refine Jg (u := .tup [.agg [LS 1 (LS 4 Stowed.av) r153.1.States, LS 1 (LS 1 I64) r153.1.Water], I64 r153.2.1]) (Am rfl rfl) ?_ rfl rfl rfl
   refine Jg (u := .agg [LS 1 (LS 4 Stowed.av) r153.1.States, LS 1 (LS 1 I64) r153.1.Water]) (A_extract rfl rfl rfl) ?_ rfl rfl rfl
   refine Jg (u := I64 r153.2.1) (A_extract rfl rfl rfl) ?_ rfl rfl rfl
   refine Jg (u := .ptr 1020 0) (A_allocJ 1020 2 tf_zsize_59 rfl rfl) ?_ rfl rfl rfl
   refine JL_go0 (u := .junk) (A_store (u := .agg [LS 1 (LS 4 Stowed.av) r153.1.States, LS 1 (LS 1 I64) r153.1.Water]) (ds := [LS 1 (LS 4 Stowed.av) r153.1.States, LS 1 (LS 1 I64) r153.1.Water]) tf_size_59 rfl rfl rfl rfl rfl rfl rfl rfl) ?_ rfl rfl
   refine Jg (u := I64 r153.2.1) (Aa rfl rfl) ?_ rfl rfl rfl
   refine Jn (hK152 _ _ ?_)
   refine JC_freeze [(2, I64 calls), (4, .dptr [LS 12 Column.av s.Columns, LS 2 Cover.av s.Covers, I64 s.Light.Kilos, I64 s.Light.X, I64 s.Light.Y, I64 s.Light.Z, LS 5 Row.av s.Rows, LS 5 Frame.av s.Frames, LS 6 Tank.av s.Tanks, I64 s.Limits.Tolerance, I64 s.Limits.Trim, I64 s.Limits.List_, I64 s.Limits.Stability]), (9, .ptr 1016 0), (10, LS 9 Box.av s148.1), (11, .mp 1023), (15, .dptr [LS 1 (LS 4 Stowed.av) r153.1.States, LS 1 (LS 1 I64) r153.1.Water]), (16, I64 r153.2.1), (85, I64 v147), (86, I64 (i148 : Int))] [(1023, MP 66 (fun n : Int => Value.int .i64 n) I64 r153.2.2), (1016, .box 59 [LS 1 (LS 4 Stowed.av) ([] : List (List Stowed)), LS 1 (LS 1 I64) ([] : List (List Int))])] 1020 rfl rfl rfl ⟨⟨_, rfl, .map⟩, ⟨_, rfl, .boxEq rfl rfl⟩, trivial⟩ rfl (by exact ⟨.conv (.same rfl), .conv (.same rfl), .conv (.same rfl), .conv (.same rfl), .conv (.same rfl), .ptr, .conv (.same rfl), .conv (.same rfl), .conv (.same rfl), trivial⟩) ?_
   refine Js (fun K154 hK154 => ?_)
   refine Js fun K155 hK155 => Jr ?_
   refine Jg (u := I64 r153.2.1) (Am rfl rfl) ?_ rfl rfl rfl
   refine Jg (u := BL (decide (r153.2.1 = 0))) (A_eql rfl rfl rfl) ?_ rfl rfl rfl
   refine Jn (hK155 _ _ ?_)
   refine JC_cond rfl (fun hb => ?_) (fun hb => ?_)
   ·
    replace h := bif_t hb h
    refine Js (fun K156 hK156 => ?_)
    refine JC_fits (l' := [(9, .ptr 1016 0), (10, LS 9 Box.av s148.1), (15, .dptr [LS 1 (LS 4 Stowed.av) r153.1.States, LS 1 (LS 1 I64) r153.1.Water])]) (L' := [(1023, MP 66 (fun n : Int => Value.int .i64 n) I64 r153.2.2), (1016, .box 59 [LS 1 (LS 4 Stowed.av) ([] : List (List Stowed)), LS 1 (LS 1 I64) ([] : List (List Int))])]) ⟨⟨.same rfl, .same rfl, .same rfl, trivial⟩, ⟨⟨_, rfl, .map⟩, ⟨_, rfl, .boxL rfl ⟨.same rfl, .same rfl, trivial⟩⟩, trivial⟩, rfl⟩ ?_
    refine JC_draw [3] [0, 0, 0, 0] [0, 0, 0, 0] [[(1023, MP 66 (fun n : Int => Value.int .i64 n) I64 r153.2.2), (1016, .box 59 [LS 1 (LS 4 Stowed.av) ([] : List (List Stowed)), LS 1 (LS 1 I64) ([] : List (List Int))])], ((1016, .box 59 [LS 1 (LS 4 Stowed.av) r153.1.States, LS 1 (LS 1 I64) r153.1.Water]) :: [(1023, MP 66 (fun n : Int => Value.int .i64 n) I64 r153.2.2), (1016, .box 59 [LS 1 (LS 4 Stowed.av) ([] : List (List Stowed)), LS 1 (LS 1 I64) ([] : List (List Int))])])] tf_mixed (by kernel_rfl) rfl rfl ?_
    refine D_ro (u := LS 9 Box.av s148.1) rfl rfl ⟨O_go (Am rfl rfl) rfl, trivial⟩ ?_ rfl
    refine D_ro (u := .agg [LS 1 (LS 4 Stowed.av) r153.1.States, LS 1 (LS 1 I64) r153.1.Water]) rfl rfl ⟨O_go (A_loadAgg tf_agg_59 rfl rfl rfl) rfl, trivial⟩ ?_ rfl
    refine D_ro (u := LS 9 Box.av s148.1) rfl rfl ⟨O_go (Aa rfl rfl) rfl, trivial⟩ ?_ rfl
    refine D_w0 (u := .junk) rfl rfl rfl rfl (O_go (A_store (u := .agg [LS 1 (LS 4 Stowed.av) r153.1.States, LS 1 (LS 1 I64) r153.1.Water]) (ds := [LS 1 (LS 4 Stowed.av) r153.1.States, LS 1 (LS 1 I64) r153.1.Water]) tf_size_59 rfl rfl rfl rfl rfl rfl rfl rfl) rfl) ?_
    refine D_nil ?_
    refine hK156 _ _ ?_
    refine JC_ret ?_
    exact ⟨[LS 9 Box.av s148.1, .agg [LS 1 (LS 4 Stowed.av) r153.1.States, LS 1 (LS 1 I64) r153.1.Water]], [], trivial, rfl, ⟨⟨_, rfl, .conv (.same rfl)⟩, ⟨_, ⟨_, _, _, _, rfl, rfl, rfl, .inl ⟨tf_agg_59, rfl⟩⟩, .conv (.same rfl)⟩, trivial⟩, rfl, congrArg (fun r : (List Box) × Plan => (.tup [LS 9 Box.av r.1, .agg [LS 1 (LS 4 Stowed.av) r.2.States, LS 1 (LS 1 I64) r.2.Water]] : AV)) (Option.some.inj h)⟩
   ·
    replace h := bif_f hb h
    refine JC_skip ?_
    refine hK154 _ _ ?_
    refine Js fun K157 hK157 => Jr ?_
    refine Jg (u := OW 1021 9 Box.av ([] : List Box)) (A_nilOwn 1021 50 9 rfl rfl rfl) ?_ rfl rfl rfl
    refine Jn (hK157 _ _ ?_)
    refine Js (fun K158 hK158 => ?_)
    refine Js fun K159 hK159 => Jr ?_
    refine Jg (u := LS 9 Box.av s148.1) (Am rfl rfl) ?_ rfl rfl rfl
    refine JL_lenM (f := Box.av) (xs := s148.1) tf_slice_39 rfl rfl (fun hm101 => ?_) rfl rfl rfl
    refine Jg (u := I64 0) (Am rfl rfl) ?_ rfl rfl rfl
    refine Jn (hK159 _ _ ?_)
    refine JC_block ?_
    obtain ⟨b174, kx174, hb174, hkx174, h⟩ := each_in h
    refine JC_loop2 (fun i174 (s174 : (List Box)) => each b174 kx174 (List.drop i174 s148.1) i174 s174 = some r) (fun i174 s174 => [(2, I64 calls), (4, .dptr [LS 12 Column.av s.Columns, LS 2 Cover.av s.Covers, I64 s.Light.Kilos, I64 s.Light.X, I64 s.Light.Y, I64 s.Light.Z, LS 5 Row.av s.Rows, LS 5 Frame.av s.Frames, LS 6 Tank.av s.Tanks, I64 s.Limits.Tolerance, I64 s.Limits.Trim, I64 s.Limits.List_, I64 s.Limits.Stability]), (9, .ptr 1016 0), (11, .mp 1023), (16, I64 r153.2.1), (17, OW 1021 9 Box.av s174), (85, I64 v147), (86, I64 (i148 : Int)), (100, LS 9 Box.av s148.1), (101, I64 (s148.1.length : Int)), (102, I64 (i174 : Int))]) (fun i174 s174 => [(1023, MP 66 (fun n : Int => Value.int .i64 n) I64 r153.2.2), (1021, .spare 50 9 s174.length s174.length), (1016, .box 59 [LS 1 (LS 4 Stowed.av) ([] : List (List Stowed)), LS 1 (LS 1 I64) ([] : List (List Int))])]) (fun i174 => s148.1.length - i174) 0 [] h ⟨⟨.same rfl, .same rfl, .same rfl, .same rfl, .same rfl, .same rfl, .same rfl, .same rfl, .same rfl, .same rfl, .same rfl, trivial⟩, ⟨⟨_, rfl, .map⟩, ⟨_, rfl, .same⟩, ⟨_, rfl, .boxL rfl ⟨.same rfl, .same rfl, trivial⟩⟩, trivial⟩, rfl⟩ ?_
    clear h
    intro i174 s174 hi174 K174 e174
    refine Js fun K175 hK175 => Jr ?_
    refine Jg (u := BL (decide ((i174 : Int) < (s148.1.length : Int)))) (A_lss rfl rfl rfl) ?_ rfl rfl rfl
    refine Jn (hK175 _ _ ?_)
    refine Js (fun K176 hK176 => ?_)
    refine JC_cond rfl (fun hb => ?_) (fun hb => ?_)
    ·
     have hk174 := lt_len hb
     obtain ⟨y174, nx174, hy174, hn174, h⟩ := each_out hi174 hk174
     replace h := app4 hb174 h
     refine JC_skip ?_
     refine hK176 _ _ ?_
     obtain ⟨kj177, hkj177, h⟩ := jp_out h
     refine JC_seqJ (fun j177 : (List Box) => kj177 j177 = some r) (fun j177 => [(2, I64 calls), (4, .dptr [LS 12 Column.av s.Columns, LS 2 Cover.av s.Covers, I64 s.Light.Kilos, I64 s.Light.X, I64 s.Light.Y, I64 s.Light.Z, LS 5 Row.av s.Rows, LS 5 Frame.av s.Frames, LS 6 Tank.av s.Tanks, I64 s.Limits.Tolerance, I64 s.Limits.Trim, I64 s.Limits.List_, I64 s.Limits.Stability]), (9, .ptr 1016 0), (11, .mp 1023), (16, I64 r153.2.1), (17, OW 1021 9 Box.av j177), (85, I64 v147), (86, I64 (i148 : Int)), (100, LS 9 Box.av s148.1), (101, I64 (s148.1.length : Int)), (102, I64 (i174 : Int))]) (fun j177 => [(1023, MP 66 (fun n : Int => Value.int .i64 n) I64 r153.2.2), (1021, .spare 50 9 j177.length j177.length), (1016, .box 59 [LS 1 (LS 4 Stowed.av) ([] : List (List Stowed)), LS 1 (LS 1 I64) ([] : List (List Int))])]) (fun Kj177 ej177 => ?_) ?_
     ·
      refine JC_block ?_
      refine Js fun K178 hK178 => Jr ?_
      refine Jg (u := .dptr (Box.cs y174)) (A_indexM (f := Box.av) (xs := s148.1) (y := y174) rfl rfl rfl tf_slice_39 hy174 rfl) ?_ rfl rfl rfl
      refine Jg (u := .agg (Box.cs y174)) (A_loadAgg tf_agg_50 rfl rfl rfl) ?_ rfl rfl rfl
      refine Jg (u := .ptr 1022 0) (A_allocJ 1022 9 tf_zsize_50 rfl rfl) ?_ rfl rfl rfl
      refine JL_go0 (u := .junk) (A_store (u := .agg (Box.cs y174)) (ds := [I64 y174.ID, ST y174.Number, U8 y174.Size, BL y174.High, I64 y174.Kilos, I64 y174.Load, I64 y174.Discharge, U8 y174.Class, BL y174.Reefer]) tf_size_50 rfl rfl rfl rfl rfl rfl rfl rfl) ?_ rfl rfl
      refine Jn (hK178 _ _ ?_)
      refine JC_freeze [(2, I64 calls), (4, .dptr [LS 12 Column.av s.Columns, LS 2 Cover.av s.Covers, I64 s.Light.Kilos, I64 s.Light.X, I64 s.Light.Y, I64 s.Light.Z, LS 5 Row.av s.Rows, LS 5 Frame.av s.Frames, LS 6 Tank.av s.Tanks, I64 s.Limits.Tolerance, I64 s.Limits.Trim, I64 s.Limits.List_, I64 s.Limits.Stability]), (9, .ptr 1016 0), (11, .mp 1023), (16, I64 r153.2.1), (17, OW 1021 9 Box.av s174), (19, .dptr (Box.cs y174)), (85, I64 v147), (86, I64 (i148 : Int)), (100, LS 9 Box.av s148.1), (101, I64 (s148.1.length : Int)), (102, I64 (i174 : Int))] [(1023, MP 66 (fun n : Int => Value.int .i64 n) I64 r153.2.2), (1021, .spare 50 9 s174.length s174.length), (1016, .box 59 [LS 1 (LS 4 Stowed.av) ([] : List (List Stowed)), LS 1 (LS 1 I64) ([] : List (List Int))])] 1022 rfl rfl rfl ⟨⟨_, rfl, .map⟩, ⟨_, rfl, .same⟩, ⟨_, rfl, .boxEq rfl rfl⟩, trivial⟩ rfl (by exact ⟨.conv (.same rfl), .conv (.same rfl), .conv (.same rfl), .conv (.same rfl), .conv (.same rfl), .conv (.same rfl), .ptr, .conv (.same rfl), .conv (.same rfl), .conv (.same rfl), .conv (.same rfl), .conv (.same rfl), trivial⟩) ?_
      refine Js fun K179 hK179 => Jr ?_
      refine Jg (u := .dptr (Box.cs y174)) (A_fieldM tf_field_50_0 rfl rfl rfl) ?_ rfl rfl rfl
      refine Jg (u := I64 y174.ID) (A_load tf_scalar_3 rfl rfl rfl) ?_ rfl rfl rfl
      refine Jg (u := I64 r153.2.1) (Am rfl rfl) ?_ rfl rfl rfl
      refine Jg (u := BL (decide (y174.ID ≠ r153.2.1))) (A_neq rfl rfl rfl) ?_ rfl rfl rfl
      refine Jn (hK179 _ _ ?_)
      refine JC_cond rfl (fun hb => ?_) (fun hb => ?_)
      ·
       replace h := bif_t hb h
       refine Jr ?_
       refine Jg (u := OW 1021 9 Box.av s174) (Am rfl rfl) ?_ rfl rfl rfl
       refine Jg (u := .agg (Box.cs y174)) (A_loadAgg tf_agg_50 rfl rfl rfl) ?_ rfl rfl rfl
       refine Jg (u := LS 9 Box.av [y174]) (A_buildSlice (xs := [.agg (Box.cs y174)]) rfl ⟨rfl, rfl, trivial⟩ tf_slice_39 tf_zsize_50 rfl rfl rfl rfl) ?_ rfl rfl rfl
       obtain ⟨ha180, h⟩ := need_out h
       refine Jg (u := OW 1021 9 Box.av (s174 ++ [y174])) (A_appendM (f := Box.av) (xs := s174) (ys := [y174]) rfl rfl rfl rfl tf_slice_39 tf_elem_50 ha180 (fun _ => rfl) (.inl rfl) rfl) ?_ rfl rfl rfl
       refine Jg (u := OW 1021 9 Box.av (s174 ++ [y174])) (Aa rfl rfl) ?_ rfl rfl rfl
       refine Jn ?_
       exact ej177 _ _ (s174 ++ [y174]) h ⟨⟨.same rfl, .same rfl, .same rfl, .same rfl, .same rfl, .same rfl, .same rfl, .same rfl, .same rfl, .same rfl, .same rfl, trivial⟩, ⟨⟨_, rfl, .map⟩, ⟨_, rfl, .same⟩, ⟨_, rfl, .boxL rfl ⟨.same rfl, .same rfl, trivial⟩⟩, trivial⟩, rfl⟩
      ·
       replace h := bif_f hb h
       refine JC_skip ?_
       exact ej177 _ _ s174 h ⟨⟨.same rfl, .same rfl, .same rfl, .same rfl, .same rfl, .same rfl, .same rfl, .same rfl, .same rfl, .same rfl, .same rfl, trivial⟩, ⟨⟨_, rfl, .map⟩, ⟨_, rfl, .same⟩, ⟨_, rfl, .boxL rfl ⟨.same rfl, .same rfl, trivial⟩⟩, trivial⟩, rfl⟩
     ·intro j177 h
      replace h := app1 hkj177 h
      refine Jr ?_
      refine Jg (u := I64 ((i174 + 1 : Nat) : Int)) (A_add (idx_succ hk174 hm101) rfl rfl rfl) ?_ rfl rfl rfl
      refine Jg (u := I64 ((i174 + 1 : Nat) : Int)) (Am rfl rfl) ?_ rfl rfl rfl
      refine Jn ?_
      exact e174 _ _ (i174 + 1) j177 (app1 hn174 h) (by omega) ⟨⟨.same rfl, .same rfl, .same rfl, .same rfl, .same rfl, .same rfl, .same rfl, .same rfl, .same rfl, .same rfl, .same rfl, trivial⟩, ⟨⟨_, rfl, .map⟩, ⟨_, rfl, .same⟩, ⟨_, rfl, .boxL rfl ⟨.same rfl, .same rfl, trivial⟩⟩, trivial⟩, rfl⟩
    ·
     have h := app1 hkx174 (each_nil hi174 (not_lt_len hb))
     refine JC_exit ?_
     refine hK158 _ _ ?_
     refine Jr ?_
     refine Jg (u := OW 1021 9 Box.av s174) (Am rfl rfl) ?_ rfl rfl rfl
     refine Jg (u := OW 1021 9 Box.av s174) (Aa rfl rfl) ?_ rfl rfl rfl
     refine Jn (hK151 _ _ ?_)
     refine Jr ?_
     refine Jg (u := I64 ((i148 + 1 : Nat) : Int)) (A_add (idx_succ hk148 (toNat_max hx148)) rfl rfl rfl) ?_ rfl rfl rfl
     refine Jg (u := I64 ((i148 + 1 : Nat) : Int)) (Am rfl rfl) ?_ rfl rfl rfl
     refine Jn ?_
     exact e148 _ _ (i148 + 1) (s174, r153.2.2) (app1 hn148 h) (by omega) ⟨⟨.same rfl, .same rfl, .same rfl, .list rfl, .same rfl, .same rfl, .same rfl, trivial⟩, ⟨⟨_, rfl, .map⟩, ⟨_, rfl, .boxL rfl ⟨.same rfl, .same rfl, trivial⟩⟩, trivial⟩, rfl⟩
  ·
   have h := app1 hkx148 (upto_nil hi148 (not_lt_toNat hb))
   refine JC_exit ?_
   refine hK145 _ _ ?_
   refine Js (fun K181 hK181 => ?_)
   refine JC_fits (l' := [(2, I64 calls), (9, .ptr 1016 0)]) (L' := [(1023, MP 66 (fun n : Int => Value.int .i64 n) I64 s148.2), (1016, .box 59 [LS 1 (LS 4 Stowed.av) ([] : List (List Stowed)), LS 1 (LS 1 I64) ([] : List (List Int))])]) ⟨⟨.same rfl, .same rfl, trivial⟩, ⟨⟨_, rfl, .map⟩, ⟨_, rfl, .boxL rfl ⟨.same rfl, .same rfl, trivial⟩⟩, trivial⟩, rfl⟩ ?_
   obtain ⟨m182, hm182, h⟩ := bnd_out h
   obtain ⟨ha183, h⟩ := need_out h
   refine JC_draw [4] [0, 0, 0, 0, 0] [0, 0, 0, 0, 0] [[(1023, MP 66 (fun n : Int => Value.int .i64 n) I64 s148.2), (1016, .box 59 [LS 1 (LS 4 Stowed.av) ([] : List (List Stowed)), LS 1 (LS 1 I64) ([] : List (List Int))])], ((1016, .box 59 [LS 1 (LS 4 Stowed.av) (List.replicate m182 ([] : List Stowed)), LS 1 (LS 1 I64) ([] : List (List Int))]) :: [(1023, MP 66 (fun n : Int => Value.int .i64 n) I64 s148.2), (1016, .box 59 [LS 1 (LS 4 Stowed.av) ([] : List (List Stowed)), LS 1 (LS 1 I64) ([] : List (List Int))])])] tf_mixed (by kernel_rfl) rfl rfl ?_
   refine D_ro (u := I64 calls) rfl rfl ⟨O_go (Am rfl rfl) rfl, trivial⟩ ?_ rfl
   refine D_ro (u := LS 1 (LS 4 Stowed.av) (List.replicate m182 ([] : List Stowed))) rfl rfl ⟨O_go (A_makeDM (f := (LS 4 Stowed.av)) (n := m182) [] [.slice none 0 0] rfl rfl rfl tf_slice_56 tf_elem_40 tf_zero_40 (natOf_out hm182) (natOf_out hm182) ha183 ⟨.inr ⟨_, rfl, rfl⟩, trivial⟩ rfl) rfl, trivial⟩ ?_ rfl
   refine D_ro (u := .agg [LS 1 (LS 4 Stowed.av) (List.replicate m182 ([] : List Stowed)), LS 1 (LS 1 I64) ([] : List (List Int))]) rfl rfl ⟨O_go (A_buildZ (cs := [LS 1 (LS 4 Stowed.av) (List.replicate m182 ([] : List Stowed)), LS 1 (LS 1 I64) ([] : List (List Int))]) [(0, 1), (1, 1)] [LS 1 (LS 4 Stowed.av) ([] : List (List Stowed)), LS 1 (LS 1 I64) ([] : List (List Int))] [.slice none 0 0, .slice none 0 0] tf_places_59 tf_zero_59 ⟨.inr ⟨_, rfl, rfl⟩, .inr ⟨_, rfl, rfl⟩, trivial⟩ rfl rfl) rfl, trivial⟩ ?_ rfl
   refine D_ro (u := LS 9 Box.av ([] : List Box)) rfl rfl ⟨O_go (A_nilList 9 rfl rfl) rfl, trivial⟩ ?_ rfl
   refine D_w0 (u := .junk) rfl rfl rfl rfl (O_go (A_store (u := .agg [LS 1 (LS 4 Stowed.av) (List.replicate m182 ([] : List Stowed)), LS 1 (LS 1 I64) ([] : List (List Int))]) (ds := [LS 1 (LS 4 Stowed.av) (List.replicate m182 ([] : List Stowed)), LS 1 (LS 1 I64) ([] : List (List Int))]) tf_size_59 rfl rfl rfl rfl rfl rfl rfl rfl) rfl) ?_
   refine D_nil ?_
   refine hK181 _ _ ?_
   refine JC_ret ?_
   exact ⟨[LS 9 Box.av ([] : List Box), .agg [LS 1 (LS 4 Stowed.av) (List.replicate m182 ([] : List Stowed)), LS 1 (LS 1 I64) ([] : List (List Int))]], [], trivial, rfl, ⟨⟨_, rfl, .conv (.same rfl)⟩, ⟨_, ⟨_, _, _, _, rfl, rfl, rfl, .inl ⟨tf_agg_59, rfl⟩⟩, .conv (.same rfl)⟩, trivial⟩, rfl, congrArg (fun r : (List Box) × Plan => (.tup [LS 9 Box.av r.1, .agg [LS 1 (LS 4 Stowed.av) r.2.States, LS 1 (LS 1 I64) r.2.Water]] : AV)) (Option.some.inj h)⟩

def M_plan_Boxes (boxes : List Box) (calls : Int) : Option Bool :=
 bif (((decide (calls < 1)) || (decide (20 < calls))) || (decide (2000 < (boxes.length : Int)))) then
 (some false)
 else
 (each (fun y28 i28 (s28 : Int) nx28 =>
   bif ((((((decide (y28.ID ≤ s28)) || (decide (999999 < y28.ID))) || ((decide (y28.Size ≠ 40)) && ((decide (y28.Size ≠ 20)) || y28.High))) || (decide (y28.Load < 0))) || (decide (y28.Discharge ≤ y28.Load))) || (decide (calls ≤ y28.Discharge))) then
   (some false)
   else
   (nx28 y28.ID))
  (fun (s28 : Int) =>
   some true) boxes 0 0)
theorem M_plan_Boxes_w (boxes : List Box) (calls : Int) (r : Bool) (h : M_plan_Boxes boxes calls = some r) : Pure Try.prog 47 [LS 9 Box.av boxes, I64 calls] (· = BL r) := by
 unfold M_plan_Boxes at h
 refine Pure_ofG [.tmp 4] Try.func47 rfl rfl ?_
 refine Js fun K1 hK1 => Jr ?_
 refine Jg (u := BL false) (Aa rfl rfl) ?_ rfl rfl rfl
 refine Jn (hK1 _ _ ?_)
 refine Js (fun K2 hK2 => ?_)
 refine Js fun K3 hK3 => Jr ?_
 refine Jg (u := I64 calls) (Am rfl rfl) ?_ rfl rfl rfl
 refine Jg (u := BL (decide (calls < 1))) (A_lss rfl rfl rfl) ?_ rfl rfl rfl
 refine Jg (u := BL (decide (calls < 1))) (Am rfl rfl) ?_ rfl rfl rfl
 refine JL_opt (u := I64 calls) [] rfl rfl rfl .scf trivial (fun hc => Am rfl rfl) ?_ rfl rfl rfl
 refine JL_opt (u := BL (decide (20 < calls))) [(11, I64 calls)] rfl rfl rfl .scf ⟨.all id, trivial⟩ (fun hc => A_gtr rfl rfl rfl) ?_ rfl rfl rfl
 refine Jg (u := BL ((decide (calls < 1)) || (decide (20 < calls)))) (A_or rfl rfl rfl rfl) ?_ rfl rfl rfl
 refine Jg (u := BL ((decide (calls < 1)) || (decide (20 < calls)))) (Am rfl rfl) ?_ rfl rfl rfl
 refine JL_opt (u := LS 9 Box.av boxes) [] rfl rfl rfl .scf trivial (fun hc => Am rfl rfl) ?_ rfl rfl rfl
 refine JL_opt (u := I64 (boxes.length : Int)) [(15, LS 9 Box.av boxes)] rfl rfl rfl .scf ⟨.all id, trivial⟩ (fun hc => A_lenM (f := Box.av) (xs := boxes) tf_slice_39 rfl rfl) ?_ rfl rfl rfl
 refine JL_opt (u := BL (decide (2000 < (boxes.length : Int)))) [(16, I64 (boxes.length : Int))] rfl rfl rfl .scf ⟨.all id, trivial⟩ (fun hc => A_gtr rfl rfl rfl) ?_ rfl rfl rfl
 refine Jg (u := BL (((decide (calls < 1)) || (decide (20 < calls))) || (decide (2000 < (boxes.length : Int))))) (A_or rfl rfl rfl rfl) ?_ rfl rfl rfl
 refine Jn (hK3 _ _ ?_)
 refine JC_cond rfl (fun hb => ?_) (fun hb => ?_)
 ·
  replace h := bif_t hb h
  refine Js fun K4 hK4 => Jr ?_
  refine Jg (u := BL false) (Aa rfl rfl) ?_ rfl rfl rfl
  refine Jn (hK4 _ _ ?_)
  refine JC_ret ?_
  exact ⟨[BL false], [], trivial, rfl, ⟨⟨_, rfl, .conv (.same rfl)⟩, trivial⟩, rfl, congrArg (fun r : Bool => (BL r : AV)) (Option.some.inj h)⟩
 ·
  replace h := bif_f hb h
  refine JC_skip ?_
  refine hK2 _ _ ?_
  refine Js fun K5 hK5 => Jr ?_
  refine Jg (u := I64 0) (Aa rfl rfl) ?_ rfl rfl rfl
  refine Jn (hK5 _ _ ?_)
  refine Js (fun K6 hK6 => ?_)
  refine Js fun K7 hK7 => Jr ?_
  refine Jg (u := LS 9 Box.av boxes) (Am rfl rfl) ?_ rfl rfl rfl
  refine JL_lenM (f := Box.av) (xs := boxes) tf_slice_39 rfl rfl (fun hm20 => ?_) rfl rfl rfl
  refine Jg (u := I64 0) (Am rfl rfl) ?_ rfl rfl rfl
  refine Jn (hK7 _ _ ?_)
  refine JC_block ?_
  obtain ⟨b28, kx28, hb28, hkx28, h⟩ := each_in h
  refine JC_loop2 (fun i28 (s28 : Int) => each b28 kx28 (List.drop i28 boxes) i28 s28 = some r) (fun i28 s28 => [(1, I64 calls), (5, I64 s28), (19, LS 9 Box.av boxes), (20, I64 (boxes.length : Int)), (21, I64 (i28 : Int))]) (fun i28 s28 => []) (fun i28 => boxes.length - i28) 0 0 h ⟨⟨.same rfl, .same rfl, .same rfl, .same rfl, .same rfl, trivial⟩, trivial, rfl⟩ ?_
  clear h
  intro i28 s28 hi28 K28 e28
  refine Js fun K29 hK29 => Jr ?_
  refine Jg (u := BL (decide ((i28 : Int) < (boxes.length : Int)))) (A_lss rfl rfl rfl) ?_ rfl rfl rfl
  refine Jn (hK29 _ _ ?_)
  refine Js (fun K30 hK30 => ?_)
  refine JC_cond rfl (fun hb => ?_) (fun hb => ?_)
  ·
   have hk28 := lt_len hb
   obtain ⟨y28, nx28, hy28, hn28, h⟩ := each_out hi28 hk28
   replace h := app4 hb28 h
   refine JC_skip ?_
   refine hK30 _ _ ?_
   refine Js (fun K31 hK31 => ?_)
   refine JC_block ?_
   refine Js fun K32 hK32 => Jr ?_
   refine Jg (u := .dptr (Box.cs y28)) (A_indexM (f := Box.av) (xs := boxes) (y := y28) rfl rfl rfl tf_slice_39 hy28 rfl) ?_ rfl rfl rfl
   refine Jg (u := .agg (Box.cs y28)) (A_loadAgg tf_agg_50 rfl rfl rfl) ?_ rfl rfl rfl
   refine Jg (u := .ptr 1107 0) (A_allocJ 1107 9 tf_zsize_50 rfl rfl) ?_ rfl rfl rfl
   refine JL_go0 (u := .junk) (A_store (u := .agg (Box.cs y28)) (ds := [I64 y28.ID, ST y28.Number, U8 y28.Size, BL y28.High, I64 y28.Kilos, I64 y28.Load, I64 y28.Discharge, U8 y28.Class, BL y28.Reefer]) tf_size_50 rfl rfl rfl rfl rfl rfl rfl rfl) ?_ rfl rfl
   refine Jn (hK32 _ _ ?_)
   refine JC_freeze [(1, I64 calls), (5, I64 s28), (7, .dptr (Box.cs y28)), (19, LS 9 Box.av boxes), (20, I64 (boxes.length : Int)), (21, I64 (i28 : Int))] [] 1107 rfl rfl rfl trivial rfl (by exact ⟨.conv (.same rfl), .conv (.same rfl), .ptr, .conv (.same rfl), .conv (.same rfl), .conv (.same rfl), trivial⟩) ?_
   refine Js (fun K33 hK33 => ?_)
   refine Js fun K34 hK34 => Jr ?_
   refine Jg (u := .dptr (Box.cs y28)) (A_fieldM tf_field_50_0 rfl rfl rfl) ?_ rfl rfl rfl
   refine Jg (u := I64 y28.ID) (A_load tf_scalar_3 rfl rfl rfl) ?_ rfl rfl rfl
   refine Jg (u := I64 s28) (Am rfl rfl) ?_ rfl rfl rfl
   refine Jg (u := BL (decide (y28.ID ≤ s28))) (A_leq rfl rfl rfl) ?_ rfl rfl rfl
   refine Jg (u := BL (decide (y28.ID ≤ s28))) (Am rfl rfl) ?_ rfl rfl rfl
   refine JL_opt (u := .dptr (Box.cs y28)) [] rfl rfl rfl .scf trivial (fun hc => A_fieldM tf_field_50_0 rfl rfl rfl) ?_ rfl rfl rfl
   refine JL_opt (u := I64 y28.ID) [(30, .dptr (Box.cs y28))] rfl rfl rfl .scf ⟨.all id, trivial⟩ (fun hc => A_load tf_scalar_3 rfl rfl rfl) ?_ rfl rfl rfl
   refine JL_opt (u := BL (decide (999999 < y28.ID))) [(31, I64 y28.ID)] rfl rfl rfl .scf ⟨.all id, trivial⟩ (fun hc => A_gtr rfl rfl rfl) ?_ rfl rfl rfl
   refine Jg (u := BL ((decide (y28.ID ≤ s28)) || (decide (999999 < y28.ID)))) (A_or rfl rfl rfl rfl) ?_ rfl rfl rfl
   refine Jg (u := BL ((decide (y28.ID ≤ s28)) || (decide (999999 < y28.ID)))) (Am rfl rfl) ?_ rfl rfl rfl
   refine JL_opt (u := .dptr ((Box.cs y28).drop 2)) [] rfl rfl rfl .scf trivial (fun hc => A_fieldM tf_field_50_2 rfl rfl rfl) ?_ rfl rfl rfl
   refine JL_opt (u := U8 y28.Size) [(35, .dptr ((Box.cs y28).drop 2))] rfl rfl rfl .scf ⟨.all id, trivial⟩ (fun hc => A_load tf_scalar_5 rfl rfl rfl) ?_ rfl rfl rfl
   refine JL_opt (u := BL (decide (y28.Size ≠ 40))) [(36, U8 y28.Size)] rfl rfl rfl .scf ⟨.all id, trivial⟩ (fun hc => A_neq rfl rfl rfl) ?_ rfl rfl rfl
   refine JL_opt (u := BL (decide (y28.Size ≠ 40))) [(37, BL (decide (y28.Size ≠ 40)))] rfl rfl rfl .scf ⟨.all id, trivial⟩ (fun hc => Am rfl rfl) ?_ rfl rfl rfl
   refine JL_opt (u := .dptr ((Box.cs y28).drop 2)) [] rfl rfl rfl .optt trivial (fun hc => A_fieldM tf_field_50_2 rfl rfl rfl) ?_ rfl rfl rfl
   refine JL_opt (u := U8 y28.Size) [(39, .dptr ((Box.cs y28).drop 2))] rfl rfl rfl .optt ⟨.all id, trivial⟩ (fun hc => A_load tf_scalar_5 rfl rfl rfl) ?_ rfl rfl rfl
   refine JL_opt (u := BL (decide (y28.Size ≠ 20))) [(40, U8 y28.Size)] rfl rfl rfl .optt ⟨.all id, trivial⟩ (fun hc => A_neq rfl rfl rfl) ?_ rfl rfl rfl
   refine JL_opt (u := BL (decide (y28.Size ≠ 20))) [(41, BL (decide (y28.Size ≠ 20)))] rfl rfl rfl .optt ⟨.all id, trivial⟩ (fun hc => Am rfl rfl) ?_ rfl rfl rfl
   refine JL_opt (u := .dptr ((Box.cs y28).drop 3)) [] rfl rfl rfl .optf trivial (fun hc => A_fieldM tf_field_50_3 rfl rfl rfl) ?_ rfl rfl rfl
   refine JL_opt (u := BL y28.High) [(43, .dptr ((Box.cs y28).drop 3))] rfl rfl rfl .optf ⟨.all id, trivial⟩ (fun hc => A_load tf_scalar_4 rfl rfl rfl) ?_ rfl rfl rfl
   refine JL_opt (u := BL ((decide (y28.Size ≠ 20)) || y28.High)) [(42, BL (decide (y28.Size ≠ 20))), (44, _)] rfl rfl rfl .optt ⟨.all id, .part, trivial⟩ (fun hc => A_or rfl rfl rfl rfl) ?_ rfl rfl rfl
   refine JL_opt (u := BL ((decide (y28.Size ≠ 40)) && ((decide (y28.Size ≠ 20)) || y28.High))) [(38, BL (decide (y28.Size ≠ 40))), (45, _)] rfl rfl rfl .scf ⟨.all id, .part, trivial⟩ (fun hc => A_and rfl rfl rfl rfl) ?_ rfl rfl rfl
   refine Jg (u := BL (((decide (y28.ID ≤ s28)) || (decide (999999 < y28.ID))) || ((decide (y28.Size ≠ 40)) && ((decide (y28.Size ≠ 20)) || y28.High)))) (A_or rfl rfl rfl rfl) ?_ rfl rfl rfl
   refine Jg (u := BL (((decide (y28.ID ≤ s28)) || (decide (999999 < y28.ID))) || ((decide (y28.Size ≠ 40)) && ((decide (y28.Size ≠ 20)) || y28.High)))) (Am rfl rfl) ?_ rfl rfl rfl
   refine JL_opt (u := .dptr ((Box.cs y28).drop 5)) [] rfl rfl rfl .scf trivial (fun hc => A_fieldM tf_field_50_5 rfl rfl rfl) ?_ rfl rfl rfl
   refine JL_opt (u := I64 y28.Load) [(49, .dptr ((Box.cs y28).drop 5))] rfl rfl rfl .scf ⟨.all id, trivial⟩ (fun hc => A_load tf_scalar_3 rfl rfl rfl) ?_ rfl rfl rfl
   refine JL_opt (u := BL (decide (y28.Load < 0))) [(50, I64 y28.Load)] rfl rfl rfl .scf ⟨.all id, trivial⟩ (fun hc => A_lss rfl rfl rfl) ?_ rfl rfl rfl
   refine Jg (u := BL ((((decide (y28.ID ≤ s28)) || (decide (999999 < y28.ID))) || ((decide (y28.Size ≠ 40)) && ((decide (y28.Size ≠ 20)) || y28.High))) || (decide (y28.Load < 0)))) (A_or rfl rfl rfl rfl) ?_ rfl rfl rfl
   refine Jg (u := BL ((((decide (y28.ID ≤ s28)) || (decide (999999 < y28.ID))) || ((decide (y28.Size ≠ 40)) && ((decide (y28.Size ≠ 20)) || y28.High))) || (decide (y28.Load < 0)))) (Am rfl rfl) ?_ rfl rfl rfl
   refine JL_opt (u := .dptr ((Box.cs y28).drop 5)) [] rfl rfl rfl .scf trivial (fun hc => A_fieldM tf_field_50_5 rfl rfl rfl) ?_ rfl rfl rfl
   refine JL_opt (u := I64 y28.Load) [(54, .dptr ((Box.cs y28).drop 5))] rfl rfl rfl .scf ⟨.all id, trivial⟩ (fun hc => A_load tf_scalar_3 rfl rfl rfl) ?_ rfl rfl rfl
   refine JL_opt (u := .dptr ((Box.cs y28).drop 6)) [] rfl rfl rfl .scf trivial (fun hc => A_fieldM tf_field_50_6 rfl rfl rfl) ?_ rfl rfl rfl
   refine JL_opt (u := I64 y28.Discharge) [(56, .dptr ((Box.cs y28).drop 6))] rfl rfl rfl .scf ⟨.all id, trivial⟩ (fun hc => A_load tf_scalar_3 rfl rfl rfl) ?_ rfl rfl rfl
   refine JL_opt (u := BL (decide (y28.Discharge ≤ y28.Load))) [(55, I64 y28.Load), (57, I64 y28.Discharge)] rfl rfl rfl .scf ⟨.all id, .all id, trivial⟩ (fun hc => A_geq rfl rfl rfl) ?_ rfl rfl rfl
   refine Jg (u := BL (((((decide (y28.ID ≤ s28)) || (decide (999999 < y28.ID))) || ((decide (y28.Size ≠ 40)) && ((decide (y28.Size ≠ 20)) || y28.High))) || (decide (y28.Load < 0))) || (decide (y28.Discharge ≤ y28.Load)))) (A_or rfl rfl rfl rfl) ?_ rfl rfl rfl
   refine Jg (u := BL (((((decide (y28.ID ≤ s28)) || (decide (999999 < y28.ID))) || ((decide (y28.Size ≠ 40)) && ((decide (y28.Size ≠ 20)) || y28.High))) || (decide (y28.Load < 0))) || (decide (y28.Discharge ≤ y28.Load)))) (Am rfl rfl) ?_ rfl rfl rfl
   refine JL_opt (u := .dptr ((Box.cs y28).drop 6)) [] rfl rfl rfl .scf trivial (fun hc => A_fieldM tf_field_50_6 rfl rfl rfl) ?_ rfl rfl rfl
   refine JL_opt (u := I64 y28.Discharge) [(61, .dptr ((Box.cs y28).drop 6))] rfl rfl rfl .scf ⟨.all id, trivial⟩ (fun hc => A_load tf_scalar_3 rfl rfl rfl) ?_ rfl rfl rfl
   refine JL_opt (u := I64 calls) [] rfl rfl rfl .scf trivial (fun hc => Am rfl rfl) ?_ rfl rfl rfl
   refine JL_opt (u := BL (decide (calls ≤ y28.Discharge))) [(62, I64 y28.Discharge), (63, I64 calls)] rfl rfl rfl .scf ⟨.all id, .all id, trivial⟩ (fun hc => A_geq rfl rfl rfl) ?_ rfl rfl rfl
   refine Jg (u := BL ((((((decide (y28.ID ≤ s28)) || (decide (999999 < y28.ID))) || ((decide (y28.Size ≠ 40)) && ((decide (y28.Size ≠ 20)) || y28.High))) || (decide (y28.Load < 0))) || (decide (y28.Discharge ≤ y28.Load))) || (decide (calls ≤ y28.Discharge)))) (A_or rfl rfl rfl rfl) ?_ rfl rfl rfl
   refine Jn (hK34 _ _ ?_)
   refine JC_cond rfl (fun hb => ?_) (fun hb => ?_)
   ·
    replace h := bif_t hb h
    refine Js fun K35 hK35 => Jr ?_
    refine Jg (u := BL false) (Aa rfl rfl) ?_ rfl rfl rfl
    refine Jn (hK35 _ _ ?_)
    refine JC_ret ?_
    exact ⟨[BL false], [], trivial, rfl, ⟨⟨_, rfl, .conv (.same rfl)⟩, trivial⟩, rfl, congrArg (fun r : Bool => (BL r : AV)) (Option.some.inj h)⟩
   ·
    replace h := bif_f hb h
    refine JC_skip ?_
    refine hK33 _ _ ?_
    refine Jr ?_
    refine Jg (u := .dptr (Box.cs y28)) (A_fieldM tf_field_50_0 rfl rfl rfl) ?_ rfl rfl rfl
    refine Jg (u := I64 y28.ID) (A_load tf_scalar_3 rfl rfl rfl) ?_ rfl rfl rfl
    refine Jg (u := I64 y28.ID) (Aa rfl rfl) ?_ rfl rfl rfl
    refine Jn (hK31 _ _ ?_)
    refine Jr ?_
    refine Jg (u := I64 ((i28 + 1 : Nat) : Int)) (A_add (idx_succ hk28 hm20) rfl rfl rfl) ?_ rfl rfl rfl
    refine Jg (u := I64 ((i28 + 1 : Nat) : Int)) (Am rfl rfl) ?_ rfl rfl rfl
    refine Jn ?_
    exact e28 _ _ (i28 + 1) y28.ID (app1 hn28 h) (by omega) ⟨⟨.same rfl, .same rfl, .same rfl, .same rfl, .same rfl, trivial⟩, trivial, rfl⟩
  ·
   have h := app1 hkx28 (each_nil hi28 (not_lt_len hb))
   refine JC_exit ?_
   refine hK6 _ _ ?_
   refine Js fun K36 hK36 => Jr ?_
   refine Jg (u := BL true) (Aa rfl rfl) ?_ rfl rfl rfl
   refine Jn (hK36 _ _ ?_)
   refine JC_ret ?_
   exact ⟨[BL true], [], trivial, rfl, ⟨⟨_, rfl, .conv (.same rfl)⟩, trivial⟩, rfl, congrArg (fun r : Bool => (BL r : AV)) (Option.some.inj h)⟩

def M_plan_Aboard (boxes : List Box) (call : Int) : Option (List Int) :=
 each (fun y19 i19 (s19 : (List Int)) nx19 =>
  jp (fun kj22 =>
   bif ((decide (y19.Load ≤ call)) && (decide (call < y19.Discharge))) then
   (need (decide ((s19.length + [y19.ID].length) * 8 ≤ 140737488355328 ∧ s19.length + [y19.ID].length ≤ maxLen)) <|
    kj22 (s19 ++ [y19.ID]))
   else
   (kj22 s19)) fun (j22 : (List Int)) =>
  nx19 j22)
 (fun (s19 : (List Int)) =>
  some s19) boxes 0 []
theorem M_plan_Aboard_w (boxes : List Box) (call : Int) (r : (List Int)) (h : M_plan_Aboard boxes call = some r) : Pure Try.prog 26 [LS 9 Box.av boxes, I64 call] (· = LS 1 I64 r) := by
 unfold M_plan_Aboard at h
 refine Pure_ofG [.tmp 4] Try.func26 rfl rfl ?_
 refine Js fun K1 hK1 => Jr ?_
 refine Jg (u := LS 1 I64 ([] : List Int)) (A_nilList 1 rfl rfl) ?_ rfl rfl rfl
 refine Jn (hK1 _ _ ?_)
 refine Js fun K2 hK2 => Jr ?_
 refine Jg (u := OW 1061 1 I64 ([] : List Int)) (A_nilOwn 1061 3 1 rfl rfl rfl) ?_ rfl rfl rfl
 refine Jn (hK2 _ _ ?_)
 refine Js (fun K3 hK3 => ?_)
 refine Js fun K4 hK4 => Jr ?_
 refine Jg (u := LS 9 Box.av boxes) (Am rfl rfl) ?_ rfl rfl rfl
 refine JL_lenM (f := Box.av) (xs := boxes) tf_slice_39 rfl rfl (fun hm9 => ?_) rfl rfl rfl
 refine Jg (u := I64 0) (Am rfl rfl) ?_ rfl rfl rfl
 refine Jn (hK4 _ _ ?_)
 refine JC_block ?_
 obtain ⟨b19, kx19, hb19, hkx19, h⟩ := each_in h
 refine JC_loop2 (fun i19 (s19 : (List Int)) => each b19 kx19 (List.drop i19 boxes) i19 s19 = some r) (fun i19 s19 => [(1, I64 call), (5, OW 1061 1 I64 s19), (8, LS 9 Box.av boxes), (9, I64 (boxes.length : Int)), (10, I64 (i19 : Int))]) (fun i19 s19 => [(1061, .spare 3 1 s19.length s19.length)]) (fun i19 => boxes.length - i19) 0 [] h ⟨⟨.same rfl, .same rfl, .same rfl, .same rfl, .same rfl, trivial⟩, ⟨⟨_, rfl, .same⟩, trivial⟩, rfl⟩ ?_
 clear h
 intro i19 s19 hi19 K19 e19
 refine Js fun K20 hK20 => Jr ?_
 refine Jg (u := BL (decide ((i19 : Int) < (boxes.length : Int)))) (A_lss rfl rfl rfl) ?_ rfl rfl rfl
 refine Jn (hK20 _ _ ?_)
 refine Js (fun K21 hK21 => ?_)
 refine JC_cond rfl (fun hb => ?_) (fun hb => ?_)
 ·
  have hk19 := lt_len hb
  obtain ⟨y19, nx19, hy19, hn19, h⟩ := each_out hi19 hk19
  replace h := app4 hb19 h
  refine JC_skip ?_
  refine hK21 _ _ ?_
  obtain ⟨kj22, hkj22, h⟩ := jp_out h
  refine JC_seqJ (fun j22 : (List Int) => kj22 j22 = some r) (fun j22 => [(1, I64 call), (5, OW 1061 1 I64 j22), (8, LS 9 Box.av boxes), (9, I64 (boxes.length : Int)), (10, I64 (i19 : Int))]) (fun j22 => [(1061, .spare 3 1 j22.length j22.length)]) (fun Kj22 ej22 => ?_) ?_
  ·
   refine JC_block ?_
   refine Js fun K23 hK23 => Jr ?_
   refine Jg (u := .dptr (Box.cs y19)) (A_indexM (f := Box.av) (xs := boxes) (y := y19) rfl rfl rfl tf_slice_39 hy19 rfl) ?_ rfl rfl rfl
   refine Jg (u := .agg (Box.cs y19)) (A_loadAgg tf_agg_50 rfl rfl rfl) ?_ rfl rfl rfl
   refine Jg (u := .ptr 1062 0) (A_allocJ 1062 9 tf_zsize_50 rfl rfl) ?_ rfl rfl rfl
   refine JL_go0 (u := .junk) (A_store (u := .agg (Box.cs y19)) (ds := [I64 y19.ID, ST y19.Number, U8 y19.Size, BL y19.High, I64 y19.Kilos, I64 y19.Load, I64 y19.Discharge, U8 y19.Class, BL y19.Reefer]) tf_size_50 rfl rfl rfl rfl rfl rfl rfl rfl) ?_ rfl rfl
   refine Jn (hK23 _ _ ?_)
   refine JC_freeze [(1, I64 call), (5, OW 1061 1 I64 s19), (7, .dptr (Box.cs y19)), (8, LS 9 Box.av boxes), (9, I64 (boxes.length : Int)), (10, I64 (i19 : Int))] [(1061, .spare 3 1 s19.length s19.length)] 1062 rfl rfl rfl ⟨⟨_, rfl, .same⟩, trivial⟩ rfl (by exact ⟨.conv (.same rfl), .conv (.same rfl), .ptr, .conv (.same rfl), .conv (.same rfl), .conv (.same rfl), trivial⟩) ?_
   refine Js fun K24 hK24 => Jr ?_
   refine Jg (u := .dptr ((Box.cs y19).drop 5)) (A_fieldM tf_field_50_5 rfl rfl rfl) ?_ rfl rfl rfl
   refine Jg (u := I64 y19.Load) (A_load tf_scalar_3 rfl rfl rfl) ?_ rfl rfl rfl
   refine Jg (u := I64 call) (Am rfl rfl) ?_ rfl rfl rfl
   refine Jg (u := BL (decide (y19.Load ≤ call))) (A_leq rfl rfl rfl) ?_ rfl rfl rfl
   refine Jg (u := BL (decide (y19.Load ≤ call))) (Am rfl rfl) ?_ rfl rfl rfl
   refine JL_opt (u := I64 call) [] rfl rfl rfl .sct trivial (fun hc => Am rfl rfl) ?_ rfl rfl rfl
   refine JL_opt (u := .dptr ((Box.cs y19).drop 6)) [] rfl rfl rfl .sct trivial (fun hc => A_fieldM tf_field_50_6 rfl rfl rfl) ?_ rfl rfl rfl
   refine JL_opt (u := I64 y19.Discharge) [(20, .dptr ((Box.cs y19).drop 6))] rfl rfl rfl .sct ⟨.all id, trivial⟩ (fun hc => A_load tf_scalar_3 rfl rfl rfl) ?_ rfl rfl rfl
   refine JL_opt (u := BL (decide (call < y19.Discharge))) [(19, I64 call), (21, I64 y19.Discharge)] rfl rfl rfl .sct ⟨.all id, .all id, trivial⟩ (fun hc => A_lss rfl rfl rfl) ?_ rfl rfl rfl
   refine Jg (u := BL ((decide (y19.Load ≤ call)) && (decide (call < y19.Discharge)))) (A_and rfl rfl rfl rfl) ?_ rfl rfl rfl
   refine Jn (hK24 _ _ ?_)
   refine JC_cond rfl (fun hb => ?_) (fun hb => ?_)
   ·
    replace h := bif_t hb h
    refine Jr ?_
    refine Jg (u := OW 1061 1 I64 s19) (Am rfl rfl) ?_ rfl rfl rfl
    refine Jg (u := .dptr (Box.cs y19)) (A_fieldM tf_field_50_0 rfl rfl rfl) ?_ rfl rfl rfl
    refine Jg (u := I64 y19.ID) (A_load tf_scalar_3 rfl rfl rfl) ?_ rfl rfl rfl
    refine Jg (u := LS 1 I64 [y19.ID]) (A_buildSlice (xs := [I64 y19.ID]) rfl ⟨rfl, rfl, trivial⟩ tf_slice_43 tf_zsize_3 rfl rfl rfl rfl) ?_ rfl rfl rfl
    obtain ⟨ha25, h⟩ := need_out h
    refine Jg (u := OW 1061 1 I64 (s19 ++ [y19.ID])) (A_appendM (f := I64) (xs := s19) (ys := [y19.ID]) rfl rfl rfl rfl tf_slice_43 tf_elem_3 ha25 (fun _ => rfl) (.inl rfl) rfl) ?_ rfl rfl rfl
    refine Jg (u := OW 1061 1 I64 (s19 ++ [y19.ID])) (Aa rfl rfl) ?_ rfl rfl rfl
    refine Jn ?_
    exact ej22 _ _ (s19 ++ [y19.ID]) h ⟨⟨.same rfl, .same rfl, .same rfl, .same rfl, .same rfl, trivial⟩, ⟨⟨_, rfl, .same⟩, trivial⟩, rfl⟩
   ·
    replace h := bif_f hb h
    refine JC_skip ?_
    exact ej22 _ _ s19 h ⟨⟨.same rfl, .same rfl, .same rfl, .same rfl, .same rfl, trivial⟩, ⟨⟨_, rfl, .same⟩, trivial⟩, rfl⟩
  ·intro j22 h
   replace h := app1 hkj22 h
   refine Jr ?_
   refine Jg (u := I64 ((i19 + 1 : Nat) : Int)) (A_add (idx_succ hk19 hm9) rfl rfl rfl) ?_ rfl rfl rfl
   refine Jg (u := I64 ((i19 + 1 : Nat) : Int)) (Am rfl rfl) ?_ rfl rfl rfl
   refine Jn ?_
   exact e19 _ _ (i19 + 1) j22 (app1 hn19 h) (by omega) ⟨⟨.same rfl, .same rfl, .same rfl, .same rfl, .same rfl, trivial⟩, ⟨⟨_, rfl, .same⟩, trivial⟩, rfl⟩
 ·
  have h := app1 hkx19 (each_nil hi19 (not_lt_len hb))
  refine JC_exit ?_
  refine hK3 _ _ ?_
  refine Js fun K26 hK26 => Jr ?_
  refine Jg (u := OW 1061 1 I64 s19) (Am rfl rfl) ?_ rfl rfl rfl
  refine Jg (u := OW 1061 1 I64 s19) (Aa rfl rfl) ?_ rfl rfl rfl
  refine Jn (hK26 _ _ ?_)
  refine JC_ret ?_
  exact ⟨[LS 1 I64 s19], [], trivial, rfl, ⟨⟨_, rfl, .conv (.list rfl)⟩, trivial⟩, rfl, congrArg (fun r : (List Int) => (LS 1 I64 r : AV)) (Option.some.inj h)⟩

def M_slices_EqualFunc_int (s1_ : List Stowed) (s2_ : List Int) (eq : Stowed → Int → Option Bool) : Option Bool :=
 bif decide ((s1_.length : Int) ≠ (s2_.length : Int)) then
 (some false)
 else
 (each (fun y29 i29 (s29 : Unit) nx29 =>
   gidx s2_ (i29 : Int) fun y35 =>
   bnd (eq y29 y35) fun r38 =>
   bif (!r38) then
   (some false)
   else
   (nx29 ()))
  (fun (s29 : Unit) =>
   some true) s1_ 0 ())
theorem M_slices_EqualFunc_int_w (s1_ : List Stowed) (s2_ : List Int) (eq : Stowed → Int → Option Bool) (eq_f : FuncId) (eq_c : List AV) (eq_B : callB Try.prog eq_f = true) (eq_d : refsL (fun _ => false) eq_c = true) (eq_w : ∀ a0 a1 q, eq a0 a1 = some q → Pure Try.prog eq_f ([.agg (Stowed.cs a0), I64 a1] ++ eq_c) (· = BL q)) (r : Bool) (h : M_slices_EqualFunc_int s1_ s2_ eq = some r) : Pure Try.prog 48 [LS 4 Stowed.av s1_, LS 1 I64 s2_, .fn eq_f eq_c] (· = BL r) := by
 unfold M_slices_EqualFunc_int at h
 refine Pure_ofG [.tmp 6] Try.func48 rfl rfl ?_
 refine Js fun K1 hK1 => Jr ?_
 refine Jg (u := BL false) (Aa rfl rfl) ?_ rfl rfl rfl
 refine Jn (hK1 _ _ ?_)
 refine Js (fun K2 hK2 => ?_)
 refine Js fun K3 hK3 => Jr ?_
 refine Jg (u := LS 4 Stowed.av s1_) (Am rfl rfl) ?_ rfl rfl rfl
 refine JL_lenM (f := Stowed.av) (xs := s1_) tf_slice_40 rfl rfl (fun hm11 => ?_) rfl rfl rfl
 refine Jg (u := LS 1 I64 s2_) (Am rfl rfl) ?_ rfl rfl rfl
 refine JL_lenM (f := I64) (xs := s2_) tf_slice_43 rfl rfl (fun hm13 => ?_) rfl rfl rfl
 refine Jg (u := BL (decide ((s1_.length : Int) ≠ (s2_.length : Int)))) (A_neq rfl rfl rfl) ?_ rfl rfl rfl
 refine Jn (hK3 _ _ ?_)
 refine JC_cond rfl (fun hb => ?_) (fun hb => ?_)
 ·
  replace h := bif_t hb h
  refine Js fun K4 hK4 => Jr ?_
  refine Jg (u := BL false) (Aa rfl rfl) ?_ rfl rfl rfl
  refine Jn (hK4 _ _ ?_)
  refine JC_ret ?_
  exact ⟨[BL false], [], trivial, rfl, ⟨⟨_, rfl, .conv (.same rfl)⟩, trivial⟩, rfl, congrArg (fun r : Bool => (BL r : AV)) (Option.some.inj h)⟩
 ·
  replace h := bif_f hb h
  refine JC_skip ?_
  refine hK2 _ _ ?_
  refine Js (fun K5 hK5 => ?_)
  refine Js fun K6 hK6 => Jr ?_
  refine Jg (u := LS 4 Stowed.av s1_) (Am rfl rfl) ?_ rfl rfl rfl
  refine JL_lenM (f := Stowed.av) (xs := s1_) tf_slice_40 rfl rfl (fun hm16 => ?_) rfl rfl rfl
  refine Jg (u := I64 0) (Am rfl rfl) ?_ rfl rfl rfl
  refine Jn (hK6 _ _ ?_)
  refine JC_block ?_
  obtain ⟨b29, kx29, hb29, hkx29, h⟩ := each_in h
  refine JC_loop2 (fun i29 (s29 : Unit) => each b29 kx29 (List.drop i29 s1_) i29 s29 = some r) (fun i29 s29 => [(1, LS 1 I64 s2_), (2, .fn eq_f eq_c), (15, LS 4 Stowed.av s1_), (16, I64 (s1_.length : Int)), (17, I64 (i29 : Int))]) (fun i29 s29 => []) (fun i29 => s1_.length - i29) 0 () h ⟨⟨.same rfl, .same (refsL_any _ _ eq_d), .same rfl, .same rfl, .same rfl, trivial⟩, trivial, rfl⟩ ?_
  clear h
  intro i29 s29 hi29 K29 e29
  refine Js fun K30 hK30 => Jr ?_
  refine Jg (u := BL (decide ((i29 : Int) < (s1_.length : Int)))) (A_lss rfl rfl rfl) ?_ rfl rfl rfl
  refine Jn (hK30 _ _ ?_)
  refine Js (fun K31 hK31 => ?_)
  refine JC_cond rfl (fun hb => ?_) (fun hb => ?_)
  ·
   have hk29 := lt_len hb
   obtain ⟨y29, nx29, hy29, hn29, h⟩ := each_out hi29 hk29
   replace h := app4 hb29 h
   refine JC_skip ?_
   refine hK31 _ _ ?_
   refine Js (fun K32 hK32 => ?_)
   refine JC_block ?_
   refine Js fun K33 hK33 => Jr ?_
   refine Jg (u := I64 (i29 : Int)) (Am rfl rfl) ?_ rfl rfl rfl
   refine Jg (u := .dptr (Stowed.cs y29)) (A_indexM (f := Stowed.av) (xs := s1_) (y := y29) rfl rfl rfl tf_slice_40 hy29 rfl) ?_ rfl rfl rfl
   refine Jg (u := .agg (Stowed.cs y29)) (A_loadAgg tf_agg_82 rfl rfl rfl) ?_ rfl rfl rfl
   refine Jg (u := .ptr 1108 0) (A_allocJ 1108 4 tf_zsize_82 rfl rfl) ?_ rfl rfl rfl
   refine Jg (u := I64 (i29 : Int)) (Aa rfl rfl) ?_ rfl rfl rfl
   refine JL_go0 (u := .junk) (A_store (u := .agg (Stowed.cs y29)) (ds := [I64 y29.Box, I64 y29.Slot.Column, I64 y29.Slot.Tier, U8 y29.Slot.Half]) tf_size_82 rfl rfl rfl rfl rfl rfl rfl rfl) ?_ rfl rfl
   refine Jn (hK33 _ _ ?_)
   refine JC_freeze [(1, LS 1 I64 s2_), (2, .fn eq_f eq_c), (7, I64 (i29 : Int)), (8, .dptr (Stowed.cs y29)), (15, LS 4 Stowed.av s1_), (16, I64 (s1_.length : Int)), (17, I64 (i29 : Int))] [] 1108 rfl rfl rfl trivial rfl (by exact ⟨.conv (.same rfl), .conv (.same (refsL_any _ _ eq_d)), .conv (.same rfl), .ptr, .conv (.same rfl), .conv (.same rfl), .conv (.same rfl), trivial⟩) ?_
   refine Js fun K34 hK34 => Jr ?_
   refine Jg (u := LS 1 I64 s2_) (Am rfl rfl) ?_ rfl rfl rfl
   refine Jg (u := I64 (i29 : Int)) (Am rfl rfl) ?_ rfl rfl rfl
   obtain ⟨m36, y35, hm36, hy35, h⟩ := gidx_out h
   refine Jg (u := .dptr [I64 y35]) (A_indexM (f := I64) (xs := s2_) (y := y35) rfl rfl rfl tf_slice_43 hy35 hm36) ?_ rfl rfl rfl
   refine Jg (u := I64 y35) (A_load tf_scalar_3 rfl rfl rfl) ?_ rfl rfl rfl
   refine Jg (u := I64 y35) (Aa rfl rfl) ?_ rfl rfl rfl
   refine Jn (hK34 _ _ ?_)
   refine Js fun K37 hK37 => Jr ?_
   refine Jg (u := .fn eq_f eq_c) (Am rfl rfl) ?_ rfl rfl rfl
   refine Jg (u := .agg (Stowed.cs y29)) (A_loadAgg tf_agg_82 rfl rfl rfl) ?_ rfl rfl rfl
   refine Jg (u := I64 y35) (Am rfl rfl) ?_ rfl rfl rfl
   obtain ⟨r38, hr38, h⟩ := bnd_out h
   refine Jg (u := BL r38) (A_callV1 (args := [.agg (Stowed.cs y29), I64 y35]) (caps := eq_c) rfl rfl (eq_w y29 y35 _ hr38) eq_B ⟨rfl, rfl, rfl, rfl, trivial⟩ eq_d) ?_ rfl rfl rfl
   refine Jg (u := BL (!r38)) (A_not (b := r38) rfl rfl) ?_ rfl rfl rfl
   refine Jn (hK37 _ _ ?_)
   refine JC_cond rfl (fun hb => ?_) (fun hb => ?_)
   ·
    replace h := bif_t hb h
    refine Js fun K39 hK39 => Jr ?_
    refine Jg (u := BL false) (Aa rfl rfl) ?_ rfl rfl rfl
    refine Jn (hK39 _ _ ?_)
    refine JC_ret ?_
    exact ⟨[BL false], [], trivial, rfl, ⟨⟨_, rfl, .conv (.same rfl)⟩, trivial⟩, rfl, congrArg (fun r : Bool => (BL r : AV)) (Option.some.inj h)⟩
   ·
    replace h := bif_f hb h
    refine JC_skip ?_
    refine hK32 _ _ ?_
    refine Jr ?_
    refine Jg (u := I64 ((i29 + 1 : Nat) : Int)) (A_add (idx_succ hk29 hm16) rfl rfl rfl) ?_ rfl rfl rfl
    refine Jg (u := I64 ((i29 + 1 : Nat) : Int)) (Am rfl rfl) ?_ rfl rfl rfl
    refine Jn ?_
    exact e29 _ _ (i29 + 1) () (app1 hn29 h) (by omega) ⟨⟨.same rfl, .same (refsL_any _ _ eq_d), .same rfl, .same rfl, .same rfl, trivial⟩, trivial, rfl⟩
  ·
   have h := app1 hkx29 (each_nil hi29 (not_lt_len hb))
   refine JC_exit ?_
   refine hK5 _ _ ?_
   refine Js fun K40 hK40 => Jr ?_
   refine Jg (u := BL true) (Aa rfl rfl) ?_ rfl rfl rfl
   refine Jn (hK40 _ _ ?_)
   refine JC_ret ?_
   exact ⟨[BL true], [], trivial, rfl, ⟨⟨_, rfl, .conv (.same rfl)⟩, trivial⟩, rfl, congrArg (fun r : Bool => (BL r : AV)) (Option.some.inj h)⟩

def M_plan_Check_1 (x : Stowed) (id_ : Int) : Option Bool :=
 some (decide (x.Box = id_))
theorem M_plan_Check_1_w (x : Stowed) (id_ : Int) (r : Bool) (h : M_plan_Check_1 x id_ = some r) : Pure Try.prog 49 [.agg (Stowed.cs x), I64 id_] (· = BL r) := by
 unfold M_plan_Check_1 at h
 refine Pure_ofG [.tmp 4] Try.func49 rfl rfl ?_
 refine Js fun K1 hK1 => Jr ?_
 refine Jg (u := .ptr 1109 0) (A_box (u := .agg (Stowed.cs x)) (cs := [I64 x.Box, I64 x.Slot.Column, I64 x.Slot.Tier, U8 x.Slot.Half]) 1109 rfl rfl rfl rfl rfl) ?_ rfl rfl rfl
 refine Jg (u := BL false) (Aa rfl rfl) ?_ rfl rfl rfl
 refine Jn (hK1 _ _ ?_)
 refine JC_freeze [(1, I64 id_), (2, .dptr (Stowed.cs x))] [] 1109 rfl rfl rfl trivial rfl (by exact ⟨.conv (.same rfl), .ptr, trivial⟩) ?_
 refine Js fun K2 hK2 => Jr ?_
 refine Jg (u := .dptr (Stowed.cs x)) (A_fieldM tf_field_82_0 rfl rfl rfl) ?_ rfl rfl rfl
 refine Jg (u := I64 x.Box) (A_load tf_scalar_3 rfl rfl rfl) ?_ rfl rfl rfl
 refine Jg (u := I64 id_) (Am rfl rfl) ?_ rfl rfl rfl
 refine Jg (u := BL (decide (x.Box = id_))) (A_eql rfl rfl rfl) ?_ rfl rfl rfl
 refine Jg (u := BL (decide (x.Box = id_))) (Aa rfl rfl) ?_ rfl rfl rfl
 refine Jn (hK2 _ _ ?_)
 refine JC_ret ?_
 exact ⟨[BL (decide (x.Box = id_))], [], trivial, rfl, ⟨⟨_, rfl, .conv (.same rfl)⟩, trivial⟩, rfl, congrArg (fun r : Bool => (BL r : AV)) (Option.some.inj h)⟩

def M_plan_Check (s : Ship) (boxes : List Box) (calls : Int) (p : Plan) : Option (Int × Int) :=
 bnd (S_ship_Right s) fun r4 =>
 bif (!r4) then
 (some (0, 2))
 else
 (bnd (M_plan_Boxes boxes calls) fun r7 =>
  bif (!r7) then
  (some (0, 230))
  else
  (bif decide ((p.States.length : Int) ≠ calls) then
   (some (0, 231))
   else
   (each (fun y45 i45 (s45 : Unit) nx45 =>
     bnd (M_stow_Right s boxes y45) fun r52 =>
     bif (!r52) then
     (some ((i45 : Int), 232))
     else
     (bnd (M_plan_Aboard boxes (i45 : Int)) fun r55 =>
      bnd (M_slices_EqualFunc_int y45 r55 (fun z0 z1 => M_plan_Check_1 z0 z1)) fun r56 =>
      bif (!r56) then
      (some ((i45 : Int), 233))
      else
      (nx45 ())))
    (fun (s45 : Unit) =>
     some (0, 0)) p.States 0 ())))
theorem M_plan_Check_w (s : Ship) (boxes : List Box) (calls : Int) (p : Plan) (r : Int × Int) (h : M_plan_Check s boxes calls p = some r) : Pure Try.prog 25 [.agg [LS 12 Column.av s.Columns, LS 2 Cover.av s.Covers, I64 s.Light.Kilos, I64 s.Light.X, I64 s.Light.Y, I64 s.Light.Z, LS 5 Row.av s.Rows, LS 5 Frame.av s.Frames, LS 6 Tank.av s.Tanks, I64 s.Limits.Tolerance, I64 s.Limits.Trim, I64 s.Limits.List_, I64 s.Limits.Stability], LS 9 Box.av boxes, I64 calls, .agg [LS 1 (LS 4 Stowed.av) p.States, LS 1 (LS 1 I64) p.Water]] (· = .tup [I64 r.1, I64 r.2]) := by
 unfold M_plan_Check at h
 refine Pure_ofG [.tmp 8, .tmp 9] Try.func25 rfl rfl ?_
 refine Js fun K1 hK1 => Jr ?_
 refine Jg (u := .ptr 1059 0) (A_box (u := .agg [LS 12 Column.av s.Columns, LS 2 Cover.av s.Covers, I64 s.Light.Kilos, I64 s.Light.X, I64 s.Light.Y, I64 s.Light.Z, LS 5 Row.av s.Rows, LS 5 Frame.av s.Frames, LS 6 Tank.av s.Tanks, I64 s.Limits.Tolerance, I64 s.Limits.Trim, I64 s.Limits.List_, I64 s.Limits.Stability]) (cs := [LS 12 Column.av s.Columns, LS 2 Cover.av s.Covers, I64 s.Light.Kilos, I64 s.Light.X, I64 s.Light.Y, I64 s.Light.Z, LS 5 Row.av s.Rows, LS 5 Frame.av s.Frames, LS 6 Tank.av s.Tanks, I64 s.Limits.Tolerance, I64 s.Limits.Trim, I64 s.Limits.List_, I64 s.Limits.Stability]) 1059 rfl rfl rfl rfl rfl) ?_ rfl rfl rfl
 refine Jg (u := .ptr 1060 0) (A_box (u := .agg [LS 1 (LS 4 Stowed.av) p.States, LS 1 (LS 1 I64) p.Water]) (cs := [LS 1 (LS 4 Stowed.av) p.States, LS 1 (LS 1 I64) p.Water]) 1060 rfl rfl rfl rfl rfl) ?_ rfl rfl rfl
 refine Jg (u := I64 0) (Aa rfl rfl) ?_ rfl rfl rfl
 refine Jg (u := I64 0) (Aa rfl rfl) ?_ rfl rfl rfl
 refine Jn (hK1 _ _ ?_)
 refine JC_freeze [(1, LS 9 Box.av boxes), (2, I64 calls), (4, .dptr [LS 12 Column.av s.Columns, LS 2 Cover.av s.Covers, I64 s.Light.Kilos, I64 s.Light.X, I64 s.Light.Y, I64 s.Light.Z, LS 5 Row.av s.Rows, LS 5 Frame.av s.Frames, LS 6 Tank.av s.Tanks, I64 s.Limits.Tolerance, I64 s.Limits.Trim, I64 s.Limits.List_, I64 s.Limits.Stability]), (7, .ptr 1060 0)] [(1060, .box 59 [LS 1 (LS 4 Stowed.av) p.States, LS 1 (LS 1 I64) p.Water])] 1059 rfl rfl rfl ⟨⟨_, rfl, .boxEq rfl rfl⟩, trivial⟩ rfl (by exact ⟨.conv (.same rfl), .conv (.same rfl), .ptr, .conv (.same rfl), trivial⟩) ?_
 refine JC_freeze [(1, LS 9 Box.av boxes), (2, I64 calls), (4, .dptr [LS 12 Column.av s.Columns, LS 2 Cover.av s.Covers, I64 s.Light.Kilos, I64 s.Light.X, I64 s.Light.Y, I64 s.Light.Z, LS 5 Row.av s.Rows, LS 5 Frame.av s.Frames, LS 6 Tank.av s.Tanks, I64 s.Limits.Tolerance, I64 s.Limits.Trim, I64 s.Limits.List_, I64 s.Limits.Stability]), (7, .dptr [LS 1 (LS 4 Stowed.av) p.States, LS 1 (LS 1 I64) p.Water])] [] 1060 rfl rfl rfl trivial rfl (by exact ⟨.conv (.same rfl), .conv (.same rfl), .conv (.same rfl), .ptr, trivial⟩) ?_
 refine Js (fun K2 hK2 => ?_)
 refine JC_block ?_
 refine Js fun K3 hK3 => Jr ?_
 refine Jg (u := .agg [LS 12 Column.av s.Columns, LS 2 Cover.av s.Covers, I64 s.Light.Kilos, I64 s.Light.X, I64 s.Light.Y, I64 s.Light.Z, LS 5 Row.av s.Rows, LS 5 Frame.av s.Frames, LS 6 Tank.av s.Tanks, I64 s.Limits.Tolerance, I64 s.Limits.Trim, I64 s.Limits.List_, I64 s.Limits.Stability]) (A_loadAgg tf_agg_35 rfl rfl rfl) ?_ rfl rfl rfl
 obtain ⟨r4, hr4, h⟩ := bnd_out h
 refine Jg (u := BL r4) (A_call1 (args := [.agg [LS 12 Column.av s.Columns, LS 2 Cover.av s.Covers, I64 s.Light.Kilos, I64 s.Light.X, I64 s.Light.Y, I64 s.Light.Z, LS 5 Row.av s.Rows, LS 5 Frame.av s.Frames, LS 6 Tank.av s.Tanks, I64 s.Limits.Tolerance, I64 s.Limits.Trim, I64 s.Limits.List_, I64 s.Limits.Stability]]) rfl (S_ship_Right_w.down s r4 hr4) tf_call_35 ⟨rfl, rfl, trivial⟩) ?_ rfl rfl rfl
 refine Jg (u := BL (!r4)) (A_not (b := r4) rfl rfl) ?_ rfl rfl rfl
 refine Jg (u := BL (!r4)) (Aa rfl rfl) ?_ rfl rfl rfl
 refine Jn (hK3 _ _ ?_)
 refine JC_cond rfl (fun hb => ?_) (fun hb => ?_)
 ·
  replace h := bif_t hb h
  refine Js fun K5 hK5 => Jr ?_
  refine Jg (u := I64 0) (Aa rfl rfl) ?_ rfl rfl rfl
  refine Jg (u := I64 2) (Aa rfl rfl) ?_ rfl rfl rfl
  refine Jn (hK5 _ _ ?_)
  refine JC_ret ?_
  exact ⟨[I64 0, I64 2], [], trivial, rfl, ⟨⟨_, rfl, .conv (.same rfl)⟩, ⟨_, rfl, .conv (.same rfl)⟩, trivial⟩, rfl, congrArg (fun r : Int × Int => (.tup [I64 r.1, I64 r.2] : AV)) (Option.some.inj h)⟩
 ·
  replace h := bif_f hb h
  refine Js fun K6 hK6 => Jr ?_
  refine Jg (u := LS 9 Box.av boxes) (Am rfl rfl) ?_ rfl rfl rfl
  refine Jg (u := I64 calls) (Am rfl rfl) ?_ rfl rfl rfl
  obtain ⟨r7, hr7, h⟩ := bnd_out h
  refine Jg (u := BL r7) (A_call1 (args := [LS 9 Box.av boxes, I64 calls]) rfl (M_plan_Boxes_w boxes calls r7 hr7) tf_call_47 ⟨rfl, rfl, rfl, rfl, trivial⟩) ?_ rfl rfl rfl
  refine Jg (u := BL (!r7)) (A_not (b := r7) rfl rfl) ?_ rfl rfl rfl
  refine Jg (u := BL (!r7)) (Aa rfl rfl) ?_ rfl rfl rfl
  refine Jn (hK6 _ _ ?_)
  refine JC_cond rfl (fun hb => ?_) (fun hb => ?_)
  ·
   replace h := bif_t hb h
   refine Js fun K8 hK8 => Jr ?_
   refine Jg (u := I64 0) (Aa rfl rfl) ?_ rfl rfl rfl
   refine Jg (u := I64 230) (Aa rfl rfl) ?_ rfl rfl rfl
   refine Jn (hK8 _ _ ?_)
   refine JC_ret ?_
   exact ⟨[I64 0, I64 230], [], trivial, rfl, ⟨⟨_, rfl, .conv (.same rfl)⟩, ⟨_, rfl, .conv (.same rfl)⟩, trivial⟩, rfl, congrArg (fun r : Int × Int => (.tup [I64 r.1, I64 r.2] : AV)) (Option.some.inj h)⟩
  ·
   replace h := bif_f hb h
   refine Js fun K9 hK9 => Jr ?_
   refine Jg (u := .dptr [LS 1 (LS 4 Stowed.av) p.States, LS 1 (LS 1 I64) p.Water]) (A_fieldM tf_field_59_0 rfl rfl rfl) ?_ rfl rfl rfl
   refine Jg (u := LS 1 (LS 4 Stowed.av) p.States) (A_load tf_scalar_56 rfl rfl rfl) ?_ rfl rfl rfl
   refine JL_lenM (f := (LS 4 Stowed.av)) (xs := p.States) tf_slice_56 rfl rfl (fun hm24 => ?_) rfl rfl rfl
   refine Jg (u := I64 calls) (Am rfl rfl) ?_ rfl rfl rfl
   refine Jg (u := BL (decide ((p.States.length : Int) ≠ calls))) (A_neq rfl rfl rfl) ?_ rfl rfl rfl
   refine Jg (u := BL (decide ((p.States.length : Int) ≠ calls))) (Aa rfl rfl) ?_ rfl rfl rfl
   refine Jn (hK9 _ _ ?_)
   refine JC_cond rfl (fun hb => ?_) (fun hb => ?_)
   ·
    replace h := bif_t hb h
    refine Js fun K10 hK10 => Jr ?_
    refine Jg (u := I64 0) (Aa rfl rfl) ?_ rfl rfl rfl
    refine Jg (u := I64 231) (Aa rfl rfl) ?_ rfl rfl rfl
    refine Jn (hK10 _ _ ?_)
    refine JC_ret ?_
    exact ⟨[I64 0, I64 231], [], trivial, rfl, ⟨⟨_, rfl, .conv (.same rfl)⟩, ⟨_, rfl, .conv (.same rfl)⟩, trivial⟩, rfl, congrArg (fun r : Int × Int => (.tup [I64 r.1, I64 r.2] : AV)) (Option.some.inj h)⟩
   ·
    replace h := bif_f hb h
    refine JC_skip ?_
    refine hK2 _ _ ?_
    refine Js (fun K11 hK11 => ?_)
    refine Js fun K12 hK12 => Jr ?_
    refine Jg (u := .dptr [LS 1 (LS 4 Stowed.av) p.States, LS 1 (LS 1 I64) p.Water]) (A_fieldM tf_field_59_0 rfl rfl rfl) ?_ rfl rfl rfl
    refine Jg (u := LS 1 (LS 4 Stowed.av) p.States) (A_load tf_scalar_56 rfl rfl rfl) ?_ rfl rfl rfl
    refine JL_lenM (f := (LS 4 Stowed.av)) (xs := p.States) tf_slice_56 rfl rfl (fun hm29 => ?_) rfl rfl rfl
    refine Jg (u := I64 0) (Am rfl rfl) ?_ rfl rfl rfl
    refine Jn (hK12 _ _ ?_)
    refine JC_block ?_
    obtain ⟨b45, kx45, hb45, hkx45, h⟩ := each_in h
    refine JC_loop2 (fun i45 (s45 : Unit) => each b45 kx45 (List.drop i45 p.States) i45 s45 = some r) (fun i45 s45 => [(1, LS 9 Box.av boxes), (4, .dptr [LS 12 Column.av s.Columns, LS 2 Cover.av s.Covers, I64 s.Light.Kilos, I64 s.Light.X, I64 s.Light.Y, I64 s.Light.Z, LS 5 Row.av s.Rows, LS 5 Frame.av s.Frames, LS 6 Tank.av s.Tanks, I64 s.Limits.Tolerance, I64 s.Limits.Trim, I64 s.Limits.List_, I64 s.Limits.Stability]), (28, LS 1 (LS 4 Stowed.av) p.States), (29, I64 (p.States.length : Int)), (30, I64 (i45 : Int))]) (fun i45 s45 => []) (fun i45 => p.States.length - i45) 0 () h ⟨⟨.same rfl, .same rfl, .same rfl, .same rfl, .same rfl, trivial⟩, trivial, rfl⟩ ?_
    clear h
    intro i45 s45 hi45 K45 e45
    refine Js fun K46 hK46 => Jr ?_
    refine Jg (u := BL (decide ((i45 : Int) < (p.States.length : Int)))) (A_lss rfl rfl rfl) ?_ rfl rfl rfl
    refine Jn (hK46 _ _ ?_)
    refine Js (fun K47 hK47 => ?_)
    refine JC_cond rfl (fun hb => ?_) (fun hb => ?_)
    ·
     have hk45 := lt_len hb
     obtain ⟨y45, nx45, hy45, hn45, h⟩ := each_out hi45 hk45
     replace h := app4 hb45 h
     refine JC_skip ?_
     refine hK47 _ _ ?_
     refine Js (fun K48 hK48 => ?_)
     refine JC_block ?_
     refine Js fun K49 hK49 => Jr ?_
     refine Jg (u := I64 (i45 : Int)) (Am rfl rfl) ?_ rfl rfl rfl
     refine Jg (u := .dptr [LS 4 Stowed.av y45]) (A_indexM (f := (LS 4 Stowed.av)) (xs := p.States) (y := y45) rfl rfl rfl tf_slice_56 hy45 rfl) ?_ rfl rfl rfl
     refine Jg (u := LS 4 Stowed.av y45) (A_load tf_scalar_40 rfl rfl rfl) ?_ rfl rfl rfl
     refine Jg (u := I64 (i45 : Int)) (Aa rfl rfl) ?_ rfl rfl rfl
     refine Jg (u := LS 4 Stowed.av y45) (Aa rfl rfl) ?_ rfl rfl rfl
     refine Jn (hK49 _ _ ?_)
     refine Js (fun K50 hK50 => ?_)
     refine Js fun K51 hK51 => Jr ?_
     refine Jg (u := .agg [LS 12 Column.av s.Columns, LS 2 Cover.av s.Covers, I64 s.Light.Kilos, I64 s.Light.X, I64 s.Light.Y, I64 s.Light.Z, LS 5 Row.av s.Rows, LS 5 Frame.av s.Frames, LS 6 Tank.av s.Tanks, I64 s.Limits.Tolerance, I64 s.Limits.Trim, I64 s.Limits.List_, I64 s.Limits.Stability]) (A_loadAgg tf_agg_35 rfl rfl rfl) ?_ rfl rfl rfl
     refine Jg (u := LS 9 Box.av boxes) (Am rfl rfl) ?_ rfl rfl rfl
     refine Jg (u := LS 4 Stowed.av y45) (Am rfl rfl) ?_ rfl rfl rfl
     obtain ⟨r52, hr52, h⟩ := bnd_out h
     refine Jg (u := BL r52) (A_call1 (args := [.agg [LS 12 Column.av s.Columns, LS 2 Cover.av s.Covers, I64 s.Light.Kilos, I64 s.Light.X, I64 s.Light.Y, I64 s.Light.Z, LS 5 Row.av s.Rows, LS 5 Frame.av s.Frames, LS 6 Tank.av s.Tanks, I64 s.Limits.Tolerance, I64 s.Limits.Trim, I64 s.Limits.List_, I64 s.Limits.Stability], LS 9 Box.av boxes, LS 4 Stowed.av y45]) rfl (M_stow_Right_w s boxes y45 r52 hr52) tf_call_19 ⟨rfl, rfl, rfl, rfl, rfl, rfl, trivial⟩) ?_ rfl rfl rfl
     refine Jg (u := BL (!r52)) (A_not (b := r52) rfl rfl) ?_ rfl rfl rfl
     refine Jn (hK51 _ _ ?_)
     refine JC_cond rfl (fun hb => ?_) (fun hb => ?_)
     ·
      replace h := bif_t hb h
      refine Js fun K53 hK53 => Jr ?_
      refine Jg (u := I64 (i45 : Int)) (Am rfl rfl) ?_ rfl rfl rfl
      refine Jg (u := I64 (i45 : Int)) (Aa rfl rfl) ?_ rfl rfl rfl
      refine Jg (u := I64 232) (Aa rfl rfl) ?_ rfl rfl rfl
      refine Jn (hK53 _ _ ?_)
      refine JC_ret ?_
      exact ⟨[I64 (i45 : Int), I64 232], [], trivial, rfl, ⟨⟨_, rfl, .conv (.same rfl)⟩, ⟨_, rfl, .conv (.same rfl)⟩, trivial⟩, rfl, congrArg (fun r : Int × Int => (.tup [I64 r.1, I64 r.2] : AV)) (Option.some.inj h)⟩
     ·
      replace h := bif_f hb h
      refine JC_skip ?_
      refine hK50 _ _ ?_
      refine Js fun K54 hK54 => Jr ?_
      refine Jg (u := LS 4 Stowed.av y45) (Am rfl rfl) ?_ rfl rfl rfl
      refine Jg (u := LS 9 Box.av boxes) (Am rfl rfl) ?_ rfl rfl rfl
      refine Jg (u := I64 (i45 : Int)) (Am rfl rfl) ?_ rfl rfl rfl
      obtain ⟨r55, hr55, h⟩ := bnd_out h
      refine Jg (u := LS 1 I64 r55) (A_call1 (args := [LS 9 Box.av boxes, I64 (i45 : Int)]) rfl (M_plan_Aboard_w boxes (i45 : Int) r55 hr55) tf_call_26 ⟨rfl, rfl, rfl, rfl, trivial⟩) ?_ rfl rfl rfl
      obtain ⟨r56, hr56, h⟩ := bnd_out h
      refine Jg (u := BL r56) (A_call1 (args := [LS 4 Stowed.av y45, LS 1 I64 r55, .fn 49 []]) rfl (M_slices_EqualFunc_int_w y45 r55 (fun z0 z1 => M_plan_Check_1 z0 z1) 49 [] tf_call_49 rfl (fun z0 z1 q hq => M_plan_Check_1_w z0 z1 q hq) r56 hr56) tf_call_48 ⟨rfl, rfl, rfl, rfl, rfl, rfl, trivial⟩) ?_ rfl rfl rfl
      refine Jg (u := BL (!r56)) (A_not (b := r56) rfl rfl) ?_ rfl rfl rfl
      refine Jn (hK54 _ _ ?_)
      refine JC_cond rfl (fun hb => ?_) (fun hb => ?_)
      ·
       replace h := bif_t hb h
       refine Js fun K57 hK57 => Jr ?_
       refine Jg (u := I64 (i45 : Int)) (Am rfl rfl) ?_ rfl rfl rfl
       refine Jg (u := I64 (i45 : Int)) (Aa rfl rfl) ?_ rfl rfl rfl
       refine Jg (u := I64 233) (Aa rfl rfl) ?_ rfl rfl rfl
       refine Jn (hK57 _ _ ?_)
       refine JC_ret ?_
       exact ⟨[I64 (i45 : Int), I64 233], [], trivial, rfl, ⟨⟨_, rfl, .conv (.same rfl)⟩, ⟨_, rfl, .conv (.same rfl)⟩, trivial⟩, rfl, congrArg (fun r : Int × Int => (.tup [I64 r.1, I64 r.2] : AV)) (Option.some.inj h)⟩
      ·
       replace h := bif_f hb h
       refine JC_skip ?_
       refine hK48 _ _ ?_
       refine Jr ?_
       refine Jg (u := I64 ((i45 + 1 : Nat) : Int)) (A_add (idx_succ hk45 hm29) rfl rfl rfl) ?_ rfl rfl rfl
       refine Jg (u := I64 ((i45 + 1 : Nat) : Int)) (Am rfl rfl) ?_ rfl rfl rfl
       refine Jn ?_
       exact e45 _ _ (i45 + 1) () (app1 hn45 h) (by omega) ⟨⟨.same rfl, .same rfl, .same rfl, .same rfl, .same rfl, trivial⟩, trivial, rfl⟩
    ·
     have h := app1 hkx45 (each_nil hi45 (not_lt_len hb))
     refine JC_exit ?_
     refine hK11 _ _ ?_
     refine Js fun K58 hK58 => Jr ?_
     refine Jg (u := I64 0) (Aa rfl rfl) ?_ rfl rfl rfl
     refine Jg (u := I64 0) (Aa rfl rfl) ?_ rfl rfl rfl
     refine Jn (hK58 _ _ ?_)
     refine JC_ret ?_
     exact ⟨[I64 0, I64 0], [], trivial, rfl, ⟨⟨_, rfl, .conv (.same rfl)⟩, ⟨_, rfl, .conv (.same rfl)⟩, trivial⟩, rfl, congrArg (fun r : Int × Int => (.tup [I64 r.1, I64 r.2] : AV)) (Option.some.inj h)⟩

def M_plan_steps (p : Plan) : Option Unit :=
 some ()
theorem M_plan_steps_w (p : Plan) (r : Unit) (h : M_plan_steps p = some r) : Pure Try.prog 28 [.agg [LS 1 (LS 4 Stowed.av) p.States, LS 1 (LS 1 I64) p.Water]] (· = .fn 51 [.dptr [LS 1 (LS 4 Stowed.av) p.States, LS 1 (LS 1 I64) p.Water]]) := by
 unfold M_plan_steps at h
 refine Pure_ofG [.tmp 2] Try.func28 rfl rfl ?_
 refine Js fun K1 hK1 => Jr ?_
 refine Jg (u := .ptr 1074 0) (A_box (u := .agg [LS 1 (LS 4 Stowed.av) p.States, LS 1 (LS 1 I64) p.Water]) (cs := [LS 1 (LS 4 Stowed.av) p.States, LS 1 (LS 1 I64) p.Water]) 1074 rfl rfl rfl rfl rfl) ?_ rfl rfl rfl
 refine Jg (u := .sc .nilFunc) (Aa rfl rfl) ?_ rfl rfl rfl
 refine Jn (hK1 _ _ ?_)
 refine JC_freeze [(1, .dptr [LS 1 (LS 4 Stowed.av) p.States, LS 1 (LS 1 I64) p.Water])] [] 1074 rfl rfl rfl trivial rfl (by exact ⟨.ptr, trivial⟩) ?_
 refine Js fun K2 hK2 => Jr ?_
 refine Jg (u := .fn 51 [.dptr [LS 1 (LS 4 Stowed.av) p.States, LS 1 (LS 1 I64) p.Water]]) (A_makeFunc (cs := [.dptr [LS 1 (LS 4 Stowed.av) p.States, LS 1 (LS 1 I64) p.Water]]) rfl rfl) ?_ rfl rfl rfl
 refine Jg (u := .fn 51 [.dptr [LS 1 (LS 4 Stowed.av) p.States, LS 1 (LS 1 I64) p.Water]]) (Aa rfl rfl) ?_ rfl rfl rfl
 refine Jn (hK2 _ _ ?_)
 refine JC_ret ?_
 exact ⟨[.fn 51 [.dptr [LS 1 (LS 4 Stowed.av) p.States, LS 1 (LS 1 I64) p.Water]]], [], trivial, rfl, ⟨⟨_, rfl, .conv (.same rfl)⟩, trivial⟩, rfl, congrArg (fun _ : Unit => (.fn 51 [.dptr [LS 1 (LS 4 Stowed.av) p.States, LS 1 (LS 1 I64) p.Water]] : AV)) (Option.some.inj h)⟩

def M_plan_find_1 (x : Stowed) (p1 : Int) : Option Bool :=
 some (decide (x.Box = p1))
theorem M_plan_find_1_w (x : Stowed) (p1 : Int) (r : Bool) (h : M_plan_find_1 x p1 = some r) : Pure Try.prog 54 [.agg (Stowed.cs x), .dptr [I64 p1]] (· = BL r) := by
 unfold M_plan_find_1 at h
 refine Pure_ofG [.tmp 3] Try.func54 rfl rfl ?_
 refine Js fun K1 hK1 => Jr ?_
 refine Jg (u := .ptr 1114 0) (A_box (u := .agg (Stowed.cs x)) (cs := [I64 x.Box, I64 x.Slot.Column, I64 x.Slot.Tier, U8 x.Slot.Half]) 1114 rfl rfl rfl rfl rfl) ?_ rfl rfl rfl
 refine Jg (u := BL false) (Aa rfl rfl) ?_ rfl rfl rfl
 refine Jn (hK1 _ _ ?_)
 refine JC_freeze [(1, .dptr [I64 p1]), (2, .dptr (Stowed.cs x))] [] 1114 rfl rfl rfl trivial rfl (by exact ⟨.conv (.same rfl), .ptr, trivial⟩) ?_
 refine Js fun K2 hK2 => Jr ?_
 refine Jg (u := .dptr (Stowed.cs x)) (A_fieldM tf_field_82_0 rfl rfl rfl) ?_ rfl rfl rfl
 refine Jg (u := I64 x.Box) (A_load tf_scalar_3 rfl rfl rfl) ?_ rfl rfl rfl
 refine Jg (u := I64 p1) (A_load tf_scalar_3 rfl rfl rfl) ?_ rfl rfl rfl
 refine Jg (u := BL (decide (x.Box = p1))) (A_eql rfl rfl rfl) ?_ rfl rfl rfl
 refine Jg (u := BL (decide (x.Box = p1))) (Aa rfl rfl) ?_ rfl rfl rfl
 refine Jn (hK2 _ _ ?_)
 refine JC_ret ?_
 exact ⟨[BL (decide (x.Box = p1))], [], trivial, rfl, ⟨⟨_, rfl, .conv (.same rfl)⟩, trivial⟩, rfl, congrArg (fun r : Bool => (BL r : AV)) (Option.some.inj h)⟩

def M_slices_IndexFunc_apiStowed (s : List Stowed) (f : Stowed → Option Bool) : Option Int :=
 each (fun y20 i20 (s20 : Unit) nx20 =>
  bnd (f y20) fun r26 =>
  bif r26 then
  (some (i20 : Int))
  else
  (nx20 ()))
 (fun (s20 : Unit) =>
  some (-1)) s 0 ()
theorem M_slices_IndexFunc_apiStowed_w (s : List Stowed) (f : Stowed → Option Bool) (f_f : FuncId) (f_c : List AV) (f_B : callB Try.prog f_f = true) (f_d : refsL (fun _ => false) f_c = true) (f_w : ∀ a0 q, f a0 = some q → Pure Try.prog f_f ([.agg (Stowed.cs a0)] ++ f_c) (· = BL q)) (r : Int) (h : M_slices_IndexFunc_apiStowed s f = some r) : Pure Try.prog 53 [LS 4 Stowed.av s, .fn f_f f_c] (· = I64 r) := by
 unfold M_slices_IndexFunc_apiStowed at h
 refine Pure_ofG [.tmp 4] Try.func53 rfl rfl ?_
 refine Js fun K1 hK1 => Jr ?_
 refine Jg (u := I64 0) (Aa rfl rfl) ?_ rfl rfl rfl
 refine Jn (hK1 _ _ ?_)
 refine Js (fun K2 hK2 => ?_)
 refine Js fun K3 hK3 => Jr ?_
 refine Jg (u := LS 4 Stowed.av s) (Am rfl rfl) ?_ rfl rfl rfl
 refine JL_lenM (f := Stowed.av) (xs := s) tf_slice_40 rfl rfl (fun hm7 => ?_) rfl rfl rfl
 refine Jg (u := I64 0) (Am rfl rfl) ?_ rfl rfl rfl
 refine Jn (hK3 _ _ ?_)
 refine JC_block ?_
 obtain ⟨b20, kx20, hb20, hkx20, h⟩ := each_in h
 refine JC_loop2 (fun i20 (s20 : Unit) => each b20 kx20 (List.drop i20 s) i20 s20 = some r) (fun i20 s20 => [(0, LS 4 Stowed.av s), (1, .fn f_f f_c), (7, I64 (s.length : Int)), (8, I64 (i20 : Int))]) (fun i20 s20 => []) (fun i20 => s.length - i20) 0 () h ⟨⟨.same rfl, .same (refsL_any _ _ f_d), .same rfl, .same rfl, trivial⟩, trivial, rfl⟩ ?_
 clear h
 intro i20 s20 hi20 K20 e20
 refine Js fun K21 hK21 => Jr ?_
 refine Jg (u := BL (decide ((i20 : Int) < (s.length : Int)))) (A_lss rfl rfl rfl) ?_ rfl rfl rfl
 refine Jn (hK21 _ _ ?_)
 refine Js (fun K22 hK22 => ?_)
 refine JC_cond rfl (fun hb => ?_) (fun hb => ?_)
 ·
  have hk20 := lt_len hb
  obtain ⟨y20, nx20, hy20, hn20, h⟩ := each_out hi20 hk20
  replace h := app4 hb20 h
  refine JC_skip ?_
  refine hK22 _ _ ?_
  refine Js (fun K23 hK23 => ?_)
  refine JC_block ?_
  refine Js fun K24 hK24 => Jr ?_
  refine Jg (u := I64 (i20 : Int)) (Am rfl rfl) ?_ rfl rfl rfl
  refine Jg (u := I64 (i20 : Int)) (Aa rfl rfl) ?_ rfl rfl rfl
  refine Jn (hK24 _ _ ?_)
  refine Js fun K25 hK25 => Jr ?_
  refine Jg (u := .fn f_f f_c) (Am rfl rfl) ?_ rfl rfl rfl
  refine Jg (u := LS 4 Stowed.av s) (Am rfl rfl) ?_ rfl rfl rfl
  refine Jg (u := I64 (i20 : Int)) (Am rfl rfl) ?_ rfl rfl rfl
  refine Jg (u := .dptr (Stowed.cs y20)) (A_indexM (f := Stowed.av) (xs := s) (y := y20) rfl rfl rfl tf_slice_40 hy20 rfl) ?_ rfl rfl rfl
  refine Jg (u := .agg (Stowed.cs y20)) (A_loadAgg tf_agg_82 rfl rfl rfl) ?_ rfl rfl rfl
  obtain ⟨r26, hr26, h⟩ := bnd_out h
  refine Jg (u := BL r26) (A_callV1 (args := [.agg (Stowed.cs y20)]) (caps := f_c) rfl rfl (f_w y20 _ hr26) f_B ⟨rfl, rfl, trivial⟩ f_d) ?_ rfl rfl rfl
  refine Jn (hK25 _ _ ?_)
  refine JC_cond rfl (fun hb => ?_) (fun hb => ?_)
  ·
   replace h := bif_t hb h
   refine Js fun K27 hK27 => Jr ?_
   refine Jg (u := I64 (i20 : Int)) (Am rfl rfl) ?_ rfl rfl rfl
   refine Jg (u := I64 (i20 : Int)) (Aa rfl rfl) ?_ rfl rfl rfl
   refine Jn (hK27 _ _ ?_)
   refine JC_ret ?_
   exact ⟨[I64 (i20 : Int)], [], trivial, rfl, ⟨⟨_, rfl, .conv (.same rfl)⟩, trivial⟩, rfl, congrArg (fun r : Int => (I64 r : AV)) (Option.some.inj h)⟩
  ·
   replace h := bif_f hb h
   refine JC_skip ?_
   refine hK23 _ _ ?_
   refine Jr ?_
   refine Jg (u := I64 ((i20 + 1 : Nat) : Int)) (A_add (idx_succ hk20 hm7) rfl rfl rfl) ?_ rfl rfl rfl
   refine Jg (u := I64 ((i20 + 1 : Nat) : Int)) (Am rfl rfl) ?_ rfl rfl rfl
   refine Jn ?_
   exact e20 _ _ (i20 + 1) () (app1 hn20 h) (by omega) ⟨⟨.same rfl, .same (refsL_any _ _ f_d), .same rfl, .same rfl, trivial⟩, trivial, rfl⟩
 ·
  have h := app1 hkx20 (each_nil hi20 (not_lt_len hb))
  refine JC_exit ?_
  refine hK2 _ _ ?_
  refine Js fun K28 hK28 => Jr ?_
  refine Jg (u := I64 (-1)) (Aa rfl rfl) ?_ rfl rfl rfl
  refine Jn (hK28 _ _ ?_)
  refine JC_ret ?_
  exact ⟨[I64 (-1)], [], trivial, rfl, ⟨⟨_, rfl, .conv (.same rfl)⟩, trivial⟩, rfl, congrArg (fun r : Int => (I64 r : AV)) (Option.some.inj h)⟩

def M_plan_find (l : List Stowed) (id_ : Int) : Option (Slot × Bool) :=
 bnd (M_slices_IndexFunc_apiStowed l (fun z0 => M_plan_find_1 z0 id_)) fun r3 =>
 bif decide (r3 < 0) then
 (some ((Slot.mk 0 0 0), false))
 else
 (gidx l r3 fun y8 =>
  some (y8.Slot, true))
theorem M_plan_find_w (l : List Stowed) (id_ : Int) (r : Slot × Bool) (h : M_plan_find l id_ = some r) : Pure Try.prog 31 [LS 4 Stowed.av l, I64 id_] (· = .tup [.agg (Slot.cs r.1), BL r.2]) := by
 unfold M_plan_find at h
 refine Pure_ofG [.cell 4 80, .tmp 5] Try.func31 rfl rfl ?_
 refine Js fun K1 hK1 => Jr ?_
 refine Jg (u := .ptr 1078 0) (A_box (u := I64 id_) (cs := [I64 id_]) 1078 rfl rfl rfl rfl rfl) ?_ rfl rfl rfl
 refine Jg (u := .ptr 1079 0) (A_allocZ 1079 [I64 0, I64 0, U8 0] [.int .i64 0, .int .i64 0, .int .u8 0] tf_zero_80 ⟨.inl rfl, .inl rfl, .inl rfl, trivial⟩ rfl rfl) ?_ rfl rfl rfl
 refine Jg (u := BL false) (Aa rfl rfl) ?_ rfl rfl rfl
 refine Jn (hK1 _ _ ?_)
 refine JC_freeze [(0, LS 4 Stowed.av l), (3, .dptr [I64 id_]), (4, .ptr 1079 0)] [(1079, .box 80 [I64 0, I64 0, U8 0])] 1078 rfl rfl rfl ⟨⟨_, rfl, .boxEq rfl rfl⟩, trivial⟩ rfl (by exact ⟨.conv (.same rfl), .ptr, .conv (.same rfl), trivial⟩) ?_
 refine Js fun K2 hK2 => Jr ?_
 refine Jg (u := LS 4 Stowed.av l) (Am rfl rfl) ?_ rfl rfl rfl
 refine Jg (u := .fn 54 [.dptr [I64 id_]]) (A_makeFunc (cs := [.dptr [I64 id_]]) rfl rfl) ?_ rfl rfl rfl
 obtain ⟨r3, hr3, h⟩ := bnd_out h
 refine Jg (u := I64 r3) (A_call1 (args := [LS 4 Stowed.av l, .fn 54 [.dptr [I64 id_]]]) rfl (M_slices_IndexFunc_apiStowed_w l (fun z0 => M_plan_find_1 z0 id_) 54 [.dptr [I64 id_]] tf_call_54 rfl (fun z0 q hq => M_plan_find_1_w z0 id_ q hq) r3 hr3) tf_call_53 ⟨rfl, rfl, rfl, rfl, trivial⟩) ?_ rfl rfl rfl
 refine Jg (u := I64 r3) (Aa rfl rfl) ?_ rfl rfl rfl
 refine Jn (hK2 _ _ ?_)
 refine Js (fun K4 hK4 => ?_)
 refine Js fun K5 hK5 => Jr ?_
 refine Jg (u := I64 r3) (Am rfl rfl) ?_ rfl rfl rfl
 refine Jg (u := BL (decide (r3 < 0))) (A_lss rfl rfl rfl) ?_ rfl rfl rfl
 refine Jn (hK5 _ _ ?_)
 refine JC_cond rfl (fun hb => ?_) (fun hb => ?_)
 ·
  replace h := bif_t hb h
  refine Js fun K6 hK6 => Jr ?_
  refine Jg (u := .agg [I64 0, I64 0, U8 0]) (A_buildZ (cs := [I64 0, I64 0, U8 0]) [(0, 1), (1, 1), (2, 1)] [I64 0, I64 0, U8 0] [.int .i64 0, .int .i64 0, .int .u8 0] tf_places_80 tf_zero_80 ⟨.inl rfl, .inl rfl, .inl rfl, trivial⟩ rfl rfl) ?_ rfl rfl rfl
  refine JL_go0 (u := .junk) (A_store (u := .agg [I64 0, I64 0, U8 0]) (ds := [I64 0, I64 0, U8 0]) tf_size_80 rfl rfl rfl rfl rfl rfl rfl rfl) ?_ rfl rfl
  refine Jg (u := BL false) (Aa rfl rfl) ?_ rfl rfl rfl
  refine Jn (hK6 _ _ ?_)
  refine JC_ret ?_
  exact ⟨[.agg [I64 0, I64 0, U8 0], BL false], [], trivial, rfl, ⟨⟨_, ⟨_, _, _, _, rfl, rfl, rfl, .inl ⟨tf_agg_80, rfl⟩⟩, .conv (.same rfl)⟩, ⟨_, rfl, .conv (.same rfl)⟩, trivial⟩, rfl, congrArg (fun r : Slot × Bool => (.tup [.agg (Slot.cs r.1), BL r.2] : AV)) (Option.some.inj h)⟩
 ·
  replace h := bif_f hb h
  refine JC_skip ?_
  refine hK4 _ _ ?_
  refine Js fun K7 hK7 => Jr ?_
  refine Jg (u := LS 4 Stowed.av l) (Am rfl rfl) ?_ rfl rfl rfl
  refine Jg (u := I64 r3) (Am rfl rfl) ?_ rfl rfl rfl
  obtain ⟨m9, y8, hm9, hy8, h⟩ := gidx_out h
  refine Jg (u := .dptr (Stowed.cs y8)) (A_indexM (f := Stowed.av) (xs := l) (y := y8) rfl rfl rfl tf_slice_40 hy8 hm9) ?_ rfl rfl rfl
  refine Jg (u := .dptr (Slot.cs y8.Slot)) (A_fieldM tf_field_82_1 rfl rfl rfl) ?_ rfl rfl rfl
  refine Jg (u := .agg (Slot.cs y8.Slot)) (A_loadAgg tf_agg_80 rfl rfl rfl) ?_ rfl rfl rfl
  refine JL_go0 (u := .junk) (A_store (u := .agg (Slot.cs y8.Slot)) (ds := [I64 y8.Slot.Column, I64 y8.Slot.Tier, U8 y8.Slot.Half]) tf_size_80 rfl rfl rfl rfl rfl rfl rfl rfl) ?_ rfl rfl
  refine Jg (u := BL true) (Aa rfl rfl) ?_ rfl rfl rfl
  refine Jn (hK7 _ _ ?_)
  refine JC_ret ?_
  exact ⟨[.agg (Slot.cs y8.Slot), BL true], [], trivial, rfl, ⟨⟨_, ⟨_, _, _, _, rfl, rfl, rfl, .inl ⟨tf_agg_80, rfl⟩⟩, .conv (.same rfl)⟩, ⟨_, rfl, .conv (.same rfl)⟩, trivial⟩, rfl, congrArg (fun r : Slot × Bool => (.tup [.agg (Slot.cs r.1), BL r.2] : AV)) (Option.some.inj h)⟩

def M_ship_covers_1 (r_ : Int) (p1 : Column) : Option Bool :=
 some (decide (r_ = p1.Row))
theorem M_ship_covers_1_w (r_ : Int) (p1 : Column) (r : Bool) (h : M_ship_covers_1 r_ p1 = some r) : Pure Try.prog 74 [I64 r_, .dptr (Column.cs p1)] (· = BL r) := by
 unfold M_ship_covers_1 at h
 refine Pure_ofG [.tmp 3] Try.func74 rfl rfl ?_
 refine Js fun K1 hK1 => Jr ?_
 refine Jg (u := BL false) (Aa rfl rfl) ?_ rfl rfl rfl
 refine Jn (hK1 _ _ ?_)
 refine Js fun K2 hK2 => Jr ?_
 refine Jg (u := I64 r_) (Am rfl rfl) ?_ rfl rfl rfl
 refine Jg (u := .dptr ((Column.cs p1).drop 1)) (A_fieldM tf_field_72_1 rfl rfl rfl) ?_ rfl rfl rfl
 refine Jg (u := I64 p1.Row) (A_load tf_scalar_3 rfl rfl rfl) ?_ rfl rfl rfl
 refine Jg (u := BL (decide (r_ = p1.Row))) (A_eql rfl rfl rfl) ?_ rfl rfl rfl
 refine Jg (u := BL (decide (r_ = p1.Row))) (Aa rfl rfl) ?_ rfl rfl rfl
 refine Jn (hK2 _ _ ?_)
 refine JC_ret ?_
 exact ⟨[BL (decide (r_ = p1.Row))], [], trivial, rfl, ⟨⟨_, rfl, .conv (.same rfl)⟩, trivial⟩, rfl, congrArg (fun r : Bool => (BL r : AV)) (Option.some.inj h)⟩

def M_ship_chosen_int (l : List Int) (wanted : Int → Option Bool) : Option (List Int) :=
 each (fun y21 i21 (s21 : (List Int)) nx21 =>
  jp (fun kj24 =>
   bnd (wanted y21) fun r27 =>
   bif r27 then
   (need (decide ((s21.length + [(i21 : Int)].length) * 8 ≤ 140737488355328 ∧ s21.length + [(i21 : Int)].length ≤ maxLen)) <|
    kj24 (s21 ++ [(i21 : Int)]))
   else
   (kj24 s21)) fun (j24 : (List Int)) =>
  nx21 j24)
 (fun (s21 : (List Int)) =>
  some s21) l 0 []
theorem M_ship_chosen_int_w (l : List Int) (wanted : Int → Option Bool) (wanted_f : FuncId) (wanted_c : List AV) (wanted_B : callB Try.prog wanted_f = true) (wanted_d : refsL (fun _ => false) wanted_c = true) (wanted_w : ∀ a0 q, wanted a0 = some q → Pure Try.prog wanted_f ([I64 a0] ++ wanted_c) (· = BL q)) (r : (List Int)) (h : M_ship_chosen_int l wanted = some r) : Pure Try.prog 73 [LS 1 I64 l, .fn wanted_f wanted_c] (· = LS 1 I64 r) := by
 unfold M_ship_chosen_int at h
 refine Pure_ofG [.tmp 4] Try.func73 rfl rfl ?_
 refine Js fun K1 hK1 => Jr ?_
 refine Jg (u := LS 1 I64 ([] : List Int)) (A_nilList 1 rfl rfl) ?_ rfl rfl rfl
 refine Jn (hK1 _ _ ?_)
 refine Js fun K2 hK2 => Jr ?_
 refine Jg (u := OW 1129 1 I64 ([] : List Int)) (A_nilOwn 1129 3 1 rfl rfl rfl) ?_ rfl rfl rfl
 refine Jn (hK2 _ _ ?_)
 refine Js (fun K3 hK3 => ?_)
 refine Js fun K4 hK4 => Jr ?_
 refine Jg (u := LS 1 I64 l) (Am rfl rfl) ?_ rfl rfl rfl
 refine JL_lenM (f := I64) (xs := l) tf_slice_43 rfl rfl (fun hm9 => ?_) rfl rfl rfl
 refine Jg (u := I64 0) (Am rfl rfl) ?_ rfl rfl rfl
 refine Jn (hK4 _ _ ?_)
 refine JC_block ?_
 obtain ⟨b21, kx21, hb21, hkx21, h⟩ := each_in h
 refine JC_loop2 (fun i21 (s21 : (List Int)) => each b21 kx21 (List.drop i21 l) i21 s21 = some r) (fun i21 s21 => [(1, .fn wanted_f wanted_c), (5, OW 1129 1 I64 s21), (8, LS 1 I64 l), (9, I64 (l.length : Int)), (10, I64 (i21 : Int))]) (fun i21 s21 => [(1129, .spare 3 1 s21.length s21.length)]) (fun i21 => l.length - i21) 0 [] h ⟨⟨.same (refsL_any _ _ wanted_d), .same rfl, .same rfl, .same rfl, .same rfl, trivial⟩, ⟨⟨_, rfl, .same⟩, trivial⟩, rfl⟩ ?_
 clear h
 intro i21 s21 hi21 K21 e21
 refine Js fun K22 hK22 => Jr ?_
 refine Jg (u := BL (decide ((i21 : Int) < (l.length : Int)))) (A_lss rfl rfl rfl) ?_ rfl rfl rfl
 refine Jn (hK22 _ _ ?_)
 refine Js (fun K23 hK23 => ?_)
 refine JC_cond rfl (fun hb => ?_) (fun hb => ?_)
 ·
  have hk21 := lt_len hb
  obtain ⟨y21, nx21, hy21, hn21, h⟩ := each_out hi21 hk21
  replace h := app4 hb21 h
  refine JC_skip ?_
  refine hK23 _ _ ?_
  obtain ⟨kj24, hkj24, h⟩ := jp_out h
  refine JC_seqJ (fun j24 : (List Int) => kj24 j24 = some r) (fun j24 => [(1, .fn wanted_f wanted_c), (5, OW 1129 1 I64 j24), (8, LS 1 I64 l), (9, I64 (l.length : Int)), (10, I64 (i21 : Int))]) (fun j24 => [(1129, .spare 3 1 j24.length j24.length)]) (fun Kj24 ej24 => ?_) ?_
  ·
   refine JC_block ?_
   refine Js fun K25 hK25 => Jr ?_
   refine Jg (u := I64 (i21 : Int)) (Am rfl rfl) ?_ rfl rfl rfl
   refine Jg (u := .dptr [I64 y21]) (A_indexM (f := I64) (xs := l) (y := y21) rfl rfl rfl tf_slice_43 hy21 rfl) ?_ rfl rfl rfl
   refine Jg (u := I64 y21) (A_load tf_scalar_3 rfl rfl rfl) ?_ rfl rfl rfl
   refine Jg (u := I64 (i21 : Int)) (Aa rfl rfl) ?_ rfl rfl rfl
   refine Jg (u := I64 y21) (Aa rfl rfl) ?_ rfl rfl rfl
   refine Jn (hK25 _ _ ?_)
   refine Js fun K26 hK26 => Jr ?_
   refine Jg (u := .fn wanted_f wanted_c) (Am rfl rfl) ?_ rfl rfl rfl
   refine Jg (u := I64 y21) (Am rfl rfl) ?_ rfl rfl rfl
   obtain ⟨r27, hr27, h⟩ := bnd_out h
   refine Jg (u := BL r27) (A_callV1 (args := [I64 y21]) (caps := wanted_c) rfl rfl (wanted_w y21 _ hr27) wanted_B ⟨rfl, rfl, trivial⟩ wanted_d) ?_ rfl rfl rfl
   refine Jn (hK26 _ _ ?_)
   refine JC_cond rfl (fun hb => ?_) (fun hb => ?_)
   ·
    replace h := bif_t hb h
    refine Jr ?_
    refine Jg (u := OW 1129 1 I64 s21) (Am rfl rfl) ?_ rfl rfl rfl
    refine Jg (u := I64 (i21 : Int)) (Am rfl rfl) ?_ rfl rfl rfl
    refine Jg (u := LS 1 I64 [(i21 : Int)]) (A_buildSlice (xs := [I64 (i21 : Int)]) rfl ⟨rfl, rfl, trivial⟩ tf_slice_43 tf_zsize_3 rfl rfl rfl rfl) ?_ rfl rfl rfl
    obtain ⟨ha28, h⟩ := need_out h
    refine Jg (u := OW 1129 1 I64 (s21 ++ [(i21 : Int)])) (A_appendM (f := I64) (xs := s21) (ys := [(i21 : Int)]) rfl rfl rfl rfl tf_slice_43 tf_elem_3 ha28 (fun _ => rfl) (.inl rfl) rfl) ?_ rfl rfl rfl
    refine Jg (u := OW 1129 1 I64 (s21 ++ [(i21 : Int)])) (Aa rfl rfl) ?_ rfl rfl rfl
    refine Jn ?_
    exact ej24 _ _ (s21 ++ [(i21 : Int)]) h ⟨⟨.same (refsL_any _ _ wanted_d), .same rfl, .same rfl, .same rfl, .same rfl, trivial⟩, ⟨⟨_, rfl, .same⟩, trivial⟩, rfl⟩
   ·
    replace h := bif_f hb h
    refine JC_skip ?_
    exact ej24 _ _ s21 h ⟨⟨.same (refsL_any _ _ wanted_d), .same rfl, .same rfl, .same rfl, .same rfl, trivial⟩, ⟨⟨_, rfl, .same⟩, trivial⟩, rfl⟩
  ·intro j24 h
   replace h := app1 hkj24 h
   refine Jr ?_
   refine Jg (u := I64 ((i21 + 1 : Nat) : Int)) (A_add (idx_succ hk21 hm9) rfl rfl rfl) ?_ rfl rfl rfl
   refine Jg (u := I64 ((i21 + 1 : Nat) : Int)) (Am rfl rfl) ?_ rfl rfl rfl
   refine Jn ?_
   exact e21 _ _ (i21 + 1) j24 (app1 hn21 h) (by omega) ⟨⟨.same (refsL_any _ _ wanted_d), .same rfl, .same rfl, .same rfl, .same rfl, trivial⟩, ⟨⟨_, rfl, .same⟩, trivial⟩, rfl⟩
 ·
  have h := app1 hkx21 (each_nil hi21 (not_lt_len hb))
  refine JC_exit ?_
  refine hK3 _ _ ?_
  refine Js fun K29 hK29 => Jr ?_
  refine Jg (u := OW 1129 1 I64 s21) (Am rfl rfl) ?_ rfl rfl rfl
  refine Jg (u := OW 1129 1 I64 s21) (Aa rfl rfl) ?_ rfl rfl rfl
  refine Jn (hK29 _ _ ?_)
  refine JC_ret ?_
  exact ⟨[LS 1 I64 s21], [], trivial, rfl, ⟨⟨_, rfl, .conv (.list rfl)⟩, trivial⟩, rfl, congrArg (fun r : (List Int) => (LS 1 I64 r : AV)) (Option.some.inj h)⟩

def M_ship_covers (x : Cover) (c : Column) : Option Bool :=
 bnd (bif decide (x.Bay = c.Bay) then M_ship_chosen_int x.Rows (fun z0 => M_ship_covers_1 z0 c) else some default) fun r3 =>
 some ((decide (x.Bay = c.Bay)) && (decide (0 < (r3.length : Int))))
theorem M_ship_covers_w (x : Cover) (c : Column) (r : Bool) (h : M_ship_covers x c = some r) : Pure Try.prog 66 [.agg [I64 x.Bay, LS 1 I64 x.Rows], .agg [I64 c.Bay, I64 c.Row, BL c.Deck, I64 c.Tiers, I64 c.Height, I64 c.Kilos20, I64 c.Kilos40, I64 c.Lash, LS 1 I64 c.Plugs, I64 c.X, I64 c.Y, I64 c.Z]] (· = BL r) := by
 unfold M_ship_covers at h
 refine Pure_ofG [.tmp 4] Try.func66 rfl rfl ?_
 refine Js fun K1 hK1 => Jr ?_
 refine Jg (u := .ptr 1124 0) (A_box (u := .agg [I64 x.Bay, LS 1 I64 x.Rows]) (cs := [I64 x.Bay, LS 1 I64 x.Rows]) 1124 rfl rfl rfl rfl rfl) ?_ rfl rfl rfl
 refine Jg (u := .ptr 1125 0) (A_box (u := .agg [I64 c.Bay, I64 c.Row, BL c.Deck, I64 c.Tiers, I64 c.Height, I64 c.Kilos20, I64 c.Kilos40, I64 c.Lash, LS 1 I64 c.Plugs, I64 c.X, I64 c.Y, I64 c.Z]) (cs := [I64 c.Bay, I64 c.Row, BL c.Deck, I64 c.Tiers, I64 c.Height, I64 c.Kilos20, I64 c.Kilos40, I64 c.Lash, LS 1 I64 c.Plugs, I64 c.X, I64 c.Y, I64 c.Z]) 1125 rfl rfl rfl rfl rfl) ?_ rfl rfl rfl
 refine Jg (u := BL false) (Aa rfl rfl) ?_ rfl rfl rfl
 refine Jn (hK1 _ _ ?_)
 refine JC_freeze [(2, .dptr [I64 x.Bay, LS 1 I64 x.Rows]), (3, .ptr 1125 0)] [(1125, .box 72 [I64 c.Bay, I64 c.Row, BL c.Deck, I64 c.Tiers, I64 c.Height, I64 c.Kilos20, I64 c.Kilos40, I64 c.Lash, LS 1 I64 c.Plugs, I64 c.X, I64 c.Y, I64 c.Z])] 1124 rfl rfl rfl ⟨⟨_, rfl, .boxEq rfl rfl⟩, trivial⟩ rfl (by exact ⟨.ptr, .conv (.same rfl), trivial⟩) ?_
 refine JC_freeze [(2, .dptr [I64 x.Bay, LS 1 I64 x.Rows]), (3, .dptr [I64 c.Bay, I64 c.Row, BL c.Deck, I64 c.Tiers, I64 c.Height, I64 c.Kilos20, I64 c.Kilos40, I64 c.Lash, LS 1 I64 c.Plugs, I64 c.X, I64 c.Y, I64 c.Z])] [] 1125 rfl rfl rfl trivial rfl (by exact ⟨.conv (.same rfl), .ptr, trivial⟩) ?_
 refine Js fun K2 hK2 => Jr ?_
 refine Jg (u := .dptr [I64 x.Bay, LS 1 I64 x.Rows]) (A_fieldM tf_field_76_0 rfl rfl rfl) ?_ rfl rfl rfl
 refine Jg (u := I64 x.Bay) (A_load tf_scalar_3 rfl rfl rfl) ?_ rfl rfl rfl
 refine Jg (u := .dptr [I64 c.Bay, I64 c.Row, BL c.Deck, I64 c.Tiers, I64 c.Height, I64 c.Kilos20, I64 c.Kilos40, I64 c.Lash, LS 1 I64 c.Plugs, I64 c.X, I64 c.Y, I64 c.Z]) (A_fieldM tf_field_72_0 rfl rfl rfl) ?_ rfl rfl rfl
 refine Jg (u := I64 c.Bay) (A_load tf_scalar_3 rfl rfl rfl) ?_ rfl rfl rfl
 refine Jg (u := BL (decide (x.Bay = c.Bay))) (A_eql rfl rfl rfl) ?_ rfl rfl rfl
 refine Jg (u := BL (decide (x.Bay = c.Bay))) (Am rfl rfl) ?_ rfl rfl rfl
 refine JL_opt (u := .dptr [LS 1 I64 x.Rows]) [] rfl rfl rfl .sct trivial (fun hc => A_fieldM tf_field_76_1 rfl rfl rfl) ?_ rfl rfl rfl
 refine JL_opt (u := LS 1 I64 x.Rows) [(11, .dptr [LS 1 I64 x.Rows])] rfl rfl rfl .sct ⟨.all id, trivial⟩ (fun hc => A_load tf_scalar_43 rfl rfl rfl) ?_ rfl rfl rfl
 refine JL_opt (u := .fn 74 [.dptr [I64 c.Bay, I64 c.Row, BL c.Deck, I64 c.Tiers, I64 c.Height, I64 c.Kilos20, I64 c.Kilos40, I64 c.Lash, LS 1 I64 c.Plugs, I64 c.X, I64 c.Y, I64 c.Z]]) [] rfl rfl rfl .sct trivial (fun hc => A_makeFunc (cs := [.dptr [I64 c.Bay, I64 c.Row, BL c.Deck, I64 c.Tiers, I64 c.Height, I64 c.Kilos20, I64 c.Kilos40, I64 c.Lash, LS 1 I64 c.Plugs, I64 c.X, I64 c.Y, I64 c.Z]]) rfl rfl) ?_ rfl rfl rfl
 obtain ⟨r3, hr3, h⟩ := bnd_out h
 refine JL_opt (u := LS 1 I64 r3) [(12, LS 1 I64 x.Rows), (13, .fn 74 [.dptr [I64 c.Bay, I64 c.Row, BL c.Deck, I64 c.Tiers, I64 c.Height, I64 c.Kilos20, I64 c.Kilos40, I64 c.Lash, LS 1 I64 c.Plugs, I64 c.X, I64 c.Y, I64 c.Z]])] rfl rfl rfl .sct ⟨.all id, .all id, trivial⟩ (fun hc => A_call1 (args := [LS 1 I64 x.Rows, .fn 74 [.dptr [I64 c.Bay, I64 c.Row, BL c.Deck, I64 c.Tiers, I64 c.Height, I64 c.Kilos20, I64 c.Kilos40, I64 c.Lash, LS 1 I64 c.Plugs, I64 c.X, I64 c.Y, I64 c.Z]]]) rfl (M_ship_chosen_int_w x.Rows (fun z0 => M_ship_covers_1 z0 c) 74 [.dptr [I64 c.Bay, I64 c.Row, BL c.Deck, I64 c.Tiers, I64 c.Height, I64 c.Kilos20, I64 c.Kilos40, I64 c.Lash, LS 1 I64 c.Plugs, I64 c.X, I64 c.Y, I64 c.Z]] tf_call_74 rfl (fun z0 q hq => M_ship_covers_1_w z0 c q hq) r3 (bif_t hc hr3)) tf_call_73 ⟨rfl, rfl, rfl, rfl, trivial⟩) ?_ rfl rfl rfl
 refine JL_opt (u := I64 (r3.length : Int)) [(14, LS 1 I64 r3)] rfl rfl rfl .sct ⟨.all id, trivial⟩ (fun hc => A_lenM (f := I64) (xs := r3) tf_slice_43 rfl rfl) ?_ rfl rfl rfl
 refine JL_opt (u := BL (decide (0 < (r3.length : Int)))) [(15, I64 (r3.length : Int))] rfl rfl rfl .sct ⟨.all id, trivial⟩ (fun hc => A_gtr rfl rfl rfl) ?_ rfl rfl rfl
 refine Jg (u := BL ((decide (x.Bay = c.Bay)) && (decide (0 < (r3.length : Int))))) (A_and rfl rfl rfl rfl) ?_ rfl rfl rfl
 refine Jg (u := BL ((decide (x.Bay = c.Bay)) && (decide (0 < (r3.length : Int))))) (Aa rfl rfl) ?_ rfl rfl rfl
 refine Jn (hK2 _ _ ?_)
 refine JC_ret ?_
 exact ⟨[BL ((decide (x.Bay = c.Bay)) && (decide (0 < (r3.length : Int))))], [], trivial, rfl, ⟨⟨_, rfl, .conv (.same rfl)⟩, trivial⟩, rfl, congrArg (fun r : Bool => (BL r : AV)) (Option.some.inj h)⟩

def M_ship_CoverOf_1 (x : Cover) (p1 : Ship) (p2 : Int) : Option Bool :=
 gidx p1.Columns p2 fun y3 =>
 bnd (M_ship_covers x y3) fun r5 =>
 some r5
theorem M_ship_CoverOf_1_w (x : Cover) (p1 : Ship) (p2 : Int) (r : Bool) (h : M_ship_CoverOf_1 x p1 p2 = some r) : Pure Try.prog 65 [.agg [I64 x.Bay, LS 1 I64 x.Rows], .dptr (Ship.cs p1), .dptr [I64 p2]] (· = BL r) := by
 unfold M_ship_CoverOf_1 at h
 refine Pure_ofG [.tmp 4] Try.func65 rfl rfl ?_
 refine Js fun K1 hK1 => Jr ?_
 refine Jg (u := .ptr 1123 0) (A_box (u := .agg [I64 x.Bay, LS 1 I64 x.Rows]) (cs := [I64 x.Bay, LS 1 I64 x.Rows]) 1123 rfl rfl rfl rfl rfl) ?_ rfl rfl rfl
 refine Jg (u := BL false) (Aa rfl rfl) ?_ rfl rfl rfl
 refine Jn (hK1 _ _ ?_)
 refine JC_freeze [(1, .dptr (Ship.cs p1)), (2, .dptr [I64 p2]), (3, .dptr [I64 x.Bay, LS 1 I64 x.Rows])] [] 1123 rfl rfl rfl trivial rfl (by exact ⟨.conv (.same rfl), .conv (.same rfl), .ptr, trivial⟩) ?_
 refine Js (fun K2 hK2 => ?_)
 obtain ⟨m4, y3, hm4, hy3, h⟩ := gidx_out h
 obtain ⟨r5, hr5, h⟩ := bnd_out h
 refine JC_draw [] [0, 0, 0, 0, 0, 0, 0, 0] [0, 0, 0, 0, 0, 0, 0, 0] [[]] tf_mixed (by kernel_rfl) rfl rfl ?_
 refine D_ro (u := .agg [I64 x.Bay, LS 1 I64 x.Rows]) rfl rfl ⟨O_go (A_loadAgg tf_agg_76 rfl rfl rfl) rfl, trivial⟩ ?_ rfl
 refine D_ro (u := .dptr (Ship.cs p1)) rfl rfl ⟨O_go (A_fieldM tf_field_35_0 rfl rfl rfl) rfl, trivial⟩ ?_ rfl
 refine D_ro (u := LS 12 Column.av p1.Columns) rfl rfl ⟨O_go (A_load tf_scalar_25 rfl rfl rfl) rfl, trivial⟩ ?_ rfl
 refine D_ro (u := I64 p2) rfl rfl ⟨O_go (A_load tf_scalar_3 rfl rfl rfl) rfl, trivial⟩ ?_ rfl
 refine D_ro (u := .dptr (Column.cs y3)) rfl rfl ⟨O_go (A_indexM (f := Column.av) (xs := p1.Columns) (y := y3) rfl rfl rfl tf_slice_25 hy3 hm4) rfl, trivial⟩ ?_ rfl
 refine D_ro (u := .agg (Column.cs y3)) rfl rfl ⟨O_go (A_loadAgg tf_agg_72 rfl rfl rfl) rfl, trivial⟩ ?_ rfl
 refine D_ro (u := BL r5) rfl rfl ⟨O_go (A_call1 (args := [.agg [I64 x.Bay, LS 1 I64 x.Rows], .agg (Column.cs y3)]) rfl (M_ship_covers_w x y3 r5 hr5) tf_call_66 ⟨rfl, rfl, rfl, rfl, trivial⟩) rfl, trivial⟩ ?_ rfl
 refine D_ro (u := BL r5) rfl rfl ⟨O_go (Aa rfl rfl) rfl, trivial⟩ ?_ rfl
 refine D_nil ?_
 refine hK2 _ _ ?_
 refine JC_ret ?_
 exact ⟨[BL r5], [], trivial, rfl, ⟨⟨_, rfl, .conv (.same rfl)⟩, trivial⟩, rfl, congrArg (fun r : Bool => (BL r : AV)) (Option.some.inj h)⟩

def M_ship_chosen_apiCover (l : List Cover) (wanted : Cover → Option Bool) : Option (List Int) :=
 each (fun y21 i21 (s21 : (List Int)) nx21 =>
  jp (fun kj24 =>
   bnd (wanted y21) fun r27 =>
   bif r27 then
   (need (decide ((s21.length + [(i21 : Int)].length) * 8 ≤ 140737488355328 ∧ s21.length + [(i21 : Int)].length ≤ maxLen)) <|
    kj24 (s21 ++ [(i21 : Int)]))
   else
   (kj24 s21)) fun (j24 : (List Int)) =>
  nx21 j24)
 (fun (s21 : (List Int)) =>
  some s21) l 0 []
theorem M_ship_chosen_apiCover_w (l : List Cover) (wanted : Cover → Option Bool) (wanted_f : FuncId) (wanted_c : List AV) (wanted_B : callB Try.prog wanted_f = true) (wanted_d : refsL (fun _ => false) wanted_c = true) (wanted_w : ∀ a0 q, wanted a0 = some q → Pure Try.prog wanted_f ([.agg [I64 a0.Bay, LS 1 I64 a0.Rows]] ++ wanted_c) (· = BL q)) (r : (List Int)) (h : M_ship_chosen_apiCover l wanted = some r) : Pure Try.prog 64 [LS 2 Cover.av l, .fn wanted_f wanted_c] (· = LS 1 I64 r) := by
 unfold M_ship_chosen_apiCover at h
 refine Pure_ofG [.tmp 4] Try.func64 rfl rfl ?_
 refine Js fun K1 hK1 => Jr ?_
 refine Jg (u := LS 1 I64 ([] : List Int)) (A_nilList 1 rfl rfl) ?_ rfl rfl rfl
 refine Jn (hK1 _ _ ?_)
 refine Js fun K2 hK2 => Jr ?_
 refine Jg (u := OW 1121 1 I64 ([] : List Int)) (A_nilOwn 1121 3 1 rfl rfl rfl) ?_ rfl rfl rfl
 refine Jn (hK2 _ _ ?_)
 refine Js (fun K3 hK3 => ?_)
 refine Js fun K4 hK4 => Jr ?_
 refine Jg (u := LS 2 Cover.av l) (Am rfl rfl) ?_ rfl rfl rfl
 refine JL_lenM (f := Cover.av) (xs := l) tf_slice_26 rfl rfl (fun hm9 => ?_) rfl rfl rfl
 refine Jg (u := I64 0) (Am rfl rfl) ?_ rfl rfl rfl
 refine Jn (hK4 _ _ ?_)
 refine JC_block ?_
 obtain ⟨b21, kx21, hb21, hkx21, h⟩ := each_in h
 refine JC_loop2 (fun i21 (s21 : (List Int)) => each b21 kx21 (List.drop i21 l) i21 s21 = some r) (fun i21 s21 => [(1, .fn wanted_f wanted_c), (5, OW 1121 1 I64 s21), (8, LS 2 Cover.av l), (9, I64 (l.length : Int)), (10, I64 (i21 : Int))]) (fun i21 s21 => [(1121, .spare 3 1 s21.length s21.length)]) (fun i21 => l.length - i21) 0 [] h ⟨⟨.same (refsL_any _ _ wanted_d), .same rfl, .same rfl, .same rfl, .same rfl, trivial⟩, ⟨⟨_, rfl, .same⟩, trivial⟩, rfl⟩ ?_
 clear h
 intro i21 s21 hi21 K21 e21
 refine Js fun K22 hK22 => Jr ?_
 refine Jg (u := BL (decide ((i21 : Int) < (l.length : Int)))) (A_lss rfl rfl rfl) ?_ rfl rfl rfl
 refine Jn (hK22 _ _ ?_)
 refine Js (fun K23 hK23 => ?_)
 refine JC_cond rfl (fun hb => ?_) (fun hb => ?_)
 ·
  have hk21 := lt_len hb
  obtain ⟨y21, nx21, hy21, hn21, h⟩ := each_out hi21 hk21
  replace h := app4 hb21 h
  refine JC_skip ?_
  refine hK23 _ _ ?_
  obtain ⟨kj24, hkj24, h⟩ := jp_out h
  refine JC_seqJ (fun j24 : (List Int) => kj24 j24 = some r) (fun j24 => [(1, .fn wanted_f wanted_c), (5, OW 1121 1 I64 j24), (8, LS 2 Cover.av l), (9, I64 (l.length : Int)), (10, I64 (i21 : Int))]) (fun j24 => [(1121, .spare 3 1 j24.length j24.length)]) (fun Kj24 ej24 => ?_) ?_
  ·
   refine JC_block ?_
   refine Js fun K25 hK25 => Jr ?_
   refine Jg (u := I64 (i21 : Int)) (Am rfl rfl) ?_ rfl rfl rfl
   refine Jg (u := .dptr [I64 y21.Bay, LS 1 I64 y21.Rows]) (A_indexM (f := Cover.av) (xs := l) (y := y21) rfl rfl rfl tf_slice_26 hy21 rfl) ?_ rfl rfl rfl
   refine Jg (u := .agg [I64 y21.Bay, LS 1 I64 y21.Rows]) (A_loadAgg tf_agg_76 rfl rfl rfl) ?_ rfl rfl rfl
   refine Jg (u := .ptr 1122 0) (A_allocJ 1122 2 tf_zsize_76 rfl rfl) ?_ rfl rfl rfl
   refine Jg (u := I64 (i21 : Int)) (Aa rfl rfl) ?_ rfl rfl rfl
   refine JL_go0 (u := .junk) (A_store (u := .agg [I64 y21.Bay, LS 1 I64 y21.Rows]) (ds := [I64 y21.Bay, LS 1 I64 y21.Rows]) tf_size_76 rfl rfl rfl rfl rfl rfl rfl rfl) ?_ rfl rfl
   refine Jn (hK25 _ _ ?_)
   refine JC_freeze [(1, .fn wanted_f wanted_c), (5, OW 1121 1 I64 s21), (6, I64 (i21 : Int)), (7, .dptr [I64 y21.Bay, LS 1 I64 y21.Rows]), (8, LS 2 Cover.av l), (9, I64 (l.length : Int)), (10, I64 (i21 : Int))] [(1121, .spare 3 1 s21.length s21.length)] 1122 rfl rfl rfl ⟨⟨_, rfl, .same⟩, trivial⟩ rfl (by exact ⟨.conv (.same (refsL_any _ _ wanted_d)), .conv (.same rfl), .conv (.same rfl), .ptr, .conv (.same rfl), .conv (.same rfl), .conv (.same rfl), trivial⟩) ?_
   refine Js fun K26 hK26 => Jr ?_
   refine Jg (u := .fn wanted_f wanted_c) (Am rfl rfl) ?_ rfl rfl rfl
   refine Jg (u := .agg [I64 y21.Bay, LS 1 I64 y21.Rows]) (A_loadAgg tf_agg_76 rfl rfl rfl) ?_ rfl rfl rfl
   obtain ⟨r27, hr27, h⟩ := bnd_out h
   refine Jg (u := BL r27) (A_callV1 (args := [.agg [I64 y21.Bay, LS 1 I64 y21.Rows]]) (caps := wanted_c) rfl rfl (wanted_w y21 _ hr27) wanted_B ⟨rfl, rfl, trivial⟩ wanted_d) ?_ rfl rfl rfl
   refine Jn (hK26 _ _ ?_)
   refine JC_cond rfl (fun hb => ?_) (fun hb => ?_)
   ·
    replace h := bif_t hb h
    refine Jr ?_
    refine Jg (u := OW 1121 1 I64 s21) (Am rfl rfl) ?_ rfl rfl rfl
    refine Jg (u := I64 (i21 : Int)) (Am rfl rfl) ?_ rfl rfl rfl
    refine Jg (u := LS 1 I64 [(i21 : Int)]) (A_buildSlice (xs := [I64 (i21 : Int)]) rfl ⟨rfl, rfl, trivial⟩ tf_slice_43 tf_zsize_3 rfl rfl rfl rfl) ?_ rfl rfl rfl
    obtain ⟨ha28, h⟩ := need_out h
    refine Jg (u := OW 1121 1 I64 (s21 ++ [(i21 : Int)])) (A_appendM (f := I64) (xs := s21) (ys := [(i21 : Int)]) rfl rfl rfl rfl tf_slice_43 tf_elem_3 ha28 (fun _ => rfl) (.inl rfl) rfl) ?_ rfl rfl rfl
    refine Jg (u := OW 1121 1 I64 (s21 ++ [(i21 : Int)])) (Aa rfl rfl) ?_ rfl rfl rfl
    refine Jn ?_
    exact ej24 _ _ (s21 ++ [(i21 : Int)]) h ⟨⟨.same (refsL_any _ _ wanted_d), .same rfl, .same rfl, .same rfl, .same rfl, trivial⟩, ⟨⟨_, rfl, .same⟩, trivial⟩, rfl⟩
   ·
    replace h := bif_f hb h
    refine JC_skip ?_
    exact ej24 _ _ s21 h ⟨⟨.same (refsL_any _ _ wanted_d), .same rfl, .same rfl, .same rfl, .same rfl, trivial⟩, ⟨⟨_, rfl, .same⟩, trivial⟩, rfl⟩
  ·intro j24 h
   replace h := app1 hkj24 h
   refine Jr ?_
   refine Jg (u := I64 ((i21 + 1 : Nat) : Int)) (A_add (idx_succ hk21 hm9) rfl rfl rfl) ?_ rfl rfl rfl
   refine Jg (u := I64 ((i21 + 1 : Nat) : Int)) (Am rfl rfl) ?_ rfl rfl rfl
   refine Jn ?_
   exact e21 _ _ (i21 + 1) j24 (app1 hn21 h) (by omega) ⟨⟨.same (refsL_any _ _ wanted_d), .same rfl, .same rfl, .same rfl, .same rfl, trivial⟩, ⟨⟨_, rfl, .same⟩, trivial⟩, rfl⟩
 ·
  have h := app1 hkx21 (each_nil hi21 (not_lt_len hb))
  refine JC_exit ?_
  refine hK3 _ _ ?_
  refine Js fun K29 hK29 => Jr ?_
  refine Jg (u := OW 1121 1 I64 s21) (Am rfl rfl) ?_ rfl rfl rfl
  refine Jg (u := OW 1121 1 I64 s21) (Aa rfl rfl) ?_ rfl rfl rfl
  refine Jn (hK29 _ _ ?_)
  refine JC_ret ?_
  exact ⟨[LS 1 I64 s21], [], trivial, rfl, ⟨⟨_, rfl, .conv (.list rfl)⟩, trivial⟩, rfl, congrArg (fun r : (List Int) => (LS 1 I64 r : AV)) (Option.some.inj h)⟩
end
end Go.Proofs.Ytbpgdkibmejibaa
