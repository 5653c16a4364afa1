/-
 Models of functions of the program, and that they return what the models say.
-/
import Derived.Test.YtlhfflmknlfafaaProg
import Derived.Test.YtlhfflmknlfafaaSortM
import Derived.Test.YtlhfflmknlfafaaSortLay
import Derived.Test.YtlhfflmknlfafaaRel
import Derived.Test.YtlhfflmknlfafaaLit0
import Derived.Test.YtlhfflmknlfafaaXA
import Derived.Test.YtlhfflmknlfafaaSpecA
import Derived.Test.YtlhfflmknlfafaaSpecI
import Derived.Test.YtlhfflmknlfafaaSpecG
import Derived.Test.YtlhfflmknlfafaaXVa
import Derived.Test.YtlhfflmknlfafaaXV
import Derived.Test.YtlhfflmknlfafaaXBa
import Derived.Test.YtlhfflmknlfafaaXB
import Derived.Test.YtlhfflmknlfafaaSpecB
set_option maxRecDepth 100000
set_option linter.unusedVariables false
set_option linter.unusedSimpArgs false
namespace Go.Proofs.Ytlhfflmknlfafaa
open Go.RowKit
noncomputable section

namespace XDF
open XAF
open XVF
open XBF
theorem tf_call_23 : callB Try.prog 23 = true := by kernel_rfl
theorem tf_call_24 : callB Try.prog 24 = true := by kernel_rfl
theorem tf_call_25 : callB Try.prog 25 = true := by kernel_rfl
theorem tf_call_9 : callB Try.prog 9 = true := by kernel_rfl
end XDF
open XAF
open XVF
open XBF
open XDF

def M_twistlocklaw27_awake (F : Nat)  : Option Bool :=
 bnd (M_twistlocklaw27_tower 1) fun r6 =>
 bnd (M_bound_Family F r6 [(Box.mk 1 ByteArray.empty 40 false 0 0 2 0 false), (Box.mk 2 ByteArray.empty 40 false 0 1 3 0 false)] [(G7.mk 0 2), (G7.mk 1 3)]) fun r7 =>
 bnd (M_twistlocklaw27_tower 2) fun r9 =>
 bnd (M_bound_Family F r9 [(Box.mk 1 ByteArray.empty 40 false 0 0 2 0 false), (Box.mk 2 ByteArray.empty 40 false 0 1 3 0 false)] [(G7.mk 0 2), (G7.mk 1 3)]) fun r10 =>
 bnd (M_twistlocklaw27_tower 1) fun r12 =>
 bnd (M_bound_Family F r12 [(Box.mk 1 ByteArray.empty 20 false 0 0 2 0 false), (Box.mk 2 ByteArray.empty 20 false 0 0 2 0 false), (Box.mk 3 ByteArray.empty 20 false 0 0 2 0 false), (Box.mk 4 ByteArray.empty 20 false 0 1 3 0 false)] [(G7.mk 0 2), (G7.mk 1 3)]) fun r13 =>
 bnd (M_twistlocklaw27_tower 1) fun r15 =>
 bnd (M_bound_Find F r15 [(Box.mk 1 ByteArray.empty 40 false 0 0 2 0 false), (Box.mk 2 ByteArray.empty 40 false 0 1 3 0 false)]) fun r16 =>
 bnd (M_twistlocklaw27_tower 1) fun r18 =>
 gidx [(G7.mk 0 2), (G7.mk 1 3)] 1 fun y19 =>
 gidx [(G7.mk 0 2), (G7.mk 1 3)] 0 fun y21 =>
 bnd (M_bound_Family F r18 [(Box.mk 1 ByteArray.empty 40 false 0 0 2 0 false), (Box.mk 2 ByteArray.empty 40 false 0 1 3 0 false)] [y19, y21]) fun r23 =>
 bnd (M_twistlocklaw27_tower 1) fun r25 =>
 gidx [(G7.mk 0 2), (G7.mk 1 3)] 0 fun y26 =>
 bnd (S_bound_Check F r25 [(Box.mk 1 ByteArray.empty 40 false 0 0 2 0 false), (Box.mk 2 ByteArray.empty 40 false 0 1 3 0 false)] ([[(G7.mk 0 2), (G7.mk 1 3)], [y26]])) fun r28 =>
 bnd (M_twistlocklaw27_tower 1) fun r30 =>
 bnd (M_bound_Need r30 3 1) fun r31 =>
 chk (r7.2 + r10.2) fun v33 =>
 chk (v33 + r13.2) fun v34 =>
 chk (v34 + r16.2.2) fun v35 =>
 chk (v35 + r31.2) fun v36 =>
 bnd (bif ((((((decide (v36 = 0)) && (decide (r7.1 = 1))) && (decide (r10.1 = 0))) && (decide (r13.1 = 1))) && (decide (r16.2.1 = 1))) && (decide ((r16.1.length : Int) = 1))) then gidx r16.1 0 some else some default) fun y37 =>
 bnd (bif ((((((decide (v36 = 0)) && (decide (r7.1 = 1))) && (decide (r10.1 = 0))) && (decide (r13.1 = 1))) && (decide (r16.2.1 = 1))) && (decide ((r16.1.length : Int) = 1))) then M_twistlockkit_SameGroups y37 [(G7.mk 0 2), (G7.mk 1 3)] else some default) fun r38 =>
 bnd (bif ((((((((((decide (v36 = 0)) && (decide (r7.1 = 1))) && (decide (r10.1 = 0))) && (decide (r13.1 = 1))) && (decide (r16.2.1 = 1))) && (decide ((r16.1.length : Int) = 1))) && r38) && (decide (r23.2 = 270))) && (decide (r28.2 = 271))) && (decide (r31.1 = 4))) then gidx [(G7.mk 0 2), (G7.mk 1 3)] 0 some else some default) fun y39 =>
 bnd (bif ((((((((((decide (v36 = 0)) && (decide (r7.1 = 1))) && (decide (r10.1 = 0))) && (decide (r13.1 = 1))) && (decide (r16.2.1 = 1))) && (decide ((r16.1.length : Int) = 1))) && r38) && (decide (r23.2 = 270))) && (decide (r28.2 = 271))) && (decide (r31.1 = 4))) then gidx [(G7.mk 0 2), (G7.mk 1 3)] 1 some else some default) fun y40 =>
 bnd (bif ((((((((((decide (v36 = 0)) && (decide (r7.1 = 1))) && (decide (r10.1 = 0))) && (decide (r13.1 = 1))) && (decide (r16.2.1 = 1))) && (decide ((r16.1.length : Int) = 1))) && r38) && (decide (r23.2 = 270))) && (decide (r28.2 = 271))) && (decide (r31.1 = 4))) then M_bound_Cross y39 y40 else some default) fun r41 =>
 bnd (bif (((((((((((decide (v36 = 0)) && (decide (r7.1 = 1))) && (decide (r10.1 = 0))) && (decide (r13.1 = 1))) && (decide (r16.2.1 = 1))) && (decide ((r16.1.length : Int) = 1))) && r38) && (decide (r23.2 = 270))) && (decide (r28.2 = 271))) && (decide (r31.1 = 4))) && r41) then gidx [(G7.mk 0 2), (G7.mk 1 3)] 1 some else some default) fun y42 =>
 bnd (bif (((((((((((decide (v36 = 0)) && (decide (r7.1 = 1))) && (decide (r10.1 = 0))) && (decide (r13.1 = 1))) && (decide (r16.2.1 = 1))) && (decide ((r16.1.length : Int) = 1))) && r38) && (decide (r23.2 = 270))) && (decide (r28.2 = 271))) && (decide (r31.1 = 4))) && r41) then gidx [(G7.mk 0 2), (G7.mk 1 3)] 0 some else some default) fun y43 =>
 bnd (bif (((((((((((decide (v36 = 0)) && (decide (r7.1 = 1))) && (decide (r10.1 = 0))) && (decide (r13.1 = 1))) && (decide (r16.2.1 = 1))) && (decide ((r16.1.length : Int) = 1))) && r38) && (decide (r23.2 = 270))) && (decide (r28.2 = 271))) && (decide (r31.1 = 4))) && r41) then M_bound_Cross y42 y43 else some default) fun r44 =>
 bnd (bif ((((((((((((decide (v36 = 0)) && (decide (r7.1 = 1))) && (decide (r10.1 = 0))) && (decide (r13.1 = 1))) && (decide (r16.2.1 = 1))) && (decide ((r16.1.length : Int) = 1))) && r38) && (decide (r23.2 = 270))) && (decide (r28.2 = 271))) && (decide (r31.1 = 4))) && r41) && (!r44)) then S_bound_Groups [(Box.mk 1 ByteArray.empty 20 false 0 0 2 0 false), (Box.mk 2 ByteArray.empty 20 false 0 0 2 0 false), (Box.mk 3 ByteArray.empty 20 false 0 0 2 0 false), (Box.mk 4 ByteArray.empty 20 false 0 1 3 0 false)] else some default) fun r45 =>
 some (((((((((((((decide (v36 = 0)) && (decide (r7.1 = 1))) && (decide (r10.1 = 0))) && (decide (r13.1 = 1))) && (decide (r16.2.1 = 1))) && (decide ((r16.1.length : Int) = 1))) && r38) && (decide (r23.2 = 270))) && (decide (r28.2 = 271))) && (decide (r31.1 = 4))) && r41) && (!r44)) && (decide ((r45.length : Int) = 2)))
theorem M_twistlocklaw27_awake_w (F : Nat)  (r : Bool) (h : M_twistlocklaw27_awake F  = some r) : Pure Try.prog 9 [] (· = BL r) := by
 unfold M_twistlocklaw27_awake at h
 refine H0 [.tmp 0] Try.func9 rfl rfl ?_
 refine G6 fun K1 hK1 => G3 ?_
 refine G1 (u := BL false) (Ga rfl rfl) ?_
 refine G9 (hK1 _ _ ?_)
 refine G6 fun K2 hK2 => G3 ?_
 refine G1 (u := .agg [G2 1, ST ByteArray.empty, U8 40, BL false, G2 0, G2 0, G2 2, U8 0, BL false]) (Hn (cs := [G2 1, ST ByteArray.empty, U8 40, BL false, G2 0, G2 0, G2 2, U8 0, BL false]) [(0, 1), (1, 1), (2, 1), (3, 1), (4, 1), (5, 1), (6, 1), (7, 1), (8, 1)] [G2 0, ST ByteArray.empty, U8 0, BL false, G2 0, G2 0, G2 0, U8 0, BL false] [.int .i64 0, .string ByteArray.empty, .int .u8 0, .bool false, .int .i64 0, .int .i64 0, .int .i64 0, .int .u8 0, .bool false] Jq tf_zero_70 ⟨.inl rfl, .inl rfl, .inl rfl, .inl rfl, .inl rfl, .inl rfl, .inl rfl, .inl rfl, .inl rfl, trivial⟩ rfl rfl) ?_
 refine G1 (u := .agg [G2 2, ST ByteArray.empty, U8 40, BL false, G2 0, G2 1, G2 3, U8 0, BL false]) (Hn (cs := [G2 2, ST ByteArray.empty, U8 40, BL false, G2 0, G2 1, G2 3, U8 0, BL false]) [(0, 1), (1, 1), (2, 1), (3, 1), (4, 1), (5, 1), (6, 1), (7, 1), (8, 1)] [G2 0, ST ByteArray.empty, U8 0, BL false, G2 0, G2 0, G2 0, U8 0, BL false] [.int .i64 0, .string ByteArray.empty, .int .u8 0, .bool false, .int .i64 0, .int .i64 0, .int .i64 0, .int .u8 0, .bool false] Jq tf_zero_70 ⟨.inl rfl, .inl rfl, .inl rfl, .inl rfl, .inl rfl, .inl rfl, .inl rfl, .inl rfl, .inl rfl, trivial⟩ rfl rfl) ?_
 refine G1 (u := LS 9 Box.av [(Box.mk 1 ByteArray.empty 40 false 0 0 2 0 false), (Box.mk 2 ByteArray.empty 40 false 0 1 3 0 false)]) (H1 (xs := [.agg [G2 1, ST ByteArray.empty, U8 40, BL false, G2 0, G2 0, G2 2, U8 0, BL false], .agg [G2 2, ST ByteArray.empty, U8 40, BL false, G2 0, G2 1, G2 3, U8 0, BL false]]) rfl ⟨rfl, rfl, rfl, rfl, trivial⟩ Hp Jd rfl rfl rfl rfl) ?_
 refine G1 (u := LS 9 Box.av [(Box.mk 1 ByteArray.empty 40 false 0 0 2 0 false), (Box.mk 2 ByteArray.empty 40 false 0 1 3 0 false)]) (Ga rfl rfl) ?_
 refine G9 (hK2 _ _ ?_)
 refine G6 fun K3 hK3 => G3 ?_
 refine G1 (u := .agg [G2 0, G2 2]) (Hn (cs := [G2 0, G2 2]) [(0, 1), (1, 1)] [G2 0, G2 0] [.int .i64 0, .int .i64 0] tf_places_56 tf_zero_56 ⟨.inl rfl, .inl rfl, trivial⟩ rfl rfl) ?_
 refine G1 (u := .agg [G2 1, G2 3]) (Hn (cs := [G2 1, G2 3]) [(0, 1), (1, 1)] [G2 0, G2 0] [.int .i64 0, .int .i64 0] tf_places_56 tf_zero_56 ⟨.inl rfl, .inl rfl, trivial⟩ rfl rfl) ?_
 refine G1 (u := LS 2 G7.av [(G7.mk 0 2), (G7.mk 1 3)]) (H1 (xs := [.agg [G2 0, G2 2], .agg [G2 1, G2 3]]) rfl ⟨rfl, rfl, rfl, rfl, trivial⟩ H5 Jr rfl rfl rfl rfl) ?_
 refine G1 (u := LS 2 G7.av [(G7.mk 0 2), (G7.mk 1 3)]) (Ga rfl rfl) ?_
 refine G9 (hK3 _ _ ?_)
 refine G6 fun K4 hK4 => G3 ?_
 refine G1 (u := .agg [G2 1, ST ByteArray.empty, U8 20, BL false, G2 0, G2 0, G2 2, U8 0, BL false]) (Hn (cs := [G2 1, ST ByteArray.empty, U8 20, BL false, G2 0, G2 0, G2 2, U8 0, BL false]) [(0, 1), (1, 1), (2, 1), (3, 1), (4, 1), (5, 1), (6, 1), (7, 1), (8, 1)] [G2 0, ST ByteArray.empty, U8 0, BL false, G2 0, G2 0, G2 0, U8 0, BL false] [.int .i64 0, .string ByteArray.empty, .int .u8 0, .bool false, .int .i64 0, .int .i64 0, .int .i64 0, .int .u8 0, .bool false] Jq tf_zero_70 ⟨.inl rfl, .inl rfl, .inl rfl, .inl rfl, .inl rfl, .inl rfl, .inl rfl, .inl rfl, .inl rfl, trivial⟩ rfl rfl) ?_
 refine G1 (u := .agg [G2 2, ST ByteArray.empty, U8 20, BL false, G2 0, G2 0, G2 2, U8 0, BL false]) (Hn (cs := [G2 2, ST ByteArray.empty, U8 20, BL false, G2 0, G2 0, G2 2, U8 0, BL false]) [(0, 1), (1, 1), (2, 1), (3, 1), (4, 1), (5, 1), (6, 1), (7, 1), (8, 1)] [G2 0, ST ByteArray.empty, U8 0, BL false, G2 0, G2 0, G2 0, U8 0, BL false] [.int .i64 0, .string ByteArray.empty, .int .u8 0, .bool false, .int .i64 0, .int .i64 0, .int .i64 0, .int .u8 0, .bool false] Jq tf_zero_70 ⟨.inl rfl, .inl rfl, .inl rfl, .inl rfl, .inl rfl, .inl rfl, .inl rfl, .inl rfl, .inl rfl, trivial⟩ rfl rfl) ?_
 refine G1 (u := .agg [G2 3, ST ByteArray.empty, U8 20, BL false, G2 0, G2 0, G2 2, U8 0, BL false]) (Hn (cs := [G2 3, ST ByteArray.empty, U8 20, BL false, G2 0, G2 0, G2 2, U8 0, BL false]) [(0, 1), (1, 1), (2, 1), (3, 1), (4, 1), (5, 1), (6, 1), (7, 1), (8, 1)] [G2 0, ST ByteArray.empty, U8 0, BL false, G2 0, G2 0, G2 0, U8 0, BL false] [.int .i64 0, .string ByteArray.empty, .int .u8 0, .bool false, .int .i64 0, .int .i64 0, .int .i64 0, .int .u8 0, .bool false] Jq tf_zero_70 ⟨.inl rfl, .inl rfl, .inl rfl, .inl rfl, .inl rfl, .inl rfl, .inl rfl, .inl rfl, .inl rfl, trivial⟩ rfl rfl) ?_
 refine G1 (u := .agg [G2 4, ST ByteArray.empty, U8 20, BL false, G2 0, G2 1, G2 3, U8 0, BL false]) (Hn (cs := [G2 4, ST ByteArray.empty, U8 20, BL false, G2 0, G2 1, G2 3, U8 0, BL false]) [(0, 1), (1, 1), (2, 1), (3, 1), (4, 1), (5, 1), (6, 1), (7, 1), (8, 1)] [G2 0, ST ByteArray.empty, U8 0, BL false, G2 0, G2 0, G2 0, U8 0, BL false] [.int .i64 0, .string ByteArray.empty, .int .u8 0, .bool false, .int .i64 0, .int .i64 0, .int .i64 0, .int .u8 0, .bool false] Jq tf_zero_70 ⟨.inl rfl, .inl rfl, .inl rfl, .inl rfl, .inl rfl, .inl rfl, .inl rfl, .inl rfl, .inl rfl, trivial⟩ rfl rfl) ?_
 refine G1 (u := LS 9 Box.av [(Box.mk 1 ByteArray.empty 20 false 0 0 2 0 false), (Box.mk 2 ByteArray.empty 20 false 0 0 2 0 false), (Box.mk 3 ByteArray.empty 20 false 0 0 2 0 false), (Box.mk 4 ByteArray.empty 20 false 0 1 3 0 false)]) (H1 (xs := [.agg [G2 1, ST ByteArray.empty, U8 20, BL false, G2 0, G2 0, G2 2, U8 0, BL false], .agg [G2 2, ST ByteArray.empty, U8 20, BL false, G2 0, G2 0, G2 2, U8 0, BL false], .agg [G2 3, ST ByteArray.empty, U8 20, BL false, G2 0, G2 0, G2 2, U8 0, BL false], .agg [G2 4, ST ByteArray.empty, U8 20, BL false, G2 0, G2 1, G2 3, U8 0, BL false]]) rfl ⟨rfl, rfl, rfl, rfl, rfl, rfl, rfl, rfl, trivial⟩ Hp Jd rfl rfl rfl rfl) ?_
 refine G1 (u := LS 9 Box.av [(Box.mk 1 ByteArray.empty 20 false 0 0 2 0 false), (Box.mk 2 ByteArray.empty 20 false 0 0 2 0 false), (Box.mk 3 ByteArray.empty 20 false 0 0 2 0 false), (Box.mk 4 ByteArray.empty 20 false 0 1 3 0 false)]) (Ga rfl rfl) ?_
 refine G9 (hK4 _ _ ?_)
 refine G6 fun K5 hK5 => G3 ?_
 obtain ⟨r6, hr6, h⟩ := Gg h
 refine G1 (u := .agg (Ship.cs r6)) (Gu (args := [G2 1]) rfl (M_twistlocklaw27_tower_w 1 r6 hr6) tf_call_22 ⟨rfl, rfl, trivial⟩) ?_
 refine G1 (u := LS 9 Box.av [(Box.mk 1 ByteArray.empty 40 false 0 0 2 0 false), (Box.mk 2 ByteArray.empty 40 false 0 1 3 0 false)]) (G5 rfl rfl) ?_
 refine G1 (u := LS 2 G7.av [(G7.mk 0 2), (G7.mk 1 3)]) (G5 rfl rfl) ?_
 obtain ⟨r7, hr7, h⟩ := Gg h
 refine G1 (u := .tup [G2 r7.1, G2 r7.2]) (Gu (args := [.agg (Ship.cs r6), LS 9 Box.av [(Box.mk 1 ByteArray.empty 40 false 0 0 2 0 false), (Box.mk 2 ByteArray.empty 40 false 0 1 3 0 false)], LS 2 G7.av [(G7.mk 0 2), (G7.mk 1 3)]]) rfl (M_bound_Family_w F r6 [(Box.mk 1 ByteArray.empty 40 false 0 0 2 0 false), (Box.mk 2 ByteArray.empty 40 false 0 1 3 0 false)] [(G7.mk 0 2), (G7.mk 1 3)] r7 hr7) tf_call_7 ⟨rfl, rfl, rfl, rfl, rfl, rfl, trivial⟩) ?_
 refine G1 (u := .tup [G2 r7.1, G2 r7.2]) (G5 rfl rfl) ?_
 refine G1 (u := G2 r7.1) (Gx rfl rfl rfl) ?_
 refine G1 (u := G2 r7.2) (Gx rfl rfl rfl) ?_
 refine G1 (u := G2 r7.1) (Ga rfl rfl) ?_
 refine G1 (u := G2 r7.2) (Ga rfl rfl) ?_
 refine G9 (hK5 _ _ ?_)
 refine G6 fun K8 hK8 => G3 ?_
 obtain ⟨r9, hr9, h⟩ := Gg h
 refine G1 (u := .agg (Ship.cs r9)) (Gu (args := [G2 2]) rfl (M_twistlocklaw27_tower_w 2 r9 hr9) tf_call_22 ⟨rfl, rfl, trivial⟩) ?_
 refine G1 (u := LS 9 Box.av [(Box.mk 1 ByteArray.empty 40 false 0 0 2 0 false), (Box.mk 2 ByteArray.empty 40 false 0 1 3 0 false)]) (G5 rfl rfl) ?_
 refine G1 (u := LS 2 G7.av [(G7.mk 0 2), (G7.mk 1 3)]) (G5 rfl rfl) ?_
 obtain ⟨r10, hr10, h⟩ := Gg h
 refine G1 (u := .tup [G2 r10.1, G2 r10.2]) (Gu (args := [.agg (Ship.cs r9), LS 9 Box.av [(Box.mk 1 ByteArray.empty 40 false 0 0 2 0 false), (Box.mk 2 ByteArray.empty 40 false 0 1 3 0 false)], LS 2 G7.av [(G7.mk 0 2), (G7.mk 1 3)]]) rfl (M_bound_Family_w F r9 [(Box.mk 1 ByteArray.empty 40 false 0 0 2 0 false), (Box.mk 2 ByteArray.empty 40 false 0 1 3 0 false)] [(G7.mk 0 2), (G7.mk 1 3)] r10 hr10) tf_call_7 ⟨rfl, rfl, rfl, rfl, rfl, rfl, trivial⟩) ?_
 refine G1 (u := .tup [G2 r10.1, G2 r10.2]) (G5 rfl rfl) ?_
 refine G1 (u := G2 r10.1) (Gx rfl rfl rfl) ?_
 refine G1 (u := G2 r10.2) (Gx rfl rfl rfl) ?_
 refine G1 (u := G2 r10.1) (Ga rfl rfl) ?_
 refine G1 (u := G2 r10.2) (Ga rfl rfl) ?_
 refine G9 (hK8 _ _ ?_)
 refine G6 fun K11 hK11 => G3 ?_
 obtain ⟨r12, hr12, h⟩ := Gg h
 refine G1 (u := .agg (Ship.cs r12)) (Gu (args := [G2 1]) rfl (M_twistlocklaw27_tower_w 1 r12 hr12) tf_call_22 ⟨rfl, rfl, trivial⟩) ?_
 refine G1 (u := LS 9 Box.av [(Box.mk 1 ByteArray.empty 20 false 0 0 2 0 false), (Box.mk 2 ByteArray.empty 20 false 0 0 2 0 false), (Box.mk 3 ByteArray.empty 20 false 0 0 2 0 false), (Box.mk 4 ByteArray.empty 20 false 0 1 3 0 false)]) (G5 rfl rfl) ?_
 refine G1 (u := LS 2 G7.av [(G7.mk 0 2), (G7.mk 1 3)]) (G5 rfl rfl) ?_
 obtain ⟨r13, hr13, h⟩ := Gg h
 refine G1 (u := .tup [G2 r13.1, G2 r13.2]) (Gu (args := [.agg (Ship.cs r12), LS 9 Box.av [(Box.mk 1 ByteArray.empty 20 false 0 0 2 0 false), (Box.mk 2 ByteArray.empty 20 false 0 0 2 0 false), (Box.mk 3 ByteArray.empty 20 false 0 0 2 0 false), (Box.mk 4 ByteArray.empty 20 false 0 1 3 0 false)], LS 2 G7.av [(G7.mk 0 2), (G7.mk 1 3)]]) rfl (M_bound_Family_w F r12 [(Box.mk 1 ByteArray.empty 20 false 0 0 2 0 false), (Box.mk 2 ByteArray.empty 20 false 0 0 2 0 false), (Box.mk 3 ByteArray.empty 20 false 0 0 2 0 false), (Box.mk 4 ByteArray.empty 20 false 0 1 3 0 false)] [(G7.mk 0 2), (G7.mk 1 3)] r13 hr13) tf_call_7 ⟨rfl, rfl, rfl, rfl, rfl, rfl, trivial⟩) ?_
 refine G1 (u := .tup [G2 r13.1, G2 r13.2]) (G5 rfl rfl) ?_
 refine G1 (u := G2 r13.1) (Gx rfl rfl rfl) ?_
 refine G1 (u := G2 r13.2) (Gx rfl rfl rfl) ?_
 refine G1 (u := G2 r13.1) (Ga rfl rfl) ?_
 refine G1 (u := G2 r13.2) (Ga rfl rfl) ?_
 refine G9 (hK11 _ _ ?_)
 refine G6 fun K14 hK14 => G3 ?_
 obtain ⟨r15, hr15, h⟩ := Gg h
 refine G1 (u := .agg (Ship.cs r15)) (Gu (args := [G2 1]) rfl (M_twistlocklaw27_tower_w 1 r15 hr15) tf_call_22 ⟨rfl, rfl, trivial⟩) ?_
 refine G1 (u := LS 9 Box.av [(Box.mk 1 ByteArray.empty 40 false 0 0 2 0 false), (Box.mk 2 ByteArray.empty 40 false 0 1 3 0 false)]) (G5 rfl rfl) ?_
 obtain ⟨r16, hr16, h⟩ := Gg h
 refine G1 (u := .tup [LS 1 (LS 2 G7.av) r16.1, G2 r16.2.1, G2 r16.2.2]) (Gu (args := [.agg (Ship.cs r15), LS 9 Box.av [(Box.mk 1 ByteArray.empty 40 false 0 0 2 0 false), (Box.mk 2 ByteArray.empty 40 false 0 1 3 0 false)]]) rfl (M_bound_Find_w F r15 [(Box.mk 1 ByteArray.empty 40 false 0 0 2 0 false), (Box.mk 2 ByteArray.empty 40 false 0 1 3 0 false)] r16 hr16) tf_call_6 ⟨rfl, rfl, rfl, rfl, trivial⟩) ?_
 refine G1 (u := .tup [LS 1 (LS 2 G7.av) r16.1, G2 r16.2.1, G2 r16.2.2]) (G5 rfl rfl) ?_
 refine G1 (u := LS 1 (LS 2 G7.av) r16.1) (Gx rfl rfl rfl) ?_
 refine G1 (u := G2 r16.2.1) (Gx rfl rfl rfl) ?_
 refine G1 (u := G2 r16.2.2) (Gx rfl rfl rfl) ?_
 refine G1 (u := LS 1 (LS 2 G7.av) r16.1) (Ga rfl rfl) ?_
 refine G1 (u := G2 r16.2.1) (Ga rfl rfl) ?_
 refine G1 (u := G2 r16.2.2) (Ga rfl rfl) ?_
 refine G9 (hK14 _ _ ?_)
 refine G6 (fun K17 hK17 => ?_)
 obtain ⟨r18, hr18, h⟩ := Gg h
 obtain ⟨m20, y19, hm20, hy19, h⟩ := Je h
 obtain ⟨m22, y21, hm22, hy21, h⟩ := Je h
 obtain ⟨r23, hr23, h⟩ := Gg h
 refine Hy [] [0, 0, 0, 0, 0, 0, 0, 0, 0, 0, 0, 0, 0, 0, 0] [0, 0, 0, 0, 0, 0, 0, 0, 0, 0, 0, 0, 0, 0, 0] [[]] Hr (by kernel_rfl) rfl rfl ?_
 refine Ge (u := .agg (Ship.cs r18)) rfl rfl ⟨Gi (Gu (args := [G2 1]) rfl (M_twistlocklaw27_tower_w 1 r18 hr18) tf_call_22 ⟨rfl, rfl, trivial⟩) rfl, trivial⟩ ?_
 refine Ge (u := LS 9 Box.av [(Box.mk 1 ByteArray.empty 40 false 0 0 2 0 false), (Box.mk 2 ByteArray.empty 40 false 0 1 3 0 false)]) rfl rfl ⟨Gi (G5 rfl rfl) rfl, trivial⟩ ?_
 refine Ge (u := LS 2 G7.av [(G7.mk 0 2), (G7.mk 1 3)]) rfl rfl ⟨Gi (G5 rfl rfl) rfl, trivial⟩ ?_
 refine Ge (u := .dptr [G2 y19.Load, G2 y19.Discharge]) rfl rfl ⟨Gi (Gw (f := G7.av) (xs := [(G7.mk 0 2), (G7.mk 1 3)]) (y := y19) rfl rfl rfl H5 hy19 hm20) rfl, trivial⟩ ?_
 refine Ge (u := .agg [G2 y19.Load, G2 y19.Discharge]) rfl rfl ⟨Gi (Gf Hf rfl rfl rfl) rfl, trivial⟩ ?_
 refine Ge (u := LS 2 G7.av [(G7.mk 0 2), (G7.mk 1 3)]) rfl rfl ⟨Gi (G5 rfl rfl) rfl, trivial⟩ ?_
 refine Ge (u := .dptr [G2 y21.Load, G2 y21.Discharge]) rfl rfl ⟨Gi (Gw (f := G7.av) (xs := [(G7.mk 0 2), (G7.mk 1 3)]) (y := y21) rfl rfl rfl H5 hy21 hm22) rfl, trivial⟩ ?_
 refine Ge (u := .agg [G2 y21.Load, G2 y21.Discharge]) rfl rfl ⟨Gi (Gf Hf rfl rfl rfl) rfl, trivial⟩ ?_
 refine Ge (u := LS 2 G7.av [y19, y21]) rfl rfl ⟨Gi (H1 (xs := [.agg [G2 y19.Load, G2 y19.Discharge], .agg [G2 y21.Load, G2 y21.Discharge]]) rfl ⟨rfl, rfl, rfl, rfl, trivial⟩ H5 Jr rfl rfl rfl rfl) rfl, trivial⟩ ?_
 refine Ge (u := .tup [G2 r23.1, G2 r23.2]) rfl rfl ⟨Gi (Gu (args := [.agg (Ship.cs r18), LS 9 Box.av [(Box.mk 1 ByteArray.empty 40 false 0 0 2 0 false), (Box.mk 2 ByteArray.empty 40 false 0 1 3 0 false)], LS 2 G7.av [y19, y21]]) rfl (M_bound_Family_w F r18 [(Box.mk 1 ByteArray.empty 40 false 0 0 2 0 false), (Box.mk 2 ByteArray.empty 40 false 0 1 3 0 false)] [y19, y21] r23 hr23) tf_call_7 ⟨rfl, rfl, rfl, rfl, rfl, rfl, trivial⟩) rfl, trivial⟩ ?_
 refine Ge (u := .tup [G2 r23.1, G2 r23.2]) rfl rfl ⟨Gi (G5 rfl rfl) rfl, trivial⟩ ?_
 refine Ge (u := G2 r23.1) rfl rfl ⟨Gi (Gx rfl rfl rfl) rfl, trivial⟩ ?_
 refine Ge (u := G2 r23.2) rfl rfl ⟨Gi (Gx rfl rfl rfl) rfl, trivial⟩ ?_
 refine Ge (u := G2 r23.1) rfl rfl ⟨Gi (Ga rfl rfl) rfl, trivial⟩ ?_
 refine Ge (u := G2 r23.2) rfl rfl ⟨Gi (Ga rfl rfl) rfl, trivial⟩ ?_
 refine Q3 ?_
 refine hK17 _ _ ?_
 refine G6 (fun K24 hK24 => ?_)
 obtain ⟨r25, hr25, h⟩ := Gg h
 obtain ⟨m27, y26, hm27, hy26, h⟩ := Je h
 obtain ⟨r28, hr28, h⟩ := Gg h
 refine Hy [] [0, 0, 0, 0, 0, 0, 0, 0, 0, 0, 0, 0, 0, 0] [0, 0, 0, 0, 0, 0, 0, 0, 0, 0, 0, 0, 0, 0] [[]] Hr (by kernel_rfl) rfl rfl ?_
 refine Ge (u := .agg (Ship.cs r25)) rfl rfl ⟨Gi (Gu (args := [G2 1]) rfl (M_twistlocklaw27_tower_w 1 r25 hr25) tf_call_22 ⟨rfl, rfl, trivial⟩) rfl, trivial⟩ ?_
 refine Ge (u := LS 9 Box.av [(Box.mk 1 ByteArray.empty 40 false 0 0 2 0 false), (Box.mk 2 ByteArray.empty 40 false 0 1 3 0 false)]) rfl rfl ⟨Gi (G5 rfl rfl) rfl, trivial⟩ ?_
 refine Ge (u := LS 2 G7.av [(G7.mk 0 2), (G7.mk 1 3)]) rfl rfl ⟨Gi (G5 rfl rfl) rfl, trivial⟩ ?_
 refine Ge (u := LS 2 G7.av [(G7.mk 0 2), (G7.mk 1 3)]) rfl rfl ⟨Gi (G5 rfl rfl) rfl, trivial⟩ ?_
 refine Ge (u := .dptr [G2 y26.Load, G2 y26.Discharge]) rfl rfl ⟨Gi (Gw (f := G7.av) (xs := [(G7.mk 0 2), (G7.mk 1 3)]) (y := y26) rfl rfl rfl H5 hy26 hm27) rfl, trivial⟩ ?_
 refine Ge (u := .agg [G2 y26.Load, G2 y26.Discharge]) rfl rfl ⟨Gi (Gf Hf rfl rfl rfl) rfl, trivial⟩ ?_
 refine Ge (u := LS 2 G7.av [y26]) rfl rfl ⟨Gi (H1 (xs := [.agg [G2 y26.Load, G2 y26.Discharge]]) rfl ⟨rfl, rfl, trivial⟩ H5 Jr rfl rfl rfl rfl) rfl, trivial⟩ ?_
 refine Ge (u := LS 1 (LS 2 G7.av) ([[(G7.mk 0 2), (G7.mk 1 3)], [y26]])) rfl rfl ⟨Gi (H1 (xs := [LS 2 G7.av [(G7.mk 0 2), (G7.mk 1 3)], LS 2 G7.av [y26]]) rfl ⟨rfl, rfl, rfl, rfl, trivial⟩ Q2 tf_zsize_52 rfl rfl rfl rfl) rfl, trivial⟩ ?_
 refine Ge (u := .tup [G2 r28.1, G2 r28.2]) rfl rfl ⟨Gi (Gu (args := [.agg (Ship.cs r25), LS 9 Box.av [(Box.mk 1 ByteArray.empty 40 false 0 0 2 0 false), (Box.mk 2 ByteArray.empty 40 false 0 1 3 0 false)], LS 1 (LS 2 G7.av) ([[(G7.mk 0 2), (G7.mk 1 3)], [y26]])]) rfl (S_bound_Check_w.down F r25 [(Box.mk 1 ByteArray.empty 40 false 0 0 2 0 false), (Box.mk 2 ByteArray.empty 40 false 0 1 3 0 false)] ([[(G7.mk 0 2), (G7.mk 1 3)], [y26]]) r28 hr28) tf_call_23 ⟨rfl, rfl, rfl, rfl, rfl, rfl, trivial⟩) rfl, trivial⟩ ?_
 refine Ge (u := .tup [G2 r28.1, G2 r28.2]) rfl rfl ⟨Gi (G5 rfl rfl) rfl, trivial⟩ ?_
 refine Ge (u := G2 r28.1) rfl rfl ⟨Gi (Gx rfl rfl rfl) rfl, trivial⟩ ?_
 refine Ge (u := G2 r28.2) rfl rfl ⟨Gi (Gx rfl rfl rfl) rfl, trivial⟩ ?_
 refine Ge (u := G2 r28.1) rfl rfl ⟨Gi (Ga rfl rfl) rfl, trivial⟩ ?_
 refine Ge (u := G2 r28.2) rfl rfl ⟨Gi (Ga rfl rfl) rfl, trivial⟩ ?_
 refine Q3 ?_
 refine hK24 _ _ ?_
 refine G6 fun K29 hK29 => G3 ?_
 obtain ⟨r30, hr30, h⟩ := Gg h
 refine G1 (u := .agg (Ship.cs r30)) (Gu (args := [G2 1]) rfl (M_twistlocklaw27_tower_w 1 r30 hr30) tf_call_22 ⟨rfl, rfl, trivial⟩) ?_
 obtain ⟨r31, hr31, h⟩ := Gg h
 refine G1 (u := .tup [G2 r31.1, G2 r31.2]) (Gu (args := [.agg (Ship.cs r30), G2 3, G2 1]) rfl (M_bound_Need_w r30 3 1 r31 hr31) tf_call_24 ⟨rfl, rfl, rfl, rfl, rfl, rfl, trivial⟩) ?_
 refine G1 (u := .tup [G2 r31.1, G2 r31.2]) (G5 rfl rfl) ?_
 refine G1 (u := G2 r31.1) (Gx rfl rfl rfl) ?_
 refine G1 (u := G2 r31.2) (Gx rfl rfl rfl) ?_
 refine G1 (u := G2 r31.1) (Ga rfl rfl) ?_
 refine G1 (u := G2 r31.2) (Ga rfl rfl) ?_
 refine G9 (hK29 _ _ ?_)
 refine G6 (fun K32 hK32 => ?_)
 obtain ⟨v33, hv33, h⟩ := Gy h
 obtain ⟨v34, hv34, h⟩ := Gy h
 obtain ⟨v35, hv35, h⟩ := Gy h
 obtain ⟨v36, hv36, h⟩ := Gy h
 obtain ⟨y37, hy37, h⟩ := Gg h
 obtain ⟨r38, hr38, h⟩ := Gg h
 obtain ⟨y39, hy39, h⟩ := Gg h
 obtain ⟨y40, hy40, h⟩ := Gg h
 obtain ⟨r41, hr41, h⟩ := Gg h
 obtain ⟨y42, hy42, h⟩ := Gg h
 obtain ⟨y43, hy43, h⟩ := Gg h
 obtain ⟨r44, hr44, h⟩ := Gg h
 obtain ⟨r45, hr45, h⟩ := Gg h
 refine Hy [] [0, 0, 0, 0, 0, 0, 0, 0, 0, 0, 0, 0, 0, 0, 0, 0, 0, 0, 0, 0, 0, 0, 0, 0, 0, 0, 0, 0, 0, 0, 0, 0, 0, 0, 0, 0, 0, 0, 0, 0, 0, 0, 0, 0, 0, 0, 0, 0, 0, 0, 0, 0, 0, 0, 0, 0, 0, 0, 0, 0, 0, 0, 0, 0, 0, 0, 0, 0, 0, 0, 0, 0, 0, 0, 0, 0] [0, 0, 0, 0, 0, 0, 0, 0, 0, 0, 0, 0, 0, 0, 0, 0, 0, 0, 0, 0, 0, 0, 0, 0, 0, 0, 0, 0, 0, 0, 0, 0, 0, 0, 0, 0, 0, 0, 0, 0, 0, 0, 0, 0, 0, 0, 0, 0, 0, 0, 0, 0, 0, 0, 0, 0, 0, 0, 0, 0, 0, 0, 0, 0, 0, 0, 0, 0, 0, 0, 0, 0, 0, 0, 0, 0] [[]] Hr (by kernel_rfl) rfl rfl ?_
 refine Ge (u := G2 r7.2) rfl rfl ⟨Gi (G5 rfl rfl) rfl, trivial⟩ ?_
 refine Ge (u := G2 r10.2) rfl rfl ⟨Gi (G5 rfl rfl) rfl, trivial⟩ ?_
 refine Ge (u := G2 v33) rfl rfl ⟨Gi (H7 hv33 rfl rfl rfl) rfl, trivial⟩ ?_
 refine Ge (u := G2 r13.2) rfl rfl ⟨Gi (G5 rfl rfl) rfl, trivial⟩ ?_
 refine Ge (u := G2 v34) rfl rfl ⟨Gi (H7 hv34 rfl rfl rfl) rfl, trivial⟩ ?_
 refine Ge (u := G2 r16.2.2) rfl rfl ⟨Gi (G5 rfl rfl) rfl, trivial⟩ ?_
 refine Ge (u := G2 v35) rfl rfl ⟨Gi (H7 hv35 rfl rfl rfl) rfl, trivial⟩ ?_
 refine Ge (u := G2 r31.2) rfl rfl ⟨Gi (G5 rfl rfl) rfl, trivial⟩ ?_
 refine Ge (u := G2 v36) rfl rfl ⟨Gi (H7 hv36 rfl rfl rfl) rfl, trivial⟩ ?_
 refine Ge (u := BL (decide (v36 = 0))) rfl rfl ⟨Gi (Jb rfl rfl rfl) rfl, trivial⟩ ?_
 refine Ge (u := BL (decide (v36 = 0))) rfl rfl ⟨Gi (G5 rfl rfl) rfl, trivial⟩ ?_
 refine Ge (u := .opt (decide (v36 = 0)) (G2 r7.1)) rfl rfl ⟨Gv [] rfl rfl rfl .sct trivial (fun hc => G5 rfl rfl) rfl, trivial⟩ ?_
 refine Ge (u := .opt (decide (v36 = 0)) (BL (decide (r7.1 = 1)))) rfl rfl ⟨Gv [(99, G2 r7.1)] rfl rfl rfl .sct ⟨.all id, trivial⟩ (fun hc => Jb rfl rfl rfl) rfl, trivial⟩ ?_
 refine Ge (u := BL ((decide (v36 = 0)) && (decide (r7.1 = 1)))) rfl rfl ⟨Gi (Jc rfl rfl rfl rfl) rfl, trivial⟩ ?_
 refine Ge (u := BL ((decide (v36 = 0)) && (decide (r7.1 = 1)))) rfl rfl ⟨Gi (G5 rfl rfl) rfl, trivial⟩ ?_
 refine Ge (u := .opt ((decide (v36 = 0)) && (decide (r7.1 = 1))) (G2 r10.1)) rfl rfl ⟨Gv [] rfl rfl rfl .sct trivial (fun hc => G5 rfl rfl) rfl, trivial⟩ ?_
 refine Ge (u := .opt ((decide (v36 = 0)) && (decide (r7.1 = 1))) (BL (decide (r10.1 = 0)))) rfl rfl ⟨Gv [(103, G2 r10.1)] rfl rfl rfl .sct ⟨.all id, trivial⟩ (fun hc => Jb rfl rfl rfl) rfl, trivial⟩ ?_
 refine Ge (u := BL (((decide (v36 = 0)) && (decide (r7.1 = 1))) && (decide (r10.1 = 0)))) rfl rfl ⟨Gi (Jc rfl rfl rfl rfl) rfl, trivial⟩ ?_
 refine Ge (u := BL (((decide (v36 = 0)) && (decide (r7.1 = 1))) && (decide (r10.1 = 0)))) rfl rfl ⟨Gi (G5 rfl rfl) rfl, trivial⟩ ?_
 refine Ge (u := .opt (((decide (v36 = 0)) && (decide (r7.1 = 1))) && (decide (r10.1 = 0))) (G2 r13.1)) rfl rfl ⟨Gv [] rfl rfl rfl .sct trivial (fun hc => G5 rfl rfl) rfl, trivial⟩ ?_
 refine Ge (u := .opt (((decide (v36 = 0)) && (decide (r7.1 = 1))) && (decide (r10.1 = 0))) (BL (decide (r13.1 = 1)))) rfl rfl ⟨Gv [(107, G2 r13.1)] rfl rfl rfl .sct ⟨.all id, trivial⟩ (fun hc => Jb rfl rfl rfl) rfl, trivial⟩ ?_
 refine Ge (u := BL ((((decide (v36 = 0)) && (decide (r7.1 = 1))) && (decide (r10.1 = 0))) && (decide (r13.1 = 1)))) rfl rfl ⟨Gi (Jc rfl rfl rfl rfl) rfl, trivial⟩ ?_
 refine Ge (u := BL ((((decide (v36 = 0)) && (decide (r7.1 = 1))) && (decide (r10.1 = 0))) && (decide (r13.1 = 1)))) rfl rfl ⟨Gi (G5 rfl rfl) rfl, trivial⟩ ?_
 refine Ge (u := .opt ((((decide (v36 = 0)) && (decide (r7.1 = 1))) && (decide (r10.1 = 0))) && (decide (r13.1 = 1))) (G2 r16.2.1)) rfl rfl ⟨Gv [] rfl rfl rfl .sct trivial (fun hc => G5 rfl rfl) rfl, trivial⟩ ?_
 refine Ge (u := .opt ((((decide (v36 = 0)) && (decide (r7.1 = 1))) && (decide (r10.1 = 0))) && (decide (r13.1 = 1))) (BL (decide (r16.2.1 = 1)))) rfl rfl ⟨Gv [(111, G2 r16.2.1)] rfl rfl rfl .sct ⟨.all id, trivial⟩ (fun hc => Jb rfl rfl rfl) rfl, trivial⟩ ?_
 refine Ge (u := BL (((((decide (v36 = 0)) && (decide (r7.1 = 1))) && (decide (r10.1 = 0))) && (decide (r13.1 = 1))) && (decide (r16.2.1 = 1)))) rfl rfl ⟨Gi (Jc rfl rfl rfl rfl) rfl, trivial⟩ ?_
 refine Ge (u := BL (((((decide (v36 = 0)) && (decide (r7.1 = 1))) && (decide (r10.1 = 0))) && (decide (r13.1 = 1))) && (decide (r16.2.1 = 1)))) rfl rfl ⟨Gi (G5 rfl rfl) rfl, trivial⟩ ?_
 refine Ge (u := .opt (((((decide (v36 = 0)) && (decide (r7.1 = 1))) && (decide (r10.1 = 0))) && (decide (r13.1 = 1))) && (decide (r16.2.1 = 1))) (LS 1 (LS 2 G7.av) r16.1)) rfl rfl ⟨Gv [] rfl rfl rfl .sct trivial (fun hc => G5 rfl rfl) rfl, trivial⟩ ?_
 refine Ge (u := .opt (((((decide (v36 = 0)) && (decide (r7.1 = 1))) && (decide (r10.1 = 0))) && (decide (r13.1 = 1))) && (decide (r16.2.1 = 1))) (G2 (r16.1.length : Int))) rfl rfl ⟨Gv [(115, LS 1 (LS 2 G7.av) r16.1)] rfl rfl rfl .sct ⟨.all id, trivial⟩ (fun hc => Jz (f := (LS 2 G7.av)) (xs := r16.1) Q2 rfl rfl) rfl, trivial⟩ ?_
 refine Ge (u := .opt (((((decide (v36 = 0)) && (decide (r7.1 = 1))) && (decide (r10.1 = 0))) && (decide (r13.1 = 1))) && (decide (r16.2.1 = 1))) (BL (decide ((r16.1.length : Int) = 1)))) rfl rfl ⟨Gv [(116, G2 (r16.1.length : Int))] rfl rfl rfl .sct ⟨.all id, trivial⟩ (fun hc => Jb rfl rfl rfl) rfl, trivial⟩ ?_
 refine Ge (u := BL ((((((decide (v36 = 0)) && (decide (r7.1 = 1))) && (decide (r10.1 = 0))) && (decide (r13.1 = 1))) && (decide (r16.2.1 = 1))) && (decide ((r16.1.length : Int) = 1)))) rfl rfl ⟨Gi (Jc rfl rfl rfl rfl) rfl, trivial⟩ ?_
 refine Ge (u := BL ((((((decide (v36 = 0)) && (decide (r7.1 = 1))) && (decide (r10.1 = 0))) && (decide (r13.1 = 1))) && (decide (r16.2.1 = 1))) && (decide ((r16.1.length : Int) = 1)))) rfl rfl ⟨Gi (G5 rfl rfl) rfl, trivial⟩ ?_
 refine Ge (u := .opt ((((((decide (v36 = 0)) && (decide (r7.1 = 1))) && (decide (r10.1 = 0))) && (decide (r13.1 = 1))) && (decide (r16.2.1 = 1))) && (decide ((r16.1.length : Int) = 1))) (LS 1 (LS 2 G7.av) r16.1)) rfl rfl ⟨Gv [] rfl rfl rfl .sct trivial (fun hc => G5 rfl rfl) rfl, trivial⟩ ?_
 refine Ge (u := .opt ((((((decide (v36 = 0)) && (decide (r7.1 = 1))) && (decide (r10.1 = 0))) && (decide (r13.1 = 1))) && (decide (r16.2.1 = 1))) && (decide ((r16.1.length : Int) = 1))) (.dptr [LS 2 G7.av y37])) rfl rfl ⟨Gv [(120, LS 1 (LS 2 G7.av) r16.1)] rfl rfl rfl .sct ⟨.all id, trivial⟩ (fun hc => (match Jh (bif_t hc hy37) with | ⟨_, hm_, hy_⟩ => Gw (f := (LS 2 G7.av)) (xs := r16.1) (y := y37) rfl rfl rfl Q2 hy_ hm_)) rfl, trivial⟩ ?_
 refine Ge (u := .opt ((((((decide (v36 = 0)) && (decide (r7.1 = 1))) && (decide (r10.1 = 0))) && (decide (r13.1 = 1))) && (decide (r16.2.1 = 1))) && (decide ((r16.1.length : Int) = 1))) (LS 2 G7.av y37)) rfl rfl ⟨Gv [(121, .dptr [LS 2 G7.av y37])] rfl rfl rfl .sct ⟨.all id, trivial⟩ (fun hc => Gn tf_scalar_52 rfl rfl rfl) rfl, trivial⟩ ?_
 refine Ge (u := .opt ((((((decide (v36 = 0)) && (decide (r7.1 = 1))) && (decide (r10.1 = 0))) && (decide (r13.1 = 1))) && (decide (r16.2.1 = 1))) && (decide ((r16.1.length : Int) = 1))) (LS 2 G7.av [(G7.mk 0 2), (G7.mk 1 3)])) rfl rfl ⟨Gv [] rfl rfl rfl .sct trivial (fun hc => G5 rfl rfl) rfl, trivial⟩ ?_
 refine Ge (u := .opt ((((((decide (v36 = 0)) && (decide (r7.1 = 1))) && (decide (r10.1 = 0))) && (decide (r13.1 = 1))) && (decide (r16.2.1 = 1))) && (decide ((r16.1.length : Int) = 1))) (BL r38)) rfl rfl ⟨Gv [(122, LS 2 G7.av y37), (123, LS 2 G7.av [(G7.mk 0 2), (G7.mk 1 3)])] rfl rfl rfl .sct ⟨.all id, .all id, trivial⟩ (fun hc => Gu (args := [LS 2 G7.av y37, LS 2 G7.av [(G7.mk 0 2), (G7.mk 1 3)]]) rfl (M_twistlockkit_SameGroups_w y37 [(G7.mk 0 2), (G7.mk 1 3)] r38 (bif_t hc hr38)) tf_call_25 ⟨rfl, rfl, rfl, rfl, trivial⟩) rfl, trivial⟩ ?_
 refine Ge (u := BL (((((((decide (v36 = 0)) && (decide (r7.1 = 1))) && (decide (r10.1 = 0))) && (decide (r13.1 = 1))) && (decide (r16.2.1 = 1))) && (decide ((r16.1.length : Int) = 1))) && r38)) rfl rfl ⟨Gi (Jc rfl rfl rfl rfl) rfl, trivial⟩ ?_
 refine Ge (u := BL (((((((decide (v36 = 0)) && (decide (r7.1 = 1))) && (decide (r10.1 = 0))) && (decide (r13.1 = 1))) && (decide (r16.2.1 = 1))) && (decide ((r16.1.length : Int) = 1))) && r38)) rfl rfl ⟨Gi (G5 rfl rfl) rfl, trivial⟩ ?_
 refine Ge (u := .opt (((((((decide (v36 = 0)) && (decide (r7.1 = 1))) && (decide (r10.1 = 0))) && (decide (r13.1 = 1))) && (decide (r16.2.1 = 1))) && (decide ((r16.1.length : Int) = 1))) && r38) (G2 r23.2)) rfl rfl ⟨Gv [] rfl rfl rfl .sct trivial (fun hc => G5 rfl rfl) rfl, trivial⟩ ?_
 refine Ge (u := .opt (((((((decide (v36 = 0)) && (decide (r7.1 = 1))) && (decide (r10.1 = 0))) && (decide (r13.1 = 1))) && (decide (r16.2.1 = 1))) && (decide ((r16.1.length : Int) = 1))) && r38) (BL (decide (r23.2 = 270)))) rfl rfl ⟨Gv [(127, G2 r23.2)] rfl rfl rfl .sct ⟨.all id, trivial⟩ (fun hc => Jb rfl rfl rfl) rfl, trivial⟩ ?_
 refine Ge (u := BL ((((((((decide (v36 = 0)) && (decide (r7.1 = 1))) && (decide (r10.1 = 0))) && (decide (r13.1 = 1))) && (decide (r16.2.1 = 1))) && (decide ((r16.1.length : Int) = 1))) && r38) && (decide (r23.2 = 270)))) rfl rfl ⟨Gi (Jc rfl rfl rfl rfl) rfl, trivial⟩ ?_
 refine Ge (u := BL ((((((((decide (v36 = 0)) && (decide (r7.1 = 1))) && (decide (r10.1 = 0))) && (decide (r13.1 = 1))) && (decide (r16.2.1 = 1))) && (decide ((r16.1.length : Int) = 1))) && r38) && (decide (r23.2 = 270)))) rfl rfl ⟨Gi (G5 rfl rfl) rfl, trivial⟩ ?_
 refine Ge (u := .opt ((((((((decide (v36 = 0)) && (decide (r7.1 = 1))) && (decide (r10.1 = 0))) && (decide (r13.1 = 1))) && (decide (r16.2.1 = 1))) && (decide ((r16.1.length : Int) = 1))) && r38) && (decide (r23.2 = 270))) (G2 r28.2)) rfl rfl ⟨Gv [] rfl rfl rfl .sct trivial (fun hc => G5 rfl rfl) rfl, trivial⟩ ?_
 refine Ge (u := .opt ((((((((decide (v36 = 0)) && (decide (r7.1 = 1))) && (decide (r10.1 = 0))) && (decide (r13.1 = 1))) && (decide (r16.2.1 = 1))) && (decide ((r16.1.length : Int) = 1))) && r38) && (decide (r23.2 = 270))) (BL (decide (r28.2 = 271)))) rfl rfl ⟨Gv [(131, G2 r28.2)] rfl rfl rfl .sct ⟨.all id, trivial⟩ (fun hc => Jb rfl rfl rfl) rfl, trivial⟩ ?_
 refine Ge (u := BL (((((((((decide (v36 = 0)) && (decide (r7.1 = 1))) && (decide (r10.1 = 0))) && (decide (r13.1 = 1))) && (decide (r16.2.1 = 1))) && (decide ((r16.1.length : Int) = 1))) && r38) && (decide (r23.2 = 270))) && (decide (r28.2 = 271)))) rfl rfl ⟨Gi (Jc rfl rfl rfl rfl) rfl, trivial⟩ ?_
 refine Ge (u := BL (((((((((decide (v36 = 0)) && (decide (r7.1 = 1))) && (decide (r10.1 = 0))) && (decide (r13.1 = 1))) && (decide (r16.2.1 = 1))) && (decide ((r16.1.length : Int) = 1))) && r38) && (decide (r23.2 = 270))) && (decide (r28.2 = 271)))) rfl rfl ⟨Gi (G5 rfl rfl) rfl, trivial⟩ ?_
 refine Ge (u := .opt (((((((((decide (v36 = 0)) && (decide (r7.1 = 1))) && (decide (r10.1 = 0))) && (decide (r13.1 = 1))) && (decide (r16.2.1 = 1))) && (decide ((r16.1.length : Int) = 1))) && r38) && (decide (r23.2 = 270))) && (decide (r28.2 = 271))) (G2 r31.1)) rfl rfl ⟨Gv [] rfl rfl rfl .sct trivial (fun hc => G5 rfl rfl) rfl, trivial⟩ ?_
 refine Ge (u := .opt (((((((((decide (v36 = 0)) && (decide (r7.1 = 1))) && (decide (r10.1 = 0))) && (decide (r13.1 = 1))) && (decide (r16.2.1 = 1))) && (decide ((r16.1.length : Int) = 1))) && r38) && (decide (r23.2 = 270))) && (decide (r28.2 = 271))) (BL (decide (r31.1 = 4)))) rfl rfl ⟨Gv [(135, G2 r31.1)] rfl rfl rfl .sct ⟨.all id, trivial⟩ (fun hc => Jb rfl rfl rfl) rfl, trivial⟩ ?_
 refine Ge (u := BL ((((((((((decide (v36 = 0)) && (decide (r7.1 = 1))) && (decide (r10.1 = 0))) && (decide (r13.1 = 1))) && (decide (r16.2.1 = 1))) && (decide ((r16.1.length : Int) = 1))) && r38) && (decide (r23.2 = 270))) && (decide (r28.2 = 271))) && (decide (r31.1 = 4)))) rfl rfl ⟨Gi (Jc rfl rfl rfl rfl) rfl, trivial⟩ ?_
 refine Ge (u := BL ((((((((((decide (v36 = 0)) && (decide (r7.1 = 1))) && (decide (r10.1 = 0))) && (decide (r13.1 = 1))) && (decide (r16.2.1 = 1))) && (decide ((r16.1.length : Int) = 1))) && r38) && (decide (r23.2 = 270))) && (decide (r28.2 = 271))) && (decide (r31.1 = 4)))) rfl rfl ⟨Gi (G5 rfl rfl) rfl, trivial⟩ ?_
 refine Ge (u := .opt ((((((((((decide (v36 = 0)) && (decide (r7.1 = 1))) && (decide (r10.1 = 0))) && (decide (r13.1 = 1))) && (decide (r16.2.1 = 1))) && (decide ((r16.1.length : Int) = 1))) && r38) && (decide (r23.2 = 270))) && (decide (r28.2 = 271))) && (decide (r31.1 = 4))) (LS 2 G7.av [(G7.mk 0 2), (G7.mk 1 3)])) rfl rfl ⟨Gv [] rfl rfl rfl .sct trivial (fun hc => G5 rfl rfl) rfl, trivial⟩ ?_
 refine Ge (u := .opt ((((((((((decide (v36 = 0)) && (decide (r7.1 = 1))) && (decide (r10.1 = 0))) && (decide (r13.1 = 1))) && (decide (r16.2.1 = 1))) && (decide ((r16.1.length : Int) = 1))) && r38) && (decide (r23.2 = 270))) && (decide (r28.2 = 271))) && (decide (r31.1 = 4))) (.dptr [G2 y39.Load, G2 y39.Discharge])) rfl rfl ⟨Gv [(139, LS 2 G7.av [(G7.mk 0 2), (G7.mk 1 3)])] rfl rfl rfl .sct ⟨.all id, trivial⟩ (fun hc => (match Jh (bif_t hc hy39) with | ⟨_, hm_, hy_⟩ => Gw (f := G7.av) (xs := [(G7.mk 0 2), (G7.mk 1 3)]) (y := y39) rfl rfl rfl H5 hy_ hm_)) rfl, trivial⟩ ?_
 refine Ge (u := .opt ((((((((((decide (v36 = 0)) && (decide (r7.1 = 1))) && (decide (r10.1 = 0))) && (decide (r13.1 = 1))) && (decide (r16.2.1 = 1))) && (decide ((r16.1.length : Int) = 1))) && r38) && (decide (r23.2 = 270))) && (decide (r28.2 = 271))) && (decide (r31.1 = 4))) (.agg [G2 y39.Load, G2 y39.Discharge])) rfl rfl ⟨Gv [(140, .dptr [G2 y39.Load, G2 y39.Discharge])] rfl rfl rfl .sct ⟨.all id, trivial⟩ (fun hc => Gf Hf rfl rfl rfl) rfl, trivial⟩ ?_
 refine Ge (u := .opt ((((((((((decide (v36 = 0)) && (decide (r7.1 = 1))) && (decide (r10.1 = 0))) && (decide (r13.1 = 1))) && (decide (r16.2.1 = 1))) && (decide ((r16.1.length : Int) = 1))) && r38) && (decide (r23.2 = 270))) && (decide (r28.2 = 271))) && (decide (r31.1 = 4))) (LS 2 G7.av [(G7.mk 0 2), (G7.mk 1 3)])) rfl rfl ⟨Gv [] rfl rfl rfl .sct trivial (fun hc => G5 rfl rfl) rfl, trivial⟩ ?_
 refine Ge (u := .opt ((((((((((decide (v36 = 0)) && (decide (r7.1 = 1))) && (decide (r10.1 = 0))) && (decide (r13.1 = 1))) && (decide (r16.2.1 = 1))) && (decide ((r16.1.length : Int) = 1))) && r38) && (decide (r23.2 = 270))) && (decide (r28.2 = 271))) && (decide (r31.1 = 4))) (.dptr [G2 y40.Load, G2 y40.Discharge])) rfl rfl ⟨Gv [(142, LS 2 G7.av [(G7.mk 0 2), (G7.mk 1 3)])] rfl rfl rfl .sct ⟨.all id, trivial⟩ (fun hc => (match Jh (bif_t hc hy40) with | ⟨_, hm_, hy_⟩ => Gw (f := G7.av) (xs := [(G7.mk 0 2), (G7.mk 1 3)]) (y := y40) rfl rfl rfl H5 hy_ hm_)) rfl, trivial⟩ ?_
 refine Ge (u := .opt ((((((((((decide (v36 = 0)) && (decide (r7.1 = 1))) && (decide (r10.1 = 0))) && (decide (r13.1 = 1))) && (decide (r16.2.1 = 1))) && (decide ((r16.1.length : Int) = 1))) && r38) && (decide (r23.2 = 270))) && (decide (r28.2 = 271))) && (decide (r31.1 = 4))) (.agg [G2 y40.Load, G2 y40.Discharge])) rfl rfl ⟨Gv [(143, .dptr [G2 y40.Load, G2 y40.Discharge])] rfl rfl rfl .sct ⟨.all id, trivial⟩ (fun hc => Gf Hf rfl rfl rfl) rfl, trivial⟩ ?_
 refine Ge (u := .opt ((((((((((decide (v36 = 0)) && (decide (r7.1 = 1))) && (decide (r10.1 = 0))) && (decide (r13.1 = 1))) && (decide (r16.2.1 = 1))) && (decide ((r16.1.length : Int) = 1))) && r38) && (decide (r23.2 = 270))) && (decide (r28.2 = 271))) && (decide (r31.1 = 4))) (BL r41)) rfl rfl ⟨Gv [(141, .agg [G2 y39.Load, G2 y39.Discharge]), (144, .agg [G2 y40.Load, G2 y40.Discharge])] rfl rfl rfl .sct ⟨.all id, .all id, trivial⟩ (fun hc => Gu (args := [.agg [G2 y39.Load, G2 y39.Discharge], .agg [G2 y40.Load, G2 y40.Discharge]]) rfl (M_bound_Cross_w y39 y40 r41 (bif_t hc hr41)) tf_call_8 ⟨rfl, rfl, rfl, rfl, trivial⟩) rfl, trivial⟩ ?_
 refine Ge (u := BL (((((((((((decide (v36 = 0)) && (decide (r7.1 = 1))) && (decide (r10.1 = 0))) && (decide (r13.1 = 1))) && (decide (r16.2.1 = 1))) && (decide ((r16.1.length : Int) = 1))) && r38) && (decide (r23.2 = 270))) && (decide (r28.2 = 271))) && (decide (r31.1 = 4))) && r41)) rfl rfl ⟨Gi (Jc rfl rfl rfl rfl) rfl, trivial⟩ ?_
 refine Ge (u := BL (((((((((((decide (v36 = 0)) && (decide (r7.1 = 1))) && (decide (r10.1 = 0))) && (decide (r13.1 = 1))) && (decide (r16.2.1 = 1))) && (decide ((r16.1.length : Int) = 1))) && r38) && (decide (r23.2 = 270))) && (decide (r28.2 = 271))) && (decide (r31.1 = 4))) && r41)) rfl rfl ⟨Gi (G5 rfl rfl) rfl, trivial⟩ ?_
 refine Ge (u := .opt (((((((((((decide (v36 = 0)) && (decide (r7.1 = 1))) && (decide (r10.1 = 0))) && (decide (r13.1 = 1))) && (decide (r16.2.1 = 1))) && (decide ((r16.1.length : Int) = 1))) && r38) && (decide (r23.2 = 270))) && (decide (r28.2 = 271))) && (decide (r31.1 = 4))) && r41) (LS 2 G7.av [(G7.mk 0 2), (G7.mk 1 3)])) rfl rfl ⟨Gv [] rfl rfl rfl .sct trivial (fun hc => G5 rfl rfl) rfl, trivial⟩ ?_
 refine Ge (u := .opt (((((((((((decide (v36 = 0)) && (decide (r7.1 = 1))) && (decide (r10.1 = 0))) && (decide (r13.1 = 1))) && (decide (r16.2.1 = 1))) && (decide ((r16.1.length : Int) = 1))) && r38) && (decide (r23.2 = 270))) && (decide (r28.2 = 271))) && (decide (r31.1 = 4))) && r41) (.dptr [G2 y42.Load, G2 y42.Discharge])) rfl rfl ⟨Gv [(148, LS 2 G7.av [(G7.mk 0 2), (G7.mk 1 3)])] rfl rfl rfl .sct ⟨.all id, trivial⟩ (fun hc => (match Jh (bif_t hc hy42) with | ⟨_, hm_, hy_⟩ => Gw (f := G7.av) (xs := [(G7.mk 0 2), (G7.mk 1 3)]) (y := y42) rfl rfl rfl H5 hy_ hm_)) rfl, trivial⟩ ?_
 refine Ge (u := .opt (((((((((((decide (v36 = 0)) && (decide (r7.1 = 1))) && (decide (r10.1 = 0))) && (decide (r13.1 = 1))) && (decide (r16.2.1 = 1))) && (decide ((r16.1.length : Int) = 1))) && r38) && (decide (r23.2 = 270))) && (decide (r28.2 = 271))) && (decide (r31.1 = 4))) && r41) (.agg [G2 y42.Load, G2 y42.Discharge])) rfl rfl ⟨Gv [(149, .dptr [G2 y42.Load, G2 y42.Discharge])] rfl rfl rfl .sct ⟨.all id, trivial⟩ (fun hc => Gf Hf rfl rfl rfl) rfl, trivial⟩ ?_
 refine Ge (u := .opt (((((((((((decide (v36 = 0)) && (decide (r7.1 = 1))) && (decide (r10.1 = 0))) && (decide (r13.1 = 1))) && (decide (r16.2.1 = 1))) && (decide ((r16.1.length : Int) = 1))) && r38) && (decide (r23.2 = 270))) && (decide (r28.2 = 271))) && (decide (r31.1 = 4))) && r41) (LS 2 G7.av [(G7.mk 0 2), (G7.mk 1 3)])) rfl rfl ⟨Gv [] rfl rfl rfl .sct trivial (fun hc => G5 rfl rfl) rfl, trivial⟩ ?_
 refine Ge (u := .opt (((((((((((decide (v36 = 0)) && (decide (r7.1 = 1))) && (decide (r10.1 = 0))) && (decide (r13.1 = 1))) && (decide (r16.2.1 = 1))) && (decide ((r16.1.length : Int) = 1))) && r38) && (decide (r23.2 = 270))) && (decide (r28.2 = 271))) && (decide (r31.1 = 4))) && r41) (.dptr [G2 y43.Load, G2 y43.Discharge])) rfl rfl ⟨Gv [(151, LS 2 G7.av [(G7.mk 0 2), (G7.mk 1 3)])] rfl rfl rfl .sct ⟨.all id, trivial⟩ (fun hc => (match Jh (bif_t hc hy43) with | ⟨_, hm_, hy_⟩ => Gw (f := G7.av) (xs := [(G7.mk 0 2), (G7.mk 1 3)]) (y := y43) rfl rfl rfl H5 hy_ hm_)) rfl, trivial⟩ ?_
 refine Ge (u := .opt (((((((((((decide (v36 = 0)) && (decide (r7.1 = 1))) && (decide (r10.1 = 0))) && (decide (r13.1 = 1))) && (decide (r16.2.1 = 1))) && (decide ((r16.1.length : Int) = 1))) && r38) && (decide (r23.2 = 270))) && (decide (r28.2 = 271))) && (decide (r31.1 = 4))) && r41) (.agg [G2 y43.Load, G2 y43.Discharge])) rfl rfl ⟨Gv [(152, .dptr [G2 y43.Load, G2 y43.Discharge])] rfl rfl rfl .sct ⟨.all id, trivial⟩ (fun hc => Gf Hf rfl rfl rfl) rfl, trivial⟩ ?_
 refine Ge (u := .opt (((((((((((decide (v36 = 0)) && (decide (r7.1 = 1))) && (decide (r10.1 = 0))) && (decide (r13.1 = 1))) && (decide (r16.2.1 = 1))) && (decide ((r16.1.length : Int) = 1))) && r38) && (decide (r23.2 = 270))) && (decide (r28.2 = 271))) && (decide (r31.1 = 4))) && r41) (BL r44)) rfl rfl ⟨Gv [(150, .agg [G2 y42.Load, G2 y42.Discharge]), (153, .agg [G2 y43.Load, G2 y43.Discharge])] rfl rfl rfl .sct ⟨.all id, .all id, trivial⟩ (fun hc => Gu (args := [.agg [G2 y42.Load, G2 y42.Discharge], .agg [G2 y43.Load, G2 y43.Discharge]]) rfl (M_bound_Cross_w y42 y43 r44 (bif_t hc hr44)) tf_call_8 ⟨rfl, rfl, rfl, rfl, trivial⟩) rfl, trivial⟩ ?_
 refine Ge (u := .opt (((((((((((decide (v36 = 0)) && (decide (r7.1 = 1))) && (decide (r10.1 = 0))) && (decide (r13.1 = 1))) && (decide (r16.2.1 = 1))) && (decide ((r16.1.length : Int) = 1))) && r38) && (decide (r23.2 = 270))) && (decide (r28.2 = 271))) && (decide (r31.1 = 4))) && r41) (BL (!r44))) rfl rfl ⟨Gv [(154, BL r44)] rfl rfl rfl .sct ⟨.all id, trivial⟩ (fun hc => A_not (b := r44) rfl rfl) rfl, trivial⟩ ?_
 refine Ge (u := BL ((((((((((((decide (v36 = 0)) && (decide (r7.1 = 1))) && (decide (r10.1 = 0))) && (decide (r13.1 = 1))) && (decide (r16.2.1 = 1))) && (decide ((r16.1.length : Int) = 1))) && r38) && (decide (r23.2 = 270))) && (decide (r28.2 = 271))) && (decide (r31.1 = 4))) && r41) && (!r44))) rfl rfl ⟨Gi (Jc rfl rfl rfl rfl) rfl, trivial⟩ ?_
 refine Ge (u := BL ((((((((((((decide (v36 = 0)) && (decide (r7.1 = 1))) && (decide (r10.1 = 0))) && (decide (r13.1 = 1))) && (decide (r16.2.1 = 1))) && (decide ((r16.1.length : Int) = 1))) && r38) && (decide (r23.2 = 270))) && (decide (r28.2 = 271))) && (decide (r31.1 = 4))) && r41) && (!r44))) rfl rfl ⟨Gi (G5 rfl rfl) rfl, trivial⟩ ?_
 refine Ge (u := .opt ((((((((((((decide (v36 = 0)) && (decide (r7.1 = 1))) && (decide (r10.1 = 0))) && (decide (r13.1 = 1))) && (decide (r16.2.1 = 1))) && (decide ((r16.1.length : Int) = 1))) && r38) && (decide (r23.2 = 270))) && (decide (r28.2 = 271))) && (decide (r31.1 = 4))) && r41) && (!r44)) (LS 9 Box.av [(Box.mk 1 ByteArray.empty 20 false 0 0 2 0 false), (Box.mk 2 ByteArray.empty 20 false 0 0 2 0 false), (Box.mk 3 ByteArray.empty 20 false 0 0 2 0 false), (Box.mk 4 ByteArray.empty 20 false 0 1 3 0 false)])) rfl rfl ⟨Gv [] rfl rfl rfl .sct trivial (fun hc => G5 rfl rfl) rfl, trivial⟩ ?_
 refine Ge (u := .opt ((((((((((((decide (v36 = 0)) && (decide (r7.1 = 1))) && (decide (r10.1 = 0))) && (decide (r13.1 = 1))) && (decide (r16.2.1 = 1))) && (decide ((r16.1.length : Int) = 1))) && r38) && (decide (r23.2 = 270))) && (decide (r28.2 = 271))) && (decide (r31.1 = 4))) && r41) && (!r44)) (LS 4 G0.av r45)) rfl rfl ⟨Gv [(158, LS 9 Box.av [(Box.mk 1 ByteArray.empty 20 false 0 0 2 0 false), (Box.mk 2 ByteArray.empty 20 false 0 0 2 0 false), (Box.mk 3 ByteArray.empty 20 false 0 0 2 0 false), (Box.mk 4 ByteArray.empty 20 false 0 1 3 0 false)])] rfl rfl rfl .sct ⟨.all id, trivial⟩ (fun hc => Gu (args := [LS 9 Box.av [(Box.mk 1 ByteArray.empty 20 false 0 0 2 0 false), (Box.mk 2 ByteArray.empty 20 false 0 0 2 0 false), (Box.mk 3 ByteArray.empty 20 false 0 0 2 0 false), (Box.mk 4 ByteArray.empty 20 false 0 1 3 0 false)]]) rfl (S_bound_Groups_w.down [(Box.mk 1 ByteArray.empty 20 false 0 0 2 0 false), (Box.mk 2 ByteArray.empty 20 false 0 0 2 0 false), (Box.mk 3 ByteArray.empty 20 false 0 0 2 0 false), (Box.mk 4 ByteArray.empty 20 false 0 1 3 0 false)] r45 (bif_t hc hr45)) tf_call_13 ⟨rfl, rfl, trivial⟩) rfl, trivial⟩ ?_
 refine Ge (u := .opt ((((((((((((decide (v36 = 0)) && (decide (r7.1 = 1))) && (decide (r10.1 = 0))) && (decide (r13.1 = 1))) && (decide (r16.2.1 = 1))) && (decide ((r16.1.length : Int) = 1))) && r38) && (decide (r23.2 = 270))) && (decide (r28.2 = 271))) && (decide (r31.1 = 4))) && r41) && (!r44)) (G2 (r45.length : Int))) rfl rfl ⟨Gv [(159, LS 4 G0.av r45)] rfl rfl rfl .sct ⟨.all id, trivial⟩ (fun hc => Jz (f := G0.av) (xs := r45) Gs rfl rfl) rfl, trivial⟩ ?_
 refine Ge (u := .opt ((((((((((((decide (v36 = 0)) && (decide (r7.1 = 1))) && (decide (r10.1 = 0))) && (decide (r13.1 = 1))) && (decide (r16.2.1 = 1))) && (decide ((r16.1.length : Int) = 1))) && r38) && (decide (r23.2 = 270))) && (decide (r28.2 = 271))) && (decide (r31.1 = 4))) && r41) && (!r44)) (BL (decide ((r45.length : Int) = 2)))) rfl rfl ⟨Gv [(160, G2 (r45.length : Int))] rfl rfl rfl .sct ⟨.all id, trivial⟩ (fun hc => Jb rfl rfl rfl) rfl, trivial⟩ ?_
 refine Ge (u := BL (((((((((((((decide (v36 = 0)) && (decide (r7.1 = 1))) && (decide (r10.1 = 0))) && (decide (r13.1 = 1))) && (decide (r16.2.1 = 1))) && (decide ((r16.1.length : Int) = 1))) && r38) && (decide (r23.2 = 270))) && (decide (r28.2 = 271))) && (decide (r31.1 = 4))) && r41) && (!r44)) && (decide ((r45.length : Int) = 2)))) rfl rfl ⟨Gi (Jc rfl rfl rfl rfl) rfl, trivial⟩ ?_
 refine Ge (u := BL (((((((((((((decide (v36 = 0)) && (decide (r7.1 = 1))) && (decide (r10.1 = 0))) && (decide (r13.1 = 1))) && (decide (r16.2.1 = 1))) && (decide ((r16.1.length : Int) = 1))) && r38) && (decide (r23.2 = 270))) && (decide (r28.2 = 271))) && (decide (r31.1 = 4))) && r41) && (!r44)) && (decide ((r45.length : Int) = 2)))) rfl rfl ⟨Gi (Ga rfl rfl) rfl, trivial⟩ ?_
 refine Q3 ?_
 refine hK32 _ _ ?_
 refine Gt ?_
 exact ⟨[BL (((((((((((((decide (v36 = 0)) && (decide (r7.1 = 1))) && (decide (r10.1 = 0))) && (decide (r13.1 = 1))) && (decide (r16.2.1 = 1))) && (decide ((r16.1.length : Int) = 1))) && r38) && (decide (r23.2 = 270))) && (decide (r28.2 = 271))) && (decide (r31.1 = 4))) && r41) && (!r44)) && (decide ((r45.length : Int) = 2)))], [], trivial, rfl, ⟨⟨_, rfl, .conv (.same rfl)⟩, trivial⟩, rfl, congrArg (fun r : Bool => (BL r : AV)) (Option.some.inj h)⟩

def M_twistlocklaw27_BoundFamilies (F : Nat) (l : List law07_Place) (covers : Int) (items : List law23_Item) (tiers : Int) : Option Bool :=
 bnd (natIn (min (l.length : Int) 4) l.length) fun m3 =>
 bnd (M_twistlocklaw07_Built (l.take m3) covers) fun r4 =>
 bnd (M_twistlocklaw23_Voyage F r4 items 6 10) fun r6 =>
 bnd (M_bound_Find F r4 r6.1) fun r8 =>
 bif decide (r8.2.2 ≠ 0) then
 (some false)
 else
 (need (decide ((([] : List G8).length + r4.Columns.length) * 112 ≤ 140737488355328 ∧ ([] : List G8).length + r4.Columns.length ≤ maxLen)) <|
  chk (tiers) fun v15 =>
  bnd (rem64 v15 10) fun v16 =>
  chk (1 + v16) fun v17 =>
  need (decide (((([] : List G8) ++ r4.Columns).length + [(G8.mk 30 0 false v17 0 0 0 0 [] 0 0 0)].length) * 112 ≤ 140737488355328 ∧ (([] : List G8) ++ r4.Columns).length + [(G8.mk 30 0 false v17 0 0 0 0 [] 0 0 0)].length ≤ maxLen)) <|
  each (fun y22 i22 (s22 : Int × (AMap G7 Int)) nx22 =>
   bnd (M_bound_Family F r4 r6.1 y22) fun r28 =>
   bnd (M_bound_Family F (Ship.mk ((([] : List G8) ++ r4.Columns) ++ [(G8.mk 30 0 false v17 0 0 0 0 [] 0 0 0)]) r4.Covers r4.Light r4.Rows r4.Frames r4.Tanks r4.G4) r6.1 y22) fun r30 =>
   chk (r28.2 + r30.2) fun v33 =>
   bif (((decide (v33 ≠ 0)) || (decide (r28.1 < 1))) || (decide (r28.1 < r30.1))) then
   (some false)
   else
   (chk (s22.1 - r28.1) fun v36 =>
    each (fun y38 i38 (s38 : (AMap G7 Int)) nx38 =>
     bnd (some (AMap.get s38 y38 0)) fun v44 =>
     chk (v44 + 1) fun v45 =>
     bnd (some (AMap.get (AMap.put s38 y38 v45) y38 0)) fun v48 =>
     bif decide (1 < v48) then
     (some false)
     else
     (bnd (natIn ((i38 + 1 : Nat) : Int) y22.length) fun m52 =>
      each (fun y69 i69 (s69 : Unit) nx69 =>
       bnd (M_bound_Cross y38 y69) fun r75 =>
       bif (!r75) then
       (some false)
       else
       (nx69 ()))
      (fun (s69 : Unit) =>
       bnd (natIn (i38 : Int) y22.length) fun m78 =>
       need (decide ((([] : List G7).length + (y22.take m78).length) * 16 ≤ 140737488355328 ∧ ([] : List G7).length + (y22.take m78).length ≤ maxLen)) <|
       bnd (natIn ((i38 + 1 : Nat) : Int) y22.length) fun m80 =>
       need (decide (((([] : List G7) ++ (y22.take m78)).length + (y22.drop m80).length) * 16 ≤ 140737488355328 ∧ (([] : List G7) ++ (y22.take m78)).length + (y22.drop m80).length ≤ maxLen)) <|
       bnd (M_bound_Family F r4 r6.1 ((([] : List G7) ++ (y22.take m78)) ++ (y22.drop m80))) fun r82 =>
       bif ((decide (r82.2 ≠ 0)) || (decide (r28.1 < r82.1))) then
       (some false)
       else
       (nx38 (AMap.put s38 y38 v45))) (y22.drop m52) 0 ()))
    (fun (s38 : (AMap G7 Int)) =>
     nx22 (v36, s38)) y22 0 s22.2))
  (fun (s22 : Int × (AMap G7 Int)) =>
   bnd (bif decide (s22.1 = 0) then M_twistlocklaw27_awake F else some default) fun r86 =>
   some ((decide (s22.1 = 0)) && r86)) r8.1 0 (r8.2.1, (AMap.empty : AMap G7 Int)))
theorem M_twistlocklaw27_BoundFamilies_w (F : Nat) (l : List law07_Place) (covers : Int) (items : List law23_Item) (tiers : Int) (r : Bool) (h : M_twistlocklaw27_BoundFamilies F l covers items tiers = some r) : Pure Try.prog 3 [LS 4 law07_Place.av l, .sc (.int .u32 covers), LS 6 law23_Item.av items, U8 tiers] (· = BL r) := by
 unfold M_twistlocklaw27_BoundFamilies at h
 refine H0 [.tmp 8] Try.func3 rfl rfl ?_
 refine G6 fun K1 hK1 => G3 ?_
 refine G1 (u := BL false) (Ga rfl rfl) ?_
 refine G9 (hK1 _ _ ?_)
 refine G6 fun K2 hK2 => G3 ?_
 refine G1 (u := LS 4 law07_Place.av l) (G5 rfl rfl) ?_
 refine G1 (u := LS 4 law07_Place.av l) (G5 rfl rfl) ?_
 refine H9 (f := law07_Place.av) (xs := l) tf_slice_22 rfl rfl (fun hm31 => ?_) rfl rfl rfl
 refine G1 (u := G2 (min (l.length : Int) 4)) (A_min rfl rfl rfl) ?_
 obtain ⟨m3, hm3, h⟩ := Gg h
 refine G1 (u := LS 4 law07_Place.av (l.take m3)) (A_sliceHiM (f := law07_Place.av) (xs := l) rfl rfl rfl tf_slice_22 (natIn_out hm3)) ?_
 refine G1 (u := .sc (.int .u32 covers)) (G5 rfl rfl) ?_
 obtain ⟨r4, hr4, h⟩ := Gg h
 refine G1 (u := .agg (Ship.cs r4)) (Gu (args := [LS 4 law07_Place.av (l.take m3), .sc (.int .u32 covers)]) rfl (M_twistlocklaw07_Built_w (l.take m3) covers r4 hr4) tf_call_4 ⟨rfl, rfl, rfl, rfl, trivial⟩) ?_
 refine G1 (u := .ptr 1001 0) (H8 1001 13 tf_zsize_35 rfl rfl) ?_
 refine H6 (u := .junk) (Gz (u := .agg (Ship.cs r4)) (ds := (Ship.cs r4)) tf_size_35 rfl rfl rfl rfl rfl rfl rfl rfl) ?_
 refine G9 (hK2 _ _ ?_)
 refine Gq [(2, LS 6 law23_Item.av items), (3, U8 tiers), (9, .dptr (Ship.cs r4))] [] 1001 rfl rfl rfl trivial rfl (by exact ⟨.conv (.same rfl), .conv (.same rfl), .ptr, trivial⟩) ?_
 refine G6 fun K5 hK5 => G3 ?_
 refine G1 (u := .agg (Ship.cs r4)) (Gf Hh rfl rfl rfl) ?_
 refine G1 (u := LS 6 law23_Item.av items) (G5 rfl rfl) ?_
 obtain ⟨r6, hr6, h⟩ := Gg h
 refine G1 (u := .tup [LS 9 Box.av r6.1, .agg [LS 1 (LS 4 Gb.av) r6.2.States, LS 1 (LS 1 G2) r6.2.Water]]) (Gu (args := [.agg (Ship.cs r4), LS 6 law23_Item.av items, G2 6, G2 10]) rfl (M_twistlocklaw23_Voyage_w F r4 items 6 10 r6 hr6) tf_call_5 ⟨rfl, rfl, rfl, rfl, rfl, rfl, rfl, rfl, trivial⟩) ?_
 refine G1 (u := .tup [LS 9 Box.av r6.1, .agg [LS 1 (LS 4 Gb.av) r6.2.States, LS 1 (LS 1 G2) r6.2.Water]]) (G5 rfl rfl) ?_
 refine G1 (u := LS 9 Box.av r6.1) (Gx rfl rfl rfl) ?_
 refine G1 (u := .agg [LS 1 (LS 4 Gb.av) r6.2.States, LS 1 (LS 1 G2) r6.2.Water]) (Gx rfl rfl rfl) ?_
 refine G1 (u := .ptr 1002 0) (H8 1002 2 tf_zsize_41 rfl rfl) ?_
 refine G1 (u := LS 9 Box.av r6.1) (Ga rfl rfl) ?_
 refine H6 (u := .junk) (Gz (u := .agg [LS 1 (LS 4 Gb.av) r6.2.States, LS 1 (LS 1 G2) r6.2.Water]) (ds := [LS 1 (LS 4 Gb.av) r6.2.States, LS 1 (LS 1 G2) r6.2.Water]) tf_size_41 rfl rfl rfl rfl rfl rfl rfl rfl) ?_
 refine G9 (hK5 _ _ ?_)
 refine Gq [(3, U8 tiers), (9, .dptr (Ship.cs r4)), (10, LS 9 Box.av r6.1)] [] 1002 rfl rfl rfl trivial rfl (by exact ⟨.conv (.same rfl), .conv (.same rfl), .conv (.same rfl), trivial⟩) ?_
 refine G6 fun K7 hK7 => G3 ?_
 refine G1 (u := .agg (Ship.cs r4)) (Gf Hh rfl rfl rfl) ?_
 refine G1 (u := LS 9 Box.av r6.1) (G5 rfl rfl) ?_
 obtain ⟨r8, hr8, h⟩ := Gg h
 refine G1 (u := .tup [LS 1 (LS 2 G7.av) r8.1, G2 r8.2.1, G2 r8.2.2]) (Gu (args := [.agg (Ship.cs r4), LS 9 Box.av r6.1]) rfl (M_bound_Find_w F r4 r6.1 r8 hr8) tf_call_6 ⟨rfl, rfl, rfl, rfl, trivial⟩) ?_
 refine G1 (u := .tup [LS 1 (LS 2 G7.av) r8.1, G2 r8.2.1, G2 r8.2.2]) (G5 rfl rfl) ?_
 refine G1 (u := LS 1 (LS 2 G7.av) r8.1) (Gx rfl rfl rfl) ?_
 refine G1 (u := G2 r8.2.1) (Gx rfl rfl rfl) ?_
 refine G1 (u := G2 r8.2.2) (Gx rfl rfl rfl) ?_
 refine G1 (u := LS 1 (LS 2 G7.av) r8.1) (Ga rfl rfl) ?_
 refine G1 (u := G2 r8.2.1) (Ga rfl rfl) ?_
 refine G1 (u := G2 r8.2.2) (Ga rfl rfl) ?_
 refine G9 (hK7 _ _ ?_)
 refine G6 (fun K9 hK9 => ?_)
 refine G6 fun K10 hK10 => G3 ?_
 refine G1 (u := G2 r8.2.2) (G5 rfl rfl) ?_
 refine G1 (u := BL (decide (r8.2.2 ≠ 0))) (A_neq rfl rfl rfl) ?_
 refine G9 (hK10 _ _ ?_)
 refine Gm rfl (fun hb => ?_) (fun hb => ?_)
 ·
  replace h := bif_t hb h
  refine G6 fun K11 hK11 => G3 ?_
  refine G1 (u := BL false) (Ga rfl rfl) ?_
  refine G9 (hK11 _ _ ?_)
  refine Gt ?_
  exact ⟨[BL false], [], trivial, rfl, ⟨⟨_, rfl, .conv (.same rfl)⟩, trivial⟩, rfl, congrArg (fun r : Bool => (BL r : AV)) (Option.some.inj h)⟩
 ·
  replace h := bif_f hb h
  refine Gp ?_
  refine hK9 _ _ ?_
  refine G6 fun K12 hK12 => G3 ?_
  refine G1 (u := .agg (Ship.cs r4)) (Gf Hh rfl rfl rfl) ?_
  refine G1 (u := .ptr 1003 0) (H8 1003 13 tf_zsize_35 rfl rfl) ?_
  refine H6 (u := .junk) (Gz (u := .agg (Ship.cs r4)) (ds := (Ship.cs r4)) tf_size_35 rfl rfl rfl rfl rfl rfl rfl rfl) ?_
  refine G9 (hK12 _ _ ?_)
  refine G6 fun K13 hK13 => G3 ?_
  refine G1 (u := OW 40000052 12 G8.av ([] : List G8)) (A_ownLit 40000052 50 12 rfl rfl Ha) ?_
  refine G1 (u := .dptr (Ship.cs r4)) (Gd Hb rfl rfl rfl) ?_
  refine G1 (u := LS 12 G8.av r4.Columns) (Gn Hm rfl rfl rfl) ?_
  obtain ⟨ha14, h⟩ := He h
  refine G1 (u := OW 40000052 12 G8.av (([] : List G8) ++ r4.Columns)) (A_appendS (f := G8.av) (xs := ([] : List G8)) (ys := r4.Columns) rfl rfl rfl rfl Ha tf_elem_50 ha14 (fun _ => rfl) (.inl rfl)) ?_
  refine G1 (u := U8 tiers) (G5 rfl rfl) ?_
  obtain ⟨v15, hv15, h⟩ := Gy h
  refine G1 (u := G2 v15) (A_conv Jo tf_int_5 hv15 rfl rfl) ?_
  obtain ⟨v16, hv16, h⟩ := Gg h
  refine G1 (u := G2 v16) (A_rem (rem64_out hv16).1 (rem64_out hv16).2 rfl rfl rfl) ?_
  obtain ⟨v17, hv17, h⟩ := Gy h
  refine G1 (u := G2 v17) (H7 hv17 rfl rfl rfl) ?_
  refine G1 (u := .agg [G2 30, G2 0, BL false, G2 v17, G2 0, G2 0, G2 0, G2 0, LS 1 G2 ([] : List Int), G2 0, G2 0, G2 0]) (Hn (cs := [G2 30, G2 0, BL false, G2 v17, G2 0, G2 0, G2 0, G2 0, LS 1 G2 ([] : List Int), G2 0, G2 0, G2 0]) [(0, 1), (1, 1), (2, 1), (3, 1), (4, 1), (5, 1), (6, 1), (7, 1), (8, 1), (9, 1), (10, 1), (11, 1)] [G2 0, G2 0, BL false, G2 0, G2 0, G2 0, G2 0, G2 0, LS 1 G2 ([] : List Int), G2 0, G2 0, G2 0] [.int .i64 0, .int .i64 0, .bool false, .int .i64 0, .int .i64 0, .int .i64 0, .int .i64 0, .int .i64 0, .slice none 0 0, .int .i64 0, .int .i64 0, .int .i64 0] tf_places_50 tf_zero_50 ⟨.inl rfl, .inl rfl, .inl rfl, .inl rfl, .inl rfl, .inl rfl, .inl rfl, .inl rfl, .inr ⟨_, rfl, rfl⟩, .inl rfl, .inl rfl, .inl rfl, trivial⟩ rfl rfl) ?_
  refine G1 (u := LS 12 G8.av ([(G8.mk 30 0 false v17 0 0 0 0 [] 0 0 0)])) (H1 (xs := [.agg [G2 30, G2 0, BL false, G2 v17, G2 0, G2 0, G2 0, G2 0, LS 1 G2 ([] : List Int), G2 0, G2 0, G2 0]]) rfl ⟨rfl, rfl, trivial⟩ Ha Q1 rfl rfl rfl rfl) ?_
  obtain ⟨ha18, h⟩ := He h
  refine G1 (u := OW 40000052 12 G8.av ((([] : List G8) ++ r4.Columns) ++ [(G8.mk 30 0 false v17 0 0 0 0 [] 0 0 0)])) (Hs (f := G8.av) (xs := (([] : List G8) ++ r4.Columns)) (ys := [(G8.mk 30 0 false v17 0 0 0 0 [] 0 0 0)]) rfl rfl rfl rfl Ha tf_elem_50 ha18 (fun _ => rfl) (.inl rfl) rfl) ?_
  refine G1 (u := .ptr 1003 0) (Hi Hb rfl rfl) ?_
  refine H6 (u := .junk) (Gz (u := OW 40000052 12 G8.av ((([] : List G8) ++ r4.Columns) ++ [(G8.mk 30 0 false v17 0 0 0 0 [] 0 0 0)])) (ds := [OW 40000052 12 G8.av ((([] : List G8) ++ r4.Columns) ++ [(G8.mk 30 0 false v17 0 0 0 0 [] 0 0 0)]), LS 2 Cover.av r4.Covers, G2 r4.Light.Kilos, G2 r4.Light.X, G2 r4.Light.Y, G2 r4.Light.Z, LS 5 Row.av r4.Rows, LS 5 Frame.av r4.Frames, LS 6 Tank.av r4.Tanks, G2 r4.G4.Tolerance, G2 r4.G4.Trim, G2 r4.G4.List_, G2 r4.G4.Stability]) tf_size_25 rfl rfl rfl rfl rfl rfl rfl rfl) ?_
  refine G9 (hK13 _ _ ?_)
  refine J3 (l' := [(9, .dptr (Ship.cs r4)), (10, LS 9 Box.av r6.1), (12, LS 1 (LS 2 G7.av) r8.1), (13, G2 r8.2.1), (15, .ptr 1003 0)]) (L' := [(1003, .box 35 [LS 12 G8.av ((([] : List G8) ++ r4.Columns) ++ [(G8.mk 30 0 false v17 0 0 0 0 [] 0 0 0)]), LS 2 Cover.av r4.Covers, G2 r4.Light.Kilos, G2 r4.Light.X, G2 r4.Light.Y, G2 r4.Light.Z, LS 5 Row.av r4.Rows, LS 5 Frame.av r4.Frames, LS 6 Tank.av r4.Tanks, G2 r4.G4.Tolerance, G2 r4.G4.Trim, G2 r4.G4.List_, G2 r4.G4.Stability])]) ⟨(by repeat' constructor), ⟨⟨_, rfl, .boxL rfl ⟨.list rfl, .same rfl, .same rfl, .same rfl, .same rfl, .same rfl, .same rfl, .same rfl, .same rfl, .same rfl, .same rfl, .same rfl, .same rfl, trivial⟩⟩, trivial⟩, rfl⟩ ?_
  refine Gq [(9, .dptr (Ship.cs r4)), (10, LS 9 Box.av r6.1), (12, LS 1 (LS 2 G7.av) r8.1), (13, G2 r8.2.1), (15, .dptr [LS 12 G8.av ((([] : List G8) ++ r4.Columns) ++ [(G8.mk 30 0 false v17 0 0 0 0 [] 0 0 0)]), LS 2 Cover.av r4.Covers, G2 r4.Light.Kilos, G2 r4.Light.X, G2 r4.Light.Y, G2 r4.Light.Z, LS 5 Row.av r4.Rows, LS 5 Frame.av r4.Frames, LS 6 Tank.av r4.Tanks, G2 r4.G4.Tolerance, G2 r4.G4.Trim, G2 r4.G4.List_, G2 r4.G4.Stability])] [] 1003 rfl rfl rfl trivial rfl (by repeat' (first | exact .ptr | constructor)) ?_
  refine G6 fun K19 hK19 => G3 ?_
  refine G1 (u := .mp 1006) (A_makeMapM 1006 G7.kv G2 rfl rfl) ?_
  refine G1 (u := .mp 1006) (Ga rfl rfl) ?_
  refine G9 (hK19 _ _ ?_)
  refine G6 (fun K20 hK20 => ?_)
  refine G6 fun K21 hK21 => G3 ?_
  refine G1 (u := LS 1 (LS 2 G7.av) r8.1) (G5 rfl rfl) ?_
  refine H9 (f := (LS 2 G7.av)) (xs := r8.1) Q2 rfl rfl (fun hm66 => ?_) rfl rfl rfl
  refine G1 (u := G2 0) (G5 rfl rfl) ?_
  refine G9 (hK21 _ _ ?_)
  refine Gk ?_
  obtain ⟨b22, kx22, hb22, hkx22, h⟩ := Hj h
  refine H2 (fun i22 (s22 : Int × (AMap G7 Int)) => each b22 kx22 (List.drop i22 r8.1) i22 s22 = some r) (fun i22 s22 => [(9, .dptr (Ship.cs r4)), (10, LS 9 Box.av r6.1), (13, G2 s22.1), (15, .dptr [LS 12 G8.av ((([] : List G8) ++ r4.Columns) ++ [(G8.mk 30 0 false v17 0 0 0 0 [] 0 0 0)]), LS 2 Cover.av r4.Covers, G2 r4.Light.Kilos, G2 r4.Light.X, G2 r4.Light.Y, G2 r4.Light.Z, LS 5 Row.av r4.Rows, LS 5 Frame.av r4.Frames, LS 6 Tank.av r4.Tanks, G2 r4.G4.Tolerance, G2 r4.G4.Trim, G2 r4.G4.List_, G2 r4.G4.Stability]), (16, .mp 1006), (65, LS 1 (LS 2 G7.av) r8.1), (66, G2 (r8.1.length : Int)), (67, G2 (i22 : Int))]) (fun i22 s22 => [(1006, MP 51 G7.kv G2 s22.2)]) (fun i22 => r8.1.length - i22) 0 (r8.2.1, (AMap.empty : AMap G7 Int)) h ⟨(by repeat' constructor), ⟨⟨_, rfl, .map⟩, trivial⟩, rfl⟩ ?_
  clear h
  intro i22 s22 hi22 K22 e22
  refine G6 fun K23 hK23 => G3 ?_
  refine G1 (u := BL (decide ((i22 : Int) < (r8.1.length : Int)))) (Hg rfl rfl rfl) ?_
  refine G9 (hK23 _ _ ?_)
  refine G6 (fun K24 hK24 => ?_)
  refine Gm rfl (fun hb => ?_) (fun hb => ?_)
  ·
   have hk22 := lt_len hb
   obtain ⟨y22, nx22, hy22, hn22, h⟩ := Hc hi22 hk22
   replace h := app4 hb22 h
   refine Gp ?_
   refine hK24 _ _ ?_
   refine G6 (fun K25 hK25 => ?_)
   refine Gk ?_
   refine G6 fun K26 hK26 => G3 ?_
   refine G1 (u := .dptr [LS 2 G7.av y22]) (Gw (f := (LS 2 G7.av)) (xs := r8.1) (y := y22) rfl rfl rfl Q2 hy22 rfl) ?_
   refine G1 (u := LS 2 G7.av y22) (Gn tf_scalar_52 rfl rfl rfl) ?_
   refine G1 (u := LS 2 G7.av y22) (Ga rfl rfl) ?_
   refine G9 (hK26 _ _ ?_)
   refine G6 fun K27 hK27 => G3 ?_
   refine G1 (u := .agg (Ship.cs r4)) (Gf Hh rfl rfl rfl) ?_
   refine G1 (u := LS 9 Box.av r6.1) (G5 rfl rfl) ?_
   refine G1 (u := LS 2 G7.av y22) (G5 rfl rfl) ?_
   obtain ⟨r28, hr28, h⟩ := Gg h
   refine G1 (u := .tup [G2 r28.1, G2 r28.2]) (Gu (args := [.agg (Ship.cs r4), LS 9 Box.av r6.1, LS 2 G7.av y22]) rfl (M_bound_Family_w F r4 r6.1 y22 r28 hr28) tf_call_7 ⟨rfl, rfl, rfl, rfl, rfl, rfl, trivial⟩) ?_
   refine G1 (u := .tup [G2 r28.1, G2 r28.2]) (G5 rfl rfl) ?_
   refine G1 (u := G2 r28.1) (Gx rfl rfl rfl) ?_
   refine G1 (u := G2 r28.2) (Gx rfl rfl rfl) ?_
   refine G1 (u := G2 r28.1) (Ga rfl rfl) ?_
   refine G1 (u := G2 r28.2) (Ga rfl rfl) ?_
   refine G9 (hK27 _ _ ?_)
   refine G6 fun K29 hK29 => G3 ?_
   refine G1 (u := .agg [LS 12 G8.av ((([] : List G8) ++ r4.Columns) ++ [(G8.mk 30 0 false v17 0 0 0 0 [] 0 0 0)]), LS 2 Cover.av r4.Covers, G2 r4.Light.Kilos, G2 r4.Light.X, G2 r4.Light.Y, G2 r4.Light.Z, LS 5 Row.av r4.Rows, LS 5 Frame.av r4.Frames, LS 6 Tank.av r4.Tanks, G2 r4.G4.Tolerance, G2 r4.G4.Trim, G2 r4.G4.List_, G2 r4.G4.Stability]) (Gf Hh rfl rfl rfl) ?_
   refine G1 (u := LS 9 Box.av r6.1) (G5 rfl rfl) ?_
   refine G1 (u := LS 2 G7.av y22) (G5 rfl rfl) ?_
   obtain ⟨r30, hr30, h⟩ := Gg h
   refine G1 (u := .tup [G2 r30.1, G2 r30.2]) (Gu (args := [.agg [LS 12 G8.av ((([] : List G8) ++ r4.Columns) ++ [(G8.mk 30 0 false v17 0 0 0 0 [] 0 0 0)]), LS 2 Cover.av r4.Covers, G2 r4.Light.Kilos, G2 r4.Light.X, G2 r4.Light.Y, G2 r4.Light.Z, LS 5 Row.av r4.Rows, LS 5 Frame.av r4.Frames, LS 6 Tank.av r4.Tanks, G2 r4.G4.Tolerance, G2 r4.G4.Trim, G2 r4.G4.List_, G2 r4.G4.Stability], LS 9 Box.av r6.1, LS 2 G7.av y22]) rfl (M_bound_Family_w F (Ship.mk ((([] : List G8) ++ r4.Columns) ++ [(G8.mk 30 0 false v17 0 0 0 0 [] 0 0 0)]) r4.Covers r4.Light r4.Rows r4.Frames r4.Tanks r4.G4) r6.1 y22 r30 hr30) tf_call_7 ⟨rfl, rfl, rfl, rfl, rfl, rfl, trivial⟩) ?_
   refine G1 (u := .tup [G2 r30.1, G2 r30.2]) (G5 rfl rfl) ?_
   refine G1 (u := G2 r30.1) (Gx rfl rfl rfl) ?_
   refine G1 (u := G2 r30.2) (Gx rfl rfl rfl) ?_
   refine G1 (u := G2 r30.1) (Ga rfl rfl) ?_
   refine G1 (u := G2 r30.2) (Ga rfl rfl) ?_
   refine G9 (hK29 _ _ ?_)
   refine G6 (fun K31 hK31 => ?_)
   refine G6 fun K32 hK32 => G3 ?_
   refine G1 (u := G2 r28.2) (G5 rfl rfl) ?_
   refine G1 (u := G2 r30.2) (G5 rfl rfl) ?_
   obtain ⟨v33, hv33, h⟩ := Gy h
   refine G1 (u := G2 v33) (H7 hv33 rfl rfl rfl) ?_
   refine G1 (u := BL (decide (v33 ≠ 0))) (A_neq rfl rfl rfl) ?_
   refine G1 (u := BL (decide (v33 ≠ 0))) (G5 rfl rfl) ?_
   refine Gj (u := G2 r28.1) [] rfl rfl rfl .scf trivial (fun hc => G5 rfl rfl) ?_
   refine Gj (u := BL (decide (r28.1 < 1))) [(90, G2 r28.1)] rfl rfl rfl .scf ⟨.all id, trivial⟩ (fun hc => Hg rfl rfl rfl) ?_
   refine G1 (u := BL ((decide (v33 ≠ 0)) || (decide (r28.1 < 1)))) (A_or rfl rfl rfl rfl) ?_
   refine G1 (u := BL ((decide (v33 ≠ 0)) || (decide (r28.1 < 1)))) (G5 rfl rfl) ?_
   refine Gj (u := G2 r30.1) [] rfl rfl rfl .scf trivial (fun hc => G5 rfl rfl) ?_
   refine Gj (u := G2 r28.1) [] rfl rfl rfl .scf trivial (fun hc => G5 rfl rfl) ?_
   refine Gj (u := BL (decide (r28.1 < r30.1))) [(94, G2 r30.1), (95, G2 r28.1)] rfl rfl rfl .scf ⟨.all id, .all id, trivial⟩ (fun hc => Jy rfl rfl rfl) ?_
   refine G1 (u := BL (((decide (v33 ≠ 0)) || (decide (r28.1 < 1))) || (decide (r28.1 < r30.1)))) (A_or rfl rfl rfl rfl) ?_
   refine G9 (hK32 _ _ ?_)
   refine Gm rfl (fun hb => ?_) (fun hb => ?_)
   ·
    replace h := bif_t hb h
    refine G6 fun K34 hK34 => G3 ?_
    refine G1 (u := BL false) (Ga rfl rfl) ?_
    refine G9 (hK34 _ _ ?_)
    refine Gt ?_
    exact ⟨[BL false], [], trivial, rfl, ⟨⟨_, rfl, .conv (.same rfl)⟩, trivial⟩, rfl, congrArg (fun r : Bool => (BL r : AV)) (Option.some.inj h)⟩
   ·
    replace h := bif_f hb h
    refine Gp ?_
    refine hK31 _ _ ?_
    refine G6 fun K35 hK35 => G3 ?_
    refine G1 (u := G2 s22.1) (G5 rfl rfl) ?_
    refine G1 (u := G2 r28.1) (G5 rfl rfl) ?_
    obtain ⟨v36, hv36, h⟩ := Gy h
    refine G1 (u := G2 v36) (A_sub hv36 rfl rfl rfl) ?_
    refine G1 (u := G2 v36) (Ga rfl rfl) ?_
    refine G9 (hK35 _ _ ?_)
    refine G6 fun K37 hK37 => G3 ?_
    refine G1 (u := LS 2 G7.av y22) (G5 rfl rfl) ?_
    refine H9 (f := G7.av) (xs := y22) H5 rfl rfl (fun hm102 => ?_) rfl rfl rfl
    refine G1 (u := G2 0) (G5 rfl rfl) ?_
    refine G9 (hK37 _ _ ?_)
    refine Gk ?_
    obtain ⟨b38, kx38, hb38, hkx38, h⟩ := Hj h
    refine H2 (fun i38 (s38 : (AMap G7 Int)) => each b38 kx38 (List.drop i38 y22) i38 s38 = some r) (fun i38 s38 => [(9, .dptr (Ship.cs r4)), (10, LS 9 Box.av r6.1), (13, G2 v36), (15, .dptr [LS 12 G8.av ((([] : List G8) ++ r4.Columns) ++ [(G8.mk 30 0 false v17 0 0 0 0 [] 0 0 0)]), LS 2 Cover.av r4.Covers, G2 r4.Light.Kilos, G2 r4.Light.X, G2 r4.Light.Y, G2 r4.Light.Z, LS 5 Row.av r4.Rows, LS 5 Frame.av r4.Frames, LS 6 Tank.av r4.Tanks, G2 r4.G4.Tolerance, G2 r4.G4.Trim, G2 r4.G4.List_, G2 r4.G4.Stability]), (16, .mp 1006), (18, LS 2 G7.av y22), (19, G2 r28.1), (65, LS 1 (LS 2 G7.av) r8.1), (66, G2 (r8.1.length : Int)), (67, G2 (i22 : Int)), (101, LS 2 G7.av y22), (102, G2 (y22.length : Int)), (103, G2 (i38 : Int))]) (fun i38 s38 => [(1006, MP 51 G7.kv G2 s38)]) (fun i38 => y22.length - i38) 0 s22.2 h ⟨(by repeat' constructor), ⟨⟨_, rfl, .map⟩, trivial⟩, rfl⟩ ?_
    clear h
    intro i38 s38 hi38 K38 e38
    refine G6 fun K39 hK39 => G3 ?_
    refine G1 (u := BL (decide ((i38 : Int) < (y22.length : Int)))) (Hg rfl rfl rfl) ?_
    refine G9 (hK39 _ _ ?_)
    refine G6 (fun K40 hK40 => ?_)
    refine Gm rfl (fun hb => ?_) (fun hb => ?_)
    ·
     have hk38 := lt_len hb
     obtain ⟨y38, nx38, hy38, hn38, h⟩ := Hc hi38 hk38
     replace h := app4 hb38 h
     refine Gp ?_
     refine hK40 _ _ ?_
     refine G6 (fun K41 hK41 => ?_)
     refine Gk ?_
     refine G6 fun K42 hK42 => G3 ?_
     refine G1 (u := G2 (i38 : Int)) (G5 rfl rfl) ?_
     refine G1 (u := .dptr [G2 y38.Load, G2 y38.Discharge]) (Gw (f := G7.av) (xs := y22) (y := y38) rfl rfl rfl H5 hy38 rfl) ?_
     refine G1 (u := .agg [G2 y38.Load, G2 y38.Discharge]) (Gf Hf rfl rfl rfl) ?_
     refine G1 (u := .ptr 1004 0) (H8 1004 2 Jr rfl rfl) ?_
     refine G1 (u := G2 (i38 : Int)) (Ga rfl rfl) ?_
     refine H6 (u := .junk) (Gz (u := .agg [G2 y38.Load, G2 y38.Discharge]) (ds := [G2 y38.Load, G2 y38.Discharge]) tf_size_56 rfl rfl rfl rfl rfl rfl rfl rfl) ?_
     refine G9 (hK42 _ _ ?_)
     refine Gq [(9, .dptr (Ship.cs r4)), (10, LS 9 Box.av r6.1), (13, G2 v36), (15, .dptr [LS 12 G8.av ((([] : List G8) ++ r4.Columns) ++ [(G8.mk 30 0 false v17 0 0 0 0 [] 0 0 0)]), LS 2 Cover.av r4.Covers, G2 r4.Light.Kilos, G2 r4.Light.X, G2 r4.Light.Y, G2 r4.Light.Z, LS 5 Row.av r4.Rows, LS 5 Frame.av r4.Frames, LS 6 Tank.av r4.Tanks, G2 r4.G4.Tolerance, G2 r4.G4.Trim, G2 r4.G4.List_, G2 r4.G4.Stability]), (16, .mp 1006), (18, LS 2 G7.av y22), (19, G2 r28.1), (23, G2 (i38 : Int)), (24, .dptr [G2 y38.Load, G2 y38.Discharge]), (65, LS 1 (LS 2 G7.av) r8.1), (66, G2 (r8.1.length : Int)), (67, G2 (i22 : Int)), (101, LS 2 G7.av y22), (102, G2 (y22.length : Int)), (103, G2 (i38 : Int))] [(1006, MP 51 G7.kv G2 s38)] 1004 rfl rfl rfl ⟨⟨_, rfl, .map⟩, trivial⟩ rfl (by repeat' (first | exact .ptr | constructor)) ?_
     refine G6 (fun K43 hK43 => ?_)
     refine J3 (l' := [(9, .dptr (Ship.cs r4)), (10, LS 9 Box.av r6.1), (13, G2 v36), (15, .dptr [LS 12 G8.av ((([] : List G8) ++ r4.Columns) ++ [(G8.mk 30 0 false v17 0 0 0 0 [] 0 0 0)]), LS 2 Cover.av r4.Covers, G2 r4.Light.Kilos, G2 r4.Light.X, G2 r4.Light.Y, G2 r4.Light.Z, LS 5 Row.av r4.Rows, LS 5 Frame.av r4.Frames, LS 6 Tank.av r4.Tanks, G2 r4.G4.Tolerance, G2 r4.G4.Trim, G2 r4.G4.List_, G2 r4.G4.Stability]), (16, .mp 1006), (18, LS 2 G7.av y22), (19, G2 r28.1), (23, G2 (i38 : Int)), (24, .dptr [G2 y38.Load, G2 y38.Discharge]), (65, LS 1 (LS 2 G7.av) r8.1), (66, G2 (r8.1.length : Int)), (67, G2 (i22 : Int)), (101, LS 2 G7.av y22), (102, G2 (y22.length : Int)), (103, G2 (i38 : Int))]) (L' := [(1006, MP 51 G7.kv G2 s38)]) ⟨(by repeat' constructor), ⟨⟨_, rfl, .map⟩, trivial⟩, rfl⟩ ?_
     obtain ⟨v44, hv44, h⟩ := Gg h
     obtain ⟨v45, hv45, h⟩ := Gy h
     refine Hy [4, 6] [0, 0, 0, 0, 0, 1, 0] [0, 0, 1, 1, 0, 1, 0] [[(1006, MP 51 G7.kv G2 s38)], ((1006, MI 51 G7.kv G2 s38 y38 0) :: [(1006, MP 51 G7.kv G2 s38)]), ((1006, MP 51 G7.kv G2 (AMap.put s38 y38 v45)) :: ((1006, MI 51 G7.kv G2 s38 y38 0) :: [(1006, MP 51 G7.kv G2 s38)]))] Hr (by kernel_rfl) rfl rfl ?_
     refine Ge (u := .mp 1006) rfl rfl ⟨Gi (G5 rfl rfl) rfl, trivial⟩ ?_
     refine Ge (u := .agg [G2 y38.Load, G2 y38.Discharge]) rfl rfl ⟨Gi (Gf Hf rfl rfl rfl) rfl, trivial⟩ ?_
     refine Ge (u := G2 v44) rfl rfl ⟨Gi (((Option.some.inj hv44) ▸ A_lookupM0 (av := G2) (m := s38) (a := y38) 0 (.int .i64 0) rfl rfl rfl rfl tk_56 tf_map_51 tf_zv_3 rfl)) rfl, Gi (((Option.some.inj hv44) ▸ A_lookupMI (av := G2) (m := s38) (a := y38) 0 (.int .i64 0) rfl rfl rfl rfl tk_56 tf_map_51 tf_zv_3 rfl)) rfl, trivial⟩ ?_
     refine Ge (u := G2 v45) rfl rfl ⟨Gi (H7 hv45 rfl rfl rfl) rfl, Gi (H7 hv45 rfl rfl rfl) rfl, trivial⟩ ?_
     refine D_w (u := .tup [.junk, G2 (midx (AMap.l s38) y38 : Int)]) rfl rfl rfl rfl (Gi (A_mapEntryM (m := s38) (a := y38) 0 (.int .i64 0) rfl rfl rfl rfl tk_56 tf_map_51 tf_zv_3 rfl) rfl) ?_
     refine Ge (u := G2 (midx (AMap.l s38) y38 : Int)) rfl rfl ⟨Gi (Gx rfl rfl rfl) rfl, trivial⟩ ?_
     refine D_w0 (u := .junk) rfl rfl rfl rfl (Gi (A_entryStoreM (m := s38) (a := y38) (v := v45) 0 rfl rfl rfl rfl rfl rfl) rfl) ?_
     refine Q3 ?_
     refine hK43 _ _ ?_
     refine G6 (fun K46 hK46 => ?_)
     refine G6 fun K47 hK47 => G3 ?_
     refine G1 (u := .mp 1006) (G5 rfl rfl) ?_
     refine G1 (u := .agg [G2 y38.Load, G2 y38.Discharge]) (Gf Hf rfl rfl rfl) ?_
     obtain ⟨v48, hv48, h⟩ := Gg h
     refine G1 (u := G2 v48) (((Option.some.inj hv48) ▸ A_lookupM0 (av := G2) (m := (AMap.put s38 y38 v45)) (a := y38) 0 (.int .i64 0) rfl rfl rfl rfl tk_56 tf_map_51 tf_zv_3 rfl)) ?_
     refine G1 (u := BL (decide (1 < v48))) (Jy rfl rfl rfl) ?_
     refine G9 (hK47 _ _ ?_)
     refine Gm rfl (fun hb => ?_) (fun hb => ?_)
     ·
      replace h := bif_t hb h
      refine G6 fun K49 hK49 => G3 ?_
      refine G1 (u := BL false) (Ga rfl rfl) ?_
      refine G9 (hK49 _ _ ?_)
      refine Gt ?_
      exact ⟨[BL false], [], trivial, rfl, ⟨⟨_, rfl, .conv (.same rfl)⟩, trivial⟩, rfl, congrArg (fun r : Bool => (BL r : AV)) (Option.some.inj h)⟩
     ·
      replace h := bif_f hb h
      refine Gp ?_
      refine hK46 _ _ ?_
      refine G6 (fun K50 hK50 => ?_)
      refine G6 fun K51 hK51 => G3 ?_
      refine G1 (u := LS 2 G7.av y22) (G5 rfl rfl) ?_
      refine G1 (u := G2 (i38 : Int)) (G5 rfl rfl) ?_
      refine G1 (u := G2 ((i38 + 1 : Nat) : Int)) (H7 (idx_succ hk38 hm102) rfl rfl rfl) ?_
      obtain ⟨m52, hm52, h⟩ := Gg h
      refine G1 (u := LS 2 G7.av (y22.drop m52)) (A_sliceLoM (f := G7.av) (xs := y22) rfl rfl rfl H5 (natIn_out hm52)) ?_
      refine H9 (f := G7.av) (xs := (y22.drop m52)) H5 rfl rfl (fun hm122 => ?_) rfl rfl rfl
      refine G1 (u := G2 0) (G5 rfl rfl) ?_
      refine G9 (hK51 _ _ ?_)
      refine Gk ?_
      obtain ⟨b69, kx69, hb69, hkx69, h⟩ := Hj h
      refine H2 (fun i69 (s69 : Unit) => each b69 kx69 (List.drop i69 (y22.drop m52)) i69 s69 = some r) (fun i69 s69 => [(9, .dptr (Ship.cs r4)), (10, LS 9 Box.av r6.1), (13, G2 v36), (15, .dptr [LS 12 G8.av ((([] : List G8) ++ r4.Columns) ++ [(G8.mk 30 0 false v17 0 0 0 0 [] 0 0 0)]), LS 2 Cover.av r4.Covers, G2 r4.Light.Kilos, G2 r4.Light.X, G2 r4.Light.Y, G2 r4.Light.Z, LS 5 Row.av r4.Rows, LS 5 Frame.av r4.Frames, LS 6 Tank.av r4.Tanks, G2 r4.G4.Tolerance, G2 r4.G4.Trim, G2 r4.G4.List_, G2 r4.G4.Stability]), (16, .mp 1006), (18, LS 2 G7.av y22), (19, G2 r28.1), (23, G2 (i38 : Int)), (24, .dptr [G2 y38.Load, G2 y38.Discharge]), (65, LS 1 (LS 2 G7.av) r8.1), (66, G2 (r8.1.length : Int)), (67, G2 (i22 : Int)), (101, LS 2 G7.av y22), (102, G2 (y22.length : Int)), (103, G2 (i38 : Int)), (121, LS 2 G7.av (y22.drop m52)), (122, G2 ((y22.drop m52).length : Int)), (123, G2 (i69 : Int))]) (fun i69 s69 => [(1006, MP 51 G7.kv G2 (AMap.put s38 y38 v45))]) (fun i69 => (y22.drop m52).length - i69) 0 () h ⟨(by repeat' constructor), ⟨⟨_, rfl, .map⟩, trivial⟩, rfl⟩ ?_
      clear h
      intro i69 s69 hi69 K69 e69
      refine G6 fun K70 hK70 => G3 ?_
      refine G1 (u := BL (decide ((i69 : Int) < ((y22.drop m52).length : Int)))) (Hg rfl rfl rfl) ?_
      refine G9 (hK70 _ _ ?_)
      refine G6 (fun K71 hK71 => ?_)
      refine Gm rfl (fun hb => ?_) (fun hb => ?_)
      ·
       have hk69 := lt_len hb
       obtain ⟨y69, nx69, hy69, hn69, h⟩ := Hc hi69 hk69
       replace h := app4 hb69 h
       refine Gp ?_
       refine hK71 _ _ ?_
       refine G6 (fun K72 hK72 => ?_)
       refine Gk ?_
       refine G6 fun K73 hK73 => G3 ?_
       refine G1 (u := .dptr [G2 y69.Load, G2 y69.Discharge]) (Gw (f := G7.av) (xs := (y22.drop m52)) (y := y69) rfl rfl rfl H5 hy69 rfl) ?_
       refine G1 (u := .agg [G2 y69.Load, G2 y69.Discharge]) (Gf Hf rfl rfl rfl) ?_
       refine G1 (u := .ptr 1005 0) (H8 1005 2 Jr rfl rfl) ?_
       refine H6 (u := .junk) (Gz (u := .agg [G2 y69.Load, G2 y69.Discharge]) (ds := [G2 y69.Load, G2 y69.Discharge]) tf_size_56 rfl rfl rfl rfl rfl rfl rfl rfl) ?_
       refine G9 (hK73 _ _ ?_)
       refine Gq [(9, .dptr (Ship.cs r4)), (10, LS 9 Box.av r6.1), (13, G2 v36), (15, .dptr [LS 12 G8.av ((([] : List G8) ++ r4.Columns) ++ [(G8.mk 30 0 false v17 0 0 0 0 [] 0 0 0)]), LS 2 Cover.av r4.Covers, G2 r4.Light.Kilos, G2 r4.Light.X, G2 r4.Light.Y, G2 r4.Light.Z, LS 5 Row.av r4.Rows, LS 5 Frame.av r4.Frames, LS 6 Tank.av r4.Tanks, G2 r4.G4.Tolerance, G2 r4.G4.Trim, G2 r4.G4.List_, G2 r4.G4.Stability]), (16, .mp 1006), (18, LS 2 G7.av y22), (19, G2 r28.1), (23, G2 (i38 : Int)), (24, .dptr [G2 y38.Load, G2 y38.Discharge]), (26, .dptr [G2 y69.Load, G2 y69.Discharge]), (65, LS 1 (LS 2 G7.av) r8.1), (66, G2 (r8.1.length : Int)), (67, G2 (i22 : Int)), (101, LS 2 G7.av y22), (102, G2 (y22.length : Int)), (103, G2 (i38 : Int)), (121, LS 2 G7.av (y22.drop m52)), (122, G2 ((y22.drop m52).length : Int)), (123, G2 (i69 : Int))] [(1006, MP 51 G7.kv G2 (AMap.put s38 y38 v45))] 1005 rfl rfl rfl ⟨⟨_, rfl, .map⟩, trivial⟩ rfl (by repeat' (first | exact .ptr | constructor)) ?_
       refine G6 fun K74 hK74 => G3 ?_
       refine G1 (u := .agg [G2 y38.Load, G2 y38.Discharge]) (Gf Hf rfl rfl rfl) ?_
       refine G1 (u := .agg [G2 y69.Load, G2 y69.Discharge]) (Gf Hf rfl rfl rfl) ?_
       obtain ⟨r75, hr75, h⟩ := Gg h
       refine G1 (u := BL r75) (Gu (args := [.agg [G2 y38.Load, G2 y38.Discharge], .agg [G2 y69.Load, G2 y69.Discharge]]) rfl (M_bound_Cross_w y38 y69 r75 hr75) tf_call_8 ⟨rfl, rfl, rfl, rfl, trivial⟩) ?_
       refine G1 (u := BL (!r75)) (A_not (b := r75) rfl rfl) ?_
       refine G9 (hK74 _ _ ?_)
       refine Gm rfl (fun hb => ?_) (fun hb => ?_)
       ·
        replace h := bif_t hb h
        refine G6 fun K76 hK76 => G3 ?_
        refine G1 (u := BL false) (Ga rfl rfl) ?_
        refine G9 (hK76 _ _ ?_)
        refine Gt ?_
        exact ⟨[BL false], [], trivial, rfl, ⟨⟨_, rfl, .conv (.same rfl)⟩, trivial⟩, rfl, congrArg (fun r : Bool => (BL r : AV)) (Option.some.inj h)⟩
       ·
        replace h := bif_f hb h
        refine Gp ?_
        refine hK72 _ _ ?_
        refine G3 ?_
        refine G1 (u := G2 ((i69 + 1 : Nat) : Int)) (H7 (idx_succ hk69 hm122) rfl rfl rfl) ?_
        refine G1 (u := G2 ((i69 + 1 : Nat) : Int)) (G5 rfl rfl) ?_
        refine G9 ?_
        exact e69 _ _ (i69 + 1) () (app1 hn69 h) (by omega) ⟨(by repeat' constructor), ⟨⟨_, rfl, .map⟩, trivial⟩, rfl⟩
      ·
       have h := app1 hkx69 (Hd hi69 (H3 hb))
       refine H4 ?_
       refine hK50 _ _ ?_
       refine G6 (fun K77 hK77 => ?_)
       refine J3 (l' := [(9, .dptr (Ship.cs r4)), (10, LS 9 Box.av r6.1), (13, G2 v36), (15, .dptr [LS 12 G8.av ((([] : List G8) ++ r4.Columns) ++ [(G8.mk 30 0 false v17 0 0 0 0 [] 0 0 0)]), LS 2 Cover.av r4.Covers, G2 r4.Light.Kilos, G2 r4.Light.X, G2 r4.Light.Y, G2 r4.Light.Z, LS 5 Row.av r4.Rows, LS 5 Frame.av r4.Frames, LS 6 Tank.av r4.Tanks, G2 r4.G4.Tolerance, G2 r4.G4.Trim, G2 r4.G4.List_, G2 r4.G4.Stability]), (16, .mp 1006), (18, LS 2 G7.av y22), (19, G2 r28.1), (23, G2 (i38 : Int)), (65, LS 1 (LS 2 G7.av) r8.1), (66, G2 (r8.1.length : Int)), (67, G2 (i22 : Int)), (101, LS 2 G7.av y22), (102, G2 (y22.length : Int)), (103, G2 (i38 : Int))]) (L' := [(1006, MP 51 G7.kv G2 (AMap.put s38 y38 v45))]) ⟨(by repeat' constructor), ⟨⟨_, rfl, .map⟩, trivial⟩, rfl⟩ ?_
       obtain ⟨m78, hm78, h⟩ := Gg h
       obtain ⟨ha79, h⟩ := He h
       obtain ⟨m80, hm80, h⟩ := Gg h
       obtain ⟨ha81, h⟩ := He h
       obtain ⟨r82, hr82, h⟩ := Gg h
       refine Hy [2, 6, 11] [0, 0, 0, 0, 0, 0, 0, 0, 0, 0, 0, 0, 3, 3, 3, 3, 3, 3] [3, 3, 0, 1, 1, 1, 0, 2, 2, 2, 2, 0, 3, 3, 3, 3, 3, 3] [[(1006, MP 51 G7.kv G2 (AMap.put s38 y38 v45))], ((1007, .spare 56 2 ([] : List G7).length ([] : List G7).length) :: [(1006, MP 51 G7.kv G2 (AMap.put s38 y38 v45))]), ((1007, .spare 56 2 (([] : List G7) ++ (y22.take m78)).length (([] : List G7) ++ (y22.take m78)).length) :: ((1007, .spare 56 2 ([] : List G7).length ([] : List G7).length) :: [(1006, MP 51 G7.kv G2 (AMap.put s38 y38 v45))])), ((1007, .spare 56 2 ((([] : List G7) ++ (y22.take m78)) ++ (y22.drop m80)).length ((([] : List G7) ++ (y22.take m78)) ++ (y22.drop m80)).length) :: ((1007, .spare 56 2 (([] : List G7) ++ (y22.take m78)).length (([] : List G7) ++ (y22.take m78)).length) :: ((1007, .spare 56 2 ([] : List G7).length ([] : List G7).length) :: [(1006, MP 51 G7.kv G2 (AMap.put s38 y38 v45))])))] Hr (by kernel_rfl) rfl rfl ?_
       refine Ge (u := .agg (Ship.cs r4)) rfl rfl ⟨Gi (Gf Hh rfl rfl rfl) rfl, Gi (Gf Hh rfl rfl rfl) rfl, Gi (Gf Hh rfl rfl rfl) rfl, Gi (Gf Hh rfl rfl rfl) rfl, trivial⟩ ?_
       refine Ge (u := LS 9 Box.av r6.1) rfl rfl ⟨Gi (G5 rfl rfl) rfl, Gi (G5 rfl rfl) rfl, Gi (G5 rfl rfl) rfl, Gi (G5 rfl rfl) rfl, trivial⟩ ?_
       refine D_w (u := OW 1007 2 G7.av ([] : List G7)) rfl rfl rfl rfl (Gi (A_ownLit 1007 56 2 rfl rfl H5) rfl) ?_
       refine Ge (u := LS 2 G7.av y22) rfl rfl ⟨Gi (G5 rfl rfl) rfl, Gi (G5 rfl rfl) rfl, trivial⟩ ?_
       refine Ge (u := G2 (i38 : Int)) rfl rfl ⟨Gi (G5 rfl rfl) rfl, Gi (G5 rfl rfl) rfl, trivial⟩ ?_
       refine Ge (u := LS 2 G7.av (y22.take m78)) rfl rfl ⟨Gi (A_sliceHiM (f := G7.av) (xs := y22) rfl rfl rfl H5 (natIn_out hm78)) rfl, Gi (A_sliceHiM (f := G7.av) (xs := y22) rfl rfl rfl H5 (natIn_out hm78)) rfl, trivial⟩ ?_
       refine D_w (u := OW 1007 2 G7.av (([] : List G7) ++ (y22.take m78))) rfl rfl rfl rfl (Gi (A_appendS (f := G7.av) (xs := ([] : List G7)) (ys := (y22.take m78)) rfl rfl rfl rfl H5 tf_elem_56 ha79 (fun _ => rfl) (.inl rfl)) rfl) ?_
       refine Ge (u := LS 2 G7.av y22) rfl rfl ⟨Gi (G5 rfl rfl) rfl, Gi (G5 rfl rfl) rfl, Gi (G5 rfl rfl) rfl, trivial⟩ ?_
       refine Ge (u := G2 (i38 : Int)) rfl rfl ⟨Gi (G5 rfl rfl) rfl, Gi (G5 rfl rfl) rfl, Gi (G5 rfl rfl) rfl, trivial⟩ ?_
       refine Ge (u := G2 ((i38 + 1 : Nat) : Int)) rfl rfl ⟨Gi (H7 (idx_succ hk38 hm102) rfl rfl rfl) rfl, Gi (H7 (idx_succ hk38 hm102) rfl rfl rfl) rfl, Gi (H7 (idx_succ hk38 hm102) rfl rfl rfl) rfl, trivial⟩ ?_
       refine Ge (u := LS 2 G7.av (y22.drop m80)) rfl rfl ⟨Gi (A_sliceLoM (f := G7.av) (xs := y22) rfl rfl rfl H5 (natIn_out hm80)) rfl, Gi (A_sliceLoM (f := G7.av) (xs := y22) rfl rfl rfl H5 (natIn_out hm80)) rfl, Gi (A_sliceLoM (f := G7.av) (xs := y22) rfl rfl rfl H5 (natIn_out hm80)) rfl, trivial⟩ ?_
       refine D_w (u := OW 1007 2 G7.av ((([] : List G7) ++ (y22.take m78)) ++ (y22.drop m80))) rfl rfl rfl rfl (Gi (A_appendS (f := G7.av) (xs := (([] : List G7) ++ (y22.take m78))) (ys := (y22.drop m80)) rfl rfl rfl rfl H5 tf_elem_56 ha81 (fun _ => rfl) (.inl rfl)) rfl) ?_
       refine Ge (u := .tup [G2 r82.1, G2 r82.2]) rfl rfl ⟨Gi (Gu (args := [.agg (Ship.cs r4), LS 9 Box.av r6.1, LS 2 G7.av ((([] : List G7) ++ (y22.take m78)) ++ (y22.drop m80))]) rfl (M_bound_Family_w F r4 r6.1 ((([] : List G7) ++ (y22.take m78)) ++ (y22.drop m80)) r82 hr82) tf_call_7 ⟨rfl, rfl, rfl, rfl, rfl, rfl, trivial⟩) rfl, trivial⟩ ?_
       refine Ge (u := .tup [G2 r82.1, G2 r82.2]) rfl rfl ⟨Gi (G5 rfl rfl) rfl, trivial⟩ ?_
       refine Ge (u := G2 r82.1) rfl rfl ⟨Gi (Gx rfl rfl rfl) rfl, trivial⟩ ?_
       refine Ge (u := G2 r82.2) rfl rfl ⟨Gi (Gx rfl rfl rfl) rfl, trivial⟩ ?_
       refine Ge (u := G2 r82.1) rfl rfl ⟨Gi (Ga rfl rfl) rfl, trivial⟩ ?_
       refine Ge (u := G2 r82.2) rfl rfl ⟨Gi (Ga rfl rfl) rfl, trivial⟩ ?_
       refine Q3 ?_
       refine hK77 _ _ ?_
       refine G6 fun K83 hK83 => G3 ?_
       refine G1 (u := G2 r82.2) (G5 rfl rfl) ?_
       refine G1 (u := BL (decide (r82.2 ≠ 0))) (A_neq rfl rfl rfl) ?_
       refine G1 (u := BL (decide (r82.2 ≠ 0))) (G5 rfl rfl) ?_
       refine Gj (u := G2 r82.1) [] rfl rfl rfl .scf trivial (fun hc => G5 rfl rfl) ?_
       refine Gj (u := G2 r28.1) [] rfl rfl rfl .scf trivial (fun hc => G5 rfl rfl) ?_
       refine Gj (u := BL (decide (r28.1 < r82.1))) [(151, G2 r82.1), (152, G2 r28.1)] rfl rfl rfl .scf ⟨.all id, .all id, trivial⟩ (fun hc => Jy rfl rfl rfl) ?_
       refine G1 (u := BL ((decide (r82.2 ≠ 0)) || (decide (r28.1 < r82.1)))) (A_or rfl rfl rfl rfl) ?_
       refine G9 (hK83 _ _ ?_)
       refine Gm rfl (fun hb => ?_) (fun hb => ?_)
       ·
        replace h := bif_t hb h
        refine G6 fun K84 hK84 => G3 ?_
        refine G1 (u := BL false) (Ga rfl rfl) ?_
        refine G9 (hK84 _ _ ?_)
        refine Gt ?_
        exact ⟨[BL false], [], trivial, rfl, ⟨⟨_, rfl, .conv (.same rfl)⟩, trivial⟩, rfl, congrArg (fun r : Bool => (BL r : AV)) (Option.some.inj h)⟩
       ·
        replace h := bif_f hb h
        refine Gp ?_
        refine hK41 _ _ ?_
        refine G3 ?_
        refine G1 (u := G2 ((i38 + 1 : Nat) : Int)) (H7 (idx_succ hk38 hm102) rfl rfl rfl) ?_
        refine G1 (u := G2 ((i38 + 1 : Nat) : Int)) (G5 rfl rfl) ?_
        refine G9 ?_
        exact e38 _ _ (i38 + 1) (AMap.put s38 y38 v45) (app1 hn38 h) (by omega) ⟨(by repeat' constructor), ⟨⟨_, rfl, .map⟩, trivial⟩, rfl⟩
    ·
     have h := app1 hkx38 (Hd hi38 (H3 hb))
     refine H4 ?_
     refine hK25 _ _ ?_
     refine G3 ?_
     refine G1 (u := G2 ((i22 + 1 : Nat) : Int)) (H7 (idx_succ hk22 hm66) rfl rfl rfl) ?_
     refine G1 (u := G2 ((i22 + 1 : Nat) : Int)) (G5 rfl rfl) ?_
     refine G9 ?_
     exact e22 _ _ (i22 + 1) (v36, s38) (app1 hn22 h) (by omega) ⟨(by repeat' constructor), ⟨⟨_, rfl, .map⟩, trivial⟩, rfl⟩
  ·
   have h := app1 hkx22 (Hd hi22 (H3 hb))
   refine H4 ?_
   refine hK20 _ _ ?_
   refine G6 fun K85 hK85 => G3 ?_
   refine G1 (u := G2 s22.1) (G5 rfl rfl) ?_
   refine G1 (u := BL (decide (s22.1 = 0))) (Jb rfl rfl rfl) ?_
   refine G1 (u := BL (decide (s22.1 = 0))) (G5 rfl rfl) ?_
   obtain ⟨r86, hr86, h⟩ := Gg h
   refine Gj (u := BL r86) [] rfl rfl rfl .sct trivial (fun hc => Gu (args := []) rfl (M_twistlocklaw27_awake_w F r86 (bif_t hc hr86)) tf_call_9 trivial) ?_
   refine G1 (u := BL ((decide (s22.1 = 0)) && r86)) (Jc rfl rfl rfl rfl) ?_
   refine G1 (u := BL ((decide (s22.1 = 0)) && r86)) (Ga rfl rfl) ?_
   refine G9 (hK85 _ _ ?_)
   refine Gt ?_
   exact ⟨[BL ((decide (s22.1 = 0)) && r86)], [], trivial, rfl, ⟨⟨_, rfl, .conv (.same rfl)⟩, trivial⟩, rfl, congrArg (fun r : Bool => (BL r : AV)) (Option.some.inj h)⟩
end
end Go.Proofs.Ytlhfflmknlfafaa
