/-
 Models of functions of the program, and that they return what the models say.
-/
import Derived.Test.YtmdnkofmmheoaaaGreatProg
import Derived.Test.YtmdnkofmmheoaaaGreatSortM
import Derived.Test.YtmdnkofmmheoaaaGreatSortLay
import Derived.Test.YtmdnkofmmheoaaaGreatRel
import Derived.Test.YtmdnkofmmheoaaaGreatLit0
import Derived.Test.YtmdnkofmmheoaaaGreatXA
import Derived.Test.YtmdnkofmmheoaaaGreatSpecA
import Derived.Test.YtmdnkofmmheoaaaGreatSpecI
import Derived.Test.YtmdnkofmmheoaaaGreatXVa
import Derived.Test.YtmdnkofmmheoaaaGreatXVb
import Derived.Test.YtmdnkofmmheoaaaGreatXV
set_option maxRecDepth 100000
set_option linter.unusedVariables false
set_option linter.unusedSimpArgs false
namespace Go.Proofs.YtmdnkofmmheoaaaGreat
open Go.RowKit
noncomputable section
def tstr_252118256 : ByteArray := ByteArray.mk #[0, 1, 2, 2, 3, 3, 3, 3, 4, 4, 4, 4, 4, 4, 4, 4, 5, 5, 5, 5, 5, 5, 5, 5, 5, 5, 5, 5, 5, 5, 5, 5, 6, 6, 6, 6, 6, 6, 6, 6, 6, 6, 6, 6, 6, 6, 6, 6, 6, 6, 6, 6, 6, 6, 6, 6, 6, 6, 6, 6, 6, 6, 6, 6, 7, 7, 7, 7, 7, 7, 7, 7, 7, 7, 7, 7, 7, 7, 7, 7, 7, 7, 7, 7, 7, 7, 7, 7, 7, 7, 7, 7, 7, 7, 7, 7, 7, 7, 7, 7, 7, 7, 7, 7, 7, 7, 7, 7, 7, 7, 7, 7, 7, 7, 7, 7, 7, 7, 7, 7, 7, 7, 7, 7, 7, 7, 7, 7, 8, 8, 8, 8, 8, 8, 8, 8, 8, 8, 8, 8, 8, 8, 8, 8, 8, 8, 8, 8, 8, 8, 8, 8, 8, 8, 8, 8, 8, 8, 8, 8, 8, 8, 8, 8, 8, 8, 8, 8, 8, 8, 8, 8, 8, 8, 8, 8, 8, 8, 8, 8, 8, 8, 8, 8, 8, 8, 8, 8, 8, 8, 8, 8, 8, 8, 8, 8, 8, 8, 8, 8, 8, 8, 8, 8, 8, 8, 8, 8, 8, 8, 8, 8, 8, 8, 8, 8, 8, 8, 8, 8, 8, 8, 8, 8, 8, 8, 8, 8, 8, 8, 8, 8, 8, 8, 8, 8, 8, 8, 8, 8, 8, 8, 8, 8, 8, 8, 8, 8, 8, 8, 8, 8, 8, 8, 8, 8]
structure Move where
 Kind : Int
 Box : Int
 Slot : Slot
 Gc : Int
 deriving DecidableEq, Inhabited
def Move.cs (x : Move) : List AV := [U8 x.Kind, G0 x.Box, G0 x.Slot.G5, G0 x.Slot.Tier, U8 x.Slot.Half, G0 x.Gc]
def Move.av (x : Move) : AV := .agg x.cs
structure Task where
 Bay : Int
 Phase : Int
 Lifts : Int
 Covers : Int
 deriving DecidableEq, Inhabited
def Task.cs (x : Task) : List AV := [G0 x.Bay, G0 x.Phase, G0 x.Lifts, G0 x.Covers]
def Task.av (x : Task) : AV := .agg x.cs
structure Arr2Int where
 e0 : Int
 e1 : Int
 deriving DecidableEq, Inhabited
def Arr2Int.cs (x : Arr2Int) : List AV := [G0 x.e0, G0 x.e1]
def Arr2Int.av (x : Arr2Int) : AV := .agg x.cs
def Arr2Int.ks (x : Arr2Int) : List Value := [.int .i64 x.e0, .int .i64 x.e1]
def Arr2Int.kv (x : Arr2Int) : Value := .agg x.ks.toArray
namespace XMF
open XAF
open XVF
theorem tq_49 (a b : Arr2Int) : eqAt Tryz.prog 4 49 [.int .i64 a.e0, .int .i64 a.e1] [.int .i64 b.e0, .int .i64 b.e1] = some (decide (a = b)) := by
 refine (show _ = some ((a.e0 == b.e0) && ((a.e1 == b.e1) && true)) by kernel_rfl).trans (congrArg some ?_)
 rw [Bool.eq_iff_iff]
 simp only [Bool.and_eq_true, beq_iff_eq, decide_eq_true_eq, Bool.and_true]
 constructor
 ·intro h; obtain ⟨_, _⟩ := a; obtain ⟨_, _⟩ := b; simp_all
 ·intro h; subst h; simp
theorem tf_agg_49 : aggB Tryz.prog 49 2 = true := by kernel_rfl
theorem tf_agg_53 : aggB Tryz.prog 53 6 = true := by kernel_rfl
theorem tf_agg_63 : aggB Tryz.prog 63 4 = true := by kernel_rfl
theorem tf_arr_49 : arrB Tryz.prog 49 3 1 = true := by kernel_rfl
theorem tf_call_11 : callB Tryz.prog 11 = true := by kernel_rfl
theorem tf_call_117 : callB Tryz.prog 117 = true := by kernel_rfl
theorem tf_call_119 : callB Tryz.prog 119 = true := by kernel_rfl
theorem tf_call_120 : callB Tryz.prog 120 = true := by kernel_rfl
theorem tf_call_121 : callB Tryz.prog 121 = true := by kernel_rfl
theorem tf_call_134 : callB Tryz.prog 134 = true := by kernel_rfl
theorem tf_call_14 : callB Tryz.prog 14 = true := by kernel_rfl
theorem tf_call_16 : callB Tryz.prog 16 = true := by kernel_rfl
theorem tf_call_17 : callB Tryz.prog 17 = true := by kernel_rfl
theorem tf_call_18 : callB Tryz.prog 18 = true := by kernel_rfl
theorem tf_call_19 : callB Tryz.prog 19 = true := by kernel_rfl
theorem tf_call_23 : callB Tryz.prog 23 = true := by kernel_rfl
theorem tf_call_24 : callB Tryz.prog 24 = true := by kernel_rfl
theorem tf_call_31 : callB Tryz.prog 31 = true := by kernel_rfl
theorem tf_call_32 : callB Tryz.prog 32 = true := by kernel_rfl
theorem tf_call_33 : callB Tryz.prog 33 = true := by kernel_rfl
theorem tf_call_34 : callB Tryz.prog 34 = true := by kernel_rfl
theorem tf_call_36 : callB Tryz.prog 36 = true := by kernel_rfl
theorem tf_call_37 : callB Tryz.prog 37 = true := by kernel_rfl
theorem tf_call_40 : callB Tryz.prog 40 = true := by kernel_rfl
theorem tf_call_41 : callB Tryz.prog 41 = true := by kernel_rfl
theorem tf_call_42 : callB Tryz.prog 42 = true := by kernel_rfl
theorem tf_call_43 : callB Tryz.prog 43 = true := by kernel_rfl
theorem tf_call_44 : callB Tryz.prog 44 = true := by kernel_rfl
theorem tf_call_53 : callB Tryz.prog 53 = true := by kernel_rfl
theorem tf_call_54 : callB Tryz.prog 54 = true := by kernel_rfl
theorem tf_call_61 : callB Tryz.prog 61 = true := by kernel_rfl
theorem tf_call_62 : callB Tryz.prog 62 = true := by kernel_rfl
theorem tf_call_63 : callB Tryz.prog 63 = true := by kernel_rfl
theorem tf_call_64 : callB Tryz.prog 64 = true := by kernel_rfl
theorem tf_call_65 : callB Tryz.prog 65 = true := by kernel_rfl
theorem tf_call_66 : callB Tryz.prog 66 = true := by kernel_rfl
theorem tf_call_67 : callB Tryz.prog 67 = true := by kernel_rfl
theorem tf_call_77 : callB Tryz.prog 77 = true := by kernel_rfl
theorem tf_call_86 : callB Tryz.prog 86 = true := by kernel_rfl
theorem tf_call_93 : callB Tryz.prog 93 = true := by kernel_rfl
theorem tf_call_94 : callB Tryz.prog 94 = true := by kernel_rfl
theorem tf_call_95 : callB Tryz.prog 95 = true := by kernel_rfl
theorem tf_call_96 : callB Tryz.prog 96 = true := by kernel_rfl
theorem tf_call_97 : callB Tryz.prog 97 = true := by kernel_rfl
theorem tf_elem_48 : elemB Tryz.prog 48 1 24 = true := by kernel_rfl
theorem tf_elem_53 : elemB Tryz.prog 53 6 48 = true := by kernel_rfl
theorem tf_elem_63 : elemB Tryz.prog 63 4 32 = true := by kernel_rfl
theorem tf_f1_63_2 : field1B Tryz.prog 63 2 2 = true := by kernel_rfl
theorem tf_f1_63_3 : field1B Tryz.prog 63 3 3 = true := by kernel_rfl
theorem Jf : fieldB Tryz.prog 53 0 0 = true := by kernel_rfl
theorem tf_field_53_2 : fieldB Tryz.prog 53 2 2 = true := by kernel_rfl
theorem tf_field_53_3 : fieldB Tryz.prog 53 3 5 = true := by kernel_rfl
theorem tf_field_63_0 : fieldB Tryz.prog 63 0 0 = true := by kernel_rfl
theorem Jv : fieldB Tryz.prog 63 1 1 = true := by kernel_rfl
theorem tf_field_63_2 : fieldB Tryz.prog 63 2 2 = true := by kernel_rfl
theorem tf_field_63_3 : fieldB Tryz.prog 63 3 3 = true := by kernel_rfl
theorem tf_int_138 : intB Tryz.prog 138 .u64 = true := by kernel_rfl
theorem tf_int_170 : intB Tryz.prog 170 .u64 = true := by kernel_rfl
theorem tf_map_87 : mapB Tryz.prog 87 49 63 = true := by kernel_rfl
theorem Jb : placesOf Tryz.prog 53 = some [(0, 1), (1, 1), (2, 3), (5, 1)] := by kernel_rfl
theorem tf_places_63 : placesOf Tryz.prog 63 = some [(0, 1), (1, 1), (2, 1), (3, 1)] := by kernel_rfl
theorem tf_scalar_48 : scalarB Tryz.prog 48 = true := by kernel_rfl
theorem tf_size_48 : sizeB Tryz.prog 48 1 = true := by kernel_rfl
theorem tf_size_49 : sizeB Tryz.prog 49 2 = true := by kernel_rfl
theorem tf_size_53 : sizeB Tryz.prog 53 6 = true := by kernel_rfl
theorem tf_size_63 : sizeB Tryz.prog 63 4 = true := by kernel_rfl
theorem tf_slice_44 : sliceB Tryz.prog 44 48 1 = true := by kernel_rfl
theorem Ho : sliceB Tryz.prog 48 53 6 = true := by kernel_rfl
theorem J0 : sliceB Tryz.prog 59 63 4 = true := by kernel_rfl
theorem tf_str_9 : strB Tryz.prog 9 = true := by kernel_rfl
theorem tf_zero_48 : (Tryz.prog.info? 48).bind (fun i => i.zero.map Value.cells) = some (List.toArray [.slice none 0 0]) := by kernel_rfl
theorem tf_zero_49 : (Tryz.prog.info? 49).bind (fun i => i.zero.map Value.cells) = some (List.toArray [.int .i64 0, .int .i64 0]) := by kernel_rfl
theorem Jm : (Tryz.prog.info? 53).bind (fun i => i.zero.map Value.cells) = some (List.toArray [.int .u8 0, .int .i64 0, .int .i64 0, .int .i64 0, .int .u8 0, .int .i64 0]) := by kernel_rfl
theorem tf_zero_63 : (Tryz.prog.info? 63).bind (fun i => i.zero.map Value.cells) = some (List.toArray [.int .i64 0, .int .i64 0, .int .i64 0, .int .i64 0]) := by kernel_rfl
theorem tf_zsize_48 : zsizeB Tryz.prog 48 1 = true := by kernel_rfl
theorem tf_zsize_49 : zsizeB Tryz.prog 49 2 = true := by kernel_rfl
theorem Jk : zsizeB Tryz.prog 53 6 = true := by kernel_rfl
theorem tf_zsize_63 : zsizeB Tryz.prog 63 4 = true := by kernel_rfl
theorem tf_zv_63 : (Tryz.prog.info? 63).bind (·.zero) = some (.agg #[.int .i64 0, .int .i64 0, .int .i64 0, .int .i64 0]) := by kernel_rfl
theorem tk_49 : KeyL Tryz.prog 49 Arr2Int.kv := KeyL.of_eq Arr2Int.ks (by kernel_rfl) (fun a b h => by simp only [Arr2Int.ks, List.cons.injEq, Value.int.injEq, Value.bool.injEq, Value.string.injEq, true_and, and_true] at h; obtain ⟨_, _⟩ := a; obtain ⟨_, _⟩ := b; simp_all) 4 (by decide) (fun a b => tq_49 a b) (fun a => by kernel_rfl) (fun a => by simp [Instr.sameBits, Arr2Int.ks])
end XMF
open XAF
open XVF
open XMF

def M_math_bits_Len64 (x : Int) : Option Int :=
 jp (fun kj2 =>
  bif decide (4294967296 ≤ x) then
  (kj2 (shrN .u64 x 32, 32))
  else
  (kj2 (x, 0))) fun (j2 : Int × Int) =>
 jp (fun kj5 =>
  bif decide (65536 ≤ j2.1) then
  (chk (j2.2 + 16) fun v8 =>
   kj5 (shrN .u64 j2.1 16, v8))
  else
  (kj5 (j2.1, j2.2))) fun (j5 : Int × Int) =>
 jp (fun kj9 =>
  bif decide (256 ≤ j5.1) then
  (chk (j5.2 + 8) fun v12 =>
   kj9 (shrN .u64 j5.1 8, v12))
  else
  (kj9 (j5.1, j5.2))) fun (j9 : Int × Int) =>
 bnd (sidx tstr_252118256 (IntKind.u8.wrap j9.1)) fun v14 =>
 chk (v14) fun v15 =>
 chk (j9.2 + v15) fun v16 =>
 some v16
theorem M_math_bits_Len64_w (x : Int) (r : Int) (h : M_math_bits_Len64 x = some r) : Pure Tryz.prog 86 [.sc (.int .u64 x)] (· = G0 r) := by
 unfold M_math_bits_Len64 at h
 refine Gx [.tmp 2] Tryz.func86 O O ?_
 refine G6 fun K1 hK1 => G2 ?_
 refine JLg (G0 0) (G9 O O) ?_
 refine G8 (hK1 _ _ ?_)
 obtain ⟨kj2, hkj2, h⟩ := J6 h
 refine Hs (fun j2 : Int × Int => kj2 j2 = some r) (fun j2 => [(0, .sc (.int .u64 j2.1)), (2, G0 j2.2)]) (fun j2 => []) (fun Kj2 ej2 => ?_) ?_
 ·
  refine G6 fun K3 hK3 => G2 ?_
  refine JLg (.sc (.int .u64 x)) (G7 O O) ?_
  refine JLg (BL (decide (4294967296 ≤ x))) (A_geq O O O) ?_
  refine G8 (hK3 _ _ ?_)
  refine Gh O (fun hb => ?_) (fun hb => ?_)
  ·
   replace h := bif_t hb h
   refine G6 fun K4 hK4 => G2 ?_
   refine JLg (.sc (.int .u64 x)) (G7 O O) ?_
   refine JLg (.sc (.int .u64 (shrN .u64 x 32))) (A_shrM (s := 32) O O O O) ?_
   refine JLg (.sc (.int .u64 (shrN .u64 x 32))) (G9 O O) ?_
   refine G8 (hK4 _ _ ?_)
   refine G2 ?_
   refine JLg (G0 32) (G9 O O) ?_
   refine G8 ?_
   exact ej2 _ _ (shrN .u64 x 32, 32) h ⟨⟨.same O, .same O, trivial⟩, trivial, O⟩
  ·
   replace h := bif_f hb h
   refine Gj ?_
   exact ej2 _ _ (x, 0) h ⟨⟨.same O, .same O, trivial⟩, trivial, O⟩
 ·intro j2 h
  replace h := app1 hkj2 h
  obtain ⟨kj5, hkj5, h⟩ := J6 h
  refine Hs (fun j5 : Int × Int => kj5 j5 = some r) (fun j5 => [(0, .sc (.int .u64 j5.1)), (2, G0 j5.2)]) (fun j5 => []) (fun Kj5 ej5 => ?_) ?_
  ·
   refine G6 fun K6 hK6 => G2 ?_
   refine JLg (.sc (.int .u64 j2.1)) (G7 O O) ?_
   refine JLg (BL (decide (65536 ≤ j2.1))) (A_geq O O O) ?_
   refine G8 (hK6 _ _ ?_)
   refine Gh O (fun hb => ?_) (fun hb => ?_)
   ·
    replace h := bif_t hb h
    refine G6 fun K7 hK7 => G2 ?_
    refine JLg (.sc (.int .u64 j2.1)) (G7 O O) ?_
    refine JLg (.sc (.int .u64 (shrN .u64 j2.1 16))) (A_shrM (s := 16) O O O O) ?_
    refine JLg (.sc (.int .u64 (shrN .u64 j2.1 16))) (G9 O O) ?_
    refine G8 (hK7 _ _ ?_)
    refine G2 ?_
    refine JLg (G0 j2.2) (G7 O O) ?_
    obtain ⟨v8, hv8, h⟩ := H6 h
    refine JLg (G0 v8) (Hd hv8 O O O) ?_
    refine JLg (G0 v8) (G9 O O) ?_
    refine G8 ?_
    exact ej5 _ _ (shrN .u64 j2.1 16, v8) h ⟨⟨.same O, .same O, trivial⟩, trivial, O⟩
   ·
    replace h := bif_f hb h
    refine Gj ?_
    exact ej5 _ _ (j2.1, j2.2) h ⟨⟨.same O, .same O, trivial⟩, trivial, O⟩
  ·intro j5 h
   replace h := app1 hkj5 h
   obtain ⟨kj9, hkj9, h⟩ := J6 h
   refine Hs (fun j9 : Int × Int => kj9 j9 = some r) (fun j9 => [(0, .sc (.int .u64 j9.1)), (2, G0 j9.2)]) (fun j9 => []) (fun Kj9 ej9 => ?_) ?_
   ·
    refine G6 fun K10 hK10 => G2 ?_
    refine JLg (.sc (.int .u64 j5.1)) (G7 O O) ?_
    refine JLg (BL (decide (256 ≤ j5.1))) (A_geq O O O) ?_
    refine G8 (hK10 _ _ ?_)
    refine Gh O (fun hb => ?_) (fun hb => ?_)
    ·
     replace h := bif_t hb h
     refine G6 fun K11 hK11 => G2 ?_
     refine JLg (.sc (.int .u64 j5.1)) (G7 O O) ?_
     refine JLg (.sc (.int .u64 (shrN .u64 j5.1 8))) (A_shrM (s := 8) O O O O) ?_
     refine JLg (.sc (.int .u64 (shrN .u64 j5.1 8))) (G9 O O) ?_
     refine G8 (hK11 _ _ ?_)
     refine G2 ?_
     refine JLg (G0 j5.2) (G7 O O) ?_
     obtain ⟨v12, hv12, h⟩ := H6 h
     refine JLg (G0 v12) (Hd hv12 O O O) ?_
     refine JLg (G0 v12) (G9 O O) ?_
     refine G8 ?_
     exact ej9 _ _ (shrN .u64 j5.1 8, v12) h ⟨⟨.same O, .same O, trivial⟩, trivial, O⟩
    ·
     replace h := bif_f hb h
     refine Gj ?_
     exact ej9 _ _ (j5.1, j5.2) h ⟨⟨.same O, .same O, trivial⟩, trivial, O⟩
   ·intro j9 h
    replace h := app1 hkj9 h
    refine G6 fun K13 hK13 => G2 ?_
    refine JLg (G0 j9.2) (G7 O O) ?_
    refine JLg (.sc (.int .u64 j9.1)) (G7 O O) ?_
    refine JLg (U8 (IntKind.u8.wrap j9.1)) (A_conv Q7 tf_int_170 O O O) ?_
    obtain ⟨v14, hv14, h⟩ := Ge h
    refine JLg (U8 v14) (A_strIdx tf_str_9 O O O hv14) ?_
    obtain ⟨v15, hv15, h⟩ := H6 h
    refine JLg (G0 v15) (A_conv Jy Q7 hv15 O O) ?_
    obtain ⟨v16, hv16, h⟩ := H6 h
    refine JLg (G0 v16) (Hd hv16 O O O) ?_
    refine JLg (G0 v16) (G9 O O) ?_
    refine G8 (hK13 _ _ ?_)
    refine Gq ?_
    exact ⟨[G0 v16], [], trivial, O, ⟨⟨_, O, .conv (.same O)⟩, trivial⟩, O, congrArg (fun r : Int => (G0 r : AV)) (Option.some.inj h)⟩

def M_math_bits_Len (x : Int) : Option Int :=
 bnd (M_math_bits_Len64 x) fun r4 =>
 some r4
theorem M_math_bits_Len_w (x : Int) (r : Int) (h : M_math_bits_Len x = some r) : Pure Tryz.prog 54 [.sc (.int .u64 x)] (· = G0 r) := by
 unfold M_math_bits_Len at h
 refine Gx [.tmp 2] Tryz.func54 O O ?_
 refine G6 fun K1 hK1 => G2 ?_
 refine JLg (G0 0) (G9 O O) ?_
 refine G8 (hK1 _ _ ?_)
 refine G6 (fun K2 hK2 => ?_)
 refine JC_condF O ?_
 refine Gj ?_
 refine hK2 _ _ ?_
 refine G6 fun K3 hK3 => G2 ?_
 refine JLg (.sc (.int .u64 x)) (G7 O O) ?_
 obtain ⟨r4, hr4, h⟩ := Ge h
 refine JLg (G0 r4) (Gr (args := [.sc (.int .u64 x)]) O (M_math_bits_Len64_w x r4 hr4) tf_call_86 ⟨O, O, trivial⟩) ?_
 refine JLg (G0 r4) (G9 O O) ?_
 refine G8 (hK3 _ _ ?_)
 refine Gq ?_
 exact ⟨[G0 r4], [], trivial, O, ⟨⟨_, O, .conv (.same O)⟩, trivial⟩, O, congrArg (fun r : Int => (G0 r : AV)) (Option.some.inj h)⟩

def M_moves_call_1 (kind : Int) (l : List G3) (p2 : List Move) : Option (List Move) :=
 each (fun y26 i26 (s26 : (List Move)) nx26 =>
  need (decide ((s26.length + [(Move.mk kind y26.Box y26.Slot 0)].length) * 48 ≤ 140737488355328 ∧ s26.length + [(Move.mk kind y26.Box y26.Slot 0)].length ≤ maxLen)) <|
  nx26 (s26 ++ [(Move.mk kind y26.Box y26.Slot 0)]))
 (fun (s26 : (List Move)) =>
  some s26) l 0 p2
theorem M_moves_call_1_w (kind : Int) (l : List G3) (p2 : List Move) (r : (List Move)) (h : M_moves_call_1 kind l p2 = some r) : ACalls Tryz.prog 40 [U8 kind, LS 4 G3.av l, .ptr 1069 0] [(1069, .box 48 [OW 1070 6 Move.av p2]), (1070, .spare 53 6 p2.length p2.length)] (fun av L' => av = .tup [] ∧ L' = [(1069, .box 48 [OW 1070 6 Move.av r]), (1070, .spare 53 6 r.length r.length)]) := by
 unfold M_moves_call_1 at h
 refine Hy [1069, 1070] [] Tryz.func40 O O (inAll O) ?_
 refine G6 fun K1 hK1 => G2 ?_
 refine JLg (LS 4 G3.av l) (G7 O O) ?_
 refine H9 (f := G3.av) (xs := l) Gs O O (fun hm8 => ?_) O O O
 refine JLg (G0 0) (G7 O O) ?_
 refine G8 (hK1 _ _ ?_)
 refine Gi ?_
 obtain ⟨b26, kx26, hb26, hkx26, h⟩ := Hi h
 refine Gz (fun i26 (s26 : (List Move)) => each b26 kx26 (List.drop i26 l) i26 s26 = some r) (fun i26 s26 => [(0, U8 kind), (2, .ptr 1069 0), (7, LS 4 G3.av l), (8, G0 (l.length : Int)), (9, G0 (i26 : Int))]) (fun i26 s26 => [(1070, .spare 53 6 s26.length s26.length), (1069, .box 48 [OW 1070 6 Move.av s26])]) (fun i26 => l.length - i26) 0 p2 h ⟨(by repeat' constructor), ⟨⟨_, rfl, .same⟩, ⟨_, rfl, .boxL rfl ⟨.same rfl, trivial⟩⟩, trivial⟩, rfl⟩ ?_
 clear h
 intro i26 s26 hi26 K26 e26
 refine G6 fun K27 hK27 => G2 ?_
 refine JLg (BL (decide ((i26 : Int) < (l.length : Int)))) (He O O O) ?_
 refine G8 (hK27 _ _ ?_)
 refine G6 (fun K28 hK28 => ?_)
 refine Gh O (fun hb => ?_) (fun hb => ?_)
 ·
  have hk26 := lt_len hb
  obtain ⟨y26, nx26, hy26, hn26, h⟩ := Ha hi26 hk26
  replace h := app4 hb26 h
  refine Gj ?_
  refine hK28 _ _ ?_
  refine G6 (fun K29 hK29 => ?_)
  refine Gi ?_
  refine G6 fun K30 hK30 => G2 ?_
  refine JLg (.dptr (G3.cs y26)) (Gw (f := G3.av) (xs := l) (y := y26) O O O Gs hy26 O) ?_
  refine JLg (.agg (G3.cs y26)) (Gg Hp O O O) ?_
  refine JLg (.ptr 1103 0) (H2 1103 4 Hk O O) ?_
  refine H1 (u := .junk) (Gt (u := .agg (G3.cs y26)) (ds := [G0 y26.Box, G0 y26.Slot.G5, G0 y26.Slot.Tier, U8 y26.Slot.Half]) J3 O O O O O O O O) ?_
  refine G8 (hK30 _ _ ?_)
  refine Gm [(0, U8 kind), (2, .ptr 1069 0), (6, .dptr (G3.cs y26)), (7, LS 4 G3.av l), (8, G0 (l.length : Int)), (9, G0 (i26 : Int))] [(1070, .spare 53 6 s26.length s26.length), (1069, .box 48 [OW 1070 6 Move.av s26])] 1103 rfl rfl rfl ⟨⟨_, rfl, .same⟩, ⟨_, rfl, .boxEq rfl rfl⟩, trivial⟩ rfl (by repeat' (first | exact .ptr | constructor)) ?_
  refine G2 ?_
  refine JLg (OW 1070 6 Move.av s26) (Ht tf_scalar_48 O O O O) ?_
  refine JLg (U8 kind) (G7 O O) ?_
  refine JLg (.dptr (G3.cs y26)) (Gb Hn O O O) ?_
  refine JLg (G0 y26.Box) (Gf Ga O O O) ?_
  refine JLg (.dptr (Slot.cs y26.Slot)) (Gb Hg O O O) ?_
  refine JLg (.agg (Slot.cs y26.Slot)) (Gg Hr O O O) ?_
  refine JLg (.agg [U8 kind, G0 y26.Box, G0 y26.Slot.G5, G0 y26.Slot.Tier, U8 y26.Slot.Half, G0 0]) (H8 (cs := [U8 kind, G0 y26.Box, G0 y26.Slot.G5, G0 y26.Slot.Tier, U8 y26.Slot.Half, G0 0]) [(0, 1), (1, 1), (2, 3), (5, 1)] [U8 0, G0 0, G0 0, G0 0, U8 0, G0 0] [.int .u8 0, .int .i64 0, .int .i64 0, .int .i64 0, .int .u8 0, .int .i64 0] Jb Jm ⟨.inl O, .inl O, .inl O, .inl O, .inl O, .inl O, trivial⟩ O O) ?_
  refine JLg (LS 6 Move.av [(Move.mk kind y26.Box y26.Slot 0)]) (Gu (xs := [.agg [U8 kind, G0 y26.Box, G0 y26.Slot.G5, G0 y26.Slot.Tier, U8 y26.Slot.Half, G0 0]]) O ⟨O, O, trivial⟩ Ho Jk O O O O) ?_
  obtain ⟨ha31, h⟩ := Hq h
  refine JLg (OW 1070 6 Move.av (s26 ++ [(Move.mk kind y26.Box y26.Slot 0)])) (Jd (f := Move.av) (xs := s26) (ys := [(Move.mk kind y26.Box y26.Slot 0)]) O O O O Ho tf_elem_53 ha31 (fun _ => O) (.inl O) O) ?_
  refine H1 (u := .junk) (Gt (u := OW 1070 6 Move.av (s26 ++ [(Move.mk kind y26.Box y26.Slot 0)])) (ds := [OW 1070 6 Move.av (s26 ++ [(Move.mk kind y26.Box y26.Slot 0)])]) tf_size_48 O O O O O O O O) ?_
  refine G8 (hK29 _ _ ?_)
  refine G2 ?_
  refine JLg (G0 ((i26 + 1 : Nat) : Int)) (Hd (idx_succ hk26 hm8) O O O) ?_
  refine JLg (G0 ((i26 + 1 : Nat) : Int)) (G7 O O) ?_
  refine G8 ?_
  exact e26 _ _ (i26 + 1) (s26 ++ [(Move.mk kind y26.Box y26.Slot 0)]) (app1 hn26 h) (by omega) ⟨(by repeat' constructor), ⟨⟨_, rfl, .same⟩, ⟨_, rfl, .boxL rfl ⟨.same rfl, trivial⟩⟩, trivial⟩, rfl⟩
 ·
  have h := app1 hkx26 (Hb hi26 (Gy hb))
  refine H4 ?_
  obtain rfl := Option.some.inj h
  exact ⟨[], [(1069, .box 48 [OW 1070 6 Move.av s26]), (1070, .spare 53 6 s26.length s26.length)], ⟨⟨_, O, .boxL O ⟨.same O, trivial⟩⟩, ⟨_, O, .same⟩, trivial⟩, O, trivial, O, O⟩

def M_moves_call_2 (kind : Int) (l : List Int) (p2 : List Move) : Option (List Move) :=
 each (fun y26 i26 (s26 : (List Move)) nx26 =>
  need (decide ((s26.length + [(Move.mk kind 0 (Slot.mk 0 0 0) y26)].length) * 48 ≤ 140737488355328 ∧ s26.length + [(Move.mk kind 0 (Slot.mk 0 0 0) y26)].length ≤ maxLen)) <|
  nx26 (s26 ++ [(Move.mk kind 0 (Slot.mk 0 0 0) y26)]))
 (fun (s26 : (List Move)) =>
  some s26) l 0 p2
theorem M_moves_call_2_w (kind : Int) (l : List Int) (p2 : List Move) (r : (List Move)) (h : M_moves_call_2 kind l p2 = some r) : ACalls Tryz.prog 41 [U8 kind, LS 1 G0 l, .ptr 1069 0] [(1069, .box 48 [OW 1070 6 Move.av p2]), (1070, .spare 53 6 p2.length p2.length)] (fun av L' => av = .tup [] ∧ L' = [(1069, .box 48 [OW 1070 6 Move.av r]), (1070, .spare 53 6 r.length r.length)]) := by
 unfold M_moves_call_2 at h
 refine Hy [1069, 1070] [] Tryz.func41 O O (inAll O) ?_
 refine G6 fun K1 hK1 => G2 ?_
 refine JLg (LS 1 G0 l) (G7 O O) ?_
 refine H9 (f := G0) (xs := l) H0 O O (fun hm8 => ?_) O O O
 refine JLg (G0 0) (G7 O O) ?_
 refine G8 (hK1 _ _ ?_)
 refine Gi ?_
 obtain ⟨b26, kx26, hb26, hkx26, h⟩ := Hi h
 refine Gz (fun i26 (s26 : (List Move)) => each b26 kx26 (List.drop i26 l) i26 s26 = some r) (fun i26 s26 => [(0, U8 kind), (2, .ptr 1069 0), (7, LS 1 G0 l), (8, G0 (l.length : Int)), (9, G0 (i26 : Int))]) (fun i26 s26 => [(1070, .spare 53 6 s26.length s26.length), (1069, .box 48 [OW 1070 6 Move.av s26])]) (fun i26 => l.length - i26) 0 p2 h ⟨(by repeat' constructor), ⟨⟨_, rfl, .same⟩, ⟨_, rfl, .boxL rfl ⟨.same rfl, trivial⟩⟩, trivial⟩, rfl⟩ ?_
 clear h
 intro i26 s26 hi26 K26 e26
 refine G6 fun K27 hK27 => G2 ?_
 refine JLg (BL (decide ((i26 : Int) < (l.length : Int)))) (He O O O) ?_
 refine G8 (hK27 _ _ ?_)
 refine G6 (fun K28 hK28 => ?_)
 refine Gh O (fun hb => ?_) (fun hb => ?_)
 ·
  have hk26 := lt_len hb
  obtain ⟨y26, nx26, hy26, hn26, h⟩ := Ha hi26 hk26
  replace h := app4 hb26 h
  refine Gj ?_
  refine hK28 _ _ ?_
  refine G6 (fun K29 hK29 => ?_)
  refine Gi ?_
  refine G6 fun K30 hK30 => G2 ?_
  refine JLg (.dptr [G0 y26]) (Gw (f := G0) (xs := l) (y := y26) O O O H0 hy26 O) ?_
  refine JLg (G0 y26) (Gf Ga O O O) ?_
  refine JLg (G0 y26) (G9 O O) ?_
  refine G8 (hK30 _ _ ?_)
  refine G2 ?_
  refine JLg (OW 1070 6 Move.av s26) (Ht tf_scalar_48 O O O O) ?_
  refine JLg (U8 kind) (G7 O O) ?_
  refine JLg (G0 y26) (G7 O O) ?_
  refine JLg (.agg [U8 kind, G0 0, G0 0, G0 0, U8 0, G0 y26]) (H8 (cs := [U8 kind, G0 0, G0 0, G0 0, U8 0, G0 y26]) [(0, 1), (1, 1), (2, 3), (5, 1)] [U8 0, G0 0, G0 0, G0 0, U8 0, G0 0] [.int .u8 0, .int .i64 0, .int .i64 0, .int .i64 0, .int .u8 0, .int .i64 0] Jb Jm ⟨.inl O, .inl O, .inl O, .inl O, .inl O, .inl O, trivial⟩ O O) ?_
  refine JLg (LS 6 Move.av [(Move.mk kind 0 (Slot.mk 0 0 0) y26)]) (Gu (xs := [.agg [U8 kind, G0 0, G0 0, G0 0, U8 0, G0 y26]]) O ⟨O, O, trivial⟩ Ho Jk O O O O) ?_
  obtain ⟨ha31, h⟩ := Hq h
  refine JLg (OW 1070 6 Move.av (s26 ++ [(Move.mk kind 0 (Slot.mk 0 0 0) y26)])) (Jd (f := Move.av) (xs := s26) (ys := [(Move.mk kind 0 (Slot.mk 0 0 0) y26)]) O O O O Ho tf_elem_53 ha31 (fun _ => O) (.inl O) O) ?_
  refine H1 (u := .junk) (Gt (u := OW 1070 6 Move.av (s26 ++ [(Move.mk kind 0 (Slot.mk 0 0 0) y26)])) (ds := [OW 1070 6 Move.av (s26 ++ [(Move.mk kind 0 (Slot.mk 0 0 0) y26)])]) tf_size_48 O O O O O O O O) ?_
  refine G8 (hK29 _ _ ?_)
  refine G2 ?_
  refine JLg (G0 ((i26 + 1 : Nat) : Int)) (Hd (idx_succ hk26 hm8) O O O) ?_
  refine JLg (G0 ((i26 + 1 : Nat) : Int)) (G7 O O) ?_
  refine G8 ?_
  exact e26 _ _ (i26 + 1) (s26 ++ [(Move.mk kind 0 (Slot.mk 0 0 0) y26)]) (app1 hn26 h) (by omega) ⟨(by repeat' constructor), ⟨⟨_, rfl, .same⟩, ⟨_, rfl, .boxL rfl ⟨.same rfl, trivial⟩⟩, trivial⟩, rfl⟩
 ·
  have h := app1 hkx26 (Hb hi26 (Gy hb))
  refine H4 ?_
  obtain rfl := Option.some.inj h
  exact ⟨[], [(1069, .box 48 [OW 1070 6 Move.av s26]), (1070, .spare 53 6 s26.length s26.length)], ⟨⟨_, O, .boxL O ⟨.same O, trivial⟩⟩, ⟨_, O, .same⟩, trivial⟩, O, trivial, O, O⟩

def M_slices_Index_int (s : List Int) (v : Int) : Option Int :=
 each (fun y18 i18 (s18 : Unit) nx18 =>
  bif decide (v = y18) then
  (some (i18 : Int))
  else
  (nx18 ()))
 (fun (s18 : Unit) =>
  some (-1)) s 0 ()
theorem M_slices_Index_int_w (s : List Int) (v : Int) (r : Int) (h : M_slices_Index_int s v = some r) : Pure Tryz.prog 94 [LS 1 G0 s, G0 v] (· = G0 r) := by
 unfold M_slices_Index_int at h
 refine Gx [.tmp 4] Tryz.func94 O O ?_
 refine G6 fun K1 hK1 => G2 ?_
 refine JLg (G0 0) (G9 O O) ?_
 refine G8 (hK1 _ _ ?_)
 refine G6 (fun K2 hK2 => ?_)
 refine G6 fun K3 hK3 => G2 ?_
 refine JLg (LS 1 G0 s) (G7 O O) ?_
 refine H9 (f := G0) (xs := s) H0 O O (fun hm7 => ?_) O O O
 refine JLg (G0 0) (G7 O O) ?_
 refine G8 (hK3 _ _ ?_)
 refine Gi ?_
 obtain ⟨b18, kx18, hb18, hkx18, h⟩ := Hi h
 refine Gz (fun i18 (s18 : Unit) => each b18 kx18 (List.drop i18 s) i18 s18 = some r) (fun i18 s18 => [(0, LS 1 G0 s), (1, G0 v), (7, G0 (s.length : Int)), (8, G0 (i18 : Int))]) (fun i18 s18 => []) (fun i18 => s.length - i18) 0 () h ⟨(by repeat' constructor), trivial, rfl⟩ ?_
 clear h
 intro i18 s18 hi18 K18 e18
 refine G6 fun K19 hK19 => G2 ?_
 refine JLg (BL (decide ((i18 : Int) < (s.length : Int)))) (He O O O) ?_
 refine G8 (hK19 _ _ ?_)
 refine G6 (fun K20 hK20 => ?_)
 refine Gh O (fun hb => ?_) (fun hb => ?_)
 ·
  have hk18 := lt_len hb
  obtain ⟨y18, nx18, hy18, hn18, h⟩ := Ha hi18 hk18
  replace h := app4 hb18 h
  refine Gj ?_
  refine hK20 _ _ ?_
  refine G6 (fun K21 hK21 => ?_)
  refine Gi ?_
  refine G6 fun K22 hK22 => G2 ?_
  refine JLg (G0 (i18 : Int)) (G7 O O) ?_
  refine JLg (G0 (i18 : Int)) (G9 O O) ?_
  refine G8 (hK22 _ _ ?_)
  refine G6 fun K23 hK23 => G2 ?_
  refine JLg (G0 v) (G7 O O) ?_
  refine JLg (LS 1 G0 s) (G7 O O) ?_
  refine JLg (G0 (i18 : Int)) (G7 O O) ?_
  refine JLg (.dptr [G0 y18]) (Gw (f := G0) (xs := s) (y := y18) O O O H0 hy18 O) ?_
  refine JLg (G0 y18) (Gf Ga O O O) ?_
  refine JLg (BL (decide (v = y18))) (Hx O O O) ?_
  refine G8 (hK23 _ _ ?_)
  refine Gh O (fun hb => ?_) (fun hb => ?_)
  ·
   replace h := bif_t hb h
   refine G6 fun K24 hK24 => G2 ?_
   refine JLg (G0 (i18 : Int)) (G7 O O) ?_
   refine JLg (G0 (i18 : Int)) (G9 O O) ?_
   refine G8 (hK24 _ _ ?_)
   refine Gq ?_
   exact ⟨[G0 (i18 : Int)], [], trivial, O, ⟨⟨_, O, .conv (.same O)⟩, trivial⟩, O, congrArg (fun r : Int => (G0 r : AV)) (Option.some.inj h)⟩
  ·
   replace h := bif_f hb h
   refine Gj ?_
   refine hK21 _ _ ?_
   refine G2 ?_
   refine JLg (G0 ((i18 + 1 : Nat) : Int)) (Hd (idx_succ hk18 hm7) O O O) ?_
   refine JLg (G0 ((i18 + 1 : Nat) : Int)) (G7 O O) ?_
   refine G8 ?_
   exact e18 _ _ (i18 + 1) () (app1 hn18 h) (by omega) ⟨(by repeat' constructor), trivial, rfl⟩
 ·
  have h := app1 hkx18 (Hb hi18 (Gy hb))
  refine H4 ?_
  refine hK2 _ _ ?_
  refine G6 fun K25 hK25 => G2 ?_
  refine JLg (G0 (-1)) (G9 O O) ?_
  refine G8 (hK25 _ _ ?_)
  refine Gq ?_
  exact ⟨[G0 (-1)], [], trivial, O, ⟨⟨_, O, .conv (.same O)⟩, trivial⟩, O, congrArg (fun r : Int => (G0 r : AV)) (Option.some.inj h)⟩

def M_slices_Contains_int (s : List Int) (v : Int) : Option Bool :=
 bnd (M_slices_Index_int s v) fun r3 =>
 some (decide (0 ≤ r3))
theorem M_slices_Contains_int_w (s : List Int) (v : Int) (r : Bool) (h : M_slices_Contains_int s v = some r) : Pure Tryz.prog 63 [LS 1 G0 s, G0 v] (· = BL r) := by
 unfold M_slices_Contains_int at h
 refine Gx [.tmp 4] Tryz.func63 O O ?_
 refine G6 fun K1 hK1 => G2 ?_
 refine JLg (BL false) (G9 O O) ?_
 refine G8 (hK1 _ _ ?_)
 refine G6 fun K2 hK2 => G2 ?_
 refine JLg (LS 1 G0 s) (G7 O O) ?_
 refine JLg (G0 v) (G7 O O) ?_
 obtain ⟨r3, hr3, h⟩ := Ge h
 refine JLg (G0 r3) (Gr (args := [LS 1 G0 s, G0 v]) O (M_slices_Index_int_w s v r3 hr3) tf_call_94 ⟨O, O, O, O, trivial⟩) ?_
 refine JLg (BL (decide (0 ≤ r3))) (A_geq O O O) ?_
 refine JLg (BL (decide (0 ≤ r3))) (G9 O O) ?_
 refine G8 (hK2 _ _ ?_)
 refine Gq ?_
 exact ⟨[BL (decide (0 ≤ r3))], [], trivial, O, ⟨⟨_, O, .conv (.same O)⟩, trivial⟩, O, congrArg (fun r : Bool => (BL r : AV)) (Option.some.inj h)⟩

def M_cmp_isNaN_int (x : Int) : Option Bool :=
 some (decide (x ≠ x))
theorem M_cmp_isNaN_int_w (x : Int) (r : Bool) (h : M_cmp_isNaN_int x = some r) : Pure Tryz.prog 37 [G0 x] (· = BL r) := by
 unfold M_cmp_isNaN_int at h
 refine Gx [.tmp 2] Tryz.func37 O O ?_
 refine G6 fun K1 hK1 => G2 ?_
 refine JLg (BL false) (G9 O O) ?_
 refine G8 (hK1 _ _ ?_)
 refine G6 fun K2 hK2 => G2 ?_
 refine JLg (G0 x) (G7 O O) ?_
 refine JLg (G0 x) (G7 O O) ?_
 refine JLg (BL (decide (x ≠ x))) (A_neq O O O) ?_
 refine JLg (BL (decide (x ≠ x))) (G9 O O) ?_
 refine G8 (hK2 _ _ ?_)
 refine Gq ?_
 exact ⟨[BL (decide (x ≠ x))], [], trivial, O, ⟨⟨_, O, .conv (.same O)⟩, trivial⟩, O, congrArg (fun r : Bool => (BL r : AV)) (Option.some.inj h)⟩

def M_cmp_Compare_int (x : Int) (y : Int) : Option Int :=
 bnd (M_cmp_isNaN_int x) fun r3 =>
 bnd (M_cmp_isNaN_int y) fun r5 =>
 bif r3 then
 (bif r5 then
  (some 0)
  else
  (some (-1)))
 else
 (bif r5 then
  (some 1)
  else
  (bif decide (x < y) then
   (some (-1))
   else
   (bif decide (y < x) then
    (some 1)
    else
    (some 0))))
theorem M_cmp_Compare_int_w (x : Int) (y : Int) (r : Int) (h : M_cmp_Compare_int x y = some r) : Pure Tryz.prog 19 [G0 x, G0 y] (· = G0 r) := by
 unfold M_cmp_Compare_int at h
 refine Gx [.tmp 4] Tryz.func19 O O ?_
 refine G6 fun K1 hK1 => G2 ?_
 refine JLg (G0 0) (G9 O O) ?_
 refine G8 (hK1 _ _ ?_)
 refine G6 fun K2 hK2 => G2 ?_
 refine JLg (G0 x) (G7 O O) ?_
 obtain ⟨r3, hr3, h⟩ := Ge h
 refine JLg (BL r3) (Gr (args := [G0 x]) O (M_cmp_isNaN_int_w x r3 hr3) tf_call_37 ⟨O, O, trivial⟩) ?_
 refine JLg (BL r3) (G9 O O) ?_
 refine G8 (hK2 _ _ ?_)
 refine G6 fun K4 hK4 => G2 ?_
 refine JLg (G0 y) (G7 O O) ?_
 obtain ⟨r5, hr5, h⟩ := Ge h
 refine JLg (BL r5) (Gr (args := [G0 y]) O (M_cmp_isNaN_int_w y r5 hr5) tf_call_37 ⟨O, O, trivial⟩) ?_
 refine JLg (BL r5) (G9 O O) ?_
 refine G8 (hK4 _ _ ?_)
 refine G6 (fun K6 hK6 => ?_)
 refine G6 fun K7 hK7 => G2 ?_
 refine JLg (BL r3) (G7 O O) ?_
 refine G8 (hK7 _ _ ?_)
 refine Gh O (fun hb => ?_) (fun hb => ?_)
 ·
  replace h := bif_t hb h
  refine G6 (fun K8 hK8 => ?_)
  refine G6 fun K9 hK9 => G2 ?_
  refine JLg (BL r5) (G7 O O) ?_
  refine G8 (hK9 _ _ ?_)
  refine Gh O (fun hb => ?_) (fun hb => ?_)
  ·
   replace h := bif_t hb h
   refine G6 fun K10 hK10 => G2 ?_
   refine JLg (G0 0) (G9 O O) ?_
   refine G8 (hK10 _ _ ?_)
   refine Gq ?_
   exact ⟨[G0 0], [], trivial, O, ⟨⟨_, O, .conv (.same O)⟩, trivial⟩, O, congrArg (fun r : Int => (G0 r : AV)) (Option.some.inj h)⟩
  ·
   replace h := bif_f hb h
   refine Gj ?_
   refine hK8 _ _ ?_
   refine G6 fun K11 hK11 => G2 ?_
   refine JLg (G0 (-1)) (G9 O O) ?_
   refine G8 (hK11 _ _ ?_)
   refine Gq ?_
   exact ⟨[G0 (-1)], [], trivial, O, ⟨⟨_, O, .conv (.same O)⟩, trivial⟩, O, congrArg (fun r : Int => (G0 r : AV)) (Option.some.inj h)⟩
 ·
  replace h := bif_f hb h
  refine Gj ?_
  refine hK6 _ _ ?_
  refine G6 (fun K12 hK12 => ?_)
  refine G6 fun K13 hK13 => G2 ?_
  refine JLg (BL r5) (G7 O O) ?_
  refine G8 (hK13 _ _ ?_)
  refine Gh O (fun hb => ?_) (fun hb => ?_)
  ·
   replace h := bif_t hb h
   refine G6 fun K14 hK14 => G2 ?_
   refine JLg (G0 1) (G9 O O) ?_
   refine G8 (hK14 _ _ ?_)
   refine Gq ?_
   exact ⟨[G0 1], [], trivial, O, ⟨⟨_, O, .conv (.same O)⟩, trivial⟩, O, congrArg (fun r : Int => (G0 r : AV)) (Option.some.inj h)⟩
  ·
   replace h := bif_f hb h
   refine Gj ?_
   refine hK12 _ _ ?_
   refine G6 (fun K15 hK15 => ?_)
   refine G6 fun K16 hK16 => G2 ?_
   refine JLg (G0 x) (G7 O O) ?_
   refine JLg (G0 y) (G7 O O) ?_
   refine JLg (BL (decide (x < y))) (He O O O) ?_
   refine G8 (hK16 _ _ ?_)
   refine Gh O (fun hb => ?_) (fun hb => ?_)
   ·
    replace h := bif_t hb h
    refine G6 fun K17 hK17 => G2 ?_
    refine JLg (G0 (-1)) (G9 O O) ?_
    refine G8 (hK17 _ _ ?_)
    refine Gq ?_
    exact ⟨[G0 (-1)], [], trivial, O, ⟨⟨_, O, .conv (.same O)⟩, trivial⟩, O, congrArg (fun r : Int => (G0 r : AV)) (Option.some.inj h)⟩
   ·
    replace h := bif_f hb h
    refine Gj ?_
    refine hK15 _ _ ?_
    refine G6 (fun K18 hK18 => ?_)
    refine G6 fun K19 hK19 => G2 ?_
    refine JLg (G0 x) (G7 O O) ?_
    refine JLg (G0 y) (G7 O O) ?_
    refine JLg (BL (decide (y < x))) (A_gtr O O O) ?_
    refine G8 (hK19 _ _ ?_)
    refine Gh O (fun hb => ?_) (fun hb => ?_)
    ·
     replace h := bif_t hb h
     refine G6 fun K20 hK20 => G2 ?_
     refine JLg (G0 1) (G9 O O) ?_
     refine G8 (hK20 _ _ ?_)
     refine Gq ?_
     exact ⟨[G0 1], [], trivial, O, ⟨⟨_, O, .conv (.same O)⟩, trivial⟩, O, congrArg (fun r : Int => (G0 r : AV)) (Option.some.inj h)⟩
    ·
     replace h := bif_f hb h
     refine Gj ?_
     refine hK18 _ _ ?_
     refine G6 fun K21 hK21 => G2 ?_
     refine JLg (G0 0) (G9 O O) ?_
     refine G8 (hK21 _ _ ?_)
     refine Gq ?_
     exact ⟨[G0 0], [], trivial, O, ⟨⟨_, O, .conv (.same O)⟩, trivial⟩, O, congrArg (fun r : Int => (G0 r : AV)) (Option.some.inj h)⟩

def M_cmp_isNaN_uint8 (x : Int) : Option Bool :=
 some (decide (x ≠ x))
theorem M_cmp_isNaN_uint8_w (x : Int) (r : Bool) (h : M_cmp_isNaN_uint8 x = some r) : Pure Tryz.prog 120 [U8 x] (· = BL r) := by
 unfold M_cmp_isNaN_uint8 at h
 refine Gx [.tmp 2] Tryz.func120 O O ?_
 refine G6 fun K1 hK1 => G2 ?_
 refine JLg (BL false) (G9 O O) ?_
 refine G8 (hK1 _ _ ?_)
 refine G6 fun K2 hK2 => G2 ?_
 refine JLg (U8 x) (G7 O O) ?_
 refine JLg (U8 x) (G7 O O) ?_
 refine JLg (BL (decide (x ≠ x))) (A_neq O O O) ?_
 refine JLg (BL (decide (x ≠ x))) (G9 O O) ?_
 refine G8 (hK2 _ _ ?_)
 refine Gq ?_
 exact ⟨[BL (decide (x ≠ x))], [], trivial, O, ⟨⟨_, O, .conv (.same O)⟩, trivial⟩, O, congrArg (fun r : Bool => (BL r : AV)) (Option.some.inj h)⟩

def M_cmp_Compare_uint8 (x : Int) (y : Int) : Option Int :=
 bnd (M_cmp_isNaN_uint8 x) fun r3 =>
 bnd (M_cmp_isNaN_uint8 y) fun r5 =>
 bif r3 then
 (bif r5 then
  (some 0)
  else
  (some (-1)))
 else
 (bif r5 then
  (some 1)
  else
  (bif decide (x < y) then
   (some (-1))
   else
   (bif decide (y < x) then
    (some 1)
    else
    (some 0))))
theorem M_cmp_Compare_uint8_w (x : Int) (y : Int) (r : Int) (h : M_cmp_Compare_uint8 x y = some r) : Pure Tryz.prog 96 [U8 x, U8 y] (· = G0 r) := by
 unfold M_cmp_Compare_uint8 at h
 refine Gx [.tmp 4] Tryz.func96 O O ?_
 refine G6 fun K1 hK1 => G2 ?_
 refine JLg (G0 0) (G9 O O) ?_
 refine G8 (hK1 _ _ ?_)
 refine G6 fun K2 hK2 => G2 ?_
 refine JLg (U8 x) (G7 O O) ?_
 obtain ⟨r3, hr3, h⟩ := Ge h
 refine JLg (BL r3) (Gr (args := [U8 x]) O (M_cmp_isNaN_uint8_w x r3 hr3) tf_call_120 ⟨O, O, trivial⟩) ?_
 refine JLg (BL r3) (G9 O O) ?_
 refine G8 (hK2 _ _ ?_)
 refine G6 fun K4 hK4 => G2 ?_
 refine JLg (U8 y) (G7 O O) ?_
 obtain ⟨r5, hr5, h⟩ := Ge h
 refine JLg (BL r5) (Gr (args := [U8 y]) O (M_cmp_isNaN_uint8_w y r5 hr5) tf_call_120 ⟨O, O, trivial⟩) ?_
 refine JLg (BL r5) (G9 O O) ?_
 refine G8 (hK4 _ _ ?_)
 refine G6 (fun K6 hK6 => ?_)
 refine G6 fun K7 hK7 => G2 ?_
 refine JLg (BL r3) (G7 O O) ?_
 refine G8 (hK7 _ _ ?_)
 refine Gh O (fun hb => ?_) (fun hb => ?_)
 ·
  replace h := bif_t hb h
  refine G6 (fun K8 hK8 => ?_)
  refine G6 fun K9 hK9 => G2 ?_
  refine JLg (BL r5) (G7 O O) ?_
  refine G8 (hK9 _ _ ?_)
  refine Gh O (fun hb => ?_) (fun hb => ?_)
  ·
   replace h := bif_t hb h
   refine G6 fun K10 hK10 => G2 ?_
   refine JLg (G0 0) (G9 O O) ?_
   refine G8 (hK10 _ _ ?_)
   refine Gq ?_
   exact ⟨[G0 0], [], trivial, O, ⟨⟨_, O, .conv (.same O)⟩, trivial⟩, O, congrArg (fun r : Int => (G0 r : AV)) (Option.some.inj h)⟩
  ·
   replace h := bif_f hb h
   refine Gj ?_
   refine hK8 _ _ ?_
   refine G6 fun K11 hK11 => G2 ?_
   refine JLg (G0 (-1)) (G9 O O) ?_
   refine G8 (hK11 _ _ ?_)
   refine Gq ?_
   exact ⟨[G0 (-1)], [], trivial, O, ⟨⟨_, O, .conv (.same O)⟩, trivial⟩, O, congrArg (fun r : Int => (G0 r : AV)) (Option.some.inj h)⟩
 ·
  replace h := bif_f hb h
  refine Gj ?_
  refine hK6 _ _ ?_
  refine G6 (fun K12 hK12 => ?_)
  refine G6 fun K13 hK13 => G2 ?_
  refine JLg (BL r5) (G7 O O) ?_
  refine G8 (hK13 _ _ ?_)
  refine Gh O (fun hb => ?_) (fun hb => ?_)
  ·
   replace h := bif_t hb h
   refine G6 fun K14 hK14 => G2 ?_
   refine JLg (G0 1) (G9 O O) ?_
   refine G8 (hK14 _ _ ?_)
   refine Gq ?_
   exact ⟨[G0 1], [], trivial, O, ⟨⟨_, O, .conv (.same O)⟩, trivial⟩, O, congrArg (fun r : Int => (G0 r : AV)) (Option.some.inj h)⟩
  ·
   replace h := bif_f hb h
   refine Gj ?_
   refine hK12 _ _ ?_
   refine G6 (fun K15 hK15 => ?_)
   refine G6 fun K16 hK16 => G2 ?_
   refine JLg (U8 x) (G7 O O) ?_
   refine JLg (U8 y) (G7 O O) ?_
   refine JLg (BL (decide (x < y))) (He O O O) ?_
   refine G8 (hK16 _ _ ?_)
   refine Gh O (fun hb => ?_) (fun hb => ?_)
   ·
    replace h := bif_t hb h
    refine G6 fun K17 hK17 => G2 ?_
    refine JLg (G0 (-1)) (G9 O O) ?_
    refine G8 (hK17 _ _ ?_)
    refine Gq ?_
    exact ⟨[G0 (-1)], [], trivial, O, ⟨⟨_, O, .conv (.same O)⟩, trivial⟩, O, congrArg (fun r : Int => (G0 r : AV)) (Option.some.inj h)⟩
   ·
    replace h := bif_f hb h
    refine Gj ?_
    refine hK15 _ _ ?_
    refine G6 (fun K18 hK18 => ?_)
    refine G6 fun K19 hK19 => G2 ?_
    refine JLg (U8 x) (G7 O O) ?_
    refine JLg (U8 y) (G7 O O) ?_
    refine JLg (BL (decide (y < x))) (A_gtr O O O) ?_
    refine G8 (hK19 _ _ ?_)
    refine Gh O (fun hb => ?_) (fun hb => ?_)
    ·
     replace h := bif_t hb h
     refine G6 fun K20 hK20 => G2 ?_
     refine JLg (G0 1) (G9 O O) ?_
     refine G8 (hK20 _ _ ?_)
     refine Gq ?_
     exact ⟨[G0 1], [], trivial, O, ⟨⟨_, O, .conv (.same O)⟩, trivial⟩, O, congrArg (fun r : Int => (G0 r : AV)) (Option.some.inj h)⟩
    ·
     replace h := bif_f hb h
     refine Gj ?_
     refine hK18 _ _ ?_
     refine G6 fun K21 hK21 => G2 ?_
     refine JLg (G0 0) (G9 O O) ?_
     refine G8 (hK21 _ _ ?_)
     refine Gq ?_
     exact ⟨[G0 0], [], trivial, O, ⟨⟨_, O, .conv (.same O)⟩, trivial⟩, O, congrArg (fun r : Int => (G0 r : AV)) (Option.some.inj h)⟩

def M_cmp_Or_int (vals : List Int) : Option Int :=
 each (fun y19 i19 (s19 : Unit) nx19 =>
  bif decide (y19 ≠ 0) then
  (some y19)
  else
  (nx19 ()))
 (fun (s19 : Unit) =>
  some 0) vals 0 ()
theorem M_cmp_Or_int_w (vals : List Int) (r : Int) (h : M_cmp_Or_int vals = some r) : Pure Tryz.prog 18 [LS 1 G0 vals] (· = G0 r) := by
 unfold M_cmp_Or_int at h
 refine Gx [.tmp 2] Tryz.func18 O O ?_
 refine G6 fun K1 hK1 => G2 ?_
 refine JLg (G0 0) (G9 O O) ?_
 refine G8 (hK1 _ _ ?_)
 refine G6 fun K2 hK2 => G2 ?_
 refine JLg (G0 0) (G9 O O) ?_
 refine G8 (hK2 _ _ ?_)
 refine G6 (fun K3 hK3 => ?_)
 refine G6 fun K4 hK4 => G2 ?_
 refine JLg (LS 1 G0 vals) (G7 O O) ?_
 refine H9 (f := G0) (xs := vals) H0 O O (fun hm7 => ?_) O O O
 refine JLg (G0 0) (G7 O O) ?_
 refine G8 (hK4 _ _ ?_)
 refine Gi ?_
 obtain ⟨b19, kx19, hb19, hkx19, h⟩ := Hi h
 refine Gz (fun i19 (s19 : Unit) => each b19 kx19 (List.drop i19 vals) i19 s19 = some r) (fun i19 s19 => [(3, G0 0), (6, LS 1 G0 vals), (7, G0 (vals.length : Int)), (8, G0 (i19 : Int))]) (fun i19 s19 => []) (fun i19 => vals.length - i19) 0 () h ⟨(by repeat' constructor), trivial, rfl⟩ ?_
 clear h
 intro i19 s19 hi19 K19 e19
 refine G6 fun K20 hK20 => G2 ?_
 refine JLg (BL (decide ((i19 : Int) < (vals.length : Int)))) (He O O O) ?_
 refine G8 (hK20 _ _ ?_)
 refine G6 (fun K21 hK21 => ?_)
 refine Gh O (fun hb => ?_) (fun hb => ?_)
 ·
  have hk19 := lt_len hb
  obtain ⟨y19, nx19, hy19, hn19, h⟩ := Ha hi19 hk19
  replace h := app4 hb19 h
  refine Gj ?_
  refine hK21 _ _ ?_
  refine G6 (fun K22 hK22 => ?_)
  refine Gi ?_
  refine G6 fun K23 hK23 => G2 ?_
  refine JLg (.dptr [G0 y19]) (Gw (f := G0) (xs := vals) (y := y19) O O O H0 hy19 O) ?_
  refine JLg (G0 y19) (Gf Ga O O O) ?_
  refine JLg (G0 y19) (G9 O O) ?_
  refine G8 (hK23 _ _ ?_)
  refine G6 fun K24 hK24 => G2 ?_
  refine JLg (G0 y19) (G7 O O) ?_
  refine JLg (G0 0) (G7 O O) ?_
  refine JLg (BL (decide (y19 ≠ 0))) (A_neq O O O) ?_
  refine G8 (hK24 _ _ ?_)
  refine Gh O (fun hb => ?_) (fun hb => ?_)
  ·
   replace h := bif_t hb h
   refine G6 fun K25 hK25 => G2 ?_
   refine JLg (G0 y19) (G7 O O) ?_
   refine JLg (G0 y19) (G9 O O) ?_
   refine G8 (hK25 _ _ ?_)
   refine Gq ?_
   exact ⟨[G0 y19], [], trivial, O, ⟨⟨_, O, .conv (.same O)⟩, trivial⟩, O, congrArg (fun r : Int => (G0 r : AV)) (Option.some.inj h)⟩
  ·
   replace h := bif_f hb h
   refine Gj ?_
   refine hK22 _ _ ?_
   refine G2 ?_
   refine JLg (G0 ((i19 + 1 : Nat) : Int)) (Hd (idx_succ hk19 hm7) O O O) ?_
   refine JLg (G0 ((i19 + 1 : Nat) : Int)) (G7 O O) ?_
   refine G8 ?_
   exact e19 _ _ (i19 + 1) () (app1 hn19 h) (by omega) ⟨(by repeat' constructor), trivial, rfl⟩
 ·
  have h := app1 hkx19 (Hb hi19 (Gy hb))
  refine H4 ?_
  refine hK3 _ _ ?_
  refine G6 fun K26 hK26 => G2 ?_
  refine JLg (G0 0) (G7 O O) ?_
  refine JLg (G0 0) (G9 O O) ?_
  refine G8 (hK26 _ _ ?_)
  refine Gq ?_
  exact ⟨[G0 0], [], trivial, O, ⟨⟨_, O, .conv (.same O)⟩, trivial⟩, O, congrArg (fun r : Int => (G0 r : AV)) (Option.some.inj h)⟩

def M_slot_Compare (a : Slot) (b : Slot) : Option Int :=
 bnd (M_cmp_Compare_int a.G5 b.G5) fun r3 =>
 bnd (M_cmp_Compare_int a.Tier b.Tier) fun r4 =>
 bnd (M_cmp_Compare_uint8 a.Half b.Half) fun r5 =>
 bnd (M_cmp_Or_int [r3, r4, r5]) fun r6 =>
 some r6
theorem M_slot_Compare_w (a : Slot) (b : Slot) (r : Int) (h : M_slot_Compare a b = some r) : Pure Tryz.prog 66 [.agg [G0 a.G5, G0 a.Tier, U8 a.Half], .agg [G0 b.G5, G0 b.Tier, U8 b.Half]] (· = G0 r) := by
 unfold M_slot_Compare at h
 refine Gx [.tmp 4] Tryz.func66 O O ?_
 refine G6 fun K1 hK1 => G2 ?_
 refine JLg (.ptr 1142 0) (J1 (u := .agg [G0 a.G5, G0 a.Tier, U8 a.Half]) (cs := [G0 a.G5, G0 a.Tier, U8 a.Half]) 1142 O O O O O) ?_
 refine JLg (.ptr 1143 0) (J1 (u := .agg [G0 b.G5, G0 b.Tier, U8 b.Half]) (cs := [G0 b.G5, G0 b.Tier, U8 b.Half]) 1143 O O O O O) ?_
 refine JLg (G0 0) (G9 O O) ?_
 refine G8 (hK1 _ _ ?_)
 refine Gm [(2, .dptr [G0 a.G5, G0 a.Tier, U8 a.Half]), (3, .ptr 1143 0)] [(1143, .box 51 [G0 b.G5, G0 b.Tier, U8 b.Half])] 1142 rfl rfl rfl ⟨⟨_, rfl, .boxEq rfl rfl⟩, trivial⟩ rfl (by exact ⟨.ptr, .conv (.same rfl), trivial⟩) ?_
 refine Gm [(2, .dptr [G0 a.G5, G0 a.Tier, U8 a.Half]), (3, .dptr [G0 b.G5, G0 b.Tier, U8 b.Half])] [] 1143 rfl rfl rfl trivial rfl (by exact ⟨.conv (.same rfl), .ptr, trivial⟩) ?_
 refine G6 (fun K2 hK2 => ?_)
 obtain ⟨r3, hr3, h⟩ := Ge h
 obtain ⟨r4, hr4, h⟩ := Ge h
 obtain ⟨r5, hr5, h⟩ := Ge h
 obtain ⟨r6, hr6, h⟩ := Ge h
 refine Jc [] [0, 0, 0, 0, 0, 0, 0, 0, 0, 0, 0, 0, 0, 0, 0, 0, 0, 0] [0, 0, 0, 0, 0, 0, 0, 0, 0, 0, 0, 0, 0, 0, 0, 0, 0, 0] [[]] J5 (by kernel_rfl) rfl rfl ?_
 refine Gn (u := .dptr [G0 a.G5, G0 a.Tier, U8 a.Half]) O O ⟨Gp (Gb Hh O O O) O, trivial⟩ ?_
 refine Gn (u := G0 a.G5) O O ⟨Gp (Gf Ga O O O) O, trivial⟩ ?_
 refine Gn (u := .dptr [G0 b.G5, G0 b.Tier, U8 b.Half]) O O ⟨Gp (Gb Hh O O O) O, trivial⟩ ?_
 refine Gn (u := G0 b.G5) O O ⟨Gp (Gf Ga O O O) O, trivial⟩ ?_
 refine Gn (u := G0 r3) O O ⟨Gp (Gr (args := [G0 a.G5, G0 b.G5]) O (M_cmp_Compare_int_w a.G5 b.G5 r3 hr3) tf_call_19 ⟨O, O, O, O, trivial⟩) O, trivial⟩ ?_
 refine Gn (u := .dptr [G0 a.Tier, U8 a.Half]) O O ⟨Gp (Gb Hz O O O) O, trivial⟩ ?_
 refine Gn (u := G0 a.Tier) O O ⟨Gp (Gf Ga O O O) O, trivial⟩ ?_
 refine Gn (u := .dptr [G0 b.Tier, U8 b.Half]) O O ⟨Gp (Gb Hz O O O) O, trivial⟩ ?_
 refine Gn (u := G0 b.Tier) O O ⟨Gp (Gf Ga O O O) O, trivial⟩ ?_
 refine Gn (u := G0 r4) O O ⟨Gp (Gr (args := [G0 a.Tier, G0 b.Tier]) O (M_cmp_Compare_int_w a.Tier b.Tier r4 hr4) tf_call_19 ⟨O, O, O, O, trivial⟩) O, trivial⟩ ?_
 refine Gn (u := .dptr [U8 a.Half]) O O ⟨Gp (Gb Jg O O O) O, trivial⟩ ?_
 refine Gn (u := U8 a.Half) O O ⟨Gp (Gf H7 O O O) O, trivial⟩ ?_
 refine Gn (u := .dptr [U8 b.Half]) O O ⟨Gp (Gb Jg O O O) O, trivial⟩ ?_
 refine Gn (u := U8 b.Half) O O ⟨Gp (Gf H7 O O O) O, trivial⟩ ?_
 refine Gn (u := G0 r5) O O ⟨Gp (Gr (args := [U8 a.Half, U8 b.Half]) O (M_cmp_Compare_uint8_w a.Half b.Half r5 hr5) tf_call_96 ⟨O, O, O, O, trivial⟩) O, trivial⟩ ?_
 refine Gn (u := LS 1 G0 [r3, r4, r5]) O O ⟨Gp (Gu (xs := [G0 r3, G0 r4, G0 r5]) O ⟨O, O, O, O, O, O, trivial⟩ H0 Jr O O O O) O, trivial⟩ ?_
 refine Gn (u := G0 r6) O O ⟨Gp (Gr (args := [LS 1 G0 [r3, r4, r5]]) O (M_cmp_Or_int_w [r3, r4, r5] r6 hr6) tf_call_18 ⟨O, O, trivial⟩) O, trivial⟩ ?_
 refine Gn (u := G0 r6) O O ⟨Gp (G9 O O) O, trivial⟩ ?_
 refine D_nil ?_
 refine hK2 _ _ ?_
 refine Gq ?_
 exact ⟨[G0 r6], [], trivial, O, ⟨⟨_, O, .conv (.same O)⟩, trivial⟩, O, congrArg (fun r : Int => (G0 r : AV)) (Option.some.inj h)⟩

def M_moves_part_1 (a : G3) (b : G3) : Option Int :=
 bnd (M_cmp_Compare_int a.Slot.Tier b.Slot.Tier) fun r3 =>
 bnd (M_slot_Compare a.Slot b.Slot) fun r4 =>
 bnd (M_cmp_Or_int [r3, r4]) fun r5 =>
 some r5
theorem M_moves_part_1_w (a : G3) (b : G3) (r : Int) (h : M_moves_part_1 a b = some r) : Pure Tryz.prog 65 [.agg (G3.cs a), .agg (G3.cs b)] (· = G0 r) := by
 unfold M_moves_part_1 at h
 refine Gx [.tmp 4] Tryz.func65 O O ?_
 refine G6 fun K1 hK1 => G2 ?_
 refine JLg (.ptr 1140 0) (J1 (u := .agg (G3.cs a)) (cs := [G0 a.Box, G0 a.Slot.G5, G0 a.Slot.Tier, U8 a.Slot.Half]) 1140 O O O O O) ?_
 refine JLg (.ptr 1141 0) (J1 (u := .agg (G3.cs b)) (cs := [G0 b.Box, G0 b.Slot.G5, G0 b.Slot.Tier, U8 b.Slot.Half]) 1141 O O O O O) ?_
 refine JLg (G0 0) (G9 O O) ?_
 refine G8 (hK1 _ _ ?_)
 refine Gm [(2, .dptr (G3.cs a)), (3, .ptr 1141 0)] [(1141, .box 68 [G0 b.Box, G0 b.Slot.G5, G0 b.Slot.Tier, U8 b.Slot.Half])] 1140 rfl rfl rfl ⟨⟨_, rfl, .boxEq rfl rfl⟩, trivial⟩ rfl (by exact ⟨.ptr, .conv (.same rfl), trivial⟩) ?_
 refine Gm [(2, .dptr (G3.cs a)), (3, .dptr (G3.cs b))] [] 1141 rfl rfl rfl trivial rfl (by exact ⟨.conv (.same rfl), .ptr, trivial⟩) ?_
 refine G6 (fun K2 hK2 => ?_)
 obtain ⟨r3, hr3, h⟩ := Ge h
 obtain ⟨r4, hr4, h⟩ := Ge h
 obtain ⟨r5, hr5, h⟩ := Ge h
 refine Jc [] [0, 0, 0, 0, 0, 0, 0, 0, 0, 0, 0, 0, 0, 0, 0] [0, 0, 0, 0, 0, 0, 0, 0, 0, 0, 0, 0, 0, 0, 0] [[]] J5 (by kernel_rfl) rfl rfl ?_
 refine Gn (u := .dptr (Slot.cs a.Slot)) O O ⟨Gp (Gb Hg O O O) O, trivial⟩ ?_
 refine Gn (u := .dptr [G0 a.Slot.Tier, U8 a.Slot.Half]) O O ⟨Gp (Gb Hz O O O) O, trivial⟩ ?_
 refine Gn (u := G0 a.Slot.Tier) O O ⟨Gp (Gf Ga O O O) O, trivial⟩ ?_
 refine Gn (u := .dptr (Slot.cs b.Slot)) O O ⟨Gp (Gb Hg O O O) O, trivial⟩ ?_
 refine Gn (u := .dptr [G0 b.Slot.Tier, U8 b.Slot.Half]) O O ⟨Gp (Gb Hz O O O) O, trivial⟩ ?_
 refine Gn (u := G0 b.Slot.Tier) O O ⟨Gp (Gf Ga O O O) O, trivial⟩ ?_
 refine Gn (u := G0 r3) O O ⟨Gp (Gr (args := [G0 a.Slot.Tier, G0 b.Slot.Tier]) O (M_cmp_Compare_int_w a.Slot.Tier b.Slot.Tier r3 hr3) tf_call_19 ⟨O, O, O, O, trivial⟩) O, trivial⟩ ?_
 refine Gn (u := .dptr (Slot.cs a.Slot)) O O ⟨Gp (Gb Hg O O O) O, trivial⟩ ?_
 refine Gn (u := .agg (Slot.cs a.Slot)) O O ⟨Gp (Gg Hr O O O) O, trivial⟩ ?_
 refine Gn (u := .dptr (Slot.cs b.Slot)) O O ⟨Gp (Gb Hg O O O) O, trivial⟩ ?_
 refine Gn (u := .agg (Slot.cs b.Slot)) O O ⟨Gp (Gg Hr O O O) O, trivial⟩ ?_
 refine Gn (u := G0 r4) O O ⟨Gp (Gr (args := [.agg (Slot.cs a.Slot), .agg (Slot.cs b.Slot)]) O (M_slot_Compare_w a.Slot b.Slot r4 hr4) tf_call_66 ⟨O, O, O, O, trivial⟩) O, trivial⟩ ?_
 refine Gn (u := LS 1 G0 [r3, r4]) O O ⟨Gp (Gu (xs := [G0 r3, G0 r4]) O ⟨O, O, O, O, trivial⟩ H0 Jr O O O O) O, trivial⟩ ?_
 refine Gn (u := G0 r5) O O ⟨Gp (Gr (args := [LS 1 G0 [r3, r4]]) O (M_cmp_Or_int_w [r3, r4] r5 hr5) tf_call_18 ⟨O, O, trivial⟩) O, trivial⟩ ?_
 refine Gn (u := G0 r5) O O ⟨Gp (G9 O O) O, trivial⟩ ?_
 refine D_nil ?_
 refine hK2 _ _ ?_
 refine Gq ?_
 exact ⟨[G0 r5], [], trivial, O, ⟨⟨_, O, .conv (.same O)⟩, trivial⟩, O, congrArg (fun r : Int => (G0 r : AV)) (Option.some.inj h)⟩

def M_slices_insertionSortCmpFunc_apiStowed (F : Nat) (data : List G3) (a : Int) (b : Int) (cmp : G3 → G3 → Option Int) : Option (List G3) :=
 chk (a + 1) fun v2 =>
 loop (fun nx3 (s3 : Int × (List G3)) =>
  bif decide (s3.1 < b) then
  (loop (fun nx58 (s58 : Int × (List G3)) =>
    bnd (bif decide (a < s58.1) then gidx s58.2 s58.1 some else some default) fun y61 =>
    bnd (bif decide (a < s58.1) then chk (s58.1 - 1) some else some 0) fun v62 =>
    bnd (bif decide (a < s58.1) then gidx s58.2 v62 some else some default) fun y63 =>
    bnd (bif decide (a < s58.1) then cmp y61 y63 else some default) fun r64 =>
    bif ((decide (a < s58.1)) && (decide (r64 < 0))) then
    (chk (s58.1 - 1) fun v66 =>
     chk (s58.1 - 1) fun v67 =>
     gidx s58.2 v67 fun y68 =>
     gidx s58.2 s58.1 fun y69 =>
     gidx s58.2 s58.1 fun y70 =>
     gidx (s58.2.set s58.1.toNat y68) v66 fun y71 =>
     chk (s58.1 - 1) fun v72 =>
     nx58 (v72, ((s58.2.set s58.1.toNat y68).set v66.toNat y69)))
    else
    (chk (s3.1 + 1) fun v73 =>
     nx3 (v73, s58.2))) F (s3.1, s3.2))
  else
  (some s3.2)) F (v2, data)
theorem M_slices_insertionSortCmpFunc_apiStowed_p440000011 (F : Nat) (data : List G3) (data_q : Nat) (a : Int) (b : Int) (cmp : G3 → G3 → Option Int) (cmp_f : FuncId) (cmp_c : List AV) (cmp_B : callB Tryz.prog cmp_f = true) (cmp_d : refsL (fun _ => false) cmp_c = true) (cmp_w : ∀ a0 a1 q, cmp a0 a1 = some q → Pure Tryz.prog cmp_f ([.agg (G3.cs a0), .agg (G3.cs a1)] ++ cmp_c) (· = G0 q)) (r : (List G3)) (h : M_slices_insertionSortCmpFunc_apiStowed F data a b cmp = some r) : ACalls Tryz.prog 117 [.vec 1107 data_q 4 data.length, G0 a, G0 b, .fn cmp_f cmp_c] [(1107, .vec 68 4 data_q (data.map G3.av))] (fun av L' => av = .tup [] ∧ L' = [(1107, .vec 68 4 data_q (r.map G3.av))]) := by
 unfold M_slices_insertionSortCmpFunc_apiStowed at h
 refine Hy [1107] [] Tryz.func117 O O (inAll O) ?_
 refine G6 fun K1 hK1 => G2 ?_
 refine JLg (G0 a) (G7 O O) ?_
 obtain ⟨v2, hv2, h⟩ := H6 h
 refine JLg (G0 v2) (Hd hv2 O O O) ?_
 refine JLg (G0 v2) (G9 O O) ?_
 refine G8 (hK1 _ _ ?_)
 refine Gi ?_
 obtain ⟨b3, hb3, h⟩ := loop_in h
 refine Gz (fun i3 (s3 : Int × (List G3)) => loop b3 i3 s3 = some r) (fun i3 s3 => [(0, .vec 1107 data_q 4 data.length), (1, G0 a), (2, G0 b), (3, .fn cmp_f cmp_c), (8, G0 s3.1)]) (fun i3 s3 => [(1107, .vec 68 4 data_q (s3.2.map G3.av))]) (fun i3 => i3) F (v2, data) h ⟨⟨.same O, .same O, .same O, .same (refsL_any _ _ cmp_d), .same O, trivial⟩, ⟨⟨_, O, .vec⟩, trivial⟩, O⟩ ?_
 clear h
 intro i3 s3 hi3 K3 e3
 obtain ⟨m3, nx3, hm_3, hn3, h⟩ := loop_out hi3
 replace h := app2 hb3 h
 refine G6 (fun K4 hK4 => ?_)
 refine G6 fun K5 hK5 => G2 ?_
 refine JLg (G0 s3.1) (G7 O O) ?_
 refine JLg (G0 b) (G7 O O) ?_
 refine JLg (BL (decide (s3.1 < b))) (He O O O) ?_
 refine G8 (hK5 _ _ ?_)
 refine Gh O (fun hb => ?_) (fun hb => ?_)
 ·
  replace h := bif_t hb h
  refine Gj ?_
  refine hK4 _ _ ?_
  refine G6 (fun K6 hK6 => ?_)
  refine Gi ?_
  refine G6 fun K7 hK7 => G2 ?_
  refine JLg (G0 s3.1) (G7 O O) ?_
  refine JLg (G0 s3.1) (G9 O O) ?_
  refine G8 (hK7 _ _ ?_)
  refine Gi ?_
  obtain ⟨b58, hb58, h⟩ := loop_in h
  refine Gz (fun i58 (s58 : Int × (List G3)) => loop b58 i58 s58 = some r) (fun i58 s58 => [(0, .vec 1107 data_q 4 data.length), (1, G0 a), (2, G0 b), (3, .fn cmp_f cmp_c), (8, G0 s3.1), (9, G0 s58.1)]) (fun i58 s58 => [(1107, .vec 68 4 data_q (s58.2.map G3.av))]) (fun i58 => i58) F (s3.1, s3.2) h ⟨⟨.same O, .same O, .same O, .same (refsL_any _ _ cmp_d), .same O, .same O, trivial⟩, ⟨⟨_, O, .vec⟩, trivial⟩, O⟩ ?_
  clear h
  intro i58 s58 hi58 K58 e58
  obtain ⟨m58, nx58, hm_58, hn58, h⟩ := loop_out hi58
  replace h := app2 hb58 h
  refine G6 (fun K59 hK59 => ?_)
  refine G6 (fun K60 hK60 => ?_)
  refine Ju (l' := [(0, .vec 1107 data_q 4 data.length), (1, G0 a), (2, G0 b), (3, .fn cmp_f cmp_c), (8, G0 s3.1), (9, G0 s58.1)]) (L' := [(1107, .vec 68 4 data_q (s58.2.map G3.av))]) ⟨⟨.same O, .same O, .same O, .same (refsL_any _ _ cmp_d), .same O, .same O, trivial⟩, ⟨⟨_, O, .vec⟩, trivial⟩, O⟩ ?_
  obtain ⟨y61, hy61, h⟩ := Ge h
  obtain ⟨v62, hv62, h⟩ := Ge h
  obtain ⟨y63, hy63, h⟩ := Ge h
  obtain ⟨r64, hr64, h⟩ := Ge h
  refine Jc [] [0, 0, 0, 0, 0, 0, 0, 0, 0, 0, 0, 0, 0, 0, 0, 0, 0] [0, 0, 0, 0, 0, 0, 0, 0, 0, 0, 0, 0, 0, 0, 0, 0, 0] [[(1107, .vec 68 4 data_q (s58.2.map G3.av))]] J5 (by kernel_rfl) rfl rfl ?_
  refine Gn (u := G0 s58.1) O O ⟨Gp (G7 O O) O, trivial⟩ ?_
  refine Gn (u := G0 a) O O ⟨Gp (G7 O O) O, trivial⟩ ?_
  refine Gn (u := BL (decide (a < s58.1))) O O ⟨Gp (A_gtr O O O) O, trivial⟩ ?_
  refine Gn (u := BL (decide (a < s58.1))) O O ⟨Gp (G7 O O) O, trivial⟩ ?_
  refine Gn (u := .opt (decide (a < s58.1)) (.fn cmp_f cmp_c)) O O ⟨H3 [] O O O .sct trivial (fun hc => G7 O O) O, trivial⟩ ?_
  refine Gn (u := .opt (decide (a < s58.1)) (.vec 1107 data_q 4 data.length)) O O ⟨H3 [] O O O .sct trivial (fun hc => G7 O O) O, trivial⟩ ?_
  refine Gn (u := .opt (decide (a < s58.1)) (G0 s58.1)) O O ⟨H3 [] O O O .sct trivial (fun hc => G7 O O) O, trivial⟩ ?_
  refine Gn (u := .opt (decide (a < s58.1)) (.vptr 1107 data_q s58.1.toNat 0)) O O ⟨H3 [(23, .vec 1107 data_q 4 data.length), (24, G0 s58.1)] O O O .sct ⟨.all id, .all id, trivial⟩ (fun hc => Jz (f := G3.av) (xs := s58.2) (y := y61) O O O O Gs (Js (bif_t hc hy61)) (gidx_some1 (bif_t hc hy61))) O, trivial⟩ ?_
  refine Gn (u := .opt (decide (a < s58.1)) (.agg (G3.cs y61))) O O ⟨H3 [(25, .vptr 1107 data_q s58.1.toNat 0)] O O O .sct ⟨.all id, trivial⟩ (fun hc => A_vloadAggM (f := G3.av) (xs := s58.2) (y := y61) Hp O O O (Js (bif_t hc hy61)) O O) O, trivial⟩ ?_
  refine Gn (u := .opt (decide (a < s58.1)) (.vec 1107 data_q 4 data.length)) O O ⟨H3 [] O O O .sct trivial (fun hc => G7 O O) O, trivial⟩ ?_
  refine Gn (u := .opt (decide (a < s58.1)) (G0 s58.1)) O O ⟨H3 [] O O O .sct trivial (fun hc => G7 O O) O, trivial⟩ ?_
  refine Gn (u := .opt (decide (a < s58.1)) (G0 v62)) O O ⟨H3 [(28, G0 s58.1)] O O O .sct ⟨.all id, trivial⟩ (fun hc => Jx (chk_some (bif_t hc hv62)) O O O) O, trivial⟩ ?_
  refine Gn (u := .opt (decide (a < s58.1)) (.vptr 1107 data_q v62.toNat 0)) O O ⟨H3 [(27, .vec 1107 data_q 4 data.length), (29, G0 v62)] O O O .sct ⟨.all id, .all id, trivial⟩ (fun hc => Jz (f := G3.av) (xs := s58.2) (y := y63) O O O O Gs (Js (bif_t hc hy63)) (gidx_some1 (bif_t hc hy63))) O, trivial⟩ ?_
  refine Gn (u := .opt (decide (a < s58.1)) (.agg (G3.cs y63))) O O ⟨H3 [(30, .vptr 1107 data_q v62.toNat 0)] O O O .sct ⟨.all id, trivial⟩ (fun hc => A_vloadAggM (f := G3.av) (xs := s58.2) (y := y63) Hp O O O (Js (bif_t hc hy63)) O O) O, trivial⟩ ?_
  refine Gn (u := .opt (decide (a < s58.1)) (G0 r64)) O O ⟨H3 [(22, .fn cmp_f cmp_c), (26, .agg (G3.cs y61)), (31, .agg (G3.cs y63))] O O O .sct ⟨.all id, .all id, .all id, trivial⟩ (fun hc => Q8 (args := [.agg (G3.cs y61), .agg (G3.cs y63)]) (caps := cmp_c) O O (cmp_w y61 y63 _ (bif_t hc hr64)) cmp_B ⟨O, O, O, O, trivial⟩ cmp_d) O, trivial⟩ ?_
  refine Gn (u := .opt (decide (a < s58.1)) (BL (decide (r64 < 0)))) O O ⟨H3 [(32, G0 r64)] O O O .sct ⟨.all id, trivial⟩ (fun hc => He O O O) O, trivial⟩ ?_
  refine Gn (u := BL ((decide (a < s58.1)) && (decide (r64 < 0)))) O O ⟨Gp (J2 O O O O) O, trivial⟩ ?_
  refine D_nil ?_
  refine hK60 _ _ ?_
  refine Gh O (fun hb => ?_) (fun hb => ?_)
  ·
   replace h := bif_t hb h
   refine Gj ?_
   refine hK59 _ _ ?_
   refine G6 (fun K65 hK65 => ?_)
   refine Gi ?_
   refine Ju (l' := [(0, .vec 1107 data_q 4 data.length), (1, G0 a), (2, G0 b), (3, .fn cmp_f cmp_c), (8, G0 s3.1), (9, G0 s58.1)]) (L' := [(1107, .vec 68 4 data_q (s58.2.map G3.av))]) ⟨⟨.same O, .same O, .same O, .same (refsL_any _ _ cmp_d), .same O, .same O, trivial⟩, ⟨⟨_, O, .vec⟩, trivial⟩, O⟩ ?_
   obtain ⟨v66, hv66, h⟩ := H6 h
   obtain ⟨v67, hv67, h⟩ := H6 h
   obtain ⟨y68, hmy68, hy68, h⟩ := Q3 h
   obtain ⟨y69, hmy69, hy69, h⟩ := Q3 h
   obtain ⟨y70, hmy70, hy70, h⟩ := Q3 h
   obtain ⟨y71, hmy71, hy71, h⟩ := Q3 h
   refine Jc [15, 17] [0, 0, 0, 0, 0, 0, 0, 0, 0, 0, 0, 0, 0, 0, 0, 0, 1, 0] [0, 0, 1, 1, 1, 0, 0, 0, 0, 0, 0, 0, 0, 0, 0, 0, 1, 0] [[(1107, .vec 68 4 data_q (s58.2.map G3.av))], ((1107, .vec 68 4 data_q ((s58.2.set s58.1.toNat y68).map G3.av)) :: [(1107, .vec 68 4 data_q (s58.2.map G3.av))]), ((1107, .vec 68 4 data_q (((s58.2.set s58.1.toNat y68).set v66.toNat y69).map G3.av)) :: ((1107, .vec 68 4 data_q ((s58.2.set s58.1.toNat y68).map G3.av)) :: [(1107, .vec 68 4 data_q (s58.2.map G3.av))]))] J5 (by kernel_rfl) rfl rfl ?_
   refine Gn (u := .vec 1107 data_q 4 data.length) O O ⟨Gp (G7 O O) O, trivial⟩ ?_
   refine Gn (u := G0 s58.1) O O ⟨Gp (G7 O O) O, trivial⟩ ?_
   refine Gn (u := .vec 1107 data_q 4 data.length) O O ⟨Gp (G7 O O) O, Gp (G7 O O) O, trivial⟩ ?_
   refine Gn (u := G0 s58.1) O O ⟨Gp (G7 O O) O, Gp (G7 O O) O, trivial⟩ ?_
   refine Gn (u := G0 v66) O O ⟨Gp (Jx hv66 O O O) O, Gp (Jx hv66 O O O) O, trivial⟩ ?_
   refine Gn (u := .vec 1107 data_q 4 data.length) O O ⟨Gp (G7 O O) O, trivial⟩ ?_
   refine Gn (u := G0 s58.1) O O ⟨Gp (G7 O O) O, trivial⟩ ?_
   refine Gn (u := G0 v67) O O ⟨Gp (Jx hv67 O O O) O, trivial⟩ ?_
   refine Gn (u := .vptr 1107 data_q v67.toNat 0) O O ⟨Gp (Jz (f := G3.av) (xs := s58.2) (y := y68) O O O O Gs hy68 hmy68) O, trivial⟩ ?_
   refine Gn (u := .agg (G3.cs y68)) O O ⟨Gp (A_vloadAggM (f := G3.av) (xs := s58.2) (y := y68) Hp O O O hy68 O O) O, trivial⟩ ?_
   refine Gn (u := .vec 1107 data_q 4 data.length) O O ⟨Gp (G7 O O) O, trivial⟩ ?_
   refine Gn (u := G0 s58.1) O O ⟨Gp (G7 O O) O, trivial⟩ ?_
   refine Gn (u := .vptr 1107 data_q s58.1.toNat 0) O O ⟨Gp (Jz (f := G3.av) (xs := s58.2) (y := y69) O O O O Gs hy69 hmy69) O, trivial⟩ ?_
   refine Gn (u := .agg (G3.cs y69)) O O ⟨Gp (A_vloadAggM (f := G3.av) (xs := s58.2) (y := y69) Hp O O O hy69 O O) O, trivial⟩ ?_
   refine Gn (u := .vptr 1107 data_q s58.1.toNat 0) O O ⟨Gp (Jz (f := G3.av) (xs := s58.2) (y := y70) O O O O Gs hy70 hmy70) O, trivial⟩ ?_
   refine D_w0 (u := .junk) O O O O (Gp (A_vstoreM (f := G3.av) (xs := s58.2) (z := y68) J3 O O O O (List.getElem?_eq_some_iff.1 hy70).1 O O O O) O) ?_
   refine Gn (u := .vptr 1107 data_q v66.toNat 0) O O ⟨Gp (Jz (f := G3.av) (xs := (s58.2.set s58.1.toNat y68)) (y := y71) O O O O Gs hy71 hmy71) O, trivial⟩ ?_
   refine D_w0 (u := .junk) O O O O (Gp (A_vstoreM (f := G3.av) (xs := (s58.2.set s58.1.toNat y68)) (z := y69) J3 O O O O (List.getElem?_eq_some_iff.1 hy71).1 O O O O) O) ?_
   refine D_nil ?_
   refine hK65 _ _ ?_
   refine G2 ?_
   refine JLg (G0 s58.1) (G7 O O) ?_
   obtain ⟨v72, hv72, h⟩ := H6 h
   refine JLg (G0 v72) (Jx hv72 O O O) ?_
   refine JLg (G0 v72) (G9 O O) ?_
   refine G8 ?_
   exact e58 _ _ m58 (v72, ((s58.2.set s58.1.toNat y68).set v66.toNat y69)) (app1 hn58 h) (by omega) ⟨⟨.same rfl, .same rfl, .same rfl, .same (refsL_any _ _ cmp_d), .same rfl, .same rfl, trivial⟩, ⟨⟨_, rfl, .vec⟩, trivial⟩, rfl⟩
  ·
   replace h := bif_f hb h
   refine H4 ?_
   refine hK6 _ _ ?_
   refine G2 ?_
   refine JLg (G0 s3.1) (G7 O O) ?_
   obtain ⟨v73, hv73, h⟩ := H6 h
   refine JLg (G0 v73) (Hd hv73 O O O) ?_
   refine JLg (G0 v73) (G9 O O) ?_
   refine G8 ?_
   exact e3 _ _ m3 (v73, s58.2) (app1 hn3 h) (by omega) ⟨⟨.same rfl, .same rfl, .same rfl, .same (refsL_any _ _ cmp_d), .same rfl, trivial⟩, ⟨⟨_, rfl, .vec⟩, trivial⟩, rfl⟩
 ·
  replace h := bif_f hb h
  refine H4 ?_
  obtain rfl := Option.some.inj h
  exact ⟨[], [(1107, .vec 68 4 data_q (s3.2.map G3.av))], ⟨⟨_, O, .vec⟩, trivial⟩, O, trivial, O, O⟩

def M_slices_pdqsortCmpFunc_apiStowed (F : Nat) (data : List G3) (a : Int) (b : Int) (limit : Int) (cmp : G3 → G3 → Option Int) : Option (List G3) :=
 loop (fun nx23 (s23 : Int × Int × Int × Bool × Bool) =>
  chk (s23.2.1 - s23.1) fun v25 =>
  bif decide (v25 ≤ 12) then
  (bnd (M_slices_insertionSortCmpFunc_apiStowed F data s23.1 s23.2.1 cmp) fun r29 =>
   some r29)
  else
  (bif decide (s23.2.2.1 = 0) then
   (none)
   else
   (bif (!s23.2.2.2.1) then
    (none)
    else
    (none)))) F (a, b, limit, true, true)
theorem M_slices_pdqsortCmpFunc_apiStowed_p440000011 (F : Nat) (data : List G3) (data_q : Nat) (a : Int) (b : Int) (limit : Int) (cmp : G3 → G3 → Option Int) (cmp_f : FuncId) (cmp_c : List AV) (cmp_B : callB Tryz.prog cmp_f = true) (cmp_d : refsL (fun _ => false) cmp_c = true) (cmp_w : ∀ a0 a1 q, cmp a0 a1 = some q → Pure Tryz.prog cmp_f ([.agg (G3.cs a0), .agg (G3.cs a1)] ++ cmp_c) (· = G0 q)) (r : (List G3)) (h : M_slices_pdqsortCmpFunc_apiStowed F data a b limit cmp = some r) : ACalls Tryz.prog 119 [.vec 1107 data_q 4 data.length, G0 a, G0 b, G0 limit, .fn cmp_f cmp_c] [(1107, .vec 68 4 data_q (data.map G3.av))] (fun av L' => av = .tup [] ∧ L' = [(1107, .vec 68 4 data_q (r.map G3.av))]) := by
 unfold M_slices_pdqsortCmpFunc_apiStowed at h
 refine Hy [1107] [] Tryz.func119 O O (inAll O) ?_
 refine G6 fun K1 hK1 => G2 ?_
 refine JLg (BL true) (G9 O O) ?_
 refine G8 (hK1 _ _ ?_)
 refine G6 fun K2 hK2 => G2 ?_
 refine JLg (BL true) (G9 O O) ?_
 refine G8 (hK2 _ _ ?_)
 refine Gi ?_
 obtain ⟨b23, hb23, h⟩ := loop_in h
 refine Gz (fun i23 (s23 : Int × Int × Int × Bool × Bool) => loop b23 i23 s23 = some r) (fun i23 s23 => [(0, .vec 1107 data_q 4 data.length), (1, G0 s23.1), (2, G0 s23.2.1), (3, G0 s23.2.2.1), (4, .fn cmp_f cmp_c), (10, BL s23.2.2.2.1), (11, BL s23.2.2.2.2)]) (fun i23 s23 => [(1107, .vec 68 4 data_q (data.map G3.av))]) (fun i23 => i23) F (a, b, limit, true, true) h ⟨⟨.same O, .same O, .same O, .same O, .same (refsL_any _ _ cmp_d), .same O, .same O, trivial⟩, ⟨⟨_, O, .vec⟩, trivial⟩, O⟩ ?_
 clear h
 intro i23 s23 hi23 K23 e23
 obtain ⟨m23, nx23, hm_23, hn23, h⟩ := loop_out hi23
 replace h := app2 hb23 h
 refine Gi ?_
 refine G6 fun K24 hK24 => G2 ?_
 refine JLg (G0 s23.2.1) (G7 O O) ?_
 refine JLg (G0 s23.1) (G7 O O) ?_
 obtain ⟨v25, hv25, h⟩ := H6 h
 refine JLg (G0 v25) (Jx hv25 O O O) ?_
 refine JLg (G0 v25) (G9 O O) ?_
 refine G8 (hK24 _ _ ?_)
 refine G6 (fun K26 hK26 => ?_)
 refine G6 fun K27 hK27 => G2 ?_
 refine JLg (G0 v25) (G7 O O) ?_
 refine JLg (BL (decide (v25 ≤ 12))) (A_leq O O O) ?_
 refine G8 (hK27 _ _ ?_)
 refine Gh O (fun hb => ?_) (fun hb => ?_)
 ·
  replace h := bif_t hb h
  refine G6 fun K28 hK28 => G2 ?_
  refine JLg (.vec 1107 data_q 4 data.length) (G7 O O) ?_
  refine JLg (G0 s23.1) (G7 O O) ?_
  refine JLg (G0 s23.2.1) (G7 O O) ?_
  refine JLg (.fn cmp_f cmp_c) (G7 O O) ?_
  obtain ⟨r29, hr29, h⟩ := Ge h
  refine JLg (.tup []) (Q9 (args := [.vec 1107 data_q 4 data.length, G0 s23.1, G0 s23.2.1, .fn cmp_f cmp_c]) (L0 := [(1107, .vec 68 4 data_q (data.map G3.av))]) (Lr := [(1107, .vec 68 4 data_q (r29.map G3.av))]) O (M_slices_insertionSortCmpFunc_apiStowed_p440000011 F data data_q s23.1 s23.2.1 cmp cmp_f cmp_c cmp_B cmp_d cmp_w r29 hr29) tf_call_117 ⟨.inl O, O, .inl O, O, .inl O, O, .inl O, (refsL_any _ _ cmp_d), trivial⟩ ⟨O, trivial⟩ O O O) ?_
  refine G8 (hK28 _ _ ?_)
  refine Gq ?_
  obtain rfl := Option.some.inj h
  exact ⟨[], [(1107, .vec 68 4 data_q (r29.map G3.av))], ⟨⟨_, O, .vec⟩, trivial⟩, O, trivial, O, O⟩
 ·
  replace h := bif_f hb h
  refine Gj ?_
  refine hK26 _ _ ?_
  refine G6 (fun K30 hK30 => ?_)
  refine G6 fun K31 hK31 => G2 ?_
  refine JLg (G0 s23.2.2.1) (G7 O O) ?_
  refine JLg (BL (decide (s23.2.2.1 = 0))) (Hx O O O) ?_
  refine G8 (hK31 _ _ ?_)
  refine Gh O (fun hb => ?_) (fun hb => ?_)
  ·
   replace h := bif_t hb h
   refine G6 (fun K32 hK32 => ?_)
   cases h
  ·
   replace h := bif_f hb h
   refine Gj ?_
   refine hK30 _ _ ?_
   refine G6 (fun K33 hK33 => ?_)
   refine G6 fun K34 hK34 => G2 ?_
   refine JLg (BL s23.2.2.2.1) (G7 O O) ?_
   refine JLg (BL (!s23.2.2.2.1)) (A_not (b := s23.2.2.2.1) O O) ?_
   refine G8 (hK34 _ _ ?_)
   refine Gh O (fun hb => ?_) (fun hb => ?_)
   ·
    replace h := bif_t hb h
    refine G6 (fun K35 hK35 => ?_)
    cases h
   ·
    replace h := bif_f hb h
    refine Gj ?_
    refine hK33 _ _ ?_
    refine G6 (fun K36 hK36 => ?_)
    cases h

def M_slices_SortFunc_apiStowed (F : Nat) (x : List G3) (cmp : G3 → G3 → Option Int) : Option (List G3) :=
 bnd (M_math_bits_Len (IntKind.u64.wrap (x.length : Int))) fun r2 =>
 bnd (M_slices_pdqsortCmpFunc_apiStowed F x 0 (x.length : Int) r2 cmp) fun r3 =>
 some r3
theorem M_slices_SortFunc_apiStowed_p440000011 (F : Nat) (x : List G3) (x_q : Nat) (cmp : G3 → G3 → Option Int) (cmp_f : FuncId) (cmp_c : List AV) (cmp_B : callB Tryz.prog cmp_f = true) (cmp_d : refsL (fun _ => false) cmp_c = true) (cmp_w : ∀ a0 a1 q, cmp a0 a1 = some q → Pure Tryz.prog cmp_f ([.agg (G3.cs a0), .agg (G3.cs a1)] ++ cmp_c) (· = G0 q)) (r : (List G3)) (h : M_slices_SortFunc_apiStowed F x cmp = some r) : ACalls Tryz.prog 95 [.vec 1107 x_q 4 x.length, .fn cmp_f cmp_c] [(1107, .vec 68 4 x_q (x.map G3.av))] (fun av L' => av = .tup [] ∧ L' = [(1107, .vec 68 4 x_q (r.map G3.av))]) := by
 unfold M_slices_SortFunc_apiStowed at h
 refine Hy [1107] [] Tryz.func95 O O (inAll O) ?_
 refine G6 fun K1 hK1 => G2 ?_
 refine JLg (.vec 1107 x_q 4 x.length) (G7 O O) ?_
 refine JL_vlenM (f := G3.av) (xs := x) Gs O O O (fun hm6 => ?_) O O O
 refine JLg (G0 (x.length : Int)) (G9 O O) ?_
 refine G8 (hK1 _ _ ?_)
 refine G2 ?_
 refine JLg (.vec 1107 x_q 4 x.length) (G7 O O) ?_
 refine JLg (G0 (x.length : Int)) (G7 O O) ?_
 refine JLg (G0 (x.length : Int)) (G7 O O) ?_
 refine JLg (.sc (.int .u64 (IntKind.u64.wrap (x.length : Int)))) (A_conv tf_int_138 Jy O O O) ?_
 obtain ⟨r2, hr2, h⟩ := Ge h
 refine JLg (G0 r2) (Gr (args := [.sc (.int .u64 (IntKind.u64.wrap (x.length : Int)))]) O (M_math_bits_Len_w (IntKind.u64.wrap (x.length : Int)) r2 hr2) tf_call_54 ⟨O, O, trivial⟩) ?_
 refine JLg (.fn cmp_f cmp_c) (G7 O O) ?_
 obtain ⟨r3, hr3, h⟩ := Ge h
 refine JLg (.tup []) (Q9 (args := [.vec 1107 x_q 4 x.length, G0 0, G0 (x.length : Int), G0 r2, .fn cmp_f cmp_c]) (L0 := [(1107, .vec 68 4 x_q (x.map G3.av))]) (Lr := [(1107, .vec 68 4 x_q (r3.map G3.av))]) O (M_slices_pdqsortCmpFunc_apiStowed_p440000011 F x x_q 0 (x.length : Int) r2 cmp cmp_f cmp_c cmp_B cmp_d cmp_w r3 hr3) tf_call_119 ⟨.inl O, O, .inl O, O, .inl O, O, .inl O, O, .inl O, (refsL_any _ _ cmp_d), trivial⟩ ⟨O, trivial⟩ O O O) ?_
 refine G8 ?_
 obtain rfl := Option.some.inj h
 exact ⟨[], [(1107, .vec 68 4 x_q (r3.map G3.av))], ⟨⟨_, O, .vec⟩, trivial⟩, O, trivial, O, O⟩

def M_moves_sorted_apiStowed (F : Nat) (l : List G3) (compare : G3 → G3 → Option Int) : Option (List G3) :=
 bnd (M_slices_SortFunc_apiStowed F l compare) fun r3 =>
 some r3
theorem M_moves_sorted_apiStowed_p440000011 (F : Nat) (l : List G3) (l_q : Nat) (compare : G3 → G3 → Option Int) (compare_f : FuncId) (compare_c : List AV) (compare_B : callB Tryz.prog compare_f = true) (compare_d : refsL (fun _ => false) compare_c = true) (compare_w : ∀ a0 a1 q, compare a0 a1 = some q → Pure Tryz.prog compare_f ([.agg (G3.cs a0), .agg (G3.cs a1)] ++ compare_c) (· = G0 q)) (r : (List G3)) (h : M_moves_sorted_apiStowed F l compare = some r) : ACalls Tryz.prog 64 [.vec 1107 l_q 4 l.length, .fn compare_f compare_c] [(1107, .vec 68 4 l_q (l.map G3.av))] (fun av L' => ∃ p : Nat, av = .vec 1107 p 4 r.length ∧ L' = [(1107, .vec 68 4 p (r.map G3.av))]) := by
 unfold M_moves_sorted_apiStowed at h
 refine Hy [1107] [.tmp 4] Tryz.func64 O O (inAll O) ?_
 refine G6 fun K1 hK1 => G2 ?_
 refine JLg (.vec 1139 (([] : List G3).length) 4 (([] : List G3).length)) (A_vnil 1139 68 4 O O O) ?_
 refine G8 (hK1 _ _ ?_)
 refine G6 fun K2 hK2 => G2 ?_
 refine JLg (.vec 1107 l_q 4 l.length) (G7 O O) ?_
 refine JLg (.fn compare_f compare_c) (G7 O O) ?_
 obtain ⟨r3, hr3, h⟩ := Ge h
 refine JLg (.tup []) (Q9 (args := [.vec 1107 l_q 4 l.length, .fn compare_f compare_c]) (L0 := [(1107, .vec 68 4 l_q (l.map G3.av))]) (Lr := [(1107, .vec 68 4 l_q (r3.map G3.av))]) O (M_slices_SortFunc_apiStowed_p440000011 F l l_q compare compare_f compare_c compare_B compare_d compare_w r3 hr3) tf_call_95 ⟨.inl O, O, .inl O, (refsL_any _ _ compare_d), trivial⟩ ⟨O, trivial⟩ O O O) ?_
 refine G8 (hK2 _ _ ?_)
 refine G6 fun K4 hK4 => G2 ?_
 refine JLg (.vec 1107 l_q 4 l.length) (G7 O O) ?_
 refine JLg (.vec 1107 l_q 4 l.length) (G9 O O) ?_
 refine G8 (hK4 _ _ ?_)
 refine JC_vlen 4 O O (fun hn_ => ?_)
 refine Gq ?_
 obtain rfl := Option.some.inj h
 exact ⟨[.vec 1107 l_q 4 l.length], [(1107, .vec 68 4 l_q (r3.map G3.av))], ⟨⟨_, O, .vec⟩, trivial⟩, O, ⟨⟨_, O, .conv (.same O)⟩, trivial⟩, l_q, congrArg (fun n_ : Nat => (.vec 1107 l_q 4 n_ : AV)) (hn_.trans (List.length_map _)), O⟩

def M_moves_part (F : Nat) (s : Ship) (l : List G3) (lifted : List Int) (bay : Int) (deck : Bool) : Option (List G3) :=
 each (fun y49 i49 (s49 : (List G3)) nx49 =>
  jp (fun kj52 =>
   gidx s.Columns y49.Slot.G5 fun y55 =>
   bnd (bif ((decide (y55.Bay = bay)) && (y55.Deck == deck)) then M_slices_Contains_int lifted y49.Box else some default) fun r58 =>
   bif (((decide (y55.Bay = bay)) && (y55.Deck == deck)) && r58) then
   (need (decide ((s49.length + [y49].length) * 32 ≤ 140737488355328 ∧ s49.length + [y49].length ≤ maxLen)) <|
    kj52 (s49 ++ [y49]))
   else
   (kj52 s49)) fun (j52 : (List G3)) =>
  nx49 j52)
 (fun (s49 : (List G3)) =>
  bnd (M_moves_sorted_apiStowed F s49 (fun z0 z1 => M_moves_part_1 z0 z1)) fun r61 =>
  some r61) l 0 []
theorem M_moves_part_w (F : Nat) (s : Ship) (l : List G3) (lifted : List Int) (bay : Int) (deck : Bool) (r : (List G3)) (h : M_moves_part F s l lifted bay deck = some r) : Pure Tryz.prog 43 [.agg (Ship.cs s), LS 4 G3.av l, LS 1 G0 lifted, G0 bay, BL deck] (· = LS 4 G3.av r) := by
 unfold M_moves_part at h
 refine Gx [.tmp 10] Tryz.func43 O O ?_
 refine G6 fun K1 hK1 => G2 ?_
 refine JLg (.ptr 1105 0) (J1 (u := .agg (Ship.cs s)) (cs := (Ship.cs s)) 1105 O O O O O) ?_
 refine JLg (LS 4 G3.av ([] : List G3)) (Hw 4 O O) ?_
 refine G8 (hK1 _ _ ?_)
 refine Gm [(1, LS 4 G3.av l), (2, LS 1 G0 lifted), (3, G0 bay), (4, BL deck), (5, .dptr (Ship.cs s))] [] 1105 rfl rfl rfl trivial rfl (by repeat' (first | exact .ptr | constructor)) ?_
 refine G6 fun K2 hK2 => G2 ?_
 refine JLg (.vec 1107 (([] : List G3).length) 4 (([] : List G3).length)) (A_vnil 1107 68 4 O O O) ?_
 refine G8 (hK2 _ _ ?_)
 refine G6 (fun K3 hK3 => ?_)
 refine G6 fun K4 hK4 => G2 ?_
 refine JLg (LS 4 G3.av l) (G7 O O) ?_
 refine H9 (f := G3.av) (xs := l) Gs O O (fun hm16 => ?_) O O O
 refine JLg (G0 0) (G7 O O) ?_
 refine G8 (hK4 _ _ ?_)
 refine Gi ?_
 obtain ⟨b49, kx49, hb49, hkx49, h⟩ := Hi h
 refine Gz (fun i49 (s49 : (List G3)) => each b49 kx49 (List.drop i49 l) i49 s49 = some r) (fun i49 s49 => [(2, LS 1 G0 lifted), (3, G0 bay), (4, BL deck), (5, .dptr (Ship.cs s)), (11, .vec 1107 s49.length 4 s49.length), (15, LS 4 G3.av l), (16, G0 (l.length : Int)), (17, G0 (i49 : Int))]) (fun i49 s49 => [(1107, .vec 68 4 s49.length (s49.map G3.av))]) (fun i49 => l.length - i49) 0 [] h ⟨(by repeat' constructor), ⟨⟨_, rfl, .vec⟩, trivial⟩, rfl⟩ ?_
 clear h
 intro i49 s49 hi49 K49 e49
 refine G6 fun K50 hK50 => G2 ?_
 refine JLg (BL (decide ((i49 : Int) < (l.length : Int)))) (He O O O) ?_
 refine G8 (hK50 _ _ ?_)
 refine G6 (fun K51 hK51 => ?_)
 refine Gh O (fun hb => ?_) (fun hb => ?_)
 ·
  have hk49 := lt_len hb
  obtain ⟨y49, nx49, hy49, hn49, h⟩ := Ha hi49 hk49
  replace h := app4 hb49 h
  refine Gj ?_
  refine hK51 _ _ ?_
  obtain ⟨kj52, hkj52, h⟩ := J6 h
  refine Hs (fun j52 : (List G3) => kj52 j52 = some r) (fun j52 => [(2, LS 1 G0 lifted), (3, G0 bay), (4, BL deck), (5, .dptr (Ship.cs s)), (11, .vec 1107 j52.length 4 j52.length), (15, LS 4 G3.av l), (16, G0 (l.length : Int)), (17, G0 (i49 : Int))]) (fun j52 => [(1107, .vec 68 4 j52.length (j52.map G3.av))]) (fun Kj52 ej52 => ?_) ?_
  ·
   refine Gi ?_
   refine G6 fun K53 hK53 => G2 ?_
   refine JLg (.dptr (G3.cs y49)) (Gw (f := G3.av) (xs := l) (y := y49) O O O Gs hy49 O) ?_
   refine JLg (.agg (G3.cs y49)) (Gg Hp O O O) ?_
   refine JLg (.ptr 1108 0) (H2 1108 4 Hk O O) ?_
   refine H1 (u := .junk) (Gt (u := .agg (G3.cs y49)) (ds := [G0 y49.Box, G0 y49.Slot.G5, G0 y49.Slot.Tier, U8 y49.Slot.Half]) J3 O O O O O O O O) ?_
   refine G8 (hK53 _ _ ?_)
   refine Gm [(2, LS 1 G0 lifted), (3, G0 bay), (4, BL deck), (5, .dptr (Ship.cs s)), (11, .vec 1107 s49.length 4 s49.length), (13, .dptr (G3.cs y49)), (15, LS 4 G3.av l), (16, G0 (l.length : Int)), (17, G0 (i49 : Int))] [(1107, .vec 68 4 s49.length (s49.map G3.av))] 1108 rfl rfl rfl ⟨⟨_, rfl, .vec⟩, trivial⟩ rfl (by repeat' (first | exact .ptr | constructor)) ?_
   refine G6 fun K54 hK54 => G2 ?_
   refine JLg (.dptr (Ship.cs s)) (Gb Hc O O O) ?_
   refine JLg (LS 12 G5.av s.Columns) (Gf Hj O O O) ?_
   refine JLg (.dptr (Slot.cs y49.Slot)) (Gb Hg O O O) ?_
   refine JLg (.dptr (Slot.cs y49.Slot)) (Gb Hh O O O) ?_
   refine JLg (G0 y49.Slot.G5) (Gf Ga O O O) ?_
   obtain ⟨m56, y55, hm56, hy55, h⟩ := Jq h
   refine JLg (.dptr (G5.cs y55)) (Gw (f := G5.av) (xs := s.Columns) (y := y55) O O O Hf hy55 hm56) ?_
   refine JLg (.agg (G5.cs y55)) (Gg tf_agg_56 O O O) ?_
   refine JLg (.ptr 1109 0) (H2 1109 12 Q4 O O) ?_
   refine H1 (u := .junk) (Gt (u := .agg (G5.cs y55)) (ds := (G5.cs y55)) tf_size_56 O O O O O O O O) ?_
   refine G8 (hK54 _ _ ?_)
   refine Gm [(2, LS 1 G0 lifted), (3, G0 bay), (4, BL deck), (5, .dptr (Ship.cs s)), (11, .vec 1107 s49.length 4 s49.length), (13, .dptr (G3.cs y49)), (14, .dptr (G5.cs y55)), (15, LS 4 G3.av l), (16, G0 (l.length : Int)), (17, G0 (i49 : Int))] [(1107, .vec 68 4 s49.length (s49.map G3.av))] 1109 rfl rfl rfl ⟨⟨_, rfl, .vec⟩, trivial⟩ rfl (by repeat' (first | exact .ptr | constructor)) ?_
   refine G6 fun K57 hK57 => G2 ?_
   refine JLg (.dptr (G5.cs y55)) (Gb Ji O O O) ?_
   refine JLg (G0 y55.Bay) (Gf Ga O O O) ?_
   refine JLg (G0 bay) (G7 O O) ?_
   refine JLg (BL (decide (y55.Bay = bay))) (Hx O O O) ?_
   refine JLg (BL (decide (y55.Bay = bay))) (G7 O O) ?_
   refine Gd (u := .dptr ((G5.cs y55).drop 2)) [] O O O .sct trivial (fun hc => Gb Jw O O O) ?_
   refine Gd (u := BL y55.Deck) [(33, .dptr ((G5.cs y55).drop 2))] O O O .sct ⟨.all id, trivial⟩ (fun hc => Gf J9 O O O) ?_
   refine Gd (u := BL deck) [] O O O .sct trivial (fun hc => G7 O O) ?_
   refine Gd (u := BL (y55.Deck == deck)) [(34, BL y55.Deck), (35, BL deck)] O O O .sct ⟨.all id, .all id, trivial⟩ (fun hc => A_eqBool tf_bool_4 O O O) ?_
   refine JLg (BL ((decide (y55.Bay = bay)) && (y55.Deck == deck))) (J2 O O O O) ?_
   refine JLg (BL ((decide (y55.Bay = bay)) && (y55.Deck == deck))) (G7 O O) ?_
   refine Gd (u := LS 1 G0 lifted) [] O O O .sct trivial (fun hc => G7 O O) ?_
   refine Gd (u := .dptr (G3.cs y49)) [] O O O .sct trivial (fun hc => Gb Hn O O O) ?_
   refine Gd (u := G0 y49.Box) [(40, .dptr (G3.cs y49))] O O O .sct ⟨.all id, trivial⟩ (fun hc => Gf Ga O O O) ?_
   obtain ⟨r58, hr58, h⟩ := Ge h
   refine Gd (u := BL r58) [(39, LS 1 G0 lifted), (41, G0 y49.Box)] O O O .sct ⟨.all id, .all id, trivial⟩ (fun hc => Gr (args := [LS 1 G0 lifted, G0 y49.Box]) O (M_slices_Contains_int_w lifted y49.Box r58 (bif_t hc hr58)) tf_call_63 ⟨O, O, O, O, trivial⟩) ?_
   refine JLg (BL (((decide (y55.Bay = bay)) && (y55.Deck == deck)) && r58)) (J2 O O O O) ?_
   refine G8 (hK57 _ _ ?_)
   refine Gh O (fun hb => ?_) (fun hb => ?_)
   ·
    replace h := bif_t hb h
    refine G2 ?_
    refine JLg (.vec 1107 s49.length 4 s49.length) (G7 O O) ?_
    refine JLg (.agg (G3.cs y49)) (Gg Hp O O O) ?_
    refine JLg (LS 4 G3.av [y49]) (Gu (xs := [.agg (G3.cs y49)]) O ⟨O, O, trivial⟩ Gs Hk O O O O) ?_
    obtain ⟨ha59, h⟩ := Hq h
    refine JLg (.vec 1107 ((s49 ++ [y49]).length) 4 ((s49 ++ [y49]).length)) (A_vappendM (f := G3.av) (xs := s49) (ys := [y49]) (ver := s49.length) (ver1 := (s49 ++ [y49]).length) rfl rfl rfl rfl Gs tf_elem_68 ha59 (fun _ => rfl) (.inl rfl) (by simp)) ?_
    refine JLg (.vec 1107 ((s49 ++ [y49]).length) 4 ((s49 ++ [y49]).length)) (G9 O O) ?_
    refine G8 ?_
    exact ej52 _ _ (s49 ++ [y49]) h ⟨(by repeat' constructor), ⟨⟨_, rfl, .vec⟩, trivial⟩, rfl⟩
   ·
    replace h := bif_f hb h
    refine Gj ?_
    exact ej52 _ _ s49 h ⟨(by repeat' constructor), ⟨⟨_, rfl, .vec⟩, trivial⟩, rfl⟩
  ·intro j52 h
   replace h := app1 hkj52 h
   refine G2 ?_
   refine JLg (G0 ((i49 + 1 : Nat) : Int)) (Hd (idx_succ hk49 hm16) O O O) ?_
   refine JLg (G0 ((i49 + 1 : Nat) : Int)) (G7 O O) ?_
   refine G8 ?_
   exact e49 _ _ (i49 + 1) j52 (app1 hn49 h) (by omega) ⟨(by repeat' constructor), ⟨⟨_, rfl, .vec⟩, trivial⟩, rfl⟩
 ·
  have h := app1 hkx49 (Hb hi49 (Gy hb))
  refine H4 ?_
  refine hK3 _ _ ?_
  refine G6 fun K60 hK60 => G2 ?_
  refine JLg (.vec 1107 s49.length 4 s49.length) (G7 O O) ?_
  obtain ⟨r61, hr61, h⟩ := Ge h
  refine JL_step O O O (A_callLE (args := [.vec 1107 s49.length 4 s49.length, .fn 65 []]) (L0 := [(1107, .vec 68 4 s49.length (s49.map G3.av))]) (u := fun p => .vec 1107 p 4 r61.length) (Lr := fun p => [(1107, .vec 68 4 p (r61.map G3.av))]) O (M_moves_sorted_apiStowed_p440000011 F s49 s49.length (fun z0 z1 => M_moves_part_1 z0 z1) 65 [] tf_call_65 O (fun z0 z1 q hq => M_moves_part_1_w z0 z1 q hq) r61 hr61) tf_call_64 ⟨.inl O, O, .inl O, O, trivial⟩ ⟨O, trivial⟩ O (fun _ => O)) ?_
  rintro u_ L_ ⟨v62, rfl, rfl⟩
  refine JLg (.vec 1107 v62 4 r61.length) (G9 O O) ?_
  refine G8 (hK60 _ _ ?_)
  refine JC_vfreeze [(10, LS 4 G3.av r61)] [] 1107 rfl rfl trivial rfl (by exact ⟨.vec, trivial⟩) ?_
  refine Gq ?_
  exact ⟨[LS 4 G3.av r61], [], trivial, O, ⟨⟨_, O, .conv (.same O)⟩, trivial⟩, O, congrArg (fun r : (List G3) => (LS 4 G3.av r : AV)) (Option.some.inj h)⟩

def M_moves_fromAbove_1 (a : G3) (b : G3) : Option Int :=
 bnd (M_cmp_Compare_int b.Slot.Tier a.Slot.Tier) fun r3 =>
 some r3
theorem M_moves_fromAbove_1_w (a : G3) (b : G3) (r : Int) (h : M_moves_fromAbove_1 a b = some r) : Pure Tryz.prog 62 [.agg (G3.cs a), .agg (G3.cs b)] (· = G0 r) := by
 unfold M_moves_fromAbove_1 at h
 refine Gx [.tmp 4] Tryz.func62 O O ?_
 refine G6 fun K1 hK1 => G2 ?_
 refine JLg (.ptr 1137 0) (J1 (u := .agg (G3.cs a)) (cs := [G0 a.Box, G0 a.Slot.G5, G0 a.Slot.Tier, U8 a.Slot.Half]) 1137 O O O O O) ?_
 refine JLg (.ptr 1138 0) (J1 (u := .agg (G3.cs b)) (cs := [G0 b.Box, G0 b.Slot.G5, G0 b.Slot.Tier, U8 b.Slot.Half]) 1138 O O O O O) ?_
 refine JLg (G0 0) (G9 O O) ?_
 refine G8 (hK1 _ _ ?_)
 refine Gm [(2, .dptr (G3.cs a)), (3, .ptr 1138 0)] [(1138, .box 68 [G0 b.Box, G0 b.Slot.G5, G0 b.Slot.Tier, U8 b.Slot.Half])] 1137 rfl rfl rfl ⟨⟨_, rfl, .boxEq rfl rfl⟩, trivial⟩ rfl (by exact ⟨.ptr, .conv (.same rfl), trivial⟩) ?_
 refine Gm [(2, .dptr (G3.cs a)), (3, .dptr (G3.cs b))] [] 1138 rfl rfl rfl trivial rfl (by exact ⟨.conv (.same rfl), .ptr, trivial⟩) ?_
 refine G6 fun K2 hK2 => G2 ?_
 refine JLg (.dptr (Slot.cs b.Slot)) (Gb Hg O O O) ?_
 refine JLg (.dptr [G0 b.Slot.Tier, U8 b.Slot.Half]) (Gb Hz O O O) ?_
 refine JLg (G0 b.Slot.Tier) (Gf Ga O O O) ?_
 refine JLg (.dptr (Slot.cs a.Slot)) (Gb Hg O O O) ?_
 refine JLg (.dptr [G0 a.Slot.Tier, U8 a.Slot.Half]) (Gb Hz O O O) ?_
 refine JLg (G0 a.Slot.Tier) (Gf Ga O O O) ?_
 obtain ⟨r3, hr3, h⟩ := Ge h
 refine JLg (G0 r3) (Gr (args := [G0 b.Slot.Tier, G0 a.Slot.Tier]) O (M_cmp_Compare_int_w b.Slot.Tier a.Slot.Tier r3 hr3) tf_call_19 ⟨O, O, O, O, trivial⟩) ?_
 refine JLg (G0 r3) (G9 O O) ?_
 refine G8 (hK2 _ _ ?_)
 refine Gq ?_
 exact ⟨[G0 r3], [], trivial, O, ⟨⟨_, O, .conv (.same O)⟩, trivial⟩, O, congrArg (fun r : Int => (G0 r : AV)) (Option.some.inj h)⟩

def M_slices_insertionSortCmpFunc_int (F : Nat) (data : List Int) (a : Int) (b : Int) (cmp : Int → Int → Option Int) : Option (List Int) :=
 chk (a + 1) fun v2 =>
 loop (fun nx3 (s3 : Int × (List Int)) =>
  bif decide (s3.1 < b) then
  (loop (fun nx58 (s58 : Int × (List Int)) =>
    bnd (bif decide (a < s58.1) then gidx s58.2 s58.1 some else some default) fun y61 =>
    bnd (bif decide (a < s58.1) then chk (s58.1 - 1) some else some 0) fun v62 =>
    bnd (bif decide (a < s58.1) then gidx s58.2 v62 some else some default) fun y63 =>
    bnd (bif decide (a < s58.1) then cmp y61 y63 else some default) fun r64 =>
    bif ((decide (a < s58.1)) && (decide (r64 < 0))) then
    (chk (s58.1 - 1) fun v66 =>
     chk (s58.1 - 1) fun v67 =>
     gidx s58.2 v67 fun y68 =>
     gidx s58.2 s58.1 fun y69 =>
     gidx s58.2 s58.1 fun y70 =>
     gidx (s58.2.set s58.1.toNat y68) v66 fun y71 =>
     chk (s58.1 - 1) fun v72 =>
     nx58 (v72, ((s58.2.set s58.1.toNat y68).set v66.toNat y69)))
    else
    (chk (s3.1 + 1) fun v73 =>
     nx3 (v73, s58.2))) F (s3.1, s3.2))
  else
  (some s3.2)) F (v2, data)
theorem M_slices_insertionSortCmpFunc_int_p450000011 (F : Nat) (data : List Int) (data_q : Nat) (a : Int) (b : Int) (cmp : Int → Int → Option Int) (cmp_f : FuncId) (cmp_c : List AV) (cmp_B : callB Tryz.prog cmp_f = true) (cmp_d : refsL (fun _ => false) cmp_c = true) (cmp_w : ∀ a0 a1 q, cmp a0 a1 = some q → Pure Tryz.prog cmp_f ([G0 a0, G0 a1] ++ cmp_c) (· = G0 q)) (r : (List Int)) (h : M_slices_insertionSortCmpFunc_int F data a b cmp = some r) : ACalls Tryz.prog 134 [.vec 1111 data_q 1 data.length, G0 a, G0 b, .fn cmp_f cmp_c] [(1111, .vec 3 1 data_q (data.map G0))] (fun av L' => av = .tup [] ∧ L' = [(1111, .vec 3 1 data_q (r.map G0))]) := by
 unfold M_slices_insertionSortCmpFunc_int at h
 refine Hy [1111] [] Tryz.func134 O O (inAll O) ?_
 refine G6 fun K1 hK1 => G2 ?_
 refine JLg (G0 a) (G7 O O) ?_
 obtain ⟨v2, hv2, h⟩ := H6 h
 refine JLg (G0 v2) (Hd hv2 O O O) ?_
 refine JLg (G0 v2) (G9 O O) ?_
 refine G8 (hK1 _ _ ?_)
 refine Gi ?_
 obtain ⟨b3, hb3, h⟩ := loop_in h
 refine Gz (fun i3 (s3 : Int × (List Int)) => loop b3 i3 s3 = some r) (fun i3 s3 => [(0, .vec 1111 data_q 1 data.length), (1, G0 a), (2, G0 b), (3, .fn cmp_f cmp_c), (8, G0 s3.1)]) (fun i3 s3 => [(1111, .vec 3 1 data_q (s3.2.map G0))]) (fun i3 => i3) F (v2, data) h ⟨⟨.same O, .same O, .same O, .same (refsL_any _ _ cmp_d), .same O, trivial⟩, ⟨⟨_, O, .vec⟩, trivial⟩, O⟩ ?_
 clear h
 intro i3 s3 hi3 K3 e3
 obtain ⟨m3, nx3, hm_3, hn3, h⟩ := loop_out hi3
 replace h := app2 hb3 h
 refine G6 (fun K4 hK4 => ?_)
 refine G6 fun K5 hK5 => G2 ?_
 refine JLg (G0 s3.1) (G7 O O) ?_
 refine JLg (G0 b) (G7 O O) ?_
 refine JLg (BL (decide (s3.1 < b))) (He O O O) ?_
 refine G8 (hK5 _ _ ?_)
 refine Gh O (fun hb => ?_) (fun hb => ?_)
 ·
  replace h := bif_t hb h
  refine Gj ?_
  refine hK4 _ _ ?_
  refine G6 (fun K6 hK6 => ?_)
  refine Gi ?_
  refine G6 fun K7 hK7 => G2 ?_
  refine JLg (G0 s3.1) (G7 O O) ?_
  refine JLg (G0 s3.1) (G9 O O) ?_
  refine G8 (hK7 _ _ ?_)
  refine Gi ?_
  obtain ⟨b58, hb58, h⟩ := loop_in h
  refine Gz (fun i58 (s58 : Int × (List Int)) => loop b58 i58 s58 = some r) (fun i58 s58 => [(0, .vec 1111 data_q 1 data.length), (1, G0 a), (2, G0 b), (3, .fn cmp_f cmp_c), (8, G0 s3.1), (9, G0 s58.1)]) (fun i58 s58 => [(1111, .vec 3 1 data_q (s58.2.map G0))]) (fun i58 => i58) F (s3.1, s3.2) h ⟨⟨.same O, .same O, .same O, .same (refsL_any _ _ cmp_d), .same O, .same O, trivial⟩, ⟨⟨_, O, .vec⟩, trivial⟩, O⟩ ?_
  clear h
  intro i58 s58 hi58 K58 e58
  obtain ⟨m58, nx58, hm_58, hn58, h⟩ := loop_out hi58
  replace h := app2 hb58 h
  refine G6 (fun K59 hK59 => ?_)
  refine G6 (fun K60 hK60 => ?_)
  refine Ju (l' := [(0, .vec 1111 data_q 1 data.length), (1, G0 a), (2, G0 b), (3, .fn cmp_f cmp_c), (8, G0 s3.1), (9, G0 s58.1)]) (L' := [(1111, .vec 3 1 data_q (s58.2.map G0))]) ⟨⟨.same O, .same O, .same O, .same (refsL_any _ _ cmp_d), .same O, .same O, trivial⟩, ⟨⟨_, O, .vec⟩, trivial⟩, O⟩ ?_
  obtain ⟨y61, hy61, h⟩ := Ge h
  obtain ⟨v62, hv62, h⟩ := Ge h
  obtain ⟨y63, hy63, h⟩ := Ge h
  obtain ⟨r64, hr64, h⟩ := Ge h
  refine Jc [] [0, 0, 0, 0, 0, 0, 0, 0, 0, 0, 0, 0, 0, 0, 0, 0, 0] [0, 0, 0, 0, 0, 0, 0, 0, 0, 0, 0, 0, 0, 0, 0, 0, 0] [[(1111, .vec 3 1 data_q (s58.2.map G0))]] J5 (by kernel_rfl) rfl rfl ?_
  refine Gn (u := G0 s58.1) O O ⟨Gp (G7 O O) O, trivial⟩ ?_
  refine Gn (u := G0 a) O O ⟨Gp (G7 O O) O, trivial⟩ ?_
  refine Gn (u := BL (decide (a < s58.1))) O O ⟨Gp (A_gtr O O O) O, trivial⟩ ?_
  refine Gn (u := BL (decide (a < s58.1))) O O ⟨Gp (G7 O O) O, trivial⟩ ?_
  refine Gn (u := .opt (decide (a < s58.1)) (.fn cmp_f cmp_c)) O O ⟨H3 [] O O O .sct trivial (fun hc => G7 O O) O, trivial⟩ ?_
  refine Gn (u := .opt (decide (a < s58.1)) (.vec 1111 data_q 1 data.length)) O O ⟨H3 [] O O O .sct trivial (fun hc => G7 O O) O, trivial⟩ ?_
  refine Gn (u := .opt (decide (a < s58.1)) (G0 s58.1)) O O ⟨H3 [] O O O .sct trivial (fun hc => G7 O O) O, trivial⟩ ?_
  refine Gn (u := .opt (decide (a < s58.1)) (.vptr 1111 data_q s58.1.toNat 0)) O O ⟨H3 [(23, .vec 1111 data_q 1 data.length), (24, G0 s58.1)] O O O .sct ⟨.all id, .all id, trivial⟩ (fun hc => Jz (f := G0) (xs := s58.2) (y := y61) O O O O H0 (Js (bif_t hc hy61)) (gidx_some1 (bif_t hc hy61))) O, trivial⟩ ?_
  refine Gn (u := .opt (decide (a < s58.1)) (G0 y61)) O O ⟨H3 [(25, .vptr 1111 data_q s58.1.toNat 0)] O O O .sct ⟨.all id, trivial⟩ (fun hc => A_vloadM (f := G0) (xs := s58.2) (y := y61) Ga O O O (Js (bif_t hc hy61)) O O) O, trivial⟩ ?_
  refine Gn (u := .opt (decide (a < s58.1)) (.vec 1111 data_q 1 data.length)) O O ⟨H3 [] O O O .sct trivial (fun hc => G7 O O) O, trivial⟩ ?_
  refine Gn (u := .opt (decide (a < s58.1)) (G0 s58.1)) O O ⟨H3 [] O O O .sct trivial (fun hc => G7 O O) O, trivial⟩ ?_
  refine Gn (u := .opt (decide (a < s58.1)) (G0 v62)) O O ⟨H3 [(28, G0 s58.1)] O O O .sct ⟨.all id, trivial⟩ (fun hc => Jx (chk_some (bif_t hc hv62)) O O O) O, trivial⟩ ?_
  refine Gn (u := .opt (decide (a < s58.1)) (.vptr 1111 data_q v62.toNat 0)) O O ⟨H3 [(27, .vec 1111 data_q 1 data.length), (29, G0 v62)] O O O .sct ⟨.all id, .all id, trivial⟩ (fun hc => Jz (f := G0) (xs := s58.2) (y := y63) O O O O H0 (Js (bif_t hc hy63)) (gidx_some1 (bif_t hc hy63))) O, trivial⟩ ?_
  refine Gn (u := .opt (decide (a < s58.1)) (G0 y63)) O O ⟨H3 [(30, .vptr 1111 data_q v62.toNat 0)] O O O .sct ⟨.all id, trivial⟩ (fun hc => A_vloadM (f := G0) (xs := s58.2) (y := y63) Ga O O O (Js (bif_t hc hy63)) O O) O, trivial⟩ ?_
  refine Gn (u := .opt (decide (a < s58.1)) (G0 r64)) O O ⟨H3 [(22, .fn cmp_f cmp_c), (26, G0 y61), (31, G0 y63)] O O O .sct ⟨.all id, .all id, .all id, trivial⟩ (fun hc => Q8 (args := [G0 y61, G0 y63]) (caps := cmp_c) O O (cmp_w y61 y63 _ (bif_t hc hr64)) cmp_B ⟨O, O, O, O, trivial⟩ cmp_d) O, trivial⟩ ?_
  refine Gn (u := .opt (decide (a < s58.1)) (BL (decide (r64 < 0)))) O O ⟨H3 [(32, G0 r64)] O O O .sct ⟨.all id, trivial⟩ (fun hc => He O O O) O, trivial⟩ ?_
  refine Gn (u := BL ((decide (a < s58.1)) && (decide (r64 < 0)))) O O ⟨Gp (J2 O O O O) O, trivial⟩ ?_
  refine D_nil ?_
  refine hK60 _ _ ?_
  refine Gh O (fun hb => ?_) (fun hb => ?_)
  ·
   replace h := bif_t hb h
   refine Gj ?_
   refine hK59 _ _ ?_
   refine G6 (fun K65 hK65 => ?_)
   refine Gi ?_
   refine Ju (l' := [(0, .vec 1111 data_q 1 data.length), (1, G0 a), (2, G0 b), (3, .fn cmp_f cmp_c), (8, G0 s3.1), (9, G0 s58.1)]) (L' := [(1111, .vec 3 1 data_q (s58.2.map G0))]) ⟨⟨.same O, .same O, .same O, .same (refsL_any _ _ cmp_d), .same O, .same O, trivial⟩, ⟨⟨_, O, .vec⟩, trivial⟩, O⟩ ?_
   obtain ⟨v66, hv66, h⟩ := H6 h
   obtain ⟨v67, hv67, h⟩ := H6 h
   obtain ⟨y68, hmy68, hy68, h⟩ := Q3 h
   obtain ⟨y69, hmy69, hy69, h⟩ := Q3 h
   obtain ⟨y70, hmy70, hy70, h⟩ := Q3 h
   obtain ⟨y71, hmy71, hy71, h⟩ := Q3 h
   refine Jc [15, 17] [0, 0, 0, 0, 0, 0, 0, 0, 0, 0, 0, 0, 0, 0, 0, 0, 1, 0] [0, 0, 1, 1, 1, 0, 0, 0, 0, 0, 0, 0, 0, 0, 0, 0, 1, 0] [[(1111, .vec 3 1 data_q (s58.2.map G0))], ((1111, .vec 3 1 data_q ((s58.2.set s58.1.toNat y68).map G0)) :: [(1111, .vec 3 1 data_q (s58.2.map G0))]), ((1111, .vec 3 1 data_q (((s58.2.set s58.1.toNat y68).set v66.toNat y69).map G0)) :: ((1111, .vec 3 1 data_q ((s58.2.set s58.1.toNat y68).map G0)) :: [(1111, .vec 3 1 data_q (s58.2.map G0))]))] J5 (by kernel_rfl) rfl rfl ?_
   refine Gn (u := .vec 1111 data_q 1 data.length) O O ⟨Gp (G7 O O) O, trivial⟩ ?_
   refine Gn (u := G0 s58.1) O O ⟨Gp (G7 O O) O, trivial⟩ ?_
   refine Gn (u := .vec 1111 data_q 1 data.length) O O ⟨Gp (G7 O O) O, Gp (G7 O O) O, trivial⟩ ?_
   refine Gn (u := G0 s58.1) O O ⟨Gp (G7 O O) O, Gp (G7 O O) O, trivial⟩ ?_
   refine Gn (u := G0 v66) O O ⟨Gp (Jx hv66 O O O) O, Gp (Jx hv66 O O O) O, trivial⟩ ?_
   refine Gn (u := .vec 1111 data_q 1 data.length) O O ⟨Gp (G7 O O) O, trivial⟩ ?_
   refine Gn (u := G0 s58.1) O O ⟨Gp (G7 O O) O, trivial⟩ ?_
   refine Gn (u := G0 v67) O O ⟨Gp (Jx hv67 O O O) O, trivial⟩ ?_
   refine Gn (u := .vptr 1111 data_q v67.toNat 0) O O ⟨Gp (Jz (f := G0) (xs := s58.2) (y := y68) O O O O H0 hy68 hmy68) O, trivial⟩ ?_
   refine Gn (u := G0 y68) O O ⟨Gp (A_vloadM (f := G0) (xs := s58.2) (y := y68) Ga O O O hy68 O O) O, trivial⟩ ?_
   refine Gn (u := .vec 1111 data_q 1 data.length) O O ⟨Gp (G7 O O) O, trivial⟩ ?_
   refine Gn (u := G0 s58.1) O O ⟨Gp (G7 O O) O, trivial⟩ ?_
   refine Gn (u := .vptr 1111 data_q s58.1.toNat 0) O O ⟨Gp (Jz (f := G0) (xs := s58.2) (y := y69) O O O O H0 hy69 hmy69) O, trivial⟩ ?_
   refine Gn (u := G0 y69) O O ⟨Gp (A_vloadM (f := G0) (xs := s58.2) (y := y69) Ga O O O hy69 O O) O, trivial⟩ ?_
   refine Gn (u := .vptr 1111 data_q s58.1.toNat 0) O O ⟨Gp (Jz (f := G0) (xs := s58.2) (y := y70) O O O O H0 hy70 hmy70) O, trivial⟩ ?_
   refine D_w0 (u := .junk) O O O O (Gp (A_vstoreM (f := G0) (xs := s58.2) (z := y68) Jh O O O O (List.getElem?_eq_some_iff.1 hy70).1 O O O O) O) ?_
   refine Gn (u := .vptr 1111 data_q v66.toNat 0) O O ⟨Gp (Jz (f := G0) (xs := (s58.2.set s58.1.toNat y68)) (y := y71) O O O O H0 hy71 hmy71) O, trivial⟩ ?_
   refine D_w0 (u := .junk) O O O O (Gp (A_vstoreM (f := G0) (xs := (s58.2.set s58.1.toNat y68)) (z := y69) Jh O O O O (List.getElem?_eq_some_iff.1 hy71).1 O O O O) O) ?_
   refine D_nil ?_
   refine hK65 _ _ ?_
   refine G2 ?_
   refine JLg (G0 s58.1) (G7 O O) ?_
   obtain ⟨v72, hv72, h⟩ := H6 h
   refine JLg (G0 v72) (Jx hv72 O O O) ?_
   refine JLg (G0 v72) (G9 O O) ?_
   refine G8 ?_
   exact e58 _ _ m58 (v72, ((s58.2.set s58.1.toNat y68).set v66.toNat y69)) (app1 hn58 h) (by omega) ⟨⟨.same rfl, .same rfl, .same rfl, .same (refsL_any _ _ cmp_d), .same rfl, .same rfl, trivial⟩, ⟨⟨_, rfl, .vec⟩, trivial⟩, rfl⟩
  ·
   replace h := bif_f hb h
   refine H4 ?_
   refine hK6 _ _ ?_
   refine G2 ?_
   refine JLg (G0 s3.1) (G7 O O) ?_
   obtain ⟨v73, hv73, h⟩ := H6 h
   refine JLg (G0 v73) (Hd hv73 O O O) ?_
   refine JLg (G0 v73) (G9 O O) ?_
   refine G8 ?_
   exact e3 _ _ m3 (v73, s58.2) (app1 hn3 h) (by omega) ⟨⟨.same rfl, .same rfl, .same rfl, .same (refsL_any _ _ cmp_d), .same rfl, trivial⟩, ⟨⟨_, rfl, .vec⟩, trivial⟩, rfl⟩
 ·
  replace h := bif_f hb h
  refine H4 ?_
  obtain rfl := Option.some.inj h
  exact ⟨[], [(1111, .vec 3 1 data_q (s3.2.map G0))], ⟨⟨_, O, .vec⟩, trivial⟩, O, trivial, O, O⟩

def M_slices_pdqsortCmpFunc_int (F : Nat) (data : List Int) (a : Int) (b : Int) (limit : Int) (cmp : Int → Int → Option Int) : Option (List Int) :=
 loop (fun nx23 (s23 : Int × Int × Int × Bool × Bool) =>
  chk (s23.2.1 - s23.1) fun v25 =>
  bif decide (v25 ≤ 12) then
  (bnd (M_slices_insertionSortCmpFunc_int F data s23.1 s23.2.1 cmp) fun r29 =>
   some r29)
  else
  (bif decide (s23.2.2.1 = 0) then
   (none)
   else
   (bif (!s23.2.2.2.1) then
    (none)
    else
    (none)))) F (a, b, limit, true, true)
theorem M_slices_pdqsortCmpFunc_int_p450000011 (F : Nat) (data : List Int) (data_q : Nat) (a : Int) (b : Int) (limit : Int) (cmp : Int → Int → Option Int) (cmp_f : FuncId) (cmp_c : List AV) (cmp_B : callB Tryz.prog cmp_f = true) (cmp_d : refsL (fun _ => false) cmp_c = true) (cmp_w : ∀ a0 a1 q, cmp a0 a1 = some q → Pure Tryz.prog cmp_f ([G0 a0, G0 a1] ++ cmp_c) (· = G0 q)) (r : (List Int)) (h : M_slices_pdqsortCmpFunc_int F data a b limit cmp = some r) : ACalls Tryz.prog 121 [.vec 1111 data_q 1 data.length, G0 a, G0 b, G0 limit, .fn cmp_f cmp_c] [(1111, .vec 3 1 data_q (data.map G0))] (fun av L' => av = .tup [] ∧ L' = [(1111, .vec 3 1 data_q (r.map G0))]) := by
 unfold M_slices_pdqsortCmpFunc_int at h
 refine Hy [1111] [] Tryz.func121 O O (inAll O) ?_
 refine G6 fun K1 hK1 => G2 ?_
 refine JLg (BL true) (G9 O O) ?_
 refine G8 (hK1 _ _ ?_)
 refine G6 fun K2 hK2 => G2 ?_
 refine JLg (BL true) (G9 O O) ?_
 refine G8 (hK2 _ _ ?_)
 refine Gi ?_
 obtain ⟨b23, hb23, h⟩ := loop_in h
 refine Gz (fun i23 (s23 : Int × Int × Int × Bool × Bool) => loop b23 i23 s23 = some r) (fun i23 s23 => [(0, .vec 1111 data_q 1 data.length), (1, G0 s23.1), (2, G0 s23.2.1), (3, G0 s23.2.2.1), (4, .fn cmp_f cmp_c), (10, BL s23.2.2.2.1), (11, BL s23.2.2.2.2)]) (fun i23 s23 => [(1111, .vec 3 1 data_q (data.map G0))]) (fun i23 => i23) F (a, b, limit, true, true) h ⟨⟨.same O, .same O, .same O, .same O, .same (refsL_any _ _ cmp_d), .same O, .same O, trivial⟩, ⟨⟨_, O, .vec⟩, trivial⟩, O⟩ ?_
 clear h
 intro i23 s23 hi23 K23 e23
 obtain ⟨m23, nx23, hm_23, hn23, h⟩ := loop_out hi23
 replace h := app2 hb23 h
 refine Gi ?_
 refine G6 fun K24 hK24 => G2 ?_
 refine JLg (G0 s23.2.1) (G7 O O) ?_
 refine JLg (G0 s23.1) (G7 O O) ?_
 obtain ⟨v25, hv25, h⟩ := H6 h
 refine JLg (G0 v25) (Jx hv25 O O O) ?_
 refine JLg (G0 v25) (G9 O O) ?_
 refine G8 (hK24 _ _ ?_)
 refine G6 (fun K26 hK26 => ?_)
 refine G6 fun K27 hK27 => G2 ?_
 refine JLg (G0 v25) (G7 O O) ?_
 refine JLg (BL (decide (v25 ≤ 12))) (A_leq O O O) ?_
 refine G8 (hK27 _ _ ?_)
 refine Gh O (fun hb => ?_) (fun hb => ?_)
 ·
  replace h := bif_t hb h
  refine G6 fun K28 hK28 => G2 ?_
  refine JLg (.vec 1111 data_q 1 data.length) (G7 O O) ?_
  refine JLg (G0 s23.1) (G7 O O) ?_
  refine JLg (G0 s23.2.1) (G7 O O) ?_
  refine JLg (.fn cmp_f cmp_c) (G7 O O) ?_
  obtain ⟨r29, hr29, h⟩ := Ge h
  refine JLg (.tup []) (Q9 (args := [.vec 1111 data_q 1 data.length, G0 s23.1, G0 s23.2.1, .fn cmp_f cmp_c]) (L0 := [(1111, .vec 3 1 data_q (data.map G0))]) (Lr := [(1111, .vec 3 1 data_q (r29.map G0))]) O (M_slices_insertionSortCmpFunc_int_p450000011 F data data_q s23.1 s23.2.1 cmp cmp_f cmp_c cmp_B cmp_d cmp_w r29 hr29) tf_call_134 ⟨.inl O, O, .inl O, O, .inl O, O, .inl O, (refsL_any _ _ cmp_d), trivial⟩ ⟨O, trivial⟩ O O O) ?_
  refine G8 (hK28 _ _ ?_)
  refine Gq ?_
  obtain rfl := Option.some.inj h
  exact ⟨[], [(1111, .vec 3 1 data_q (r29.map G0))], ⟨⟨_, O, .vec⟩, trivial⟩, O, trivial, O, O⟩
 ·
  replace h := bif_f hb h
  refine Gj ?_
  refine hK26 _ _ ?_
  refine G6 (fun K30 hK30 => ?_)
  refine G6 fun K31 hK31 => G2 ?_
  refine JLg (G0 s23.2.2.1) (G7 O O) ?_
  refine JLg (BL (decide (s23.2.2.1 = 0))) (Hx O O O) ?_
  refine G8 (hK31 _ _ ?_)
  refine Gh O (fun hb => ?_) (fun hb => ?_)
  ·
   replace h := bif_t hb h
   refine G6 (fun K32 hK32 => ?_)
   cases h
  ·
   replace h := bif_f hb h
   refine Gj ?_
   refine hK30 _ _ ?_
   refine G6 (fun K33 hK33 => ?_)
   refine G6 fun K34 hK34 => G2 ?_
   refine JLg (BL s23.2.2.2.1) (G7 O O) ?_
   refine JLg (BL (!s23.2.2.2.1)) (A_not (b := s23.2.2.2.1) O O) ?_
   refine G8 (hK34 _ _ ?_)
   refine Gh O (fun hb => ?_) (fun hb => ?_)
   ·
    replace h := bif_t hb h
    refine G6 (fun K35 hK35 => ?_)
    cases h
   ·
    replace h := bif_f hb h
    refine Gj ?_
    refine hK33 _ _ ?_
    refine G6 (fun K36 hK36 => ?_)
    cases h

def M_slices_SortFunc_int (F : Nat) (x : List Int) (cmp : Int → Int → Option Int) : Option (List Int) :=
 bnd (M_math_bits_Len (IntKind.u64.wrap (x.length : Int))) fun r2 =>
 bnd (M_slices_pdqsortCmpFunc_int F x 0 (x.length : Int) r2 cmp) fun r3 =>
 some r3
theorem M_slices_SortFunc_int_p450000011 (F : Nat) (x : List Int) (x_q : Nat) (cmp : Int → Int → Option Int) (cmp_f : FuncId) (cmp_c : List AV) (cmp_B : callB Tryz.prog cmp_f = true) (cmp_d : refsL (fun _ => false) cmp_c = true) (cmp_w : ∀ a0 a1 q, cmp a0 a1 = some q → Pure Tryz.prog cmp_f ([G0 a0, G0 a1] ++ cmp_c) (· = G0 q)) (r : (List Int)) (h : M_slices_SortFunc_int F x cmp = some r) : ACalls Tryz.prog 97 [.vec 1111 x_q 1 x.length, .fn cmp_f cmp_c] [(1111, .vec 3 1 x_q (x.map G0))] (fun av L' => av = .tup [] ∧ L' = [(1111, .vec 3 1 x_q (r.map G0))]) := by
 unfold M_slices_SortFunc_int at h
 refine Hy [1111] [] Tryz.func97 O O (inAll O) ?_
 refine G6 fun K1 hK1 => G2 ?_
 refine JLg (.vec 1111 x_q 1 x.length) (G7 O O) ?_
 refine JL_vlenM (f := G0) (xs := x) H0 O O O (fun hm6 => ?_) O O O
 refine JLg (G0 (x.length : Int)) (G9 O O) ?_
 refine G8 (hK1 _ _ ?_)
 refine G2 ?_
 refine JLg (.vec 1111 x_q 1 x.length) (G7 O O) ?_
 refine JLg (G0 (x.length : Int)) (G7 O O) ?_
 refine JLg (G0 (x.length : Int)) (G7 O O) ?_
 refine JLg (.sc (.int .u64 (IntKind.u64.wrap (x.length : Int)))) (A_conv tf_int_138 Jy O O O) ?_
 obtain ⟨r2, hr2, h⟩ := Ge h
 refine JLg (G0 r2) (Gr (args := [.sc (.int .u64 (IntKind.u64.wrap (x.length : Int)))]) O (M_math_bits_Len_w (IntKind.u64.wrap (x.length : Int)) r2 hr2) tf_call_54 ⟨O, O, trivial⟩) ?_
 refine JLg (.fn cmp_f cmp_c) (G7 O O) ?_
 obtain ⟨r3, hr3, h⟩ := Ge h
 refine JLg (.tup []) (Q9 (args := [.vec 1111 x_q 1 x.length, G0 0, G0 (x.length : Int), G0 r2, .fn cmp_f cmp_c]) (L0 := [(1111, .vec 3 1 x_q (x.map G0))]) (Lr := [(1111, .vec 3 1 x_q (r3.map G0))]) O (M_slices_pdqsortCmpFunc_int_p450000011 F x x_q 0 (x.length : Int) r2 cmp cmp_f cmp_c cmp_B cmp_d cmp_w r3 hr3) tf_call_121 ⟨.inl O, O, .inl O, O, .inl O, O, .inl O, O, .inl O, (refsL_any _ _ cmp_d), trivial⟩ ⟨O, trivial⟩ O O O) ?_
 refine G8 ?_
 obtain rfl := Option.some.inj h
 exact ⟨[], [(1111, .vec 3 1 x_q (r3.map G0))], ⟨⟨_, O, .vec⟩, trivial⟩, O, trivial, O, O⟩

def M_moves_sorted_int (F : Nat) (l : List Int) (compare : Int → Int → Option Int) : Option (List Int) :=
 bnd (M_slices_SortFunc_int F l compare) fun r3 =>
 some r3
theorem M_moves_sorted_int_p450000011 (F : Nat) (l : List Int) (l_q : Nat) (compare : Int → Int → Option Int) (compare_f : FuncId) (compare_c : List AV) (compare_B : callB Tryz.prog compare_f = true) (compare_d : refsL (fun _ => false) compare_c = true) (compare_w : ∀ a0 a1 q, compare a0 a1 = some q → Pure Tryz.prog compare_f ([G0 a0, G0 a1] ++ compare_c) (· = G0 q)) (r : (List Int)) (h : M_moves_sorted_int F l compare = some r) : ACalls Tryz.prog 67 [.vec 1111 l_q 1 l.length, .fn compare_f compare_c] [(1111, .vec 3 1 l_q (l.map G0))] (fun av L' => ∃ p : Nat, av = .vec 1111 p 1 r.length ∧ L' = [(1111, .vec 3 1 p (r.map G0))]) := by
 unfold M_moves_sorted_int at h
 refine Hy [1111] [.tmp 4] Tryz.func67 O O (inAll O) ?_
 refine G6 fun K1 hK1 => G2 ?_
 refine JLg (.vec 1144 (([] : List Int).length) 1 (([] : List Int).length)) (A_vnil 1144 3 1 O O O) ?_
 refine G8 (hK1 _ _ ?_)
 refine G6 fun K2 hK2 => G2 ?_
 refine JLg (.vec 1111 l_q 1 l.length) (G7 O O) ?_
 refine JLg (.fn compare_f compare_c) (G7 O O) ?_
 obtain ⟨r3, hr3, h⟩ := Ge h
 refine JLg (.tup []) (Q9 (args := [.vec 1111 l_q 1 l.length, .fn compare_f compare_c]) (L0 := [(1111, .vec 3 1 l_q (l.map G0))]) (Lr := [(1111, .vec 3 1 l_q (r3.map G0))]) O (M_slices_SortFunc_int_p450000011 F l l_q compare compare_f compare_c compare_B compare_d compare_w r3 hr3) tf_call_97 ⟨.inl O, O, .inl O, (refsL_any _ _ compare_d), trivial⟩ ⟨O, trivial⟩ O O O) ?_
 refine G8 (hK2 _ _ ?_)
 refine G6 fun K4 hK4 => G2 ?_
 refine JLg (.vec 1111 l_q 1 l.length) (G7 O O) ?_
 refine JLg (.vec 1111 l_q 1 l.length) (G9 O O) ?_
 refine G8 (hK4 _ _ ?_)
 refine JC_vlen 4 O O (fun hn_ => ?_)
 refine Gq ?_
 obtain rfl := Option.some.inj h
 exact ⟨[.vec 1111 l_q 1 l.length], [(1111, .vec 3 1 l_q (r3.map G0))], ⟨⟨_, O, .vec⟩, trivial⟩, O, ⟨⟨_, O, .conv (.same O)⟩, trivial⟩, l_q, congrArg (fun n_ : Nat => (.vec 1111 l_q 1 n_ : AV)) (hn_.trans (List.length_map _)), O⟩

def M_moves_needed (F : Nat) (s : Ship) (before : List G3) (after : List G3) (lifted : List Int) (bay : Int) : Option (List Int) :=
 each (fun y5 i5 (s5 : (List Int)) nx5 =>
  bnd (M_moves_part F s y5 lifted bay false) fun r11 =>
  each (fun y52 i52 (s52 : (List Int)) nx52 =>
   jp (fun kj55 =>
    bnd (M_ship_CoverOf s y52.Slot.G5) fun r58 =>
    bnd (bif decide (0 ≤ r58) then M_slices_Contains_int s52 r58 else some default) fun r60 =>
    bif ((decide (0 ≤ r58)) && (!r60)) then
    (need (decide ((s52.length + [r58].length) * 8 ≤ 140737488355328 ∧ s52.length + [r58].length ≤ maxLen)) <|
     kj55 (s52 ++ [r58]))
    else
    (kj55 s52)) fun (j55 : (List Int)) =>
   nx52 j55)
  (fun (s52 : (List Int)) =>
   nx5 s52) r11 0 s5)
 (fun (s5 : (List Int)) =>
  bnd (M_moves_sorted_int F s5 (fun z0 z1 => M_cmp_Compare_int z0 z1)) fun r63 =>
  some r63) [before, after] 0 []
theorem M_moves_needed_w (F : Nat) (s : Ship) (before : List G3) (after : List G3) (lifted : List Int) (bay : Int) (r : (List Int)) (h : M_moves_needed F s before after lifted bay = some r) : Pure Tryz.prog 44 [.agg (Ship.cs s), LS 4 G3.av before, LS 4 G3.av after, LS 1 G0 lifted, G0 bay] (· = LS 1 G0 r) := by
 unfold M_moves_needed at h
 refine Gx [.tmp 10] Tryz.func44 O O ?_
 refine G6 fun K1 hK1 => G2 ?_
 refine JLg (.ptr 1110 0) (J1 (u := .agg (Ship.cs s)) (cs := (Ship.cs s)) 1110 O O O O O) ?_
 refine JLg (LS 1 G0 ([] : List Int)) (Hw 1 O O) ?_
 refine G8 (hK1 _ _ ?_)
 refine Gm [(1, LS 4 G3.av before), (2, LS 4 G3.av after), (3, LS 1 G0 lifted), (4, G0 bay), (5, .dptr (Ship.cs s))] [] 1110 rfl rfl rfl trivial rfl (by repeat' (first | exact .ptr | constructor)) ?_
 refine G6 fun K2 hK2 => G2 ?_
 refine JLg (.vec 1111 (([] : List Int).length) 1 (([] : List Int).length)) (A_vnil 1111 3 1 O O O) ?_
 refine G8 (hK2 _ _ ?_)
 refine G6 (fun K3 hK3 => ?_)
 refine G6 fun K4 hK4 => G2 ?_
 refine JLg (LS 4 G3.av before) (G7 O O) ?_
 refine JLg (LS 4 G3.av after) (G7 O O) ?_
 refine JLg (LS 1 (LS 4 G3.av) [before, after]) (Gu (xs := [LS 4 G3.av before, LS 4 G3.av after]) O ⟨O, O, O, O, trivial⟩ Hu tf_zsize_69 O O O O) ?_
 refine H9 (f := (LS 4 G3.av)) (xs := [before, after]) Hu O O (fun hm20 => ?_) O O O
 refine JLg (G0 0) (G7 O O) ?_
 refine G8 (hK4 _ _ ?_)
 refine Gi ?_
 obtain ⟨b5, kx5, hb5, hkx5, h⟩ := Hi h
 refine Gz (fun i5 (s5 : (List Int)) => each b5 kx5 (List.drop i5 [before, after]) i5 s5 = some r) (fun i5 s5 => [(3, LS 1 G0 lifted), (4, G0 bay), (5, .dptr (Ship.cs s)), (11, .vec 1111 s5.length 1 s5.length), (19, LS 1 (LS 4 G3.av) [before, after]), (20, G0 ([before, after].length : Int)), (21, G0 (i5 : Int))]) (fun i5 s5 => [(1111, .vec 3 1 s5.length (s5.map G0))]) (fun i5 => [before, after].length - i5) 0 [] h ⟨(by repeat' constructor), ⟨⟨_, rfl, .vec⟩, trivial⟩, rfl⟩ ?_
 clear h
 intro i5 s5 hi5 K5 e5
 refine G6 fun K6 hK6 => G2 ?_
 refine JLg (BL (decide ((i5 : Int) < ([before, after].length : Int)))) (He O O O) ?_
 refine G8 (hK6 _ _ ?_)
 refine G6 (fun K7 hK7 => ?_)
 refine Gh O (fun hb => ?_) (fun hb => ?_)
 ·
  have hk5 := lt_len hb
  obtain ⟨y5, nx5, hy5, hn5, h⟩ := Ha hi5 hk5
  replace h := app4 hb5 h
  refine Gj ?_
  refine hK7 _ _ ?_
  refine G6 (fun K8 hK8 => ?_)
  refine Gi ?_
  refine G6 fun K9 hK9 => G2 ?_
  refine JLg (.dptr [LS 4 G3.av y5]) (Gw (f := (LS 4 G3.av)) (xs := [before, after]) (y := y5) O O O Hu hy5 O) ?_
  refine JLg (LS 4 G3.av y5) (Gf tf_scalar_69 O O O) ?_
  refine JLg (LS 4 G3.av y5) (G9 O O) ?_
  refine G8 (hK9 _ _ ?_)
  refine G6 fun K10 hK10 => G2 ?_
  refine JLg (.agg (Ship.cs s)) (Gg H5 O O O) ?_
  refine JLg (LS 4 G3.av y5) (G7 O O) ?_
  refine JLg (LS 1 G0 lifted) (G7 O O) ?_
  refine JLg (G0 bay) (G7 O O) ?_
  obtain ⟨r11, hr11, h⟩ := Ge h
  refine JLg (LS 4 G3.av r11) (Gr (args := [.agg (Ship.cs s), LS 4 G3.av y5, LS 1 G0 lifted, G0 bay, BL false]) O (M_moves_part_w F s y5 lifted bay false r11 hr11) tf_call_43 ⟨O, O, O, O, O, O, O, O, O, O, trivial⟩) ?_
  refine H9 (f := G3.av) (xs := r11) Gs O O (fun hm30 => ?_) O O O
  refine JLg (G0 0) (G7 O O) ?_
  refine G8 (hK10 _ _ ?_)
  refine Gi ?_
  obtain ⟨b52, kx52, hb52, hkx52, h⟩ := Hi h
  refine Gz (fun i52 (s52 : (List Int)) => each b52 kx52 (List.drop i52 r11) i52 s52 = some r) (fun i52 s52 => [(3, LS 1 G0 lifted), (4, G0 bay), (5, .dptr (Ship.cs s)), (11, .vec 1111 s52.length 1 s52.length), (19, LS 1 (LS 4 G3.av) [before, after]), (20, G0 ([before, after].length : Int)), (21, G0 (i5 : Int)), (29, LS 4 G3.av r11), (30, G0 (r11.length : Int)), (31, G0 (i52 : Int))]) (fun i52 s52 => [(1111, .vec 3 1 s52.length (s52.map G0))]) (fun i52 => r11.length - i52) 0 s5 h ⟨(by repeat' constructor), ⟨⟨_, rfl, .vec⟩, trivial⟩, rfl⟩ ?_
  clear h
  intro i52 s52 hi52 K52 e52
  refine G6 fun K53 hK53 => G2 ?_
  refine JLg (BL (decide ((i52 : Int) < (r11.length : Int)))) (He O O O) ?_
  refine G8 (hK53 _ _ ?_)
  refine G6 (fun K54 hK54 => ?_)
  refine Gh O (fun hb => ?_) (fun hb => ?_)
  ·
   have hk52 := lt_len hb
   obtain ⟨y52, nx52, hy52, hn52, h⟩ := Ha hi52 hk52
   replace h := app4 hb52 h
   refine Gj ?_
   refine hK54 _ _ ?_
   obtain ⟨kj55, hkj55, h⟩ := J6 h
   refine Hs (fun j55 : (List Int) => kj55 j55 = some r) (fun j55 => [(3, LS 1 G0 lifted), (4, G0 bay), (5, .dptr (Ship.cs s)), (11, .vec 1111 j55.length 1 j55.length), (19, LS 1 (LS 4 G3.av) [before, after]), (20, G0 ([before, after].length : Int)), (21, G0 (i5 : Int)), (29, LS 4 G3.av r11), (30, G0 (r11.length : Int)), (31, G0 (i52 : Int))]) (fun j55 => [(1111, .vec 3 1 j55.length (j55.map G0))]) (fun Kj55 ej55 => ?_) ?_
   ·
    refine Gi ?_
    refine G6 fun K56 hK56 => G2 ?_
    refine JLg (.dptr (G3.cs y52)) (Gw (f := G3.av) (xs := r11) (y := y52) O O O Gs hy52 O) ?_
    refine JLg (.agg (G3.cs y52)) (Gg Hp O O O) ?_
    refine JLg (.ptr 1112 0) (H2 1112 4 Hk O O) ?_
    refine H1 (u := .junk) (Gt (u := .agg (G3.cs y52)) (ds := [G0 y52.Box, G0 y52.Slot.G5, G0 y52.Slot.Tier, U8 y52.Slot.Half]) J3 O O O O O O O O) ?_
    refine G8 (hK56 _ _ ?_)
    refine Gm [(3, LS 1 G0 lifted), (4, G0 bay), (5, .dptr (Ship.cs s)), (11, .vec 1111 s52.length 1 s52.length), (15, .dptr (G3.cs y52)), (19, LS 1 (LS 4 G3.av) [before, after]), (20, G0 ([before, after].length : Int)), (21, G0 (i5 : Int)), (29, LS 4 G3.av r11), (30, G0 (r11.length : Int)), (31, G0 (i52 : Int))] [(1111, .vec 3 1 s52.length (s52.map G0))] 1112 rfl rfl rfl ⟨⟨_, rfl, .vec⟩, trivial⟩ rfl (by repeat' (first | exact .ptr | constructor)) ?_
    refine G6 fun K57 hK57 => G2 ?_
    refine JLg (.agg (Ship.cs s)) (Gg H5 O O O) ?_
    refine JLg (.dptr (Slot.cs y52.Slot)) (Gb Hg O O O) ?_
    refine JLg (.dptr (Slot.cs y52.Slot)) (Gb Hh O O O) ?_
    refine JLg (G0 y52.Slot.G5) (Gf Ga O O O) ?_
    obtain ⟨r58, hr58, h⟩ := Ge h
    refine JLg (G0 r58) (Gr (args := [.agg (Ship.cs s), G0 y52.Slot.G5]) O (M_ship_CoverOf_w s y52.Slot.G5 r58 hr58) tf_call_58 ⟨O, O, O, O, trivial⟩) ?_
    refine JLg (G0 r58) (G9 O O) ?_
    refine G8 (hK57 _ _ ?_)
    refine G6 fun K59 hK59 => G2 ?_
    refine JLg (G0 r58) (G7 O O) ?_
    refine JLg (BL (decide (0 ≤ r58))) (A_geq O O O) ?_
    refine JLg (BL (decide (0 ≤ r58))) (G7 O O) ?_
    refine Gd (u := .vec 1111 s52.length 1 s52.length) [] O O O .sct trivial (fun hc => G7 O O) ?_
    refine Gd (u := G0 r58) [] O O O .sct trivial (fun hc => G7 O O) ?_
    obtain ⟨r60, hr60, h⟩ := Ge h
    refine Gd (u := BL r60) [(43, .vec 1111 s52.length 1 s52.length), (44, G0 r58)] O O O .sct ⟨.all id, .all id, trivial⟩ (fun hc => A_callLend (args := [LS 1 G0 s52, G0 r58]) O (M_slices_Contains_int_w s52 r58 r60 (bif_t hc hr60)) tf_call_63 ⟨.vec O, .data O O, trivial⟩ O) ?_
    refine Gd (u := BL (!r60)) [(45, BL r60)] O O O .sct ⟨.all id, trivial⟩ (fun hc => A_not (b := r60) O O) ?_
    refine JLg (BL ((decide (0 ≤ r58)) && (!r60))) (J2 O O O O) ?_
    refine G8 (hK59 _ _ ?_)
    refine Gh O (fun hb => ?_) (fun hb => ?_)
    ·
     replace h := bif_t hb h
     refine G2 ?_
     refine JLg (.vec 1111 s52.length 1 s52.length) (G7 O O) ?_
     refine JLg (G0 r58) (G7 O O) ?_
     refine JLg (LS 1 G0 [r58]) (Gu (xs := [G0 r58]) O ⟨O, O, trivial⟩ H0 Jr O O O O) ?_
     obtain ⟨ha61, h⟩ := Hq h
     refine JLg (.vec 1111 ((s52 ++ [r58]).length) 1 ((s52 ++ [r58]).length)) (A_vappendM (f := G0) (xs := s52) (ys := [r58]) (ver := s52.length) (ver1 := (s52 ++ [r58]).length) rfl rfl rfl rfl H0 tf_elem_3 ha61 (fun _ => rfl) (.inl rfl) (by simp)) ?_
     refine JLg (.vec 1111 ((s52 ++ [r58]).length) 1 ((s52 ++ [r58]).length)) (G9 O O) ?_
     refine G8 ?_
     exact ej55 _ _ (s52 ++ [r58]) h ⟨(by repeat' constructor), ⟨⟨_, rfl, .vec⟩, trivial⟩, rfl⟩
    ·
     replace h := bif_f hb h
     refine Gj ?_
     exact ej55 _ _ s52 h ⟨(by repeat' constructor), ⟨⟨_, rfl, .vec⟩, trivial⟩, rfl⟩
   ·intro j55 h
    replace h := app1 hkj55 h
    refine G2 ?_
    refine JLg (G0 ((i52 + 1 : Nat) : Int)) (Hd (idx_succ hk52 hm30) O O O) ?_
    refine JLg (G0 ((i52 + 1 : Nat) : Int)) (G7 O O) ?_
    refine G8 ?_
    exact e52 _ _ (i52 + 1) j55 (app1 hn52 h) (by omega) ⟨(by repeat' constructor), ⟨⟨_, rfl, .vec⟩, trivial⟩, rfl⟩
  ·
   have h := app1 hkx52 (Hb hi52 (Gy hb))
   refine H4 ?_
   refine hK8 _ _ ?_
   refine G2 ?_
   refine JLg (G0 ((i5 + 1 : Nat) : Int)) (Hd (idx_succ hk5 hm20) O O O) ?_
   refine JLg (G0 ((i5 + 1 : Nat) : Int)) (G7 O O) ?_
   refine G8 ?_
   exact e5 _ _ (i5 + 1) s52 (app1 hn5 h) (by omega) ⟨(by repeat' constructor), ⟨⟨_, rfl, .vec⟩, trivial⟩, rfl⟩
 ·
  have h := app1 hkx5 (Hb hi5 (Gy hb))
  refine H4 ?_
  refine hK3 _ _ ?_
  refine G6 fun K62 hK62 => G2 ?_
  refine JLg (.vec 1111 s5.length 1 s5.length) (G7 O O) ?_
  obtain ⟨r63, hr63, h⟩ := Ge h
  refine JL_step O O O (A_callLE (args := [.vec 1111 s5.length 1 s5.length, .fn 19 []]) (L0 := [(1111, .vec 3 1 s5.length (s5.map G0))]) (u := fun p => .vec 1111 p 1 r63.length) (Lr := fun p => [(1111, .vec 3 1 p (r63.map G0))]) O (M_moves_sorted_int_p450000011 F s5 s5.length (fun z0 z1 => M_cmp_Compare_int z0 z1) 19 [] tf_call_19 O (fun z0 z1 q hq => M_cmp_Compare_int_w z0 z1 q hq) r63 hr63) tf_call_67 ⟨.inl O, O, .inl O, O, trivial⟩ ⟨O, trivial⟩ O (fun _ => O)) ?_
  rintro u_ L_ ⟨v64, rfl, rfl⟩
  refine JLg (.vec 1111 v64 1 r63.length) (G9 O O) ?_
  refine G8 (hK62 _ _ ?_)
  refine JC_vfreeze [(10, LS 1 G0 r63)] [] 1111 rfl rfl trivial rfl (by exact ⟨.vec, trivial⟩) ?_
  refine Gq ?_
  exact ⟨[LS 1 G0 r63], [], trivial, O, ⟨⟨_, O, .conv (.same O)⟩, trivial⟩, O, congrArg (fun r : (List Int) => (LS 1 G0 r : AV)) (Option.some.inj h)⟩


theorem M_moves_part_n (F : Nat) (s : Ship) (l : List G3) (lifted : List Int) (bay : Int) (deck : Bool) (r : (List G3)) (h : M_moves_part F s l lifted bay deck = some r) : ACalls Tryz.prog 43 [.agg (Ship.cs s), LS 4 G3.av l, LS 1 G0 lifted, G0 bay, BL deck] [] (fun av L' => ∃ p : Nat, av = .vec 1107 p 4 r.length ∧ L' = [(1107, .vec 68 4 p (r.map G3.av))]) := by
 unfold M_moves_part at h
 refine Hy [] [.tmp 10] Tryz.func43 O O (inAll O) ?_
 refine G6 fun K1 hK1 => G2 ?_
 refine JLg (.ptr 1105 0) (J1 (u := .agg (Ship.cs s)) (cs := (Ship.cs s)) 1105 O O O O O) ?_
 refine JLg (.vec 1106 (([] : List G3).length) 4 (([] : List G3).length)) (A_vnil 1106 68 4 O O O) ?_
 refine G8 (hK1 _ _ ?_)
 refine Gm [(1, LS 4 G3.av l), (2, LS 1 G0 lifted), (3, G0 bay), (4, BL deck), (5, .dptr (Ship.cs s))] [(1106, .vec 68 4 (([] : List G3).length) (([] : List G3).map G3.av))] 1105 rfl rfl rfl ⟨⟨_, rfl, .vec⟩, trivial⟩ rfl (by repeat' (first | exact .ptr | constructor)) ?_
 refine G6 fun K2 hK2 => G2 ?_
 refine JLg (.vec 1107 (([] : List G3).length) 4 (([] : List G3).length)) (A_vnil 1107 68 4 O O O) ?_
 refine G8 (hK2 _ _ ?_)
 refine G6 (fun K3 hK3 => ?_)
 refine G6 fun K4 hK4 => G2 ?_
 refine JLg (LS 4 G3.av l) (G7 O O) ?_
 refine H9 (f := G3.av) (xs := l) Gs O O (fun hm16 => ?_) O O O
 refine JLg (G0 0) (G7 O O) ?_
 refine G8 (hK4 _ _ ?_)
 refine Gi ?_
 obtain ⟨b49, kx49, hb49, hkx49, h⟩ := Hi h
 refine Gz (fun i49 (s49 : (List G3)) => each b49 kx49 (List.drop i49 l) i49 s49 = some r) (fun i49 s49 => [(2, LS 1 G0 lifted), (3, G0 bay), (4, BL deck), (5, .dptr (Ship.cs s)), (11, .vec 1107 s49.length 4 s49.length), (15, LS 4 G3.av l), (16, G0 (l.length : Int)), (17, G0 (i49 : Int))]) (fun i49 s49 => [(1106, .vec 68 4 (([] : List G3).length) (([] : List G3).map G3.av)), (1107, .vec 68 4 s49.length (s49.map G3.av))]) (fun i49 => l.length - i49) 0 [] h ⟨(by repeat' constructor), ⟨⟨_, rfl, .vec⟩, ⟨_, rfl, .vec⟩, trivial⟩, rfl⟩ ?_
 clear h
 intro i49 s49 hi49 K49 e49
 refine G6 fun K50 hK50 => G2 ?_
 refine JLg (BL (decide ((i49 : Int) < (l.length : Int)))) (He O O O) ?_
 refine G8 (hK50 _ _ ?_)
 refine G6 (fun K51 hK51 => ?_)
 refine Gh O (fun hb => ?_) (fun hb => ?_)
 ·
  have hk49 := lt_len hb
  obtain ⟨y49, nx49, hy49, hn49, h⟩ := Ha hi49 hk49
  replace h := app4 hb49 h
  refine Gj ?_
  refine hK51 _ _ ?_
  obtain ⟨kj52, hkj52, h⟩ := J6 h
  refine Hs (fun j52 : (List G3) => kj52 j52 = some r) (fun j52 => [(2, LS 1 G0 lifted), (3, G0 bay), (4, BL deck), (5, .dptr (Ship.cs s)), (11, .vec 1107 j52.length 4 j52.length), (15, LS 4 G3.av l), (16, G0 (l.length : Int)), (17, G0 (i49 : Int))]) (fun j52 => [(1106, .vec 68 4 (([] : List G3).length) (([] : List G3).map G3.av)), (1107, .vec 68 4 j52.length (j52.map G3.av))]) (fun Kj52 ej52 => ?_) ?_
  ·
   refine Gi ?_
   refine G6 fun K53 hK53 => G2 ?_
   refine JLg (.dptr (G3.cs y49)) (Gw (f := G3.av) (xs := l) (y := y49) O O O Gs hy49 O) ?_
   refine JLg (.agg (G3.cs y49)) (Gg Hp O O O) ?_
   refine JLg (.ptr 1108 0) (H2 1108 4 Hk O O) ?_
   refine H1 (u := .junk) (Gt (u := .agg (G3.cs y49)) (ds := [G0 y49.Box, G0 y49.Slot.G5, G0 y49.Slot.Tier, U8 y49.Slot.Half]) J3 O O O O O O O O) ?_
   refine G8 (hK53 _ _ ?_)
   refine Gm [(2, LS 1 G0 lifted), (3, G0 bay), (4, BL deck), (5, .dptr (Ship.cs s)), (11, .vec 1107 s49.length 4 s49.length), (13, .dptr (G3.cs y49)), (15, LS 4 G3.av l), (16, G0 (l.length : Int)), (17, G0 (i49 : Int))] [(1106, .vec 68 4 (([] : List G3).length) (([] : List G3).map G3.av)), (1107, .vec 68 4 s49.length (s49.map G3.av))] 1108 rfl rfl rfl ⟨⟨_, rfl, .vec⟩, ⟨_, rfl, .vec⟩, trivial⟩ rfl (by repeat' (first | exact .ptr | constructor)) ?_
   refine G6 fun K54 hK54 => G2 ?_
   refine JLg (.dptr (Ship.cs s)) (Gb Hc O O O) ?_
   refine JLg (LS 12 G5.av s.Columns) (Gf Hj O O O) ?_
   refine JLg (.dptr (Slot.cs y49.Slot)) (Gb Hg O O O) ?_
   refine JLg (.dptr (Slot.cs y49.Slot)) (Gb Hh O O O) ?_
   refine JLg (G0 y49.Slot.G5) (Gf Ga O O O) ?_
   obtain ⟨m56, y55, hm56, hy55, h⟩ := Jq h
   refine JLg (.dptr (G5.cs y55)) (Gw (f := G5.av) (xs := s.Columns) (y := y55) O O O Hf hy55 hm56) ?_
   refine JLg (.agg (G5.cs y55)) (Gg tf_agg_56 O O O) ?_
   refine JLg (.ptr 1109 0) (H2 1109 12 Q4 O O) ?_
   refine H1 (u := .junk) (Gt (u := .agg (G5.cs y55)) (ds := (G5.cs y55)) tf_size_56 O O O O O O O O) ?_
   refine G8 (hK54 _ _ ?_)
   refine Gm [(2, LS 1 G0 lifted), (3, G0 bay), (4, BL deck), (5, .dptr (Ship.cs s)), (11, .vec 1107 s49.length 4 s49.length), (13, .dptr (G3.cs y49)), (14, .dptr (G5.cs y55)), (15, LS 4 G3.av l), (16, G0 (l.length : Int)), (17, G0 (i49 : Int))] [(1106, .vec 68 4 (([] : List G3).length) (([] : List G3).map G3.av)), (1107, .vec 68 4 s49.length (s49.map G3.av))] 1109 rfl rfl rfl ⟨⟨_, rfl, .vec⟩, ⟨_, rfl, .vec⟩, trivial⟩ rfl (by repeat' (first | exact .ptr | constructor)) ?_
   refine G6 fun K57 hK57 => G2 ?_
   refine JLg (.dptr (G5.cs y55)) (Gb Ji O O O) ?_
   refine JLg (G0 y55.Bay) (Gf Ga O O O) ?_
   refine JLg (G0 bay) (G7 O O) ?_
   refine JLg (BL (decide (y55.Bay = bay))) (Hx O O O) ?_
   refine JLg (BL (decide (y55.Bay = bay))) (G7 O O) ?_
   refine Gd (u := .dptr ((G5.cs y55).drop 2)) [] O O O .sct trivial (fun hc => Gb Jw O O O) ?_
   refine Gd (u := BL y55.Deck) [(33, .dptr ((G5.cs y55).drop 2))] O O O .sct ⟨.all id, trivial⟩ (fun hc => Gf J9 O O O) ?_
   refine Gd (u := BL deck) [] O O O .sct trivial (fun hc => G7 O O) ?_
   refine Gd (u := BL (y55.Deck == deck)) [(34, BL y55.Deck), (35, BL deck)] O O O .sct ⟨.all id, .all id, trivial⟩ (fun hc => A_eqBool tf_bool_4 O O O) ?_
   refine JLg (BL ((decide (y55.Bay = bay)) && (y55.Deck == deck))) (J2 O O O O) ?_
   refine JLg (BL ((decide (y55.Bay = bay)) && (y55.Deck == deck))) (G7 O O) ?_
   refine Gd (u := LS 1 G0 lifted) [] O O O .sct trivial (fun hc => G7 O O) ?_
   refine Gd (u := .dptr (G3.cs y49)) [] O O O .sct trivial (fun hc => Gb Hn O O O) ?_
   refine Gd (u := G0 y49.Box) [(40, .dptr (G3.cs y49))] O O O .sct ⟨.all id, trivial⟩ (fun hc => Gf Ga O O O) ?_
   obtain ⟨r58, hr58, h⟩ := Ge h
   refine Gd (u := BL r58) [(39, LS 1 G0 lifted), (41, G0 y49.Box)] O O O .sct ⟨.all id, .all id, trivial⟩ (fun hc => Gr (args := [LS 1 G0 lifted, G0 y49.Box]) O (M_slices_Contains_int_w lifted y49.Box r58 (bif_t hc hr58)) tf_call_63 ⟨O, O, O, O, trivial⟩) ?_
   refine JLg (BL (((decide (y55.Bay = bay)) && (y55.Deck == deck)) && r58)) (J2 O O O O) ?_
   refine G8 (hK57 _ _ ?_)
   refine Gh O (fun hb => ?_) (fun hb => ?_)
   ·
    replace h := bif_t hb h
    refine G2 ?_
    refine JLg (.vec 1107 s49.length 4 s49.length) (G7 O O) ?_
    refine JLg (.agg (G3.cs y49)) (Gg Hp O O O) ?_
    refine JLg (LS 4 G3.av [y49]) (Gu (xs := [.agg (G3.cs y49)]) O ⟨O, O, trivial⟩ Gs Hk O O O O) ?_
    obtain ⟨ha59, h⟩ := Hq h
    refine JLg (.vec 1107 ((s49 ++ [y49]).length) 4 ((s49 ++ [y49]).length)) (A_vappendM (f := G3.av) (xs := s49) (ys := [y49]) (ver := s49.length) (ver1 := (s49 ++ [y49]).length) rfl rfl rfl rfl Gs tf_elem_68 ha59 (fun _ => rfl) (.inl rfl) (by simp)) ?_
    refine JLg (.vec 1107 ((s49 ++ [y49]).length) 4 ((s49 ++ [y49]).length)) (G9 O O) ?_
    refine G8 ?_
    exact ej52 _ _ (s49 ++ [y49]) h ⟨(by repeat' constructor), ⟨⟨_, rfl, .vec⟩, ⟨_, rfl, .vec⟩, trivial⟩, rfl⟩
   ·
    replace h := bif_f hb h
    refine Gj ?_
    exact ej52 _ _ s49 h ⟨(by repeat' constructor), ⟨⟨_, rfl, .vec⟩, ⟨_, rfl, .vec⟩, trivial⟩, rfl⟩
  ·intro j52 h
   replace h := app1 hkj52 h
   refine G2 ?_
   refine JLg (G0 ((i49 + 1 : Nat) : Int)) (Hd (idx_succ hk49 hm16) O O O) ?_
   refine JLg (G0 ((i49 + 1 : Nat) : Int)) (G7 O O) ?_
   refine G8 ?_
   exact e49 _ _ (i49 + 1) j52 (app1 hn49 h) (by omega) ⟨(by repeat' constructor), ⟨⟨_, rfl, .vec⟩, ⟨_, rfl, .vec⟩, trivial⟩, rfl⟩
 ·
  have h := app1 hkx49 (Hb hi49 (Gy hb))
  refine H4 ?_
  refine hK3 _ _ ?_
  refine G6 fun K60 hK60 => G2 ?_
  refine JLg (.vec 1107 s49.length 4 s49.length) (G7 O O) ?_
  obtain ⟨r61, hr61, h⟩ := Ge h
  refine JL_step O O O (A_callLE (args := [.vec 1107 s49.length 4 s49.length, .fn 65 []]) (L0 := [(1107, .vec 68 4 s49.length (s49.map G3.av))]) (u := fun p => .vec 1107 p 4 r61.length) (Lr := fun p => [(1107, .vec 68 4 p (r61.map G3.av))]) O (M_moves_sorted_apiStowed_p440000011 F s49 s49.length (fun z0 z1 => M_moves_part_1 z0 z1) 65 [] tf_call_65 O (fun z0 z1 q hq => M_moves_part_1_w z0 z1 q hq) r61 hr61) tf_call_64 ⟨.inl O, O, .inl O, O, trivial⟩ ⟨O, trivial⟩ O (fun _ => O)) ?_
  rintro u_ L_ ⟨v62, rfl, rfl⟩
  refine JLg (.vec 1107 v62 4 r61.length) (G9 O O) ?_
  refine G8 (hK60 _ _ ?_)
  refine JC_vlen 10 O O (fun hn_ => ?_)
  refine Gq ?_
  obtain rfl := Option.some.inj h
  exact ⟨[.vec 1107 v62 4 r61.length], [(1107, .vec 68 4 v62 (r61.map G3.av))], ⟨⟨_, O, .vec⟩, trivial⟩, O, ⟨⟨_, O, .conv (.same O)⟩, trivial⟩, v62, congrArg (fun n_ : Nat => (.vec 1107 v62 4 n_ : AV)) (hn_.trans (List.length_map _)), O⟩

def M_slices_stableCmpFunc_apiStowed (F : Nat) (data : List G3) (n : Int) (cmp : G3 → G3 → Option Int) : Option (List G3) :=
 loop (fun nx19 (s19 : Int × Int × (List G3)) =>
  bif decide (s19.2.1 ≤ n) then
  (bnd (M_slices_insertionSortCmpFunc_apiStowed F s19.2.2 s19.1 s19.2.1 cmp) fun r23 =>
   chk (s19.2.1 + 20) fun v26 =>
   nx19 (s19.2.1, v26, r23))
  else
  (bnd (M_slices_insertionSortCmpFunc_apiStowed F s19.2.2 s19.1 n cmp) fun r28 =>
   loop (fun nx30 (s30 : Int) =>
    bif decide (s30 < n) then
    (chk (2 * s30) fun v34 =>
     loop (fun nx40 (s40 : Int × Int) =>
      bif decide (s40.2 ≤ n) then
      (none)
      else
      (chk (s40.1 + s30) fun v46 =>
       bif decide (v46 < n) then
       (none)
       else
       (chk (s30 * 2) fun v48 =>
        nx30 v48))) F (0, v34))
    else
    (some r28)) F 20)) F (0, 20, data)
theorem M_slices_stableCmpFunc_apiStowed_p440000011 (F : Nat) (data : List G3) (data_q : Nat) (n : Int) (cmp : G3 → G3 → Option Int) (cmp_f : FuncId) (cmp_c : List AV) (cmp_B : callB Tryz.prog cmp_f = true) (cmp_d : refsL (fun _ => false) cmp_c = true) (cmp_w : ∀ a0 a1 q, cmp a0 a1 = some q → Pure Tryz.prog cmp_f ([.agg (G3.cs a0), .agg (G3.cs a1)] ++ cmp_c) (· = G0 q)) (r : (List G3)) (h : M_slices_stableCmpFunc_apiStowed F data n cmp = some r) : ACalls Tryz.prog 93 [.vec 1107 data_q 4 data.length, G0 n, .fn cmp_f cmp_c] [(1107, .vec 68 4 data_q (data.map G3.av))] (fun av L' => av = .tup [] ∧ L' = [(1107, .vec 68 4 data_q (r.map G3.av))]) := by
 unfold M_slices_stableCmpFunc_apiStowed at h
 refine Hy [1107] [] Tryz.func93 O O (inAll O) ?_
 refine G6 fun K1 hK1 => G2 ?_
 refine JLg (G0 20) (G9 O O) ?_
 refine G8 (hK1 _ _ ?_)
 refine G6 fun K2 hK2 => G2 ?_
 refine JLg (G0 20) (G7 O O) ?_
 refine JLg (G0 0) (G9 O O) ?_
 refine JLg (G0 20) (G9 O O) ?_
 refine G8 (hK2 _ _ ?_)
 refine G6 (fun K3 hK3 => ?_)
 refine Gi ?_
 obtain ⟨b19, hb19, h⟩ := loop_in h
 refine Gz (fun i19 (s19 : Int × Int × (List G3)) => loop b19 i19 s19 = some r) (fun i19 s19 => [(0, .vec 1107 data_q 4 data.length), (1, G0 n), (2, .fn cmp_f cmp_c), (6, G0 20), (7, G0 s19.1), (8, G0 s19.2.1)]) (fun i19 s19 => [(1107, .vec 68 4 data_q (s19.2.2.map G3.av))]) (fun i19 => i19) F (0, 20, data) h ⟨⟨.same O, .same O, .same (refsL_any _ _ cmp_d), .same O, .same O, .same O, trivial⟩, ⟨⟨_, O, .vec⟩, trivial⟩, O⟩ ?_
 clear h
 intro i19 s19 hi19 K19 e19
 obtain ⟨m19, nx19, hm_19, hn19, h⟩ := loop_out hi19
 replace h := app2 hb19 h
 refine G6 (fun K20 hK20 => ?_)
 refine G6 fun K21 hK21 => G2 ?_
 refine JLg (G0 s19.2.1) (G7 O O) ?_
 refine JLg (G0 n) (G7 O O) ?_
 refine JLg (BL (decide (s19.2.1 ≤ n))) (A_leq O O O) ?_
 refine G8 (hK21 _ _ ?_)
 refine Gh O (fun hb => ?_) (fun hb => ?_)
 ·
  replace h := bif_t hb h
  refine Gj ?_
  refine hK20 _ _ ?_
  refine Gi ?_
  refine G6 fun K22 hK22 => G2 ?_
  refine JLg (.vec 1107 data_q 4 data.length) (G7 O O) ?_
  refine JLg (G0 s19.1) (G7 O O) ?_
  refine JLg (G0 s19.2.1) (G7 O O) ?_
  refine JLg (.fn cmp_f cmp_c) (G7 O O) ?_
  obtain ⟨r23, hr23, h⟩ := Ge h
  refine JL_vlen 14 O O (fun hn24 => ?_)
  refine JLg (.tup []) (Q9 (args := [.vec 1107 data_q 4 s19.2.2.length, G0 s19.1, G0 s19.2.1, .fn cmp_f cmp_c]) (L0 := [(1107, .vec 68 4 data_q (s19.2.2.map G3.av))]) (Lr := [(1107, .vec 68 4 data_q (r23.map G3.av))]) O (M_slices_insertionSortCmpFunc_apiStowed_p440000011 F s19.2.2 data_q s19.1 s19.2.1 cmp cmp_f cmp_c cmp_B cmp_d cmp_w r23 hr23) tf_call_117 ⟨.inl (congrArg (fun n_ : Nat => (.vec 1107 data_q 4 n_ : AV)) (hn24.trans (List.length_map _))), O, .inl O, O, .inl O, O, .inl O, (refsL_any _ _ cmp_d), trivial⟩ ⟨O, trivial⟩ O O O) ?_
  refine G8 (hK22 _ _ ?_)
  refine G6 fun K25 hK25 => G2 ?_
  refine JLg (G0 s19.2.1) (G7 O O) ?_
  refine JLg (G0 s19.2.1) (G9 O O) ?_
  refine G8 (hK25 _ _ ?_)
  refine G2 ?_
  refine JLg (G0 s19.2.1) (G7 O O) ?_
  refine JLg (G0 20) (G7 O O) ?_
  obtain ⟨v26, hv26, h⟩ := H6 h
  refine JLg (G0 v26) (Hd hv26 O O O) ?_
  refine JLg (G0 v26) (G9 O O) ?_
  refine G8 ?_
  exact e19 _ _ m19 (s19.2.1, v26, r23) (app1 hn19 h) (by omega) ⟨⟨.same rfl, .same rfl, .same (refsL_any _ _ cmp_d), .same rfl, .same rfl, .same rfl, trivial⟩, ⟨⟨_, rfl, .vec⟩, trivial⟩, rfl⟩
 ·
  replace h := bif_f hb h
  refine H4 ?_
  refine hK3 _ _ ?_
  refine G6 fun K27 hK27 => G2 ?_
  refine JLg (.vec 1107 data_q 4 data.length) (G7 O O) ?_
  refine JLg (G0 s19.1) (G7 O O) ?_
  refine JLg (G0 n) (G7 O O) ?_
  refine JLg (.fn cmp_f cmp_c) (G7 O O) ?_
  obtain ⟨r28, hr28, h⟩ := Ge h
  refine JL_vlen 23 O O (fun hn29 => ?_)
  refine JLg (.tup []) (Q9 (args := [.vec 1107 data_q 4 s19.2.2.length, G0 s19.1, G0 n, .fn cmp_f cmp_c]) (L0 := [(1107, .vec 68 4 data_q (s19.2.2.map G3.av))]) (Lr := [(1107, .vec 68 4 data_q (r28.map G3.av))]) O (M_slices_insertionSortCmpFunc_apiStowed_p440000011 F s19.2.2 data_q s19.1 n cmp cmp_f cmp_c cmp_B cmp_d cmp_w r28 hr28) tf_call_117 ⟨.inl (congrArg (fun n_ : Nat => (.vec 1107 data_q 4 n_ : AV)) (hn29.trans (List.length_map _))), O, .inl O, O, .inl O, O, .inl O, (refsL_any _ _ cmp_d), trivial⟩ ⟨O, trivial⟩ O O O) ?_
  refine G8 (hK27 _ _ ?_)
  refine Gi ?_
  obtain ⟨b30, hb30, h⟩ := loop_in h
  refine Gz (fun i30 (s30 : Int) => loop b30 i30 s30 = some r) (fun i30 s30 => [(0, .vec 1107 data_q 4 data.length), (1, G0 n), (2, .fn cmp_f cmp_c), (6, G0 s30)]) (fun i30 s30 => [(1107, .vec 68 4 data_q (r28.map G3.av))]) (fun i30 => i30) F 20 h ⟨⟨.same O, .same O, .same (refsL_any _ _ cmp_d), .same O, trivial⟩, ⟨⟨_, O, .vec⟩, trivial⟩, O⟩ ?_
  clear h
  intro i30 s30 hi30 K30 e30
  obtain ⟨m30, nx30, hm_30, hn30, h⟩ := loop_out hi30
  replace h := app2 hb30 h
  refine G6 (fun K31 hK31 => ?_)
  refine G6 fun K32 hK32 => G2 ?_
  refine JLg (G0 s30) (G7 O O) ?_
  refine JLg (G0 n) (G7 O O) ?_
  refine JLg (BL (decide (s30 < n))) (He O O O) ?_
  refine G8 (hK32 _ _ ?_)
  refine Gh O (fun hb => ?_) (fun hb => ?_)
  ·
   replace h := bif_t hb h
   refine Gj ?_
   refine hK31 _ _ ?_
   refine Gi ?_
   refine G6 fun K33 hK33 => G2 ?_
   refine JLg (G0 s30) (G7 O O) ?_
   obtain ⟨v34, hv34, h⟩ := H6 h
   refine JLg (G0 v34) (A_mul hv34 O O O) ?_
   refine JLg (G0 0) (G9 O O) ?_
   refine JLg (G0 v34) (G9 O O) ?_
   refine G8 (hK33 _ _ ?_)
   refine G6 (fun K35 hK35 => ?_)
   refine Gi ?_
   obtain ⟨b40, hb40, h⟩ := loop_in h
   refine Gz (fun i40 (s40 : Int × Int) => loop b40 i40 s40 = some r) (fun i40 s40 => [(0, .vec 1107 data_q 4 data.length), (1, G0 n), (2, .fn cmp_f cmp_c), (6, G0 s30), (7, G0 s40.1), (8, G0 s40.2)]) (fun i40 s40 => [(1107, .vec 68 4 data_q (r28.map G3.av))]) (fun i40 => i40) F (0, v34) h ⟨⟨.same O, .same O, .same (refsL_any _ _ cmp_d), .same O, .same O, .same O, trivial⟩, ⟨⟨_, O, .vec⟩, trivial⟩, O⟩ ?_
   clear h
   intro i40 s40 hi40 K40 e40
   obtain ⟨m40, nx40, hm_40, hn40, h⟩ := loop_out hi40
   replace h := app2 hb40 h
   refine G6 (fun K41 hK41 => ?_)
   refine G6 fun K42 hK42 => G2 ?_
   refine JLg (G0 s40.2) (G7 O O) ?_
   refine JLg (G0 n) (G7 O O) ?_
   refine JLg (BL (decide (s40.2 ≤ n))) (A_leq O O O) ?_
   refine G8 (hK42 _ _ ?_)
   refine Gh O (fun hb => ?_) (fun hb => ?_)
   ·
    replace h := bif_t hb h
    refine Gj ?_
    refine hK41 _ _ ?_
    refine Gi ?_
    refine G6 (fun K43 hK43 => ?_)
    cases h
   ·
    replace h := bif_f hb h
    refine H4 ?_
    refine hK35 _ _ ?_
    refine G6 (fun K44 hK44 => ?_)
    refine G6 fun K45 hK45 => G2 ?_
    refine JLg (G0 s40.1) (G7 O O) ?_
    refine JLg (G0 s30) (G7 O O) ?_
    obtain ⟨v46, hv46, h⟩ := H6 h
    refine JLg (G0 v46) (Hd hv46 O O O) ?_
    refine JLg (G0 v46) (G9 O O) ?_
    refine G8 (hK45 _ _ ?_)
    refine G6 fun K47 hK47 => G2 ?_
    refine JLg (G0 v46) (G7 O O) ?_
    refine JLg (G0 n) (G7 O O) ?_
    refine JLg (BL (decide (v46 < n))) (He O O O) ?_
    refine G8 (hK47 _ _ ?_)
    refine Gh O (fun hb => ?_) (fun hb => ?_)
    ·
     replace h := bif_t hb h
     cases h
    ·
     replace h := bif_f hb h
     refine Gj ?_
     refine hK44 _ _ ?_
     refine G2 ?_
     refine JLg (G0 s30) (G7 O O) ?_
     obtain ⟨v48, hv48, h⟩ := H6 h
     refine JLg (G0 v48) (A_mul hv48 O O O) ?_
     refine JLg (G0 v48) (G9 O O) ?_
     refine G8 ?_
     exact e30 _ _ m30 v48 (app1 hn30 h) (by omega) ⟨⟨.same rfl, .same rfl, .same (refsL_any _ _ cmp_d), .same rfl, trivial⟩, ⟨⟨_, rfl, .vec⟩, trivial⟩, rfl⟩
  ·
   replace h := bif_f hb h
   refine H4 ?_
   obtain rfl := Option.some.inj h
   exact ⟨[], [(1107, .vec 68 4 data_q (r28.map G3.av))], ⟨⟨_, O, .vec⟩, trivial⟩, O, trivial, O, O⟩

def M_slices_SortStableFunc_apiStowed (F : Nat) (x : List G3) (cmp : G3 → G3 → Option Int) : Option (List G3) :=
 bnd (M_slices_stableCmpFunc_apiStowed F x (x.length : Int) cmp) fun r1 =>
 some r1
theorem M_slices_SortStableFunc_apiStowed_p440000011 (F : Nat) (x : List G3) (x_q : Nat) (cmp : G3 → G3 → Option Int) (cmp_f : FuncId) (cmp_c : List AV) (cmp_B : callB Tryz.prog cmp_f = true) (cmp_d : refsL (fun _ => false) cmp_c = true) (cmp_w : ∀ a0 a1 q, cmp a0 a1 = some q → Pure Tryz.prog cmp_f ([.agg (G3.cs a0), .agg (G3.cs a1)] ++ cmp_c) (· = G0 q)) (r : (List G3)) (h : M_slices_SortStableFunc_apiStowed F x cmp = some r) : ACalls Tryz.prog 61 [.vec 1107 x_q 4 x.length, .fn cmp_f cmp_c] [(1107, .vec 68 4 x_q (x.map G3.av))] (fun av L' => av = .tup [] ∧ L' = [(1107, .vec 68 4 x_q (r.map G3.av))]) := by
 unfold M_slices_SortStableFunc_apiStowed at h
 refine Hy [1107] [] Tryz.func61 O O (inAll O) ?_
 refine G2 ?_
 refine JLg (.vec 1107 x_q 4 x.length) (G7 O O) ?_
 refine JLg (.vec 1107 x_q 4 x.length) (G7 O O) ?_
 refine JL_vlenM (f := G3.av) (xs := x) Gs O O O (fun hm6 => ?_) O O O
 refine JLg (.fn cmp_f cmp_c) (G7 O O) ?_
 obtain ⟨r1, hr1, h⟩ := Ge h
 refine JLg (.tup []) (Q9 (args := [.vec 1107 x_q 4 x.length, G0 (x.length : Int), .fn cmp_f cmp_c]) (L0 := [(1107, .vec 68 4 x_q (x.map G3.av))]) (Lr := [(1107, .vec 68 4 x_q (r1.map G3.av))]) O (M_slices_stableCmpFunc_apiStowed_p440000011 F x x_q (x.length : Int) cmp cmp_f cmp_c cmp_B cmp_d cmp_w r1 hr1) tf_call_93 ⟨.inl O, O, .inl O, O, .inl O, (refsL_any _ _ cmp_d), trivial⟩ ⟨O, trivial⟩ O O O) ?_
 refine G8 ?_
 obtain rfl := Option.some.inj h
 exact ⟨[], [(1107, .vec 68 4 x_q (r1.map G3.av))], ⟨⟨_, O, .vec⟩, trivial⟩, O, trivial, O, O⟩

def M_moves_fromAbove (F : Nat) (l : List G3) : Option (List G3) :=
 bnd (M_slices_SortStableFunc_apiStowed F l (fun z0 z1 => M_moves_fromAbove_1 z0 z1)) fun r3 =>
 some r3
theorem M_moves_fromAbove_p440000011 (F : Nat) (l : List G3) (l_q : Nat) (r : (List G3)) (h : M_moves_fromAbove F l = some r) : ACalls Tryz.prog 42 [.vec 1107 l_q 4 l.length] [(1107, .vec 68 4 l_q (l.map G3.av))] (fun av L' => ∃ p : Nat, av = .vec 1107 p 4 r.length ∧ L' = [(1107, .vec 68 4 p (r.map G3.av))]) := by
 unfold M_moves_fromAbove at h
 refine Hy [1107] [.tmp 2] Tryz.func42 O O (inAll O) ?_
 refine G6 fun K1 hK1 => G2 ?_
 refine JLg (.vec 1104 (([] : List G3).length) 4 (([] : List G3).length)) (A_vnil 1104 68 4 O O O) ?_
 refine G8 (hK1 _ _ ?_)
 refine G6 fun K2 hK2 => G2 ?_
 refine JLg (.vec 1107 l_q 4 l.length) (G7 O O) ?_
 obtain ⟨r3, hr3, h⟩ := Ge h
 refine JLg (.tup []) (Q9 (args := [.vec 1107 l_q 4 l.length, .fn 62 []]) (L0 := [(1107, .vec 68 4 l_q (l.map G3.av))]) (Lr := [(1107, .vec 68 4 l_q (r3.map G3.av))]) O (M_slices_SortStableFunc_apiStowed_p440000011 F l l_q (fun z0 z1 => M_moves_fromAbove_1 z0 z1) 62 [] tf_call_62 O (fun z0 z1 q hq => M_moves_fromAbove_1_w z0 z1 q hq) r3 hr3) tf_call_61 ⟨.inl O, O, .inl O, O, trivial⟩ ⟨O, trivial⟩ O O O) ?_
 refine G8 (hK2 _ _ ?_)
 refine G6 fun K4 hK4 => G2 ?_
 refine JLg (.vec 1107 l_q 4 l.length) (G7 O O) ?_
 refine JLg (.vec 1107 l_q 4 l.length) (G9 O O) ?_
 refine G8 (hK4 _ _ ?_)
 refine JC_vlen 2 O O (fun hn_ => ?_)
 refine Gq ?_
 obtain rfl := Option.some.inj h
 exact ⟨[.vec 1107 l_q 4 l.length], [(1107, .vec 68 4 l_q (r3.map G3.av))], ⟨⟨_, O, .vec⟩, trivial⟩, O, ⟨⟨_, O, .conv (.same O)⟩, trivial⟩, l_q, congrArg (fun n_ : Nat => (.vec 1107 l_q 4 n_ : AV)) (hn_.trans (List.length_map _)), O⟩

def M_moves_call (F : Nat) (s : Ship) (before : List G3) (after : List G3) (lifted : List Int) : Option (List Move) :=
 need (decide (40 ≤ 9223372036854775807)) <|
 upto (fun i75 (s75 : (List Move)) nx75 =>
  bnd (M_moves_part F s before lifted (i75 : Int) true) fun r81 =>
  bnd (M_moves_fromAbove F r81) fun r83 =>
  bnd (M_moves_call_1 2 r83 s75) fun r85 =>
  bnd (M_moves_needed F s before after lifted (i75 : Int)) fun r87 =>
  bnd (M_moves_call_2 1 r87 r85) fun r88 =>
  bnd (M_moves_part F s before lifted (i75 : Int) false) fun r89 =>
  bnd (M_moves_fromAbove F r89) fun r91 =>
  bnd (M_moves_call_1 2 r91 r88) fun r93 =>
  nx75 r93)
 (fun (s75 : (List Move)) =>
  need (decide (40 ≤ 9223372036854775807)) <|
  upto (fun i140 (s140 : (List Move)) nx140 =>
   bnd (M_moves_part F s after lifted (i140 : Int) false) fun r146 =>
   bnd (M_moves_call_1 3 r146 s140) fun r147 =>
   bnd (M_moves_needed F s before after lifted (i140 : Int)) fun r149 =>
   bnd (M_moves_call_2 4 r149 r147) fun r150 =>
   bnd (M_moves_part F s after lifted (i140 : Int) true) fun r151 =>
   bnd (M_moves_call_1 3 r151 r150) fun r152 =>
   nx140 r152)
  (fun (s140 : (List Move)) =>
   some s140) (40 : Int).toNat 0 s75) (40 : Int).toNat 0 []
theorem M_moves_call_w (F : Nat) (s : Ship) (before : List G3) (after : List G3) (lifted : List Int) (r : (List Move)) (h : M_moves_call F s before after lifted = some r) : Pure Tryz.prog 24 [.agg (Ship.cs s), LS 4 G3.av before, LS 4 G3.av after, LS 1 G0 lifted] (· = LS 6 Move.av r) := by
 unfold M_moves_call at h
 refine Gx [.tmp 8] Tryz.func24 O O ?_
 refine G6 fun K1 hK1 => G2 ?_
 refine JLg (.ptr 1068 0) (J1 (u := .agg (Ship.cs s)) (cs := (Ship.cs s)) 1068 O O O O O) ?_
 refine JLg (LS 6 Move.av ([] : List Move)) (Hw 6 O O) ?_
 refine G8 (hK1 _ _ ?_)
 refine Gm [(1, LS 4 G3.av before), (2, LS 4 G3.av after), (3, LS 1 G0 lifted), (4, .dptr (Ship.cs s))] [] 1068 rfl rfl rfl trivial rfl (by repeat' (first | exact .ptr | constructor)) ?_
 refine G6 fun K2 hK2 => G2 ?_
 refine JLg (.ptr 1069 0) (A_allocZ 1069 [.sc (.slice none 0 0)] [.slice none 0 0] tf_zero_48 ⟨.inl O, trivial⟩ O O) ?_
 refine JL_ownCell 1069 0 1070 53 6 O O O (cs' := [OW 1070 6 Move.av ([] : List Move)]) O ?_
 refine G8 (hK2 _ _ ?_)
 refine G6 fun K3 hK3 => G2 ?_
 refine JLg (.fn 40 [.ptr 1069 0]) (A_makeFunc (cs := [.ptr 1069 0]) O O) ?_
 refine JLg (.fn 40 [.ptr 1069 0]) (G9 O O) ?_
 refine G8 (hK3 _ _ ?_)
 refine G6 fun K4 hK4 => G2 ?_
 refine JLg (.fn 41 [.ptr 1069 0]) (A_makeFunc (cs := [.ptr 1069 0]) O O) ?_
 refine JLg (.fn 41 [.ptr 1069 0]) (G9 O O) ?_
 refine G8 (hK4 _ _ ?_)
 refine G6 (fun K5 hK5 => ?_)
 refine G6 fun K6 hK6 => G2 ?_
 refine JLg (G0 0) (G7 O O) ?_
 refine G8 (hK6 _ _ ?_)
 refine Gi ?_
 obtain ⟨hx75, h⟩ := Hq h
 obtain ⟨b75, kx75, hb75, hkx75, h⟩ := upto_in h
 refine Gz (fun i75 (s75 : (List Move)) => upto b75 kx75 ((40 : Int).toNat - i75) i75 s75 = some r) (fun i75 s75 => [(1, LS 4 G3.av before), (2, LS 4 G3.av after), (3, LS 1 G0 lifted), (4, .dptr (Ship.cs s)), (9, .ptr 1069 0), (10, .fn 40 [.ptr 1069 0]), (11, .fn 41 [.ptr 1069 0]), (16, G0 (i75 : Int))]) (fun i75 s75 => [(1070, .spare 53 6 s75.length s75.length), (1069, .box 48 [OW 1070 6 Move.av s75])]) (fun i75 => (40 : Int).toNat - i75) 0 [] h ⟨(by repeat' constructor), ⟨⟨_, rfl, .same⟩, ⟨_, rfl, .boxL rfl ⟨.same rfl, trivial⟩⟩, trivial⟩, rfl⟩ ?_
 clear h
 intro i75 s75 hi75 K75 e75
 refine G6 fun K76 hK76 => G2 ?_
 refine JLg (BL (decide ((i75 : Int) < 40))) (He O O O) ?_
 refine G8 (hK76 _ _ ?_)
 refine G6 (fun K77 hK77 => ?_)
 refine Gh O (fun hb => ?_) (fun hb => ?_)
 ·
  have hk75 := lt_toNat hb
  obtain ⟨nx75, hn75, h⟩ := upto_out hi75 hk75
  replace h := app3 hb75 h
  refine Gj ?_
  refine hK77 _ _ ?_
  refine G6 (fun K78 hK78 => ?_)
  refine Gi ?_
  refine G6 fun K79 hK79 => G2 ?_
  refine JLg (G0 (i75 : Int)) (G7 O O) ?_
  refine JLg (G0 (i75 : Int)) (G9 O O) ?_
  refine G8 (hK79 _ _ ?_)
  refine G6 fun K80 hK80 => G2 ?_
  refine JLg (.fn 40 [.ptr 1069 0]) (G7 O O) ?_
  refine JLg (.agg (Ship.cs s)) (Gg H5 O O O) ?_
  refine JLg (LS 4 G3.av before) (G7 O O) ?_
  refine JLg (LS 1 G0 lifted) (G7 O O) ?_
  refine JLg (G0 (i75 : Int)) (G7 O O) ?_
  obtain ⟨r81, hr81, h⟩ := Ge h
  refine JL_step O O O (A_callLE (args := [.agg (Ship.cs s), LS 4 G3.av before, LS 1 G0 lifted, G0 (i75 : Int), BL true]) (L0 := []) (u := fun p => .vec 1107 p 4 r81.length) (Lr := fun p => [(1107, .vec 68 4 p (r81.map G3.av))]) O (M_moves_part_n F s before lifted (i75 : Int) true r81 hr81) tf_call_43 ⟨.inl O, O, .inl O, O, .inl O, O, .inl O, O, .inl O, O, trivial⟩ trivial O (fun _ => O)) ?_
  rintro u_ L_ ⟨v82, rfl, rfl⟩
  obtain ⟨r83, hr83, h⟩ := Ge h
  refine JL_step O O O (A_callLE (args := [.vec 1107 v82 4 r81.length]) (L0 := [(1107, .vec 68 4 v82 (r81.map G3.av))]) (u := fun p => .vec 1107 p 4 r83.length) (Lr := fun p => [(1107, .vec 68 4 p (r83.map G3.av))]) O (M_moves_fromAbove_p440000011 F r81 v82 r83 hr83) tf_call_42 ⟨.inl O, O, trivial⟩ ⟨O, trivial⟩ O (fun _ => O)) ?_
  rintro u_ L_ ⟨v84, rfl, rfl⟩
  refine JL_vfreeze [(1, LS 4 G3.av before), (2, LS 4 G3.av after), (3, LS 1 G0 lifted), (4, .dptr (Ship.cs s)), (9, .ptr 1069 0), (10, .fn 40 [.ptr 1069 0]), (11, .fn 41 [.ptr 1069 0]), (12, G0 (i75 : Int)), (16, G0 (i75 : Int)), (17, BL (decide ((i75 : Int) < 40))), (18, G0 (i75 : Int)), (19, .fn 40 [.ptr 1069 0]), (20, .agg (Ship.cs s)), (21, LS 4 G3.av before), (22, LS 1 G0 lifted), (23, G0 (i75 : Int)), (25, LS 4 G3.av r83)] [(1070, .spare 53 6 s75.length s75.length), (1069, .box 48 [OW 1070 6 Move.av s75])] 1107 rfl rfl ⟨⟨_, rfl, .same⟩, ⟨_, rfl, .boxEq rfl rfl⟩, trivial⟩ rfl (by exact ⟨.conv (.same rfl), .conv (.same rfl), .conv (.same rfl), .conv (.same rfl), .conv (.same rfl), .conv (.same rfl), .conv (.same rfl), .conv (.same rfl), .conv (.same rfl), .conv (.same rfl), .conv (.same rfl), .conv (.same rfl), .conv (.same rfl), .conv (.same rfl), .conv (.same rfl), .conv (.same rfl), .vec, trivial⟩) ?_
  obtain ⟨r85, hr85, h⟩ := Ge h
  refine JLg (.tup []) (A_callVL (args := [U8 2, LS 4 G3.av r83]) (caps := [.ptr 1069 0]) (L0 := [(1069, .box 48 [OW 1070 6 Move.av s75]), (1070, .spare 53 6 s75.length s75.length)]) (Lr := [(1069, .box 48 [OW 1070 6 Move.av r85]), (1070, .spare 53 6 r85.length r85.length)]) O O (M_moves_call_1_w 2 r83 s75 r85 hr85) tf_call_40 ⟨.inl O, O, .inl O, O, trivial⟩ O ⟨O, O, trivial⟩ O O O) ?_
  refine G8 (hK80 _ _ ?_)
  refine G6 fun K86 hK86 => G2 ?_
  refine JLg (.fn 41 [.ptr 1069 0]) (G7 O O) ?_
  refine JLg (.agg (Ship.cs s)) (Gg H5 O O O) ?_
  refine JLg (LS 4 G3.av before) (G7 O O) ?_
  refine JLg (LS 4 G3.av after) (G7 O O) ?_
  refine JLg (LS 1 G0 lifted) (G7 O O) ?_
  refine JLg (G0 (i75 : Int)) (G7 O O) ?_
  obtain ⟨r87, hr87, h⟩ := Ge h
  refine JLg (LS 1 G0 r87) (Gr (args := [.agg (Ship.cs s), LS 4 G3.av before, LS 4 G3.av after, LS 1 G0 lifted, G0 (i75 : Int)]) O (M_moves_needed_w F s before after lifted (i75 : Int) r87 hr87) tf_call_44 ⟨O, O, O, O, O, O, O, O, O, O, trivial⟩) ?_
  obtain ⟨r88, hr88, h⟩ := Ge h
  refine JLg (.tup []) (A_callVL (args := [U8 1, LS 1 G0 r87]) (caps := [.ptr 1069 0]) (L0 := [(1069, .box 48 [OW 1070 6 Move.av r85]), (1070, .spare 53 6 r85.length r85.length)]) (Lr := [(1069, .box 48 [OW 1070 6 Move.av r88]), (1070, .spare 53 6 r88.length r88.length)]) O O (M_moves_call_2_w 1 r87 r85 r88 hr88) tf_call_41 ⟨.inl O, O, .inl O, O, trivial⟩ O ⟨O, O, trivial⟩ O O O) ?_
  refine G8 (hK86 _ _ ?_)
  refine G2 ?_
  refine JLg (.fn 40 [.ptr 1069 0]) (G7 O O) ?_
  refine JLg (.agg (Ship.cs s)) (Gg H5 O O O) ?_
  refine JLg (LS 4 G3.av before) (G7 O O) ?_
  refine JLg (LS 1 G0 lifted) (G7 O O) ?_
  refine JLg (G0 (i75 : Int)) (G7 O O) ?_
  obtain ⟨r89, hr89, h⟩ := Ge h
  refine JL_step O O O (A_callLE (args := [.agg (Ship.cs s), LS 4 G3.av before, LS 1 G0 lifted, G0 (i75 : Int), BL false]) (L0 := []) (u := fun p => .vec 1107 p 4 r89.length) (Lr := fun p => [(1107, .vec 68 4 p (r89.map G3.av))]) O (M_moves_part_n F s before lifted (i75 : Int) false r89 hr89) tf_call_43 ⟨.inl O, O, .inl O, O, .inl O, O, .inl O, O, .inl O, O, trivial⟩ trivial O (fun _ => O)) ?_
  rintro u_ L_ ⟨v90, rfl, rfl⟩
  obtain ⟨r91, hr91, h⟩ := Ge h
  refine JL_step O O O (A_callLE (args := [.vec 1107 v90 4 r89.length]) (L0 := [(1107, .vec 68 4 v90 (r89.map G3.av))]) (u := fun p => .vec 1107 p 4 r91.length) (Lr := fun p => [(1107, .vec 68 4 p (r91.map G3.av))]) O (M_moves_fromAbove_p440000011 F r89 v90 r91 hr91) tf_call_42 ⟨.inl O, O, trivial⟩ ⟨O, trivial⟩ O (fun _ => O)) ?_
  rintro u_ L_ ⟨v92, rfl, rfl⟩
  refine JL_vfreeze [(1, LS 4 G3.av before), (2, LS 4 G3.av after), (3, LS 1 G0 lifted), (4, .dptr (Ship.cs s)), (9, .ptr 1069 0), (10, .fn 40 [.ptr 1069 0]), (11, .fn 41 [.ptr 1069 0]), (12, G0 (i75 : Int)), (16, G0 (i75 : Int)), (17, BL (decide ((i75 : Int) < 40))), (18, G0 (i75 : Int)), (19, .fn 40 [.ptr 1069 0]), (20, .agg (Ship.cs s)), (21, LS 4 G3.av before), (22, LS 1 G0 lifted), (23, G0 (i75 : Int)), (25, LS 4 G3.av r83), (26, .tup []), (27, .fn 41 [.ptr 1069 0]), (28, .agg (Ship.cs s)), (29, LS 4 G3.av before), (30, LS 4 G3.av after), (31, LS 1 G0 lifted), (32, G0 (i75 : Int)), (33, LS 1 G0 r87), (34, .tup []), (35, .fn 40 [.ptr 1069 0]), (36, .agg (Ship.cs s)), (37, LS 4 G3.av before), (38, LS 1 G0 lifted), (39, G0 (i75 : Int)), (41, LS 4 G3.av r91)] [(1070, .spare 53 6 r88.length r88.length), (1069, .box 48 [OW 1070 6 Move.av r88])] 1107 rfl rfl ⟨⟨_, rfl, .same⟩, ⟨_, rfl, .boxEq rfl rfl⟩, trivial⟩ rfl (by exact ⟨.conv (.same rfl), .conv (.same rfl), .conv (.same rfl), .conv (.same rfl), .conv (.same rfl), .conv (.same rfl), .conv (.same rfl), .conv (.same rfl), .conv (.same rfl), .conv (.same rfl), .conv (.same rfl), .conv (.same rfl), .conv (.same rfl), .conv (.same rfl), .conv (.same rfl), .conv (.same rfl), .conv (.same rfl), .conv (.same rfl), .conv (.same rfl), .conv (.same rfl), .conv (.same rfl), .conv (.same rfl), .conv (.same rfl), .conv (.same rfl), .conv (.same rfl), .conv (.same rfl), .conv (.same rfl), .conv (.same rfl), .conv (.same rfl), .conv (.same rfl), .conv (.same rfl), .vec, trivial⟩) ?_
  obtain ⟨r93, hr93, h⟩ := Ge h
  refine JLg (.tup []) (A_callVL (args := [U8 2, LS 4 G3.av r91]) (caps := [.ptr 1069 0]) (L0 := [(1069, .box 48 [OW 1070 6 Move.av r88]), (1070, .spare 53 6 r88.length r88.length)]) (Lr := [(1069, .box 48 [OW 1070 6 Move.av r93]), (1070, .spare 53 6 r93.length r93.length)]) O O (M_moves_call_1_w 2 r91 r88 r93 hr93) tf_call_40 ⟨.inl O, O, .inl O, O, trivial⟩ O ⟨O, O, trivial⟩ O O O) ?_
  refine G8 (hK78 _ _ ?_)
  refine G2 ?_
  refine JLg (G0 ((i75 + 1 : Nat) : Int)) (Hd (idx_succ hk75 (toNat_max hx75)) O O O) ?_
  refine JLg (G0 ((i75 + 1 : Nat) : Int)) (G7 O O) ?_
  refine G8 ?_
  exact e75 _ _ (i75 + 1) r93 (app1 hn75 h) (by omega) ⟨(by repeat' constructor), ⟨⟨_, rfl, .same⟩, ⟨_, rfl, .boxL rfl ⟨.same rfl, trivial⟩⟩, trivial⟩, rfl⟩
 ·
  have h := app1 hkx75 (upto_nil hi75 (not_lt_toNat hb))
  refine H4 ?_
  refine hK5 _ _ ?_
  refine G6 (fun K94 hK94 => ?_)
  refine G6 fun K95 hK95 => G2 ?_
  refine JLg (G0 0) (G7 O O) ?_
  refine G8 (hK95 _ _ ?_)
  refine Gi ?_
  obtain ⟨hx140, h⟩ := Hq h
  obtain ⟨b140, kx140, hb140, hkx140, h⟩ := upto_in h
  refine Gz (fun i140 (s140 : (List Move)) => upto b140 kx140 ((40 : Int).toNat - i140) i140 s140 = some r) (fun i140 s140 => [(1, LS 4 G3.av before), (2, LS 4 G3.av after), (3, LS 1 G0 lifted), (4, .dptr (Ship.cs s)), (9, .ptr 1069 0), (10, .fn 40 [.ptr 1069 0]), (11, .fn 41 [.ptr 1069 0]), (44, G0 (i140 : Int))]) (fun i140 s140 => [(1070, .spare 53 6 s140.length s140.length), (1069, .box 48 [OW 1070 6 Move.av s140])]) (fun i140 => (40 : Int).toNat - i140) 0 s75 h ⟨(by repeat' constructor), ⟨⟨_, rfl, .same⟩, ⟨_, rfl, .boxL rfl ⟨.same rfl, trivial⟩⟩, trivial⟩, rfl⟩ ?_
  clear h
  intro i140 s140 hi140 K140 e140
  refine G6 fun K141 hK141 => G2 ?_
  refine JLg (BL (decide ((i140 : Int) < 40))) (He O O O) ?_
  refine G8 (hK141 _ _ ?_)
  refine G6 (fun K142 hK142 => ?_)
  refine Gh O (fun hb => ?_) (fun hb => ?_)
  ·
   have hk140 := lt_toNat hb
   obtain ⟨nx140, hn140, h⟩ := upto_out hi140 hk140
   replace h := app3 hb140 h
   refine Gj ?_
   refine hK142 _ _ ?_
   refine G6 (fun K143 hK143 => ?_)
   refine Gi ?_
   refine G6 fun K144 hK144 => G2 ?_
   refine JLg (G0 (i140 : Int)) (G7 O O) ?_
   refine JLg (G0 (i140 : Int)) (G9 O O) ?_
   refine G8 (hK144 _ _ ?_)
   refine G6 fun K145 hK145 => G2 ?_
   refine JLg (.fn 40 [.ptr 1069 0]) (G7 O O) ?_
   refine JLg (.agg (Ship.cs s)) (Gg H5 O O O) ?_
   refine JLg (LS 4 G3.av after) (G7 O O) ?_
   refine JLg (LS 1 G0 lifted) (G7 O O) ?_
   refine JLg (G0 (i140 : Int)) (G7 O O) ?_
   obtain ⟨r146, hr146, h⟩ := Ge h
   refine JLg (LS 4 G3.av r146) (Gr (args := [.agg (Ship.cs s), LS 4 G3.av after, LS 1 G0 lifted, G0 (i140 : Int), BL false]) O (M_moves_part_w F s after lifted (i140 : Int) false r146 hr146) tf_call_43 ⟨O, O, O, O, O, O, O, O, O, O, trivial⟩) ?_
   obtain ⟨r147, hr147, h⟩ := Ge h
   refine JLg (.tup []) (A_callVL (args := [U8 3, LS 4 G3.av r146]) (caps := [.ptr 1069 0]) (L0 := [(1069, .box 48 [OW 1070 6 Move.av s140]), (1070, .spare 53 6 s140.length s140.length)]) (Lr := [(1069, .box 48 [OW 1070 6 Move.av r147]), (1070, .spare 53 6 r147.length r147.length)]) O O (M_moves_call_1_w 3 r146 s140 r147 hr147) tf_call_40 ⟨.inl O, O, .inl O, O, trivial⟩ O ⟨O, O, trivial⟩ O O O) ?_
   refine G8 (hK145 _ _ ?_)
   refine G6 fun K148 hK148 => G2 ?_
   refine JLg (.fn 41 [.ptr 1069 0]) (G7 O O) ?_
   refine JLg (.agg (Ship.cs s)) (Gg H5 O O O) ?_
   refine JLg (LS 4 G3.av before) (G7 O O) ?_
   refine JLg (LS 4 G3.av after) (G7 O O) ?_
   refine JLg (LS 1 G0 lifted) (G7 O O) ?_
   refine JLg (G0 (i140 : Int)) (G7 O O) ?_
   obtain ⟨r149, hr149, h⟩ := Ge h
   refine JLg (LS 1 G0 r149) (Gr (args := [.agg (Ship.cs s), LS 4 G3.av before, LS 4 G3.av after, LS 1 G0 lifted, G0 (i140 : Int)]) O (M_moves_needed_w F s before after lifted (i140 : Int) r149 hr149) tf_call_44 ⟨O, O, O, O, O, O, O, O, O, O, trivial⟩) ?_
   obtain ⟨r150, hr150, h⟩ := Ge h
   refine JLg (.tup []) (A_callVL (args := [U8 4, LS 1 G0 r149]) (caps := [.ptr 1069 0]) (L0 := [(1069, .box 48 [OW 1070 6 Move.av r147]), (1070, .spare 53 6 r147.length r147.length)]) (Lr := [(1069, .box 48 [OW 1070 6 Move.av r150]), (1070, .spare 53 6 r150.length r150.length)]) O O (M_moves_call_2_w 4 r149 r147 r150 hr150) tf_call_41 ⟨.inl O, O, .inl O, O, trivial⟩ O ⟨O, O, trivial⟩ O O O) ?_
   refine G8 (hK148 _ _ ?_)
   refine G2 ?_
   refine JLg (.fn 40 [.ptr 1069 0]) (G7 O O) ?_
   refine JLg (.agg (Ship.cs s)) (Gg H5 O O O) ?_
   refine JLg (LS 4 G3.av after) (G7 O O) ?_
   refine JLg (LS 1 G0 lifted) (G7 O O) ?_
   refine JLg (G0 (i140 : Int)) (G7 O O) ?_
   obtain ⟨r151, hr151, h⟩ := Ge h
   refine JLg (LS 4 G3.av r151) (Gr (args := [.agg (Ship.cs s), LS 4 G3.av after, LS 1 G0 lifted, G0 (i140 : Int), BL true]) O (M_moves_part_w F s after lifted (i140 : Int) true r151 hr151) tf_call_43 ⟨O, O, O, O, O, O, O, O, O, O, trivial⟩) ?_
   obtain ⟨r152, hr152, h⟩ := Ge h
   refine JLg (.tup []) (A_callVL (args := [U8 3, LS 4 G3.av r151]) (caps := [.ptr 1069 0]) (L0 := [(1069, .box 48 [OW 1070 6 Move.av r150]), (1070, .spare 53 6 r150.length r150.length)]) (Lr := [(1069, .box 48 [OW 1070 6 Move.av r152]), (1070, .spare 53 6 r152.length r152.length)]) O O (M_moves_call_1_w 3 r151 r150 r152 hr152) tf_call_40 ⟨.inl O, O, .inl O, O, trivial⟩ O ⟨O, O, trivial⟩ O O O) ?_
   refine G8 (hK143 _ _ ?_)
   refine G2 ?_
   refine JLg (G0 ((i140 + 1 : Nat) : Int)) (Hd (idx_succ hk140 (toNat_max hx140)) O O O) ?_
   refine JLg (G0 ((i140 + 1 : Nat) : Int)) (G7 O O) ?_
   refine G8 ?_
   exact e140 _ _ (i140 + 1) r152 (app1 hn140 h) (by omega) ⟨(by repeat' constructor), ⟨⟨_, rfl, .same⟩, ⟨_, rfl, .boxL rfl ⟨.same rfl, trivial⟩⟩, trivial⟩, rfl⟩
  ·
   have h := app1 hkx140 (upto_nil hi140 (not_lt_toNat hb))
   refine H4 ?_
   refine hK94 _ _ ?_
   refine G6 fun K153 hK153 => G2 ?_
   refine JLg (OW 1070 6 Move.av s140) (Ht tf_scalar_48 O O O O) ?_
   refine JLg (OW 1070 6 Move.av s140) (G9 O O) ?_
   refine G8 (hK153 _ _ ?_)
   refine Gq ?_
   exact ⟨[LS 6 Move.av s140], [], trivial, O, ⟨⟨_, O, .conv (.list O)⟩, trivial⟩, O, congrArg (fun r : (List Move) => (LS 6 Move.av r : AV)) (Option.some.inj h)⟩

def M_moves_Call (F : Nat) (s : Ship) (boxes : List Box) (before : List G3) (after : List G3) : Option ((List Move) × Int) :=
 bnd (M_plan_Lifted F s boxes before after) fun r3 =>
 bif decide (r3.2 ≠ 0) then
 (some ([], r3.2))
 else
 (bnd (M_moves_call F s before after r3.1) fun r8 =>
  some (r8, 0))
theorem M_moves_Call_w (F : Nat) (s : Ship) (boxes : List Box) (before : List G3) (after : List G3) (r : (List Move) × Int) (h : M_moves_Call F s boxes before after = some r) : Pure Tryz.prog 11 [.agg (Ship.cs s), LS 9 Box.av boxes, LS 4 G3.av before, LS 4 G3.av after] (· = .tup [LS 6 Move.av r.1, G0 r.2]) := by
 unfold M_moves_Call at h
 refine Gx [.tmp 8, .tmp 9] Tryz.func11 O O ?_
 refine G6 fun K1 hK1 => G2 ?_
 refine JLg (.ptr 1039 0) (J1 (u := .agg (Ship.cs s)) (cs := (Ship.cs s)) 1039 O O O O O) ?_
 refine JLg (LS 6 Move.av ([] : List Move)) (Hw 6 O O) ?_
 refine JLg (G0 0) (G9 O O) ?_
 refine G8 (hK1 _ _ ?_)
 refine Gm [(1, LS 9 Box.av boxes), (2, LS 4 G3.av before), (3, LS 4 G3.av after), (4, .dptr (Ship.cs s))] [] 1039 rfl rfl rfl trivial rfl (by repeat' (first | exact .ptr | constructor)) ?_
 refine G6 fun K2 hK2 => G2 ?_
 refine JLg (.agg (Ship.cs s)) (Gg H5 O O O) ?_
 refine JLg (LS 9 Box.av boxes) (G7 O O) ?_
 refine JLg (LS 4 G3.av before) (G7 O O) ?_
 refine JLg (LS 4 G3.av after) (G7 O O) ?_
 obtain ⟨r3, hr3, h⟩ := Ge h
 refine JLg (.tup [LS 1 G0 r3.1, G0 r3.2]) (Gr (args := [.agg (Ship.cs s), LS 9 Box.av boxes, LS 4 G3.av before, LS 4 G3.av after]) O (M_plan_Lifted_w F s boxes before after r3 hr3) tf_call_23 ⟨O, O, O, O, O, O, O, O, trivial⟩) ?_
 refine JLg (.tup [LS 1 G0 r3.1, G0 r3.2]) (G7 O O) ?_
 refine JLg (LS 1 G0 r3.1) (Gv O O O) ?_
 refine JLg (G0 r3.2) (Gv O O O) ?_
 refine JLg (LS 1 G0 r3.1) (G9 O O) ?_
 refine JLg (G0 r3.2) (G9 O O) ?_
 refine G8 (hK2 _ _ ?_)
 refine G6 (fun K4 hK4 => ?_)
 refine G6 fun K5 hK5 => G2 ?_
 refine JLg (G0 r3.2) (G7 O O) ?_
 refine JLg (BL (decide (r3.2 ≠ 0))) (A_neq O O O) ?_
 refine G8 (hK5 _ _ ?_)
 refine Gh O (fun hb => ?_) (fun hb => ?_)
 ·
  replace h := bif_t hb h
  refine G6 fun K6 hK6 => G2 ?_
  refine JLg (G0 r3.2) (G7 O O) ?_
  refine JLg (LS 6 Move.av ([] : List Move)) (Hw 6 O O) ?_
  refine JLg (G0 r3.2) (G9 O O) ?_
  refine G8 (hK6 _ _ ?_)
  refine Gq ?_
  exact ⟨[LS 6 Move.av ([] : List Move), G0 r3.2], [], trivial, O, ⟨⟨_, O, .conv (.same O)⟩, ⟨_, O, .conv (.same O)⟩, trivial⟩, O, congrArg (fun r : (List Move) × Int => (.tup [LS 6 Move.av r.1, G0 r.2] : AV)) (Option.some.inj h)⟩
 ·
  replace h := bif_f hb h
  refine Gj ?_
  refine hK4 _ _ ?_
  refine G6 fun K7 hK7 => G2 ?_
  refine JLg (.agg (Ship.cs s)) (Gg H5 O O O) ?_
  refine JLg (LS 4 G3.av before) (G7 O O) ?_
  refine JLg (LS 4 G3.av after) (G7 O O) ?_
  refine JLg (LS 1 G0 r3.1) (G7 O O) ?_
  obtain ⟨r8, hr8, h⟩ := Ge h
  refine JLg (LS 6 Move.av r8) (Gr (args := [.agg (Ship.cs s), LS 4 G3.av before, LS 4 G3.av after, LS 1 G0 r3.1]) O (M_moves_call_w F s before after r3.1 r8 hr8) tf_call_24 ⟨O, O, O, O, O, O, O, O, trivial⟩) ?_
  refine JLg (LS 6 Move.av r8) (G9 O O) ?_
  refine JLg (G0 0) (G9 O O) ?_
  refine G8 (hK7 _ _ ?_)
  refine Gq ?_
  exact ⟨[LS 6 Move.av r8, G0 0], [], trivial, O, ⟨⟨_, O, .conv (.same O)⟩, ⟨_, O, .conv (.same O)⟩, trivial⟩, O, congrArg (fun r : (List Move) × Int => (.tup [LS 6 Move.av r.1, G0 r.2] : AV)) (Option.some.inj h)⟩
end
end Go.Proofs.YtmdnkofmmheoaaaGreat
