/-
 Models of functions of the program, and that they return what the models say.
-/
import Derived.Test.YtmdnkofmmheoaaaGreatProg
import Derived.Test.YtmdnkofmmheoaaaGreatSortM
import Derived.Test.YtmdnkofmmheoaaaGreatSortLay
import Derived.Test.YtmdnkofmmheoaaaGreatRel
import Derived.Test.YtmdnkofmmheoaaaGreatLit0
import Derived.Test.YtmdnkofmmheoaaaGreatXA
import Derived.Test.YtmdnkofmmheoaaaGreatSpecA
import Derived.Test.YtmdnkofmmheoaaaGreatSpecI
import Derived.Test.YtmdnkofmmheoaaaGreatXVa
import Derived.Test.YtmdnkofmmheoaaaGreatXVb
import Derived.Test.YtmdnkofmmheoaaaGreatXV
import Derived.Test.YtmdnkofmmheoaaaGreatXMa
import Derived.Test.YtmdnkofmmheoaaaGreatXM
import Derived.Test.YtmdnkofmmheoaaaGreatSpecT
set_option maxRecDepth 100000
set_option linter.unusedVariables false
set_option linter.unusedSimpArgs false
namespace Go.Proofs.YtmdnkofmmheoaaaGreat
open Go.RowKit
noncomputable section

namespace XNF
open XAF
open XVF
open XMF
theorem tq_53 (a b : Move) : eqAt Tryz.prog 4 53 [.int .u8 a.Kind, .int .i64 a.Box, .int .i64 a.Slot.G5, .int .i64 a.Slot.Tier, .int .u8 a.Slot.Half, .int .i64 a.Gc] [.int .u8 b.Kind, .int .i64 b.Box, .int .i64 b.Slot.G5, .int .i64 b.Slot.Tier, .int .u8 b.Slot.Half, .int .i64 b.Gc] = some (decide (a = b)) := by
 refine (show _ = some ((a.Kind == b.Kind) && ((a.Box == b.Box) && (((a.Slot.G5 == b.Slot.G5) && ((a.Slot.Tier == b.Slot.Tier) && ((a.Slot.Half == b.Slot.Half) && true))) && ((a.Gc == b.Gc) && true)))) by kernel_rfl).trans (congrArg some ?_)
 rw [Bool.eq_iff_iff]
 simp only [Bool.and_eq_true, beq_iff_eq, decide_eq_true_eq, Bool.and_true]
 constructor
 ·intro h; obtain ⟨_, _, ⟨_, _, _⟩, _⟩ := a; obtain ⟨_, _, ⟨_, _, _⟩, _⟩ := b; simp_all
 ·intro h; subst h; simp
theorem tq_63 (a b : Task) : eqAt Tryz.prog 4 63 [.int .i64 a.Bay, .int .i64 a.Phase, .int .i64 a.Lifts, .int .i64 a.Covers] [.int .i64 b.Bay, .int .i64 b.Phase, .int .i64 b.Lifts, .int .i64 b.Covers] = some (decide (a = b)) := by
 refine (show _ = some ((a.Bay == b.Bay) && ((a.Phase == b.Phase) && ((a.Lifts == b.Lifts) && ((a.Covers == b.Covers) && true)))) by kernel_rfl).trans (congrArg some ?_)
 rw [Bool.eq_iff_iff]
 simp only [Bool.and_eq_true, beq_iff_eq, decide_eq_true_eq, Bool.and_true]
 constructor
 ·intro h; obtain ⟨_, _, _, _⟩ := a; obtain ⟨_, _, _, _⟩ := b; simp_all
 ·intro h; subst h; simp
theorem tf_aggof_53 : aggOf Tryz.prog 53 = true := by kernel_rfl
theorem tf_aggof_63 : aggOf Tryz.prog 63 = true := by kernel_rfl
theorem tf_arn_49 : arrNB Tryz.prog 49 2 1 = true := by kernel_rfl
theorem tf_call_10 : callB Tryz.prog 10 = true := by kernel_rfl
theorem tf_call_20 : callB Tryz.prog 20 = true := by kernel_rfl
theorem tf_call_21 : callB Tryz.prog 21 = true := by kernel_rfl
theorem tf_call_22 : callB Tryz.prog 22 = true := by kernel_rfl
theorem tf_call_38 : callB Tryz.prog 38 = true := by kernel_rfl
theorem tf_call_5 : callB Tryz.prog 5 = true := by kernel_rfl
theorem tf_call_6 : callB Tryz.prog 6 = true := by kernel_rfl
theorem tf_call_7 : callB Tryz.prog 7 = true := by kernel_rfl
theorem tf_call_8 : callB Tryz.prog 8 = true := by kernel_rfl
theorem tf_call_9 : callB Tryz.prog 9 = true := by kernel_rfl
theorem tf_eqg_53 : Tryz.prog.eqGuardType Tryz.prog.depth 53 = false := by kernel_rfl
theorem tf_eqg_63 : Tryz.prog.eqGuardType Tryz.prog.depth 63 = false := by kernel_rfl
theorem tf_places_35 : placesOf Tryz.prog 35 = some [(0, 1), (1, 1), (2, 4), (6, 1), (7, 1), (8, 1), (9, 4)] := by kernel_rfl
theorem tf_zsize_35 : zsizeB Tryz.prog 35 13 = true := by kernel_rfl
end XNF
open XAF
open XVF
open XMF
open XNF

def M_twistlocklaw07_Example  : Option Ship :=
 some (Ship.mk ([(G5.mk 0 0 false 2 0 0 0 0 [] 0 0 0), (G5.mk 0 1 false 2 0 0 0 0 [] 0 0 0), (G5.mk 0 0 true 3 0 0 0 0 [] 0 0 0), (G5.mk 0 1 true 3 0 0 0 0 [] 0 0 0), (G5.mk 1 1 true 4 0 0 0 0 [] 0 0 0)]) ([(Gc.mk 0 [0, 1])]) (Light.mk 0 0 0 0) [] [] [] (G4.mk 0 0 0 0))
theorem M_twistlocklaw07_Example_w  (r : Ship) (h : M_twistlocklaw07_Example  = some r) : Pure Tryz.prog 20 [] (· = .agg (Ship.cs r)) := by
 unfold M_twistlocklaw07_Example at h
 refine Gx [.cell 0 35] Tryz.func20 O O ?_
 refine G6 fun K1 hK1 => G2 ?_
 refine JLg (.ptr 1065 0) (A_allocZ 1065 [LS 12 G5.av ([] : List G5), LS 2 Gc.av ([] : List Gc), G0 0, G0 0, G0 0, G0 0, LS 5 Row.av ([] : List Row), LS 5 Frame.av ([] : List Frame), LS 6 Tank.av ([] : List Tank), G0 0, G0 0, G0 0, G0 0] [.slice none 0 0, .slice none 0 0, .int .i64 0, .int .i64 0, .int .i64 0, .int .i64 0, .slice none 0 0, .slice none 0 0, .slice none 0 0, .int .i64 0, .int .i64 0, .int .i64 0, .int .i64 0] tf_zero_35 ⟨.inr ⟨_, O, O⟩, .inr ⟨_, O, O⟩, .inl O, .inl O, .inl O, .inl O, .inr ⟨_, O, O⟩, .inr ⟨_, O, O⟩, .inr ⟨_, O, O⟩, .inl O, .inl O, .inl O, .inl O, trivial⟩ O O) ?_
 refine G8 (hK1 _ _ ?_)
 refine G6 fun K2 hK2 => G2 ?_
 refine JLg (.agg [G0 0, G0 0, BL false, G0 2, G0 0, G0 0, G0 0, G0 0, LS 1 G0 ([] : List Int), G0 0, G0 0, G0 0]) (H8 (cs := [G0 0, G0 0, BL false, G0 2, G0 0, G0 0, G0 0, G0 0, LS 1 G0 ([] : List Int), G0 0, G0 0, G0 0]) [(0, 1), (1, 1), (2, 1), (3, 1), (4, 1), (5, 1), (6, 1), (7, 1), (8, 1), (9, 1), (10, 1), (11, 1)] [G0 0, G0 0, BL false, G0 0, G0 0, G0 0, G0 0, G0 0, LS 1 G0 ([] : List Int), G0 0, G0 0, G0 0] [.int .i64 0, .int .i64 0, .bool false, .int .i64 0, .int .i64 0, .int .i64 0, .int .i64 0, .int .i64 0, .slice none 0 0, .int .i64 0, .int .i64 0, .int .i64 0] tf_places_56 tf_zero_56 ⟨.inl O, .inl O, .inl O, .inl O, .inl O, .inl O, .inl O, .inl O, .inr ⟨_, O, O⟩, .inl O, .inl O, .inl O, trivial⟩ O O) ?_
 refine JLg (.agg [G0 0, G0 1, BL false, G0 2, G0 0, G0 0, G0 0, G0 0, LS 1 G0 ([] : List Int), G0 0, G0 0, G0 0]) (H8 (cs := [G0 0, G0 1, BL false, G0 2, G0 0, G0 0, G0 0, G0 0, LS 1 G0 ([] : List Int), G0 0, G0 0, G0 0]) [(0, 1), (1, 1), (2, 1), (3, 1), (4, 1), (5, 1), (6, 1), (7, 1), (8, 1), (9, 1), (10, 1), (11, 1)] [G0 0, G0 0, BL false, G0 0, G0 0, G0 0, G0 0, G0 0, LS 1 G0 ([] : List Int), G0 0, G0 0, G0 0] [.int .i64 0, .int .i64 0, .bool false, .int .i64 0, .int .i64 0, .int .i64 0, .int .i64 0, .int .i64 0, .slice none 0 0, .int .i64 0, .int .i64 0, .int .i64 0] tf_places_56 tf_zero_56 ⟨.inl O, .inl O, .inl O, .inl O, .inl O, .inl O, .inl O, .inl O, .inr ⟨_, O, O⟩, .inl O, .inl O, .inl O, trivial⟩ O O) ?_
 refine JLg (.agg [G0 0, G0 0, BL true, G0 3, G0 0, G0 0, G0 0, G0 0, LS 1 G0 ([] : List Int), G0 0, G0 0, G0 0]) (H8 (cs := [G0 0, G0 0, BL true, G0 3, G0 0, G0 0, G0 0, G0 0, LS 1 G0 ([] : List Int), G0 0, G0 0, G0 0]) [(0, 1), (1, 1), (2, 1), (3, 1), (4, 1), (5, 1), (6, 1), (7, 1), (8, 1), (9, 1), (10, 1), (11, 1)] [G0 0, G0 0, BL false, G0 0, G0 0, G0 0, G0 0, G0 0, LS 1 G0 ([] : List Int), G0 0, G0 0, G0 0] [.int .i64 0, .int .i64 0, .bool false, .int .i64 0, .int .i64 0, .int .i64 0, .int .i64 0, .int .i64 0, .slice none 0 0, .int .i64 0, .int .i64 0, .int .i64 0] tf_places_56 tf_zero_56 ⟨.inl O, .inl O, .inl O, .inl O, .inl O, .inl O, .inl O, .inl O, .inr ⟨_, O, O⟩, .inl O, .inl O, .inl O, trivial⟩ O O) ?_
 refine JLg (.agg [G0 0, G0 1, BL true, G0 3, G0 0, G0 0, G0 0, G0 0, LS 1 G0 ([] : List Int), G0 0, G0 0, G0 0]) (H8 (cs := [G0 0, G0 1, BL true, G0 3, G0 0, G0 0, G0 0, G0 0, LS 1 G0 ([] : List Int), G0 0, G0 0, G0 0]) [(0, 1), (1, 1), (2, 1), (3, 1), (4, 1), (5, 1), (6, 1), (7, 1), (8, 1), (9, 1), (10, 1), (11, 1)] [G0 0, G0 0, BL false, G0 0, G0 0, G0 0, G0 0, G0 0, LS 1 G0 ([] : List Int), G0 0, G0 0, G0 0] [.int .i64 0, .int .i64 0, .bool false, .int .i64 0, .int .i64 0, .int .i64 0, .int .i64 0, .int .i64 0, .slice none 0 0, .int .i64 0, .int .i64 0, .int .i64 0] tf_places_56 tf_zero_56 ⟨.inl O, .inl O, .inl O, .inl O, .inl O, .inl O, .inl O, .inl O, .inr ⟨_, O, O⟩, .inl O, .inl O, .inl O, trivial⟩ O O) ?_
 refine JLg (.agg [G0 1, G0 1, BL true, G0 4, G0 0, G0 0, G0 0, G0 0, LS 1 G0 ([] : List Int), G0 0, G0 0, G0 0]) (H8 (cs := [G0 1, G0 1, BL true, G0 4, G0 0, G0 0, G0 0, G0 0, LS 1 G0 ([] : List Int), G0 0, G0 0, G0 0]) [(0, 1), (1, 1), (2, 1), (3, 1), (4, 1), (5, 1), (6, 1), (7, 1), (8, 1), (9, 1), (10, 1), (11, 1)] [G0 0, G0 0, BL false, G0 0, G0 0, G0 0, G0 0, G0 0, LS 1 G0 ([] : List Int), G0 0, G0 0, G0 0] [.int .i64 0, .int .i64 0, .bool false, .int .i64 0, .int .i64 0, .int .i64 0, .int .i64 0, .int .i64 0, .slice none 0 0, .int .i64 0, .int .i64 0, .int .i64 0] tf_places_56 tf_zero_56 ⟨.inl O, .inl O, .inl O, .inl O, .inl O, .inl O, .inl O, .inl O, .inr ⟨_, O, O⟩, .inl O, .inl O, .inl O, trivial⟩ O O) ?_
 refine JLg (LS 12 G5.av ([(G5.mk 0 0 false 2 0 0 0 0 [] 0 0 0), (G5.mk 0 1 false 2 0 0 0 0 [] 0 0 0), (G5.mk 0 0 true 3 0 0 0 0 [] 0 0 0), (G5.mk 0 1 true 3 0 0 0 0 [] 0 0 0), (G5.mk 1 1 true 4 0 0 0 0 [] 0 0 0)])) (Gu (xs := [.agg [G0 0, G0 0, BL false, G0 2, G0 0, G0 0, G0 0, G0 0, LS 1 G0 ([] : List Int), G0 0, G0 0, G0 0], .agg [G0 0, G0 1, BL false, G0 2, G0 0, G0 0, G0 0, G0 0, LS 1 G0 ([] : List Int), G0 0, G0 0, G0 0], .agg [G0 0, G0 0, BL true, G0 3, G0 0, G0 0, G0 0, G0 0, LS 1 G0 ([] : List Int), G0 0, G0 0, G0 0], .agg [G0 0, G0 1, BL true, G0 3, G0 0, G0 0, G0 0, G0 0, LS 1 G0 ([] : List Int), G0 0, G0 0, G0 0], .agg [G0 1, G0 1, BL true, G0 4, G0 0, G0 0, G0 0, G0 0, LS 1 G0 ([] : List Int), G0 0, G0 0, G0 0]]) O ⟨O, O, O, O, O, O, O, O, O, O, trivial⟩ Hf Q4 O O O O) ?_
 refine JLg (LS 1 G0 [0, 1]) (Gu (xs := [G0 0, G0 1]) O ⟨O, O, O, O, trivial⟩ H0 Jr O O O O) ?_
 refine JLg (.agg [G0 0, LS 1 G0 [0, 1]]) (H8 (cs := [G0 0, LS 1 G0 [0, 1]]) [(0, 1), (1, 1)] [G0 0, LS 1 G0 ([] : List Int)] [.int .i64 0, .slice none 0 0] tf_places_58 tf_zero_58 ⟨.inl O, .inr ⟨_, O, O⟩, trivial⟩ O O) ?_
 refine JLg (LS 2 Gc.av ([(Gc.mk 0 [0, 1])])) (Gu (xs := [.agg [G0 0, LS 1 G0 [0, 1]]]) O ⟨O, O, trivial⟩ J8 tf_zsize_58 O O O O) ?_
 refine JLg (.agg [LS 12 G5.av ([(G5.mk 0 0 false 2 0 0 0 0 [] 0 0 0), (G5.mk 0 1 false 2 0 0 0 0 [] 0 0 0), (G5.mk 0 0 true 3 0 0 0 0 [] 0 0 0), (G5.mk 0 1 true 3 0 0 0 0 [] 0 0 0), (G5.mk 1 1 true 4 0 0 0 0 [] 0 0 0)]), LS 2 Gc.av ([(Gc.mk 0 [0, 1])]), G0 0, G0 0, G0 0, G0 0, LS 5 Row.av ([] : List Row), LS 5 Frame.av ([] : List Frame), LS 6 Tank.av ([] : List Tank), G0 0, G0 0, G0 0, G0 0]) (H8 (cs := [LS 12 G5.av ([(G5.mk 0 0 false 2 0 0 0 0 [] 0 0 0), (G5.mk 0 1 false 2 0 0 0 0 [] 0 0 0), (G5.mk 0 0 true 3 0 0 0 0 [] 0 0 0), (G5.mk 0 1 true 3 0 0 0 0 [] 0 0 0), (G5.mk 1 1 true 4 0 0 0 0 [] 0 0 0)]), LS 2 Gc.av ([(Gc.mk 0 [0, 1])]), G0 0, G0 0, G0 0, G0 0, LS 5 Row.av ([] : List Row), LS 5 Frame.av ([] : List Frame), LS 6 Tank.av ([] : List Tank), G0 0, G0 0, G0 0, G0 0]) [(0, 1), (1, 1), (2, 4), (6, 1), (7, 1), (8, 1), (9, 4)] [LS 12 G5.av ([] : List G5), LS 2 Gc.av ([] : List Gc), G0 0, G0 0, G0 0, G0 0, LS 5 Row.av ([] : List Row), LS 5 Frame.av ([] : List Frame), LS 6 Tank.av ([] : List Tank), G0 0, G0 0, G0 0, G0 0] [.slice none 0 0, .slice none 0 0, .int .i64 0, .int .i64 0, .int .i64 0, .int .i64 0, .slice none 0 0, .slice none 0 0, .slice none 0 0, .int .i64 0, .int .i64 0, .int .i64 0, .int .i64 0] tf_places_35 tf_zero_35 ⟨.inr ⟨_, O, O⟩, .inr ⟨_, O, O⟩, .inl O, .inl O, .inl O, .inl O, .inr ⟨_, O, O⟩, .inr ⟨_, O, O⟩, .inr ⟨_, O, O⟩, .inl O, .inl O, .inl O, .inl O, trivial⟩ O O) ?_
 refine H1 (u := .junk) (Gt (u := .agg [LS 12 G5.av ([(G5.mk 0 0 false 2 0 0 0 0 [] 0 0 0), (G5.mk 0 1 false 2 0 0 0 0 [] 0 0 0), (G5.mk 0 0 true 3 0 0 0 0 [] 0 0 0), (G5.mk 0 1 true 3 0 0 0 0 [] 0 0 0), (G5.mk 1 1 true 4 0 0 0 0 [] 0 0 0)]), LS 2 Gc.av ([(Gc.mk 0 [0, 1])]), G0 0, G0 0, G0 0, G0 0, LS 5 Row.av ([] : List Row), LS 5 Frame.av ([] : List Frame), LS 6 Tank.av ([] : List Tank), G0 0, G0 0, G0 0, G0 0]) (ds := [LS 12 G5.av ([(G5.mk 0 0 false 2 0 0 0 0 [] 0 0 0), (G5.mk 0 1 false 2 0 0 0 0 [] 0 0 0), (G5.mk 0 0 true 3 0 0 0 0 [] 0 0 0), (G5.mk 0 1 true 3 0 0 0 0 [] 0 0 0), (G5.mk 1 1 true 4 0 0 0 0 [] 0 0 0)]), LS 2 Gc.av ([(Gc.mk 0 [0, 1])]), G0 0, G0 0, G0 0, G0 0, LS 5 Row.av ([] : List Row), LS 5 Frame.av ([] : List Frame), LS 6 Tank.av ([] : List Tank), G0 0, G0 0, G0 0, G0 0]) tf_size_35 O O O O O O O O) ?_
 refine G8 (hK2 _ _ ?_)
 refine Gq ?_
 exact ⟨[.agg [LS 12 G5.av ([(G5.mk 0 0 false 2 0 0 0 0 [] 0 0 0), (G5.mk 0 1 false 2 0 0 0 0 [] 0 0 0), (G5.mk 0 0 true 3 0 0 0 0 [] 0 0 0), (G5.mk 0 1 true 3 0 0 0 0 [] 0 0 0), (G5.mk 1 1 true 4 0 0 0 0 [] 0 0 0)]), LS 2 Gc.av ([(Gc.mk 0 [0, 1])]), G0 0, G0 0, G0 0, G0 0, LS 5 Row.av ([] : List Row), LS 5 Frame.av ([] : List Frame), LS 6 Tank.av ([] : List Tank), G0 0, G0 0, G0 0, G0 0]], [], trivial, O, ⟨⟨_, ⟨_, _, _, _, O, O, O, .inl ⟨H5, O⟩⟩, .conv (.same O)⟩, trivial⟩, O, congrArg (fun r : Ship => (.agg (Ship.cs r) : AV)) (Option.some.inj h)⟩

def M_twistlocklaw30_at (box : Int) (column : Int) (tier : Int) : Option G3 :=
 some (G3.mk box (Slot.mk column tier 0))
theorem M_twistlocklaw30_at_w (box : Int) (column : Int) (tier : Int) (r : G3) (h : M_twistlocklaw30_at box column tier = some r) : Pure Tryz.prog 21 [G0 box, G0 column, G0 tier] (· = .agg (G3.cs r)) := by
 unfold M_twistlocklaw30_at at h
 refine Gx [.cell 6 68] Tryz.func21 O O ?_
 refine G6 fun K1 hK1 => G2 ?_
 refine JLg (.ptr 1066 0) (A_allocZ 1066 [G0 0, G0 0, G0 0, U8 0] [.int .i64 0, .int .i64 0, .int .i64 0, .int .u8 0] tf_zero_68 ⟨.inl O, .inl O, .inl O, .inl O, trivial⟩ O O) ?_
 refine G8 (hK1 _ _ ?_)
 refine G6 fun K2 hK2 => G2 ?_
 refine JLg (G0 box) (G7 O O) ?_
 refine JLg (G0 column) (G7 O O) ?_
 refine JLg (G0 tier) (G7 O O) ?_
 refine JLg (.agg [G0 column, G0 tier, U8 0]) (H8 (cs := [G0 column, G0 tier, U8 0]) [(0, 1), (1, 1), (2, 1)] [G0 0, G0 0, U8 0] [.int .i64 0, .int .i64 0, .int .u8 0] tf_places_51 tf_zero_51 ⟨.inl O, .inl O, .inl O, trivial⟩ O O) ?_
 refine JLg (.agg [G0 box, G0 column, G0 tier, U8 0]) (H8 (cs := [G0 box, G0 column, G0 tier, U8 0]) [(0, 1), (1, 3)] [G0 0, G0 0, G0 0, U8 0] [.int .i64 0, .int .i64 0, .int .i64 0, .int .u8 0] tf_places_68 tf_zero_68 ⟨.inl O, .inl O, .inl O, .inl O, trivial⟩ O O) ?_
 refine H1 (u := .junk) (Gt (u := .agg [G0 box, G0 column, G0 tier, U8 0]) (ds := [G0 box, G0 column, G0 tier, U8 0]) J3 O O O O O O O O) ?_
 refine G8 (hK2 _ _ ?_)
 refine Gq ?_
 exact ⟨[.agg [G0 box, G0 column, G0 tier, U8 0]], [], trivial, O, ⟨⟨_, ⟨_, _, _, _, O, O, O, .inl ⟨Hp, O⟩⟩, .conv (.same O)⟩, trivial⟩, O, congrArg (fun r : G3 => (.agg (G3.cs r) : AV)) (Option.some.inj h)⟩

def M_twistlockkit_SameMoves (a : List Move) (b : List Move) : Option Bool :=
 bif decide ((a.length : Int) ≠ (b.length : Int)) then
 (some false)
 else
 (each (fun y24 i24 (s24 : Unit) nx24 =>
   gidx b (i24 : Int) fun y29 =>
   bif (!decide (y24 = y29)) then
   (some false)
   else
   (nx24 ()))
  (fun (s24 : Unit) =>
   some true) a 0 ())
theorem M_twistlockkit_SameMoves_w (a : List Move) (b : List Move) (r : Bool) (h : M_twistlockkit_SameMoves a b = some r) : Pure Tryz.prog 38 [LS 6 Move.av a, LS 6 Move.av b] (· = BL r) := by
 unfold M_twistlockkit_SameMoves at h
 refine Gx [.tmp 4] Tryz.func38 O O ?_
 refine G6 fun K1 hK1 => G2 ?_
 refine JLg (BL false) (G9 O O) ?_
 refine G8 (hK1 _ _ ?_)
 refine G6 (fun K2 hK2 => ?_)
 refine G6 fun K3 hK3 => G2 ?_
 refine JLg (LS 6 Move.av a) (G7 O O) ?_
 refine H9 (f := Move.av) (xs := a) Ho O O (fun hm7 => ?_) O O O
 refine JLg (LS 6 Move.av b) (G7 O O) ?_
 refine H9 (f := Move.av) (xs := b) Ho O O (fun hm9 => ?_) O O O
 refine JLg (BL (decide ((a.length : Int) ≠ (b.length : Int)))) (A_neq O O O) ?_
 refine G8 (hK3 _ _ ?_)
 refine Gh O (fun hb => ?_) (fun hb => ?_)
 ·
  replace h := bif_t hb h
  refine G6 fun K4 hK4 => G2 ?_
  refine JLg (BL false) (G9 O O) ?_
  refine G8 (hK4 _ _ ?_)
  refine Gq ?_
  exact ⟨[BL false], [], trivial, O, ⟨⟨_, O, .conv (.same O)⟩, trivial⟩, O, congrArg (fun r : Bool => (BL r : AV)) (Option.some.inj h)⟩
 ·
  replace h := bif_f hb h
  refine Gj ?_
  refine hK2 _ _ ?_
  refine G6 (fun K5 hK5 => ?_)
  refine G6 fun K6 hK6 => G2 ?_
  refine JLg (G0 0) (G9 O O) ?_
  refine G8 (hK6 _ _ ?_)
  refine Gi ?_
  obtain ⟨b24, kx24, hb24, hkx24, h⟩ := Hi h
  refine Gz (fun i24 (s24 : Unit) => each b24 kx24 (List.drop i24 a) i24 s24 = some r) (fun i24 s24 => [(0, LS 6 Move.av a), (1, LS 6 Move.av b), (5, G0 (i24 : Int))]) (fun i24 s24 => []) (fun i24 => a.length - i24) 0 () h ⟨⟨.same O, .same O, .same O, trivial⟩, trivial, O⟩ ?_
  clear h
  intro i24 s24 hi24 K24 e24
  refine G6 (fun K25 hK25 => ?_)
  refine G6 fun K26 hK26 => G2 ?_
  refine JLg (G0 (i24 : Int)) (G7 O O) ?_
  refine JLg (LS 6 Move.av a) (G7 O O) ?_
  refine H9 (f := Move.av) (xs := a) Ho O O (fun hm13 => ?_) O O O
  refine JLg (BL (decide ((i24 : Int) < (a.length : Int)))) (He O O O) ?_
  refine G8 (hK26 _ _ ?_)
  refine Gh O (fun hb => ?_) (fun hb => ?_)
  ·
   have hk24 := lt_len hb
   obtain ⟨y24, nx24, hy24, hn24, h⟩ := Ha hi24 hk24
   replace h := app4 hb24 h
   refine Gj ?_
   refine hK25 _ _ ?_
   refine G6 (fun K27 hK27 => ?_)
   refine Gi ?_
   refine G6 (fun K28 hK28 => ?_)
   obtain ⟨m30, y29, hm30, hy29, h⟩ := Jq h
   refine Jc [] [0, 0, 0, 0, 0, 0, 0, 0, 0] [0, 0, 0, 0, 0, 0, 0, 0, 0] [[]] J5 (by kernel_rfl) rfl rfl ?_
   refine Gn (u := LS 6 Move.av a) O O ⟨Gp (G7 O O) O, trivial⟩ ?_
   refine Gn (u := G0 (i24 : Int)) O O ⟨Gp (G7 O O) O, trivial⟩ ?_
   refine Gn (u := .dptr (Move.cs y24)) O O ⟨Gp (Gw (f := Move.av) (xs := a) (y := y24) O O O Ho hy24 O) O, trivial⟩ ?_
   refine Gn (u := .agg (Move.cs y24)) O O ⟨Gp (Gg tf_agg_53 O O O) O, trivial⟩ ?_
   refine Gn (u := LS 6 Move.av b) O O ⟨Gp (G7 O O) O, trivial⟩ ?_
   refine Gn (u := G0 (i24 : Int)) O O ⟨Gp (G7 O O) O, trivial⟩ ?_
   refine Gn (u := .dptr (Move.cs y29)) O O ⟨Gp (Gw (f := Move.av) (xs := b) (y := y29) O O O Ho hy29 hm30) O, trivial⟩ ?_
   refine Gn (u := .agg (Move.cs y29)) O O ⟨Gp (Gg tf_agg_53 O O O) O, trivial⟩ ?_
   refine Gn (u := BL (!decide (y24 = y29))) O O ⟨Gp (A_neAgg (vs := [.int .u8 y24.Kind, .int .i64 y24.Box, .int .i64 y24.Slot.G5, .int .i64 y24.Slot.Tier, .int .u8 y24.Slot.Half, .int .i64 y24.Gc]) (us := [.int .u8 y29.Kind, .int .i64 y29.Box, .int .i64 y29.Slot.G5, .int .i64 y29.Slot.Tier, .int .u8 y29.Slot.Half, .int .i64 y29.Gc]) 4 O (tq_53 y24 y29) tf_aggof_53 tf_eqg_53 O O O) O, trivial⟩ ?_
   refine D_nil ?_
   refine hK28 _ _ ?_
   refine Gh O (fun hb => ?_) (fun hb => ?_)
   ·
    replace h := bif_t hb h
    refine G6 fun K31 hK31 => G2 ?_
    refine JLg (BL false) (G9 O O) ?_
    refine G8 (hK31 _ _ ?_)
    refine Gq ?_
    exact ⟨[BL false], [], trivial, O, ⟨⟨_, O, .conv (.same O)⟩, trivial⟩, O, congrArg (fun r : Bool => (BL r : AV)) (Option.some.inj h)⟩
   ·
    replace h := bif_f hb h
    refine Gj ?_
    refine hK27 _ _ ?_
    refine G2 ?_
    refine JLg (G0 (i24 : Int)) (G7 O O) ?_
    refine JLg (G0 ((i24 + 1 : Nat) : Int)) (Hd (idx_succ hk24 hm13) O O O) ?_
    refine JLg (G0 ((i24 + 1 : Nat) : Int)) (G9 O O) ?_
    refine G8 ?_
    exact e24 _ _ (i24 + 1) () (app1 hn24 h) (by omega) ⟨⟨.same rfl, .same rfl, .same rfl, trivial⟩, trivial, rfl⟩
  ·
   have h := app1 hkx24 (Hb hi24 (Gy hb))
   refine H4 ?_
   refine hK5 _ _ ?_
   refine G6 fun K32 hK32 => G2 ?_
   refine JLg (BL true) (G9 O O) ?_
   refine G8 (hK32 _ _ ?_)
   refine Gq ?_
   exact ⟨[BL true], [], trivial, O, ⟨⟨_, O, .conv (.same O)⟩, trivial⟩, O, congrArg (fun r : Bool => (BL r : AV)) (Option.some.inj h)⟩

def M_twistlocklaw30_is (a : List Move) (b : List Move) : Option Bool :=
 bnd (M_twistlockkit_SameMoves a b) fun r3 =>
 some r3
theorem M_twistlocklaw30_is_w (a : List Move) (b : List Move) (r : Bool) (h : M_twistlocklaw30_is a b = some r) : Pure Tryz.prog 22 [LS 6 Move.av a, LS 6 Move.av b] (· = BL r) := by
 unfold M_twistlocklaw30_is at h
 refine Gx [.tmp 4] Tryz.func22 O O ?_
 refine G6 fun K1 hK1 => G2 ?_
 refine JLg (BL false) (G9 O O) ?_
 refine G8 (hK1 _ _ ?_)
 refine G6 fun K2 hK2 => G2 ?_
 refine JLg (LS 6 Move.av a) (G7 O O) ?_
 refine JLg (LS 6 Move.av b) (G7 O O) ?_
 obtain ⟨r3, hr3, h⟩ := Ge h
 refine JLg (BL r3) (Gr (args := [LS 6 Move.av a, LS 6 Move.av b]) O (M_twistlockkit_SameMoves_w a b r3 hr3) tf_call_38 ⟨O, O, O, O, trivial⟩) ?_
 refine JLg (BL r3) (G9 O O) ?_
 refine G8 (hK2 _ _ ?_)
 refine Gq ?_
 exact ⟨[BL r3], [], trivial, O, ⟨⟨_, O, .conv (.same O)⟩, trivial⟩, O, congrArg (fun r : Bool => (BL r : AV)) (Option.some.inj h)⟩

def M_twistlocklaw30_awake (F : Nat)  : Option Bool :=
 bnd (M_twistlocklaw07_Example) fun r3 =>
 bnd (M_twistlocklaw30_at 1 0 0) fun r6 =>
 bnd (M_twistlocklaw30_at 2 3 0) fun r7 =>
 bnd (M_moves_Call F r3 [(Box.mk 1 ByteArray.empty 40 false 0 0 0 0 false), (Box.mk 2 ByteArray.empty 40 false 0 0 0 0 false)] [r6, r7] [r7]) fun r9 =>
 bnd (S_moves_Tasks F r3 r9.1) fun r11 =>
 chk (r9.2 + r11.2) fun v13 =>
 bnd (bif decide (v13 = 0) then M_twistlocklaw30_is r9.1 [(Move.mk 2 2 r7.Slot 0), (Move.mk 1 0 (Slot.mk 0 0 0) 0), (Move.mk 2 1 r6.Slot 0), (Move.mk 4 0 (Slot.mk 0 0 0) 0), (Move.mk 3 2 r7.Slot 0)] else some default) fun r14 =>
 bnd (bif ((decide (v13 = 0)) && r14) then M_moves_Lifts r9.1 else some default) fun r15 =>
 bnd (bif ((((decide (v13 = 0)) && r14) && (decide (r15 = 3))) && (decide ((r11.1.length : Int) = 2))) then gidx r11.1 0 some else some default) fun y16 =>
 bnd (bif (((((decide (v13 = 0)) && r14) && (decide (r15 = 3))) && (decide ((r11.1.length : Int) = 2))) && (decide (y16 = (Task.mk 0 1 2 1)))) then gidx r11.1 1 some else some default) fun y17 =>
 some ((((((decide (v13 = 0)) && r14) && (decide (r15 = 3))) && (decide ((r11.1.length : Int) = 2))) && (decide (y16 = (Task.mk 0 1 2 1)))) && (decide (y17 = (Task.mk 0 2 1 1))))
theorem M_twistlocklaw30_awake_w (F : Nat)  (r : Bool) (h : M_twistlocklaw30_awake F  = some r) : Pure Tryz.prog 10 [] (· = BL r) := by
 unfold M_twistlocklaw30_awake at h
 refine Gx [.tmp 0] Tryz.func10 O O ?_
 refine G6 fun K1 hK1 => G2 ?_
 refine JLg (BL false) (G9 O O) ?_
 refine G8 (hK1 _ _ ?_)
 refine G6 fun K2 hK2 => G2 ?_
 obtain ⟨r3, hr3, h⟩ := Ge h
 refine JLg (.agg (Ship.cs r3)) (Gr (args := []) O (M_twistlocklaw07_Example_w  r3 hr3) tf_call_20 trivial) ?_
 refine JLg (.ptr 1036 0) (H2 1036 13 tf_zsize_35 O O) ?_
 refine H1 (u := .junk) (Gt (u := .agg (Ship.cs r3)) (ds := (Ship.cs r3)) tf_size_35 O O O O O O O O) ?_
 refine G8 (hK2 _ _ ?_)
 refine Gm [(1, .dptr (Ship.cs r3))] [] 1036 rfl rfl rfl trivial rfl (by exact ⟨.ptr, trivial⟩) ?_
 refine G6 fun K4 hK4 => G2 ?_
 refine JLg (.agg [G0 1, ST ByteArray.empty, U8 40, BL false, G0 0, G0 0, G0 0, U8 0, BL false]) (H8 (cs := [G0 1, ST ByteArray.empty, U8 40, BL false, G0 0, G0 0, G0 0, U8 0, BL false]) [(0, 1), (1, 1), (2, 1), (3, 1), (4, 1), (5, 1), (6, 1), (7, 1), (8, 1)] [G0 0, ST ByteArray.empty, U8 0, BL false, G0 0, G0 0, G0 0, U8 0, BL false] [.int .i64 0, .string ByteArray.empty, .int .u8 0, .bool false, .int .i64 0, .int .i64 0, .int .i64 0, .int .u8 0, .bool false] tf_places_81 tf_zero_81 ⟨.inl O, .inl O, .inl O, .inl O, .inl O, .inl O, .inl O, .inl O, .inl O, trivial⟩ O O) ?_
 refine JLg (.agg [G0 2, ST ByteArray.empty, U8 40, BL false, G0 0, G0 0, G0 0, U8 0, BL false]) (H8 (cs := [G0 2, ST ByteArray.empty, U8 40, BL false, G0 0, G0 0, G0 0, U8 0, BL false]) [(0, 1), (1, 1), (2, 1), (3, 1), (4, 1), (5, 1), (6, 1), (7, 1), (8, 1)] [G0 0, ST ByteArray.empty, U8 0, BL false, G0 0, G0 0, G0 0, U8 0, BL false] [.int .i64 0, .string ByteArray.empty, .int .u8 0, .bool false, .int .i64 0, .int .i64 0, .int .i64 0, .int .u8 0, .bool false] tf_places_81 tf_zero_81 ⟨.inl O, .inl O, .inl O, .inl O, .inl O, .inl O, .inl O, .inl O, .inl O, trivial⟩ O O) ?_
 refine JLg (LS 9 Box.av [(Box.mk 1 ByteArray.empty 40 false 0 0 0 0 false), (Box.mk 2 ByteArray.empty 40 false 0 0 0 0 false)]) (Gu (xs := [.agg [G0 1, ST ByteArray.empty, U8 40, BL false, G0 0, G0 0, G0 0, U8 0, BL false], .agg [G0 2, ST ByteArray.empty, U8 40, BL false, G0 0, G0 0, G0 0, U8 0, BL false]]) O ⟨O, O, O, O, trivial⟩ Hv Jo O O O O) ?_
 refine JLg (LS 9 Box.av [(Box.mk 1 ByteArray.empty 40 false 0 0 0 0 false), (Box.mk 2 ByteArray.empty 40 false 0 0 0 0 false)]) (G9 O O) ?_
 refine G8 (hK4 _ _ ?_)
 refine G6 fun K5 hK5 => G2 ?_
 obtain ⟨r6, hr6, h⟩ := Ge h
 refine JLg (.agg (G3.cs r6)) (Gr (args := [G0 1, G0 0, G0 0]) O (M_twistlocklaw30_at_w 1 0 0 r6 hr6) tf_call_21 ⟨O, O, O, O, O, O, trivial⟩) ?_
 obtain ⟨r7, hr7, h⟩ := Ge h
 refine JLg (.agg (G3.cs r7)) (Gr (args := [G0 2, G0 3, G0 0]) O (M_twistlocklaw30_at_w 2 3 0 r7 hr7) tf_call_21 ⟨O, O, O, O, O, O, trivial⟩) ?_
 refine JLg (.ptr 1037 0) (H2 1037 4 Hk O O) ?_
 refine JLg (.ptr 1038 0) (H2 1038 4 Hk O O) ?_
 refine H1 (u := .junk) (Gt (u := .agg (G3.cs r6)) (ds := [G0 r6.Box, G0 r6.Slot.G5, G0 r6.Slot.Tier, U8 r6.Slot.Half]) J3 O O O O O O O O) ?_
 refine H1 (u := .junk) (Gt (u := .agg (G3.cs r7)) (ds := [G0 r7.Box, G0 r7.Slot.G5, G0 r7.Slot.Tier, U8 r7.Slot.Half]) J3 O O O O O O O O) ?_
 refine G8 (hK5 _ _ ?_)
 refine Gm [(1, .dptr (Ship.cs r3)), (2, LS 9 Box.av [(Box.mk 1 ByteArray.empty 40 false 0 0 0 0 false), (Box.mk 2 ByteArray.empty 40 false 0 0 0 0 false)]), (3, .dptr (G3.cs r6)), (4, .ptr 1038 0)] [(1038, .box 68 [G0 r7.Box, G0 r7.Slot.G5, G0 r7.Slot.Tier, U8 r7.Slot.Half])] 1037 rfl rfl rfl ⟨⟨_, rfl, .boxEq rfl rfl⟩, trivial⟩ rfl (by repeat' (first | exact .ptr | constructor)) ?_
 refine Gm [(1, .dptr (Ship.cs r3)), (2, LS 9 Box.av [(Box.mk 1 ByteArray.empty 40 false 0 0 0 0 false), (Box.mk 2 ByteArray.empty 40 false 0 0 0 0 false)]), (3, .dptr (G3.cs r6)), (4, .dptr (G3.cs r7))] [] 1038 rfl rfl rfl trivial rfl (by repeat' (first | exact .ptr | constructor)) ?_
 refine G6 fun K8 hK8 => G2 ?_
 refine JLg (.agg (Ship.cs r3)) (Gg H5 O O O) ?_
 refine JLg (LS 9 Box.av [(Box.mk 1 ByteArray.empty 40 false 0 0 0 0 false), (Box.mk 2 ByteArray.empty 40 false 0 0 0 0 false)]) (G7 O O) ?_
 refine JLg (.agg (G3.cs r6)) (Gg Hp O O O) ?_
 refine JLg (.agg (G3.cs r7)) (Gg Hp O O O) ?_
 refine JLg (LS 4 G3.av [r6, r7]) (Gu (xs := [.agg (G3.cs r6), .agg (G3.cs r7)]) O ⟨O, O, O, O, trivial⟩ Gs Hk O O O O) ?_
 refine JLg (.agg (G3.cs r7)) (Gg Hp O O O) ?_
 refine JLg (LS 4 G3.av [r7]) (Gu (xs := [.agg (G3.cs r7)]) O ⟨O, O, trivial⟩ Gs Hk O O O O) ?_
 obtain ⟨r9, hr9, h⟩ := Ge h
 refine JLg (.tup [LS 6 Move.av r9.1, G0 r9.2]) (Gr (args := [.agg (Ship.cs r3), LS 9 Box.av [(Box.mk 1 ByteArray.empty 40 false 0 0 0 0 false), (Box.mk 2 ByteArray.empty 40 false 0 0 0 0 false)], LS 4 G3.av [r6, r7], LS 4 G3.av [r7]]) O (M_moves_Call_w F r3 [(Box.mk 1 ByteArray.empty 40 false 0 0 0 0 false), (Box.mk 2 ByteArray.empty 40 false 0 0 0 0 false)] [r6, r7] [r7] r9 hr9) tf_call_11 ⟨O, O, O, O, O, O, O, O, trivial⟩) ?_
 refine JLg (.tup [LS 6 Move.av r9.1, G0 r9.2]) (G7 O O) ?_
 refine JLg (LS 6 Move.av r9.1) (Gv O O O) ?_
 refine JLg (G0 r9.2) (Gv O O O) ?_
 refine JLg (LS 6 Move.av r9.1) (G9 O O) ?_
 refine JLg (G0 r9.2) (G9 O O) ?_
 refine G8 (hK8 _ _ ?_)
 refine G6 fun K10 hK10 => G2 ?_
 refine JLg (.agg (Ship.cs r3)) (Gg H5 O O O) ?_
 refine JLg (LS 6 Move.av r9.1) (G7 O O) ?_
 obtain ⟨r11, hr11, h⟩ := Ge h
 refine JLg (.tup [LS 4 Task.av r11.1, G0 r11.2]) (Gr (args := [.agg (Ship.cs r3), LS 6 Move.av r9.1]) O (S_moves_Tasks_w.down F r3 r9.1 r11 hr11) tf_call_8 ⟨O, O, O, O, trivial⟩) ?_
 refine JLg (.tup [LS 4 Task.av r11.1, G0 r11.2]) (G7 O O) ?_
 refine JLg (LS 4 Task.av r11.1) (Gv O O O) ?_
 refine JLg (G0 r11.2) (Gv O O O) ?_
 refine JLg (LS 4 Task.av r11.1) (G9 O O) ?_
 refine JLg (G0 r11.2) (G9 O O) ?_
 refine G8 (hK10 _ _ ?_)
 refine G6 fun K12 hK12 => G2 ?_
 refine JLg (G0 r9.2) (G7 O O) ?_
 refine JLg (G0 r11.2) (G7 O O) ?_
 obtain ⟨v13, hv13, h⟩ := H6 h
 refine JLg (G0 v13) (Hd hv13 O O O) ?_
 refine JLg (BL (decide (v13 = 0))) (Hx O O O) ?_
 refine JLg (BL (decide (v13 = 0))) (G7 O O) ?_
 refine Gd (u := LS 6 Move.av r9.1) [] O O O .sct trivial (fun hc => G7 O O) ?_
 refine Gd (u := .dptr (Slot.cs r7.Slot)) [] O O O .sct trivial (fun hc => Gb Hg O O O) ?_
 refine Gd (u := .agg (Slot.cs r7.Slot)) [(38, .dptr (Slot.cs r7.Slot))] O O O .sct ⟨.all id, trivial⟩ (fun hc => Gg Hr O O O) ?_
 refine Gd (u := .agg [U8 2, G0 2, G0 r7.Slot.G5, G0 r7.Slot.Tier, U8 r7.Slot.Half, G0 0]) [(39, .agg (Slot.cs r7.Slot))] O O O .sct ⟨.all id, trivial⟩ (fun hc => H8 (cs := [U8 2, G0 2, G0 r7.Slot.G5, G0 r7.Slot.Tier, U8 r7.Slot.Half, G0 0]) [(0, 1), (1, 1), (2, 3), (5, 1)] [U8 0, G0 0, G0 0, G0 0, U8 0, G0 0] [.int .u8 0, .int .i64 0, .int .i64 0, .int .i64 0, .int .u8 0, .int .i64 0] Jb Jm ⟨.inl O, .inl O, .inl O, .inl O, .inl O, .inl O, trivial⟩ O O) ?_
 refine Gd (u := .agg [U8 1, G0 0, G0 0, G0 0, U8 0, G0 0]) [] O O O .sct trivial (fun hc => H8 (cs := [U8 1, G0 0, G0 0, G0 0, U8 0, G0 0]) [(0, 1), (1, 1), (2, 3), (5, 1)] [U8 0, G0 0, G0 0, G0 0, U8 0, G0 0] [.int .u8 0, .int .i64 0, .int .i64 0, .int .i64 0, .int .u8 0, .int .i64 0] Jb Jm ⟨.inl O, .inl O, .inl O, .inl O, .inl O, .inl O, trivial⟩ O O) ?_
 refine Gd (u := .dptr (Slot.cs r6.Slot)) [] O O O .sct trivial (fun hc => Gb Hg O O O) ?_
 refine Gd (u := .agg (Slot.cs r6.Slot)) [(42, .dptr (Slot.cs r6.Slot))] O O O .sct ⟨.all id, trivial⟩ (fun hc => Gg Hr O O O) ?_
 refine Gd (u := .agg [U8 2, G0 1, G0 r6.Slot.G5, G0 r6.Slot.Tier, U8 r6.Slot.Half, G0 0]) [(43, .agg (Slot.cs r6.Slot))] O O O .sct ⟨.all id, trivial⟩ (fun hc => H8 (cs := [U8 2, G0 1, G0 r6.Slot.G5, G0 r6.Slot.Tier, U8 r6.Slot.Half, G0 0]) [(0, 1), (1, 1), (2, 3), (5, 1)] [U8 0, G0 0, G0 0, G0 0, U8 0, G0 0] [.int .u8 0, .int .i64 0, .int .i64 0, .int .i64 0, .int .u8 0, .int .i64 0] Jb Jm ⟨.inl O, .inl O, .inl O, .inl O, .inl O, .inl O, trivial⟩ O O) ?_
 refine Gd (u := .agg [U8 4, G0 0, G0 0, G0 0, U8 0, G0 0]) [] O O O .sct trivial (fun hc => H8 (cs := [U8 4, G0 0, G0 0, G0 0, U8 0, G0 0]) [(0, 1), (1, 1), (2, 3), (5, 1)] [U8 0, G0 0, G0 0, G0 0, U8 0, G0 0] [.int .u8 0, .int .i64 0, .int .i64 0, .int .i64 0, .int .u8 0, .int .i64 0] Jb Jm ⟨.inl O, .inl O, .inl O, .inl O, .inl O, .inl O, trivial⟩ O O) ?_
 refine Gd (u := .dptr (Slot.cs r7.Slot)) [] O O O .sct trivial (fun hc => Gb Hg O O O) ?_
 refine Gd (u := .agg (Slot.cs r7.Slot)) [(46, .dptr (Slot.cs r7.Slot))] O O O .sct ⟨.all id, trivial⟩ (fun hc => Gg Hr O O O) ?_
 refine Gd (u := .agg [U8 3, G0 2, G0 r7.Slot.G5, G0 r7.Slot.Tier, U8 r7.Slot.Half, G0 0]) [(47, .agg (Slot.cs r7.Slot))] O O O .sct ⟨.all id, trivial⟩ (fun hc => H8 (cs := [U8 3, G0 2, G0 r7.Slot.G5, G0 r7.Slot.Tier, U8 r7.Slot.Half, G0 0]) [(0, 1), (1, 1), (2, 3), (5, 1)] [U8 0, G0 0, G0 0, G0 0, U8 0, G0 0] [.int .u8 0, .int .i64 0, .int .i64 0, .int .i64 0, .int .u8 0, .int .i64 0] Jb Jm ⟨.inl O, .inl O, .inl O, .inl O, .inl O, .inl O, trivial⟩ O O) ?_
 refine Gd (u := LS 6 Move.av [(Move.mk 2 2 r7.Slot 0), (Move.mk 1 0 (Slot.mk 0 0 0) 0), (Move.mk 2 1 r6.Slot 0), (Move.mk 4 0 (Slot.mk 0 0 0) 0), (Move.mk 3 2 r7.Slot 0)]) [(40, .agg [U8 2, G0 2, G0 r7.Slot.G5, G0 r7.Slot.Tier, U8 r7.Slot.Half, G0 0]), (41, .agg [U8 1, G0 0, G0 0, G0 0, U8 0, G0 0]), (44, .agg [U8 2, G0 1, G0 r6.Slot.G5, G0 r6.Slot.Tier, U8 r6.Slot.Half, G0 0]), (45, .agg [U8 4, G0 0, G0 0, G0 0, U8 0, G0 0]), (48, .agg [U8 3, G0 2, G0 r7.Slot.G5, G0 r7.Slot.Tier, U8 r7.Slot.Half, G0 0])] O O O .sct ⟨.all id, .all id, .all id, .all id, .all id, trivial⟩ (fun hc => Gu (xs := [.agg [U8 2, G0 2, G0 r7.Slot.G5, G0 r7.Slot.Tier, U8 r7.Slot.Half, G0 0], .agg [U8 1, G0 0, G0 0, G0 0, U8 0, G0 0], .agg [U8 2, G0 1, G0 r6.Slot.G5, G0 r6.Slot.Tier, U8 r6.Slot.Half, G0 0], .agg [U8 4, G0 0, G0 0, G0 0, U8 0, G0 0], .agg [U8 3, G0 2, G0 r7.Slot.G5, G0 r7.Slot.Tier, U8 r7.Slot.Half, G0 0]]) O ⟨O, O, O, O, O, O, O, O, O, O, trivial⟩ Ho Jk O O O O) ?_
 obtain ⟨r14, hr14, h⟩ := Ge h
 refine Gd (u := BL r14) [(37, LS 6 Move.av r9.1), (49, LS 6 Move.av [(Move.mk 2 2 r7.Slot 0), (Move.mk 1 0 (Slot.mk 0 0 0) 0), (Move.mk 2 1 r6.Slot 0), (Move.mk 4 0 (Slot.mk 0 0 0) 0), (Move.mk 3 2 r7.Slot 0)])] O O O .sct ⟨.all id, .all id, trivial⟩ (fun hc => Gr (args := [LS 6 Move.av r9.1, LS 6 Move.av [(Move.mk 2 2 r7.Slot 0), (Move.mk 1 0 (Slot.mk 0 0 0) 0), (Move.mk 2 1 r6.Slot 0), (Move.mk 4 0 (Slot.mk 0 0 0) 0), (Move.mk 3 2 r7.Slot 0)]]) O (M_twistlocklaw30_is_w r9.1 [(Move.mk 2 2 r7.Slot 0), (Move.mk 1 0 (Slot.mk 0 0 0) 0), (Move.mk 2 1 r6.Slot 0), (Move.mk 4 0 (Slot.mk 0 0 0) 0), (Move.mk 3 2 r7.Slot 0)] r14 (bif_t hc hr14)) tf_call_22 ⟨O, O, O, O, trivial⟩) ?_
 refine JLg (BL ((decide (v13 = 0)) && r14)) (J2 O O O O) ?_
 refine JLg (BL ((decide (v13 = 0)) && r14)) (G7 O O) ?_
 refine Gd (u := LS 6 Move.av r9.1) [] O O O .sct trivial (fun hc => G7 O O) ?_
 obtain ⟨r15, hr15, h⟩ := Ge h
 refine Gd (u := G0 r15) [(53, LS 6 Move.av r9.1)] O O O .sct ⟨.all id, trivial⟩ (fun hc => Gr (args := [LS 6 Move.av r9.1]) O (M_moves_Lifts_w r9.1 r15 (bif_t hc hr15)) tf_call_9 ⟨O, O, trivial⟩) ?_
 refine Gd (u := BL (decide (r15 = 3))) [(54, G0 r15)] O O O .sct ⟨.all id, trivial⟩ (fun hc => Hx O O O) ?_
 refine JLg (BL (((decide (v13 = 0)) && r14) && (decide (r15 = 3)))) (J2 O O O O) ?_
 refine JLg (BL (((decide (v13 = 0)) && r14) && (decide (r15 = 3)))) (G7 O O) ?_
 refine Gd (u := LS 4 Task.av r11.1) [] O O O .sct trivial (fun hc => G7 O O) ?_
 refine Gd (u := G0 (r11.1.length : Int)) [(58, LS 4 Task.av r11.1)] O O O .sct ⟨.all id, trivial⟩ (fun hc => A_lenM (f := Task.av) (xs := r11.1) J0 O O) ?_
 refine Gd (u := BL (decide ((r11.1.length : Int) = 2))) [(59, G0 (r11.1.length : Int))] O O O .sct ⟨.all id, trivial⟩ (fun hc => Hx O O O) ?_
 refine JLg (BL ((((decide (v13 = 0)) && r14) && (decide (r15 = 3))) && (decide ((r11.1.length : Int) = 2)))) (J2 O O O O) ?_
 refine JLg (BL ((((decide (v13 = 0)) && r14) && (decide (r15 = 3))) && (decide ((r11.1.length : Int) = 2)))) (G7 O O) ?_
 refine Gd (u := LS 4 Task.av r11.1) [] O O O .sct trivial (fun hc => G7 O O) ?_
 obtain ⟨y16, hy16, h⟩ := Ge h
 refine Gd (u := .dptr (Task.cs y16)) [(63, LS 4 Task.av r11.1)] O O O .sct ⟨.all id, trivial⟩ (fun hc => (match Q2 (bif_t hc hy16) with | ⟨_, hm_, hy_⟩ => Gw (f := Task.av) (xs := r11.1) (y := y16) O O O J0 hy_ hm_)) ?_
 refine Gd (u := .agg (Task.cs y16)) [(64, .dptr (Task.cs y16))] O O O .sct ⟨.all id, trivial⟩ (fun hc => Gg tf_agg_63 O O O) ?_
 refine Gd (u := .agg [G0 0, G0 1, G0 2, G0 1]) [] O O O .sct trivial (fun hc => H8 (cs := [G0 0, G0 1, G0 2, G0 1]) [(0, 1), (1, 1), (2, 1), (3, 1)] [G0 0, G0 0, G0 0, G0 0] [.int .i64 0, .int .i64 0, .int .i64 0, .int .i64 0] tf_places_63 tf_zero_63 ⟨.inl O, .inl O, .inl O, .inl O, trivial⟩ O O) ?_
 refine Gd (u := BL (decide (y16 = (Task.mk 0 1 2 1)))) [(65, .agg (Task.cs y16)), (66, .agg [G0 0, G0 1, G0 2, G0 1])] O O O .sct ⟨.all id, .all id, trivial⟩ (fun hc => A_eqAgg (vs := [.int .i64 y16.Bay, .int .i64 y16.Phase, .int .i64 y16.Lifts, .int .i64 y16.Covers]) (us := [.int .i64 0, .int .i64 1, .int .i64 2, .int .i64 1]) 4 O (tq_63 y16 (Task.mk 0 1 2 1)) tf_aggof_63 tf_eqg_63 O O O) ?_
 refine JLg (BL (((((decide (v13 = 0)) && r14) && (decide (r15 = 3))) && (decide ((r11.1.length : Int) = 2))) && (decide (y16 = (Task.mk 0 1 2 1))))) (J2 O O O O) ?_
 refine JLg (BL (((((decide (v13 = 0)) && r14) && (decide (r15 = 3))) && (decide ((r11.1.length : Int) = 2))) && (decide (y16 = (Task.mk 0 1 2 1))))) (G7 O O) ?_
 refine Gd (u := LS 4 Task.av r11.1) [] O O O .sct trivial (fun hc => G7 O O) ?_
 obtain ⟨y17, hy17, h⟩ := Ge h
 refine Gd (u := .dptr (Task.cs y17)) [(70, LS 4 Task.av r11.1)] O O O .sct ⟨.all id, trivial⟩ (fun hc => (match Q2 (bif_t hc hy17) with | ⟨_, hm_, hy_⟩ => Gw (f := Task.av) (xs := r11.1) (y := y17) O O O J0 hy_ hm_)) ?_
 refine Gd (u := .agg (Task.cs y17)) [(71, .dptr (Task.cs y17))] O O O .sct ⟨.all id, trivial⟩ (fun hc => Gg tf_agg_63 O O O) ?_
 refine Gd (u := .agg [G0 0, G0 2, G0 1, G0 1]) [] O O O .sct trivial (fun hc => H8 (cs := [G0 0, G0 2, G0 1, G0 1]) [(0, 1), (1, 1), (2, 1), (3, 1)] [G0 0, G0 0, G0 0, G0 0] [.int .i64 0, .int .i64 0, .int .i64 0, .int .i64 0] tf_places_63 tf_zero_63 ⟨.inl O, .inl O, .inl O, .inl O, trivial⟩ O O) ?_
 refine Gd (u := BL (decide (y17 = (Task.mk 0 2 1 1)))) [(72, .agg (Task.cs y17)), (73, .agg [G0 0, G0 2, G0 1, G0 1])] O O O .sct ⟨.all id, .all id, trivial⟩ (fun hc => A_eqAgg (vs := [.int .i64 y17.Bay, .int .i64 y17.Phase, .int .i64 y17.Lifts, .int .i64 y17.Covers]) (us := [.int .i64 0, .int .i64 2, .int .i64 1, .int .i64 1]) 4 O (tq_63 y17 (Task.mk 0 2 1 1)) tf_aggof_63 tf_eqg_63 O O O) ?_
 refine JLg (BL ((((((decide (v13 = 0)) && r14) && (decide (r15 = 3))) && (decide ((r11.1.length : Int) = 2))) && (decide (y16 = (Task.mk 0 1 2 1)))) && (decide (y17 = (Task.mk 0 2 1 1))))) (J2 O O O O) ?_
 refine JLg (BL ((((((decide (v13 = 0)) && r14) && (decide (r15 = 3))) && (decide ((r11.1.length : Int) = 2))) && (decide (y16 = (Task.mk 0 1 2 1)))) && (decide (y17 = (Task.mk 0 2 1 1))))) (G9 O O) ?_
 refine G8 (hK12 _ _ ?_)
 refine Gq ?_
 exact ⟨[BL ((((((decide (v13 = 0)) && r14) && (decide (r15 = 3))) && (decide ((r11.1.length : Int) = 2))) && (decide (y16 = (Task.mk 0 1 2 1)))) && (decide (y17 = (Task.mk 0 2 1 1))))], [], trivial, O, ⟨⟨_, O, .conv (.same O)⟩, trivial⟩, O, congrArg (fun r : Bool => (BL r : AV)) (Option.some.inj h)⟩

def M_twistlocklaw30_MovesPhases (F : Nat) (l : List law07_Place) (covers : Int) (items : List law23_Item) (n : Int) : Option Bool :=
 bnd (M_twistlocklaw07_Built l covers) fun r3 =>
 chk (n) fun v4 =>
 bnd (rem64 v4 5) fun v5 =>
 chk (2 + v5) fun v6 =>
 bnd (M_twistlocklaw23_Voyage F r3 items v6 8) fun r8 =>
 bnd (M_moves_Voyage F r3 r8.1 v6 r8.2) fun r10 =>
 bif decide (r10.2 ≠ 0) then
 (some false)
 else
 (each (fun y16 i16 (s16 : Unit) nx16 =>
   each (fun y204 i204 (s204 : Int × Int) nx204 =>
    jp (fun kj210 =>
     bif ((decide (y204.Kind = 3)) || (decide (y204.Kind = 4))) then
     (kj210 2)
     else
     (kj210 1)) fun (j210 : Int) =>
    jp (fun kj212 =>
     bif ((decide (y204.Kind = 2)) || (decide (y204.Kind = 3))) then
     (bif ((decide (y204.Slot.G5 < 0)) || (decide ((r3.Columns.length : Int) ≤ y204.Slot.G5))) then
      (some false)
      else
      (gidx r3.Columns y204.Slot.G5 fun y217 =>
       kj212 y217.Bay))
     else
     (bif ((decide (y204.Gc < 0)) || (decide ((r3.Covers.length : Int) ≤ y204.Gc))) then
      (some false)
      else
      (gidx r3.Covers y204.Gc fun y222 =>
       kj212 y222.Bay))) fun (j212 : Int) =>
    bif ((decide (j210 < s204.1)) || ((decide (j210 = s204.1)) && (decide (j212 < s204.2)))) then
    (some false)
    else
    (nx204 (j210, j212)))
   (fun (s204 : Int × Int) =>
    bnd (S_moves_Tasks F r3 y16) fun r228 =>
    bif decide (r228.2 ≠ 0) then
    (some false)
    else
    (each (fun y269 i269 (s269 : Int × Int) nx269 =>
      chk (s269.1 + y269.Lifts) fun v275 =>
      chk (s269.2 + y269.Covers) fun v276 =>
      chk (y269.Lifts + y269.Covers) fun v278 =>
      bnd (bif ((!(decide (v278 < 1))) && (decide (0 < (i269 : Int)))) then chk ((i269 : Int) - 1) some else some 0) fun v279 =>
      bnd (bif ((!(decide (v278 < 1))) && (decide (0 < (i269 : Int)))) then gidx r228.1 v279 some else some default) fun y280 =>
      bnd (bif (((!(decide (v278 < 1))) && (decide (0 < (i269 : Int)))) && !(decide (y269.Phase < y280.Phase))) then chk ((i269 : Int) - 1) some else some 0) fun v281 =>
      bnd (bif (((!(decide (v278 < 1))) && (decide (0 < (i269 : Int)))) && !(decide (y269.Phase < y280.Phase))) then gidx r228.1 v281 some else some default) fun y282 =>
      bnd (bif ((((!(decide (v278 < 1))) && (decide (0 < (i269 : Int)))) && !(decide (y269.Phase < y280.Phase))) && (decide (y282.Phase = y269.Phase))) then chk ((i269 : Int) - 1) some else some 0) fun v283 =>
      bnd (bif ((((!(decide (v278 < 1))) && (decide (0 < (i269 : Int)))) && !(decide (y269.Phase < y280.Phase))) && (decide (y282.Phase = y269.Phase))) then gidx r228.1 v283 some else some default) fun y284 =>
      bif ((decide (v278 < 1)) || ((decide (0 < (i269 : Int))) && ((decide (y269.Phase < y280.Phase)) || ((decide (y282.Phase = y269.Phase)) && (decide (y269.Bay ≤ y284.Bay)))))) then
      (some false)
      else
      (nx269 (v275, v276)))
     (fun (s269 : Int × Int) =>
      bnd (M_moves_Lifts y16) fun r287 =>
      bnd (bif (!(decide (s269.1 ≠ r287))) then chk (s269.1 + s269.2) some else some 0) fun v288 =>
      bif ((decide (s269.1 ≠ r287)) || (decide (v288 ≠ (y16.length : Int)))) then
      (some false)
      else
      (nx16 ())) r228.1 0 (0, 0))) y16 0 (0, (-1)))
  (fun (s16 : Unit) =>
   bnd (M_twistlocklaw30_awake F) fun r291 =>
   some r291) r10.1 0 ())
theorem M_twistlocklaw30_MovesPhases_w (F : Nat) (l : List law07_Place) (covers : Int) (items : List law23_Item) (n : Int) (r : Bool) (h : M_twistlocklaw30_MovesPhases F l covers items n = some r) : Pure Tryz.prog 3 [LS 4 law07_Place.av l, .sc (.int .u32 covers), LS 6 law23_Item.av items, U8 n] (· = BL r) := by
 unfold M_twistlocklaw30_MovesPhases at h
 refine Gx [.tmp 8] Tryz.func3 O O ?_
 refine G6 fun K1 hK1 => G2 ?_
 refine JLg (BL false) (G9 O O) ?_
 refine G8 (hK1 _ _ ?_)
 refine G6 fun K2 hK2 => G2 ?_
 refine JLg (LS 4 law07_Place.av l) (G7 O O) ?_
 refine JLg (.sc (.int .u32 covers)) (G7 O O) ?_
 obtain ⟨r3, hr3, h⟩ := Ge h
 refine JLg (.agg (Ship.cs r3)) (Gr (args := [LS 4 law07_Place.av l, .sc (.int .u32 covers)]) O (M_twistlocklaw07_Built_w l covers r3 hr3) tf_call_5 ⟨O, O, O, O, trivial⟩) ?_
 refine JLg (U8 n) (G7 O O) ?_
 obtain ⟨v4, hv4, h⟩ := H6 h
 refine JLg (G0 v4) (A_conv Jy Q7 hv4 O O) ?_
 obtain ⟨v5, hv5, h⟩ := Ge h
 refine JLg (G0 v5) (A_rem (rem64_out hv5).1 (rem64_out hv5).2 O O O) ?_
 obtain ⟨v6, hv6, h⟩ := H6 h
 refine JLg (G0 v6) (Hd hv6 O O O) ?_
 refine JLg (.ptr 1001 0) (H2 1001 13 tf_zsize_35 O O) ?_
 refine H1 (u := .junk) (Gt (u := .agg (Ship.cs r3)) (ds := (Ship.cs r3)) tf_size_35 O O O O O O O O) ?_
 refine JLg (G0 v6) (G9 O O) ?_
 refine G8 (hK2 _ _ ?_)
 refine Gm [(2, LS 6 law23_Item.av items), (9, .dptr (Ship.cs r3)), (10, G0 v6)] [] 1001 rfl rfl rfl trivial rfl (by exact ⟨.conv (.same rfl), .ptr, .conv (.same rfl), trivial⟩) ?_
 refine G6 fun K7 hK7 => G2 ?_
 refine JLg (.agg (Ship.cs r3)) (Gg H5 O O O) ?_
 refine JLg (LS 6 law23_Item.av items) (G7 O O) ?_
 refine JLg (G0 v6) (G7 O O) ?_
 obtain ⟨r8, hr8, h⟩ := Ge h
 refine JLg (.tup [LS 9 Box.av r8.1, .agg [LS 1 (LS 4 G3.av) r8.2.States, LS 1 (LS 1 G0) r8.2.Water]]) (Gr (args := [.agg (Ship.cs r3), LS 6 law23_Item.av items, G0 v6, G0 8]) O (M_twistlocklaw23_Voyage_w F r3 items v6 8 r8 hr8) tf_call_6 ⟨O, O, O, O, O, O, O, O, trivial⟩) ?_
 refine JLg (.tup [LS 9 Box.av r8.1, .agg [LS 1 (LS 4 G3.av) r8.2.States, LS 1 (LS 1 G0) r8.2.Water]]) (G7 O O) ?_
 refine JLg (LS 9 Box.av r8.1) (Gv O O O) ?_
 refine JLg (.agg [LS 1 (LS 4 G3.av) r8.2.States, LS 1 (LS 1 G0) r8.2.Water]) (Gv O O O) ?_
 refine JLg (.ptr 1002 0) (H2 1002 2 tf_zsize_41 O O) ?_
 refine JLg (LS 9 Box.av r8.1) (G9 O O) ?_
 refine H1 (u := .junk) (Gt (u := .agg [LS 1 (LS 4 G3.av) r8.2.States, LS 1 (LS 1 G0) r8.2.Water]) (ds := [LS 1 (LS 4 G3.av) r8.2.States, LS 1 (LS 1 G0) r8.2.Water]) tf_size_41 O O O O O O O O) ?_
 refine G8 (hK7 _ _ ?_)
 refine Gm [(9, .dptr (Ship.cs r3)), (10, G0 v6), (11, LS 9 Box.av r8.1), (12, .dptr [LS 1 (LS 4 G3.av) r8.2.States, LS 1 (LS 1 G0) r8.2.Water])] [] 1002 rfl rfl rfl trivial rfl (by repeat' (first | exact .ptr | constructor)) ?_
 refine G6 fun K9 hK9 => G2 ?_
 refine JLg (.agg (Ship.cs r3)) (Gg H5 O O O) ?_
 refine JLg (LS 9 Box.av r8.1) (G7 O O) ?_
 refine JLg (G0 v6) (G7 O O) ?_
 refine JLg (.agg [LS 1 (LS 4 G3.av) r8.2.States, LS 1 (LS 1 G0) r8.2.Water]) (Gg tf_agg_41 O O O) ?_
 obtain ⟨r10, hr10, h⟩ := Ge h
 refine JLg (.tup [LS 1 (LS 6 Move.av) r10.1, G0 r10.2]) (Gr (args := [.agg (Ship.cs r3), LS 9 Box.av r8.1, G0 v6, .agg [LS 1 (LS 4 G3.av) r8.2.States, LS 1 (LS 1 G0) r8.2.Water]]) O (M_moves_Voyage_w F r3 r8.1 v6 r8.2 r10 hr10) tf_call_7 ⟨O, O, O, O, O, O, O, O, trivial⟩) ?_
 refine JLg (.tup [LS 1 (LS 6 Move.av) r10.1, G0 r10.2]) (G7 O O) ?_
 refine JLg (LS 1 (LS 6 Move.av) r10.1) (Gv O O O) ?_
 refine JLg (G0 r10.2) (Gv O O O) ?_
 refine JLg (LS 1 (LS 6 Move.av) r10.1) (G9 O O) ?_
 refine JLg (G0 r10.2) (G9 O O) ?_
 refine G8 (hK9 _ _ ?_)
 refine G6 (fun K11 hK11 => ?_)
 refine G6 fun K12 hK12 => G2 ?_
 refine JLg (G0 r10.2) (G7 O O) ?_
 refine JLg (BL (decide (r10.2 ≠ 0))) (A_neq O O O) ?_
 refine G8 (hK12 _ _ ?_)
 refine Gh O (fun hb => ?_) (fun hb => ?_)
 ·
  replace h := bif_t hb h
  refine G6 fun K13 hK13 => G2 ?_
  refine JLg (BL false) (G9 O O) ?_
  refine G8 (hK13 _ _ ?_)
  refine Gq ?_
  exact ⟨[BL false], [], trivial, O, ⟨⟨_, O, .conv (.same O)⟩, trivial⟩, O, congrArg (fun r : Bool => (BL r : AV)) (Option.some.inj h)⟩
 ·
  replace h := bif_f hb h
  refine Gj ?_
  refine hK11 _ _ ?_
  refine G6 (fun K14 hK14 => ?_)
  refine G6 fun K15 hK15 => G2 ?_
  refine JLg (LS 1 (LS 6 Move.av) r10.1) (G7 O O) ?_
  refine H9 (f := (LS 6 Move.av)) (xs := r10.1) tf_slice_44 O O (fun hm52 => ?_) O O O
  refine JLg (G0 0) (G7 O O) ?_
  refine G8 (hK15 _ _ ?_)
  refine Gi ?_
  obtain ⟨b16, kx16, hb16, hkx16, h⟩ := Hi h
  refine Gz (fun i16 (s16 : Unit) => each b16 kx16 (List.drop i16 r10.1) i16 s16 = some r) (fun i16 s16 => [(9, .dptr (Ship.cs r3)), (51, LS 1 (LS 6 Move.av) r10.1), (52, G0 (r10.1.length : Int)), (53, G0 (i16 : Int))]) (fun i16 s16 => []) (fun i16 => r10.1.length - i16) 0 () h ⟨(by repeat' constructor), trivial, rfl⟩ ?_
  clear h
  intro i16 s16 hi16 K16 e16
  refine G6 fun K17 hK17 => G2 ?_
  refine JLg (BL (decide ((i16 : Int) < (r10.1.length : Int)))) (He O O O) ?_
  refine G8 (hK17 _ _ ?_)
  refine G6 (fun K18 hK18 => ?_)
  refine Gh O (fun hb => ?_) (fun hb => ?_)
  ·
   have hk16 := lt_len hb
   obtain ⟨y16, nx16, hy16, hn16, h⟩ := Ha hi16 hk16
   replace h := app4 hb16 h
   refine Gj ?_
   refine hK18 _ _ ?_
   refine G6 (fun K19 hK19 => ?_)
   refine Gi ?_
   refine G6 fun K20 hK20 => G2 ?_
   refine JLg (.dptr [LS 6 Move.av y16]) (Gw (f := (LS 6 Move.av)) (xs := r10.1) (y := y16) O O O tf_slice_44 hy16 O) ?_
   refine JLg (LS 6 Move.av y16) (Gf tf_scalar_48 O O O) ?_
   refine JLg (LS 6 Move.av y16) (G9 O O) ?_
   refine G8 (hK20 _ _ ?_)
   refine G6 fun K21 hK21 => G2 ?_
   refine JLg (.agg [G0 0, G0 (-1)]) (A_buildArr (cs := [G0 0, G0 (-1)]) [.int .i64 0, .int .i64 0] tf_arr_49 tf_zero_49 O O) ?_
   refine JLg (.ptr 1003 0) (H2 1003 2 tf_zsize_49 O O) ?_
   refine H1 (u := .junk) (Gt (u := .agg [G0 0, G0 (-1)]) (ds := [G0 0, G0 (-1)]) tf_size_49 O O O O O O O O) ?_
   refine G8 (hK21 _ _ ?_)
   refine G6 (fun K22 hK22 => ?_)
   refine G6 fun K23 hK23 => G2 ?_
   refine JLg (LS 6 Move.av y16) (G7 O O) ?_
   refine H9 (f := Move.av) (xs := y16) Ho O O (fun hm59 => ?_) O O O
   refine JLg (G0 0) (G7 O O) ?_
   refine G8 (hK23 _ _ ?_)
   refine Gi ?_
   obtain ⟨b204, kx204, hb204, hkx204, h⟩ := Hi h
   refine Gz (fun i204 (s204 : Int × Int) => each b204 kx204 (List.drop i204 y16) i204 s204 = some r) (fun i204 s204 => [(9, .dptr (Ship.cs r3)), (16, LS 6 Move.av y16), (17, .ptr 1003 0), (51, LS 1 (LS 6 Move.av) r10.1), (52, G0 (r10.1.length : Int)), (53, G0 (i16 : Int)), (58, LS 6 Move.av y16), (59, G0 (y16.length : Int)), (60, G0 (i204 : Int))]) (fun i204 s204 => [(1003, .box 49 [G0 s204.1, G0 s204.2])]) (fun i204 => y16.length - i204) 0 (0, (-1)) h ⟨(by repeat' constructor), ⟨⟨_, rfl, .boxL rfl ⟨.same rfl, .same rfl, trivial⟩⟩, trivial⟩, rfl⟩ ?_
   clear h
   intro i204 s204 hi204 K204 e204
   refine G6 fun K205 hK205 => G2 ?_
   refine JLg (BL (decide ((i204 : Int) < (y16.length : Int)))) (He O O O) ?_
   refine G8 (hK205 _ _ ?_)
   refine G6 (fun K206 hK206 => ?_)
   refine Gh O (fun hb => ?_) (fun hb => ?_)
   ·
    have hk204 := lt_len hb
    obtain ⟨y204, nx204, hy204, hn204, h⟩ := Ha hi204 hk204
    replace h := app4 hb204 h
    refine Gj ?_
    refine hK206 _ _ ?_
    refine G6 (fun K207 hK207 => ?_)
    refine Gi ?_
    refine G6 fun K208 hK208 => G2 ?_
    refine JLg (.dptr (Move.cs y204)) (Gw (f := Move.av) (xs := y16) (y := y204) O O O Ho hy204 O) ?_
    refine JLg (.agg (Move.cs y204)) (Gg tf_agg_53 O O O) ?_
    refine JLg (.ptr 1004 0) (H2 1004 6 Jk O O) ?_
    refine H1 (u := .junk) (Gt (u := .agg (Move.cs y204)) (ds := [U8 y204.Kind, G0 y204.Box, G0 y204.Slot.G5, G0 y204.Slot.Tier, U8 y204.Slot.Half, G0 y204.Gc]) tf_size_53 O O O O O O O O) ?_
    refine G8 (hK208 _ _ ?_)
    refine Gm [(9, .dptr (Ship.cs r3)), (16, LS 6 Move.av y16), (17, .ptr 1003 0), (19, .dptr (Move.cs y204)), (51, LS 1 (LS 6 Move.av) r10.1), (52, G0 (r10.1.length : Int)), (53, G0 (i16 : Int)), (58, LS 6 Move.av y16), (59, G0 (y16.length : Int)), (60, G0 (i204 : Int))] [(1003, .box 49 [G0 s204.1, G0 s204.2])] 1004 rfl rfl rfl ⟨⟨_, rfl, .boxEq rfl rfl⟩, trivial⟩ rfl (by repeat' (first | exact .ptr | constructor)) ?_
    refine G6 fun K209 hK209 => G2 ?_
    refine JLg (.agg [G0 1, G0 0]) (A_buildArr (cs := [G0 1, G0 0]) [.int .i64 0, .int .i64 0] tf_arr_49 tf_zero_49 O O) ?_
    refine JLg (.ptr 1005 0) (H2 1005 2 tf_zsize_49 O O) ?_
    refine H1 (u := .junk) (Gt (u := .agg [G0 1, G0 0]) (ds := [G0 1, G0 0]) tf_size_49 O O O O O O O O) ?_
    refine G8 (hK209 _ _ ?_)
    obtain ⟨kj210, hkj210, h⟩ := J6 h
    refine Hs (fun j210 : Int => kj210 j210 = some r) (fun j210 => [(9, .dptr (Ship.cs r3)), (16, LS 6 Move.av y16), (17, .ptr 1003 0), (19, .dptr (Move.cs y204)), (20, .ptr 1005 0), (51, LS 1 (LS 6 Move.av) r10.1), (52, G0 (r10.1.length : Int)), (53, G0 (i16 : Int)), (58, LS 6 Move.av y16), (59, G0 (y16.length : Int)), (60, G0 (i204 : Int))]) (fun j210 => [(1003, .box 49 [G0 s204.1, G0 s204.2]), (1005, .box 49 [G0 j210, G0 0])]) (fun Kj210 ej210 => ?_) ?_
    ·
     refine G6 fun K211 hK211 => G2 ?_
     refine JLg (.dptr (Move.cs y204)) (Gb Jf O O O) ?_
     refine JLg (U8 y204.Kind) (Gf H7 O O O) ?_
     refine JLg (BL (decide (y204.Kind = 3))) (Hx O O O) ?_
     refine JLg (BL (decide (y204.Kind = 3))) (G7 O O) ?_
     refine Gd (u := .dptr (Move.cs y204)) [] O O O .scf trivial (fun hc => Gb Jf O O O) ?_
     refine Gd (u := U8 y204.Kind) [(69, .dptr (Move.cs y204))] O O O .scf ⟨.all id, trivial⟩ (fun hc => Gf H7 O O O) ?_
     refine Gd (u := BL (decide (y204.Kind = 4))) [(70, U8 y204.Kind)] O O O .scf ⟨.all id, trivial⟩ (fun hc => Hx O O O) ?_
     refine JLg (BL ((decide (y204.Kind = 3)) || (decide (y204.Kind = 4)))) (Q0 O O O O) ?_
     refine G8 (hK211 _ _ ?_)
     refine Gh O (fun hb => ?_) (fun hb => ?_)
     ·
      replace h := bif_t hb h
      refine G2 ?_
      refine JLg (.ptr 1005 0) (A_arrL (m := 0) tf_arn_49 O O O O O) ?_
      refine H1 (u := .junk) (Gt (u := G0 2) (ds := [G0 2, G0 0]) Jh O O O O O O O O) ?_
      refine G8 ?_
      exact ej210 _ _ 2 h ⟨(by repeat' constructor), ⟨⟨_, rfl, .boxL rfl ⟨.same rfl, .same rfl, trivial⟩⟩, ⟨_, rfl, .boxL rfl ⟨.same rfl, .same rfl, trivial⟩⟩, trivial⟩, rfl⟩
     ·
      replace h := bif_f hb h
      refine Gj ?_
      exact ej210 _ _ 1 h ⟨(by repeat' constructor), ⟨⟨_, rfl, .boxL rfl ⟨.same rfl, .same rfl, trivial⟩⟩, ⟨_, rfl, .boxL rfl ⟨.same rfl, .same rfl, trivial⟩⟩, trivial⟩, rfl⟩
    ·intro j210 h
     replace h := app1 hkj210 h
     obtain ⟨kj212, hkj212, h⟩ := J6 h
     refine Hs (fun j212 : Int => kj212 j212 = some r) (fun j212 => [(9, .dptr (Ship.cs r3)), (16, LS 6 Move.av y16), (17, .ptr 1003 0), (20, .ptr 1005 0), (51, LS 1 (LS 6 Move.av) r10.1), (52, G0 (r10.1.length : Int)), (53, G0 (i16 : Int)), (58, LS 6 Move.av y16), (59, G0 (y16.length : Int)), (60, G0 (i204 : Int))]) (fun j212 => [(1003, .box 49 [G0 s204.1, G0 s204.2]), (1005, .box 49 [G0 j210, G0 j212])]) (fun Kj212 ej212 => ?_) ?_
     ·
      refine G6 fun K213 hK213 => G2 ?_
      refine JLg (.dptr (Move.cs y204)) (Gb Jf O O O) ?_
      refine JLg (U8 y204.Kind) (Gf H7 O O O) ?_
      refine JLg (BL (decide (y204.Kind = 2))) (Hx O O O) ?_
      refine JLg (BL (decide (y204.Kind = 2))) (G7 O O) ?_
      refine Gd (u := .dptr (Move.cs y204)) [] O O O .scf trivial (fun hc => Gb Jf O O O) ?_
      refine Gd (u := U8 y204.Kind) [(78, .dptr (Move.cs y204))] O O O .scf ⟨.all id, trivial⟩ (fun hc => Gf H7 O O O) ?_
      refine Gd (u := BL (decide (y204.Kind = 3))) [(79, U8 y204.Kind)] O O O .scf ⟨.all id, trivial⟩ (fun hc => Hx O O O) ?_
      refine JLg (BL ((decide (y204.Kind = 2)) || (decide (y204.Kind = 3)))) (Q0 O O O O) ?_
      refine G8 (hK213 _ _ ?_)
      refine Gh O (fun hb => ?_) (fun hb => ?_)
      ·
       replace h := bif_t hb h
       refine G6 (fun K214 hK214 => ?_)
       refine G6 fun K215 hK215 => G2 ?_
       refine JLg (.dptr ((Move.cs y204).drop 2)) (Gb tf_field_53_2 O O O) ?_
       refine JLg (.dptr ((Move.cs y204).drop 2)) (Gb Hh O O O) ?_
       refine JLg (G0 y204.Slot.G5) (Gf Ga O O O) ?_
       refine JLg (BL (decide (y204.Slot.G5 < 0))) (He O O O) ?_
       refine JLg (BL (decide (y204.Slot.G5 < 0))) (G7 O O) ?_
       refine Gd (u := .dptr ((Move.cs y204).drop 2)) [] O O O .scf trivial (fun hc => Gb tf_field_53_2 O O O) ?_
       refine Gd (u := .dptr ((Move.cs y204).drop 2)) [(87, .dptr ((Move.cs y204).drop 2))] O O O .scf ⟨.all id, trivial⟩ (fun hc => Gb Hh O O O) ?_
       refine Gd (u := G0 y204.Slot.G5) [(88, .dptr ((Move.cs y204).drop 2))] O O O .scf ⟨.all id, trivial⟩ (fun hc => Gf Ga O O O) ?_
       refine Gd (u := .dptr (Ship.cs r3)) [] O O O .scf trivial (fun hc => Gb Hc O O O) ?_
       refine Gd (u := LS 12 G5.av r3.Columns) [(90, .dptr (Ship.cs r3))] O O O .scf ⟨.all id, trivial⟩ (fun hc => Gf Hj O O O) ?_
       refine Gd (u := G0 (r3.Columns.length : Int)) [(91, LS 12 G5.av r3.Columns)] O O O .scf ⟨.all id, trivial⟩ (fun hc => A_lenM (f := G5.av) (xs := r3.Columns) Hf O O) ?_
       refine Gd (u := BL (decide ((r3.Columns.length : Int) ≤ y204.Slot.G5))) [(89, G0 y204.Slot.G5), (92, G0 (r3.Columns.length : Int))] O O O .scf ⟨.all id, .all id, trivial⟩ (fun hc => A_geq O O O) ?_
       refine JLg (BL ((decide (y204.Slot.G5 < 0)) || (decide ((r3.Columns.length : Int) ≤ y204.Slot.G5)))) (Q0 O O O O) ?_
       refine G8 (hK215 _ _ ?_)
       refine Gh O (fun hb => ?_) (fun hb => ?_)
       ·
        replace h := bif_t hb h
        refine G6 fun K216 hK216 => G2 ?_
        refine JLg (BL false) (G9 O O) ?_
        refine G8 (hK216 _ _ ?_)
        refine Gm [(8, BL false)] [(1005, .box 49 [G0 j210, G0 0])] 1003 rfl rfl rfl ⟨⟨_, rfl, .boxEq rfl rfl⟩, trivial⟩ rfl (by exact ⟨.conv (.same rfl), trivial⟩) ?_
        refine Gm [(8, BL false)] [] 1005 rfl rfl rfl trivial rfl (by exact ⟨.conv (.same rfl), trivial⟩) ?_
        refine Gq ?_
        exact ⟨[BL false], [], trivial, O, ⟨⟨_, O, .conv (.same O)⟩, trivial⟩, O, congrArg (fun r : Bool => (BL r : AV)) (Option.some.inj h)⟩
       ·
        replace h := bif_f hb h
        refine Gj ?_
        refine hK214 _ _ ?_
        refine G2 ?_
        refine JLg (.dptr (Ship.cs r3)) (Gb Hc O O O) ?_
        refine JLg (LS 12 G5.av r3.Columns) (Gf Hj O O O) ?_
        refine JLg (.dptr ((Move.cs y204).drop 2)) (Gb tf_field_53_2 O O O) ?_
        refine JLg (.dptr ((Move.cs y204).drop 2)) (Gb Hh O O O) ?_
        refine JLg (G0 y204.Slot.G5) (Gf Ga O O O) ?_
        obtain ⟨m218, y217, hm218, hy217, h⟩ := Jq h
        refine JLg (.dptr (G5.cs y217)) (Gw (f := G5.av) (xs := r3.Columns) (y := y217) O O O Hf hy217 hm218) ?_
        refine JLg (.dptr (G5.cs y217)) (Gb Ji O O O) ?_
        refine JLg (G0 y217.Bay) (Gf Ga O O O) ?_
        refine JLg (.ptr 1005 1) (A_arrL (m := 1) tf_arn_49 O O O O O) ?_
        refine H1 (u := .junk) (Gt (u := G0 y217.Bay) (ds := [G0 j210, G0 y217.Bay]) Jh O O O O O O O O) ?_
        refine G8 ?_
        exact ej212 _ _ y217.Bay h ⟨(by repeat' constructor), ⟨⟨_, rfl, .boxL rfl ⟨.same rfl, .same rfl, trivial⟩⟩, ⟨_, rfl, .boxL rfl ⟨.same rfl, .same rfl, trivial⟩⟩, trivial⟩, rfl⟩
      ·
       replace h := bif_f hb h
       refine G6 (fun K219 hK219 => ?_)
       refine G6 fun K220 hK220 => G2 ?_
       refine JLg (.dptr [G0 y204.Gc]) (Gb tf_field_53_3 O O O) ?_
       refine JLg (G0 y204.Gc) (Gf Ga O O O) ?_
       refine JLg (BL (decide (y204.Gc < 0))) (He O O O) ?_
       refine JLg (BL (decide (y204.Gc < 0))) (G7 O O) ?_
       refine Gd (u := .dptr [G0 y204.Gc]) [] O O O .scf trivial (fun hc => Gb tf_field_53_3 O O O) ?_
       refine Gd (u := G0 y204.Gc) [(108, .dptr [G0 y204.Gc])] O O O .scf ⟨.all id, trivial⟩ (fun hc => Gf Ga O O O) ?_
       refine Gd (u := .dptr ((Ship.cs r3).drop 1)) [] O O O .scf trivial (fun hc => Gb Ja O O O) ?_
       refine Gd (u := LS 2 Gc.av r3.Covers) [(110, .dptr ((Ship.cs r3).drop 1))] O O O .scf ⟨.all id, trivial⟩ (fun hc => Gf Jn O O O) ?_
       refine Gd (u := G0 (r3.Covers.length : Int)) [(111, LS 2 Gc.av r3.Covers)] O O O .scf ⟨.all id, trivial⟩ (fun hc => A_lenM (f := Gc.av) (xs := r3.Covers) J8 O O) ?_
       refine Gd (u := BL (decide ((r3.Covers.length : Int) ≤ y204.Gc))) [(109, G0 y204.Gc), (112, G0 (r3.Covers.length : Int))] O O O .scf ⟨.all id, .all id, trivial⟩ (fun hc => A_geq O O O) ?_
       refine JLg (BL ((decide (y204.Gc < 0)) || (decide ((r3.Covers.length : Int) ≤ y204.Gc)))) (Q0 O O O O) ?_
       refine G8 (hK220 _ _ ?_)
       refine Gh O (fun hb => ?_) (fun hb => ?_)
       ·
        replace h := bif_t hb h
        refine G6 fun K221 hK221 => G2 ?_
        refine JLg (BL false) (G9 O O) ?_
        refine G8 (hK221 _ _ ?_)
        refine Gm [(8, BL false)] [(1005, .box 49 [G0 j210, G0 0])] 1003 rfl rfl rfl ⟨⟨_, rfl, .boxEq rfl rfl⟩, trivial⟩ rfl (by exact ⟨.conv (.same rfl), trivial⟩) ?_
        refine Gm [(8, BL false)] [] 1005 rfl rfl rfl trivial rfl (by exact ⟨.conv (.same rfl), trivial⟩) ?_
        refine Gq ?_
        exact ⟨[BL false], [], trivial, O, ⟨⟨_, O, .conv (.same O)⟩, trivial⟩, O, congrArg (fun r : Bool => (BL r : AV)) (Option.some.inj h)⟩
       ·
        replace h := bif_f hb h
        refine Gj ?_
        refine hK219 _ _ ?_
        refine G2 ?_
        refine JLg (.dptr ((Ship.cs r3).drop 1)) (Gb Ja O O O) ?_
        refine JLg (LS 2 Gc.av r3.Covers) (Gf Jn O O O) ?_
        refine JLg (.dptr [G0 y204.Gc]) (Gb tf_field_53_3 O O O) ?_
        refine JLg (G0 y204.Gc) (Gf Ga O O O) ?_
        obtain ⟨m223, y222, hm223, hy222, h⟩ := Jq h
        refine JLg (.dptr [G0 y222.Bay, LS 1 G0 y222.Rows]) (Gw (f := Gc.av) (xs := r3.Covers) (y := y222) O O O J8 hy222 hm223) ?_
        refine JLg (.dptr [G0 y222.Bay, LS 1 G0 y222.Rows]) (Gb tf_field_58_0 O O O) ?_
        refine JLg (G0 y222.Bay) (Gf Ga O O O) ?_
        refine JLg (.ptr 1005 1) (A_arrL (m := 1) tf_arn_49 O O O O O) ?_
        refine H1 (u := .junk) (Gt (u := G0 y222.Bay) (ds := [G0 j210, G0 y222.Bay]) Jh O O O O O O O O) ?_
        refine G8 ?_
        exact ej212 _ _ y222.Bay h ⟨(by repeat' constructor), ⟨⟨_, rfl, .boxL rfl ⟨.same rfl, .same rfl, trivial⟩⟩, ⟨_, rfl, .boxL rfl ⟨.same rfl, .same rfl, trivial⟩⟩, trivial⟩, rfl⟩
     ·intro j212 h
      replace h := app1 hkj212 h
      refine G6 (fun K224 hK224 => ?_)
      refine G6 fun K225 hK225 => G2 ?_
      refine JLg (.ptr 1005 0) (A_arrL (m := 0) tf_arn_49 O O O O O) ?_
      refine JLg (G0 j210) (Ht Ga O O O O) ?_
      refine JLg (.ptr 1003 0) (A_arrL (m := 0) tf_arn_49 O O O O O) ?_
      refine JLg (G0 s204.1) (Ht Ga O O O O) ?_
      refine JLg (BL (decide (j210 < s204.1))) (He O O O) ?_
      refine JLg (BL (decide (j210 < s204.1))) (G7 O O) ?_
      refine Gd (u := .ptr 1005 0) [] O O O .scf trivial (fun hc => A_arrL (m := 0) tf_arn_49 O O O O O) ?_
      refine Gd (u := G0 j210) [(129, .ptr 1005 0)] O O O .scf ⟨.all id, trivial⟩ (fun hc => Ht Ga O O O O) ?_
      refine Gd (u := .ptr 1003 0) [] O O O .scf trivial (fun hc => A_arrL (m := 0) tf_arn_49 O O O O O) ?_
      refine Gd (u := G0 s204.1) [(131, .ptr 1003 0)] O O O .scf ⟨.all id, trivial⟩ (fun hc => Ht Ga O O O O) ?_
      refine Gd (u := BL (decide (j210 = s204.1))) [(130, G0 j210), (132, G0 s204.1)] O O O .scf ⟨.all id, .all id, trivial⟩ (fun hc => Hx O O O) ?_
      refine Gd (u := BL (decide (j210 = s204.1))) [(133, BL (decide (j210 = s204.1)))] O O O .scf ⟨.all id, trivial⟩ (fun hc => G7 O O) ?_
      refine Gd (u := .ptr 1005 1) [] O O O .optt trivial (fun hc => A_arrL (m := 1) tf_arn_49 O O O O O) ?_
      refine Gd (u := G0 j212) [(135, .ptr 1005 1)] O O O .optt ⟨.all id, trivial⟩ (fun hc => Ht Ga O O O O) ?_
      refine Gd (u := .ptr 1003 1) [] O O O .optt trivial (fun hc => A_arrL (m := 1) tf_arn_49 O O O O O) ?_
      refine Gd (u := G0 s204.2) [(137, .ptr 1003 1)] O O O .optt ⟨.all id, trivial⟩ (fun hc => Ht Ga O O O O) ?_
      refine Gd (u := BL (decide (j212 < s204.2))) [(136, G0 j212), (138, G0 s204.2)] O O O .optt ⟨.all id, .all id, trivial⟩ (fun hc => He O O O) ?_
      refine Gd (u := BL ((decide (j210 = s204.1)) && (decide (j212 < s204.2)))) [(134, BL (decide (j210 = s204.1))), (139, _)] O O O .scf ⟨.all id, .part, trivial⟩ (fun hc => J2 O O O O) ?_
      refine JLg (BL ((decide (j210 < s204.1)) || ((decide (j210 = s204.1)) && (decide (j212 < s204.2))))) (Q0 O O O O) ?_
      refine G8 (hK225 _ _ ?_)
      refine Gm [(9, .dptr (Ship.cs r3)), (16, LS 6 Move.av y16), (17, .ptr 1003 0), (20, .dptr [G0 j210, G0 j212]), (51, LS 1 (LS 6 Move.av) r10.1), (52, G0 (r10.1.length : Int)), (53, G0 (i16 : Int)), (58, LS 6 Move.av y16), (59, G0 (y16.length : Int)), (60, G0 (i204 : Int)), (141, BL ((decide (j210 < s204.1)) || ((decide (j210 = s204.1)) && (decide (j212 < s204.2)))))] [(1003, .box 49 [G0 s204.1, G0 s204.2])] 1005 rfl rfl rfl ⟨⟨_, rfl, .boxEq rfl rfl⟩, trivial⟩ rfl (by repeat' (first | exact .ptr | constructor)) ?_
      refine Gh O (fun hb => ?_) (fun hb => ?_)
      ·
       replace h := bif_t hb h
       refine G6 fun K226 hK226 => G2 ?_
       refine JLg (BL false) (G9 O O) ?_
       refine G8 (hK226 _ _ ?_)
       refine Gm [(8, BL false)] [] 1003 rfl rfl rfl trivial rfl (by exact ⟨.conv (.same rfl), trivial⟩) ?_
       refine Gq ?_
       exact ⟨[BL false], [], trivial, O, ⟨⟨_, O, .conv (.same O)⟩, trivial⟩, O, congrArg (fun r : Bool => (BL r : AV)) (Option.some.inj h)⟩
      ·
       replace h := bif_f hb h
       refine Gj ?_
       refine hK224 _ _ ?_
       refine G2 ?_
       refine JLg (.agg [G0 j210, G0 j212]) (Gg tf_agg_49 O O O) ?_
       refine H1 (u := .junk) (Gt (u := .agg [G0 j210, G0 j212]) (ds := [G0 j210, G0 j212]) tf_size_49 O O O O O O O O) ?_
       refine G8 (hK207 _ _ ?_)
       refine G2 ?_
       refine JLg (G0 ((i204 + 1 : Nat) : Int)) (Hd (idx_succ hk204 hm59) O O O) ?_
       refine JLg (G0 ((i204 + 1 : Nat) : Int)) (G7 O O) ?_
       refine G8 ?_
       exact e204 _ _ (i204 + 1) (j210, j212) (app1 hn204 h) (by omega) ⟨(by repeat' constructor), ⟨⟨_, rfl, .boxL rfl ⟨.same rfl, .same rfl, trivial⟩⟩, trivial⟩, rfl⟩
   ·
    have h := app1 hkx204 (Hb hi204 (Gy hb))
    refine H4 ?_
    refine hK22 _ _ ?_
    refine G6 fun K227 hK227 => G2 ?_
    refine JLg (.agg (Ship.cs r3)) (Gg H5 O O O) ?_
    refine JLg (LS 6 Move.av y16) (G7 O O) ?_
    obtain ⟨r228, hr228, h⟩ := Ge h
    refine JLg (.tup [LS 4 Task.av r228.1, G0 r228.2]) (Gr (args := [.agg (Ship.cs r3), LS 6 Move.av y16]) O (S_moves_Tasks_w.down F r3 y16 r228 hr228) tf_call_8 ⟨O, O, O, O, trivial⟩) ?_
    refine JLg (.tup [LS 4 Task.av r228.1, G0 r228.2]) (G7 O O) ?_
    refine JLg (LS 4 Task.av r228.1) (Gv O O O) ?_
    refine JLg (G0 r228.2) (Gv O O O) ?_
    refine JLg (LS 4 Task.av r228.1) (G9 O O) ?_
    refine JLg (G0 r228.2) (G9 O O) ?_
    refine G8 (hK227 _ _ ?_)
    refine Gm [(9, .dptr (Ship.cs r3)), (16, LS 6 Move.av y16), (21, LS 4 Task.av r228.1), (22, G0 r228.2), (51, LS 1 (LS 6 Move.av) r10.1), (52, G0 (r10.1.length : Int)), (53, G0 (i16 : Int))] [] 1003 rfl rfl rfl trivial rfl (by repeat' (first | exact .ptr | constructor)) ?_
    refine G6 (fun K229 hK229 => ?_)
    refine G6 fun K230 hK230 => G2 ?_
    refine JLg (G0 r228.2) (G7 O O) ?_
    refine JLg (BL (decide (r228.2 ≠ 0))) (A_neq O O O) ?_
    refine G8 (hK230 _ _ ?_)
    refine Gh O (fun hb => ?_) (fun hb => ?_)
    ·
     replace h := bif_t hb h
     refine G6 fun K231 hK231 => G2 ?_
     refine JLg (BL false) (G9 O O) ?_
     refine G8 (hK231 _ _ ?_)
     refine Gq ?_
     exact ⟨[BL false], [], trivial, O, ⟨⟨_, O, .conv (.same O)⟩, trivial⟩, O, congrArg (fun r : Bool => (BL r : AV)) (Option.some.inj h)⟩
    ·
     replace h := bif_f hb h
     refine Gj ?_
     refine hK229 _ _ ?_
     refine G6 fun K232 hK232 => G2 ?_
     refine JLg (G0 0) (G9 O O) ?_
     refine JLg (G0 0) (G9 O O) ?_
     refine G8 (hK232 _ _ ?_)
     refine G6 (fun K233 hK233 => ?_)
     refine G6 fun K234 hK234 => G2 ?_
     refine JLg (LS 4 Task.av r228.1) (G7 O O) ?_
     refine H9 (f := Task.av) (xs := r228.1) J0 O O (fun hm153 => ?_) O O O
     refine JLg (G0 0) (G7 O O) ?_
     refine G8 (hK234 _ _ ?_)
     refine Gi ?_
     obtain ⟨b269, kx269, hb269, hkx269, h⟩ := Hi h
     refine Gz (fun i269 (s269 : Int × Int) => each b269 kx269 (List.drop i269 r228.1) i269 s269 = some r) (fun i269 s269 => [(9, .dptr (Ship.cs r3)), (16, LS 6 Move.av y16), (21, LS 4 Task.av r228.1), (23, G0 s269.1), (24, G0 s269.2), (51, LS 1 (LS 6 Move.av) r10.1), (52, G0 (r10.1.length : Int)), (53, G0 (i16 : Int)), (152, LS 4 Task.av r228.1), (153, G0 (r228.1.length : Int)), (154, G0 (i269 : Int))]) (fun i269 s269 => []) (fun i269 => r228.1.length - i269) 0 (0, 0) h ⟨(by repeat' constructor), trivial, rfl⟩ ?_
     clear h
     intro i269 s269 hi269 K269 e269
     refine G6 fun K270 hK270 => G2 ?_
     refine JLg (BL (decide ((i269 : Int) < (r228.1.length : Int)))) (He O O O) ?_
     refine G8 (hK270 _ _ ?_)
     refine G6 (fun K271 hK271 => ?_)
     refine Gh O (fun hb => ?_) (fun hb => ?_)
     ·
      have hk269 := lt_len hb
      obtain ⟨y269, nx269, hy269, hn269, h⟩ := Ha hi269 hk269
      replace h := app4 hb269 h
      refine Gj ?_
      refine hK271 _ _ ?_
      refine G6 (fun K272 hK272 => ?_)
      refine Gi ?_
      refine G6 fun K273 hK273 => G2 ?_
      refine JLg (G0 (i269 : Int)) (G7 O O) ?_
      refine JLg (.dptr (Task.cs y269)) (Gw (f := Task.av) (xs := r228.1) (y := y269) O O O J0 hy269 O) ?_
      refine JLg (.agg (Task.cs y269)) (Gg tf_agg_63 O O O) ?_
      refine JLg (.ptr 1006 0) (H2 1006 4 tf_zsize_63 O O) ?_
      refine JLg (G0 (i269 : Int)) (G9 O O) ?_
      refine H1 (u := .junk) (Gt (u := .agg (Task.cs y269)) (ds := [G0 y269.Bay, G0 y269.Phase, G0 y269.Lifts, G0 y269.Covers]) tf_size_63 O O O O O O O O) ?_
      refine G8 (hK273 _ _ ?_)
      refine Gm [(9, .dptr (Ship.cs r3)), (16, LS 6 Move.av y16), (21, LS 4 Task.av r228.1), (23, G0 s269.1), (24, G0 s269.2), (25, G0 (i269 : Int)), (26, .dptr (Task.cs y269)), (51, LS 1 (LS 6 Move.av) r10.1), (52, G0 (r10.1.length : Int)), (53, G0 (i16 : Int)), (152, LS 4 Task.av r228.1), (153, G0 (r228.1.length : Int)), (154, G0 (i269 : Int))] [] 1006 rfl rfl rfl trivial rfl (by repeat' (first | exact .ptr | constructor)) ?_
      refine G6 (fun K274 hK274 => ?_)
      obtain ⟨v275, hv275, h⟩ := H6 h
      obtain ⟨v276, hv276, h⟩ := H6 h
      refine Jc [] [0, 0, 0, 0, 0, 0, 0, 0, 0, 0] [0, 0, 0, 0, 0, 0, 0, 0, 0, 0] [[]] J5 (by kernel_rfl) rfl rfl ?_
      refine Gn (u := G0 s269.1) O O ⟨Gp (G7 O O) O, trivial⟩ ?_
      refine Gn (u := .dptr [G0 y269.Lifts, G0 y269.Covers]) O O ⟨Gp (Gb tf_field_63_2 O O O) O, trivial⟩ ?_
      refine Gn (u := G0 y269.Lifts) O O ⟨Gp (Gf Ga O O O) O, trivial⟩ ?_
      refine Gn (u := G0 v275) O O ⟨Gp (Hd hv275 O O O) O, trivial⟩ ?_
      refine Gn (u := G0 s269.2) O O ⟨Gp (G7 O O) O, trivial⟩ ?_
      refine Gn (u := .dptr [G0 y269.Covers]) O O ⟨Gp (Gb tf_field_63_3 O O O) O, trivial⟩ ?_
      refine Gn (u := G0 y269.Covers) O O ⟨Gp (Gf Ga O O O) O, trivial⟩ ?_
      refine Gn (u := G0 v276) O O ⟨Gp (Hd hv276 O O O) O, trivial⟩ ?_
      refine Gn (u := G0 v275) O O ⟨Gp (G9 O O) O, trivial⟩ ?_
      refine Gn (u := G0 v276) O O ⟨Gp (G9 O O) O, trivial⟩ ?_
      refine D_nil ?_
      refine hK274 _ _ ?_
      refine G6 (fun K277 hK277 => ?_)
      obtain ⟨v278, hv278, h⟩ := H6 h
      obtain ⟨v279, hv279, h⟩ := Ge h
      obtain ⟨y280, hy280, h⟩ := Ge h
      obtain ⟨v281, hv281, h⟩ := Ge h
      obtain ⟨y282, hy282, h⟩ := Ge h
      obtain ⟨v283, hv283, h⟩ := Ge h
      obtain ⟨y284, hy284, h⟩ := Ge h
      refine Jc [] [0, 0, 0, 0, 0, 0, 0, 0, 0, 0, 0, 0, 0, 0, 0, 0, 0, 0, 0, 0, 0, 0, 0, 0, 0, 0, 0, 0, 0, 0, 0, 0, 0, 0, 0, 0, 0, 0, 0, 0, 0, 0, 0] [0, 0, 0, 0, 0, 0, 0, 0, 0, 0, 0, 0, 0, 0, 0, 0, 0, 0, 0, 0, 0, 0, 0, 0, 0, 0, 0, 0, 0, 0, 0, 0, 0, 0, 0, 0, 0, 0, 0, 0, 0, 0, 0] [[]] J5 (by kernel_rfl) rfl rfl ?_
      refine Gn (u := .dptr [G0 y269.Lifts, G0 y269.Covers]) O O ⟨Gp (Gb tf_field_63_2 O O O) O, trivial⟩ ?_
      refine Gn (u := G0 y269.Lifts) O O ⟨Gp (Gf Ga O O O) O, trivial⟩ ?_
      refine Gn (u := .dptr [G0 y269.Covers]) O O ⟨Gp (Gb tf_field_63_3 O O O) O, trivial⟩ ?_
      refine Gn (u := G0 y269.Covers) O O ⟨Gp (Gf Ga O O O) O, trivial⟩ ?_
      refine Gn (u := G0 v278) O O ⟨Gp (Hd hv278 O O O) O, trivial⟩ ?_
      refine Gn (u := BL (decide (v278 < 1))) O O ⟨Gp (He O O O) O, trivial⟩ ?_
      refine Gn (u := BL (decide (v278 < 1))) O O ⟨Gp (G7 O O) O, trivial⟩ ?_
      refine Gn (u := .opt (!(decide (v278 < 1))) (G0 (i269 : Int))) O O ⟨H3 [] O O O .scf trivial (fun hc => G7 O O) O, trivial⟩ ?_
      refine Gn (u := .opt (!(decide (v278 < 1))) (BL (decide (0 < (i269 : Int))))) O O ⟨H3 [(174, G0 (i269 : Int))] O O O .scf ⟨.all id, trivial⟩ (fun hc => A_gtr O O O) O, trivial⟩ ?_
      refine Gn (u := .opt (!(decide (v278 < 1))) (BL (decide (0 < (i269 : Int))))) O O ⟨H3 [(175, BL (decide (0 < (i269 : Int))))] O O O .scf ⟨.all id, trivial⟩ (fun hc => G7 O O) O, trivial⟩ ?_
      refine Gn (u := .opt ((!(decide (v278 < 1))) && (decide (0 < (i269 : Int)))) (LS 4 Task.av r228.1)) O O ⟨H3 [] O O O .optt trivial (fun hc => G7 O O) O, trivial⟩ ?_
      refine Gn (u := .opt ((!(decide (v278 < 1))) && (decide (0 < (i269 : Int)))) (G0 (i269 : Int))) O O ⟨H3 [] O O O .optt trivial (fun hc => G7 O O) O, trivial⟩ ?_
      refine Gn (u := .opt ((!(decide (v278 < 1))) && (decide (0 < (i269 : Int)))) (G0 v279)) O O ⟨H3 [(178, G0 (i269 : Int))] O O O .optt ⟨.all id, trivial⟩ (fun hc => Jx (chk_some (bif_t hc hv279)) O O O) O, trivial⟩ ?_
      refine Gn (u := .opt ((!(decide (v278 < 1))) && (decide (0 < (i269 : Int)))) (.dptr (Task.cs y280))) O O ⟨H3 [(177, LS 4 Task.av r228.1), (179, G0 v279)] O O O .optt ⟨.all id, .all id, trivial⟩ (fun hc => (match Q2 (bif_t hc hy280) with | ⟨_, hm_, hy_⟩ => Gw (f := Task.av) (xs := r228.1) (y := y280) O O O J0 hy_ hm_)) O, trivial⟩ ?_
      refine Gn (u := .opt ((!(decide (v278 < 1))) && (decide (0 < (i269 : Int)))) (.dptr ((Task.cs y280).drop 1))) O O ⟨H3 [(180, .dptr (Task.cs y280))] O O O .optt ⟨.all id, trivial⟩ (fun hc => Gb Jv O O O) O, trivial⟩ ?_
      refine Gn (u := .opt ((!(decide (v278 < 1))) && (decide (0 < (i269 : Int)))) (G0 y280.Phase)) O O ⟨H3 [(181, .dptr ((Task.cs y280).drop 1))] O O O .optt ⟨.all id, trivial⟩ (fun hc => Gf Ga O O O) O, trivial⟩ ?_
      refine Gn (u := .opt ((!(decide (v278 < 1))) && (decide (0 < (i269 : Int)))) (.dptr ((Task.cs y269).drop 1))) O O ⟨H3 [] O O O .optt trivial (fun hc => Gb Jv O O O) O, trivial⟩ ?_
      refine Gn (u := .opt ((!(decide (v278 < 1))) && (decide (0 < (i269 : Int)))) (G0 y269.Phase)) O O ⟨H3 [(183, .dptr ((Task.cs y269).drop 1))] O O O .optt ⟨.all id, trivial⟩ (fun hc => Gf Ga O O O) O, trivial⟩ ?_
      refine Gn (u := .opt ((!(decide (v278 < 1))) && (decide (0 < (i269 : Int)))) (BL (decide (y269.Phase < y280.Phase)))) O O ⟨H3 [(182, G0 y280.Phase), (184, G0 y269.Phase)] O O O .optt ⟨.all id, .all id, trivial⟩ (fun hc => A_gtr O O O) O, trivial⟩ ?_
      refine Gn (u := .opt ((!(decide (v278 < 1))) && (decide (0 < (i269 : Int)))) (BL (decide (y269.Phase < y280.Phase)))) O O ⟨H3 [(185, BL (decide (y269.Phase < y280.Phase)))] O O O .optt ⟨.all id, trivial⟩ (fun hc => G7 O O) O, trivial⟩ ?_
      refine Gn (u := .opt (((!(decide (v278 < 1))) && (decide (0 < (i269 : Int)))) && !(decide (y269.Phase < y280.Phase))) (LS 4 Task.av r228.1)) O O ⟨H3 [] O O O .optf trivial (fun hc => G7 O O) O, trivial⟩ ?_
      refine Gn (u := .opt (((!(decide (v278 < 1))) && (decide (0 < (i269 : Int)))) && !(decide (y269.Phase < y280.Phase))) (G0 (i269 : Int))) O O ⟨H3 [] O O O .optf trivial (fun hc => G7 O O) O, trivial⟩ ?_
      refine Gn (u := .opt (((!(decide (v278 < 1))) && (decide (0 < (i269 : Int)))) && !(decide (y269.Phase < y280.Phase))) (G0 v281)) O O ⟨H3 [(188, G0 (i269 : Int))] O O O .optf ⟨.all id, trivial⟩ (fun hc => Jx (chk_some (bif_t hc hv281)) O O O) O, trivial⟩ ?_
      refine Gn (u := .opt (((!(decide (v278 < 1))) && (decide (0 < (i269 : Int)))) && !(decide (y269.Phase < y280.Phase))) (.dptr (Task.cs y282))) O O ⟨H3 [(187, LS 4 Task.av r228.1), (189, G0 v281)] O O O .optf ⟨.all id, .all id, trivial⟩ (fun hc => (match Q2 (bif_t hc hy282) with | ⟨_, hm_, hy_⟩ => Gw (f := Task.av) (xs := r228.1) (y := y282) O O O J0 hy_ hm_)) O, trivial⟩ ?_
      refine Gn (u := .opt (((!(decide (v278 < 1))) && (decide (0 < (i269 : Int)))) && !(decide (y269.Phase < y280.Phase))) (.dptr ((Task.cs y282).drop 1))) O O ⟨H3 [(190, .dptr (Task.cs y282))] O O O .optf ⟨.all id, trivial⟩ (fun hc => Gb Jv O O O) O, trivial⟩ ?_
      refine Gn (u := .opt (((!(decide (v278 < 1))) && (decide (0 < (i269 : Int)))) && !(decide (y269.Phase < y280.Phase))) (G0 y282.Phase)) O O ⟨H3 [(191, .dptr ((Task.cs y282).drop 1))] O O O .optf ⟨.all id, trivial⟩ (fun hc => Gf Ga O O O) O, trivial⟩ ?_
      refine Gn (u := .opt (((!(decide (v278 < 1))) && (decide (0 < (i269 : Int)))) && !(decide (y269.Phase < y280.Phase))) (.dptr ((Task.cs y269).drop 1))) O O ⟨H3 [] O O O .optf trivial (fun hc => Gb Jv O O O) O, trivial⟩ ?_
      refine Gn (u := .opt (((!(decide (v278 < 1))) && (decide (0 < (i269 : Int)))) && !(decide (y269.Phase < y280.Phase))) (G0 y269.Phase)) O O ⟨H3 [(193, .dptr ((Task.cs y269).drop 1))] O O O .optf ⟨.all id, trivial⟩ (fun hc => Gf Ga O O O) O, trivial⟩ ?_
      refine Gn (u := .opt (((!(decide (v278 < 1))) && (decide (0 < (i269 : Int)))) && !(decide (y269.Phase < y280.Phase))) (BL (decide (y282.Phase = y269.Phase)))) O O ⟨H3 [(192, G0 y282.Phase), (194, G0 y269.Phase)] O O O .optf ⟨.all id, .all id, trivial⟩ (fun hc => Hx O O O) O, trivial⟩ ?_
      refine Gn (u := .opt (((!(decide (v278 < 1))) && (decide (0 < (i269 : Int)))) && !(decide (y269.Phase < y280.Phase))) (BL (decide (y282.Phase = y269.Phase)))) O O ⟨H3 [(195, BL (decide (y282.Phase = y269.Phase)))] O O O .optf ⟨.all id, trivial⟩ (fun hc => G7 O O) O, trivial⟩ ?_
      refine Gn (u := .opt ((((!(decide (v278 < 1))) && (decide (0 < (i269 : Int)))) && !(decide (y269.Phase < y280.Phase))) && (decide (y282.Phase = y269.Phase))) (LS 4 Task.av r228.1)) O O ⟨H3 [] O O O .optt trivial (fun hc => G7 O O) O, trivial⟩ ?_
      refine Gn (u := .opt ((((!(decide (v278 < 1))) && (decide (0 < (i269 : Int)))) && !(decide (y269.Phase < y280.Phase))) && (decide (y282.Phase = y269.Phase))) (G0 (i269 : Int))) O O ⟨H3 [] O O O .optt trivial (fun hc => G7 O O) O, trivial⟩ ?_
      refine Gn (u := .opt ((((!(decide (v278 < 1))) && (decide (0 < (i269 : Int)))) && !(decide (y269.Phase < y280.Phase))) && (decide (y282.Phase = y269.Phase))) (G0 v283)) O O ⟨H3 [(198, G0 (i269 : Int))] O O O .optt ⟨.all id, trivial⟩ (fun hc => Jx (chk_some (bif_t hc hv283)) O O O) O, trivial⟩ ?_
      refine Gn (u := .opt ((((!(decide (v278 < 1))) && (decide (0 < (i269 : Int)))) && !(decide (y269.Phase < y280.Phase))) && (decide (y282.Phase = y269.Phase))) (.dptr (Task.cs y284))) O O ⟨H3 [(197, LS 4 Task.av r228.1), (199, G0 v283)] O O O .optt ⟨.all id, .all id, trivial⟩ (fun hc => (match Q2 (bif_t hc hy284) with | ⟨_, hm_, hy_⟩ => Gw (f := Task.av) (xs := r228.1) (y := y284) O O O J0 hy_ hm_)) O, trivial⟩ ?_
      refine Gn (u := .opt ((((!(decide (v278 < 1))) && (decide (0 < (i269 : Int)))) && !(decide (y269.Phase < y280.Phase))) && (decide (y282.Phase = y269.Phase))) (.dptr (Task.cs y284))) O O ⟨H3 [(200, .dptr (Task.cs y284))] O O O .optt ⟨.all id, trivial⟩ (fun hc => Gb tf_field_63_0 O O O) O, trivial⟩ ?_
      refine Gn (u := .opt ((((!(decide (v278 < 1))) && (decide (0 < (i269 : Int)))) && !(decide (y269.Phase < y280.Phase))) && (decide (y282.Phase = y269.Phase))) (G0 y284.Bay)) O O ⟨H3 [(201, .dptr (Task.cs y284))] O O O .optt ⟨.all id, trivial⟩ (fun hc => Gf Ga O O O) O, trivial⟩ ?_
      refine Gn (u := .opt ((((!(decide (v278 < 1))) && (decide (0 < (i269 : Int)))) && !(decide (y269.Phase < y280.Phase))) && (decide (y282.Phase = y269.Phase))) (.dptr (Task.cs y269))) O O ⟨H3 [] O O O .optt trivial (fun hc => Gb tf_field_63_0 O O O) O, trivial⟩ ?_
      refine Gn (u := .opt ((((!(decide (v278 < 1))) && (decide (0 < (i269 : Int)))) && !(decide (y269.Phase < y280.Phase))) && (decide (y282.Phase = y269.Phase))) (G0 y269.Bay)) O O ⟨H3 [(203, .dptr (Task.cs y269))] O O O .optt ⟨.all id, trivial⟩ (fun hc => Gf Ga O O O) O, trivial⟩ ?_
      refine Gn (u := .opt ((((!(decide (v278 < 1))) && (decide (0 < (i269 : Int)))) && !(decide (y269.Phase < y280.Phase))) && (decide (y282.Phase = y269.Phase))) (BL (decide (y269.Bay ≤ y284.Bay)))) O O ⟨H3 [(202, G0 y284.Bay), (204, G0 y269.Bay)] O O O .optt ⟨.all id, .all id, trivial⟩ (fun hc => A_geq O O O) O, trivial⟩ ?_
      refine Gn (u := .opt (((!(decide (v278 < 1))) && (decide (0 < (i269 : Int)))) && !(decide (y269.Phase < y280.Phase))) (BL ((decide (y282.Phase = y269.Phase)) && (decide (y269.Bay ≤ y284.Bay))))) O O ⟨H3 [(196, BL (decide (y282.Phase = y269.Phase))), (205, _)] O O O .optf ⟨.all id, .part, trivial⟩ (fun hc => J2 O O O O) O, trivial⟩ ?_
      refine Gn (u := .opt ((!(decide (v278 < 1))) && (decide (0 < (i269 : Int)))) (BL ((decide (y269.Phase < y280.Phase)) || ((decide (y282.Phase = y269.Phase)) && (decide (y269.Bay ≤ y284.Bay)))))) O O ⟨H3 [(186, BL (decide (y269.Phase < y280.Phase))), (206, _)] O O O .optt ⟨.all id, .part, trivial⟩ (fun hc => Q0 O O O O) O, trivial⟩ ?_
      refine Gn (u := .opt (!(decide (v278 < 1))) (BL ((decide (0 < (i269 : Int))) && ((decide (y269.Phase < y280.Phase)) || ((decide (y282.Phase = y269.Phase)) && (decide (y269.Bay ≤ y284.Bay))))))) O O ⟨H3 [(176, BL (decide (0 < (i269 : Int)))), (207, _)] O O O .scf ⟨.all id, .part, trivial⟩ (fun hc => J2 O O O O) O, trivial⟩ ?_
      refine Gn (u := BL ((decide (v278 < 1)) || ((decide (0 < (i269 : Int))) && ((decide (y269.Phase < y280.Phase)) || ((decide (y282.Phase = y269.Phase)) && (decide (y269.Bay ≤ y284.Bay))))))) O O ⟨Gp (Q0 O O O O) O, trivial⟩ ?_
      refine D_nil ?_
      refine hK277 _ _ ?_
      refine Gh O (fun hb => ?_) (fun hb => ?_)
      ·
       replace h := bif_t hb h
       refine G6 fun K285 hK285 => G2 ?_
       refine JLg (BL false) (G9 O O) ?_
       refine G8 (hK285 _ _ ?_)
       refine Gq ?_
       exact ⟨[BL false], [], trivial, O, ⟨⟨_, O, .conv (.same O)⟩, trivial⟩, O, congrArg (fun r : Bool => (BL r : AV)) (Option.some.inj h)⟩
      ·
       replace h := bif_f hb h
       refine Gj ?_
       refine hK272 _ _ ?_
       refine G2 ?_
       refine JLg (G0 ((i269 + 1 : Nat) : Int)) (Hd (idx_succ hk269 hm153) O O O) ?_
       refine JLg (G0 ((i269 + 1 : Nat) : Int)) (G7 O O) ?_
       refine G8 ?_
       exact e269 _ _ (i269 + 1) (v275, v276) (app1 hn269 h) (by omega) ⟨(by repeat' constructor), trivial, rfl⟩
     ·
      have h := app1 hkx269 (Hb hi269 (Gy hb))
      refine H4 ?_
      refine hK233 _ _ ?_
      refine G6 fun K286 hK286 => G2 ?_
      refine JLg (G0 s269.1) (G7 O O) ?_
      refine JLg (LS 6 Move.av y16) (G7 O O) ?_
      obtain ⟨r287, hr287, h⟩ := Ge h
      refine JLg (G0 r287) (Gr (args := [LS 6 Move.av y16]) O (M_moves_Lifts_w y16 r287 hr287) tf_call_9 ⟨O, O, trivial⟩) ?_
      refine JLg (BL (decide (s269.1 ≠ r287))) (A_neq O O O) ?_
      refine JLg (BL (decide (s269.1 ≠ r287))) (G7 O O) ?_
      refine Gd (u := G0 s269.1) [] O O O .scf trivial (fun hc => G7 O O) ?_
      refine Gd (u := G0 s269.2) [] O O O .scf trivial (fun hc => G7 O O) ?_
      obtain ⟨v288, hv288, h⟩ := Ge h
      refine Gd (u := G0 v288) [(216, G0 s269.1), (217, G0 s269.2)] O O O .scf ⟨.all id, .all id, trivial⟩ (fun hc => Hd (chk_some (bif_t hc hv288)) O O O) ?_
      refine Gd (u := LS 6 Move.av y16) [] O O O .scf trivial (fun hc => G7 O O) ?_
      refine Gd (u := G0 (y16.length : Int)) [(219, LS 6 Move.av y16)] O O O .scf ⟨.all id, trivial⟩ (fun hc => A_lenM (f := Move.av) (xs := y16) Ho O O) ?_
      refine Gd (u := BL (decide (v288 ≠ (y16.length : Int)))) [(218, G0 v288), (220, G0 (y16.length : Int))] O O O .scf ⟨.all id, .all id, trivial⟩ (fun hc => A_neq O O O) ?_
      refine JLg (BL ((decide (s269.1 ≠ r287)) || (decide (v288 ≠ (y16.length : Int))))) (Q0 O O O O) ?_
      refine G8 (hK286 _ _ ?_)
      refine Gh O (fun hb => ?_) (fun hb => ?_)
      ·
       replace h := bif_t hb h
       refine G6 fun K289 hK289 => G2 ?_
       refine JLg (BL false) (G9 O O) ?_
       refine G8 (hK289 _ _ ?_)
       refine Gq ?_
       exact ⟨[BL false], [], trivial, O, ⟨⟨_, O, .conv (.same O)⟩, trivial⟩, O, congrArg (fun r : Bool => (BL r : AV)) (Option.some.inj h)⟩
      ·
       replace h := bif_f hb h
       refine Gj ?_
       refine hK19 _ _ ?_
       refine G2 ?_
       refine JLg (G0 ((i16 + 1 : Nat) : Int)) (Hd (idx_succ hk16 hm52) O O O) ?_
       refine JLg (G0 ((i16 + 1 : Nat) : Int)) (G7 O O) ?_
       refine G8 ?_
       exact e16 _ _ (i16 + 1) () (app1 hn16 h) (by omega) ⟨(by repeat' constructor), trivial, rfl⟩
  ·
   have h := app1 hkx16 (Hb hi16 (Gy hb))
   refine H4 ?_
   refine hK14 _ _ ?_
   refine G6 fun K290 hK290 => G2 ?_
   obtain ⟨r291, hr291, h⟩ := Ge h
   refine JLg (BL r291) (Gr (args := []) O (M_twistlocklaw30_awake_w F r291 hr291) tf_call_10 trivial) ?_
   refine JLg (BL r291) (G9 O O) ?_
   refine G8 (hK290 _ _ ?_)
   refine Gq ?_
   exact ⟨[BL r291], [], trivial, O, ⟨⟨_, O, .conv (.same O)⟩, trivial⟩, O, congrArg (fun r : Bool => (BL r : AV)) (Option.some.inj h)⟩
end
end Go.Proofs.YtmdnkofmmheoaaaGreat
