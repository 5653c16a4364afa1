/-
 Models of functions of the program, and that they return what the models say.
-/
import Derived.Test.YtmdnkofmmheoaaaGreatProg
import Derived.Test.YtmdnkofmmheoaaaGreatSortM
import Derived.Test.YtmdnkofmmheoaaaGreatSortLay
import Derived.Test.YtmdnkofmmheoaaaGreatRel
import Derived.Test.YtmdnkofmmheoaaaGreatLit0
import Derived.Test.YtmdnkofmmheoaaaGreatXA
import Derived.Test.YtmdnkofmmheoaaaGreatSpecA
import Derived.Test.YtmdnkofmmheoaaaGreatSpecI
import Derived.Test.YtmdnkofmmheoaaaGreatXVa
import Derived.Test.YtmdnkofmmheoaaaGreatXVb
import Derived.Test.YtmdnkofmmheoaaaGreatXV
import Derived.Test.YtmdnkofmmheoaaaGreatXMa
import Derived.Test.YtmdnkofmmheoaaaGreatXM
import Derived.Test.YtmdnkofmmheoaaaGreatSpecT
set_option maxRecDepth 100000
set_option linter.unusedVariables false
set_option linter.unusedSimpArgs false
namespace Go.Proofs.YtmdnkofmmheoaaaGreat
open Go.RowKit
noncomputable section

namespace XNF
open XAF
open XVF
open XMF
theorem tq_53 (a b : Move) : eqAt Tryz.prog 4 53 [.int .u8 a.Kind, .int .i64 a.Box, .int .i64 a.Slot.G5, .int .i64 a.Slot.Tier, .int .u8 a.Slot.Half, .int .i64 a.Gc] [.int .u8 b.Kind, .int .i64 b.Box, .int .i64 b.Slot.G5, .int .i64 b.Slot.Tier, .int .u8 b.Slot.Half, .int .i64 b.Gc] = some (decide (a = b)) := by
 refine (show _ = some ((a.Kind == b.Kind) && ((a.Box == b.Box) && (((a.Slot.G5 == b.Slot.G5) && ((a.Slot.Tier == b.Slot.Tier) && ((a.Slot.Half == b.Slot.Half) && true))) && ((a.Gc == b.Gc) && true)))) by kernel_rfl).trans (congrArg some ?_)
 rw [Bool.eq_iff_iff]
 simp only [Bool.and_eq_true, beq_iff_eq, decide_eq_true_eq, Bool.and_true]
 constructor
 ·intro h; obtain ⟨_, _, ⟨_, _, _⟩, _⟩ := a; obtain ⟨_, _, ⟨_, _, _⟩, _⟩ := b; simp_all
 ·intro h; subst h; simp
theorem tq_63 (a b : Task) : eqAt Tryz.prog 4 63 [.int .i64 a.Bay, .int .i64 a.Phase, .int .i64 a.Lifts, .int .i64 a.Covers] [.int .i64 b.Bay, .int .i64 b.Phase, .int .i64 b.Lifts, .int .i64 b.Covers] = some (decide (a = b)) := by
 refine (show _ = some ((a.Bay == b.Bay) && ((a.Phase == b.Phase) && ((a.Lifts == b.Lifts) && ((a.Covers == b.Covers) && true)))) by kernel_rfl).trans (congrArg some ?_)
 rw [Bool.eq_iff_iff]
 simp only [Bool.and_eq_true, beq_iff_eq, decide_eq_true_eq, Bool.and_true]
 constructor
 ·intro h; obtain ⟨_, _, _, _⟩ := a; obtain ⟨_, _, _, _⟩ := b; simp_all
 ·intro h; subst h; simp
theorem tf_aggof_53 : aggOf Tryz.prog 53 = true := by kernel_rfl
theorem tf_aggof_63 : aggOf Tryz.prog 63 = true := by kernel_rfl
theorem tf_call_10 : callB Tryz.prog 10 = true := by kernel_rfl
theorem tf_call_20 : callB Tryz.prog 20 = true := by kernel_rfl
theorem tf_call_21 : callB Tryz.prog 21 = true := by kernel_rfl
theorem tf_call_22 : callB Tryz.prog 22 = true := by kernel_rfl
theorem tf_call_38 : callB Tryz.prog 38 = true := by kernel_rfl
theorem tf_call_5 : callB Tryz.prog 5 = true := by kernel_rfl
theorem tf_call_6 : callB Tryz.prog 6 = true := by kernel_rfl
theorem tf_call_7 : callB Tryz.prog 7 = true := by kernel_rfl
theorem tf_call_8 : callB Tryz.prog 8 = true := by kernel_rfl
theorem tf_call_9 : callB Tryz.prog 9 = true := by kernel_rfl
theorem tf_eqg_53 : Tryz.prog.eqGuardType Tryz.prog.depth 53 = false := by kernel_rfl
theorem tf_eqg_63 : Tryz.prog.eqGuardType Tryz.prog.depth 63 = false := by kernel_rfl
theorem tf_places_35 : placesOf Tryz.prog 35 = some [(0, 1), (1, 1), (2, 4), (6, 1), (7, 1), (8, 1), (9, 4)] := by kernel_rfl
theorem tf_zsize_35 : zsizeB Tryz.prog 35 13 = true := by kernel_rfl
end XNF
open XAF
open XVF
open XMF
open XNF

def M_twistlocklaw07_Example  : Option Ship :=
 some (Ship.mk ([(G5.mk 0 0 false 2 0 0 0 0 [] 0 0 0), (G5.mk 0 1 false 2 0 0 0 0 [] 0 0 0), (G5.mk 0 0 true 3 0 0 0 0 [] 0 0 0), (G5.mk 0 1 true 3 0 0 0 0 [] 0 0 0), (G5.mk 1 1 true 4 0 0 0 0 [] 0 0 0)]) ([(Gc.mk 0 [0, 1])]) (Light.mk 0 0 0 0) [] [] [] (G4.mk 0 0 0 0))
theorem M_twistlocklaw07_Example_w  (r : Ship) (h : M_twistlocklaw07_Example  = some r) : Pure Tryz.prog 20 [] (· = .agg (Ship.cs r)) := by
 unfold M_twistlocklaw07_Example at h
 refine Gx [.cell 0 35] Tryz.func20 O O ?_
 refine G6 fun K1 hK1 => G2 ?_
 refine JLg (.ptr 1065 0) (A_allocZ 1065 [LS 12 G5.av ([] : List G5), LS 2 Gc.av ([] : List Gc), G0 0, G0 0, G0 0, G0 0, LS 5 Row.av ([] : List Row), LS 5 Frame.av ([] : List Frame), LS 6 Tank.av ([] : List Tank), G0 0, G0 0, G0 0, G0 0] [.slice none 0 0, .slice none 0 0, .int .i64 0, .int .i64 0, .int .i64 0, .int .i64 0, .slice none 0 0, .slice none 0 0, .slice none 0 0, .int .i64 0, .int .i64 0, .int .i64 0, .int .i64 0] tf_zero_35 ⟨.inr ⟨_, O, O⟩, .inr ⟨_, O, O⟩, .inl O, .inl O, .inl O, .inl O, .inr ⟨_, O, O⟩, .inr ⟨_, O, O⟩, .inr ⟨_, O, O⟩, .inl O, .inl O, .inl O, .inl O, trivial⟩ O O) ?_
 refine G8 (hK1 _ _ ?_)
 refine G6 fun K2 hK2 => G2 ?_
 refine JLg (.agg [G0 0, G0 0, BL false, G0 2, G0 0, G0 0, G0 0, G0 0, LS 1 G0 ([] : List Int), G0 0, G0 0, G0 0]) (H8 (cs := [G0 0, G0 0, BL false, G0 2, G0 0, G0 0, G0 0, G0 0, LS 1 G0 ([] : List Int), G0 0, G0 0, G0 0]) [(0, 1), (1, 1), (2, 1), (3, 1), (4, 1), (5, 1), (6, 1), (7, 1), (8, 1), (9, 1), (10, 1), (11, 1)] [G0 0, G0 0, BL false, G0 0, G0 0, G0 0, G0 0, G0 0, LS 1 G0 ([] : List Int), G0 0, G0 0, G0 0] [.int .i64 0, .int .i64 0, .bool false, .int .i64 0, .int .i64 0, .int .i64 0, .int .i64 0, .int .i64 0, .slice none 0 0, .int .i64 0, .int .i64 0, .int .i64 0] tf_places_56 tf_zero_56 ⟨.inl O, .inl O, .inl O, .inl O, .inl O, .inl O, .inl O, .inl O, .inr ⟨_, O, O⟩, .inl O, .inl O, .inl O, trivial⟩ O O) ?_
 refine JLg (.agg [G0 0, G0 1, BL false, G0 2, G0 0, G0 0, G0 0, G0 0, LS 1 G0 ([] : List Int), G0 0, G0 0, G0 0]) (H8 (cs := [G0 0, G0 1, BL false, G0 2, G0 0, G0 0, G0 0, G0 0, LS 1 G0 ([] : List Int), G0 0, G0 0, G0 0]) [(0, 1), (1, 1), (2, 1), (3, 1), (4, 1), (5, 1), (6, 1), (7, 1), (8, 1), (9, 1), (10, 1), (11, 1)] [G0 0, G0 0, BL false, G0 0, G0 0, G0 0, G0 0, G0 0, LS 1 G0 ([] : List Int), G0 0, G0 0, G0 0] [.int .i64 0, .int .i64 0, .bool false, .int .i64 0, .int .i64 0, .int .i64 0, .int .i64 0, .int .i64 0, .slice none 0 0, .int .i64 0, .int .i64 0, .int .i64 0] tf_places_56 tf_zero_56 ⟨.inl O, .inl O, .inl O, .inl O, .inl O, .inl O, .inl O, .inl O, .inr ⟨_, O, O⟩, .inl O, .inl O, .inl O, trivial⟩ O O) ?_
 refine JLg (.agg [G0 0, G0 0, BL true, G0 3, G0 0, G0 0, G0 0, G0 0, LS 1 G0 ([] : List Int), G0 0, G0 0, G0 0]) (H8 (cs := [G0 0, G0 0, BL true, G0 3, G0 0, G0 0, G0 0, G0 0, LS 1 G0 ([] : List Int), G0 0, G0 0, G0 0]) [(0, 1), (1, 1), (2, 1), (3, 1), (4, 1), (5, 1), (6, 1), (7, 1), (8, 1), (9, 1), (10, 1), (11, 1)] [G0 0, G0 0, BL false, G0 0, G0 0, G0 0, G0 0, G0 0, LS 1 G0 ([] : List Int), G0 0, G0 0, G0 0] [.int .i64 0, .int .i64 0, .bool false, .int .i64 0, .int .i64 0, .int .i64 0, .int .i64 0, .int .i64 0, .slice none 0 0, .int .i64 0, .int .i64 0, .int .i64 0] tf_places_56 tf_zero_56 ⟨.inl O, .inl O, .inl O, .inl O, .inl O, .inl O, .inl O, .inl O, .inr ⟨_, O, O⟩, .inl O, .inl O, .inl O, trivial⟩ O O) ?_
 refine JLg (.agg [G0 0, G0 1, BL true, G0 3, G0 0, G0 0, G0 0, G0 0, LS 1 G0 ([] : List Int), G0 0, G0 0, G0 0]) (H8 (cs := [G0 0, G0 1, BL true, G0 3, G0 0, G0 0, G0 0, G0 0, LS 1 G0 ([] : List Int), G0 0, G0 0, G0 0]) [(0, 1), (1, 1), (2, 1), (3, 1), (4, 1), (5, 1), (6, 1), (7, 1), (8, 1), (9, 1), (10, 1), (11, 1)] [G0 0, G0 0, BL false, G0 0, G0 0, G0 0, G0 0, G0 0, LS 1 G0 ([] : List Int), G0 0, G0 0, G0 0] [.int .i64 0, .int .i64 0, .bool false, .int .i64 0, .int .i64 0, .int .i64 0, .int .i64 0, .int .i64 0, .slice none 0 0, .int .i64 0, .int .i64 0, .int .i64 0] tf_places_56 tf_zero_56 ⟨.inl O, .inl O, .inl O, .inl O, .inl O, .inl O, .inl O, .inl O, .inr ⟨_, O, O⟩, .inl O, .inl O, .inl O, trivial⟩ O O) ?_
 refine JLg (.agg [G0 1, G0 1, BL true, G0 4, G0 0, G0 0, G0 0, G0 0, LS 1 G0 ([] : List Int), G0 0, G0 0, G0 0]) (H8 (cs := [G0 1, G0 1, BL true, G0 4, G0 0, G0 0, G0 0, G0 0, LS 1 G0 ([] : List Int), G0 0, G0 0, G0 0]) [(0, 1), (1, 1), (2, 1), (3, 1), (4, 1), (5, 1), (6, 1), (7, 1), (8, 1), (9, 1), (10, 1), (11, 1)] [G0 0, G0 0, BL false, G0 0, G0 0, G0 0, G0 0, G0 0, LS 1 G0 ([] : List Int), G0 0, G0 0, G0 0] [.int .i64 0, .int .i64 0, .bool false, .int .i64 0, .int .i64 0, .int .i64 0, .int .i64 0, .int .i64 0, .slice none 0 0, .int .i64 0, .int .i64 0, .int .i64 0] tf_places_56 tf_zero_56 ⟨.inl O, .inl O, .inl O, .inl O, .inl O, .inl O, .inl O, .inl O, .inr ⟨_, O, O⟩, .inl O, .inl O, .inl O, trivial⟩ O O) ?_
 refine JLg (LS 12 G5.av ([(G5.mk 0 0 false 2 0 0 0 0 [] 0 0 0), (G5.mk 0 1 false 2 0 0 0 0 [] 0 0 0), (G5.mk 0 0 true 3 0 0 0 0 [] 0 0 0), (G5.mk 0 1 true 3 0 0 0 0 [] 0 0 0), (G5.mk 1 1 true 4 0 0 0 0 [] 0 0 0)])) (Gu (xs := [.agg [G0 0, G0 0, BL false, G0 2, G0 0, G0 0, G0 0, G0 0, LS 1 G0 ([] : List Int), G0 0, G0 0, G0 0], .agg [G0 0, G0 1, BL false, G0 2, G0 0, G0 0, G0 0, G0 0, LS 1 G0 ([] : List Int), G0 0, G0 0, G0 0], .agg [G0 0, G0 0, BL true, G0 3, G0 0, G0 0, G0 0, G0 0, LS 1 G0 ([] : List Int), G0 0, G0 0, G0 0], .agg [G0 0, G0 1, BL true, G0 3, G0 0, G0 0, G0 0, G0 0, LS 1 G0 ([] : List Int), G0 0, G0 0, G0 0], .agg [G0 1, G0 1, BL true, G0 4, G0 0, G0 0, G0 0, G0 0, LS 1 G0 ([] : List Int), G0 0, G0 0, G0 0]]) O ⟨O, O, O, O, O, O, O, O, O, O, trivial⟩ Hf Q4 O O O O) ?_
 refine JLg (LS 1 G0 [0, 1]) (Gu (xs := [G0 0, G0 1]) O ⟨O, O, O, O, trivial⟩ H0 Jr O O O O) ?_
 refine JLg (.agg [G0 0, LS 1 G0 [0, 1]]) (H8 (cs := [G0 0, LS 1 G0 [0, 1]]) [(0, 1), (1, 1)] [G0 0, LS 1 G0 ([] : List Int)] [.int .i64 0, .slice none 0 0] tf_places_58 tf_zero_58 ⟨.inl O, .inr ⟨_, O, O⟩, trivial⟩ O O) ?_
 refine JLg (LS 2 Gc.av ([(Gc.mk 0 [0, 1])])) (Gu (xs := [.agg [G0 0, LS 1 G0 [0, 1]]]) O ⟨O, O, trivial⟩ J8 tf_zsize_58 O O O O) ?_
 refine JLg (.agg [LS 12 G5.av ([(G5.mk 0 0 false 2 0 0 0 0 [] 0 0 0), (G5.mk 0 1 false 2 0 0 0 0 [] 0 0 0), (G5.mk 0 0 true 3 0 0 0 0 [] 0 0 0), (G5.mk 0 1 true 3 0 0 0 0 [] 0 0 0), (G5.mk 1 1 true 4 0 0 0 0 [] 0 0 0)]), LS 2 Gc.av ([(Gc.mk 0 [0, 1])]), G0 0, G0 0, G0 0, G0 0, LS 5 Row.av ([] : List Row), LS 5 Frame.av ([] : List Frame), LS 6 Tank.av ([] : List Tank), G0 0, G0 0, G0 0, G0 0]) (H8 (cs := [LS 12 G5.av ([(G5.mk 0 0 false 2 0 0 0 0 [] 0 0 0), (G5.mk 0 1 false 2 0 0 0 0 [] 0 0 0), (G5.mk 0 0 true 3 0 0 0 0 [] 0 0 0), (G5.mk 0 1 true 3 0 0 0 0 [] 0 0 0), (G5.mk 1 1 true 4 0 0 0 0 [] 0 0 0)]), LS 2 Gc.av ([(Gc.mk 0 [0, 1])]), G0 0, G0 0, G0 0, G0 0, LS 5 Row.av ([] : List Row), LS 5 Frame.av ([] : List Frame), LS 6 Tank.av ([] : List Tank), G0 0, G0 0, G0 0, G0 0]) [(0, 1), (1, 1), (2, 4), (6, 1), (7, 1), (8, 1), (9, 4)] [LS 12 G5.av ([] : List G5), LS 2 Gc.av ([] : List Gc), G0 0, G0 0, G0 0, G0 0, LS 5 Row.av ([] : List Row), LS 5 Frame.av ([] : List Frame), LS 6 Tank.av ([] : List Tank), G0 0, G0 0, G0 0, G0 0] [.slice none 0 0, .slice none 0 0, .int .i64 0, .int .i64 0, .int .i64 0, .int .i64 0, .slice none 0 0, .slice none 0 0, .slice none 0 0, .int .i64 0, .int .i64 0, .int .i64 0, .int .i64 0] tf_places_35 tf_zero_35 ⟨.inr ⟨_, O, O⟩, .inr ⟨_, O, O⟩, .inl O, .inl O, .inl O, .inl O, .inr ⟨_, O, O⟩, .inr ⟨_, O, O⟩, .inr ⟨_, O, O⟩, .inl O, .inl O, .inl O, .inl O, trivial⟩ O O) ?_
 refine H1 (u := .junk) (Gt (u := .agg [LS 12 G5.av ([(G5.mk 0 0 false 2 0 0 0 0 [] 0 0 0), (G5.mk 0 1 false 2 0 0 0 0 [] 0 0 0), (G5.mk 0 0 true 3 0 0 0 0 [] 0 0 0), (G5.mk 0 1 true 3 0 0 0 0 [] 0 0 0), (G5.mk 1 1 true 4 0 0 0 0 [] 0 0 0)]), LS 2 Gc.av ([(Gc.mk 0 [0, 1])]), G0 0, G0 0, G0 0, G0 0, LS 5 Row.av ([] : List Row), LS 5 Frame.av ([] : List Frame), LS 6 Tank.av ([] : List Tank), G0 0, G0 0, G0 0, G0 0]) (ds := [LS 12 G5.av ([(G5.mk 0 0 false 2 0 0 0 0 [] 0 0 0), (G5.mk 0 1 false 2 0 0 0 0 [] 0 0 0), (G5.mk 0 0 true 3 0 0 0 0 [] 0 0 0), (G5.mk 0 1 true 3 0 0 0 0 [] 0 0 0), (G5.mk 1 1 true 4 0 0 0 0 [] 0 0 0)]), LS 2 Gc.av ([(Gc.mk 0 [0, 1])]), G0 0, G0 0, G0 0, G0 0, LS 5 Row.av ([] : List Row), LS 5 Frame.av ([] : List Frame), LS 6 Tank.av ([] : List Tank), G0 0, G0 0, G0 0, G0 0]) tf_size_35 O O O O O O O O) ?_
 refine G8 (hK2 _ _ ?_)
 refine Gq ?_
 exact ⟨[.agg [LS 12 G5.av ([(G5.mk 0 0 false 2 0 0 0 0 [] 0 0 0), (G5.mk 0 1 false 2 0 0 0 0 [] 0 0 0), (G5.mk 0 0 true 3 0 0 0 0 [] 0 0 0), (G5.mk 0 1 true 3 0 0 0 0 [] 0 0 0), (G5.mk 1 1 true 4 0 0 0 0 [] 0 0 0)]), LS 2 Gc.av ([(Gc.mk 0 [0, 1])]), G0 0, G0 0, G0 0, G0 0, LS 5 Row.av ([] : List Row), LS 5 Frame.av ([] : List Frame), LS 6 Tank.av ([] : List Tank), G0 0, G0 0, G0 0, G0 0]], [], trivial, O, ⟨⟨_, ⟨_, _, _, _, O, O, O, .inl ⟨H5, O⟩⟩, .conv (.same O)⟩, trivial⟩, O, congrArg (fun r : Ship => (.agg (Ship.cs r) : AV)) (Option.some.inj h)⟩

def M_twistlocklaw30_at (box : Int) (column : Int) (tier : Int) : Option G3 :=
 some (G3.mk box (Slot.mk column tier 0))
theorem M_twistlocklaw30_at_w (box : Int) (column : Int) (tier : Int) (r : G3) (h : M_twistlocklaw30_at box column tier = some r) : Pure Tryz.prog 21 [G0 box, G0 column, G0 tier] (· = .agg (G3.cs r)) := by
 unfold M_twistlocklaw30_at at h
 refine Gx [.cell 6 68] Tryz.func21 O O ?_
 refine G6 fun K1 hK1 => G2 ?_
 refine JLg (.ptr 1066 0) (A_allocZ 1066 [G0 0, G0 0, G0 0, U8 0] [.int .i64 0, .int .i64 0, .int .i64 0, .int .u8 0] tf_zero_68 ⟨.inl O, .inl O, .inl O, .inl O, trivial⟩ O O) ?_
 refine G8 (hK1 _ _ ?_)
 refine G6 fun K2 hK2 => G2 ?_
 refine JLg (G0 box) (G7 O O) ?_
 refine JLg (G0 column) (G7 O O) ?_
 refine JLg (G0 tier) (G7 O O) ?_
 refine JLg (.agg [G0 column, G0 tier, U8 0]) (H8 (cs := [G0 column, G0 tier, U8 0]) [(0, 1), (1, 1), (2, 1)] [G0 0, G0 0, U8 0] [.int .i64 0, .int .i64 0, .int .u8 0] tf_places_51 tf_zero_51 ⟨.inl O, .inl O, .inl O, trivial⟩ O O) ?_
 refine JLg (.agg [G0 box, G0 column, G0 tier, U8 0]) (H8 (cs := [G0 box, G0 column, G0 tier, U8 0]) [(0, 1), (1, 3)] [G0 0, G0 0, G0 0, U8 0] [.int .i64 0, .int .i64 0, .int .i64 0, .int .u8 0] tf_places_68 tf_zero_68 ⟨.inl O, .inl O, .inl O, .inl O, trivial⟩ O O) ?_
 refine H1 (u := .junk) (Gt (u := .agg [G0 box, G0 column, G0 tier, U8 0]) (ds := [G0 box, G0 column, G0 tier, U8 0]) J3 O O O O O O O O) ?_
 refine G8 (hK2 _ _ ?_)
 refine Gq ?_
 exact ⟨[.agg [G0 box, G0 column, G0 tier, U8 0]], [], trivial, O, ⟨⟨_, ⟨_, _, _, _, O, O, O, .inl ⟨Hp, O⟩⟩, .conv (.same O)⟩, trivial⟩, O, congrArg (fun r : G3 => (.agg (G3.cs r) : AV)) (Option.some.inj h)⟩

def M_twistlockkit_SameMoves (a : List Move) (b : List Move) : Option Bool :=
 bif decide ((a.length : Int) ≠ (b.length : Int)) then
 (some false)
 else
 (each (fun y24 i24 (s24 : Unit) nx24 =>
   gidx b (i24 : Int) fun y29 =>
   bif (!decide (y24 = y29)) then
   (some false)
   else
   (nx24 ()))
  (fun (s24 : Unit) =>
   some true) a 0 ())
theorem M_twistlockkit_SameMoves_w (a : List Move) (b : List Move) (r : Bool) (h : M_twistlockkit_SameMoves a b = some r) : Pure Tryz.prog 38 [LS 6 Move.av a, LS 6 Move.av b] (· = BL r) := by
 unfold M_twistlockkit_SameMoves at h
 refine Gx [.tmp 4] Tryz.func38 O O ?_
 refine G6 fun K1 hK1 => G2 ?_
 refine JLg (BL false) (G9 O O) ?_
 refine G8 (hK1 _ _ ?_)
 refine G6 (fun K2 hK2 => ?_)
 refine G6 fun K3 hK3 => G2 ?_
 refine JLg (LS 6 Move.av a) (G7 O O) ?_
 refine H9 (f := Move.av) (xs := a) Ho O O (fun hm7 => ?_) O O O
 refine JLg (LS 6 Move.av b) (G7 O O) ?_
 refine H9 (f := Move.av) (xs := b) Ho O O (fun hm9 => ?_) O O O
 refine JLg (BL (decide ((a.length : Int) ≠ (b.length : Int)))) (A_neq O O O) ?_
 refine G8 (hK3 _ _ ?_)
 refine Gh O (fun hb => ?_) (fun hb => ?_)
 ·
  replace h := bif_t hb h
  refine G6 fun K4 hK4 => G2 ?_
  refine JLg (BL false) (G9 O O) ?_
  refine G8 (hK4 _ _ ?_)
  refine Gq ?_
  exact ⟨[BL false], [], trivial, O, ⟨⟨_, O, .conv (.same O)⟩, trivial⟩, O, congrArg (fun r : Bool => (BL r : AV)) (Option.some.inj h)⟩
 ·
  replace h := bif_f hb h
  refine Gj ?_
  refine hK2 _ _ ?_
  refine G6 (fun K5 hK5 => ?_)
  refine G6 fun K6 hK6 => G2 ?_
  refine JLg (G0 0) (G9 O O) ?_
  refine G8 (hK6 _ _ ?_)
  refine Gi ?_
  obtain ⟨b24, kx24, hb24, hkx24, h⟩ := Hi h
  refine Gz (fun i24 (s24 : Unit) => each b24 kx24 (List.drop i24 a) i24 s24 = some r) (fun i24 s24 => [(0, LS 6 Move.av a), (1, LS 6 Move.av b), (5, G0 (i24 : Int))]) (fun i24 s24 => []) (fun i24 => a.length - i24) 0 () h ⟨⟨.same O, .same O, .same O, trivial⟩, trivial, O⟩ ?_
  clear h
  intro i24 s24 hi24 K24 e24
  refine G6 (fun K25 hK25 => ?_)
  refine G6 fun K26 hK26 => G2 ?_
  refine JLg (G0 (i24 : Int)) (G7 O O) ?_
  refine JLg (LS 6 Move.av a) (G7 O O) ?_
  refine H9 (f := Move.av) (xs := a) Ho O O (fun hm13 => ?_) O O O
  refine JLg (BL (decide ((i24 : Int) < (a.length : Int)))) (He O O O) ?_
  refine G8 (hK26 _ _ ?_)
  refine Gh O (fun hb => ?_) (fun hb => ?_)
  ·
   have hk24 := lt_len hb
   obtain ⟨y24, nx24, hy24, hn24, h⟩ := Ha hi24 hk24
   replace h := app4 hb24 h
   refine Gj ?_
   refine hK25 _ _ ?_
   refine G6 (fun K27 hK27 => ?_)
   refine Gi ?_
   refine G6 (fun K28 hK28 => ?_)
   obtain ⟨m30, y29, hm30, hy29, h⟩ := Jq h
   refine Jc [] [0, 0, 0, 0, 0, 0, 0, 0, 0] [0, 0, 0, 0, 0, 0, 0, 0, 0] [[]] J5 (by kernel_rfl) rfl rfl ?_
   refine Gn (u := LS 6 Move.av a) O O ⟨Gp (G7 O O) O, trivial⟩ ?_
   refine Gn (u := G0 (i24 : Int)) O O ⟨Gp (G7 O O) O, trivial⟩ ?_
   refine Gn (u := .dptr (Move.cs y24)) O O ⟨Gp (Gw (f := Move.av) (xs := a) (y := y24) O O O Ho hy24 O) O, trivial⟩ ?_
   refine Gn (u := .agg (Move.cs y24)) O O ⟨Gp (Gg tf_agg_53 O O O) O, trivial⟩ ?_
   refine Gn (u := LS 6 Move.av b) O O ⟨Gp (G7 O O) O, trivial⟩ ?_
   refine Gn (u := G0 (i24 : Int)) O O ⟨Gp (G7 O O) O, trivial⟩ ?_
   refine Gn (u := .dptr (Move.cs y29)) O O ⟨Gp (Gw (f := Move.av) (xs := b) (y := y29) O O O Ho hy29 hm30) O, trivial⟩ ?_
   refine Gn (u := .agg (Move.cs y29)) O O ⟨Gp (Gg tf_agg_53 O O O) O, trivial⟩ ?_
   refine Gn (u := BL (!decide (y24 = y29))) O O ⟨Gp (A_neAgg (vs := [.int .u8 y24.Kind, .int .i64 y24.Box, .int .i64 y24.Slot.G5, .int .i64 y24.Slot.Tier, .int .u8 y24.Slot.Half, .int .i64 y24.Gc]) (us := [.int .u8 y29.Kind, .int .i64 y29.Box, .int .i64 y29.Slot.G5, .int .i64 y29.Slot.Tier, .int .u8 y29.Slot.Half, .int .i64 y29.Gc]) 4 O (tq_53 y24 y29) tf_aggof_53 tf_eqg_53 O O O) O, trivial⟩ ?_
   refine D_nil ?_
   refine hK28 _ _ ?_
   refine Gh O (fun hb => ?_) (fun hb => ?_)
   ·
    replace h := bif_t hb h
    refine G6 fun K31 hK31 => G2 ?_
    refine JLg (BL false) (G9 O O) ?_
    refine G8 (hK31 _ _ ?_)
    refine Gq ?_
    exact ⟨[BL false], [], trivial, O, ⟨⟨_, O, .conv (.same O)⟩, trivial⟩, O, congrArg (fun r : Bool => (BL r : AV)) (Option.some.inj h)⟩
   ·
    replace h := bif_f hb h
    refine Gj ?_
    refine hK27 _ _ ?_
    refine G2 ?_
    refine JLg (G0 (i24 : Int)) (G7 O O) ?_
    refine JLg (G0 ((i24 + 1 : Nat) : Int)) (Hd (idx_succ hk24 hm13) O O O) ?_
    refine JLg (G0 ((i24 + 1 : Nat) : Int)) (G9 O O) ?_
    refine G8 ?_
    exact e24 _ _ (i24 + 1) () (app1 hn24 h) (by omega) ⟨⟨.same rfl, .same rfl, .same rfl, trivial⟩, trivial, rfl⟩
  ·
   have h := app1 hkx24 (Hb hi24 (Gy hb))
   refine H4 ?_
   refine hK5 _ _ ?_
   refine G6 fun K32 hK32 => G2 ?_
   refine JLg (BL true) (G9 O O) ?_
   refine G8 (hK32 _ _ ?_)
   refine Gq ?_
   exact ⟨[BL true], [], trivial, O, ⟨⟨_, O, .conv (.same O)⟩, trivial⟩, O, congrArg (fun r : Bool => (BL r : AV)) (Option.some.inj h)⟩

def M_twistlocklaw30_is (a : List Move) (b : List Move) : Option Bool :=
 bnd (M_twistlockkit_SameMoves a b) fun r3 =>
 some r3
theorem M_twistlocklaw30_is_w (a : List Move) (b : List Move) (r : Bool) (h : M_twistlocklaw30_is a b = some r) : Pure Tryz.prog 22 [LS 6 Move.av a, LS 6 Move.av b] (· = BL r) := by
 unfold M_twistlocklaw30_is at h
 refine Gx [.tmp 4] Tryz.func22 O O ?_
 refine G6 fun K1 hK1 => G2 ?_
 refine JLg (BL false) (G9 O O) ?_
 refine G8 (hK1 _ _ ?_)
 refine G6 fun K2 hK2 => G2 ?_
 refine JLg (LS 6 Move.av a) (G7 O O) ?_
 refine JLg (LS 6 Move.av b) (G7 O O) ?_
 obtain ⟨r3, hr3, h⟩ := Ge h
 refine JLg (BL r3) (Gr (args := [LS 6 Move.av a, LS 6 Move.av b]) O (M_twistlockkit_SameMoves_w a b r3 hr3) tf_call_38 ⟨O, O, O, O, trivial⟩) ?_
 refine JLg (BL r3) (G9 O O) ?_
 refine G8 (hK2 _ _ ?_)
 refine Gq ?_
 exact ⟨[BL r3], [], trivial, O, ⟨⟨_, O, .conv (.same O)⟩, trivial⟩, O, congrArg (fun r : Bool => (BL r : AV)) (Option.some.inj h)⟩

def M_twistlocklaw30_awake (F : Nat)  : Option Bool :=
 bnd (M_twistlocklaw07_Example) fun r3 =>
 bnd (M_twistlocklaw30_at 1 0 0) fun r6 =>
 bnd (M_twistlocklaw30_at 2 3 0) fun r7 =>
 bnd (M_moves_Call F r3 [(Box.mk 1 ByteArray.empty 40 false 0 0 0 0 false), (Box.mk 2 ByteArray.empty 40 false 0 0 0 0 false)] [r6, r7] [r7]) fun r9 =>
 bnd (S_moves_Tasks F r3 r9.1) fun r11 =>
 chk (r9.2 + r11.2) fun v13 =>
 bnd (bif decide (v13 = 0) then M_twistlocklaw30_is r9.1 [(Move.mk 2 2 r7.Slot 0), (Move.mk 1 0 (Slot.mk 0 0 0) 0), (Move.mk 2 1 r6.Slot 0), (Move.mk 4 0 (Slot.mk 0 0 0) 0), (Move.mk 3 2 r7.Slot 0)] else some default) fun r14 =>
 bnd (bif ((decide (v13 = 0)) && r14) then M_moves_Lifts r9.1 else some default) fun r15 =>
 bnd (bif ((((decide (v13 = 0)) && r14) && (decide (r15 = 3))) && (decide ((r11.1.length : Int) = 2))) then gidx r11.1 0 some else some default) fun y16 =>
 bnd (bif (((((decide (v13 = 0)) && r14) && (decide (r15 = 3))) && (decide ((r11.1.length : Int) = 2))) && (decide (y16 = (Task.mk 0 1 2 1)))) then gidx r11.1 1 some else some default) fun y17 =>
 some ((((((decide (v13 = 0)) && r14) && (decide (r15 = 3))) && (decide ((r11.1.length : Int) = 2))) && (decide (y16 = (Task.mk 0 1 2 1)))) && (decide (y17 = (Task.mk 0 2 1 1))))
theorem M_twistlocklaw30_awake_w (F : Nat)  (r : Bool) (h : M_twistlocklaw30_awake F  = some r) : Pure Tryz.prog 10 [] (· = BL r) := by
 unfold M_twistlocklaw30_awake at h
 refine Gx [.tmp 0] Tryz.func10 O O ?_
 refine G6 fun K1 hK1 => G2 ?_
 refine JLg (BL false) (G9 O O) ?_
 refine G8 (hK1 _ _ ?_)
 refine G6 fun K2 hK2 => G2 ?_
 obtain ⟨r3, hr3, h⟩ := Ge h
 refine JLg (.agg (Ship.cs r3)) (Gr (args := []) O (M_twistlocklaw07_Example_w  r3 hr3) tf_call_20 trivial) ?_
 refine JLg (.ptr 1036 0) (H2 1036 13 tf_zsize_35 O O) ?_
 refine H1 (u := .junk) (Gt (u := .agg (Ship.cs r3)) (ds := (Ship.cs r3)) tf_size_35 O O O O O O O O) ?_
 refine G8 (hK2 _ _ ?_)
 refine Gm [(1, .dptr (Ship.cs r3))] [] 1036 rfl rfl rfl trivial rfl (by exact ⟨.ptr, trivial⟩) ?_
 refine G6 fun K4 hK4 => G2 ?_
 refine JLg (.agg [G0 1, ST ByteArray.empty, U8 40, BL false, G0 0, G0 0, G0 0, U8 0, BL false]) (H8 (cs := [G0 1, ST ByteArray.empty, U8 40, BL false, G0 0, G0 0, G0 0, U8 0, BL false]) [(0, 1), (1, 1), (2, 1), (3, 1), (4, 1), (5, 1), (6, 1), (7, 1), (8, 1)] [G0 0, ST ByteArray.empty, U8 0, BL false, G0 0, G0 0, G0 0, U8 0, BL false] [.int .i64 0, .string ByteArray.empty, .int .u8 0, .bool false, .int .i64 0, .int .i64 0, .int .i64 0, .int .u8 0, .bool false] tf_places_81 tf_zero_81 ⟨.inl O, .inl O, .inl O, .inl O, .inl O, .inl O, .inl O, .inl O, .inl O, trivial⟩ O O) ?_
 refine JLg (.agg [G0 2, ST ByteArray.empty, U8 40, BL false, G0 0, G0 0, G0 0, U8 0, BL false]) (H8 (cs := [G0 2, ST ByteArray.empty, U8 40, BL false, G0 0, G0 0, G0 0, U8 0, BL false]) [(0, 1), (1, 1), (2, 1), (3, 1), (4, 1), (5, 1), (6, 1), (7, 1), (8, 1)] [G0 0, ST ByteArray.empty, U8 0, BL false, G0 0, G0 0, G0 0, U8 0, BL false] [.int .i64 0, .string ByteArray.empty, .int .u8 0, .bool false, .int .i64 0, .int .i64 0, .int .i64 0, .int .u8 0, .bool false] tf_places_81 tf_zero_81 ⟨.inl O, .inl O, .inl O, .inl O, .inl O, .inl O, .inl O, .inl O, .inl O, trivial⟩ O O) ?_
 refine JLg (LS 9 Box.av [(Box.mk 1 ByteArray.empty 40 false 0 0 0 0 false), (Box.mk 2 ByteArray.empty 40 false 0 0 0 0 false)]) (Gu (xs := [.agg [G0 1, ST ByteArray.empty, U8 40, BL false, G0 0, G0 0, G0 0, U8 0, BL false], .agg [G0 2, ST ByteArray.empty, U8 40, BL false, G0 0, G0 0, G0 0, U8 0, BL false]]) O ⟨O, O, O, O, trivial⟩ Hv Jo O O O O) ?_
 refine JLg (LS 9 Box.av [(Box.mk 1 ByteArray.empty 40 false 0 0 0 0 false), (Box.mk 2 ByteArray.empty 40 false 0 0 0 0 false)]) (G9 O O) ?_
 refine G8 (hK4 _ _ ?_)
 refine G6 fun K5 hK5 => G2 ?_
 obtain ⟨r6, hr6, h⟩ := Ge h
 refine JLg (.agg (G3.cs r6)) (Gr (args := [G0 1, G0 0, G0 0]) O (M_twistlocklaw30_at_w 1 0 0 r6 hr6) tf_call_21 ⟨O, O, O, O, O, O, trivial⟩) ?_
 obtain ⟨r7, hr7, h⟩ := Ge h
 refine JLg (.agg (G3.cs r7)) (Gr (args := [G0 2, G0 3, G0 0]) O (M_twistlocklaw30_at_w 2 3 0 r7 hr7) tf_call_21 ⟨O, O, O, O, O, O, trivial⟩) ?_
 refine JLg (.ptr 1037 0) (H2 1037 4 Hk O O) ?_
 refine JLg (.ptr 1038 0) (H2 1038 4 Hk O O) ?_
 refine H1 (u := .junk) (Gt (u := .agg (G3.cs r6)) (ds := [G0 r6.Box, G0 r6.Slot.G5, G0 r6.Slot.Tier, U8 r6.Slot.Half]) J3 O O O O O O O O) ?_
 refine H1 (u := .junk) (Gt (u := .agg (G3.cs r7)) (ds := [G0 r7.Box, G0 r7.Slot.G5, G0 r7.Slot.Tier, U8 r7.Slot.Half]) J3 O O O O O O O O) ?_
 refine G8 (hK5 _ _ ?_)
 refine Gm [(1, .dptr (Ship.cs r3)), (2, LS 9 Box.av [(Box.mk 1 ByteArray.empty 40 false 0 0 0 0 false), (Box.mk 2 ByteArray.empty 40 false 0 0 0 0 false)]), (3, .dptr (G3.cs r6)), (4, .ptr 1038 0)] [(1038, .box 68 [G0 r7.Box, G0 r7.Slot.G5, G0 r7.Slot.Tier, U8 r7.Slot.Half])] 1037 rfl rfl rfl ⟨⟨_, rfl, .boxEq rfl rfl⟩, trivial⟩ rfl (by repeat' (first | exact .ptr | constructor)) ?_
 refine Gm [(1, .dptr (Ship.cs r3)), (2, LS 9 Box.av [(Box.mk 1 ByteArray.empty 40 false 0 0 0 0 false), (Box.mk 2 ByteArray.empty 40 false 0 0 0 0 false)]), (3, .dptr (G3.cs r6)), (4, .dptr (G3.cs r7))] [] 1038 rfl rfl rfl trivial rfl (by repeat' (first | exact .ptr | constructor)) ?_
 refine G6 fun K8 hK8 => G2 ?_
 refine JLg (.agg (Ship.cs r3)) (Gg H5 O O O) ?_
 refine JLg (LS 9 Box.av [(Box.mk 1 ByteArray.empty 40 false 0 0 0 0 false), (Box.mk 2 ByteArray.empty 40 false 0 0 0 0 false)]) (G7 O O) ?_
 refine JLg (.agg (G3.cs r6)) (Gg Hp O O O) ?_
 refine JLg (.agg (G3.cs r7)) (Gg Hp O O O) ?_
 refine JLg (LS 4 G3.av [r6, r7]) (Gu (xs := [.agg (G3.cs r6), .agg (G3.cs r7)]) O ⟨O, O, O, O, trivial⟩ Gs Hk O O O O) ?_
 refine JLg (.agg (G3.cs r7)) (Gg Hp O O O) ?_
 refine JLg (LS 4 G3.av [r7]) (Gu (xs := [.agg (G3.cs r7)]) O ⟨O, O, trivial⟩ Gs Hk O O O O) ?_
 obtain ⟨r9, hr9, h⟩ := Ge h
 refine JLg (.tup [LS 6 Move.av r9.1, G0 r9.2]) (Gr (args := [.agg (Ship.cs r3), LS 9 Box.av [(Box.mk 1 ByteArray.empty 40 false 0 0 0 0 false), (Box.mk 2 ByteArray.empty 40 false 0 0 0 0 false)], LS 4 G3.av [r6, r7], LS 4 G3.av [r7]]) O (M_moves_Call_w F r3 [(Box.mk 1 ByteArray.empty 40 false 0 0 0 0 false), (Box.mk 2 ByteArray.empty 40 false 0 0 0 0 false)] [r6, r7] [r7] r9 hr9) tf_call_11 ⟨O, O, O, O, O, O, O, O, trivial⟩) ?_
 refine JLg (.tup [LS 6 Move.av r9.1, G0 r9.2]) (G7 O O) ?_
 refine JLg (LS 6 Move.av r9.1) (Gv O O O) ?_
 refine JLg (G0 r9.2) (Gv O O O) ?_
 refine JLg (LS 6 Move.av r9.1) (G9 O O) ?_
 refine JLg (G0 r9.2) (G9 O O) ?_
 refine G8 (hK8 _ _ ?_)
 refine G6 fun K10 hK10 => G2 ?_
 refine JLg (.agg (Ship.cs r3)) (Gg H5 O O O) ?_
 refine JLg (LS 6 Move.av r9.1) (G7 O O) ?_
 obtain ⟨r11, hr11, h⟩ := Ge h
 refine JLg (.tup [LS 4 Task.av r11.1, G0 r11.2]) (Gr (args := [.agg (Ship.cs r3), LS 6 Move.av r9.1]) O (S_moves_Tasks_w.down F r3 r9.1 r11 hr11) tf_call_8 ⟨O, O, O, O, trivial⟩) ?_
 refine JLg (.tup [LS 4 Task.av r11.1, G0 r11.2]) (G7 O O) ?_
 refine JLg (LS 4 Task.av r11.1) (Gv O O O) ?_
 refine JLg (G0 r11.2) (Gv O O O) ?_
 refine JLg (LS 4 Task.av r11.1) (G9 O O) ?_
 refine JLg (G0 r11.2) (G9 O O) ?_
 refine G8 (hK10 _ _ ?_)
 refine G6 fun K12 hK12 => G2 ?_
 refine JLg (G0 r9.2) (G7 O O) ?_
 refine JLg (G0 r11.2) (G7 O O) ?_
 obtain ⟨v13, hv13, h⟩ := H6 h
 refine JLg (G0 v13) (Hd hv13 O O O) ?_
 refine JLg (BL (decide (v13 = 0))) (Hx O O O) ?_
 refine JLg (BL (decide (v13 = 0))) (G7 O O) ?_
 refine Gd (u := LS 6 Move.av r9.1) [] O O O .sct trivial (fun hc => G7 O O) ?_
 refine Gd (u := .dptr (Slot.cs r7.Slot)) [] O O O .sct trivial (fun hc => Gb Hg O O O) ?_
 refine Gd (u := .agg (Slot.cs r7.Slot)) [(38, .dptr (Slot.cs r7.Slot))] O O O .sct ⟨.all id, trivial⟩ (fun hc => Gg Hr O O O) ?_
 refine Gd (u := .agg [U8 2, G0 2, G0 r7.Slot.G5, G0 r7.Slot.Tier, U8 r7.Slot.Half, G0 0]) [(39, .agg (Slot.cs r7.Slot))] O O O .sct ⟨.all id, trivial⟩ (fun hc => H8 (cs := [U8 2, G0 2, G0 r7.Slot.G5, G0 r7.Slot.Tier, U8 r7.Slot.Half, G0 0]) [(0, 1), (1, 1), (2, 3), (5, 1)] [U8 0, G0 0, G0 0, G0 0, U8 0, G0 0] [.int .u8 0, .int .i64 0, .int .i64 0, .int .i64 0, .int .u8 0, .int .i64 0] Jb Jm ⟨.inl O, .inl O, .inl O, .inl O, .inl O, .inl O, trivial⟩ O O) ?_
 refine Gd (u := .agg [U8 1, G0 0, G0 0, G0 0, U8 0, G0 0]) [] O O O .sct trivial (fun hc => H8 (cs := [U8 1, G0 0, G0 0, G0 0, U8 0, G0 0]) [(0, 1), (1, 1), (2, 3), (5, 1)] [U8 0, G0 0, G0 0, G0 0, U8 0, G0 0] [.int .u8 0, .int .i64 0, .int .i64 0, .int .i64 0, .int .u8 0, .int .i64 0] Jb Jm ⟨.inl O, .inl O, .inl O, .inl O, .inl O, .inl O, trivial⟩ O O) ?_
 refine Gd (u := .dptr (Slot.cs r6.Slot)) [] O O O .sct trivial (fun hc => Gb Hg O O O) ?_
 refine Gd (u := .agg (Slot.cs r6.Slot)) [(42, .dptr (Slot.cs r6.Slot))] O O O .sct ⟨.all id, trivial⟩ (fun hc => Gg Hr O O O) ?_
 refine Gd (u := .agg [U8 2, G0 1, G0 r6.Slot.G5, G0 r6.Slot.Tier, U8 r6.Slot.Half, G0 0]) [(43, .agg (Slot.cs r6.Slot))] O O O .sct ⟨.all id, trivial⟩ (fun hc => H8 (cs := [U8 2, G0 1, G0 r6.Slot.G5, G0 r6.Slot.Tier, U8 r6.Slot.Half, G0 0]) [(0, 1), (1, 1), (2, 3), (5, 1)] [U8 0, G0 0, G0 0, G0 0, U8 0, G0 0] [.int .u8 0, .int .i64 0, .int .i64 0, .int .i64 0, .int .u8 0, .int .i64 0] Jb Jm ⟨.inl O, .inl O, .inl O, .inl O, .inl O, .inl O, trivial⟩ O O) ?_
 refine Gd (u := .agg [U8 4, G0 0, G0 0, G0 0, U8 0, G0 0]) [] O O O .sct trivial (fun hc => H8 (cs := [U8 4, G0 0, G0 0, G0 0, U8 0, G0 0]) [(0, 1), (1, 1), (2, 3), (5, 1)] [U8 0, G0 0, G0 0, G0 0, U8 0, G0 0] [.int .u8 0, .int .i64 0, .int .i64 0, .int .i64 0, .int .u8 0, .int .i64 0] Jb Jm ⟨.inl O, .inl O, .inl O, .inl O, .inl O, .inl O, trivial⟩ O O) ?_
 refine Gd (u := .dptr (Slot.cs r7.Slot)) [] O O O .sct trivial (fun hc => Gb Hg O O O) ?_
 refine Gd (u := .agg (Slot.cs r7.Slot)) [(46, .dptr (Slot.cs r7.Slot))] O O O .sct ⟨.all id, trivial⟩ (fun hc => Gg Hr O O O) ?_
 refine Gd (u := .agg [U8 3, G0 2, G0 r7.Slot.G5, G0 r7.Slot.Tier, U8 r7.Slot.Half, G0 0]) [(47, .agg (Slot.cs r7.Slot))] O O O .sct ⟨.all id, trivial⟩ (fun hc => H8 (cs := [U8 3, G0 2, G0 r7.Slot.G5, G0 r7.Slot.Tier, U8 r7.Slot.Half, G0 0]) [(0, 1), (1, 1), (2, 3), (5, 1)] [U8 0, G0 0, G0 0, G0 0, U8 0, G0 0] [.int .u8 0, .int .i64 0, .int .i64 0, .int .i64 0, .int .u8 0, .int .i64 0] Jb Jm ⟨.inl O, .inl O, .inl O, .inl O, .inl O, .inl O, trivial⟩ O O) ?_
 refine Gd (u := LS 6 Move.av [(Move.mk 2 2 r7.Slot 0), (Move.mk 1 0 (Slot.mk 0 0 0) 0), (Move.mk 2 1 r6.Slot 0), (Move.mk 4 0 (Slot.mk 0 0 0) 0), (Move.mk 3 2 r7.Slot 0)]) [(40, .agg [U8 2, G0 2, G0 r7.Slot.G5, G0 r7.Slot.Tier, U8 r7.Slot.Half, G0 0]), (41, .agg [U8 1, G0 0, G0 0, G0 0, U8 0, G0 0]), (44, .agg [U8 2, G0 1, G0 r6.Slot.G5, G0 r6.Slot.Tier, U8 r6.Slot.Half, G0 0]), (45, .agg [U8 4, G0 0, G0 0, G0 0, U8 0, G0 0]), (48, .agg [U8 3, G0 2, G0 r7.Slot.G5, G0 r7.Slot.Tier, U8 r7.Slot.Half, G0 0])] O O O .sct ⟨.all id, .all id, .all id, .all id, .all id, trivial⟩ (fun hc => Gu (xs := [.agg [U8 2, G0 2, G0 r7.Slot.G5, G0 r7.Slot.Tier, U8 r7.Slot.Half, G0 0], .agg [U8 1, G0 0, G0 0, G0 0, U8 0, G0 0], .agg [U8 2, G0 1, G0 r6.Slot.G5, G0 r6.Slot.Tier, U8 r6.Slot.Half, G0 0], .agg [U8 4, G0 0, G0 0, G0 0, U8 0, G0 0], .agg [U8 3, G0 2, G0 r7.Slot.G5, G0 r7.Slot.Tier, U8 r7.Slot.Half, G0 0]]) O ⟨O, O, O, O, O, O, O, O, O, O, trivial⟩ Ho Jk O O O O) ?_
 obtain ⟨r14, hr14, h⟩ := Ge h
 refine Gd (u := BL r14) [(37, LS 6 Move.av r9.1), (49, LS 6 Move.av [(Move.mk 2 2 r7.Slot 0), (Move.mk 1 0 (Slot.mk 0 0 0) 0), (Move.mk 2 1 r6.Slot 0), (Move.mk 4 0 (Slot.mk 0 0 0) 0), (Move.mk 3 2 r7.Slot 0)])] O O O .sct ⟨.all id, .all id, trivial⟩ (fun hc => Gr (args := [LS 6 Move.av r9.1, LS 6 Move.av [(Move.mk 2 2 r7.Slot 0), (Move.mk 1 0 (Slot.mk 0 0 0) 0), (Move.mk 2 1 r6.Slot 0), (Move.mk 4 0 (Slot.mk 0 0 0) 0), (Move.mk 3 2 r7.Slot 0)]]) O (M_twistlocklaw30_is_w r9.1 [(Move.mk 2 2 r7.Slot 0), (Move.mk 1 0 (Slot.mk 0 0 0) 0), (Move.mk 2 1 r6.Slot 0), (Move.mk 4 0 (Slot.mk 0 0 0) 0), (Move.mk 3 2 r7.Slot 0)] r14 (bif_t hc hr14)) tf_call_22 ⟨O, O, O, O, trivial⟩) ?_
 refine JLg (BL ((decide (v13 = 0)) && r14)) (J2 O O O O) ?_
 refine JLg (BL ((decide (v13 = 0)) && r14)) (G7 O O) ?_
 refine Gd (u := LS 6 Move.av r9.1) [] O O O .sct trivial (fun hc => G7 O O) ?_
 obtain ⟨r15, hr15, h⟩ := Ge h
 refine Gd (u := G0 r15) [(53, LS 6 Move.av r9.1)] O O O .sct ⟨.all id, trivial⟩ (fun hc => Gr (args := [LS 6 Move.av r9.1]) O (M_moves_Lifts_w r9.1 r15 (bif_t hc hr15)) tf_call_9 ⟨O, O, trivial⟩) ?_
 refine Gd (u := BL (decide (r15 = 3))) [(54, G0 r15)] O O O .sct ⟨.all id, trivial⟩ (fun hc => Hx O O O) ?_
 refine JLg (BL (((decide (v13 = 0)) && r14) && (decide (r15 = 3)))) (J2 O O O O) ?_
 refine JLg (BL (((decide (v13 = 0)) && r14) && (decide (r15 = 3)))) (G7 O O) ?_
 refine Gd (u := LS 4 Task.av r11.1) [] O O O .sct trivial (fun hc => G7 O O) ?_
 refine Gd (u := G0 (r11.1.length : Int)) [(58, LS 4 Task.av r11.1)] O O O .sct ⟨.all id, trivial⟩ (fun hc => A_lenM (f := Task.av) (xs := r11.1) J0 O O) ?_
 refine Gd (u := BL (decide ((r11.1.length : Int) = 2))) [(59, G0 (r11.1.length : Int))] O O O .sct ⟨.all id, trivial⟩ (fun hc => Hx O O O) ?_
 refine JLg (BL ((((decide (v13 = 0)) && r14) && (decide (r15 = 3))) && (decide ((r11.1.length : Int) = 2)))) (J2 O O O O) ?_
 refine JLg (BL ((((decide (v13 = 0)) && r14) && (decide (r15 = 3))) && (decide ((r11.1.length : Int) = 2)))) (G7 O O) ?_
 refine Gd (u := LS 4 Task.av r11.1) [] O O O .sct trivial (fun hc => G7 O O) ?_
 obtain ⟨y16, hy16, h⟩ := Ge h
 refine Gd (u := .dptr (Task.cs y16)) [(63, LS 4 Task.av r11.1)] O O O .sct ⟨.all id, trivial⟩ (fun hc => (match Q2 (bif_t hc hy16) with | ⟨_, hm_, hy_⟩ => Gw (f := Task.av) (xs := r11.1) (y := y16) O O O J0 hy_ hm_)) ?_
 refine Gd (u := .agg (Task.cs y16)) [(64, .dptr (Task.cs y16))] O O O .sct ⟨.all id, trivial⟩ (fun hc => Gg tf_agg_63 O O O) ?_
 refine Gd (u := .agg [G0 0, G0 1, G0 2, G0 1]) [] O O O .sct trivial (fun hc => H8 (cs := [G0 0, G0 1, G0 2, G0 1]) [(0, 1), (1, 1), (2, 1), (3, 1)] [G0 0, G0 0, G0 0, G0 0] [.int .i64 0, .int .i64 0, .int .i64 0, .int .i64 0] tf_places_63 tf_zero_63 ⟨.inl O, .inl O, .inl O, .inl O, trivial⟩ O O) ?_
 refine Gd (u := BL (decide (y16 = (Task.mk 0 1 2 1)))) [(65, .agg (Task.cs y16)), (66, .agg [G0 0, G0 1, G0 2, G0 1])] O O O .sct ⟨.all id, .all id, trivial⟩ (fun hc => A_eqAgg (vs := [.int .i64 y16.Bay, .int .i64 y16.Phase, .int .i64 y16.Lifts, .int .i64 y16.Covers]) (us := [.int .i64 0, .int .i64 1, .int .i64 2, .int .i64 1]) 4 O (tq_63 y16 (Task.mk 0 1 2 1)) tf_aggof_63 tf_eqg_63 O O O) ?_
 refine JLg (BL (((((decide (v13 = 0)) && r14) && (decide (r15 = 3))) && (decide ((r11.1.length : Int) = 2))) && (decide (y16 = (Task.mk 0 1 2 1))))) (J2 O O O O) ?_
 refine JLg (BL (((((decide (v13 = 0)) && r14) && (decide (r15 = 3))) && (decide ((r11.1.length : Int) = 2))) && (decide (y16 = (Task.mk 0 1 2 1))))) (G7 O O) ?_
 refine Gd (u := LS 4 Task.av r11.1) [] O O O .sct trivial (fun hc => G7 O O) ?_
 obtain ⟨y17, hy17, h⟩ := Ge h
 refine Gd (u := .dptr (Task.cs y17)) [(70, LS 4 Task.av r11.1)] O O O .sct ⟨.all id, trivial⟩ (fun hc => (match Q2 (bif_t hc hy17) with | ⟨_, hm_, hy_⟩ => Gw (f := Task.av) (xs := r11.1) (y := y17) O O O J0 hy_ hm_)) ?_
 refine Gd (u := .agg (Task.cs y17)) [(71, .dptr (Task.cs y17))] O O O .sct ⟨.all id, trivial⟩ (fun hc => Gg tf_agg_63 O O O) ?_
 refine Gd (u := .agg [G0 0, G0 2, G0 1, G0 1]) [] O O O .sct trivial (fun hc => H8 (cs := [G0 0, G0 2, G0 1, G0 1]) [(0, 1), (1, 1), (2, 1), (3, 1)] [G0 0, G0 0, G0 0, G0 0] [.int .i64 0, .int .i64 0, .int .i64 0, .int .i64 0] tf_places_63 tf_zero_63 ⟨.inl O, .inl O, .inl O, .inl O, trivial⟩ O O) ?_
 refine Gd (u := BL (decide (y17 = (Task.mk 0 2 1 1)))) [(72, .agg (Task.cs y17)), (73, .agg [G0 0, G0 2, G0 1, G0 1])] O O O .sct ⟨.all id, .all id, trivial⟩ (fun hc => A_eqAgg (vs := [.int .i64 y17.Bay, .int .i64 y17.Phase, .int .i64 y17.Lifts, .int .i64 y17.Covers]) (us := [.int .i64 0, .int .i64 2, .int .i64 1, .int .i64 1]) 4 O (tq_63 y17 (Task.mk 0 2 1 1)) tf_aggof_63 tf_eqg_63 O O O) ?_
 refine JLg (BL ((((((decide (v13 = 0)) && r14) && (decide (r15 = 3))) && (decide ((r11.1.length : Int) = 2))) && (decide (y16 = (Task.mk 0 1 2 1)))) && (decide (y17 = (Task.mk 0 2 1 1))))) (J2 O O O O) ?_
 refine JLg (BL ((((((decide (v13 = 0)) && r14) && (decide (r15 = 3))) && (decide ((r11.1.length : Int) = 2))) && (decide (y16 = (Task.mk 0 1 2 1)))) && (decide (y17 = (Task.mk 0 2 1 1))))) (G9 O O) ?_
 refine G8 (hK12 _ _ ?_)
 refine Gq ?_
 exact ⟨[BL ((((((decide (v13 = 0)) && r14) && (decide (r15 = 3))) && (decide ((r11.1.length : Int) = 2))) && (decide (y16 = (Task.mk 0 1 2 1)))) && (decide (y17 = (Task.mk 0 2 1 1))))], [], trivial, O, ⟨⟨_, O, .conv (.same O)⟩, trivial⟩, O, congrArg (fun r : Bool => (BL r : AV)) (Option.some.inj h)⟩

def M_twistlocklaw30_MovesWrong (F : Nat) (l : List law07_Place) (covers : Int) (items : List law23_Item) (n : Int) : Option Bool :=
 bnd (M_twistlocklaw07_Built l covers) fun r3 =>
 bnd (M_twistlocklaw23_Voyage F r3 items 4 8) fun r5 =>
 each (fun y35 i35 (s35 : Unit) nx35 =>
  bnd (M_moves_Call F r3 r5.1 y35 y35) fun r41 =>
  bnd (M_moves_Call F r3 r5.1 y35 [(G3.mk 3 (Slot.mk 0 0 0))]) fun r43 =>
  bnd (M_moves_Call F r3 r5.1 [(G3.mk 3 (Slot.mk 0 0 0))] y35) fun r45 =>
  bif ((((decide (r41.2 ≠ 0)) || (decide ((r41.1.length : Int) ≠ 0))) || (decide (r43.2 ≠ 2))) || (decide (r45.2 ≠ r43.2))) then
  (some false)
  else
  (nx35 ()))
 (fun (s35 : Unit) =>
  bnd (M_moves_Voyage F r3 r5.1 5 r5.2) fun r49 =>
  bnd (M_moves_Voyage F r3 r5.1 0 r5.2) fun r51 =>
  bnd (S_moves_Tasks F r3 [(Move.mk 1 0 (Slot.mk 0 0 0) (max n (r3.Covers.length : Int)))]) fun r53 =>
  bnd (S_moves_Tasks F r3 [(Move.mk 4 0 (Slot.mk 0 0 0) (min n (-1)))]) fun r55 =>
  bnd (S_moves_Tasks F r3 [(Move.mk 2 0 (Slot.mk (max n (r3.Columns.length : Int)) 0 0) 0)]) fun r57 =>
  bnd (S_moves_Tasks F r3 [(Move.mk 3 0 (Slot.mk (min n (-1)) 0 0) 0)]) fun r59 =>
  bnd (S_moves_Tasks F r3 [(Move.mk 0 0 (Slot.mk 0 0 0) 0)]) fun r61 =>
  bnd (S_moves_Tasks F r3 [(Move.mk 5 0 (Slot.mk 0 0 0) 0)]) fun r63 =>
  bnd (S_moves_Tasks F (Ship.mk [] [] (Light.mk 0 0 0 0) [] [] [] (G4.mk 0 0 0 0)) []) fun r65 =>
  bnd (S_moves_Tasks F r3 []) fun r67 =>
  bnd (bif (((((((((((decide (r49.2 = 231)) && (decide (r51.2 = 230))) && (decide (r53.2 = 2))) && (decide (r55.2 = r53.2))) && (decide (r57.2 = r53.2))) && (decide (r59.2 = r53.2))) && (decide (r61.2 = r53.2))) && (decide (r63.2 = r53.2))) && (decide (r65.2 = r53.2))) && (decide (r67.2 = 0))) && (decide ((r67.1.length : Int) = 0))) then M_twistlocklaw30_awake F else some default) fun r69 =>
  some ((((((((((((decide (r49.2 = 231)) && (decide (r51.2 = 230))) && (decide (r53.2 = 2))) && (decide (r55.2 = r53.2))) && (decide (r57.2 = r53.2))) && (decide (r59.2 = r53.2))) && (decide (r61.2 = r53.2))) && (decide (r63.2 = r53.2))) && (decide (r65.2 = r53.2))) && (decide (r67.2 = 0))) && (decide ((r67.1.length : Int) = 0))) && r69)) r5.2.States 0 ()
theorem M_twistlocklaw30_MovesWrong_w (F : Nat) (l : List law07_Place) (covers : Int) (items : List law23_Item) (n : Int) (r : Bool) (h : M_twistlocklaw30_MovesWrong F l covers items n = some r) : Pure Tryz.prog 4 [LS 4 law07_Place.av l, .sc (.int .u32 covers), LS 6 law23_Item.av items, G0 n] (· = BL r) := by
 unfold M_twistlocklaw30_MovesWrong at h
 refine Gx [.tmp 8] Tryz.func4 O O ?_
 refine G6 fun K1 hK1 => G2 ?_
 refine JLg (BL false) (G9 O O) ?_
 refine G8 (hK1 _ _ ?_)
 refine G6 fun K2 hK2 => G2 ?_
 refine JLg (LS 4 law07_Place.av l) (G7 O O) ?_
 refine JLg (.sc (.int .u32 covers)) (G7 O O) ?_
 obtain ⟨r3, hr3, h⟩ := Ge h
 refine JLg (.agg (Ship.cs r3)) (Gr (args := [LS 4 law07_Place.av l, .sc (.int .u32 covers)]) O (M_twistlocklaw07_Built_w l covers r3 hr3) tf_call_5 ⟨O, O, O, O, trivial⟩) ?_
 refine JLg (.ptr 1007 0) (H2 1007 13 tf_zsize_35 O O) ?_
 refine H1 (u := .junk) (Gt (u := .agg (Ship.cs r3)) (ds := (Ship.cs r3)) tf_size_35 O O O O O O O O) ?_
 refine G8 (hK2 _ _ ?_)
 refine Gm [(2, LS 6 law23_Item.av items), (3, G0 n), (9, .dptr (Ship.cs r3))] [] 1007 rfl rfl rfl trivial rfl (by exact ⟨.conv (.same rfl), .conv (.same rfl), .ptr, trivial⟩) ?_
 refine G6 fun K4 hK4 => G2 ?_
 refine JLg (.agg (Ship.cs r3)) (Gg H5 O O O) ?_
 refine JLg (LS 6 law23_Item.av items) (G7 O O) ?_
 obtain ⟨r5, hr5, h⟩ := Ge h
 refine JLg (.tup [LS 9 Box.av r5.1, .agg [LS 1 (LS 4 G3.av) r5.2.States, LS 1 (LS 1 G0) r5.2.Water]]) (Gr (args := [.agg (Ship.cs r3), LS 6 law23_Item.av items, G0 4, G0 8]) O (M_twistlocklaw23_Voyage_w F r3 items 4 8 r5 hr5) tf_call_6 ⟨O, O, O, O, O, O, O, O, trivial⟩) ?_
 refine JLg (.tup [LS 9 Box.av r5.1, .agg [LS 1 (LS 4 G3.av) r5.2.States, LS 1 (LS 1 G0) r5.2.Water]]) (G7 O O) ?_
 refine JLg (LS 9 Box.av r5.1) (Gv O O O) ?_
 refine JLg (.agg [LS 1 (LS 4 G3.av) r5.2.States, LS 1 (LS 1 G0) r5.2.Water]) (Gv O O O) ?_
 refine JLg (.ptr 1008 0) (H2 1008 2 tf_zsize_41 O O) ?_
 refine JLg (LS 9 Box.av r5.1) (G9 O O) ?_
 refine H1 (u := .junk) (Gt (u := .agg [LS 1 (LS 4 G3.av) r5.2.States, LS 1 (LS 1 G0) r5.2.Water]) (ds := [LS 1 (LS 4 G3.av) r5.2.States, LS 1 (LS 1 G0) r5.2.Water]) tf_size_41 O O O O O O O O) ?_
 refine G8 (hK4 _ _ ?_)
 refine Gm [(3, G0 n), (9, .dptr (Ship.cs r3)), (10, LS 9 Box.av r5.1), (11, .dptr [LS 1 (LS 4 G3.av) r5.2.States, LS 1 (LS 1 G0) r5.2.Water])] [] 1008 rfl rfl rfl trivial rfl (by repeat' (first | exact .ptr | constructor)) ?_
 refine G6 fun K6 hK6 => G2 ?_
 refine JLg (.agg [G0 3, G0 0, G0 0, U8 0]) (H8 (cs := [G0 3, G0 0, G0 0, U8 0]) [(0, 1), (1, 3)] [G0 0, G0 0, G0 0, U8 0] [.int .i64 0, .int .i64 0, .int .i64 0, .int .u8 0] tf_places_68 tf_zero_68 ⟨.inl O, .inl O, .inl O, .inl O, trivial⟩ O O) ?_
 refine JLg (LS 4 G3.av [(G3.mk 3 (Slot.mk 0 0 0))]) (Gu (xs := [.agg [G0 3, G0 0, G0 0, U8 0]]) O ⟨O, O, trivial⟩ Gs Hk O O O O) ?_
 refine JLg (LS 4 G3.av [(G3.mk 3 (Slot.mk 0 0 0))]) (G9 O O) ?_
 refine G8 (hK6 _ _ ?_)
 refine G6 (fun K7 hK7 => ?_)
 refine G6 fun K8 hK8 => G2 ?_
 refine JLg (.dptr [LS 1 (LS 4 G3.av) r5.2.States, LS 1 (LS 1 G0) r5.2.Water]) (Gb tf_field_41_0 O O O) ?_
 refine JLg (LS 1 (LS 4 G3.av) r5.2.States) (Gf Q6 O O O) ?_
 refine H9 (f := (LS 4 G3.av)) (xs := r5.2.States) Hu O O (fun hm54 => ?_) O O O
 refine JLg (G0 0) (G7 O O) ?_
 refine G8 (hK8 _ _ ?_)
 refine Gi ?_
 obtain ⟨b35, kx35, hb35, hkx35, h⟩ := Hi h
 refine Gz (fun i35 (s35 : Unit) => each b35 kx35 (List.drop i35 r5.2.States) i35 s35 = some r) (fun i35 s35 => [(3, G0 n), (9, .dptr (Ship.cs r3)), (10, LS 9 Box.av r5.1), (11, .dptr [LS 1 (LS 4 G3.av) r5.2.States, LS 1 (LS 1 G0) r5.2.Water]), (12, LS 4 G3.av [(G3.mk 3 (Slot.mk 0 0 0))]), (53, LS 1 (LS 4 G3.av) r5.2.States), (54, G0 (r5.2.States.length : Int)), (55, G0 (i35 : Int))]) (fun i35 s35 => []) (fun i35 => r5.2.States.length - i35) 0 () h ⟨(by repeat' constructor), trivial, rfl⟩ ?_
 clear h
 intro i35 s35 hi35 K35 e35
 refine G6 fun K36 hK36 => G2 ?_
 refine JLg (BL (decide ((i35 : Int) < (r5.2.States.length : Int)))) (He O O O) ?_
 refine G8 (hK36 _ _ ?_)
 refine G6 (fun K37 hK37 => ?_)
 refine Gh O (fun hb => ?_) (fun hb => ?_)
 ·
  have hk35 := lt_len hb
  obtain ⟨y35, nx35, hy35, hn35, h⟩ := Ha hi35 hk35
  replace h := app4 hb35 h
  refine Gj ?_
  refine hK37 _ _ ?_
  refine G6 (fun K38 hK38 => ?_)
  refine Gi ?_
  refine G6 fun K39 hK39 => G2 ?_
  refine JLg (.dptr [LS 4 G3.av y35]) (Gw (f := (LS 4 G3.av)) (xs := r5.2.States) (y := y35) O O O Hu hy35 O) ?_
  refine JLg (LS 4 G3.av y35) (Gf tf_scalar_69 O O O) ?_
  refine JLg (LS 4 G3.av y35) (G9 O O) ?_
  refine G8 (hK39 _ _ ?_)
  refine G6 fun K40 hK40 => G2 ?_
  refine JLg (.agg (Ship.cs r3)) (Gg H5 O O O) ?_
  refine JLg (LS 9 Box.av r5.1) (G7 O O) ?_
  refine JLg (LS 4 G3.av y35) (G7 O O) ?_
  refine JLg (LS 4 G3.av y35) (G7 O O) ?_
  obtain ⟨r41, hr41, h⟩ := Ge h
  refine JLg (.tup [LS 6 Move.av r41.1, G0 r41.2]) (Gr (args := [.agg (Ship.cs r3), LS 9 Box.av r5.1, LS 4 G3.av y35, LS 4 G3.av y35]) O (M_moves_Call_w F r3 r5.1 y35 y35 r41 hr41) tf_call_11 ⟨O, O, O, O, O, O, O, O, trivial⟩) ?_
  refine JLg (.tup [LS 6 Move.av r41.1, G0 r41.2]) (G7 O O) ?_
  refine JLg (LS 6 Move.av r41.1) (Gv O O O) ?_
  refine JLg (G0 r41.2) (Gv O O O) ?_
  refine JLg (LS 6 Move.av r41.1) (G9 O O) ?_
  refine JLg (G0 r41.2) (G9 O O) ?_
  refine G8 (hK40 _ _ ?_)
  refine G6 fun K42 hK42 => G2 ?_
  refine JLg (.agg (Ship.cs r3)) (Gg H5 O O O) ?_
  refine JLg (LS 9 Box.av r5.1) (G7 O O) ?_
  refine JLg (LS 4 G3.av y35) (G7 O O) ?_
  refine JLg (LS 4 G3.av [(G3.mk 3 (Slot.mk 0 0 0))]) (G7 O O) ?_
  obtain ⟨r43, hr43, h⟩ := Ge h
  refine JLg (.tup [LS 6 Move.av r43.1, G0 r43.2]) (Gr (args := [.agg (Ship.cs r3), LS 9 Box.av r5.1, LS 4 G3.av y35, LS 4 G3.av [(G3.mk 3 (Slot.mk 0 0 0))]]) O (M_moves_Call_w F r3 r5.1 y35 [(G3.mk 3 (Slot.mk 0 0 0))] r43 hr43) tf_call_11 ⟨O, O, O, O, O, O, O, O, trivial⟩) ?_
  refine JLg (.tup [LS 6 Move.av r43.1, G0 r43.2]) (G7 O O) ?_
  refine JLg (LS 6 Move.av r43.1) (Gv O O O) ?_
  refine JLg (G0 r43.2) (Gv O O O) ?_
  refine JLg (LS 6 Move.av r43.1) (G9 O O) ?_
  refine JLg (G0 r43.2) (G9 O O) ?_
  refine G8 (hK42 _ _ ?_)
  refine G6 fun K44 hK44 => G2 ?_
  refine JLg (.agg (Ship.cs r3)) (Gg H5 O O O) ?_
  refine JLg (LS 9 Box.av r5.1) (G7 O O) ?_
  refine JLg (LS 4 G3.av [(G3.mk 3 (Slot.mk 0 0 0))]) (G7 O O) ?_
  refine JLg (LS 4 G3.av y35) (G7 O O) ?_
  obtain ⟨r45, hr45, h⟩ := Ge h
  refine JLg (.tup [LS 6 Move.av r45.1, G0 r45.2]) (Gr (args := [.agg (Ship.cs r3), LS 9 Box.av r5.1, LS 4 G3.av [(G3.mk 3 (Slot.mk 0 0 0))], LS 4 G3.av y35]) O (M_moves_Call_w F r3 r5.1 [(G3.mk 3 (Slot.mk 0 0 0))] y35 r45 hr45) tf_call_11 ⟨O, O, O, O, O, O, O, O, trivial⟩) ?_
  refine JLg (.tup [LS 6 Move.av r45.1, G0 r45.2]) (G7 O O) ?_
  refine JLg (LS 6 Move.av r45.1) (Gv O O O) ?_
  refine JLg (G0 r45.2) (Gv O O O) ?_
  refine JLg (LS 6 Move.av r45.1) (G9 O O) ?_
  refine JLg (G0 r45.2) (G9 O O) ?_
  refine G8 (hK44 _ _ ?_)
  refine G6 fun K46 hK46 => G2 ?_
  refine JLg (G0 r41.2) (G7 O O) ?_
  refine JLg (BL (decide (r41.2 ≠ 0))) (A_neq O O O) ?_
  refine JLg (BL (decide (r41.2 ≠ 0))) (G7 O O) ?_
  refine Gd (u := LS 6 Move.av r41.1) [] O O O .scf trivial (fun hc => G7 O O) ?_
  refine Gd (u := G0 (r41.1.length : Int)) [(86, LS 6 Move.av r41.1)] O O O .scf ⟨.all id, trivial⟩ (fun hc => A_lenM (f := Move.av) (xs := r41.1) Ho O O) ?_
  refine Gd (u := BL (decide ((r41.1.length : Int) ≠ 0))) [(87, G0 (r41.1.length : Int))] O O O .scf ⟨.all id, trivial⟩ (fun hc => A_neq O O O) ?_
  refine JLg (BL ((decide (r41.2 ≠ 0)) || (decide ((r41.1.length : Int) ≠ 0)))) (Q0 O O O O) ?_
  refine JLg (BL ((decide (r41.2 ≠ 0)) || (decide ((r41.1.length : Int) ≠ 0)))) (G7 O O) ?_
  refine Gd (u := G0 r43.2) [] O O O .scf trivial (fun hc => G7 O O) ?_
  refine Gd (u := BL (decide (r43.2 ≠ 2))) [(91, G0 r43.2)] O O O .scf ⟨.all id, trivial⟩ (fun hc => A_neq O O O) ?_
  refine JLg (BL (((decide (r41.2 ≠ 0)) || (decide ((r41.1.length : Int) ≠ 0))) || (decide (r43.2 ≠ 2)))) (Q0 O O O O) ?_
  refine JLg (BL (((decide (r41.2 ≠ 0)) || (decide ((r41.1.length : Int) ≠ 0))) || (decide (r43.2 ≠ 2)))) (G7 O O) ?_
  refine Gd (u := G0 r45.2) [] O O O .scf trivial (fun hc => G7 O O) ?_
  refine Gd (u := G0 r43.2) [] O O O .scf trivial (fun hc => G7 O O) ?_
  refine Gd (u := BL (decide (r45.2 ≠ r43.2))) [(95, G0 r45.2), (96, G0 r43.2)] O O O .scf ⟨.all id, .all id, trivial⟩ (fun hc => A_neq O O O) ?_
  refine JLg (BL ((((decide (r41.2 ≠ 0)) || (decide ((r41.1.length : Int) ≠ 0))) || (decide (r43.2 ≠ 2))) || (decide (r45.2 ≠ r43.2)))) (Q0 O O O O) ?_
  refine G8 (hK46 _ _ ?_)
  refine Gh O (fun hb => ?_) (fun hb => ?_)
  ·
   replace h := bif_t hb h
   refine G6 fun K47 hK47 => G2 ?_
   refine JLg (BL false) (G9 O O) ?_
   refine G8 (hK47 _ _ ?_)
   refine Gq ?_
   exact ⟨[BL false], [], trivial, O, ⟨⟨_, O, .conv (.same O)⟩, trivial⟩, O, congrArg (fun r : Bool => (BL r : AV)) (Option.some.inj h)⟩
  ·
   replace h := bif_f hb h
   refine Gj ?_
   refine hK38 _ _ ?_
   refine G2 ?_
   refine JLg (G0 ((i35 + 1 : Nat) : Int)) (Hd (idx_succ hk35 hm54) O O O) ?_
   refine JLg (G0 ((i35 + 1 : Nat) : Int)) (G7 O O) ?_
   refine G8 ?_
   exact e35 _ _ (i35 + 1) () (app1 hn35 h) (by omega) ⟨(by repeat' constructor), trivial, rfl⟩
 ·
  have h := app1 hkx35 (Hb hi35 (Gy hb))
  refine H4 ?_
  refine hK7 _ _ ?_
  refine G6 fun K48 hK48 => G2 ?_
  refine JLg (.agg (Ship.cs r3)) (Gg H5 O O O) ?_
  refine JLg (LS 9 Box.av r5.1) (G7 O O) ?_
  refine JLg (.agg [LS 1 (LS 4 G3.av) r5.2.States, LS 1 (LS 1 G0) r5.2.Water]) (Gg tf_agg_41 O O O) ?_
  obtain ⟨r49, hr49, h⟩ := Ge h
  refine JLg (.tup [LS 1 (LS 6 Move.av) r49.1, G0 r49.2]) (Gr (args := [.agg (Ship.cs r3), LS 9 Box.av r5.1, G0 5, .agg [LS 1 (LS 4 G3.av) r5.2.States, LS 1 (LS 1 G0) r5.2.Water]]) O (M_moves_Voyage_w F r3 r5.1 5 r5.2 r49 hr49) tf_call_7 ⟨O, O, O, O, O, O, O, O, trivial⟩) ?_
  refine JLg (.tup [LS 1 (LS 6 Move.av) r49.1, G0 r49.2]) (G7 O O) ?_
  refine JLg (LS 1 (LS 6 Move.av) r49.1) (Gv O O O) ?_
  refine JLg (G0 r49.2) (Gv O O O) ?_
  refine JLg (LS 1 (LS 6 Move.av) r49.1) (G9 O O) ?_
  refine JLg (G0 r49.2) (G9 O O) ?_
  refine G8 (hK48 _ _ ?_)
  refine G6 fun K50 hK50 => G2 ?_
  refine JLg (.agg (Ship.cs r3)) (Gg H5 O O O) ?_
  refine JLg (LS 9 Box.av r5.1) (G7 O O) ?_
  refine JLg (.agg [LS 1 (LS 4 G3.av) r5.2.States, LS 1 (LS 1 G0) r5.2.Water]) (Gg tf_agg_41 O O O) ?_
  obtain ⟨r51, hr51, h⟩ := Ge h
  refine JLg (.tup [LS 1 (LS 6 Move.av) r51.1, G0 r51.2]) (Gr (args := [.agg (Ship.cs r3), LS 9 Box.av r5.1, G0 0, .agg [LS 1 (LS 4 G3.av) r5.2.States, LS 1 (LS 1 G0) r5.2.Water]]) O (M_moves_Voyage_w F r3 r5.1 0 r5.2 r51 hr51) tf_call_7 ⟨O, O, O, O, O, O, O, O, trivial⟩) ?_
  refine JLg (.tup [LS 1 (LS 6 Move.av) r51.1, G0 r51.2]) (G7 O O) ?_
  refine JLg (LS 1 (LS 6 Move.av) r51.1) (Gv O O O) ?_
  refine JLg (G0 r51.2) (Gv O O O) ?_
  refine JLg (LS 1 (LS 6 Move.av) r51.1) (G9 O O) ?_
  refine JLg (G0 r51.2) (G9 O O) ?_
  refine G8 (hK50 _ _ ?_)
  refine G6 fun K52 hK52 => G2 ?_
  refine JLg (.agg (Ship.cs r3)) (Gg H5 O O O) ?_
  refine JLg (G0 n) (G7 O O) ?_
  refine JLg (.dptr ((Ship.cs r3).drop 1)) (Gb Ja O O O) ?_
  refine JLg (LS 2 Gc.av r3.Covers) (Gf Jn O O O) ?_
  refine H9 (f := Gc.av) (xs := r3.Covers) J8 O O (fun hm119 => ?_) O O O
  refine JLg (G0 (max n (r3.Covers.length : Int))) (A_max O O O) ?_
  refine JLg (.agg [U8 1, G0 0, G0 0, G0 0, U8 0, G0 (max n (r3.Covers.length : Int))]) (H8 (cs := [U8 1, G0 0, G0 0, G0 0, U8 0, G0 (max n (r3.Covers.length : Int))]) [(0, 1), (1, 1), (2, 3), (5, 1)] [U8 0, G0 0, G0 0, G0 0, U8 0, G0 0] [.int .u8 0, .int .i64 0, .int .i64 0, .int .i64 0, .int .u8 0, .int .i64 0] Jb Jm ⟨.inl O, .inl O, .inl O, .inl O, .inl O, .inl O, trivial⟩ O O) ?_
  refine JLg (LS 6 Move.av [(Move.mk 1 0 (Slot.mk 0 0 0) (max n (r3.Covers.length : Int)))]) (Gu (xs := [.agg [U8 1, G0 0, G0 0, G0 0, U8 0, G0 (max n (r3.Covers.length : Int))]]) O ⟨O, O, trivial⟩ Ho Jk O O O O) ?_
  obtain ⟨r53, hr53, h⟩ := Ge h
  refine JLg (.tup [LS 4 Task.av r53.1, G0 r53.2]) (Gr (args := [.agg (Ship.cs r3), LS 6 Move.av [(Move.mk 1 0 (Slot.mk 0 0 0) (max n (r3.Covers.length : Int)))]]) O (S_moves_Tasks_w.down F r3 [(Move.mk 1 0 (Slot.mk 0 0 0) (max n (r3.Covers.length : Int)))] r53 hr53) tf_call_8 ⟨O, O, O, O, trivial⟩) ?_
  refine JLg (.tup [LS 4 Task.av r53.1, G0 r53.2]) (G7 O O) ?_
  refine JLg (LS 4 Task.av r53.1) (Gv O O O) ?_
  refine JLg (G0 r53.2) (Gv O O O) ?_
  refine JLg (LS 4 Task.av r53.1) (G9 O O) ?_
  refine JLg (G0 r53.2) (G9 O O) ?_
  refine G8 (hK52 _ _ ?_)
  refine G6 fun K54 hK54 => G2 ?_
  refine JLg (.agg (Ship.cs r3)) (Gg H5 O O O) ?_
  refine JLg (G0 n) (G7 O O) ?_
  refine JLg (G0 (min n (-1))) (A_min O O O) ?_
  refine JLg (.agg [U8 4, G0 0, G0 0, G0 0, U8 0, G0 (min n (-1))]) (H8 (cs := [U8 4, G0 0, G0 0, G0 0, U8 0, G0 (min n (-1))]) [(0, 1), (1, 1), (2, 3), (5, 1)] [U8 0, G0 0, G0 0, G0 0, U8 0, G0 0] [.int .u8 0, .int .i64 0, .int .i64 0, .int .i64 0, .int .u8 0, .int .i64 0] Jb Jm ⟨.inl O, .inl O, .inl O, .inl O, .inl O, .inl O, trivial⟩ O O) ?_
  refine JLg (LS 6 Move.av [(Move.mk 4 0 (Slot.mk 0 0 0) (min n (-1)))]) (Gu (xs := [.agg [U8 4, G0 0, G0 0, G0 0, U8 0, G0 (min n (-1))]]) O ⟨O, O, trivial⟩ Ho Jk O O O O) ?_
  obtain ⟨r55, hr55, h⟩ := Ge h
  refine JLg (.tup [LS 4 Task.av r55.1, G0 r55.2]) (Gr (args := [.agg (Ship.cs r3), LS 6 Move.av [(Move.mk 4 0 (Slot.mk 0 0 0) (min n (-1)))]]) O (S_moves_Tasks_w.down F r3 [(Move.mk 4 0 (Slot.mk 0 0 0) (min n (-1)))] r55 hr55) tf_call_8 ⟨O, O, O, O, trivial⟩) ?_
  refine JLg (.tup [LS 4 Task.av r55.1, G0 r55.2]) (G7 O O) ?_
  refine JLg (LS 4 Task.av r55.1) (Gv O O O) ?_
  refine JLg (G0 r55.2) (Gv O O O) ?_
  refine JLg (LS 4 Task.av r55.1) (G9 O O) ?_
  refine JLg (G0 r55.2) (G9 O O) ?_
  refine G8 (hK54 _ _ ?_)
  refine G6 fun K56 hK56 => G2 ?_
  refine JLg (.agg (Ship.cs r3)) (Gg H5 O O O) ?_
  refine JLg (G0 n) (G7 O O) ?_
  refine JLg (.dptr (Ship.cs r3)) (Gb Hc O O O) ?_
  refine JLg (LS 12 G5.av r3.Columns) (Gf Hj O O O) ?_
  refine H9 (f := G5.av) (xs := r3.Columns) Hf O O (fun hm140 => ?_) O O O
  refine JLg (G0 (max n (r3.Columns.length : Int))) (A_max O O O) ?_
  refine JLg (.agg [G0 (max n (r3.Columns.length : Int)), G0 0, U8 0]) (H8 (cs := [G0 (max n (r3.Columns.length : Int)), G0 0, U8 0]) [(0, 1), (1, 1), (2, 1)] [G0 0, G0 0, U8 0] [.int .i64 0, .int .i64 0, .int .u8 0] tf_places_51 tf_zero_51 ⟨.inl O, .inl O, .inl O, trivial⟩ O O) ?_
  refine JLg (.agg [U8 2, G0 0, G0 (max n (r3.Columns.length : Int)), G0 0, U8 0, G0 0]) (H8 (cs := [U8 2, G0 0, G0 (max n (r3.Columns.length : Int)), G0 0, U8 0, G0 0]) [(0, 1), (1, 1), (2, 3), (5, 1)] [U8 0, G0 0, G0 0, G0 0, U8 0, G0 0] [.int .u8 0, .int .i64 0, .int .i64 0, .int .i64 0, .int .u8 0, .int .i64 0] Jb Jm ⟨.inl O, .inl O, .inl O, .inl O, .inl O, .inl O, trivial⟩ O O) ?_
  refine JLg (LS 6 Move.av [(Move.mk 2 0 (Slot.mk (max n (r3.Columns.length : Int)) 0 0) 0)]) (Gu (xs := [.agg [U8 2, G0 0, G0 (max n (r3.Columns.length : Int)), G0 0, U8 0, G0 0]]) O ⟨O, O, trivial⟩ Ho Jk O O O O) ?_
  obtain ⟨r57, hr57, h⟩ := Ge h
  refine JLg (.tup [LS 4 Task.av r57.1, G0 r57.2]) (Gr (args := [.agg (Ship.cs r3), LS 6 Move.av [(Move.mk 2 0 (Slot.mk (max n (r3.Columns.length : Int)) 0 0) 0)]]) O (S_moves_Tasks_w.down F r3 [(Move.mk 2 0 (Slot.mk (max n (r3.Columns.length : Int)) 0 0) 0)] r57 hr57) tf_call_8 ⟨O, O, O, O, trivial⟩) ?_
  refine JLg (.tup [LS 4 Task.av r57.1, G0 r57.2]) (G7 O O) ?_
  refine JLg (LS 4 Task.av r57.1) (Gv O O O) ?_
  refine JLg (G0 r57.2) (Gv O O O) ?_
  refine JLg (LS 4 Task.av r57.1) (G9 O O) ?_
  refine JLg (G0 r57.2) (G9 O O) ?_
  refine G8 (hK56 _ _ ?_)
  refine G6 fun K58 hK58 => G2 ?_
  refine JLg (.agg (Ship.cs r3)) (Gg H5 O O O) ?_
  refine JLg (G0 n) (G7 O O) ?_
  refine JLg (G0 (min n (-1))) (A_min O O O) ?_
  refine JLg (.agg [G0 (min n (-1)), G0 0, U8 0]) (H8 (cs := [G0 (min n (-1)), G0 0, U8 0]) [(0, 1), (1, 1), (2, 1)] [G0 0, G0 0, U8 0] [.int .i64 0, .int .i64 0, .int .u8 0] tf_places_51 tf_zero_51 ⟨.inl O, .inl O, .inl O, trivial⟩ O O) ?_
  refine JLg (.agg [U8 3, G0 0, G0 (min n (-1)), G0 0, U8 0, G0 0]) (H8 (cs := [U8 3, G0 0, G0 (min n (-1)), G0 0, U8 0, G0 0]) [(0, 1), (1, 1), (2, 3), (5, 1)] [U8 0, G0 0, G0 0, G0 0, U8 0, G0 0] [.int .u8 0, .int .i64 0, .int .i64 0, .int .i64 0, .int .u8 0, .int .i64 0] Jb Jm ⟨.inl O, .inl O, .inl O, .inl O, .inl O, .inl O, trivial⟩ O O) ?_
  refine JLg (LS 6 Move.av [(Move.mk 3 0 (Slot.mk (min n (-1)) 0 0) 0)]) (Gu (xs := [.agg [U8 3, G0 0, G0 (min n (-1)), G0 0, U8 0, G0 0]]) O ⟨O, O, trivial⟩ Ho Jk O O O O) ?_
  obtain ⟨r59, hr59, h⟩ := Ge h
  refine JLg (.tup [LS 4 Task.av r59.1, G0 r59.2]) (Gr (args := [.agg (Ship.cs r3), LS 6 Move.av [(Move.mk 3 0 (Slot.mk (min n (-1)) 0 0) 0)]]) O (S_moves_Tasks_w.down F r3 [(Move.mk 3 0 (Slot.mk (min n (-1)) 0 0) 0)] r59 hr59) tf_call_8 ⟨O, O, O, O, trivial⟩) ?_
  refine JLg (.tup [LS 4 Task.av r59.1, G0 r59.2]) (G7 O O) ?_
  refine JLg (LS 4 Task.av r59.1) (Gv O O O) ?_
  refine JLg (G0 r59.2) (Gv O O O) ?_
  refine JLg (LS 4 Task.av r59.1) (G9 O O) ?_
  refine JLg (G0 r59.2) (G9 O O) ?_
  refine G8 (hK58 _ _ ?_)
  refine G6 fun K60 hK60 => G2 ?_
  refine JLg (.agg (Ship.cs r3)) (Gg H5 O O O) ?_
  refine JLg (.agg [U8 0, G0 0, G0 0, G0 0, U8 0, G0 0]) (H8 (cs := [U8 0, G0 0, G0 0, G0 0, U8 0, G0 0]) [(0, 1), (1, 1), (2, 3), (5, 1)] [U8 0, G0 0, G0 0, G0 0, U8 0, G0 0] [.int .u8 0, .int .i64 0, .int .i64 0, .int .i64 0, .int .u8 0, .int .i64 0] Jb Jm ⟨.inl O, .inl O, .inl O, .inl O, .inl O, .inl O, trivial⟩ O O) ?_
  refine JLg (LS 6 Move.av [(Move.mk 0 0 (Slot.mk 0 0 0) 0)]) (Gu (xs := [.agg [U8 0, G0 0, G0 0, G0 0, U8 0, G0 0]]) O ⟨O, O, trivial⟩ Ho Jk O O O O) ?_
  obtain ⟨r61, hr61, h⟩ := Ge h
  refine JLg (.tup [LS 4 Task.av r61.1, G0 r61.2]) (Gr (args := [.agg (Ship.cs r3), LS 6 Move.av [(Move.mk 0 0 (Slot.mk 0 0 0) 0)]]) O (S_moves_Tasks_w.down F r3 [(Move.mk 0 0 (Slot.mk 0 0 0) 0)] r61 hr61) tf_call_8 ⟨O, O, O, O, trivial⟩) ?_
  refine JLg (.tup [LS 4 Task.av r61.1, G0 r61.2]) (G7 O O) ?_
  refine JLg (LS 4 Task.av r61.1) (Gv O O O) ?_
  refine JLg (G0 r61.2) (Gv O O O) ?_
  refine JLg (LS 4 Task.av r61.1) (G9 O O) ?_
  refine JLg (G0 r61.2) (G9 O O) ?_
  refine G8 (hK60 _ _ ?_)
  refine G6 fun K62 hK62 => G2 ?_
  refine JLg (.agg (Ship.cs r3)) (Gg H5 O O O) ?_
  refine JLg (.agg [U8 5, G0 0, G0 0, G0 0, U8 0, G0 0]) (H8 (cs := [U8 5, G0 0, G0 0, G0 0, U8 0, G0 0]) [(0, 1), (1, 1), (2, 3), (5, 1)] [U8 0, G0 0, G0 0, G0 0, U8 0, G0 0] [.int .u8 0, .int .i64 0, .int .i64 0, .int .i64 0, .int .u8 0, .int .i64 0] Jb Jm ⟨.inl O, .inl O, .inl O, .inl O, .inl O, .inl O, trivial⟩ O O) ?_
  refine JLg (LS 6 Move.av [(Move.mk 5 0 (Slot.mk 0 0 0) 0)]) (Gu (xs := [.agg [U8 5, G0 0, G0 0, G0 0, U8 0, G0 0]]) O ⟨O, O, trivial⟩ Ho Jk O O O O) ?_
  obtain ⟨r63, hr63, h⟩ := Ge h
  refine JLg (.tup [LS 4 Task.av r63.1, G0 r63.2]) (Gr (args := [.agg (Ship.cs r3), LS 6 Move.av [(Move.mk 5 0 (Slot.mk 0 0 0) 0)]]) O (S_moves_Tasks_w.down F r3 [(Move.mk 5 0 (Slot.mk 0 0 0) 0)] r63 hr63) tf_call_8 ⟨O, O, O, O, trivial⟩) ?_
  refine JLg (.tup [LS 4 Task.av r63.1, G0 r63.2]) (G7 O O) ?_
  refine JLg (LS 4 Task.av r63.1) (Gv O O O) ?_
  refine JLg (G0 r63.2) (Gv O O O) ?_
  refine JLg (LS 4 Task.av r63.1) (G9 O O) ?_
  refine JLg (G0 r63.2) (G9 O O) ?_
  refine G8 (hK62 _ _ ?_)
  refine G6 fun K64 hK64 => G2 ?_
  refine JLg (.agg [LS 12 G5.av ([] : List G5), LS 2 Gc.av ([] : List Gc), G0 0, G0 0, G0 0, G0 0, LS 5 Row.av ([] : List Row), LS 5 Frame.av ([] : List Frame), LS 6 Tank.av ([] : List Tank), G0 0, G0 0, G0 0, G0 0]) (H8 (cs := [LS 12 G5.av ([] : List G5), LS 2 Gc.av ([] : List Gc), G0 0, G0 0, G0 0, G0 0, LS 5 Row.av ([] : List Row), LS 5 Frame.av ([] : List Frame), LS 6 Tank.av ([] : List Tank), G0 0, G0 0, G0 0, G0 0]) [(0, 1), (1, 1), (2, 4), (6, 1), (7, 1), (8, 1), (9, 4)] [LS 12 G5.av ([] : List G5), LS 2 Gc.av ([] : List Gc), G0 0, G0 0, G0 0, G0 0, LS 5 Row.av ([] : List Row), LS 5 Frame.av ([] : List Frame), LS 6 Tank.av ([] : List Tank), G0 0, G0 0, G0 0, G0 0] [.slice none 0 0, .slice none 0 0, .int .i64 0, .int .i64 0, .int .i64 0, .int .i64 0, .slice none 0 0, .slice none 0 0, .slice none 0 0, .int .i64 0, .int .i64 0, .int .i64 0, .int .i64 0] tf_places_35 tf_zero_35 ⟨.inr ⟨_, O, O⟩, .inr ⟨_, O, O⟩, .inl O, .inl O, .inl O, .inl O, .inr ⟨_, O, O⟩, .inr ⟨_, O, O⟩, .inr ⟨_, O, O⟩, .inl O, .inl O, .inl O, .inl O, trivial⟩ O O) ?_
  obtain ⟨r65, hr65, h⟩ := Ge h
  refine JLg (.tup [LS 4 Task.av r65.1, G0 r65.2]) (A_callN1 (args := [.agg [LS 12 G5.av ([] : List G5), LS 2 Gc.av ([] : List Gc), G0 0, G0 0, G0 0, G0 0, LS 5 Row.av ([] : List Row), LS 5 Frame.av ([] : List Frame), LS 6 Tank.av ([] : List Tank), G0 0, G0 0, G0 0, G0 0], LS 6 Move.av ([] : List Move)]) O (S_moves_Tasks_w.down F (Ship.mk [] [] (Light.mk 0 0 0 0) [] [] [] (G4.mk 0 0 0 0)) [] r65 hr65) tf_call_8 ⟨.inl O, O, .inr ⟨_, O, O⟩, O, trivial⟩) ?_
  refine JLg (.tup [LS 4 Task.av r65.1, G0 r65.2]) (G7 O O) ?_
  refine JLg (LS 4 Task.av r65.1) (Gv O O O) ?_
  refine JLg (G0 r65.2) (Gv O O O) ?_
  refine JLg (LS 4 Task.av r65.1) (G9 O O) ?_
  refine JLg (G0 r65.2) (G9 O O) ?_
  refine G8 (hK64 _ _ ?_)
  refine G6 fun K66 hK66 => G2 ?_
  refine JLg (.agg (Ship.cs r3)) (Gg H5 O O O) ?_
  obtain ⟨r67, hr67, h⟩ := Ge h
  refine JLg (.tup [LS 4 Task.av r67.1, G0 r67.2]) (A_callN1 (args := [.agg (Ship.cs r3), LS 6 Move.av ([] : List Move)]) O (S_moves_Tasks_w.down F r3 [] r67 hr67) tf_call_8 ⟨.inl O, O, .inr ⟨_, O, O⟩, O, trivial⟩) ?_
  refine JLg (.tup [LS 4 Task.av r67.1, G0 r67.2]) (G7 O O) ?_
  refine JLg (LS 4 Task.av r67.1) (Gv O O O) ?_
  refine JLg (G0 r67.2) (Gv O O O) ?_
  refine JLg (LS 4 Task.av r67.1) (G9 O O) ?_
  refine JLg (G0 r67.2) (G9 O O) ?_
  refine G8 (hK66 _ _ ?_)
  refine G6 fun K68 hK68 => G2 ?_
  refine JLg (G0 r49.2) (G7 O O) ?_
  refine JLg (BL (decide (r49.2 = 231))) (Hx O O O) ?_
  refine JLg (BL (decide (r49.2 = 231))) (G7 O O) ?_
  refine Gd (u := G0 r51.2) [] O O O .sct trivial (fun hc => G7 O O) ?_
  refine Gd (u := BL (decide (r51.2 = 230))) [(185, G0 r51.2)] O O O .sct ⟨.all id, trivial⟩ (fun hc => Hx O O O) ?_
  refine JLg (BL ((decide (r49.2 = 231)) && (decide (r51.2 = 230)))) (J2 O O O O) ?_
  refine JLg (BL ((decide (r49.2 = 231)) && (decide (r51.2 = 230)))) (G7 O O) ?_
  refine Gd (u := G0 r53.2) [] O O O .sct trivial (fun hc => G7 O O) ?_
  refine Gd (u := BL (decide (r53.2 = 2))) [(189, G0 r53.2)] O O O .sct ⟨.all id, trivial⟩ (fun hc => Hx O O O) ?_
  refine JLg (BL (((decide (r49.2 = 231)) && (decide (r51.2 = 230))) && (decide (r53.2 = 2)))) (J2 O O O O) ?_
  refine JLg (BL (((decide (r49.2 = 231)) && (decide (r51.2 = 230))) && (decide (r53.2 = 2)))) (G7 O O) ?_
  refine Gd (u := G0 r55.2) [] O O O .sct trivial (fun hc => G7 O O) ?_
  refine Gd (u := G0 r53.2) [] O O O .sct trivial (fun hc => G7 O O) ?_
  refine Gd (u := BL (decide (r55.2 = r53.2))) [(193, G0 r55.2), (194, G0 r53.2)] O O O .sct ⟨.all id, .all id, trivial⟩ (fun hc => Hx O O O) ?_
  refine JLg (BL ((((decide (r49.2 = 231)) && (decide (r51.2 = 230))) && (decide (r53.2 = 2))) && (decide (r55.2 = r53.2)))) (J2 O O O O) ?_
  refine JLg (BL ((((decide (r49.2 = 231)) && (decide (r51.2 = 230))) && (decide (r53.2 = 2))) && (decide (r55.2 = r53.2)))) (G7 O O) ?_
  refine Gd (u := G0 r57.2) [] O O O .sct trivial (fun hc => G7 O O) ?_
  refine Gd (u := G0 r53.2) [] O O O .sct trivial (fun hc => G7 O O) ?_
  refine Gd (u := BL (decide (r57.2 = r53.2))) [(198, G0 r57.2), (199, G0 r53.2)] O O O .sct ⟨.all id, .all id, trivial⟩ (fun hc => Hx O O O) ?_
  refine JLg (BL (((((decide (r49.2 = 231)) && (decide (r51.2 = 230))) && (decide (r53.2 = 2))) && (decide (r55.2 = r53.2))) && (decide (r57.2 = r53.2)))) (J2 O O O O) ?_
  refine JLg (BL (((((decide (r49.2 = 231)) && (decide (r51.2 = 230))) && (decide (r53.2 = 2))) && (decide (r55.2 = r53.2))) && (decide (r57.2 = r53.2)))) (G7 O O) ?_
  refine Gd (u := G0 r59.2) [] O O O .sct trivial (fun hc => G7 O O) ?_
  refine Gd (u := G0 r53.2) [] O O O .sct trivial (fun hc => G7 O O) ?_
  refine Gd (u := BL (decide (r59.2 = r53.2))) [(203, G0 r59.2), (204, G0 r53.2)] O O O .sct ⟨.all id, .all id, trivial⟩ (fun hc => Hx O O O) ?_
  refine JLg (BL ((((((decide (r49.2 = 231)) && (decide (r51.2 = 230))) && (decide (r53.2 = 2))) && (decide (r55.2 = r53.2))) && (decide (r57.2 = r53.2))) && (decide (r59.2 = r53.2)))) (J2 O O O O) ?_
  refine JLg (BL ((((((decide (r49.2 = 231)) && (decide (r51.2 = 230))) && (decide (r53.2 = 2))) && (decide (r55.2 = r53.2))) && (decide (r57.2 = r53.2))) && (decide (r59.2 = r53.2)))) (G7 O O) ?_
  refine Gd (u := G0 r61.2) [] O O O .sct trivial (fun hc => G7 O O) ?_
  refine Gd (u := G0 r53.2) [] O O O .sct trivial (fun hc => G7 O O) ?_
  refine Gd (u := BL (decide (r61.2 = r53.2))) [(208, G0 r61.2), (209, G0 r53.2)] O O O .sct ⟨.all id, .all id, trivial⟩ (fun hc => Hx O O O) ?_
  refine JLg (BL (((((((decide (r49.2 = 231)) && (decide (r51.2 = 230))) && (decide (r53.2 = 2))) && (decide (r55.2 = r53.2))) && (decide (r57.2 = r53.2))) && (decide (r59.2 = r53.2))) && (decide (r61.2 = r53.2)))) (J2 O O O O) ?_
  refine JLg (BL (((((((decide (r49.2 = 231)) && (decide (r51.2 = 230))) && (decide (r53.2 = 2))) && (decide (r55.2 = r53.2))) && (decide (r57.2 = r53.2))) && (decide (r59.2 = r53.2))) && (decide (r61.2 = r53.2)))) (G7 O O) ?_
  refine Gd (u := G0 r63.2) [] O O O .sct trivial (fun hc => G7 O O) ?_
  refine Gd (u := G0 r53.2) [] O O O .sct trivial (fun hc => G7 O O) ?_
  refine Gd (u := BL (decide (r63.2 = r53.2))) [(213, G0 r63.2), (214, G0 r53.2)] O O O .sct ⟨.all id, .all id, trivial⟩ (fun hc => Hx O O O) ?_
  refine JLg (BL ((((((((decide (r49.2 = 231)) && (decide (r51.2 = 230))) && (decide (r53.2 = 2))) && (decide (r55.2 = r53.2))) && (decide (r57.2 = r53.2))) && (decide (r59.2 = r53.2))) && (decide (r61.2 = r53.2))) && (decide (r63.2 = r53.2)))) (J2 O O O O) ?_
  refine JLg (BL ((((((((decide (r49.2 = 231)) && (decide (r51.2 = 230))) && (decide (r53.2 = 2))) && (decide (r55.2 = r53.2))) && (decide (r57.2 = r53.2))) && (decide (r59.2 = r53.2))) && (decide (r61.2 = r53.2))) && (decide (r63.2 = r53.2)))) (G7 O O) ?_
  refine Gd (u := G0 r65.2) [] O O O .sct trivial (fun hc => G7 O O) ?_
  refine Gd (u := G0 r53.2) [] O O O .sct trivial (fun hc => G7 O O) ?_
  refine Gd (u := BL (decide (r65.2 = r53.2))) [(218, G0 r65.2), (219, G0 r53.2)] O O O .sct ⟨.all id, .all id, trivial⟩ (fun hc => Hx O O O) ?_
  refine JLg (BL (((((((((decide (r49.2 = 231)) && (decide (r51.2 = 230))) && (decide (r53.2 = 2))) && (decide (r55.2 = r53.2))) && (decide (r57.2 = r53.2))) && (decide (r59.2 = r53.2))) && (decide (r61.2 = r53.2))) && (decide (r63.2 = r53.2))) && (decide (r65.2 = r53.2)))) (J2 O O O O) ?_
  refine JLg (BL (((((((((decide (r49.2 = 231)) && (decide (r51.2 = 230))) && (decide (r53.2 = 2))) && (decide (r55.2 = r53.2))) && (decide (r57.2 = r53.2))) && (decide (r59.2 = r53.2))) && (decide (r61.2 = r53.2))) && (decide (r63.2 = r53.2))) && (decide (r65.2 = r53.2)))) (G7 O O) ?_
  refine Gd (u := G0 r67.2) [] O O O .sct trivial (fun hc => G7 O O) ?_
  refine Gd (u := BL (decide (r67.2 = 0))) [(223, G0 r67.2)] O O O .sct ⟨.all id, trivial⟩ (fun hc => Hx O O O) ?_
  refine JLg (BL ((((((((((decide (r49.2 = 231)) && (decide (r51.2 = 230))) && (decide (r53.2 = 2))) && (decide (r55.2 = r53.2))) && (decide (r57.2 = r53.2))) && (decide (r59.2 = r53.2))) && (decide (r61.2 = r53.2))) && (decide (r63.2 = r53.2))) && (decide (r65.2 = r53.2))) && (decide (r67.2 = 0)))) (J2 O O O O) ?_
  refine JLg (BL ((((((((((decide (r49.2 = 231)) && (decide (r51.2 = 230))) && (decide (r53.2 = 2))) && (decide (r55.2 = r53.2))) && (decide (r57.2 = r53.2))) && (decide (r59.2 = r53.2))) && (decide (r61.2 = r53.2))) && (decide (r63.2 = r53.2))) && (decide (r65.2 = r53.2))) && (decide (r67.2 = 0)))) (G7 O O) ?_
  refine Gd (u := LS 4 Task.av r67.1) [] O O O .sct trivial (fun hc => G7 O O) ?_
  refine Gd (u := G0 (r67.1.length : Int)) [(227, LS 4 Task.av r67.1)] O O O .sct ⟨.all id, trivial⟩ (fun hc => A_lenM (f := Task.av) (xs := r67.1) J0 O O) ?_
  refine Gd (u := BL (decide ((r67.1.length : Int) = 0))) [(228, G0 (r67.1.length : Int))] O O O .sct ⟨.all id, trivial⟩ (fun hc => Hx O O O) ?_
  refine JLg (BL (((((((((((decide (r49.2 = 231)) && (decide (r51.2 = 230))) && (decide (r53.2 = 2))) && (decide (r55.2 = r53.2))) && (decide (r57.2 = r53.2))) && (decide (r59.2 = r53.2))) && (decide (r61.2 = r53.2))) && (decide (r63.2 = r53.2))) && (decide (r65.2 = r53.2))) && (decide (r67.2 = 0))) && (decide ((r67.1.length : Int) = 0)))) (J2 O O O O) ?_
  refine JLg (BL (((((((((((decide (r49.2 = 231)) && (decide (r51.2 = 230))) && (decide (r53.2 = 2))) && (decide (r55.2 = r53.2))) && (decide (r57.2 = r53.2))) && (decide (r59.2 = r53.2))) && (decide (r61.2 = r53.2))) && (decide (r63.2 = r53.2))) && (decide (r65.2 = r53.2))) && (decide (r67.2 = 0))) && (decide ((r67.1.length : Int) = 0)))) (G7 O O) ?_
  obtain ⟨r69, hr69, h⟩ := Ge h
  refine Gd (u := BL r69) [] O O O .sct trivial (fun hc => Gr (args := []) O (M_twistlocklaw30_awake_w F r69 (bif_t hc hr69)) tf_call_10 trivial) ?_
  refine JLg (BL ((((((((((((decide (r49.2 = 231)) && (decide (r51.2 = 230))) && (decide (r53.2 = 2))) && (decide (r55.2 = r53.2))) && (decide (r57.2 = r53.2))) && (decide (r59.2 = r53.2))) && (decide (r61.2 = r53.2))) && (decide (r63.2 = r53.2))) && (decide (r65.2 = r53.2))) && (decide (r67.2 = 0))) && (decide ((r67.1.length : Int) = 0))) && r69)) (J2 O O O O) ?_
  refine JLg (BL ((((((((((((decide (r49.2 = 231)) && (decide (r51.2 = 230))) && (decide (r53.2 = 2))) && (decide (r55.2 = r53.2))) && (decide (r57.2 = r53.2))) && (decide (r59.2 = r53.2))) && (decide (r61.2 = r53.2))) && (decide (r63.2 = r53.2))) && (decide (r65.2 = r53.2))) && (decide (r67.2 = 0))) && (decide ((r67.1.length : Int) = 0))) && r69)) (G9 O O) ?_
  refine G8 (hK68 _ _ ?_)
  refine Gq ?_
  exact ⟨[BL ((((((((((((decide (r49.2 = 231)) && (decide (r51.2 = 230))) && (decide (r53.2 = 2))) && (decide (r55.2 = r53.2))) && (decide (r57.2 = r53.2))) && (decide (r59.2 = r53.2))) && (decide (r61.2 = r53.2))) && (decide (r63.2 = r53.2))) && (decide (r65.2 = r53.2))) && (decide (r67.2 = 0))) && (decide ((r67.1.length : Int) = 0))) && r69)], [], trivial, O, ⟨⟨_, O, .conv (.same O)⟩, trivial⟩, O, congrArg (fun r : Bool => (BL r : AV)) (Option.some.inj h)⟩

end
end Go.Proofs.YtmdnkofmmheoaaaGreat
