import Derived.Test.YthkihfoleenlmaaGreatSortI

import Derived.Shelf.SlSortCmp.NoneTotal
import Derived.Shelf.Sort.Plain
import Derived.Shelf.Slices.In.SortNone
import Derived.Shelf.SlGeneric
import Derived.Shelf.SlLaysF0
import Derived.Ground.SlsfProg
import Derived.Test.YthkihfoleenlmaaGreatProg
import Derived.Ground.NamesProg
import Derived.Shelf.Sort.Plain
/-
 DERIVED: THE SHELF's CONTRACTS AT THIS DUMP,IN PLAIN WORDS (tools/lay-plain.mjs out of 'TryLay.lean',which tools/lay-shelf.mjs wrote): THE SAME DECLARATIONS UNDER THE SAME NAMES: 'import','namespace','open','def','theorem' AND NOTHING ELSE: no command of the shelf's: FOR A HAND-IN. Each laying: the table of numbers ('.._ren') and one theorem,a field a fact of the dump's own or the kernel's comparison; each contract: ONE APPLICATION.
-/
namespace Go.Proofs
open Go.Shelf
def Tryz.sort168_ren:Go.Shelf.Ren:=⟨fun | 6=>168 | 15=>200 | 14=>217 | 28=>236 | 29=>237 | 20=>240 | 21=>241 | 22=>242 | 23=>243 | 24=>244 | 25=>245 | 26=>246 | 27=>247 | 46=>256 | 47=>252 | 48=>253 | 49=>257 | 50=>258 | 57=>260 | n=>n,fun | 22=>146 | 24=>155 | 25=>242 | 3=>3 | 39=>275 | 0=>0 | 53=>323 | 55=>325 | 4=>4 | 46=>315 | 45=>314 | 50=>320 | 5=>5 | 9=>9 | 66=>336 | 70=>340 | 76=>344 | 77=>47 | n=>n,fun | n=>n⟩
theorem Tryz.sort168:Go.Proofs.SlLaysF0.n6 Tryz.prog Tryz.sort168_ren:={
 mixed:=by kernel_rfl
 f6:=⟨Tryz.f168.name,by decide,Tryz.func168.trans (congrArg some (by kernel_rfl))⟩
 f14:=⟨Tryz.f217.name,by decide,Tryz.func217.trans (congrArg some (by kernel_rfl))⟩
 f15:=Tryz.func200.trans (congrArg some (by kernel_rfl))
 f20:=⟨Tryz.f240.name,by decide,Tryz.func240.trans (congrArg some (by kernel_rfl))⟩
 f21:=⟨Tryz.f241.name,by decide,Tryz.func241.trans (congrArg some (by kernel_rfl))⟩
 f22:=⟨Tryz.f242.name,by decide,Tryz.func242.trans (congrArg some (by kernel_rfl))⟩
 f23:=⟨Tryz.f243.name,by decide,Tryz.func243.trans (congrArg some (by kernel_rfl))⟩
 f24:=⟨Tryz.f244.name,by decide,Tryz.func244.trans (congrArg some (by kernel_rfl))⟩
 f25:=⟨Tryz.f245.name,by decide,Tryz.func245.trans (congrArg some (by kernel_rfl))⟩
 f26:=⟨Tryz.f246.name,by decide,Tryz.func246.trans (congrArg some (by kernel_rfl))⟩
 f27:=⟨Tryz.f247.name,by decide,Tryz.func247.trans (congrArg some (by kernel_rfl))⟩
 f28:=Tryz.func236.trans (congrArg some (by kernel_rfl))
 f29:=Tryz.func237.trans (congrArg some (by kernel_rfl))
 f46:=⟨Tryz.f256.name,by decide,Tryz.func256.trans (congrArg some (by kernel_rfl))⟩
 f47:=Tryz.func252.trans (congrArg some (by kernel_rfl))
 f48:=Tryz.func253.trans (congrArg some (by kernel_rfl))
 f49:=⟨Tryz.f257.name,by decide,Tryz.func257.trans (congrArg some (by kernel_rfl))⟩
 f50:=⟨Tryz.f258.name,by decide,Tryz.func258.trans (congrArg some (by kernel_rfl))⟩
 f57:=⟨Tryz.f260.name,by decide,Tryz.func260.trans (congrArg some (by kernel_rfl))⟩
 t0:=Tryz.underlying0
 a0:=Tryz.isAgg0
 z0:=Tryz.sizeOf0
 v0:=Tryz.zeroValue0
 t3:=Tryz.underlying3
 a3:=Tryz.isAgg3
 z3:=Tryz.sizeOf3
 v3:=Tryz.zeroValue3
 t4:=Tryz.underlying4
 a4:=Tryz.isAgg4
 z4:=Tryz.sizeOf4
 v4:=Tryz.zeroValue4
 t5:=Tryz.underlying5
 a5:=Tryz.isAgg5
 z5:=Tryz.sizeOf5
 v5:=Tryz.zeroValue5
 t9:=Tryz.underlying9
 a9:=Tryz.isAgg9
 z9:=Tryz.sizeOf9
 v9:=Tryz.zeroValue9
 t22:=Tryz.underlying146
 a22:=Tryz.isAgg146
 z22:=Tryz.sizeOf146
 v22:=Tryz.zeroValue146
 t25:=Tryz.underlying242
 a25:=Tryz.isAgg242
 z25:=Tryz.sizeOf242
 v25:=Tryz.zeroValue242
 t39:=Tryz.underlying275
 a39:=Tryz.isAgg275
 z39:=Tryz.sizeOf275
 v39:=Tryz.zeroValue275
 t45:=Tryz.underlying314
 a45:=Tryz.isAgg314
 z45:=Tryz.sizeOf314
 v45:=Tryz.zeroValue314
 t46:=Tryz.underlying315
 a46:=Tryz.isAgg315
 z46:=Tryz.sizeOf315
 v46:=Tryz.zeroValue315
 t50:=Tryz.underlying320
 a50:=Tryz.isAgg320
 z50:=Tryz.sizeOf320
 v50:=Tryz.zeroValue320
 t53:=Tryz.underlying323
 a53:=Tryz.isAgg323
 z53:=Tryz.sizeOf323
 v53:=Tryz.zeroValue323
 t55:=Tryz.underlying325
 a55:=Tryz.isAgg325
 z55:=Tryz.sizeOf325
 v55:=Tryz.zeroValue325
 t66:=Tryz.underlying336
 a66:=Tryz.isAgg336
 z66:=Tryz.sizeOf336
 v66:=Tryz.zeroValue336
 t70:=Tryz.underlying340
 a70:=Tryz.isAgg340
 z70:=Tryz.sizeOf340
 v70:=Tryz.zeroValue340
 t76:=Tryz.underlying344
 a76:=Tryz.isAgg344
 z76:=Tryz.sizeOf344
 v76:=Tryz.zeroValue344
 t77:=Tryz.underlying47
 a77:=Tryz.isAgg47
 z77:=Tryz.sizeOf47
 v77:=Tryz.zeroValue47 }
end Go.Proofs
namespace Go.Proofs.YthkihfoleenlmaaGreat
open Go.RowKit Go.Shelf Go.Sort
set_option maxRecDepth 100000
theorem HU:G64 Tryz.prog 168 4:=fun enc hk h1 cf hO g cb blk off cap d w eg hC hH hb hs=>AnyQ.slices_SortFunc_eq Tryz.sort168 4 (fun w=>tX (T:=155) (k:=4) (by kernel_rfl) w) (fun w=>Q2 (T:=155) (k:=4) (by kernel_rfl) w) enc hk h1 cf hO g cb blk off cap d w eg hC hH hb hs
theorem xM:SortNone Tryz.prog 168:=fun g cb w=>(AnyF.slices_SortFunc_none Tryz.sort168 none 0 (.func (.func g) #[] cb) w).mono fun e w' h=>⟨h.1,0,#[],h.2.trans (by rw [World.drewN_zero,grow_empty])⟩
end Go.Proofs.YthkihfoleenlmaaGreat
