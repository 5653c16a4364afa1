import Derived.Test.YthkihfoleenlmaaGreatSortI

import Derived.Shelf.SlSortCmp.NoneTotal
import Derived.Shelf.Sort.Plain
import Derived.Shelf.Slices.In.SortNone
import Derived.Shelf.SlGeneric
import Derived.Shelf.SlLaysF0
import Derived.Ground.SlsfProg
import Derived.Test.YthkihfoleenlmaaGreatProg
import Derived.Ground.NamesProg
import Derived.Shelf.Sort.Plain
/-
 DERIVED: THE SHELF's CONTRACTS AT THIS DUMP,IN PLAIN WORDS (tools/lay-plain.mjs out of 'TryLay.lean',which tools/lay-shelf.mjs wrote): THE SAME DECLARATIONS UNDER THE SAME NAMES: 'import','namespace','open','def','theorem' AND NOTHING ELSE: no command of the shelf's: FOR A HAND-IN. Each laying: the table of numbers ('.._ren') and one theorem,a field a fact of the dump's own or the kernel's comparison; each contract: ONE APPLICATION.
-/
namespace Go.Proofs
open Go.Shelf
def Tryz.sort122_ren:Go.Shelf.Ren:=⟨fun | 189=>122 | 125=>200 | 257=>199 | 128=>236 | 129=>237 | 294=>227 | 295=>228 | 296=>229 | 297=>230 | 298=>231 | 299=>232 | 216=>233 | 300=>234 | 301=>235 | 328=>251 | 329=>252 | 330=>253 | 331=>254 | 332=>255 | 215=>248 | 343=>259 | n=>n,fun | 28=>51 | 3=>3 | 46=>275 | 0=>0 | 51=>323 | 53=>325 | 4=>4 | 183=>315 | 182=>314 | 131=>320 | 5=>5 | 9=>9 | 218=>336 | 222=>340 | 228=>344 | 229=>47 | n=>n,fun | n=>n⟩
theorem Tryz.sort122:Go.Proofs.Lays.n189 Tryz.prog Tryz.sort122_ren:={
 mixed:=by kernel_rfl
 f125:=Tryz.func200.trans (congrArg some (by kernel_rfl))
 f128:=Tryz.func236.trans (congrArg some (by kernel_rfl))
 f129:=Tryz.func237.trans (congrArg some (by kernel_rfl))
 f189:=Tryz.func122.trans (congrArg some (by kernel_rfl))
 f215:=Tryz.func248.trans (congrArg some (by kernel_rfl))
 f216:=Tryz.func233.trans (congrArg some (by kernel_rfl))
 f257:=Tryz.func199.trans (congrArg some (by kernel_rfl))
 f294:=Tryz.func227.trans (congrArg some (by kernel_rfl))
 f295:=Tryz.func228.trans (congrArg some (by kernel_rfl))
 f296:=Tryz.func229.trans (congrArg some (by kernel_rfl))
 f297:=Tryz.func230.trans (congrArg some (by kernel_rfl))
 f298:=Tryz.func231.trans (congrArg some (by kernel_rfl))
 f299:=Tryz.func232.trans (congrArg some (by kernel_rfl))
 f300:=Tryz.func234.trans (congrArg some (by kernel_rfl))
 f301:=Tryz.func235.trans (congrArg some (by kernel_rfl))
 f328:=Tryz.func251.trans (congrArg some (by kernel_rfl))
 f329:=Tryz.func252.trans (congrArg some (by kernel_rfl))
 f330:=Tryz.func253.trans (congrArg some (by kernel_rfl))
 f331:=Tryz.func254.trans (congrArg some (by kernel_rfl))
 f332:=Tryz.func255.trans (congrArg some (by kernel_rfl))
 f343:=Tryz.func259.trans (congrArg some (by kernel_rfl))
 t0:=Tryz.underlying0
 a0:=Tryz.isAgg0
 z0:=Tryz.sizeOf0
 v0:=Tryz.zeroValue0
 t3:=Tryz.underlying3
 a3:=Tryz.isAgg3
 z3:=Tryz.sizeOf3
 v3:=Tryz.zeroValue3
 t4:=Tryz.underlying4
 a4:=Tryz.isAgg4
 z4:=Tryz.sizeOf4
 v4:=Tryz.zeroValue4
 t5:=Tryz.underlying5
 a5:=Tryz.isAgg5
 z5:=Tryz.sizeOf5
 v5:=Tryz.zeroValue5
 t9:=Tryz.underlying9
 a9:=Tryz.isAgg9
 z9:=Tryz.sizeOf9
 v9:=Tryz.zeroValue9
 t28:=Tryz.underlying51
 a28:=Tryz.isAgg51
 z28:=Tryz.sizeOf51
 v28:=Tryz.zeroValue51
 t46:=Tryz.underlying275
 a46:=Tryz.isAgg275
 z46:=Tryz.sizeOf275
 v46:=Tryz.zeroValue275
 t51:=Tryz.underlying323
 a51:=Tryz.isAgg323
 z51:=Tryz.sizeOf323
 v51:=Tryz.zeroValue323
 t53:=Tryz.underlying325
 a53:=Tryz.isAgg325
 z53:=Tryz.sizeOf325
 v53:=Tryz.zeroValue325
 t131:=Tryz.underlying320
 a131:=Tryz.isAgg320
 z131:=Tryz.sizeOf320
 v131:=Tryz.zeroValue320
 t182:=Tryz.underlying314
 a182:=Tryz.isAgg314
 z182:=Tryz.sizeOf314
 v182:=Tryz.zeroValue314
 t183:=Tryz.underlying315
 a183:=Tryz.isAgg315
 z183:=Tryz.sizeOf315
 v183:=Tryz.zeroValue315
 t218:=Tryz.underlying336
 a218:=Tryz.isAgg336
 z218:=Tryz.sizeOf336
 v218:=Tryz.zeroValue336
 t222:=Tryz.underlying340
 a222:=Tryz.isAgg340
 z222:=Tryz.sizeOf340
 v222:=Tryz.zeroValue340
 t228:=Tryz.underlying344
 a228:=Tryz.isAgg344
 z228:=Tryz.sizeOf344
 v228:=Tryz.zeroValue344
 t229:=Tryz.underlying47
 a229:=Tryz.isAgg47
 z229:=Tryz.sizeOf47
 v229:=Tryz.zeroValue47 }
end Go.Proofs
namespace Go.Proofs.YthkihfoleenlmaaGreat
open Go.RowKit Go.Shelf Go.Sort
set_option maxRecDepth 100000
theorem GC:G2c Tryz.prog 122:=fun blk off cap zs w hH hb hs=>Any.slices_Sort_int Tryz.sort122 blk off cap zs w hH hb hs
theorem yA:JK Tryz.prog 122:=fun p cap w=>Any.slices_Sort_int_none Tryz.sort122 p cap w
end Go.Proofs.YthkihfoleenlmaaGreat
