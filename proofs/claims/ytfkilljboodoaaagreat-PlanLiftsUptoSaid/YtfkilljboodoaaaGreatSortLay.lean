import Derived.Test.YtfkilljboodoaaaGreatSortI
import Derived.Shelf.SlSortCmp.NoneTotal
import Derived.Shelf.Sort.Plain
import Derived.Shelf.Slices.In.SortNone
import Derived.Shelf.SlGeneric
import Derived.Shelf.SlLaysF0
import Derived.Ground.SlsfProg
import Derived.Test.YtfkilljboodoaaaGreatProg
import Derived.Ground.NamesProg
import Derived.Shelf.Sort.Plain
/-
 DERIVED: THE SHELF's CONTRACTS AT THIS DUMP,IN PLAIN WORDS (tools/lay-plain.mjs out of 'TryLay.lean',which tools/lay-shelf.mjs wrote): THE SAME DECLARATIONS UNDER THE SAME NAMES: 'import','namespace','open','def','theorem' AND NOTHING ELSE: no command of the shelf's: FOR A HAND-IN. Each laying: the table of numbers ('.._ren') and one theorem,a field a fact of the dump's own or the kernel's comparison; each contract: ONE APPLICATION.
-/
namespace Go.Proofs
open Go.Shelf
def Tryz.sort172_ren:Go.Shelf.Ren:=⟨fun | 189=>172 | 125=>215 | 257=>256 | 128=>274 | 129=>275 | 294=>293 | 295=>294 | 296=>295 | 297=>296 | 298=>297 | 299=>298 | 216=>299 | 300=>300 | 301=>301 | 328=>316 | 329=>303 | 330=>304 | 331=>317 | 332=>318 | 215=>276 | 343=>333 | n=>n,fun | 28=>51 | 3=>3 | 46=>286 | 0=>0 | 51=>358 | 53=>360 | 4=>4 | 183=>351 | 182=>350 | 131=>355 | 5=>5 | 9=>9 | 218=>379 | 222=>383 | 228=>396 | 229=>47 | n=>n,fun | n=>n⟩
theorem Tryz.sort172:Go.Proofs.Lays.n189 Tryz.prog Tryz.sort172_ren:={
 mixed:=by kernel_rfl
 f125:=Tryz.func215.trans (congrArg some (by kernel_rfl))
 f128:=Tryz.func274.trans (congrArg some (by kernel_rfl))
 f129:=Tryz.func275.trans (congrArg some (by kernel_rfl))
 f189:=Tryz.func172.trans (congrArg some (by kernel_rfl))
 f215:=Tryz.func276.trans (congrArg some (by kernel_rfl))
 f216:=Tryz.func299.trans (congrArg some (by kernel_rfl))
 f257:=Tryz.func256.trans (congrArg some (by kernel_rfl))
 f294:=Tryz.func293.trans (congrArg some (by kernel_rfl))
 f295:=Tryz.func294.trans (congrArg some (by kernel_rfl))
 f296:=Tryz.func295.trans (congrArg some (by kernel_rfl))
 f297:=Tryz.func296.trans (congrArg some (by kernel_rfl))
 f298:=Tryz.func297.trans (congrArg some (by kernel_rfl))
 f299:=Tryz.func298.trans (congrArg some (by kernel_rfl))
 f300:=Tryz.func300.trans (congrArg some (by kernel_rfl))
 f301:=Tryz.func301.trans (congrArg some (by kernel_rfl))
 f328:=Tryz.func316.trans (congrArg some (by kernel_rfl))
 f329:=Tryz.func303.trans (congrArg some (by kernel_rfl))
 f330:=Tryz.func304.trans (congrArg some (by kernel_rfl))
 f331:=Tryz.func317.trans (congrArg some (by kernel_rfl))
 f332:=Tryz.func318.trans (congrArg some (by kernel_rfl))
 f343:=Tryz.func333.trans (congrArg some (by kernel_rfl))
 t0:=Tryz.underlying0
 a0:=Tryz.isAgg0
 z0:=Tryz.sizeOf0
 v0:=Tryz.zeroValue0
 t3:=Tryz.underlying3
 a3:=Tryz.isAgg3
 z3:=Tryz.sizeOf3
 v3:=Tryz.zeroValue3
 t4:=Tryz.underlying4
 a4:=Tryz.isAgg4
 z4:=Tryz.sizeOf4
 v4:=Tryz.zeroValue4
 t5:=Tryz.underlying5
 a5:=Tryz.isAgg5
 z5:=Tryz.sizeOf5
 v5:=Tryz.zeroValue5
 t9:=Tryz.underlying9
 a9:=Tryz.isAgg9
 z9:=Tryz.sizeOf9
 v9:=Tryz.zeroValue9
 t28:=Tryz.underlying51
 a28:=Tryz.isAgg51
 z28:=Tryz.sizeOf51
 v28:=Tryz.zeroValue51
 t46:=Tryz.underlying286
 a46:=Tryz.isAgg286
 z46:=Tryz.sizeOf286
 v46:=Tryz.zeroValue286
 t51:=Tryz.underlying358
 a51:=Tryz.isAgg358
 z51:=Tryz.sizeOf358
 v51:=Tryz.zeroValue358
 t53:=Tryz.underlying360
 a53:=Tryz.isAgg360
 z53:=Tryz.sizeOf360
 v53:=Tryz.zeroValue360
 t131:=Tryz.underlying355
 a131:=Tryz.isAgg355
 z131:=Tryz.sizeOf355
 v131:=Tryz.zeroValue355
 t182:=Tryz.underlying350
 a182:=Tryz.isAgg350
 z182:=Tryz.sizeOf350
 v182:=Tryz.zeroValue350
 t183:=Tryz.underlying351
 a183:=Tryz.isAgg351
 z183:=Tryz.sizeOf351
 v183:=Tryz.zeroValue351
 t218:=Tryz.underlying379
 a218:=Tryz.isAgg379
 z218:=Tryz.sizeOf379
 v218:=Tryz.zeroValue379
 t222:=Tryz.underlying383
 a222:=Tryz.isAgg383
 z222:=Tryz.sizeOf383
 v222:=Tryz.zeroValue383
 t228:=Tryz.underlying396
 a228:=Tryz.isAgg396
 z228:=Tryz.sizeOf396
 v228:=Tryz.zeroValue396
 t229:=Tryz.underlying47
 a229:=Tryz.isAgg47
 z229:=Tryz.sizeOf47
 v229:=Tryz.zeroValue47 }
end Go.Proofs
namespace Go.Proofs.YtfkilljboodoaaaGreat
open Go.RowKit Go.Shelf Go.Sort
set_option maxRecDepth 100000
theorem Hd8:J86 Tryz.prog 172:=fun blk off cap zs w hH hb hs=>Any.slices_Sort_int Tryz.sort172 blk off cap zs w hH hb hs
theorem Hb4:J07 Tryz.prog 172:=fun p cap w=>Any.slices_Sort_int_none Tryz.sort172 p cap w
end Go.Proofs.YtfkilljboodoaaaGreat
