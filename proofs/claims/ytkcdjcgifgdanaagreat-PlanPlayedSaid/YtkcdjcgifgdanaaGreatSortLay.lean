import Derived.Test.YtkcdjcgifgdanaaGreatSortI

import Derived.Shelf.Sort.Plain
import Derived.Shelf.Slices.In.SortNone
import Derived.Shelf.SlGeneric
import Derived.Shelf.SlLaysF0
import Derived.Ground.SlsfProg
import Derived.Test.YtkcdjcgifgdanaaGreatProg
import Derived.Ground.NamesProg
import Derived.Shelf.Sort.Plain
set_option linter.unusedVariables false
set_option linter.unusedSimpArgs false
set_option linter.unnecessarySimpa false
/-
 DERIVED: THE SHELF's CONTRACTS AT THIS DUMP,IN PLAIN WORDS (tools/lay-plain.mjs out of 'TryLay.lean',which tools/lay-shelf.mjs wrote): THE SAME DECLARATIONS UNDER THE SAME NAMES: 'import','namespace','open','def','theorem' AND NOTHING ELSE: no command of the shelf's: FOR A HAND-IN. Each laying: the table of numbers ('.._ren') and one theorem,a field a fact of the dump's own or the kernel's comparison; each contract: ONE APPLICATION.
-/
namespace Go.Proofs
open Go.Shelf
def Tryz.sort53_ren:Go.Shelf.Ren:=⟨fun | 189=>53 | 125=>84 | 257=>83 | 128=>113 | 129=>114 | 294=>105 | 295=>106 | 296=>107 | 297=>108 | 298=>109 | 299=>110 | 216=>87 | 300=>111 | 301=>112 | 328=>121 | 329=>122 | 330=>123 | 331=>124 | 332=>125 | 215=>117 | 343=>130 | n=>n,fun | 28=>50 | 3=>3 | 46=>159 | 0=>0 | 51=>23 | 53=>181 | 4=>4 | 183=>174 | 182=>173 | 131=>64 | 5=>5 | 9=>9 | 218=>186 | 222=>190 | 228=>193 | 229=>194 | n=>n,fun | n=>n⟩
theorem Tryz.sort53:Go.Proofs.Lays.n189 Tryz.prog Tryz.sort53_ren:={
 mixed:=by kernel_rfl
 f125:=Tryz.func84.trans (congrArg some (by kernel_rfl))
 f128:=Tryz.func113.trans (congrArg some (by kernel_rfl))
 f129:=Tryz.func114.trans (congrArg some (by kernel_rfl))
 f189:=Tryz.func53.trans (congrArg some (by kernel_rfl))
 f215:=Tryz.func117.trans (congrArg some (by kernel_rfl))
 f216:=Tryz.func87.trans (congrArg some (by kernel_rfl))
 f257:=Tryz.func83.trans (congrArg some (by kernel_rfl))
 f294:=Tryz.func105.trans (congrArg some (by kernel_rfl))
 f295:=Tryz.func106.trans (congrArg some (by kernel_rfl))
 f296:=Tryz.func107.trans (congrArg some (by kernel_rfl))
 f297:=Tryz.func108.trans (congrArg some (by kernel_rfl))
 f298:=Tryz.func109.trans (congrArg some (by kernel_rfl))
 f299:=Tryz.func110.trans (congrArg some (by kernel_rfl))
 f300:=Tryz.func111.trans (congrArg some (by kernel_rfl))
 f301:=Tryz.func112.trans (congrArg some (by kernel_rfl))
 f328:=Tryz.func121.trans (congrArg some (by kernel_rfl))
 f329:=Tryz.func122.trans (congrArg some (by kernel_rfl))
 f330:=Tryz.func123.trans (congrArg some (by kernel_rfl))
 f331:=Tryz.func124.trans (congrArg some (by kernel_rfl))
 f332:=Tryz.func125.trans (congrArg some (by kernel_rfl))
 f343:=Tryz.func130.trans (congrArg some (by kernel_rfl))
 t0:=Tryz.underlying0
 a0:=Tryz.isAgg0
 z0:=Tryz.sizeOf0
 v0:=Tryz.zeroValue0
 t3:=Tryz.underlying3
 a3:=Tryz.isAgg3
 z3:=Tryz.sizeOf3
 v3:=Tryz.zeroValue3
 t4:=Tryz.underlying4
 a4:=Tryz.isAgg4
 z4:=Tryz.sizeOf4
 v4:=Tryz.zeroValue4
 t5:=Tryz.underlying5
 a5:=Tryz.isAgg5
 z5:=Tryz.sizeOf5
 v5:=Tryz.zeroValue5
 t9:=Tryz.underlying9
 a9:=Tryz.isAgg9
 z9:=Tryz.sizeOf9
 v9:=Tryz.zeroValue9
 t28:=Tryz.underlying50
 a28:=Tryz.isAgg50
 z28:=Tryz.sizeOf50
 v28:=Tryz.zeroValue50
 t46:=Tryz.underlying159
 a46:=Tryz.isAgg159
 z46:=Tryz.sizeOf159
 v46:=Tryz.zeroValue159
 t51:=Tryz.underlying23
 a51:=Tryz.isAgg23
 z51:=Tryz.sizeOf23
 v51:=Tryz.zeroValue23
 t53:=Tryz.underlying181
 a53:=Tryz.isAgg181
 z53:=Tryz.sizeOf181
 v53:=Tryz.zeroValue181
 t131:=Tryz.underlying64
 a131:=Tryz.isAgg64
 z131:=Tryz.sizeOf64
 v131:=Tryz.zeroValue64
 t182:=Tryz.underlying173
 a182:=Tryz.isAgg173
 z182:=Tryz.sizeOf173
 v182:=Tryz.zeroValue173
 t183:=Tryz.underlying174
 a183:=Tryz.isAgg174
 z183:=Tryz.sizeOf174
 v183:=Tryz.zeroValue174
 t218:=Tryz.underlying186
 a218:=Tryz.isAgg186
 z218:=Tryz.sizeOf186
 v218:=Tryz.zeroValue186
 t222:=Tryz.underlying190
 a222:=Tryz.isAgg190
 z222:=Tryz.sizeOf190
 v222:=Tryz.zeroValue190
 t228:=Tryz.underlying193
 a228:=Tryz.isAgg193
 z228:=Tryz.sizeOf193
 v228:=Tryz.zeroValue193
 t229:=Tryz.underlying194
 a229:=Tryz.isAgg194
 z229:=Tryz.sizeOf194
 v229:=Tryz.zeroValue194 }
end Go.Proofs
namespace Go.Proofs.YtkcdjcgifgdanaaGreat
open Go.RowKit Go.Shelf Go.Sort
set_option maxRecDepth 100000
theorem J18:J94 Tryz.prog 53:=fun blk off cap zs w hH hb hs=>Any.slices_Sort_int Tryz.sort53 blk off cap zs w hH hb hs
theorem Hcb:J03 Tryz.prog 53:=fun p cap w=>Any.slices_Sort_int_none Tryz.sort53 p cap w
end Go.Proofs.YtkcdjcgifgdanaaGreat
