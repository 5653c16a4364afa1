import Derived.Test.YtapmanciffiibaaGreatSortI

import Derived.Shelf.Sort.Plain
import Derived.Shelf.Slices.In.SortNone
import Derived.Shelf.SlGeneric
import Derived.Shelf.SlLaysF0
import Derived.Ground.SlsfProg
import Derived.Test.YtapmanciffiibaaGreatProg
import Derived.Ground.NamesProg
import Derived.Shelf.Sort.Plain
set_option linter.unusedVariables false
set_option linter.unusedSimpArgs false
set_option linter.unnecessarySimpa false
/-
 DERIVED: THE SHELF's CONTRACTS AT THIS DUMP,IN PLAIN WORDS (tools/lay-plain.mjs out of 'TryLay.lean',which tools/lay-shelf.mjs wrote): THE SAME DECLARATIONS UNDER THE SAME NAMES: 'import','namespace','open','def','theorem' AND NOTHING ELSE: no command of the shelf's: FOR A HAND-IN. Each laying: the table of numbers ('.._ren') and one theorem,a field a fact of the dump's own or the kernel's comparison; each contract: ONE APPLICATION.
-/
namespace Go.Proofs
open Go.Shelf
def Tryz.sort19_ren:Go.Shelf.Ren:=⟨fun | 189=>19 | 125=>43 | 257=>42 | 128=>79 | 129=>80 | 294=>70 | 295=>71 | 296=>72 | 297=>73 | 298=>74 | 299=>75 | 216=>76 | 300=>77 | 301=>78 | 328=>95 | 329=>96 | 330=>97 | 331=>98 | 332=>99 | 215=>100 | 343=>104 | n=>n,fun | 28=>42 | 3=>3 | 46=>104 | 0=>0 | 51=>23 | 53=>142 | 4=>4 | 183=>134 | 182=>133 | 131=>91 | 5=>5 | 9=>9 | 218=>157 | 222=>161 | 228=>165 | 229=>166 | n=>n,fun | n=>n⟩
theorem Tryz.sort19:Go.Proofs.Lays.n189 Tryz.prog Tryz.sort19_ren:={
 mixed:=by kernel_rfl
 f125:=Tryz.func43.trans (congrArg some (by kernel_rfl))
 f128:=Tryz.func79.trans (congrArg some (by kernel_rfl))
 f129:=Tryz.func80.trans (congrArg some (by kernel_rfl))
 f189:=Tryz.func19.trans (congrArg some (by kernel_rfl))
 f215:=Tryz.func100.trans (congrArg some (by kernel_rfl))
 f216:=Tryz.func76.trans (congrArg some (by kernel_rfl))
 f257:=Tryz.func42.trans (congrArg some (by kernel_rfl))
 f294:=Tryz.func70.trans (congrArg some (by kernel_rfl))
 f295:=Tryz.func71.trans (congrArg some (by kernel_rfl))
 f296:=Tryz.func72.trans (congrArg some (by kernel_rfl))
 f297:=Tryz.func73.trans (congrArg some (by kernel_rfl))
 f298:=Tryz.func74.trans (congrArg some (by kernel_rfl))
 f299:=Tryz.func75.trans (congrArg some (by kernel_rfl))
 f300:=Tryz.func77.trans (congrArg some (by kernel_rfl))
 f301:=Tryz.func78.trans (congrArg some (by kernel_rfl))
 f328:=Tryz.func95.trans (congrArg some (by kernel_rfl))
 f329:=Tryz.func96.trans (congrArg some (by kernel_rfl))
 f330:=Tryz.func97.trans (congrArg some (by kernel_rfl))
 f331:=Tryz.func98.trans (congrArg some (by kernel_rfl))
 f332:=Tryz.func99.trans (congrArg some (by kernel_rfl))
 f343:=Tryz.func104.trans (congrArg some (by kernel_rfl))
 t0:=Tryz.underlying0
 a0:=Tryz.isAgg0
 z0:=Tryz.sizeOf0
 v0:=Tryz.zeroValue0
 t3:=Tryz.underlying3
 a3:=Tryz.isAgg3
 z3:=Tryz.sizeOf3
 v3:=Tryz.zeroValue3
 t4:=Tryz.underlying4
 a4:=Tryz.isAgg4
 z4:=Tryz.sizeOf4
 v4:=Tryz.zeroValue4
 t5:=Tryz.underlying5
 a5:=Tryz.isAgg5
 z5:=Tryz.sizeOf5
 v5:=Tryz.zeroValue5
 t9:=Tryz.underlying9
 a9:=Tryz.isAgg9
 z9:=Tryz.sizeOf9
 v9:=Tryz.zeroValue9
 t28:=Tryz.underlying42
 a28:=Tryz.isAgg42
 z28:=Tryz.sizeOf42
 v28:=Tryz.zeroValue42
 t46:=Tryz.underlying104
 a46:=Tryz.isAgg104
 z46:=Tryz.sizeOf104
 v46:=Tryz.zeroValue104
 t51:=Tryz.underlying23
 a51:=Tryz.isAgg23
 z51:=Tryz.sizeOf23
 v51:=Tryz.zeroValue23
 t53:=Tryz.underlying142
 a53:=Tryz.isAgg142
 z53:=Tryz.sizeOf142
 v53:=Tryz.zeroValue142
 t131:=Tryz.underlying91
 a131:=Tryz.isAgg91
 z131:=Tryz.sizeOf91
 v131:=Tryz.zeroValue91
 t182:=Tryz.underlying133
 a182:=Tryz.isAgg133
 z182:=Tryz.sizeOf133
 v182:=Tryz.zeroValue133
 t183:=Tryz.underlying134
 a183:=Tryz.isAgg134
 z183:=Tryz.sizeOf134
 v183:=Tryz.zeroValue134
 t218:=Tryz.underlying157
 a218:=Tryz.isAgg157
 z218:=Tryz.sizeOf157
 v218:=Tryz.zeroValue157
 t222:=Tryz.underlying161
 a222:=Tryz.isAgg161
 z222:=Tryz.sizeOf161
 v222:=Tryz.zeroValue161
 t228:=Tryz.underlying165
 a228:=Tryz.isAgg165
 z228:=Tryz.sizeOf165
 v228:=Tryz.zeroValue165
 t229:=Tryz.underlying166
 a229:=Tryz.isAgg166
 z229:=Tryz.sizeOf166
 v229:=Tryz.zeroValue166 }
end Go.Proofs
namespace Go.Proofs.YtapmanciffiibaaGreat
open Go.RowKit Go.Shelf Go.Sort
set_option maxRecDepth 100000
theorem sortILaw_19:J10 Tryz.prog 19:=fun blk off cap zs w hH hb hs=>Any.slices_Sort_int Tryz.sort19 blk off cap zs w hH hb hs
theorem sortINone_19:H8f Tryz.prog 19:=fun p cap w=>Any.slices_Sort_int_none Tryz.sort19 p cap w
end Go.Proofs.YtapmanciffiibaaGreat
