import Derived.Test.YtbljcmgjmieffaaGreatSortI

import Derived.Shelf.Sort.Plain
import Derived.Shelf.Slices.In.SortNone
import Derived.Shelf.SlGeneric
import Derived.Shelf.SlLaysF0
import Derived.Ground.SlsfProg
import Derived.Test.YtbljcmgjmieffaaGreatProg
import Derived.Ground.NamesProg
import Derived.Shelf.Sort.Plain
set_option linter.unusedVariables false
set_option linter.unusedSimpArgs false
set_option linter.unnecessarySimpa false
/-
 DERIVED: THE SHELF's CONTRACTS AT THIS DUMP,IN PLAIN WORDS (tools/lay-plain.mjs out of 'TryLay.lean',which tools/lay-shelf.mjs wrote): THE SAME DECLARATIONS UNDER THE SAME NAMES: 'import','namespace','open','def','theorem' AND NOTHING ELSE: no command of the shelf's: FOR A HAND-IN. Each laying: the table of numbers ('.._ren') and one theorem,a field a fact of the dump's own or the kernel's comparison; each contract: ONE APPLICATION.
-/
namespace Go.Proofs
open Go.Shelf
def Tryz.sort30_ren:Go.Shelf.Ren:=⟨fun | 189=>30 | 125=>57 | 257=>56 | 128=>92 | 129=>93 | 294=>84 | 295=>85 | 296=>86 | 297=>87 | 298=>88 | 299=>89 | 216=>59 | 300=>90 | 301=>91 | 328=>105 | 329=>106 | 330=>107 | 331=>108 | 332=>109 | 215=>94 | 343=>113 | n=>n,fun | 28=>43 | 3=>3 | 46=>117 | 0=>0 | 51=>23 | 53=>152 | 4=>4 | 183=>145 | 182=>144 | 131=>88 | 5=>5 | 9=>9 | 218=>163 | 222=>167 | 228=>170 | 229=>171 | n=>n,fun | n=>n⟩
theorem Tryz.sort30:Go.Proofs.Lays.n189 Tryz.prog Tryz.sort30_ren:={
 mixed:=by kernel_rfl
 f125:=Tryz.func57.trans (congrArg some (by kernel_rfl))
 f128:=Tryz.func92.trans (congrArg some (by kernel_rfl))
 f129:=Tryz.func93.trans (congrArg some (by kernel_rfl))
 f189:=Tryz.func30.trans (congrArg some (by kernel_rfl))
 f215:=Tryz.func94.trans (congrArg some (by kernel_rfl))
 f216:=Tryz.func59.trans (congrArg some (by kernel_rfl))
 f257:=Tryz.func56.trans (congrArg some (by kernel_rfl))
 f294:=Tryz.func84.trans (congrArg some (by kernel_rfl))
 f295:=Tryz.func85.trans (congrArg some (by kernel_rfl))
 f296:=Tryz.func86.trans (congrArg some (by kernel_rfl))
 f297:=Tryz.func87.trans (congrArg some (by kernel_rfl))
 f298:=Tryz.func88.trans (congrArg some (by kernel_rfl))
 f299:=Tryz.func89.trans (congrArg some (by kernel_rfl))
 f300:=Tryz.func90.trans (congrArg some (by kernel_rfl))
 f301:=Tryz.func91.trans (congrArg some (by kernel_rfl))
 f328:=Tryz.func105.trans (congrArg some (by kernel_rfl))
 f329:=Tryz.func106.trans (congrArg some (by kernel_rfl))
 f330:=Tryz.func107.trans (congrArg some (by kernel_rfl))
 f331:=Tryz.func108.trans (congrArg some (by kernel_rfl))
 f332:=Tryz.func109.trans (congrArg some (by kernel_rfl))
 f343:=Tryz.func113.trans (congrArg some (by kernel_rfl))
 t0:=Tryz.underlying0
 a0:=Tryz.isAgg0
 z0:=Tryz.sizeOf0
 v0:=Tryz.zeroValue0
 t3:=Tryz.underlying3
 a3:=Tryz.isAgg3
 z3:=Tryz.sizeOf3
 v3:=Tryz.zeroValue3
 t4:=Tryz.underlying4
 a4:=Tryz.isAgg4
 z4:=Tryz.sizeOf4
 v4:=Tryz.zeroValue4
 t5:=Tryz.underlying5
 a5:=Tryz.isAgg5
 z5:=Tryz.sizeOf5
 v5:=Tryz.zeroValue5
 t9:=Tryz.underlying9
 a9:=Tryz.isAgg9
 z9:=Tryz.sizeOf9
 v9:=Tryz.zeroValue9
 t28:=Tryz.underlying43
 a28:=Tryz.isAgg43
 z28:=Tryz.sizeOf43
 v28:=Tryz.zeroValue43
 t46:=Tryz.underlying117
 a46:=Tryz.isAgg117
 z46:=Tryz.sizeOf117
 v46:=Tryz.zeroValue117
 t51:=Tryz.underlying23
 a51:=Tryz.isAgg23
 z51:=Tryz.sizeOf23
 v51:=Tryz.zeroValue23
 t53:=Tryz.underlying152
 a53:=Tryz.isAgg152
 z53:=Tryz.sizeOf152
 v53:=Tryz.zeroValue152
 t131:=Tryz.underlying88
 a131:=Tryz.isAgg88
 z131:=Tryz.sizeOf88
 v131:=Tryz.zeroValue88
 t182:=Tryz.underlying144
 a182:=Tryz.isAgg144
 z182:=Tryz.sizeOf144
 v182:=Tryz.zeroValue144
 t183:=Tryz.underlying145
 a183:=Tryz.isAgg145
 z183:=Tryz.sizeOf145
 v183:=Tryz.zeroValue145
 t218:=Tryz.underlying163
 a218:=Tryz.isAgg163
 z218:=Tryz.sizeOf163
 v218:=Tryz.zeroValue163
 t222:=Tryz.underlying167
 a222:=Tryz.isAgg167
 z222:=Tryz.sizeOf167
 v222:=Tryz.zeroValue167
 t228:=Tryz.underlying170
 a228:=Tryz.isAgg170
 z228:=Tryz.sizeOf170
 v228:=Tryz.zeroValue170
 t229:=Tryz.underlying171
 a229:=Tryz.isAgg171
 z229:=Tryz.sizeOf171
 v229:=Tryz.zeroValue171 }
end Go.Proofs
namespace Go.Proofs.YtbljcmgjmieffaaGreat
open Go.RowKit Go.Shelf Go.Sort
set_option maxRecDepth 100000
theorem sortILaw_30:J62 Tryz.prog 30:=fun blk off cap zs w hH hb hs=>Any.slices_Sort_int Tryz.sort30 blk off cap zs w hH hb hs
theorem sortINone_30:Hd0 Tryz.prog 30:=fun p cap w=>Any.slices_Sort_int_none Tryz.sort30 p cap w
end Go.Proofs.YtbljcmgjmieffaaGreat
