import Derived.Test.YtpgkkengffpnpaaGreatSortI

import Derived.Shelf.Sort.Plain
import Derived.Shelf.Slices.In.SortNone
import Derived.Shelf.SlGeneric
import Derived.Shelf.SlLaysF0
import Derived.Ground.SlsfProg
import Derived.Test.YtpgkkengffpnpaaGreatProg
import Derived.Ground.NamesProg
import Derived.Shelf.Sort.Plain
set_option linter.unusedVariables false
set_option linter.unusedSimpArgs false
set_option linter.unnecessarySimpa false
/-
 DERIVED: THE SHELF's CONTRACTS AT THIS DUMP,IN PLAIN WORDS (tools/lay-plain.mjs out of 'TryLay.lean',which tools/lay-shelf.mjs wrote): THE SAME DECLARATIONS UNDER THE SAME NAMES: 'import','namespace','open','def','theorem' AND NOTHING ELSE: no command of the shelf's: FOR A HAND-IN. Each laying: the table of numbers ('.._ren') and one theorem,a field a fact of the dump's own or the kernel's comparison; each contract: ONE APPLICATION.
-/
namespace Go.Proofs
open Go.Shelf
def Tryz.sort25_ren:Go.Shelf.Ren:=⟨fun | 189=>25 | 125=>58 | 257=>57 | 128=>96 | 129=>97 | 294=>88 | 295=>89 | 296=>90 | 297=>91 | 298=>92 | 299=>93 | 216=>79 | 300=>94 | 301=>95 | 328=>112 | 329=>113 | 330=>114 | 331=>115 | 332=>116 | 215=>108 | 343=>123 | n=>n,fun | 28=>40 | 3=>3 | 46=>122 | 0=>0 | 51=>23 | 53=>159 | 4=>4 | 183=>152 | 182=>151 | 131=>101 | 5=>5 | 9=>9 | 218=>175 | 222=>179 | 228=>184 | 229=>185 | n=>n,fun | n=>n⟩
theorem Tryz.sort25:Go.Proofs.Lays.n189 Tryz.prog Tryz.sort25_ren:={
 mixed:=by kernel_rfl
 f125:=Tryz.func58.trans (congrArg some (by kernel_rfl))
 f128:=Tryz.func96.trans (congrArg some (by kernel_rfl))
 f129:=Tryz.func97.trans (congrArg some (by kernel_rfl))
 f189:=Tryz.func25.trans (congrArg some (by kernel_rfl))
 f215:=Tryz.func108.trans (congrArg some (by kernel_rfl))
 f216:=Tryz.func79.trans (congrArg some (by kernel_rfl))
 f257:=Tryz.func57.trans (congrArg some (by kernel_rfl))
 f294:=Tryz.func88.trans (congrArg some (by kernel_rfl))
 f295:=Tryz.func89.trans (congrArg some (by kernel_rfl))
 f296:=Tryz.func90.trans (congrArg some (by kernel_rfl))
 f297:=Tryz.func91.trans (congrArg some (by kernel_rfl))
 f298:=Tryz.func92.trans (congrArg some (by kernel_rfl))
 f299:=Tryz.func93.trans (congrArg some (by kernel_rfl))
 f300:=Tryz.func94.trans (congrArg some (by kernel_rfl))
 f301:=Tryz.func95.trans (congrArg some (by kernel_rfl))
 f328:=Tryz.func112.trans (congrArg some (by kernel_rfl))
 f329:=Tryz.func113.trans (congrArg some (by kernel_rfl))
 f330:=Tryz.func114.trans (congrArg some (by kernel_rfl))
 f331:=Tryz.func115.trans (congrArg some (by kernel_rfl))
 f332:=Tryz.func116.trans (congrArg some (by kernel_rfl))
 f343:=Tryz.func123.trans (congrArg some (by kernel_rfl))
 t0:=Tryz.underlying0
 a0:=Tryz.isAgg0
 z0:=Tryz.sizeOf0
 v0:=Tryz.zeroValue0
 t3:=Tryz.underlying3
 a3:=Tryz.isAgg3
 z3:=Tryz.sizeOf3
 v3:=Tryz.zeroValue3
 t4:=Tryz.underlying4
 a4:=Tryz.isAgg4
 z4:=Tryz.sizeOf4
 v4:=Tryz.zeroValue4
 t5:=Tryz.underlying5
 a5:=Tryz.isAgg5
 z5:=Tryz.sizeOf5
 v5:=Tryz.zeroValue5
 t9:=Tryz.underlying9
 a9:=Tryz.isAgg9
 z9:=Tryz.sizeOf9
 v9:=Tryz.zeroValue9
 t28:=Tryz.underlying40
 a28:=Tryz.isAgg40
 z28:=Tryz.sizeOf40
 v28:=Tryz.zeroValue40
 t46:=Tryz.underlying122
 a46:=Tryz.isAgg122
 z46:=Tryz.sizeOf122
 v46:=Tryz.zeroValue122
 t51:=Tryz.underlying23
 a51:=Tryz.isAgg23
 z51:=Tryz.sizeOf23
 v51:=Tryz.zeroValue23
 t53:=Tryz.underlying159
 a53:=Tryz.isAgg159
 z53:=Tryz.sizeOf159
 v53:=Tryz.zeroValue159
 t131:=Tryz.underlying101
 a131:=Tryz.isAgg101
 z131:=Tryz.sizeOf101
 v131:=Tryz.zeroValue101
 t182:=Tryz.underlying151
 a182:=Tryz.isAgg151
 z182:=Tryz.sizeOf151
 v182:=Tryz.zeroValue151
 t183:=Tryz.underlying152
 a183:=Tryz.isAgg152
 z183:=Tryz.sizeOf152
 v183:=Tryz.zeroValue152
 t218:=Tryz.underlying175
 a218:=Tryz.isAgg175
 z218:=Tryz.sizeOf175
 v218:=Tryz.zeroValue175
 t222:=Tryz.underlying179
 a222:=Tryz.isAgg179
 z222:=Tryz.sizeOf179
 v222:=Tryz.zeroValue179
 t228:=Tryz.underlying184
 a228:=Tryz.isAgg184
 z228:=Tryz.sizeOf184
 v228:=Tryz.zeroValue184
 t229:=Tryz.underlying185
 a229:=Tryz.isAgg185
 z229:=Tryz.sizeOf185
 v229:=Tryz.zeroValue185 }
end Go.Proofs
namespace Go.Proofs.YtpgkkengffpnpaaGreat
open Go.RowKit Go.Shelf Go.Sort
set_option maxRecDepth 100000
theorem J13:J97 Tryz.prog 25:=fun blk off cap zs w hH hb hs=>Any.slices_Sort_int Tryz.sort25 blk off cap zs w hH hb hs
theorem Hbd:Hfb Tryz.prog 25:=fun p cap w=>Any.slices_Sort_int_none Tryz.sort25 p cap w
end Go.Proofs.YtpgkkengffpnpaaGreat
