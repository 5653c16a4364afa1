import Derived.Test.YtokjlondbjdlfaaSortI

import Derived.Shelf.Sort.Plain
import Derived.Shelf.Slices.In.SortNone
import Derived.Shelf.SlGeneric
import Derived.Shelf.SlLaysF0
import Derived.Ground.SlsfProg
import Derived.Test.YtokjlondbjdlfaaProg
import Derived.Ground.NamesProg
import Derived.Shelf.Sort.Plain
/-
 DERIVED: THE SHELF's CONTRACTS AT THIS DUMP,IN PLAIN WORDS (tools/lay-plain.mjs out of 'TryLay.lean',which tools/lay-shelf.mjs wrote): THE SAME DECLARATIONS UNDER THE SAME NAMES: 'import','namespace','open','def','theorem' AND NOTHING ELSE: no command of the shelf's: FOR A HAND-IN. Each laying: the table of numbers ('.._ren') and one theorem,a field a fact of the dump's own or the kernel's comparison; each contract: ONE APPLICATION.
-/
namespace Go.Proofs
open Go.Shelf
def Try.sort77_ren:Go.Shelf.Ren:=⟨fun | 189=>77 | 125=>79 | 257=>95 | 128=>104 | 129=>105 | 294=>107 | 295=>108 | 296=>109 | 297=>110 | 298=>111 | 299=>112 | 216=>113 | 300=>114 | 301=>115 | 328=>121 | 329=>117 | 330=>118 | 331=>122 | 332=>123 | 215=>80 | 343=>125 | n=>n,fun | 28=>25 | 3=>3 | 46=>135 | 0=>0 | 51=>157 | 53=>159 | 4=>4 | 183=>151 | 182=>150 | 131=>86 | 5=>5 | 9=>9 | 218=>165 | 222=>169 | 228=>173 | 229=>174 | n=>n,fun | n=>n⟩
theorem Try.sort77:Go.Proofs.Lays.n189 Try.prog Try.sort77_ren:={
 mixed:=by kernel_rfl
 f125:=Try.func79.trans (congrArg some (by kernel_rfl))
 f128:=Try.func104.trans (congrArg some (by kernel_rfl))
 f129:=Try.func105.trans (congrArg some (by kernel_rfl))
 f189:=Try.func77.trans (congrArg some (by kernel_rfl))
 f215:=Try.func80.trans (congrArg some (by kernel_rfl))
 f216:=Try.func113.trans (congrArg some (by kernel_rfl))
 f257:=Try.func95.trans (congrArg some (by kernel_rfl))
 f294:=Try.func107.trans (congrArg some (by kernel_rfl))
 f295:=Try.func108.trans (congrArg some (by kernel_rfl))
 f296:=Try.func109.trans (congrArg some (by kernel_rfl))
 f297:=Try.func110.trans (congrArg some (by kernel_rfl))
 f298:=Try.func111.trans (congrArg some (by kernel_rfl))
 f299:=Try.func112.trans (congrArg some (by kernel_rfl))
 f300:=Try.func114.trans (congrArg some (by kernel_rfl))
 f301:=Try.func115.trans (congrArg some (by kernel_rfl))
 f328:=Try.func121.trans (congrArg some (by kernel_rfl))
 f329:=Try.func117.trans (congrArg some (by kernel_rfl))
 f330:=Try.func118.trans (congrArg some (by kernel_rfl))
 f331:=Try.func122.trans (congrArg some (by kernel_rfl))
 f332:=Try.func123.trans (congrArg some (by kernel_rfl))
 f343:=Try.func125.trans (congrArg some (by kernel_rfl))
 t0:=Try.underlying0
 a0:=Try.isAgg0
 z0:=Try.sizeOf0
 v0:=Try.zeroValue0
 t3:=Try.underlying3
 a3:=Try.isAgg3
 z3:=Try.sizeOf3
 v3:=Try.zeroValue3
 t4:=Try.underlying4
 a4:=Try.isAgg4
 z4:=Try.sizeOf4
 v4:=Try.zeroValue4
 t5:=Try.underlying5
 a5:=Try.isAgg5
 z5:=Try.sizeOf5
 v5:=Try.zeroValue5
 t9:=Try.underlying9
 a9:=Try.isAgg9
 z9:=Try.sizeOf9
 v9:=Try.zeroValue9
 t28:=Try.underlying25
 a28:=Try.isAgg25
 z28:=Try.sizeOf25
 v28:=Try.zeroValue25
 t46:=Try.underlying135
 a46:=Try.isAgg135
 z46:=Try.sizeOf135
 v46:=Try.zeroValue135
 t51:=Try.underlying157
 a51:=Try.isAgg157
 z51:=Try.sizeOf157
 v51:=Try.zeroValue157
 t53:=Try.underlying159
 a53:=Try.isAgg159
 z53:=Try.sizeOf159
 v53:=Try.zeroValue159
 t131:=Try.underlying86
 a131:=Try.isAgg86
 z131:=Try.sizeOf86
 v131:=Try.zeroValue86
 t182:=Try.underlying150
 a182:=Try.isAgg150
 z182:=Try.sizeOf150
 v182:=Try.zeroValue150
 t183:=Try.underlying151
 a183:=Try.isAgg151
 z183:=Try.sizeOf151
 v183:=Try.zeroValue151
 t218:=Try.underlying165
 a218:=Try.isAgg165
 z218:=Try.sizeOf165
 v218:=Try.zeroValue165
 t222:=Try.underlying169
 a222:=Try.isAgg169
 z222:=Try.sizeOf169
 v222:=Try.zeroValue169
 t228:=Try.underlying173
 a228:=Try.isAgg173
 z228:=Try.sizeOf173
 v228:=Try.zeroValue173
 t229:=Try.underlying174
 a229:=Try.isAgg174
 z229:=Try.sizeOf174
 v229:=Try.zeroValue174 }
end Go.Proofs
namespace Go.Proofs.Ytokjlondbjdlfaa
open Go.RowKit Go.Shelf Go.Sort
set_option maxRecDepth 100000
theorem Hbe:J16 Try.prog 77:=fun blk off cap zs w hH hb hs=>Any.slices_Sort_int Try.sort77 blk off cap zs w hH hb hs
theorem H77:Hb3 Try.prog 77:=fun p cap w=>Any.slices_Sort_int_none Try.sort77 p cap w
end Go.Proofs.Ytokjlondbjdlfaa
