import Derived.Test.YtjkmmenifdklmaaGreatSortI

import Derived.Shelf.Sort.Plain
import Derived.Shelf.Slices.In.SortNone
import Derived.Shelf.SlGeneric
import Derived.Shelf.SlLaysF0
import Derived.Ground.SlsfProg
import Derived.Test.YtjkmmenifdklmaaGreatProg
import Derived.Ground.NamesProg
import Derived.Shelf.Sort.Plain
set_option linter.unusedVariables false
set_option linter.unusedSimpArgs false
/-
 DERIVED: THE SHELF's CONTRACTS AT THIS DUMP,IN PLAIN WORDS (tools/lay-plain.mjs out of 'TryLay.lean',which tools/lay-shelf.mjs wrote): THE SAME DECLARATIONS UNDER THE SAME NAMES: 'import','namespace','open','def','theorem' AND NOTHING ELSE: no command of the shelf's: FOR A HAND-IN. Each laying: the table of numbers ('.._ren') and one theorem,a field a fact of the dump's own or the kernel's comparison; each contract: ONE APPLICATION.
-/
namespace Go.Proofs
open Go.Shelf
def Tryz.sort72_ren:Go.Shelf.Ren:=⟨fun | 189=>72 | 125=>119 | 257=>118 | 128=>156 | 129=>157 | 294=>148 | 295=>149 | 296=>150 | 297=>151 | 298=>152 | 299=>153 | 216=>137 | 300=>154 | 301=>155 | 328=>166 | 329=>167 | 330=>168 | 331=>169 | 332=>170 | 215=>159 | 343=>174 | n=>n,fun | 28=>35 | 3=>3 | 46=>155 | 0=>0 | 51=>184 | 53=>186 | 4=>4 | 183=>178 | 182=>177 | 131=>121 | 5=>5 | 9=>9 | 218=>191 | 222=>195 | 228=>198 | 229=>199 | n=>n,fun | n=>n⟩
theorem Tryz.sort72:Go.Proofs.Lays.n189 Tryz.prog Tryz.sort72_ren:={
 mixed:=by kernel_rfl
 f125:=Tryz.func119.trans (congrArg some (by kernel_rfl))
 f128:=Tryz.func156.trans (congrArg some (by kernel_rfl))
 f129:=Tryz.func157.trans (congrArg some (by kernel_rfl))
 f189:=Tryz.func72.trans (congrArg some (by kernel_rfl))
 f215:=Tryz.func159.trans (congrArg some (by kernel_rfl))
 f216:=Tryz.func137.trans (congrArg some (by kernel_rfl))
 f257:=Tryz.func118.trans (congrArg some (by kernel_rfl))
 f294:=Tryz.func148.trans (congrArg some (by kernel_rfl))
 f295:=Tryz.func149.trans (congrArg some (by kernel_rfl))
 f296:=Tryz.func150.trans (congrArg some (by kernel_rfl))
 f297:=Tryz.func151.trans (congrArg some (by kernel_rfl))
 f298:=Tryz.func152.trans (congrArg some (by kernel_rfl))
 f299:=Tryz.func153.trans (congrArg some (by kernel_rfl))
 f300:=Tryz.func154.trans (congrArg some (by kernel_rfl))
 f301:=Tryz.func155.trans (congrArg some (by kernel_rfl))
 f328:=Tryz.func166.trans (congrArg some (by kernel_rfl))
 f329:=Tryz.func167.trans (congrArg some (by kernel_rfl))
 f330:=Tryz.func168.trans (congrArg some (by kernel_rfl))
 f331:=Tryz.func169.trans (congrArg some (by kernel_rfl))
 f332:=Tryz.func170.trans (congrArg some (by kernel_rfl))
 f343:=Tryz.func174.trans (congrArg some (by kernel_rfl))
 t0:=Tryz.underlying0
 a0:=Tryz.isAgg0
 z0:=Tryz.sizeOf0
 v0:=Tryz.zeroValue0
 t3:=Tryz.underlying3
 a3:=Tryz.isAgg3
 z3:=Tryz.sizeOf3
 v3:=Tryz.zeroValue3
 t4:=Tryz.underlying4
 a4:=Tryz.isAgg4
 z4:=Tryz.sizeOf4
 v4:=Tryz.zeroValue4
 t5:=Tryz.underlying5
 a5:=Tryz.isAgg5
 z5:=Tryz.sizeOf5
 v5:=Tryz.zeroValue5
 t9:=Tryz.underlying9
 a9:=Tryz.isAgg9
 z9:=Tryz.sizeOf9
 v9:=Tryz.zeroValue9
 t28:=Tryz.underlying35
 a28:=Tryz.isAgg35
 z28:=Tryz.sizeOf35
 v28:=Tryz.zeroValue35
 t46:=Tryz.underlying155
 a46:=Tryz.isAgg155
 z46:=Tryz.sizeOf155
 v46:=Tryz.zeroValue155
 t51:=Tryz.underlying184
 a51:=Tryz.isAgg184
 z51:=Tryz.sizeOf184
 v51:=Tryz.zeroValue184
 t53:=Tryz.underlying186
 a53:=Tryz.isAgg186
 z53:=Tryz.sizeOf186
 v53:=Tryz.zeroValue186
 t131:=Tryz.underlying121
 a131:=Tryz.isAgg121
 z131:=Tryz.sizeOf121
 v131:=Tryz.zeroValue121
 t182:=Tryz.underlying177
 a182:=Tryz.isAgg177
 z182:=Tryz.sizeOf177
 v182:=Tryz.zeroValue177
 t183:=Tryz.underlying178
 a183:=Tryz.isAgg178
 z183:=Tryz.sizeOf178
 v183:=Tryz.zeroValue178
 t218:=Tryz.underlying191
 a218:=Tryz.isAgg191
 z218:=Tryz.sizeOf191
 v218:=Tryz.zeroValue191
 t222:=Tryz.underlying195
 a222:=Tryz.isAgg195
 z222:=Tryz.sizeOf195
 v222:=Tryz.zeroValue195
 t228:=Tryz.underlying198
 a228:=Tryz.isAgg198
 z228:=Tryz.sizeOf198
 v228:=Tryz.zeroValue198
 t229:=Tryz.underlying199
 a229:=Tryz.isAgg199
 z229:=Tryz.sizeOf199
 v229:=Tryz.zeroValue199 }
end Go.Proofs
namespace Go.Proofs.YtjkmmenifdklmaaGreat
open Go.RowKit Go.Shelf Go.Sort
set_option maxRecDepth 100000
theorem sortILaw_72:Jbb Tryz.prog 72:=fun blk off cap zs w hH hb hs=>Any.slices_Sort_int Tryz.sort72 blk off cap zs w hH hb hs
theorem sortINone_72:J32 Tryz.prog 72:=fun p cap w=>Any.slices_Sort_int_none Tryz.sort72 p cap w
end Go.Proofs.YtjkmmenifdklmaaGreat
