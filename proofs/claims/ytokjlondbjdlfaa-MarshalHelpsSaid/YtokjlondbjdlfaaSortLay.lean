import Derived.Test.YtokjlondbjdlfaaSortT
import Derived.Shelf.SlSortCmp.NoneTotal
import Derived.Shelf.Sort.Plain
import Derived.Shelf.Slices.In.SortNone
import Derived.Shelf.SlGeneric
import Derived.Shelf.SlLaysF0
import Derived.Shelf.SlLaysF
import Derived.Ground.SlsfProg
import Derived.Test.YtokjlondbjdlfaaProg
import Derived.Ground.NamesProg
import Derived.Shelf.Sort.Plain
/-
 DERIVED: THE SHELF's CONTRACTS AT THIS DUMP,IN PLAIN WORDS (tools/lay-plain.mjs out of 'TryLay.lean',which tools/lay-shelf.mjs wrote): THE SAME DECLARATIONS UNDER THE SAME NAMES: 'import','namespace','open','def','theorem' AND NOTHING ELSE: no command of the shelf's: FOR A HAND-IN. Each laying: the table of numbers ('.._ren') and one theorem,a field a fact of the dump's own or the kernel's comparison; each contract: ONE APPLICATION.
-/
namespace Go.Proofs
open Go.Shelf
def Try.sort51_ren:Go.Shelf.Ren:=⟨fun | 6=>51 | 15=>79 | 14=>78 | 28=>104 | 29=>105 | 20=>96 | 21=>97 | 22=>98 | 23=>99 | 24=>100 | 25=>101 | 26=>102 | 27=>103 | 46=>116 | 47=>117 | 48=>118 | 49=>119 | 50=>120 | 57=>124 | n=>n,fun | 22=>25 | 24=>3 | 25=>95 | 3=>3 | 39=>135 | 0=>0 | 53=>157 | 55=>159 | 4=>4 | 46=>151 | 45=>150 | 50=>86 | 5=>5 | 9=>9 | 66=>165 | 70=>169 | 76=>173 | 77=>174 | n=>n,fun | n=>n⟩
theorem Try.sort51:Go.Proofs.SlLaysF.n6 Try.prog Try.sort51_ren:={
 mixed:=by kernel_rfl
 f6:=⟨Try.f51.name,by decide,Try.func51.trans (congrArg some (by kernel_rfl))⟩
 f14:=⟨Try.f78.name,by decide,Try.func78.trans (congrArg some (by kernel_rfl))⟩
 f15:=Try.func79.trans (congrArg some (by kernel_rfl))
 f20:=⟨Try.f96.name,by decide,Try.func96.trans (congrArg some (by kernel_rfl))⟩
 f21:=⟨Try.f97.name,by decide,Try.func97.trans (congrArg some (by kernel_rfl))⟩
 f22:=⟨Try.f98.name,by decide,Try.func98.trans (congrArg some (by kernel_rfl))⟩
 f23:=⟨Try.f99.name,by decide,Try.func99.trans (congrArg some (by kernel_rfl))⟩
 f24:=⟨Try.f100.name,by decide,Try.func100.trans (congrArg some (by kernel_rfl))⟩
 f25:=⟨Try.f101.name,by decide,Try.func101.trans (congrArg some (by kernel_rfl))⟩
 f26:=⟨Try.f102.name,by decide,Try.func102.trans (congrArg some (by kernel_rfl))⟩
 f27:=⟨Try.f103.name,by decide,Try.func103.trans (congrArg some (by kernel_rfl))⟩
 f28:=Try.func104.trans (congrArg some (by kernel_rfl))
 f29:=Try.func105.trans (congrArg some (by kernel_rfl))
 f46:=⟨Try.f116.name,by decide,Try.func116.trans (congrArg some (by kernel_rfl))⟩
 f47:=Try.func117.trans (congrArg some (by kernel_rfl))
 f48:=Try.func118.trans (congrArg some (by kernel_rfl))
 f49:=⟨Try.f119.name,by decide,Try.func119.trans (congrArg some (by kernel_rfl))⟩
 f50:=⟨Try.f120.name,by decide,Try.func120.trans (congrArg some (by kernel_rfl))⟩
 f57:=⟨Try.f124.name,by decide,Try.func124.trans (congrArg some (by kernel_rfl))⟩
 t0:=Try.underlying0
 a0:=Try.isAgg0
 z0:=Try.sizeOf0
 v0:=Try.zeroValue0
 t3:=Try.underlying3
 a3:=Try.isAgg3
 z3:=Try.sizeOf3
 v3:=Try.zeroValue3
 t4:=Try.underlying4
 a4:=Try.isAgg4
 z4:=Try.sizeOf4
 v4:=Try.zeroValue4
 t5:=Try.underlying5
 a5:=Try.isAgg5
 z5:=Try.sizeOf5
 v5:=Try.zeroValue5
 t9:=Try.underlying9
 a9:=Try.isAgg9
 z9:=Try.sizeOf9
 v9:=Try.zeroValue9
 t22:=Try.underlying25
 a22:=Try.isAgg25
 z22:=Try.sizeOf25
 v22:=Try.zeroValue25
 a24:=Try.isAgg3
 z24:=Try.sizeOf3
 t25:=Try.underlying95
 a25:=Try.isAgg95
 z25:=Try.sizeOf95
 v25:=Try.zeroValue95
 t39:=Try.underlying135
 a39:=Try.isAgg135
 z39:=Try.sizeOf135
 v39:=Try.zeroValue135
 t45:=Try.underlying150
 a45:=Try.isAgg150
 z45:=Try.sizeOf150
 v45:=Try.zeroValue150
 t46:=Try.underlying151
 a46:=Try.isAgg151
 z46:=Try.sizeOf151
 v46:=Try.zeroValue151
 t50:=Try.underlying86
 a50:=Try.isAgg86
 z50:=Try.sizeOf86
 v50:=Try.zeroValue86
 t53:=Try.underlying157
 a53:=Try.isAgg157
 z53:=Try.sizeOf157
 v53:=Try.zeroValue157
 t55:=Try.underlying159
 a55:=Try.isAgg159
 z55:=Try.sizeOf159
 v55:=Try.zeroValue159
 t66:=Try.underlying165
 a66:=Try.isAgg165
 z66:=Try.sizeOf165
 v66:=Try.zeroValue165
 t70:=Try.underlying169
 a70:=Try.isAgg169
 z70:=Try.sizeOf169
 v70:=Try.zeroValue169
 t76:=Try.underlying173
 a76:=Try.isAgg173
 z76:=Try.sizeOf173
 v76:=Try.zeroValue173
 t77:=Try.underlying174
 a77:=Try.isAgg174
 z77:=Try.sizeOf174
 v77:=Try.zeroValue174 }
def Try.sort77_ren:Go.Shelf.Ren:=⟨fun | 189=>77 | 125=>79 | 257=>95 | 128=>104 | 129=>105 | 294=>107 | 295=>108 | 296=>109 | 297=>110 | 298=>111 | 299=>112 | 216=>113 | 300=>114 | 301=>115 | 328=>121 | 329=>117 | 330=>118 | 331=>122 | 332=>123 | 215=>80 | 343=>125 | n=>n,fun | 28=>25 | 3=>3 | 46=>135 | 0=>0 | 51=>157 | 53=>159 | 4=>4 | 183=>151 | 182=>150 | 131=>86 | 5=>5 | 9=>9 | 218=>165 | 222=>169 | 228=>173 | 229=>174 | n=>n,fun | n=>n⟩
theorem Try.sort77:Go.Proofs.Lays.n189 Try.prog Try.sort77_ren:={
 mixed:=by kernel_rfl
 f125:=Try.func79.trans (congrArg some (by kernel_rfl))
 f128:=Try.func104.trans (congrArg some (by kernel_rfl))
 f129:=Try.func105.trans (congrArg some (by kernel_rfl))
 f189:=Try.func77.trans (congrArg some (by kernel_rfl))
 f215:=Try.func80.trans (congrArg some (by kernel_rfl))
 f216:=Try.func113.trans (congrArg some (by kernel_rfl))
 f257:=Try.func95.trans (congrArg some (by kernel_rfl))
 f294:=Try.func107.trans (congrArg some (by kernel_rfl))
 f295:=Try.func108.trans (congrArg some (by kernel_rfl))
 f296:=Try.func109.trans (congrArg some (by kernel_rfl))
 f297:=Try.func110.trans (congrArg some (by kernel_rfl))
 f298:=Try.func111.trans (congrArg some (by kernel_rfl))
 f299:=Try.func112.trans (congrArg some (by kernel_rfl))
 f300:=Try.func114.trans (congrArg some (by kernel_rfl))
 f301:=Try.func115.trans (congrArg some (by kernel_rfl))
 f328:=Try.func121.trans (congrArg some (by kernel_rfl))
 f329:=Try.func117.trans (congrArg some (by kernel_rfl))
 f330:=Try.func118.trans (congrArg some (by kernel_rfl))
 f331:=Try.func122.trans (congrArg some (by kernel_rfl))
 f332:=Try.func123.trans (congrArg some (by kernel_rfl))
 f343:=Try.func125.trans (congrArg some (by kernel_rfl))
 t0:=Try.underlying0
 a0:=Try.isAgg0
 z0:=Try.sizeOf0
 v0:=Try.zeroValue0
 t3:=Try.underlying3
 a3:=Try.isAgg3
 z3:=Try.sizeOf3
 v3:=Try.zeroValue3
 t4:=Try.underlying4
 a4:=Try.isAgg4
 z4:=Try.sizeOf4
 v4:=Try.zeroValue4
 t5:=Try.underlying5
 a5:=Try.isAgg5
 z5:=Try.sizeOf5
 v5:=Try.zeroValue5
 t9:=Try.underlying9
 a9:=Try.isAgg9
 z9:=Try.sizeOf9
 v9:=Try.zeroValue9
 t28:=Try.underlying25
 a28:=Try.isAgg25
 z28:=Try.sizeOf25
 v28:=Try.zeroValue25
 t46:=Try.underlying135
 a46:=Try.isAgg135
 z46:=Try.sizeOf135
 v46:=Try.zeroValue135
 t51:=Try.underlying157
 a51:=Try.isAgg157
 z51:=Try.sizeOf157
 v51:=Try.zeroValue157
 t53:=Try.underlying159
 a53:=Try.isAgg159
 z53:=Try.sizeOf159
 v53:=Try.zeroValue159
 t131:=Try.underlying86
 a131:=Try.isAgg86
 z131:=Try.sizeOf86
 v131:=Try.zeroValue86
 t182:=Try.underlying150
 a182:=Try.isAgg150
 z182:=Try.sizeOf150
 v182:=Try.zeroValue150
 t183:=Try.underlying151
 a183:=Try.isAgg151
 z183:=Try.sizeOf151
 v183:=Try.zeroValue151
 t218:=Try.underlying165
 a218:=Try.isAgg165
 z218:=Try.sizeOf165
 v218:=Try.zeroValue165
 t222:=Try.underlying169
 a222:=Try.isAgg169
 z222:=Try.sizeOf169
 v222:=Try.zeroValue169
 t228:=Try.underlying173
 a228:=Try.isAgg173
 z228:=Try.sizeOf173
 v228:=Try.zeroValue173
 t229:=Try.underlying174
 a229:=Try.isAgg174
 z229:=Try.sizeOf174
 v229:=Try.zeroValue174 }
end Go.Proofs
namespace Go.Proofs.Ytokjlondbjdlfaa
open Go.RowKit Go.Shelf Go.Sort
set_option maxRecDepth 100000
theorem J12:J75 Try.prog 77:=fun blk off cap zs w hH hb hs=>Any.slices_Sort_int Try.sort77 blk off cap zs w hH hb hs
theorem Hc6:J01 Try.prog 77:=fun p cap w=>Any.slices_Sort_int_none Try.sort77 p cap w
theorem Jfd:J74 Try.prog 51:=fun cf hO hP g cb blk off cap zs w eg hC hH hb hs=>Any.slices_SortFunc_total Try.sort51 (Value.int .i64) (fun _=>rfl) cf hO g cb blk off cap zs.toArray w eg hC hH hb hs hP
theorem Jfe:SortNone Try.prog 51:=fun g cb w=>(AnyF.slices_SortFunc_none { Try.sort51 with } none 0 (.func (.func g) #[] cb) w).mono fun e w' h=>⟨h.1,0,#[],h.2.trans (by rw [World.drewN_zero,grow_empty])⟩
end Go.Proofs.Ytokjlondbjdlfaa
