import Derived.Test.YtokjlondbjdlfaaGreatSortT
import Derived.Shelf.SlSortCmp.NoneTotal
import Derived.Shelf.Sort.Plain
import Derived.Shelf.Slices.In.SortNone
import Derived.Shelf.SlGeneric
import Derived.Shelf.SlLaysF0
import Derived.Shelf.SlLaysF
import Derived.Ground.SlsfProg
import Derived.Test.YtokjlondbjdlfaaGreatProg
import Derived.Ground.NamesProg
import Derived.Shelf.Sort.Plain
/-
 DERIVED: THE SHELF's CONTRACTS AT THIS DUMP,IN PLAIN WORDS (tools/lay-plain.mjs out of 'TryLay.lean',which tools/lay-shelf.mjs wrote): THE SAME DECLARATIONS UNDER THE SAME NAMES: 'import','namespace','open','def','theorem' AND NOTHING ELSE: no command of the shelf's: FOR A HAND-IN. Each laying: the table of numbers ('.._ren') and one theorem,a field a fact of the dump's own or the kernel's comparison; each contract: ONE APPLICATION.
-/
namespace Go.Proofs
open Go.Shelf
def Tryz.sort33_ren:Go.Shelf.Ren:=⟨fun | 6=>33 | 15=>61 | 14=>60 | 28=>83 | 29=>84 | 20=>75 | 21=>76 | 22=>77 | 23=>78 | 24=>79 | 25=>80 | 26=>81 | 27=>82 | 46=>94 | 47=>95 | 48=>96 | 49=>97 | 50=>98 | 57=>102 | n=>n,fun | 22=>22 | 24=>3 | 25=>63 | 3=>3 | 39=>112 | 0=>0 | 53=>135 | 55=>137 | 4=>4 | 46=>129 | 45=>128 | 50=>88 | 5=>5 | 9=>9 | 66=>143 | 70=>147 | 76=>151 | 77=>152 | n=>n,fun | n=>n⟩
theorem Tryz.sort33:Go.Proofs.SlLaysF.n6 Tryz.prog Tryz.sort33_ren:={
 mixed:=by kernel_rfl
 f6:=⟨Tryz.f33.name,by decide,Tryz.func33.trans (congrArg some (by kernel_rfl))⟩
 f14:=⟨Tryz.f60.name,by decide,Tryz.func60.trans (congrArg some (by kernel_rfl))⟩
 f15:=Tryz.func61.trans (congrArg some (by kernel_rfl))
 f20:=⟨Tryz.f75.name,by decide,Tryz.func75.trans (congrArg some (by kernel_rfl))⟩
 f21:=⟨Tryz.f76.name,by decide,Tryz.func76.trans (congrArg some (by kernel_rfl))⟩
 f22:=⟨Tryz.f77.name,by decide,Tryz.func77.trans (congrArg some (by kernel_rfl))⟩
 f23:=⟨Tryz.f78.name,by decide,Tryz.func78.trans (congrArg some (by kernel_rfl))⟩
 f24:=⟨Tryz.f79.name,by decide,Tryz.func79.trans (congrArg some (by kernel_rfl))⟩
 f25:=⟨Tryz.f80.name,by decide,Tryz.func80.trans (congrArg some (by kernel_rfl))⟩
 f26:=⟨Tryz.f81.name,by decide,Tryz.func81.trans (congrArg some (by kernel_rfl))⟩
 f27:=⟨Tryz.f82.name,by decide,Tryz.func82.trans (congrArg some (by kernel_rfl))⟩
 f28:=Tryz.func83.trans (congrArg some (by kernel_rfl))
 f29:=Tryz.func84.trans (congrArg some (by kernel_rfl))
 f46:=⟨Tryz.f94.name,by decide,Tryz.func94.trans (congrArg some (by kernel_rfl))⟩
 f47:=Tryz.func95.trans (congrArg some (by kernel_rfl))
 f48:=Tryz.func96.trans (congrArg some (by kernel_rfl))
 f49:=⟨Tryz.f97.name,by decide,Tryz.func97.trans (congrArg some (by kernel_rfl))⟩
 f50:=⟨Tryz.f98.name,by decide,Tryz.func98.trans (congrArg some (by kernel_rfl))⟩
 f57:=⟨Tryz.f102.name,by decide,Tryz.func102.trans (congrArg some (by kernel_rfl))⟩
 t0:=Tryz.underlying0
 a0:=Tryz.isAgg0
 z0:=Tryz.sizeOf0
 v0:=Tryz.zeroValue0
 t3:=Tryz.underlying3
 a3:=Tryz.isAgg3
 z3:=Tryz.sizeOf3
 v3:=Tryz.zeroValue3
 t4:=Tryz.underlying4
 a4:=Tryz.isAgg4
 z4:=Tryz.sizeOf4
 v4:=Tryz.zeroValue4
 t5:=Tryz.underlying5
 a5:=Tryz.isAgg5
 z5:=Tryz.sizeOf5
 v5:=Tryz.zeroValue5
 t9:=Tryz.underlying9
 a9:=Tryz.isAgg9
 z9:=Tryz.sizeOf9
 v9:=Tryz.zeroValue9
 t22:=Tryz.underlying22
 a22:=Tryz.isAgg22
 z22:=Tryz.sizeOf22
 v22:=Tryz.zeroValue22
 a24:=Tryz.isAgg3
 z24:=Tryz.sizeOf3
 t25:=Tryz.underlying63
 a25:=Tryz.isAgg63
 z25:=Tryz.sizeOf63
 v25:=Tryz.zeroValue63
 t39:=Tryz.underlying112
 a39:=Tryz.isAgg112
 z39:=Tryz.sizeOf112
 v39:=Tryz.zeroValue112
 t45:=Tryz.underlying128
 a45:=Tryz.isAgg128
 z45:=Tryz.sizeOf128
 v45:=Tryz.zeroValue128
 t46:=Tryz.underlying129
 a46:=Tryz.isAgg129
 z46:=Tryz.sizeOf129
 v46:=Tryz.zeroValue129
 t50:=Tryz.underlying88
 a50:=Tryz.isAgg88
 z50:=Tryz.sizeOf88
 v50:=Tryz.zeroValue88
 t53:=Tryz.underlying135
 a53:=Tryz.isAgg135
 z53:=Tryz.sizeOf135
 v53:=Tryz.zeroValue135
 t55:=Tryz.underlying137
 a55:=Tryz.isAgg137
 z55:=Tryz.sizeOf137
 v55:=Tryz.zeroValue137
 t66:=Tryz.underlying143
 a66:=Tryz.isAgg143
 z66:=Tryz.sizeOf143
 v66:=Tryz.zeroValue143
 t70:=Tryz.underlying147
 a70:=Tryz.isAgg147
 z70:=Tryz.sizeOf147
 v70:=Tryz.zeroValue147
 t76:=Tryz.underlying151
 a76:=Tryz.isAgg151
 z76:=Tryz.sizeOf151
 v76:=Tryz.zeroValue151
 t77:=Tryz.underlying152
 a77:=Tryz.isAgg152
 z77:=Tryz.sizeOf152
 v77:=Tryz.zeroValue152 }
def Tryz.sort59_ren:Go.Shelf.Ren:=⟨fun | 189=>59 | 125=>61 | 257=>74 | 128=>83 | 129=>84 | 294=>85 | 295=>86 | 296=>87 | 297=>88 | 298=>89 | 299=>90 | 216=>91 | 300=>92 | 301=>93 | 328=>99 | 329=>95 | 330=>96 | 331=>100 | 332=>101 | 215=>62 | 343=>103 | n=>n,fun | 28=>22 | 3=>3 | 46=>112 | 0=>0 | 51=>135 | 53=>137 | 4=>4 | 183=>129 | 182=>128 | 131=>88 | 5=>5 | 9=>9 | 218=>143 | 222=>147 | 228=>151 | 229=>152 | n=>n,fun | n=>n⟩
theorem Tryz.sort59:Go.Proofs.Lays.n189 Tryz.prog Tryz.sort59_ren:={
 mixed:=by kernel_rfl
 f125:=Tryz.func61.trans (congrArg some (by kernel_rfl))
 f128:=Tryz.func83.trans (congrArg some (by kernel_rfl))
 f129:=Tryz.func84.trans (congrArg some (by kernel_rfl))
 f189:=Tryz.func59.trans (congrArg some (by kernel_rfl))
 f215:=Tryz.func62.trans (congrArg some (by kernel_rfl))
 f216:=Tryz.func91.trans (congrArg some (by kernel_rfl))
 f257:=Tryz.func74.trans (congrArg some (by kernel_rfl))
 f294:=Tryz.func85.trans (congrArg some (by kernel_rfl))
 f295:=Tryz.func86.trans (congrArg some (by kernel_rfl))
 f296:=Tryz.func87.trans (congrArg some (by kernel_rfl))
 f297:=Tryz.func88.trans (congrArg some (by kernel_rfl))
 f298:=Tryz.func89.trans (congrArg some (by kernel_rfl))
 f299:=Tryz.func90.trans (congrArg some (by kernel_rfl))
 f300:=Tryz.func92.trans (congrArg some (by kernel_rfl))
 f301:=Tryz.func93.trans (congrArg some (by kernel_rfl))
 f328:=Tryz.func99.trans (congrArg some (by kernel_rfl))
 f329:=Tryz.func95.trans (congrArg some (by kernel_rfl))
 f330:=Tryz.func96.trans (congrArg some (by kernel_rfl))
 f331:=Tryz.func100.trans (congrArg some (by kernel_rfl))
 f332:=Tryz.func101.trans (congrArg some (by kernel_rfl))
 f343:=Tryz.func103.trans (congrArg some (by kernel_rfl))
 t0:=Tryz.underlying0
 a0:=Tryz.isAgg0
 z0:=Tryz.sizeOf0
 v0:=Tryz.zeroValue0
 t3:=Tryz.underlying3
 a3:=Tryz.isAgg3
 z3:=Tryz.sizeOf3
 v3:=Tryz.zeroValue3
 t4:=Tryz.underlying4
 a4:=Tryz.isAgg4
 z4:=Tryz.sizeOf4
 v4:=Tryz.zeroValue4
 t5:=Tryz.underlying5
 a5:=Tryz.isAgg5
 z5:=Tryz.sizeOf5
 v5:=Tryz.zeroValue5
 t9:=Tryz.underlying9
 a9:=Tryz.isAgg9
 z9:=Tryz.sizeOf9
 v9:=Tryz.zeroValue9
 t28:=Tryz.underlying22
 a28:=Tryz.isAgg22
 z28:=Tryz.sizeOf22
 v28:=Tryz.zeroValue22
 t46:=Tryz.underlying112
 a46:=Tryz.isAgg112
 z46:=Tryz.sizeOf112
 v46:=Tryz.zeroValue112
 t51:=Tryz.underlying135
 a51:=Tryz.isAgg135
 z51:=Tryz.sizeOf135
 v51:=Tryz.zeroValue135
 t53:=Tryz.underlying137
 a53:=Tryz.isAgg137
 z53:=Tryz.sizeOf137
 v53:=Tryz.zeroValue137
 t131:=Tryz.underlying88
 a131:=Tryz.isAgg88
 z131:=Tryz.sizeOf88
 v131:=Tryz.zeroValue88
 t182:=Tryz.underlying128
 a182:=Tryz.isAgg128
 z182:=Tryz.sizeOf128
 v182:=Tryz.zeroValue128
 t183:=Tryz.underlying129
 a183:=Tryz.isAgg129
 z183:=Tryz.sizeOf129
 v183:=Tryz.zeroValue129
 t218:=Tryz.underlying143
 a218:=Tryz.isAgg143
 z218:=Tryz.sizeOf143
 v218:=Tryz.zeroValue143
 t222:=Tryz.underlying147
 a222:=Tryz.isAgg147
 z222:=Tryz.sizeOf147
 v222:=Tryz.zeroValue147
 t228:=Tryz.underlying151
 a228:=Tryz.isAgg151
 z228:=Tryz.sizeOf151
 v228:=Tryz.zeroValue151
 t229:=Tryz.underlying152
 a229:=Tryz.isAgg152
 z229:=Tryz.sizeOf152
 v229:=Tryz.zeroValue152 }
end Go.Proofs
namespace Go.Proofs.YtokjlondbjdlfaaGreat
open Go.RowKit Go.Shelf Go.Sort
set_option maxRecDepth 100000
theorem He3:J3d Tryz.prog 59:=fun blk off cap zs w hH hb hs=>Any.slices_Sort_int Tryz.sort59 blk off cap zs w hH hb hs
theorem H9e:Hd7 Tryz.prog 59:=fun p cap w=>Any.slices_Sort_int_none Tryz.sort59 p cap w
theorem Jb9:J3c Tryz.prog 33:=fun cf hO hP g cb blk off cap zs w eg hC hH hb hs=>Any.slices_SortFunc_total Tryz.sort33 (Value.int .i64) (fun _=>rfl) cf hO g cb blk off cap zs.toArray w eg hC hH hb hs hP
theorem Jba:SortNone Tryz.prog 33:=fun g cb w=>(AnyF.slices_SortFunc_none { Tryz.sort33 with } none 0 (.func (.func g) #[] cb) w).mono fun e w' h=>⟨h.1,0,#[],h.2.trans (by rw [World.drewN_zero,grow_empty])⟩
end Go.Proofs.YtokjlondbjdlfaaGreat
