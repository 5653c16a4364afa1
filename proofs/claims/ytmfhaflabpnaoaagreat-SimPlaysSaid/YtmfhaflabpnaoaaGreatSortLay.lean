import Derived.Test.YtmfhaflabpnaoaaGreatSortI
import Derived.Shelf.SlSortCmp.NoneTotal
import Derived.Shelf.Sort.Plain
import Derived.Shelf.Slices.In.SortNone
import Derived.Shelf.SlGeneric
import Derived.Shelf.SlLaysF0
import Derived.Ground.SlsfProg
import Derived.Test.YtmfhaflabpnaoaaGreatProg
import Derived.Ground.NamesProg
import Derived.Shelf.Sort.Plain
/-
 DERIVED: THE SHELF's CONTRACTS AT THIS DUMP,IN PLAIN WORDS (tools/lay-plain.mjs out of 'TryLay.lean',which tools/lay-shelf.mjs wrote): THE SAME DECLARATIONS UNDER THE SAME NAMES: 'import','namespace','open','def','theorem' AND NOTHING ELSE: no command of the shelf's: FOR A HAND-IN. Each laying: the table of numbers ('.._ren') and one theorem,a field a fact of the dump's own or the kernel's comparison; each contract: ONE APPLICATION.
-/
namespace Go.Proofs
open Go.Shelf
def Tryz.sort48_ren:Go.Shelf.Ren:=⟨fun | 6=>48 | 15=>96 | 14=>95 | 28=>133 | 29=>134 | 20=>125 | 21=>126 | 22=>127 | 23=>128 | 24=>129 | 25=>130 | 26=>131 | 27=>132 | 46=>151 | 47=>152 | 48=>153 | 49=>154 | 50=>155 | 57=>159 | n=>n,fun | 22=>34 | 24=>70 | 25=>104 | 3=>3 | 39=>134 | 0=>0 | 53=>168 | 55=>170 | 4=>4 | 46=>161 | 45=>160 | 50=>165 | 5=>5 | 9=>9 | 66=>184 | 70=>188 | 76=>192 | 77=>193 | n=>n,fun | n=>n⟩
theorem Tryz.sort48:Go.Proofs.SlLaysF0.n6 Tryz.prog Tryz.sort48_ren:={
 mixed:=by kernel_rfl
 f6:=⟨Tryz.f48.name,by decide,Tryz.func48.trans (congrArg some (by kernel_rfl))⟩
 f14:=⟨Tryz.f95.name,by decide,Tryz.func95.trans (congrArg some (by kernel_rfl))⟩
 f15:=Tryz.func96.trans (congrArg some (by kernel_rfl))
 f20:=⟨Tryz.f125.name,by decide,Tryz.func125.trans (congrArg some (by kernel_rfl))⟩
 f21:=⟨Tryz.f126.name,by decide,Tryz.func126.trans (congrArg some (by kernel_rfl))⟩
 f22:=⟨Tryz.f127.name,by decide,Tryz.func127.trans (congrArg some (by kernel_rfl))⟩
 f23:=⟨Tryz.f128.name,by decide,Tryz.func128.trans (congrArg some (by kernel_rfl))⟩
 f24:=⟨Tryz.f129.name,by decide,Tryz.func129.trans (congrArg some (by kernel_rfl))⟩
 f25:=⟨Tryz.f130.name,by decide,Tryz.func130.trans (congrArg some (by kernel_rfl))⟩
 f26:=⟨Tryz.f131.name,by decide,Tryz.func131.trans (congrArg some (by kernel_rfl))⟩
 f27:=⟨Tryz.f132.name,by decide,Tryz.func132.trans (congrArg some (by kernel_rfl))⟩
 f28:=Tryz.func133.trans (congrArg some (by kernel_rfl))
 f29:=Tryz.func134.trans (congrArg some (by kernel_rfl))
 f46:=⟨Tryz.f151.name,by decide,Tryz.func151.trans (congrArg some (by kernel_rfl))⟩
 f47:=Tryz.func152.trans (congrArg some (by kernel_rfl))
 f48:=Tryz.func153.trans (congrArg some (by kernel_rfl))
 f49:=⟨Tryz.f154.name,by decide,Tryz.func154.trans (congrArg some (by kernel_rfl))⟩
 f50:=⟨Tryz.f155.name,by decide,Tryz.func155.trans (congrArg some (by kernel_rfl))⟩
 f57:=⟨Tryz.f159.name,by decide,Tryz.func159.trans (congrArg some (by kernel_rfl))⟩
 t0:=Tryz.underlying0
 a0:=Tryz.isAgg0
 z0:=Tryz.sizeOf0
 v0:=Tryz.zeroValue0
 t3:=Tryz.underlying3
 a3:=Tryz.isAgg3
 z3:=Tryz.sizeOf3
 v3:=Tryz.zeroValue3
 t4:=Tryz.underlying4
 a4:=Tryz.isAgg4
 z4:=Tryz.sizeOf4
 v4:=Tryz.zeroValue4
 t5:=Tryz.underlying5
 a5:=Tryz.isAgg5
 z5:=Tryz.sizeOf5
 v5:=Tryz.zeroValue5
 t9:=Tryz.underlying9
 a9:=Tryz.isAgg9
 z9:=Tryz.sizeOf9
 v9:=Tryz.zeroValue9
 t22:=Tryz.underlying34
 a22:=Tryz.isAgg34
 z22:=Tryz.sizeOf34
 v22:=Tryz.zeroValue34
 t25:=Tryz.underlying104
 a25:=Tryz.isAgg104
 z25:=Tryz.sizeOf104
 v25:=Tryz.zeroValue104
 t39:=Tryz.underlying134
 a39:=Tryz.isAgg134
 z39:=Tryz.sizeOf134
 v39:=Tryz.zeroValue134
 t45:=Tryz.underlying160
 a45:=Tryz.isAgg160
 z45:=Tryz.sizeOf160
 v45:=Tryz.zeroValue160
 t46:=Tryz.underlying161
 a46:=Tryz.isAgg161
 z46:=Tryz.sizeOf161
 v46:=Tryz.zeroValue161
 t50:=Tryz.underlying165
 a50:=Tryz.isAgg165
 z50:=Tryz.sizeOf165
 v50:=Tryz.zeroValue165
 t53:=Tryz.underlying168
 a53:=Tryz.isAgg168
 z53:=Tryz.sizeOf168
 v53:=Tryz.zeroValue168
 t55:=Tryz.underlying170
 a55:=Tryz.isAgg170
 z55:=Tryz.sizeOf170
 v55:=Tryz.zeroValue170
 t66:=Tryz.underlying184
 a66:=Tryz.isAgg184
 z66:=Tryz.sizeOf184
 v66:=Tryz.zeroValue184
 t70:=Tryz.underlying188
 a70:=Tryz.isAgg188
 z70:=Tryz.sizeOf188
 v70:=Tryz.zeroValue188
 t76:=Tryz.underlying192
 a76:=Tryz.isAgg192
 z76:=Tryz.sizeOf192
 v76:=Tryz.zeroValue192
 t77:=Tryz.underlying193
 a77:=Tryz.isAgg193
 z77:=Tryz.sizeOf193
 v77:=Tryz.zeroValue193 }
def Tryz.sort92_ren:Go.Shelf.Ren:=⟨fun | 189=>92 | 125=>96 | 257=>124 | 128=>133 | 129=>134 | 294=>142 | 295=>143 | 296=>144 | 297=>145 | 298=>146 | 299=>147 | 216=>148 | 300=>149 | 301=>150 | 328=>156 | 329=>152 | 330=>153 | 331=>157 | 332=>158 | 215=>97 | 343=>160 | n=>n,fun | 28=>35 | 3=>3 | 46=>134 | 0=>0 | 51=>168 | 53=>170 | 4=>4 | 183=>161 | 182=>160 | 131=>165 | 5=>5 | 9=>9 | 218=>184 | 222=>188 | 228=>192 | 229=>193 | n=>n,fun | n=>n⟩
theorem Tryz.sort92:Go.Proofs.Lays.n189 Tryz.prog Tryz.sort92_ren:={
 mixed:=by kernel_rfl
 f125:=Tryz.func96.trans (congrArg some (by kernel_rfl))
 f128:=Tryz.func133.trans (congrArg some (by kernel_rfl))
 f129:=Tryz.func134.trans (congrArg some (by kernel_rfl))
 f189:=Tryz.func92.trans (congrArg some (by kernel_rfl))
 f215:=Tryz.func97.trans (congrArg some (by kernel_rfl))
 f216:=Tryz.func148.trans (congrArg some (by kernel_rfl))
 f257:=Tryz.func124.trans (congrArg some (by kernel_rfl))
 f294:=Tryz.func142.trans (congrArg some (by kernel_rfl))
 f295:=Tryz.func143.trans (congrArg some (by kernel_rfl))
 f296:=Tryz.func144.trans (congrArg some (by kernel_rfl))
 f297:=Tryz.func145.trans (congrArg some (by kernel_rfl))
 f298:=Tryz.func146.trans (congrArg some (by kernel_rfl))
 f299:=Tryz.func147.trans (congrArg some (by kernel_rfl))
 f300:=Tryz.func149.trans (congrArg some (by kernel_rfl))
 f301:=Tryz.func150.trans (congrArg some (by kernel_rfl))
 f328:=Tryz.func156.trans (congrArg some (by kernel_rfl))
 f329:=Tryz.func152.trans (congrArg some (by kernel_rfl))
 f330:=Tryz.func153.trans (congrArg some (by kernel_rfl))
 f331:=Tryz.func157.trans (congrArg some (by kernel_rfl))
 f332:=Tryz.func158.trans (congrArg some (by kernel_rfl))
 f343:=Tryz.func160.trans (congrArg some (by kernel_rfl))
 t0:=Tryz.underlying0
 a0:=Tryz.isAgg0
 z0:=Tryz.sizeOf0
 v0:=Tryz.zeroValue0
 t3:=Tryz.underlying3
 a3:=Tryz.isAgg3
 z3:=Tryz.sizeOf3
 v3:=Tryz.zeroValue3
 t4:=Tryz.underlying4
 a4:=Tryz.isAgg4
 z4:=Tryz.sizeOf4
 v4:=Tryz.zeroValue4
 t5:=Tryz.underlying5
 a5:=Tryz.isAgg5
 z5:=Tryz.sizeOf5
 v5:=Tryz.zeroValue5
 t9:=Tryz.underlying9
 a9:=Tryz.isAgg9
 z9:=Tryz.sizeOf9
 v9:=Tryz.zeroValue9
 t28:=Tryz.underlying35
 a28:=Tryz.isAgg35
 z28:=Tryz.sizeOf35
 v28:=Tryz.zeroValue35
 t46:=Tryz.underlying134
 a46:=Tryz.isAgg134
 z46:=Tryz.sizeOf134
 v46:=Tryz.zeroValue134
 t51:=Tryz.underlying168
 a51:=Tryz.isAgg168
 z51:=Tryz.sizeOf168
 v51:=Tryz.zeroValue168
 t53:=Tryz.underlying170
 a53:=Tryz.isAgg170
 z53:=Tryz.sizeOf170
 v53:=Tryz.zeroValue170
 t131:=Tryz.underlying165
 a131:=Tryz.isAgg165
 z131:=Tryz.sizeOf165
 v131:=Tryz.zeroValue165
 t182:=Tryz.underlying160
 a182:=Tryz.isAgg160
 z182:=Tryz.sizeOf160
 v182:=Tryz.zeroValue160
 t183:=Tryz.underlying161
 a183:=Tryz.isAgg161
 z183:=Tryz.sizeOf161
 v183:=Tryz.zeroValue161
 t218:=Tryz.underlying184
 a218:=Tryz.isAgg184
 z218:=Tryz.sizeOf184
 v218:=Tryz.zeroValue184
 t222:=Tryz.underlying188
 a222:=Tryz.isAgg188
 z222:=Tryz.sizeOf188
 v222:=Tryz.zeroValue188
 t228:=Tryz.underlying192
 a228:=Tryz.isAgg192
 z228:=Tryz.sizeOf192
 v228:=Tryz.zeroValue192
 t229:=Tryz.underlying193
 a229:=Tryz.isAgg193
 z229:=Tryz.sizeOf193
 v229:=Tryz.zeroValue193 }
end Go.Proofs
namespace Go.Proofs.YtmfhaflabpnaoaaGreat
open Go.RowKit Go.Shelf Go.Sort
set_option maxRecDepth 100000
theorem Q13:Qc4 Tryz.prog 48 4:=fun enc hk h1 cf hO g cb blk off cap d w eg hC hH hb hs=>AnyQ.slices_SortFunc_eq Tryz.sort48 4 (fun w=>Hd6 (T:=70) (k:=4) (by kernel_rfl) w) (fun w=>Q9 (T:=70) (k:=4) (by kernel_rfl) w) enc hk h1 cf hO g cb blk off cap d w eg hC hH hb hs
theorem Ja0:SortNone Tryz.prog 48:=fun g cb w=>(AnyF.slices_SortFunc_none Tryz.sort48 none 0 (.func (.func g) #[] cb) w).mono fun e w' h=>⟨h.1,0,#[],h.2.trans (by rw [World.drewN_zero,grow_empty])⟩
theorem Ja2:Q42 Tryz.prog 92:=fun blk off cap zs w hH hb hs=>Any.slices_Sort_int Tryz.sort92 blk off cap zs w hH hb hs
theorem J3c:J7f Tryz.prog 92:=fun p cap w=>Any.slices_Sort_int_none Tryz.sort92 p cap w
end Go.Proofs.YtmfhaflabpnaoaaGreat
