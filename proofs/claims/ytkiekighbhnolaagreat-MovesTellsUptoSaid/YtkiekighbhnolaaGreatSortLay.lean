import Derived.Test.YtkiekighbhnolaaGreatSortI

import Derived.Shelf.SlSortCmp.NoneTotal
import Derived.Shelf.Sort.Plain
import Derived.Shelf.Slices.In.SortNone
import Derived.Shelf.SlGeneric
import Derived.Shelf.SlLaysF0
import Derived.Ground.SlsfProg
import Derived.Test.YtkiekighbhnolaaGreatProg
import Derived.Ground.NamesProg
import Derived.Shelf.Sort.Plain
/-
 DERIVED: THE SHELF's CONTRACTS AT THIS DUMP,IN PLAIN WORDS (tools/lay-plain.mjs out of 'TryLay.lean',which tools/lay-shelf.mjs wrote): THE SAME DECLARATIONS UNDER THE SAME NAMES: 'import','namespace','open','def','theorem' AND NOTHING ELSE: no command of the shelf's: FOR A HAND-IN. Each laying: the table of numbers ('.._ren') and one theorem,a field a fact of the dump's own or the kernel's comparison; each contract: ONE APPLICATION.
-/
namespace Go.Proofs
open YtkiekighbhnolaaGreat
open Go.Shelf
def Tryz.sort119_ren:Go.Shelf.Ren:=⟨fun | 6=>119 | 15=>180 | 14=>179 | 28=>215 | 29=>216 | 20=>207 | 21=>208 | 22=>209 | 23=>210 | 24=>211 | 25=>212 | 26=>213 | 27=>214 | 46=>237 | 47=>238 | 48=>239 | 49=>240 | 50=>241 | 57=>261 | n=>n,fun | 22=>72 | 24=>80 | 25=>133 | 3=>3 | 39=>267 | 0=>0 | 53=>300 | 55=>278 | 4=>4 | 46=>293 | 45=>292 | 50=>297 | 5=>5 | 9=>9 | 66=>315 | 70=>319 | 76=>332 | 77=>91 | n=>n,fun | n=>n⟩
theorem Tryz.sort119:Go.Proofs.SlLaysF0.n6 Tryz.prog Tryz.sort119_ren:={
 mixed:=zR
 f6:=⟨Tryz.f119.name,by decide,Tryz.func119.trans zZ⟩
 f14:=⟨Tryz.f179.name,by decide,Tryz.func179.trans zZ⟩
 f15:=Tryz.func180.trans zZ
 f20:=⟨Tryz.f207.name,by decide,Tryz.func207.trans zZ⟩
 f21:=⟨Tryz.f208.name,by decide,Tryz.func208.trans zZ⟩
 f22:=⟨Tryz.f209.name,by decide,Tryz.func209.trans zZ⟩
 f23:=⟨Tryz.f210.name,by decide,Tryz.func210.trans zZ⟩
 f24:=⟨Tryz.f211.name,by decide,Tryz.func211.trans zZ⟩
 f25:=⟨Tryz.f212.name,by decide,Tryz.func212.trans zZ⟩
 f26:=⟨Tryz.f213.name,by decide,Tryz.func213.trans zZ⟩
 f27:=⟨Tryz.f214.name,by decide,Tryz.func214.trans zZ⟩
 f28:=Tryz.func215.trans zZ
 f29:=Tryz.func216.trans zZ
 f46:=⟨Tryz.f237.name,by decide,Tryz.func237.trans zZ⟩
 f47:=Tryz.func238.trans zZ
 f48:=Tryz.func239.trans zZ
 f49:=⟨Tryz.f240.name,by decide,Tryz.func240.trans zZ⟩
 f50:=⟨Tryz.f241.name,by decide,Tryz.func241.trans zZ⟩
 f57:=⟨Tryz.f261.name,by decide,Tryz.func261.trans zZ⟩
 t0:=Tryz.underlying0
 a0:=Tryz.isAgg0
 z0:=Tryz.sizeOf0
 v0:=Tryz.zeroValue0
 t3:=Tryz.underlying3
 a3:=Tryz.isAgg3
 z3:=Tryz.sizeOf3
 v3:=Tryz.zeroValue3
 t4:=Tryz.underlying4
 a4:=Tryz.isAgg4
 z4:=Tryz.sizeOf4
 v4:=Tryz.zeroValue4
 t5:=Tryz.underlying5
 a5:=Tryz.isAgg5
 z5:=Tryz.sizeOf5
 v5:=Tryz.zeroValue5
 t9:=Tryz.underlying9
 a9:=Tryz.isAgg9
 z9:=Tryz.sizeOf9
 v9:=Tryz.zeroValue9
 t22:=Tryz.underlying72
 a22:=Tryz.isAgg72
 z22:=Tryz.sizeOf72
 v22:=Tryz.zeroValue72
 t25:=Tryz.underlying133
 a25:=Tryz.isAgg133
 z25:=Tryz.sizeOf133
 v25:=Tryz.zeroValue133
 t39:=Tryz.underlying267
 a39:=Tryz.isAgg267
 z39:=Tryz.sizeOf267
 v39:=Tryz.zeroValue267
 t45:=Tryz.underlying292
 a45:=Tryz.isAgg292
 z45:=Tryz.sizeOf292
 v45:=Tryz.zeroValue292
 t46:=Tryz.underlying293
 a46:=Tryz.isAgg293
 z46:=Tryz.sizeOf293
 v46:=Tryz.zeroValue293
 t50:=Tryz.underlying297
 a50:=Tryz.isAgg297
 z50:=Tryz.sizeOf297
 v50:=Tryz.zeroValue297
 t53:=Tryz.underlying300
 a53:=Tryz.isAgg300
 z53:=Tryz.sizeOf300
 v53:=Tryz.zeroValue300
 t55:=Tryz.underlying278
 a55:=Tryz.isAgg278
 z55:=Tryz.sizeOf278
 v55:=Tryz.zeroValue278
 t66:=Tryz.underlying315
 a66:=Tryz.isAgg315
 z66:=Tryz.sizeOf315
 v66:=Tryz.zeroValue315
 t70:=Tryz.underlying319
 a70:=Tryz.isAgg319
 z70:=Tryz.sizeOf319
 v70:=Tryz.zeroValue319
 t76:=Tryz.underlying332
 a76:=Tryz.isAgg332
 z76:=Tryz.sizeOf332
 v76:=Tryz.zeroValue332
 t77:=Tryz.underlying91
 a77:=Tryz.isAgg91
 z77:=Tryz.sizeOf91
 v77:=Tryz.zeroValue91 }
def Tryz.sort204_ren:Go.Shelf.Ren:=⟨fun | 6=>204 | 15=>180 | 14=>234 | 28=>215 | 29=>216 | 20=>232 | 21=>246 | 22=>247 | 23=>248 | 24=>249 | 25=>250 | 26=>251 | 27=>252 | 46=>264 | 47=>238 | 48=>239 | 49=>265 | 50=>266 | 57=>270 | n=>n,fun | 22=>41 | 24=>68 | 25=>257 | 3=>3 | 39=>267 | 0=>0 | 53=>300 | 55=>278 | 4=>4 | 46=>293 | 45=>292 | 50=>297 | 5=>5 | 9=>9 | 66=>315 | 70=>319 | 76=>332 | 77=>91 | n=>n,fun | n=>n⟩
theorem Tryz.sort204:Go.Proofs.SlLaysF0.n6 Tryz.prog Tryz.sort204_ren:={
 mixed:=zR
 f6:=⟨Tryz.f204.name,by decide,Tryz.func204.trans zZ⟩
 f14:=⟨Tryz.f234.name,by decide,Tryz.func234.trans zZ⟩
 f15:=Tryz.func180.trans zZ
 f20:=⟨Tryz.f232.name,by decide,Tryz.func232.trans zZ⟩
 f21:=⟨Tryz.f246.name,by decide,Tryz.func246.trans zZ⟩
 f22:=⟨Tryz.f247.name,by decide,Tryz.func247.trans zZ⟩
 f23:=⟨Tryz.f248.name,by decide,Tryz.func248.trans zZ⟩
 f24:=⟨Tryz.f249.name,by decide,Tryz.func249.trans zZ⟩
 f25:=⟨Tryz.f250.name,by decide,Tryz.func250.trans zZ⟩
 f26:=⟨Tryz.f251.name,by decide,Tryz.func251.trans zZ⟩
 f27:=⟨Tryz.f252.name,by decide,Tryz.func252.trans zZ⟩
 f28:=Tryz.func215.trans zZ
 f29:=Tryz.func216.trans zZ
 f46:=⟨Tryz.f264.name,by decide,Tryz.func264.trans zZ⟩
 f47:=Tryz.func238.trans zZ
 f48:=Tryz.func239.trans zZ
 f49:=⟨Tryz.f265.name,by decide,Tryz.func265.trans zZ⟩
 f50:=⟨Tryz.f266.name,by decide,Tryz.func266.trans zZ⟩
 f57:=⟨Tryz.f270.name,by decide,Tryz.func270.trans zZ⟩
 t0:=Tryz.underlying0
 a0:=Tryz.isAgg0
 z0:=Tryz.sizeOf0
 v0:=Tryz.zeroValue0
 t3:=Tryz.underlying3
 a3:=Tryz.isAgg3
 z3:=Tryz.sizeOf3
 v3:=Tryz.zeroValue3
 t4:=Tryz.underlying4
 a4:=Tryz.isAgg4
 z4:=Tryz.sizeOf4
 v4:=Tryz.zeroValue4
 t5:=Tryz.underlying5
 a5:=Tryz.isAgg5
 z5:=Tryz.sizeOf5
 v5:=Tryz.zeroValue5
 t9:=Tryz.underlying9
 a9:=Tryz.isAgg9
 z9:=Tryz.sizeOf9
 v9:=Tryz.zeroValue9
 t22:=Tryz.underlying41
 a22:=Tryz.isAgg41
 z22:=Tryz.sizeOf41
 v22:=Tryz.zeroValue41
 t25:=Tryz.underlying257
 a25:=Tryz.isAgg257
 z25:=Tryz.sizeOf257
 v25:=Tryz.zeroValue257
 t39:=Tryz.underlying267
 a39:=Tryz.isAgg267
 z39:=Tryz.sizeOf267
 v39:=Tryz.zeroValue267
 t45:=Tryz.underlying292
 a45:=Tryz.isAgg292
 z45:=Tryz.sizeOf292
 v45:=Tryz.zeroValue292
 t46:=Tryz.underlying293
 a46:=Tryz.isAgg293
 z46:=Tryz.sizeOf293
 v46:=Tryz.zeroValue293
 t50:=Tryz.underlying297
 a50:=Tryz.isAgg297
 z50:=Tryz.sizeOf297
 v50:=Tryz.zeroValue297
 t53:=Tryz.underlying300
 a53:=Tryz.isAgg300
 z53:=Tryz.sizeOf300
 v53:=Tryz.zeroValue300
 t55:=Tryz.underlying278
 a55:=Tryz.isAgg278
 z55:=Tryz.sizeOf278
 v55:=Tryz.zeroValue278
 t66:=Tryz.underlying315
 a66:=Tryz.isAgg315
 z66:=Tryz.sizeOf315
 v66:=Tryz.zeroValue315
 t70:=Tryz.underlying319
 a70:=Tryz.isAgg319
 z70:=Tryz.sizeOf319
 v70:=Tryz.zeroValue319
 t76:=Tryz.underlying332
 a76:=Tryz.isAgg332
 z76:=Tryz.sizeOf332
 v76:=Tryz.zeroValue332
 t77:=Tryz.underlying91
 a77:=Tryz.isAgg91
 z77:=Tryz.sizeOf91
 v77:=Tryz.zeroValue91 }
def Tryz.sort170_ren:Go.Shelf.Ren:=⟨fun | 189=>170 | 125=>180 | 257=>201 | 128=>215 | 129=>216 | 294=>223 | 295=>224 | 296=>225 | 297=>226 | 298=>227 | 299=>228 | 216=>229 | 300=>230 | 301=>231 | 328=>242 | 329=>238 | 330=>239 | 331=>243 | 332=>244 | 215=>120 | 343=>262 | n=>n,fun | 28=>57 | 3=>3 | 46=>267 | 0=>0 | 51=>300 | 53=>278 | 4=>4 | 183=>293 | 182=>292 | 131=>297 | 5=>5 | 9=>9 | 218=>315 | 222=>319 | 228=>332 | 229=>91 | n=>n,fun | n=>n⟩
theorem Tryz.sort170:Go.Proofs.Lays.n189 Tryz.prog Tryz.sort170_ren:={
 mixed:=zR
 f125:=Tryz.func180.trans zZ
 f128:=Tryz.func215.trans zZ
 f129:=Tryz.func216.trans zZ
 f189:=Tryz.func170.trans zZ
 f215:=Tryz.func120.trans zZ
 f216:=Tryz.func229.trans zZ
 f257:=Tryz.func201.trans zZ
 f294:=Tryz.func223.trans zZ
 f295:=Tryz.func224.trans zZ
 f296:=Tryz.func225.trans zZ
 f297:=Tryz.func226.trans zZ
 f298:=Tryz.func227.trans zZ
 f299:=Tryz.func228.trans zZ
 f300:=Tryz.func230.trans zZ
 f301:=Tryz.func231.trans zZ
 f328:=Tryz.func242.trans zZ
 f329:=Tryz.func238.trans zZ
 f330:=Tryz.func239.trans zZ
 f331:=Tryz.func243.trans zZ
 f332:=Tryz.func244.trans zZ
 f343:=Tryz.func262.trans zZ
 t0:=Tryz.underlying0
 a0:=Tryz.isAgg0
 z0:=Tryz.sizeOf0
 v0:=Tryz.zeroValue0
 t3:=Tryz.underlying3
 a3:=Tryz.isAgg3
 z3:=Tryz.sizeOf3
 v3:=Tryz.zeroValue3
 t4:=Tryz.underlying4
 a4:=Tryz.isAgg4
 z4:=Tryz.sizeOf4
 v4:=Tryz.zeroValue4
 t5:=Tryz.underlying5
 a5:=Tryz.isAgg5
 z5:=Tryz.sizeOf5
 v5:=Tryz.zeroValue5
 t9:=Tryz.underlying9
 a9:=Tryz.isAgg9
 z9:=Tryz.sizeOf9
 v9:=Tryz.zeroValue9
 t28:=Tryz.underlying57
 a28:=Tryz.isAgg57
 z28:=Tryz.sizeOf57
 v28:=Tryz.zeroValue57
 t46:=Tryz.underlying267
 a46:=Tryz.isAgg267
 z46:=Tryz.sizeOf267
 v46:=Tryz.zeroValue267
 t51:=Tryz.underlying300
 a51:=Tryz.isAgg300
 z51:=Tryz.sizeOf300
 v51:=Tryz.zeroValue300
 t53:=Tryz.underlying278
 a53:=Tryz.isAgg278
 z53:=Tryz.sizeOf278
 v53:=Tryz.zeroValue278
 t131:=Tryz.underlying297
 a131:=Tryz.isAgg297
 z131:=Tryz.sizeOf297
 v131:=Tryz.zeroValue297
 t182:=Tryz.underlying292
 a182:=Tryz.isAgg292
 z182:=Tryz.sizeOf292
 v182:=Tryz.zeroValue292
 t183:=Tryz.underlying293
 a183:=Tryz.isAgg293
 z183:=Tryz.sizeOf293
 v183:=Tryz.zeroValue293
 t218:=Tryz.underlying315
 a218:=Tryz.isAgg315
 z218:=Tryz.sizeOf315
 v218:=Tryz.zeroValue315
 t222:=Tryz.underlying319
 a222:=Tryz.isAgg319
 z222:=Tryz.sizeOf319
 v222:=Tryz.zeroValue319
 t228:=Tryz.underlying332
 a228:=Tryz.isAgg332
 z228:=Tryz.sizeOf332
 v228:=Tryz.zeroValue332
 t229:=Tryz.underlying91
 a229:=Tryz.isAgg91
 z229:=Tryz.sizeOf91
 v229:=Tryz.zeroValue91 }
end Go.Proofs
namespace Go.Proofs.YtkiekighbhnolaaGreat
open Go.RowKit Go.Shelf Go.Sort
set_option maxRecDepth 100000
theorem Hf6:Ga9 Tryz.prog 119 4:=fun enc hk h1 cf hO g cb blk off cap d w eg hC hH hb hs=>AnyQ.slices_SortFunc_eq Tryz.sort119 4 (fun w=>tO (T:=80) (k:=4) zR w) (fun w=>Qm (T:=80) (k:=4) zR w) enc hk h1 cf hO g cb blk off cap d w eg hC hH hb hs
theorem H77:SortNone Tryz.prog 119:=fun g cb w=>(AnyF.slices_SortFunc_none Tryz.sort119 none 0 (.func (.func g) #[] cb) w).mono fun e w' h=>⟨h.1,0,#[],h.2.trans (by rw [World.drewN_zero,grow_empty])⟩
theorem Hf5:Ga9 Tryz.prog 204 4:=fun enc hk h1 cf hO g cb blk off cap d w eg hC hH hb hs=>AnyQ.slices_SortFunc_eq Tryz.sort204 4 (fun w=>tO (T:=68) (k:=4) zR w) (fun w=>Qm (T:=68) (k:=4) zR w) enc hk h1 cf hO g cb blk off cap d w eg hC hH hb hs
theorem H76:SortNone Tryz.prog 204:=fun g cb w=>(AnyF.slices_SortFunc_none Tryz.sort204 none 0 (.func (.func g) #[] cb) w).mono fun e w' h=>⟨h.1,0,#[],h.2.trans (by rw [World.drewN_zero,grow_empty])⟩
theorem H78:Gf3 Tryz.prog 170:=fun blk off cap zs w hH hb hs=>Any.slices_Sort_int Tryz.sort170 blk off cap zs w hH hb hs
theorem H25:G41 Tryz.prog 170:=fun p cap w=>Any.slices_Sort_int_none Tryz.sort170 p cap w
end Go.Proofs.YtkiekighbhnolaaGreat
