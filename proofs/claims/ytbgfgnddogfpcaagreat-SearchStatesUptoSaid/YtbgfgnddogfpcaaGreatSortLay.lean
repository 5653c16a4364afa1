import Derived.Test.YtbgfgnddogfpcaaGreatSortD
import Derived.Test.YtbgfgnddogfpcaaGreatSortD
import Derived.Shelf.SlSortCmp.NoneTotal
import Derived.Shelf.Sort.Plain
import Derived.Shelf.Slices.In.SortNone
import Derived.Shelf.SlGeneric
import Derived.Shelf.SlLaysF0
import Derived.Shelf.SlLaysF
import Derived.Ground.SlsfProg
import Derived.Test.YtbgfgnddogfpcaaGreatProg
import Derived.Ground.NamesProg
import Derived.Shelf.Sort.Plain
/-
 DERIVED: THE SHELF's CONTRACTS AT THIS DUMP,IN PLAIN WORDS (tools/lay-plain.mjs out of 'TryLay.lean',which tools/lay-shelf.mjs wrote): THE SAME DECLARATIONS UNDER THE SAME NAMES: 'import','namespace','open','def','theorem' AND NOTHING ELSE: no command of the shelf's: FOR A HAND-IN. Each laying: the table of numbers ('.._ren') and one theorem,a field a fact of the dump's own or the kernel's comparison; each contract: ONE APPLICATION.
-/
namespace Go.Proofs
open YtbgfgnddogfpcaaGreat
open Go.Shelf
def Tryz.sort72_ren:Go.Shelf.Ren:=⟨fun | 6=>72 | 15=>131 | 14=>130 | 28=>181 | 29=>182 | 20=>173 | 21=>174 | 22=>175 | 23=>176 | 24=>177 | 25=>178 | 26=>179 | 27=>180 | 46=>209 | 47=>210 | 48=>211 | 49=>212 | 50=>213 | 57=>233 | n=>n,fun | 22=>70 | 24=>74 | 25=>150 | 3=>3 | 39=>196 | 0=>0 | 53=>267 | 55=>269 | 4=>4 | 46=>260 | 45=>259 | 50=>264 | 5=>5 | 9=>9 | 66=>291 | 70=>295 | 76=>309 | 77=>310 | n=>n,fun | n=>n⟩
theorem Tryz.sort72:Go.Proofs.SlLaysF0.n6 Tryz.prog Tryz.sort72_ren:={
 mixed:=zF
 f6:=⟨Tryz.f72.name,by decide,Tryz.func72.trans zK⟩
 f14:=⟨Tryz.f130.name,by decide,Tryz.func130.trans zK⟩
 f15:=Tryz.func131.trans zK
 f20:=⟨Tryz.f173.name,by decide,Tryz.func173.trans zK⟩
 f21:=⟨Tryz.f174.name,by decide,Tryz.func174.trans zK⟩
 f22:=⟨Tryz.f175.name,by decide,Tryz.func175.trans zK⟩
 f23:=⟨Tryz.f176.name,by decide,Tryz.func176.trans zK⟩
 f24:=⟨Tryz.f177.name,by decide,Tryz.func177.trans zK⟩
 f25:=⟨Tryz.f178.name,by decide,Tryz.func178.trans zK⟩
 f26:=⟨Tryz.f179.name,by decide,Tryz.func179.trans zK⟩
 f27:=⟨Tryz.f180.name,by decide,Tryz.func180.trans zK⟩
 f28:=Tryz.func181.trans zK
 f29:=Tryz.func182.trans zK
 f46:=⟨Tryz.f209.name,by decide,Tryz.func209.trans zK⟩
 f47:=Tryz.func210.trans zK
 f48:=Tryz.func211.trans zK
 f49:=⟨Tryz.f212.name,by decide,Tryz.func212.trans zK⟩
 f50:=⟨Tryz.f213.name,by decide,Tryz.func213.trans zK⟩
 f57:=⟨Tryz.f233.name,by decide,Tryz.func233.trans zK⟩
 t0:=Tryz.underlying0
 a0:=Tryz.isAgg0
 z0:=Tryz.sizeOf0
 v0:=Tryz.zeroValue0
 t3:=Tryz.underlying3
 a3:=Tryz.isAgg3
 z3:=Tryz.sizeOf3
 v3:=Tryz.zeroValue3
 t4:=Tryz.underlying4
 a4:=Tryz.isAgg4
 z4:=Tryz.sizeOf4
 v4:=Tryz.zeroValue4
 t5:=Tryz.underlying5
 a5:=Tryz.isAgg5
 z5:=Tryz.sizeOf5
 v5:=Tryz.zeroValue5
 t9:=Tryz.underlying9
 a9:=Tryz.isAgg9
 z9:=Tryz.sizeOf9
 v9:=Tryz.zeroValue9
 t22:=Tryz.underlying70
 a22:=Tryz.isAgg70
 z22:=Tryz.sizeOf70
 v22:=Tryz.zeroValue70
 t25:=Tryz.underlying150
 a25:=Tryz.isAgg150
 z25:=Tryz.sizeOf150
 v25:=Tryz.zeroValue150
 t39:=Tryz.underlying196
 a39:=Tryz.isAgg196
 z39:=Tryz.sizeOf196
 v39:=Tryz.zeroValue196
 t45:=Tryz.underlying259
 a45:=Tryz.isAgg259
 z45:=Tryz.sizeOf259
 v45:=Tryz.zeroValue259
 t46:=Tryz.underlying260
 a46:=Tryz.isAgg260
 z46:=Tryz.sizeOf260
 v46:=Tryz.zeroValue260
 t50:=Tryz.underlying264
 a50:=Tryz.isAgg264
 z50:=Tryz.sizeOf264
 v50:=Tryz.zeroValue264
 t53:=Tryz.underlying267
 a53:=Tryz.isAgg267
 z53:=Tryz.sizeOf267
 v53:=Tryz.zeroValue267
 t55:=Tryz.underlying269
 a55:=Tryz.isAgg269
 z55:=Tryz.sizeOf269
 v55:=Tryz.zeroValue269
 t66:=Tryz.underlying291
 a66:=Tryz.isAgg291
 z66:=Tryz.sizeOf291
 v66:=Tryz.zeroValue291
 t70:=Tryz.underlying295
 a70:=Tryz.isAgg295
 z70:=Tryz.sizeOf295
 v70:=Tryz.zeroValue295
 t76:=Tryz.underlying309
 a76:=Tryz.isAgg309
 z76:=Tryz.sizeOf309
 v76:=Tryz.zeroValue309
 t77:=Tryz.underlying310
 a77:=Tryz.isAgg310
 z77:=Tryz.sizeOf310
 v77:=Tryz.zeroValue310 }
def Tryz.sort76_ren:Go.Shelf.Ren:=⟨fun | 6=>76 | 15=>131 | 14=>138 | 28=>181 | 29=>182 | 20=>189 | 21=>190 | 22=>191 | 23=>192 | 24=>193 | 25=>194 | 26=>195 | 27=>196 | 46=>217 | 47=>210 | 48=>211 | 49=>218 | 50=>219 | 57=>234 | n=>n,fun | 22=>38 | 24=>70 | 25=>87 | 3=>3 | 39=>196 | 0=>0 | 53=>267 | 55=>269 | 4=>4 | 46=>260 | 45=>259 | 50=>264 | 5=>5 | 9=>9 | 66=>291 | 70=>295 | 76=>309 | 77=>310 | n=>n,fun | n=>n⟩
theorem Tryz.sort76:Go.Proofs.SlLaysF.n6 Tryz.prog Tryz.sort76_ren:={
 mixed:=zF
 f6:=⟨Tryz.f76.name,by decide,Tryz.func76.trans zK⟩
 f14:=⟨Tryz.f138.name,by decide,Tryz.func138.trans zK⟩
 f15:=Tryz.func131.trans zK
 f20:=⟨Tryz.f189.name,by decide,Tryz.func189.trans zK⟩
 f21:=⟨Tryz.f190.name,by decide,Tryz.func190.trans zK⟩
 f22:=⟨Tryz.f191.name,by decide,Tryz.func191.trans zK⟩
 f23:=⟨Tryz.f192.name,by decide,Tryz.func192.trans zK⟩
 f24:=⟨Tryz.f193.name,by decide,Tryz.func193.trans zK⟩
 f25:=⟨Tryz.f194.name,by decide,Tryz.func194.trans zK⟩
 f26:=⟨Tryz.f195.name,by decide,Tryz.func195.trans zK⟩
 f27:=⟨Tryz.f196.name,by decide,Tryz.func196.trans zK⟩
 f28:=Tryz.func181.trans zK
 f29:=Tryz.func182.trans zK
 f46:=⟨Tryz.f217.name,by decide,Tryz.func217.trans zK⟩
 f47:=Tryz.func210.trans zK
 f48:=Tryz.func211.trans zK
 f49:=⟨Tryz.f218.name,by decide,Tryz.func218.trans zK⟩
 f50:=⟨Tryz.f219.name,by decide,Tryz.func219.trans zK⟩
 f57:=⟨Tryz.f234.name,by decide,Tryz.func234.trans zK⟩
 t0:=Tryz.underlying0
 a0:=Tryz.isAgg0
 z0:=Tryz.sizeOf0
 v0:=Tryz.zeroValue0
 t3:=Tryz.underlying3
 a3:=Tryz.isAgg3
 z3:=Tryz.sizeOf3
 v3:=Tryz.zeroValue3
 t4:=Tryz.underlying4
 a4:=Tryz.isAgg4
 z4:=Tryz.sizeOf4
 v4:=Tryz.zeroValue4
 t5:=Tryz.underlying5
 a5:=Tryz.isAgg5
 z5:=Tryz.sizeOf5
 v5:=Tryz.zeroValue5
 t9:=Tryz.underlying9
 a9:=Tryz.isAgg9
 z9:=Tryz.sizeOf9
 v9:=Tryz.zeroValue9
 t22:=Tryz.underlying38
 a22:=Tryz.isAgg38
 z22:=Tryz.sizeOf38
 v22:=Tryz.zeroValue38
 a24:=Tryz.isAgg70
 z24:=Tryz.sizeOf70
 t25:=Tryz.underlying87
 a25:=Tryz.isAgg87
 z25:=Tryz.sizeOf87
 v25:=Tryz.zeroValue87
 t39:=Tryz.underlying196
 a39:=Tryz.isAgg196
 z39:=Tryz.sizeOf196
 v39:=Tryz.zeroValue196
 t45:=Tryz.underlying259
 a45:=Tryz.isAgg259
 z45:=Tryz.sizeOf259
 v45:=Tryz.zeroValue259
 t46:=Tryz.underlying260
 a46:=Tryz.isAgg260
 z46:=Tryz.sizeOf260
 v46:=Tryz.zeroValue260
 t50:=Tryz.underlying264
 a50:=Tryz.isAgg264
 z50:=Tryz.sizeOf264
 v50:=Tryz.zeroValue264
 t53:=Tryz.underlying267
 a53:=Tryz.isAgg267
 z53:=Tryz.sizeOf267
 v53:=Tryz.zeroValue267
 t55:=Tryz.underlying269
 a55:=Tryz.isAgg269
 z55:=Tryz.sizeOf269
 v55:=Tryz.zeroValue269
 t66:=Tryz.underlying291
 a66:=Tryz.isAgg291
 z66:=Tryz.sizeOf291
 v66:=Tryz.zeroValue291
 t70:=Tryz.underlying295
 a70:=Tryz.isAgg295
 z70:=Tryz.sizeOf295
 v70:=Tryz.zeroValue295
 t76:=Tryz.underlying309
 a76:=Tryz.isAgg309
 z76:=Tryz.sizeOf309
 v76:=Tryz.zeroValue309
 t77:=Tryz.underlying310
 a77:=Tryz.isAgg310
 z77:=Tryz.sizeOf310
 v77:=Tryz.zeroValue310 }
def Tryz.sort147_ren:Go.Shelf.Ren:=⟨fun | 189=>147 | 125=>131 | 257=>203 | 128=>181 | 129=>182 | 294=>223 | 295=>224 | 296=>225 | 297=>226 | 298=>227 | 299=>228 | 216=>229 | 300=>230 | 301=>231 | 328=>235 | 329=>210 | 330=>211 | 331=>236 | 332=>237 | 215=>132 | 343=>238 | n=>n,fun | 28=>51 | 3=>3 | 46=>196 | 0=>0 | 51=>267 | 53=>269 | 4=>4 | 183=>260 | 182=>259 | 131=>264 | 5=>5 | 9=>9 | 218=>291 | 222=>295 | 228=>309 | 229=>310 | n=>n,fun | n=>n⟩
theorem Tryz.sort147:Go.Proofs.Lays.n189 Tryz.prog Tryz.sort147_ren:={
 mixed:=zF
 f125:=Tryz.func131.trans zK
 f128:=Tryz.func181.trans zK
 f129:=Tryz.func182.trans zK
 f189:=Tryz.func147.trans zK
 f215:=Tryz.func132.trans zK
 f216:=Tryz.func229.trans zK
 f257:=Tryz.func203.trans zK
 f294:=Tryz.func223.trans zK
 f295:=Tryz.func224.trans zK
 f296:=Tryz.func225.trans zK
 f297:=Tryz.func226.trans zK
 f298:=Tryz.func227.trans zK
 f299:=Tryz.func228.trans zK
 f300:=Tryz.func230.trans zK
 f301:=Tryz.func231.trans zK
 f328:=Tryz.func235.trans zK
 f329:=Tryz.func210.trans zK
 f330:=Tryz.func211.trans zK
 f331:=Tryz.func236.trans zK
 f332:=Tryz.func237.trans zK
 f343:=Tryz.func238.trans zK
 t0:=Tryz.underlying0
 a0:=Tryz.isAgg0
 z0:=Tryz.sizeOf0
 v0:=Tryz.zeroValue0
 t3:=Tryz.underlying3
 a3:=Tryz.isAgg3
 z3:=Tryz.sizeOf3
 v3:=Tryz.zeroValue3
 t4:=Tryz.underlying4
 a4:=Tryz.isAgg4
 z4:=Tryz.sizeOf4
 v4:=Tryz.zeroValue4
 t5:=Tryz.underlying5
 a5:=Tryz.isAgg5
 z5:=Tryz.sizeOf5
 v5:=Tryz.zeroValue5
 t9:=Tryz.underlying9
 a9:=Tryz.isAgg9
 z9:=Tryz.sizeOf9
 v9:=Tryz.zeroValue9
 t28:=Tryz.underlying51
 a28:=Tryz.isAgg51
 z28:=Tryz.sizeOf51
 v28:=Tryz.zeroValue51
 t46:=Tryz.underlying196
 a46:=Tryz.isAgg196
 z46:=Tryz.sizeOf196
 v46:=Tryz.zeroValue196
 t51:=Tryz.underlying267
 a51:=Tryz.isAgg267
 z51:=Tryz.sizeOf267
 v51:=Tryz.zeroValue267
 t53:=Tryz.underlying269
 a53:=Tryz.isAgg269
 z53:=Tryz.sizeOf269
 v53:=Tryz.zeroValue269
 t131:=Tryz.underlying264
 a131:=Tryz.isAgg264
 z131:=Tryz.sizeOf264
 v131:=Tryz.zeroValue264
 t182:=Tryz.underlying259
 a182:=Tryz.isAgg259
 z182:=Tryz.sizeOf259
 v182:=Tryz.zeroValue259
 t183:=Tryz.underlying260
 a183:=Tryz.isAgg260
 z183:=Tryz.sizeOf260
 v183:=Tryz.zeroValue260
 t218:=Tryz.underlying291
 a218:=Tryz.isAgg291
 z218:=Tryz.sizeOf291
 v218:=Tryz.zeroValue291
 t222:=Tryz.underlying295
 a222:=Tryz.isAgg295
 z222:=Tryz.sizeOf295
 v222:=Tryz.zeroValue295
 t228:=Tryz.underlying309
 a228:=Tryz.isAgg309
 z228:=Tryz.sizeOf309
 v228:=Tryz.zeroValue309
 t229:=Tryz.underlying310
 a229:=Tryz.isAgg310
 z229:=Tryz.sizeOf310
 v229:=Tryz.zeroValue310 }
end Go.Proofs
namespace Go.Proofs.YtbgfgnddogfpcaaGreat
open Go.RowKit Go.Shelf Go.Sort
set_option maxRecDepth 100000
theorem Hfb:H0f Tryz.prog 72 4:=fun enc hk h1 cf hO g cb blk off cap d w eg hC hH hb hs=>AnyQ.slices_SortFunc_eq Tryz.sort72 4 (fun w=>xN (T:=74) (k:=4) zF w) (fun w=>Q8 (T:=74) (k:=4) zF w) enc hk h1 cf hO g cb blk off cap d w eg hC hH hb hs
theorem H63:SortNone Tryz.prog 72:=fun g cb w=>(AnyF.slices_SortFunc_none Tryz.sort72 none 0 (.func (.func g) #[] cb) w).mono fun e w' h=>⟨h.1,0,#[],h.2.trans (by rw [World.drewN_zero,grow_empty])⟩
theorem Gfb:G70 Tryz.prog 147:=fun blk off cap zs w hH hb hs=>Any.slices_Sort_int Tryz.sort147 blk off cap zs w hH hb hs
theorem Ga5:RY Tryz.prog 147:=fun p cap w=>Any.slices_Sort_int_none Tryz.sort147 p cap w
theorem H67:yF Tryz.prog 76:=fun enc h1 cf hO g cb blk off cap d w eg hC hH hb hs=>Any.slices_SortFunc Tryz.sort76 enc h1 cf hO g cb blk off cap d w eg hC hH hb hs
theorem H62:SortNone Tryz.prog 76:=fun g cb w=>(AnyF.slices_SortFunc_none { Tryz.sort76 with } none 0 (.func (.func g) #[] cb) w).mono fun e w' h=>⟨h.1,0,#[],h.2.trans (by rw [World.drewN_zero,grow_empty])⟩
end Go.Proofs.YtbgfgnddogfpcaaGreat
