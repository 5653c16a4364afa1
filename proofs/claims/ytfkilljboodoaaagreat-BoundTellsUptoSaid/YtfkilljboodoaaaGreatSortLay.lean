import Derived.Test.YtfkilljboodoaaaGreatSortI
import Derived.Shelf.SlSortCmp.NoneTotal
import Derived.Shelf.Sort.Plain
import Derived.Shelf.Slices.In.SortNone
import Derived.Shelf.SlGeneric
import Derived.Shelf.SlLaysF0
import Derived.Ground.SlsfProg
import Derived.Test.YtfkilljboodoaaaGreatProg
import Derived.Ground.NamesProg
import Derived.Shelf.Sort.Plain
/-
 DERIVED: THE SHELF's CONTRACTS AT THIS DUMP,IN PLAIN WORDS (tools/lay-plain.mjs out of 'TryLay.lean',which tools/lay-shelf.mjs wrote): THE SAME DECLARATIONS UNDER THE SAME NAMES: 'import','namespace','open','def','theorem' AND NOTHING ELSE: no command of the shelf's: FOR A HAND-IN. Each laying: the table of numbers ('.._ren') and one theorem,a field a fact of the dump's own or the kernel's comparison; each contract: ONE APPLICATION.
-/
namespace Go.Proofs
open Go.Shelf
def Tryz.sort102_ren:Go.Shelf.Ren:=⟨fun | 6=>102 | 15=>215 | 14=>214 | 28=>274 | 29=>275 | 20=>266 | 21=>267 | 22=>268 | 23=>269 | 24=>270 | 25=>271 | 26=>272 | 27=>273 | 46=>302 | 47=>303 | 48=>304 | 49=>305 | 50=>306 | 57=>319 | n=>n,fun | 22=>75 | 24=>81 | 25=>186 | 3=>3 | 39=>286 | 0=>0 | 53=>358 | 55=>360 | 4=>4 | 46=>351 | 45=>350 | 50=>355 | 5=>5 | 9=>9 | 66=>379 | 70=>383 | 76=>396 | 77=>47 | n=>n,fun | n=>n⟩
theorem Tryz.sort102:Go.Proofs.SlLaysF0.n6 Tryz.prog Tryz.sort102_ren:={
 mixed:=by kernel_rfl
 f6:=⟨Tryz.f102.name,by decide,Tryz.func102.trans (congrArg some (by kernel_rfl))⟩
 f14:=⟨Tryz.f214.name,by decide,Tryz.func214.trans (congrArg some (by kernel_rfl))⟩
 f15:=Tryz.func215.trans (congrArg some (by kernel_rfl))
 f20:=⟨Tryz.f266.name,by decide,Tryz.func266.trans (congrArg some (by kernel_rfl))⟩
 f21:=⟨Tryz.f267.name,by decide,Tryz.func267.trans (congrArg some (by kernel_rfl))⟩
 f22:=⟨Tryz.f268.name,by decide,Tryz.func268.trans (congrArg some (by kernel_rfl))⟩
 f23:=⟨Tryz.f269.name,by decide,Tryz.func269.trans (congrArg some (by kernel_rfl))⟩
 f24:=⟨Tryz.f270.name,by decide,Tryz.func270.trans (congrArg some (by kernel_rfl))⟩
 f25:=⟨Tryz.f271.name,by decide,Tryz.func271.trans (congrArg some (by kernel_rfl))⟩
 f26:=⟨Tryz.f272.name,by decide,Tryz.func272.trans (congrArg some (by kernel_rfl))⟩
 f27:=⟨Tryz.f273.name,by decide,Tryz.func273.trans (congrArg some (by kernel_rfl))⟩
 f28:=Tryz.func274.trans (congrArg some (by kernel_rfl))
 f29:=Tryz.func275.trans (congrArg some (by kernel_rfl))
 f46:=⟨Tryz.f302.name,by decide,Tryz.func302.trans (congrArg some (by kernel_rfl))⟩
 f47:=Tryz.func303.trans (congrArg some (by kernel_rfl))
 f48:=Tryz.func304.trans (congrArg some (by kernel_rfl))
 f49:=⟨Tryz.f305.name,by decide,Tryz.func305.trans (congrArg some (by kernel_rfl))⟩
 f50:=⟨Tryz.f306.name,by decide,Tryz.func306.trans (congrArg some (by kernel_rfl))⟩
 f57:=⟨Tryz.f319.name,by decide,Tryz.func319.trans (congrArg some (by kernel_rfl))⟩
 t0:=Tryz.underlying0
 a0:=Tryz.isAgg0
 z0:=Tryz.sizeOf0
 v0:=Tryz.zeroValue0
 t3:=Tryz.underlying3
 a3:=Tryz.isAgg3
 z3:=Tryz.sizeOf3
 v3:=Tryz.zeroValue3
 t4:=Tryz.underlying4
 a4:=Tryz.isAgg4
 z4:=Tryz.sizeOf4
 v4:=Tryz.zeroValue4
 t5:=Tryz.underlying5
 a5:=Tryz.isAgg5
 z5:=Tryz.sizeOf5
 v5:=Tryz.zeroValue5
 t9:=Tryz.underlying9
 a9:=Tryz.isAgg9
 z9:=Tryz.sizeOf9
 v9:=Tryz.zeroValue9
 t22:=Tryz.underlying75
 a22:=Tryz.isAgg75
 z22:=Tryz.sizeOf75
 v22:=Tryz.zeroValue75
 t25:=Tryz.underlying186
 a25:=Tryz.isAgg186
 z25:=Tryz.sizeOf186
 v25:=Tryz.zeroValue186
 t39:=Tryz.underlying286
 a39:=Tryz.isAgg286
 z39:=Tryz.sizeOf286
 v39:=Tryz.zeroValue286
 t45:=Tryz.underlying350
 a45:=Tryz.isAgg350
 z45:=Tryz.sizeOf350
 v45:=Tryz.zeroValue350
 t46:=Tryz.underlying351
 a46:=Tryz.isAgg351
 z46:=Tryz.sizeOf351
 v46:=Tryz.zeroValue351
 t50:=Tryz.underlying355
 a50:=Tryz.isAgg355
 z50:=Tryz.sizeOf355
 v50:=Tryz.zeroValue355
 t53:=Tryz.underlying358
 a53:=Tryz.isAgg358
 z53:=Tryz.sizeOf358
 v53:=Tryz.zeroValue358
 t55:=Tryz.underlying360
 a55:=Tryz.isAgg360
 z55:=Tryz.sizeOf360
 v55:=Tryz.zeroValue360
 t66:=Tryz.underlying379
 a66:=Tryz.isAgg379
 z66:=Tryz.sizeOf379
 v66:=Tryz.zeroValue379
 t70:=Tryz.underlying383
 a70:=Tryz.isAgg383
 z70:=Tryz.sizeOf383
 v70:=Tryz.zeroValue383
 t76:=Tryz.underlying396
 a76:=Tryz.isAgg396
 z76:=Tryz.sizeOf396
 v76:=Tryz.zeroValue396
 t77:=Tryz.underlying47
 a77:=Tryz.isAgg47
 z77:=Tryz.sizeOf47
 v77:=Tryz.zeroValue47 }
end Go.Proofs
namespace Go.Proofs.YtfkilljboodoaaaGreat
open Go.RowKit Go.Shelf Go.Sort
set_option maxRecDepth 100000
theorem J37:Heb Tryz.prog 102 4:=fun enc hk h1 cf hO g cb blk off cap d w eg hC hH hb hs=>AnyQ.slices_SortFunc_eq Tryz.sort102 4 (fun w=>Gad (T:=81) (k:=4) (by kernel_rfl) w) (fun w=>Qg (T:=81) (k:=4) (by kernel_rfl) w) enc hk h1 cf hO g cb blk off cap d w eg hC hH hb hs
theorem Hdd:SortNone Tryz.prog 102:=fun g cb w=>(AnyF.slices_SortFunc_none Tryz.sort102 none 0 (.func (.func g) #[] cb) w).mono fun e w' h=>⟨h.1,0,#[],h.2.trans (by rw [World.drewN_zero,grow_empty])⟩
end Go.Proofs.YtfkilljboodoaaaGreat
