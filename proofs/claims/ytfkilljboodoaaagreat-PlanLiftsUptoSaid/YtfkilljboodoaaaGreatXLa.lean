/-
 Models of functions of the program,and that they return what the models say.
-/
import Derived.Test.YtfkilljboodoaaaGreatSpecK
import Derived.Test.YtfkilljboodoaaaGreatSpecK
set_option maxRecDepth 100000
set_option linter.unusedVariables false
set_option linter.unusedSimpArgs false
namespace Go.Proofs.YtfkilljboodoaaaGreat
open Go.RowKit
noncomputable section
structure Gy where
 Bay:Int
 Row:Int
 Deck:Bool
 Tiers:Int
 Height:Int
 Kilos20:Int
 Kilos40:Int
 Lash:Int
 Plugs:Ln Int
 X:Int
 Y:Int
 Z:Int
 deriving Inhabited
def Gy.cs (x:Gy):List AV:=[G0 x.Bay,G0 x.Row,BL x.Deck,G0 x.Tiers,G0 x.Height,G0 x.Kilos20,G0 x.Kilos40,G0 x.Lash,LT 1 G0 x.Plugs,G0 x.X,G0 x.Y,G0 x.Z]
def Gy.av (x:Gy):AV:=.agg x.cs
abbrev Eb:=LS 12 Gy.av
def Gy.pl (x:Gy):G4:=⟨x.Bay,x.Row,x.Deck,x.Tiers,x.Height,x.Kilos20,x.Kilos40,x.Lash,Prod.fst x.Plugs,x.X,x.Y,x.Z⟩
def Gy.of (x:G4):Gy:=⟨x.Bay,x.Row,x.Deck,x.Tiers,x.Height,x.Kilos20,x.Kilos40,x.Lash,(fun e=>(e,[])) x.Plugs,x.X,x.Y,x.Z⟩
theorem Gy.cvl (x:Gy):Hf5 (Gy.cs x) (G4.cs x.pl):=⟨.same,.same,.same,.same,.same,.same,.same,.same,Cv.lst0 x.Plugs,.same,.same,.same,trivial⟩
structure Ha where
 Bay:Int
 Rows:Ln Int
 deriving Inhabited
def Ha.cs (x:Ha):List AV:=[G0 x.Bay,LT 1 G0 x.Rows]
def Ha.av (x:Ha):AV:=.agg x.cs
abbrev Ec:=LS 2 Ha.av
def Ha.pl (x:Ha):Gg:=⟨x.Bay,Prod.fst x.Rows⟩
def Ha.of (x:Gg):Ha:=⟨x.Bay,(fun e=>(e,[])) x.Rows⟩
theorem Ha.cvl (x:Ha):Hf5 (Ha.cs x) (Gg.cs x.pl):=⟨.same,Cv.lst0 x.Rows,trivial⟩
structure Hh where
 Kilos:Int
 X:Int
 Y:Int
 Z:Int
 Surface:Int
 Steps:Ln Int
 deriving Inhabited
def Hh.cs (x:Hh):List AV:=[G0 x.Kilos,G0 x.X,G0 x.Y,G0 x.Z,G0 x.Surface,LT 1 G0 x.Steps]
def Hh.av (x:Hh):AV:=.agg x.cs
abbrev Ed:=LS 6 Hh.av
def Hh.pl (x:Hh):Gr:=⟨x.Kilos,x.X,x.Y,x.Z,x.Surface,Prod.fst x.Steps⟩
def Hh.of (x:Gr):Hh:=⟨x.Kilos,x.X,x.Y,x.Z,x.Surface,(fun e=>(e,[])) x.Steps⟩
theorem Hh.cvl (x:Hh):Hf5 (Hh.cs x) (Gr.cs x.pl):=⟨.same,.same,.same,.same,.same,Cv.lst0 x.Steps,trivial⟩
structure Y4 where
 Columns:Ln Gy
 Covers:Ln Ha
 Light:Light
 Rows:Ln Row
 Frames:Ln Frame
 Tanks:Ln Hh
 G3:G3
 deriving Inhabited
def Y4.cs (x:Y4):List AV:=[LT 12 Gy.av x.Columns,LT 2 Ha.av x.Covers,G0 x.Light.Kilos,G0 x.Light.X,G0 x.Light.Y,G0 x.Light.Z,LT 5 Row.av x.Rows,LT 5 Frame.av x.Frames,LT 6 Hh.av x.Tanks,G0 x.G3.Tolerance,G0 x.G3.Trim,G0 x.G3.List_,G0 x.G3.Stability]
def Y4.av (x:Y4):AV:=.agg x.cs
def Y4.pl (x:Y4):Hb:=⟨(fun e=>e.1.map Gy.pl) x.Columns,(fun e=>e.1.map Ha.pl) x.Covers,x.Light,Prod.fst x.Rows,Prod.fst x.Frames,(fun e=>e.1.map Hh.pl) x.Tanks,x.G3⟩
def Y4.of (x:Hb):Y4:=⟨(fun e=>(e.map Gy.of,[])) x.Columns,(fun e=>(e.map Ha.of,[])) x.Covers,x.Light,(fun e=>(e,[])) x.Rows,(fun e=>(e,[])) x.Frames,(fun e=>(e.map Hh.of,[])) x.Tanks,x.G3⟩
theorem Y4.cvl (x:Y4):Hf5 (Y4.cs x) (Hb.cs x.pl):=⟨Cv.lstM (f:=Gy.av) (g:=G4.av) Gy.pl Gy.cvl x.Columns,Cv.lstM (f:=Ha.av) (g:=Gg.av) Ha.pl Ha.cvl x.Covers,.same,.same,.same,.same,Cv.lst0 x.Rows,Cv.lst0 x.Frames,Cv.lstM (f:=Hh.av) (g:=Gr.av) Hh.pl Hh.cvl x.Tanks,.same,.same,.same,.same,trivial⟩
structure Gv where
 ID:Int
 Number:ByteArray
 Size:Int
 High:Bool
 Kilos:Int
 Load:Int
 Discharge:Int
 Class:Int
 Reefer:Bool
 deriving DecidableEq,Inhabited
def Gv.cs (x:Gv):List AV:=[G0 x.ID,ST x.Number,U8 x.Size,BL x.High,G0 x.Kilos,G0 x.Load,G0 x.Discharge,U8 x.Class,BL x.Reefer]
def Gv.av (x:Gv):AV:=.agg x.cs
abbrev Ei (x:Gv):AV:=.dptr (Gv.cs x)
abbrev E2:=LS 9 Gv.av
namespace XLF
open XAF
theorem tq_117 (a b:Gv):H32 Tryz.prog 4 117 [.int .i64 a.ID,.string a.Number,.int .u8 a.Size,.bool a.High,.int .i64 a.Kilos,.int .i64 a.Load,.int .i64 a.Discharge,.int .u8 a.Class,.bool a.Reefer] [.int .i64 b.ID,.string b.Number,.int .u8 b.Size,.bool b.High,.int .i64 b.Kilos,.int .i64 b.Load,.int .i64 b.Discharge,.int .u8 b.Class,.bool b.Reefer]=some (decide (a=b)):=by
 refine(show _=some ((a.ID==b.ID)&&((a.Number==b.Number)&&((a.Size==b.Size)&&((a.High==b.High)&&((a.Kilos==b.Kilos)&&((a.Load==b.Load)&&((a.Discharge==b.Discharge)&&((a.Class==b.Class)&&((a.Reefer==b.Reefer)&&true))))))))) by kernel_rfl).trans (congrArg some ?_)
 rw [Bool.eq_iff_iff]
 simp only [Bool.and_eq_true,ba_beq_iff,beq_iff_eq,decide_eq_true_eq,Bool.and_true]
 constructor
 ·intro h; obtain⟨_,_,_,_,_,_,_,_,_⟩:=a; obtain⟨_,_,_,_,_,_,_,_,_⟩:=b; simp_all
 ·intro h; subst h; simp
theorem tq_121 (a b:G6):H32 Tryz.prog 4 121 [.int .i64 a.Gv,.int .i64 a.Slot.G4,.int .i64 a.Slot.Tier,.int .u8 a.Slot.Half] [.int .i64 b.Gv,.int .i64 b.Slot.G4,.int .i64 b.Slot.Tier,.int .u8 b.Slot.Half]=some (decide (a=b)):=by
 refine(show _=some ((a.Gv==b.Gv)&&(((a.Slot.G4==b.Slot.G4)&&((a.Slot.Tier==b.Slot.Tier)&&((a.Slot.Half==b.Slot.Half)&&true)))&&true)) by kernel_rfl).trans (congrArg some ?_)
 rw [Bool.eq_iff_iff]
 simp only [Bool.and_eq_true,beq_iff_eq,decide_eq_true_eq,Bool.and_true]
 constructor
 ·intro h; obtain⟨_,⟨_,_,_⟩⟩:=a; obtain⟨_,⟨_,_,_⟩⟩:=b; simp_all
 ·intro h; subst h; simp
theorem tq_228 (a b:Row):H32 Tryz.prog 4 228 [.int .i64 a.Draught,.int .i64 a.Kilos,.int .i64 a.Buoy,.int .i64 a.Metacentre,.int .i64 a.H8d] [.int .i64 b.Draught,.int .i64 b.Kilos,.int .i64 b.Buoy,.int .i64 b.Metacentre,.int .i64 b.H8d]=some (decide (a=b)):=by
 refine(show _=some ((a.Draught==b.Draught)&&((a.Kilos==b.Kilos)&&((a.Buoy==b.Buoy)&&((a.Metacentre==b.Metacentre)&&((a.H8d==b.H8d)&&true))))) by kernel_rfl).trans (congrArg some ?_)
 rw [Bool.eq_iff_iff]
 simp only [Bool.and_eq_true,beq_iff_eq,decide_eq_true_eq,Bool.and_true]
 constructor
 ·intro h; obtain⟨_,_,_,_,_⟩:=a; obtain⟨_,_,_,_,_⟩:=b; simp_all
 ·intro h; subst h; simp
theorem tq_231 (a b:Frame):H32 Tryz.prog 4 231 [.int .i64 a.X,.int .i64 a.Light,.int .i64 a.Share,.int .i64 a.Shear,.int .i64 a.Bend] [.int .i64 b.X,.int .i64 b.Light,.int .i64 b.Share,.int .i64 b.Shear,.int .i64 b.Bend]=some (decide (a=b)):=by
 refine(show _=some ((a.X==b.X)&&((a.Light==b.Light)&&((a.Share==b.Share)&&((a.Shear==b.Shear)&&((a.Bend==b.Bend)&&true))))) by kernel_rfl).trans (congrArg some ?_)
 rw [Bool.eq_iff_iff]
 simp only [Bool.and_eq_true,beq_iff_eq,decide_eq_true_eq,Bool.and_true]
 constructor
 ·intro h; obtain⟨_,_,_,_,_⟩:=a; obtain⟨_,_,_,_,_⟩:=b; simp_all
 ·intro h; subst h; simp
theorem tq_25 (a b:Light):H32 Tryz.prog 4 25 [.int .i64 a.Kilos,.int .i64 a.X,.int .i64 a.Y,.int .i64 a.Z] [.int .i64 b.Kilos,.int .i64 b.X,.int .i64 b.Y,.int .i64 b.Z]=some (decide (a=b)):=by
 refine(show _=some ((a.Kilos==b.Kilos)&&((a.X==b.X)&&((a.Y==b.Y)&&((a.Z==b.Z)&&true)))) by kernel_rfl).trans (congrArg some ?_)
 rw [Bool.eq_iff_iff]
 simp only [Bool.and_eq_true,beq_iff_eq,decide_eq_true_eq,Bool.and_true]
 constructor
 ·intro h; obtain⟨_,_,_,_⟩:=a; obtain⟨_,_,_,_⟩:=b; simp_all
 ·intro h; subst h; simp
theorem tq_30 (a b:G3):H32 Tryz.prog 4 30 [.int .i64 a.Tolerance,.int .i64 a.Trim,.int .i64 a.List_,.int .i64 a.Stability] [.int .i64 b.Tolerance,.int .i64 b.Trim,.int .i64 b.List_,.int .i64 b.Stability]=some (decide (a=b)):=by
 refine(show _=some ((a.Tolerance==b.Tolerance)&&((a.Trim==b.Trim)&&((a.List_==b.List_)&&((a.Stability==b.Stability)&&true)))) by kernel_rfl).trans (congrArg some ?_)
 rw [Bool.eq_iff_iff]
 simp only [Bool.and_eq_true,beq_iff_eq,decide_eq_true_eq,Bool.and_true]
 constructor
 ·intro h; obtain⟨_,_,_,_⟩:=a; obtain⟨_,_,_,_⟩:=b; simp_all
 ·intro h; subst h; simp
theorem Z5:Gab Tryz.prog 117 9=true:=by kernel_rfl
theorem Yo:Gab Tryz.prog 121 4=true:=by kernel_rfl
theorem Ga5:Gab Tryz.prog 228 5=true:=by kernel_rfl
theorem Ga4:Gab Tryz.prog 231 5=true:=by kernel_rfl
theorem G00:Gab Tryz.prog 234 6=true:=by kernel_rfl
theorem Ja4:Gab Tryz.prog 25 4=true:=by kernel_rfl
theorem Ja3:Gab Tryz.prog 30 4=true:=by kernel_rfl
theorem J8:Gab Tryz.prog 32 13=true:=by kernel_rfl
theorem Hd5:G05 Tryz.prog 117=true:=by kernel_rfl
theorem Hd4:G05 Tryz.prog 121=true:=by kernel_rfl
theorem H4a:G05 Tryz.prog 228=true:=by kernel_rfl
theorem H49:G05 Tryz.prog 231=true:=by kernel_rfl
theorem Je6:G05 Tryz.prog 25=true:=by kernel_rfl
theorem Je5:G05 Tryz.prog 30=true:=by kernel_rfl
theorem H9b:J37 Tryz.prog 4=true:=by kernel_rfl
theorem Je4:Hf Tryz.prog 138=true:=by kernel_rfl
theorem J28:Hf Tryz.prog 139=true:=by kernel_rfl
theorem Je3:Hf Tryz.prog 140=true:=by kernel_rfl
theorem J27:Hf Tryz.prog 141=true:=by kernel_rfl
theorem J26:Hf Tryz.prog 142=true:=by kernel_rfl
theorem J25:Hf Tryz.prog 143=true:=by kernel_rfl
theorem Je2:Hf Tryz.prog 144=true:=by kernel_rfl
theorem J24:Hf Tryz.prog 145=true:=by kernel_rfl
theorem G22:Hf Tryz.prog 146=true:=by kernel_rfl
theorem H7b:Hf Tryz.prog 148=true:=by kernel_rfl
theorem Jcf:Hf Tryz.prog 175=true:=by kernel_rfl
theorem Jce:Hf Tryz.prog 176=true:=by kernel_rfl
theorem Jcd:Hf Tryz.prog 177=true:=by kernel_rfl
theorem Jcc:Hf Tryz.prog 178=true:=by kernel_rfl
theorem Jcb:Hf Tryz.prog 179=true:=by kernel_rfl
theorem Jca:Hf Tryz.prog 180=true:=by kernel_rfl
theorem H7a:Hf Tryz.prog 181=true:=by kernel_rfl
theorem Jc9:Hf Tryz.prog 182=true:=by kernel_rfl
theorem H79:Hf Tryz.prog 183=true:=by kernel_rfl
theorem Jc8:Hf Tryz.prog 184=true:=by kernel_rfl
theorem H78:Hf Tryz.prog 185=true:=by kernel_rfl
theorem H77:Hf Tryz.prog 189=true:=by kernel_rfl
theorem G55:Hf Tryz.prog 19=true:=by kernel_rfl
theorem Q08:Hf Tryz.prog 63=true:=by kernel_rfl
theorem Q07:Hf Tryz.prog 64=true:=by kernel_rfl
theorem Q06:Hf Tryz.prog 65=true:=by kernel_rfl
theorem Q05:Hf Tryz.prog 66=true:=by kernel_rfl
theorem Q04:Hf Tryz.prog 67=true:=by kernel_rfl
theorem J63:Hf Tryz.prog 68=true:=by kernel_rfl
theorem Jfd:Hf Tryz.prog 83=true:=by kernel_rfl
theorem Jfc:Hf Tryz.prog 84=true:=by kernel_rfl
theorem Jfb:Hf Tryz.prog 85=true:=by kernel_rfl
theorem Jfa:Hf Tryz.prog 86=true:=by kernel_rfl
theorem Jf9:Hf Tryz.prog 87=true:=by kernel_rfl
theorem Jf8:Hf Tryz.prog 88=true:=by kernel_rfl
theorem J5f:Hf Tryz.prog 94=true:=by kernel_rfl
theorem H75:Zn Tryz.prog 112 12 112=true:=by kernel_rfl
theorem H74:Zn Tryz.prog 114 2 32=true:=by kernel_rfl
theorem H73:Zn Tryz.prog 117 9 64=true:=by kernel_rfl
theorem H72:Zn Tryz.prog 121 4 32=true:=by kernel_rfl
theorem H71:Zn Tryz.prog 228 5 40=true:=by kernel_rfl
theorem H70:Zn Tryz.prog 231 5 40=true:=by kernel_rfl
theorem H6f:Zn Tryz.prog 234 6 64=true:=by kernel_rfl
theorem G81:Zn Tryz.prog 3 1 8=true:=by kernel_rfl
theorem J5d:Tryz.prog.eqGuardType Tryz.prog.depth 117=false:=by kernel_rfl
theorem J5c:Tryz.prog.eqGuardType Tryz.prog.depth 121=false:=by kernel_rfl
theorem Hba:Tryz.prog.eqGuardType Tryz.prog.depth 228=false:=by kernel_rfl
theorem Hb9:Tryz.prog.eqGuardType Tryz.prog.depth 231=false:=by kernel_rfl
theorem tf_eqg_25:Tryz.prog.eqGuardType Tryz.prog.depth 25=false:=by kernel_rfl
theorem tf_eqg_30:Tryz.prog.eqGuardType Tryz.prog.depth 30=false:=by kernel_rfl
theorem H6e:Q4 Tryz.prog 234 0 0=true:=by kernel_rfl
theorem H6d:Q4 Tryz.prog 234 1 1=true:=by kernel_rfl
theorem H6c:Q4 Tryz.prog 234 2 2=true:=by kernel_rfl
theorem H6b:Q4 Tryz.prog 234 3 3=true:=by kernel_rfl
theorem H6a:Q4 Tryz.prog 234 4 4=true:=by kernel_rfl
theorem G36:Q4 Tryz.prog 234 5 5=true:=by kernel_rfl
theorem Hb3:Q4 Tryz.prog 32 2 2=true:=by kernel_rfl
theorem G4c:Q4 Tryz.prog 32 3 6=true:=by kernel_rfl
theorem G4b:Q4 Tryz.prog 32 4 7=true:=by kernel_rfl
theorem G4a:Q4 Tryz.prog 32 5 8=true:=by kernel_rfl
theorem Hb2:Q4 Tryz.prog 32 6 9=true:=by kernel_rfl
theorem G49:placesOf Tryz.prog 112=some [(0,1),(1,1),(2,1),(3,1),(4,1),(5,1),(6,1),(7,1),(8,1),(9,1),(10,1),(11,1)]:=by kernel_rfl
theorem Hb1:placesOf Tryz.prog 114=some [(0,1),(1,1)]:=by kernel_rfl
theorem G48:placesOf Tryz.prog 117=some [(0,1),(1,1),(2,1),(3,1),(4,1),(5,1),(6,1),(7,1),(8,1)]:=by kernel_rfl
theorem Hb0:placesOf Tryz.prog 121=some [(0,1),(1,3)]:=by kernel_rfl
theorem Ja0:placesOf Tryz.prog 228=some [(0,1),(1,1),(2,1),(3,1),(4,1)]:=by kernel_rfl
theorem J9f:placesOf Tryz.prog 231=some [(0,1),(1,1),(2,1),(3,1),(4,1)]:=by kernel_rfl
theorem J9e:placesOf Tryz.prog 234=some [(0,1),(1,1),(2,1),(3,1),(4,1),(5,1)]:=by kernel_rfl
theorem G8d:Ro Tryz.prog 26=true:=by kernel_rfl
theorem G8c:Ro Tryz.prog 27=true:=by kernel_rfl
theorem G8b:Ro Tryz.prog 28=true:=by kernel_rfl
theorem Zt:Rv Tryz.prog 117 9=true:=by kernel_rfl
theorem G0c:Rv Tryz.prog 121 4=true:=by kernel_rfl
theorem Jf4:Rv Tryz.prog 22 1=true:=by kernel_rfl
theorem Jb8:Rv Tryz.prog 228 5=true:=by kernel_rfl
theorem Jf3:Rv Tryz.prog 23 1=true:=by kernel_rfl
theorem Jb7:Rv Tryz.prog 231 5=true:=by kernel_rfl
theorem H68:Rv Tryz.prog 234 6=true:=by kernel_rfl
theorem Jf2:Rv Tryz.prog 26 1=true:=by kernel_rfl
theorem Jf1:Rv Tryz.prog 27 1=true:=by kernel_rfl
theorem Jf0:Rv Tryz.prog 28 1=true:=by kernel_rfl
theorem H47:Rv Tryz.prog 32 13=true:=by kernel_rfl
theorem H46:Rv Tryz.prog 51 1=true:=by kernel_rfl
theorem Q1:sliceB Tryz.prog 26 228 5=true:=by kernel_rfl
theorem Q0:sliceB Tryz.prog 27 231 5=true:=by kernel_rfl
theorem Jm:sliceB Tryz.prog 28 234 6=true:=by kernel_rfl
theorem J5:sliceB Tryz.prog 33 117 9=true:=by kernel_rfl
theorem H2:sliceB Tryz.prog 62 121 4=true:=by kernel_rfl
theorem G3a:(Tryz.prog.info? 112).bind (fun i=>i.zero.map Value.cells)=some (List.toArray [.int .i64 0,.int .i64 0,.bool false,.int .i64 0,.int .i64 0,.int .i64 0,.int .i64 0,.int .i64 0,.slice none 0 0,.int .i64 0,.int .i64 0,.int .i64 0]):=by kernel_rfl
theorem H12:(Tryz.prog.info? 114).bind (fun i=>i.zero.map Value.cells)=some (List.toArray [.int .i64 0,.slice none 0 0]):=by kernel_rfl
theorem G21:(Tryz.prog.info? 117).bind (fun i=>i.zero.map Value.cells)=some (List.toArray [.int .i64 0,.string ByteArray.empty,.int .u8 0,.bool false,.int .i64 0,.int .i64 0,.int .i64 0,.int .u8 0,.bool false]):=by kernel_rfl
theorem H10:(Tryz.prog.info? 121).bind (fun i=>i.zero.map Value.cells)=some (List.toArray [.int .i64 0,.int .i64 0,.int .i64 0,.int .u8 0]):=by kernel_rfl
theorem J14:(Tryz.prog.info? 228).bind (fun i=>i.zero.map Value.cells)=some (List.toArray [.int .i64 0,.int .i64 0,.int .i64 0,.int .i64 0,.int .i64 0]):=by kernel_rfl
theorem J13:(Tryz.prog.info? 231).bind (fun i=>i.zero.map Value.cells)=some (List.toArray [.int .i64 0,.int .i64 0,.int .i64 0,.int .i64 0,.int .i64 0]):=by kernel_rfl
theorem H67:(Tryz.prog.info? 234).bind (fun i=>i.zero.map Value.cells)=some (List.toArray [.int .i64 0,.int .i64 0,.int .i64 0,.int .i64 0,.int .i64 0,.slice none 0 0]):=by kernel_rfl
theorem Hb8:(Tryz.prog.info? 32).bind (fun i=>i.zero.map Value.cells)=some (List.toArray [.slice none 0 0,.slice none 0 0,.int .i64 0,.int .i64 0,.int .i64 0,.int .i64 0,.slice none 0 0,.slice none 0 0,.slice none 0 0,.int .i64 0,.int .i64 0,.int .i64 0,.int .i64 0]):=by kernel_rfl
theorem G1f:Rw Tryz.prog 117 9=true:=by kernel_rfl
theorem R9:Rw Tryz.prog 121 4=true:=by kernel_rfl
theorem Ja9:Rw Tryz.prog 228 5=true:=by kernel_rfl
theorem Ja8:Rw Tryz.prog 231 5=true:=by kernel_rfl
theorem H45:Rw Tryz.prog 234 6=true:=by kernel_rfl
theorem G13:Rw Tryz.prog 3 1=true:=by kernel_rfl
end XLF
open XAF
open XLF

def Ji (k:Int) (i:Int):Option Int:=
 G32 (k+7) fun v3=>
 G32 (1000003*v3) fun v4=>
 G32 (v4+i) fun v5=>
 some v5
theorem Qi (k:Int) (i:Int) (r:Int) (h:Ji k i=some r):Pure Tryz.prog 146 [G0 k,G0 i] (·=G0 r):=by
 unfold Ji at h
 refine H1 [.tmp 4] Tryz.func146 O O (G7 fun K1 hK1=>G2 (JLh (G0 0) (G9 O O) O (G8 (hK1 _ _ (G7 fun K2 hK2=>G2 (JLh (G0 k) (G5 O O) O ?_))))))
 obtain⟨v3,hv3,h⟩:=Qw h
 refine JLh (G0 v3) (Hy hv3 O O O) O ?_
 obtain⟨v4,hv4,h⟩:=Qw h
 refine JLh (G0 v4) (A_mul hv4 O O O) O (JLh (G0 i) (G5 O O) O ?_)
 obtain⟨v5,hv5,h⟩:=Qw h
 refine JLh (G0 v5) (Hy hv5 O O O) O (JLh (G0 v5) (G9 O O) O (G8 (hK2 _ _ (Gu (⟨[G0 v5],[],G,O,⟨⟨_,O,.conv (.same O)⟩,G⟩,O,congrArg (fun r:Int=>(G0 r:AV)) (Option.some.inj h)⟩)))))

def R1 (l:List Int):Option (Ln Int):=
 G32 ((l.length:Int)+12) fun v3=>
 bnd (H1a v3) fun m4=>
 need (decide (8*m4≤281474976710656∧m4≤maxLen)) <|
 need (decide ((([]:List Int).length+l.length)*8≤140737488355328∧([]:List Int).length+l.length≤maxLen)) <|
 need (decide (12≤9223372036854775807)) <|
 upto (fun i19 (s19:(List Int)) nx19=>
  bnd (Ji 1 (i19:Int)) fun r23=>
  need (decide ((s19.length+[r23].length)*8≤140737488355328∧s19.length+[r23].length≤maxLen)) <|
  nx19 (s19++[r23]))
 (fun(s19:(List Int))=>
  bnd (G24 (l.length:Int) s19.length) fun m26=>
  some (s19.take m26,s19.drop m26)) (12:Int).toNat 0 (([]:List Int)++l)
theorem G1b (l:List Int) (r:(Ln Int)) (h:R1 l=some r):Pure Tryz.prog 148 [E1 l] (·=LT 1 G0 r):=by
 unfold R1 at h
 refine H1 [.tmp 2] Tryz.func148 O O (G7 fun K1 hK1=>G2 (JLh (E1 ([]:List Int)) (R4 1 O O) O (G8 (hK1 _ _ (G7 fun K2 hK2=>G2 (JLh (E1 l) (G5 O O) O (H3 (f:=G0) (xs:=l) H0 O O (fun hm6=>?_) O O O)))))))
 obtain⟨v3,hv3,h⟩:=Qw h
 refine JLh (G0 v3) (Hy hv3 O O O) O ?_
 obtain⟨m4,hm4,h⟩:=Gf h
 obtain⟨ha5,h⟩:=J6 h
 refine JLh (OW 1089 1 G0 ([]:List Int)) (G8a 1089 O O O O H0 G81 O (G82 hm4) ha5) O (JLh (OW 1089 1 G0 ([]:List Int)) (G9 O O) O (G8 (hK2 _ _ (G7 fun K6 hK6=>G2 (JLh (OW 1089 1 G0 ([]:List Int)) (G5 O O) O (JLh (E1 l) (G5 O O) O ?_))))))
 obtain⟨ha7,h⟩:=J6 h
 refine JLh (OW 1089 1 G0 (([]:List Int)++l)) (H40 (f:=G0) (xs:=([]:List Int)) (ys:=l) O O O O H0 G81 ha7 (fun _=>O) (.inl O)) O (JLh (OW 1089 1 G0 (([]:List Int)++l)) (G9 O O) O (G8 (hK6 _ _ (G7 (fun K8 hK8=>G7 fun K9 hK9=>G2 (JLh (G0 0) (G9 O O) O (G8 (hK9 _ _ (Gk ?_)))))))))
 obtain⟨hx19,h⟩:=J6 h
 obtain⟨b19,kx19,hb19,hkx19,h⟩:=G5d h
 refine Hc (fun i19 (s19:(List Int))=>upto b19 kx19 ((12:Int).toNat - i19) i19 s19=some r) (fun i19 s19=>[(0,E1 l),(3,OW 1089 1 G0 s19),(4,En i19)]) (fun i19 s19=>[(1089,.spare 3 1 s19.length s19.length)]) (fun i19=>(12:Int).toNat - i19) 0 (([]:List Int)++l) h ⟨⟨.same O,.same O,.same O,G⟩,⟨⟨_,O,.same⟩,G⟩,O⟩ ?_
 clear h
 intro i19 s19 hi19 K19 e19
 refine G7 (fun K20 hK20=>G7 fun K21 hK21=>G2 (JLh (En i19) (G5 O O) O (JLh (BL (decide ((i19:Int) < 12))) (J2 O O O) O (G8 (hK21 _ _ (Gn O (fun hb=>?_) (fun hb=>?_)))))))
 ·
  have hk19:=G37 hb
  obtain⟨nx19,hn19,h⟩:=G34 hi19 hk19
  replace h:=Heb hb19 h
  refine Gp (hK20 _ _ (G7 (fun K22 hK22=>Gk (G2 (JLh (OW 1089 1 G0 s19) (G5 O O) O (JLh (En i19) (G5 O O) O ?_))))))
  obtain⟨r23,hr23,h⟩:=Gf h
  refine JLh (G0 r23) (Gq (args:=[G0 1,En i19]) O (Qi 1 (i19:Int) r23 hr23) G22 ⟨O,O,O,O,G⟩) O (JLh (E1 [r23]) (Hm (xs:=[G0 r23]) O ⟨O,O,G⟩ H0 G13 O O O O) O ?_)
  obtain⟨ha24,h⟩:=J6 h
  refine JLh (OW 1089 1 G0 (s19++[r23])) (Yd (f:=G0) (xs:=s19) (ys:=[r23]) O O O O H0 G81 ha24 (fun _=>O) (.inl O) O) O (JLh (OW 1089 1 G0 (s19++[r23])) (G9 O O) O (G8 (hK22 _ _ (G2 (JLh (En i19) (G5 O O) O (JLh (G0 ((i19+1:Nat):Int)) (Hy (He hk19 (G11 hx19)) O O O) O (JLh (G0 ((i19+1:Nat):Int)) (G9 O O) O (G8 (e19 _ _ (i19+1) (s19++[r23]) (app1 hn19 h) (by omega) ⟨⟨.same rfl,.same rfl,.same rfl,G⟩,⟨⟨_,rfl,.same⟩,G⟩,rfl⟩)))))))))
 ·
  have h:=app1 hkx19 (G35 hi19 (Ry hb))
  refine Hk (hK8 _ _ (G7 fun K25 hK25=>G2 (JLh (OW 1089 1 G0 s19) (G5 O O) O (JLh (E1 l) (G5 O O) O (H3 (f:=G0) (xs:=l) H0 O O (fun hm23=>?_) O O O)))))
  obtain⟨m26,hm26,h⟩:=Gf h
  refine JLh (LT 1 G0 (s19.take m26,s19.drop m26)) (J3f (f:=G0) (xs:=s19) O O O H0 (Rz hm26)) O (JLh (LT 1 G0 (s19.take m26,s19.drop m26)) (G9 O O) O (G8 (hK25 _ _ (Gu (⟨[LT 1 G0 (s19.take m26,s19.drop m26)],[],G,O,⟨⟨_,O,.conv (.same O)⟩,G⟩,O,congrArg (fun r:(Ln Int)=>(LT 1 G0 r:AV)) (Option.some.inj h)⟩)))))

def Y9 (x:G4):Option Gy:=
 bnd (R1 x.Plugs) fun r3=>
 some (Gy.mk x.Bay x.Row x.Deck x.Tiers x.Height x.Kilos20 x.Kilos40 x.Lash r3 x.X x.Y x.Z)
theorem Gd5 (x:G4) (r:Gy) (h:Y9 x=some r):Pure Tryz.prog 138 [.agg (G4.cs x)] (·=.agg (Gy.cs r)):=by
 unfold Y9 at h
 refine H1 [.cell 2 112] Tryz.func138 O O (G7 fun K1 hK1=>G2 (JLh (.ptr 1078 0) (Jy (u:=.agg (G4.cs x)) (cs:=(G4.cs x)) 1078 O O O O O) O (JLh (.ptr 1079 0) (Zc 1079 [G0 0,G0 0,BL false,G0 0,G0 0,G0 0,G0 0,G0 0,E1 ([]:List Int),G0 0,G0 0,G0 0] [.int .i64 0,.int .i64 0,.bool false,.int .i64 0,.int .i64 0,.int .i64 0,.int .i64 0,.int .i64 0,.slice none 0 0,.int .i64 0,.int .i64 0,.int .i64 0] G3a ⟨.inl O,.inl O,.inl O,.inl O,.inl O,.inl O,.inl O,.inl O,.inr ⟨_,O,O⟩,.inl O,.inl O,.inl O,G⟩ O O) O (G8 (hK1 _ _ ?_)))))
 refine G7 fun K2 hK2=>G2 (JLh (.ptr 1078 8) (G07 Qp O O) O (JLh (E1 x.Plugs) (Zf Hg O O O O) O ?_))
 obtain⟨r3,hr3,h⟩:=Gf h
 refine JLh (LT 1 G0 r3) (Gq (args:=[E1 x.Plugs]) O (G1b x.Plugs r3 hr3) H7b ⟨O,O,G⟩) O (JLh (.ptr 1078 8) (G07 Qp O O) O (J4 (u:=.junk) (Ht (u:=LT 1 G0 r3) (ds:=[G0 x.Bay,G0 x.Row,BL x.Deck,G0 x.Tiers,G0 x.Height,G0 x.Kilos20,G0 x.Kilos40,G0 x.Lash,LT 1 G0 r3,G0 x.X,G0 x.Y,G0 x.Z]) H46 O O O O O O O O) (G8 (hK2 _ _ (Gx [(1,.dptr [G0 x.Bay,G0 x.Row,BL x.Deck,G0 x.Tiers,G0 x.Height,G0 x.Kilos20,G0 x.Kilos40,G0 x.Lash,LT 1 G0 r3,G0 x.X,G0 x.Y,G0 x.Z]),(2,.ptr 1079 0)] [(1079,.box 112 [G0 0,G0 0,BL false,G0 0,G0 0,G0 0,G0 0,G0 0,E1 ([]:List Int),G0 0,G0 0,G0 0])] 1078 rfl rfl rfl ⟨⟨_,rfl,.boxEq rfl rfl⟩,G⟩ rfl (by exact⟨.ptr,.conv (.same rfl),G⟩) ?_)))))
 refine G7 fun K4 hK4=>G2 (JLh (.agg [G0 x.Bay,G0 x.Row,BL x.Deck,G0 x.Tiers,G0 x.Height,G0 x.Kilos20,G0 x.Kilos40,G0 x.Lash,LT 1 G0 r3,G0 x.X,G0 x.Y,G0 x.Z]) (Gj Rr O O O) O (J4 (u:=.junk) (Ht (u:=.agg [G0 x.Bay,G0 x.Row,BL x.Deck,G0 x.Tiers,G0 x.Height,G0 x.Kilos20,G0 x.Kilos40,G0 x.Lash,LT 1 G0 r3,G0 x.X,G0 x.Y,G0 x.Z]) (ds:=[G0 x.Bay,G0 x.Row,BL x.Deck,G0 x.Tiers,G0 x.Height,G0 x.Kilos20,G0 x.Kilos40,G0 x.Lash,LT 1 G0 r3,G0 x.X,G0 x.Y,G0 x.Z]) Gb5 O O O O O O O O) (G8 (hK4 _ _ (Gu ?_)))))
 exact⟨[.agg [G0 x.Bay,G0 x.Row,BL x.Deck,G0 x.Tiers,G0 x.Height,G0 x.Kilos20,G0 x.Kilos40,G0 x.Lash,LT 1 G0 r3,G0 x.X,G0 x.Y,G0 x.Z]],[],G,O,⟨⟨_,⟨_,_,_,_,O,O,O,.inl ⟨Rr,O⟩⟩,.conv (.same O)⟩,G⟩,O,congrArg (fun r:Gy=>(.agg (Gy.cs r):AV)) (Option.some.inj h)⟩

def Qn (k:Int) (i:Int):Option G4:=
 bnd (Ji k i) fun r3=>
 some (G4.mk r3 0 false 0 0 0 0 0 [] 0 0 0)
theorem G52 (k:Int) (i:Int) (r:G4) (h:Qn k i=some r):Pure Tryz.prog 139 [G0 k,G0 i] (·=.agg (G4.cs r)):=by
 unfold Qn at h
 refine H1 [.cell 4 112] Tryz.func139 O O (G7 fun K1 hK1=>G2 (JLh (.ptr 1080 0) (Zc 1080 [G0 0,G0 0,BL false,G0 0,G0 0,G0 0,G0 0,G0 0,E1 ([]:List Int),G0 0,G0 0,G0 0] [.int .i64 0,.int .i64 0,.bool false,.int .i64 0,.int .i64 0,.int .i64 0,.int .i64 0,.int .i64 0,.slice none 0 0,.int .i64 0,.int .i64 0,.int .i64 0] G3a ⟨.inl O,.inl O,.inl O,.inl O,.inl O,.inl O,.inl O,.inl O,.inr ⟨_,O,O⟩,.inl O,.inl O,.inl O,G⟩ O O) O (G8 (hK1 _ _ (G7 fun K2 hK2=>G2 (JLh (G0 k) (G5 O O) O (JLh (G0 i) (G5 O O) O ?_)))))))
 obtain⟨r3,hr3,h⟩:=Gf h
 refine JLh (G0 r3) (Gq (args:=[G0 k,G0 i]) O (Qi k i r3 hr3) G22 ⟨O,O,O,O,G⟩) O (JLh (.agg [G0 r3,G0 0,BL false,G0 0,G0 0,G0 0,G0 0,G0 0,E1 ([]:List Int),G0 0,G0 0,G0 0]) (Jv (cs:=[G0 r3,G0 0,BL false,G0 0,G0 0,G0 0,G0 0,G0 0,E1 ([]:List Int),G0 0,G0 0,G0 0]) [(0,1),(1,1),(2,1),(3,1),(4,1),(5,1),(6,1),(7,1),(8,1),(9,1),(10,1),(11,1)] [G0 0,G0 0,BL false,G0 0,G0 0,G0 0,G0 0,G0 0,E1 ([]:List Int),G0 0,G0 0,G0 0] [.int .i64 0,.int .i64 0,.bool false,.int .i64 0,.int .i64 0,.int .i64 0,.int .i64 0,.int .i64 0,.slice none 0 0,.int .i64 0,.int .i64 0,.int .i64 0] G49 G3a ⟨.inl O,.inl O,.inl O,.inl O,.inl O,.inl O,.inl O,.inl O,.inr ⟨_,O,O⟩,.inl O,.inl O,.inl O,G⟩ O O) O (J4 (u:=.junk) (Ht (u:=.agg [G0 r3,G0 0,BL false,G0 0,G0 0,G0 0,G0 0,G0 0,E1 ([]:List Int),G0 0,G0 0,G0 0]) (ds:=[G0 r3,G0 0,BL false,G0 0,G0 0,G0 0,G0 0,G0 0,E1 ([]:List Int),G0 0,G0 0,G0 0]) Gb5 O O O O O O O O) (G8 (hK2 _ _ ?_))))
 refine Gu (⟨[.agg [G0 r3,G0 0,BL false,G0 0,G0 0,G0 0,G0 0,G0 0,E1 ([]:List Int),G0 0,G0 0,G0 0]],[],G,O,⟨⟨_,⟨_,_,_,_,O,O,O,.inl ⟨Rr,O⟩⟩,.conv (.same O)⟩,G⟩,O,congrArg (fun r:G4=>(.agg (G4.cs r):AV)) (Option.some.inj h)⟩)

def Ru (l:List G4):Option (Ln Gy):=
 G32 ((l.length:Int)+12) fun v3=>
 bnd (H1a v3) fun m4=>
 need (decide (112*m4≤281474976710656∧m4≤maxLen)) <|
 each (fun y23 i23 (s23:(List Gy)) nx23=>
  bnd (Y9 y23) fun r28=>
  need (decide ((s23.length+[r28].length)*112≤140737488355328∧s23.length+[r28].length≤maxLen)) <|
  nx23 (s23++[r28]))
 (fun(s23:(List Gy))=>
  need (decide (12≤9223372036854775807)) <|
  upto (fun i41 (s41:(List Gy)) nx41=>
   bnd (Qn 1 (i41:Int)) fun r45=>
   need (decide ((s41.length+[(Gy.mk r45.Bay r45.Row r45.Deck r45.Tiers r45.Height r45.Kilos20 r45.Kilos40 r45.Lash (r45.Plugs,[]) r45.X r45.Y r45.Z)].length)*112≤140737488355328∧s41.length+[(Gy.mk r45.Bay r45.Row r45.Deck r45.Tiers r45.Height r45.Kilos20 r45.Kilos40 r45.Lash (r45.Plugs,[]) r45.X r45.Y r45.Z)].length≤maxLen)) <|
   nx41 (s41++[(Gy.mk r45.Bay r45.Row r45.Deck r45.Tiers r45.Height r45.Kilos20 r45.Kilos40 r45.Lash (r45.Plugs,[]) r45.X r45.Y r45.Z)]))
  (fun(s41:(List Gy))=>
   bnd (G24 (l.length:Int) s41.length) fun m48=>
   some (s41.take m48,s41.drop m48)) (12:Int).toNat 0 s23) l 0 []
theorem Gc7 (l:List G4) (r:(Ln Gy)) (h:Ru l=some r):Pure Tryz.prog 63 [E3 l] (·=LT 12 Gy.av r):=by
 unfold Ru at h
 refine H1 [.tmp 2] Tryz.func63 O O (G7 fun K1 hK1=>G2 (JLh (E3 ([]:List G4)) (R4 12 O O) O (G8 (hK1 _ _ (G7 fun K2 hK2=>G2 (JLh (E3 l) (G5 O O) O (H3 (f:=G4.av) (xs:=l) H7 O O (fun hm8=>?_) O O O)))))))
 obtain⟨v3,hv3,h⟩:=Qw h
 refine JLh (G0 v3) (Hy hv3 O O O) O ?_
 obtain⟨m4,hm4,h⟩:=Gf h
 obtain⟨ha5,h⟩:=J6 h
 refine JLh (OW 1034 12 Gy.av ([]:List Gy)) (G8a 1034 O O O O H7 H75 O (G82 hm4) ha5) O (JLh (OW 1034 12 Gy.av ([]:List Gy)) (G9 O O) O (G8 (hK2 _ _ (G7 (fun K6 hK6=>G7 fun K7 hK7=>G2 (JLh (G0 0) (G9 O O) O (G8 (hK7 _ _ (Gk ?_)))))))))
 obtain⟨b23,kx23,hb23,hkx23,h⟩:=Hw h
 refine Hc (fun i23 (s23:(List Gy))=>each b23 kx23 (List.drop i23 l) i23 s23=some r) (fun i23 s23=>[(0,E3 l),(3,OW 1034 12 Gy.av s23),(4,En i23)]) (fun i23 s23=>[(1034,.spare 112 12 s23.length s23.length)]) (fun i23=>l.length - i23) 0 [] h ⟨⟨.same O,.same O,.same O,G⟩,⟨⟨_,O,.same⟩,G⟩,O⟩ ?_
 clear h
 intro i23 s23 hi23 K23 e23
 refine G7 (fun K24 hK24=>G7 fun K25 hK25=>G2 (JLh (En i23) (G5 O O) O (JLh (E3 l) (G5 O O) O (H3 (f:=G4.av) (xs:=l) H7 O O (fun hm13=>?_) O O O))))
 refine JLh (BL (decide ((i23:Int) < (l.length:Int)))) (J2 O O O) O (G8 (hK25 _ _ (Gn O (fun hb=>?_) (fun hb=>?_))))
 ·
  have hk23:=Jc hb
  obtain⟨y23,nx23,hy23,hn23,h⟩:=Hn hi23 hk23
  replace h:=Yb hb23 h
  refine Gp (hK24 _ _ (G7 (fun K26 hK26=>Gk (G7 fun K27 hK27=>G2 (JLh (E3 l) (G5 O O) O (JLh (En i23) (G5 O O) O (JLh (Eh y23) (Gt (f:=G4.av) (xs:=l) (y:=y23) O O O H7 hy23 O) O (JLh (.agg (G4.cs y23)) (Gj Rr O O O) O ?_))))))))
  obtain⟨r28,hr28,h⟩:=Gf h
  refine JLh (.agg (Gy.cs r28)) (Gq (args:=[.agg (G4.cs y23)]) O (Gd5 y23 r28 hr28) Je4 ⟨O,O,G⟩) O (JLh (.ptr 1033 0) (Jb 1033 12 G5e O O) O (J4 (u:=.junk) (Ht (u:=.agg (Gy.cs r28)) (ds:=(Gy.cs r28)) Gb5 O O O O O O O O) (G8 (hK27 _ _ (Gx [(0,E3 l),(3,OW 1034 12 Gy.av s23),(4,En i23),(5,.dptr (Gy.cs r28))] [(1034,.spare 112 12 s23.length s23.length)] 1033 rfl rfl rfl ⟨⟨_,rfl,.same⟩,G⟩ rfl (by repeat' (first | exact .ptr | constructor)) (G2 ?_))))))
  refine JLh (OW 1034 12 Gy.av s23) (G5 O O) O (JLh (.agg (Gy.cs r28)) (Gj Rr O O O) O (JLh (Eb [r28]) (Hm (xs:=[.agg (Gy.cs r28)]) O ⟨O,O,G⟩ H7 G5e O O O O) O ?_))
  obtain⟨ha29,h⟩:=J6 h
  refine JLh (OW 1034 12 Gy.av (s23++[r28])) (Yd (f:=Gy.av) (xs:=s23) (ys:=[r28]) O O O O H7 H75 ha29 (fun _=>O) (.inl O) O) O (JLh (OW 1034 12 Gy.av (s23++[r28])) (G9 O O) O (G8 (hK26 _ _ (G2 (JLh (En i23) (G5 O O) O (JLh (G0 ((i23+1:Nat):Int)) (Hy (He hk23 hm13) O O O) O (JLh (G0 ((i23+1:Nat):Int)) (G9 O O) O (G8 (e23 _ _ (i23+1) (s23++[r28]) (app1 hn23 h) (by omega) ⟨⟨.same rfl,.same rfl,.same rfl,G⟩,⟨⟨_,rfl,.same⟩,G⟩,rfl⟩)))))))))
 ·
  have h:=app1 hkx23 (Ho hi23 (H9 hb))
  refine Hk (hK6 _ _ (G7 (fun K30 hK30=>G7 fun K31 hK31=>G2 (JLh (G0 0) (G9 O O) O (G8 (hK31 _ _ (Gk ?_)))))))
  obtain⟨hx41,h⟩:=J6 h
  obtain⟨b41,kx41,hb41,hkx41,h⟩:=G5d h
  refine Hc (fun i41 (s41:(List Gy))=>upto b41 kx41 ((12:Int).toNat - i41) i41 s41=some r) (fun i41 s41=>[(0,E3 l),(3,OW 1034 12 Gy.av s41),(6,En i41)]) (fun i41 s41=>[(1034,.spare 112 12 s41.length s41.length)]) (fun i41=>(12:Int).toNat - i41) 0 s23 h ⟨⟨.same O,.same O,.same O,G⟩,⟨⟨_,O,.same⟩,G⟩,O⟩ ?_
  clear h
  intro i41 s41 hi41 K41 e41
  refine G7 (fun K42 hK42=>G7 fun K43 hK43=>G2 (JLh (En i41) (G5 O O) O (JLh (BL (decide ((i41:Int) < 12))) (J2 O O O) O (G8 (hK43 _ _ (Gn O (fun hb=>?_) (fun hb=>?_)))))))
  ·
   have hk41:=G37 hb
   obtain⟨nx41,hn41,h⟩:=G34 hi41 hk41
   replace h:=Heb hb41 h
   refine Gp (hK42 _ _ (G7 (fun K44 hK44=>Gk (G2 (JLh (OW 1034 12 Gy.av s41) (G5 O O) O (JLh (En i41) (G5 O O) O ?_))))))
   obtain⟨r45,hr45,h⟩:=Gf h
   refine JLh (.agg [G0 r45.Bay,G0 r45.Row,BL r45.Deck,G0 r45.Tiers,G0 r45.Height,G0 r45.Kilos20,G0 r45.Kilos40,G0 r45.Lash,LT 1 G0 (r45.Plugs,[]),G0 r45.X,G0 r45.Y,G0 r45.Z]) (H4.cv (Cv.aggL (cs:=(G4.cs r45)) ⟨.same,.same,.same,.same,.same,.same,.same,.same,Cv.of0 r45.Plugs,.same,.same,.same,G⟩) (Gq (args:=[G0 1,En i41]) O (G52 1 (i41:Int) r45 hr45) J28 ⟨O,O,O,O,G⟩)) O (JLh (Eb ([(Gy.mk r45.Bay r45.Row r45.Deck r45.Tiers r45.Height r45.Kilos20 r45.Kilos40 r45.Lash (r45.Plugs,[]) r45.X r45.Y r45.Z)])) (Hm (xs:=[.agg [G0 r45.Bay,G0 r45.Row,BL r45.Deck,G0 r45.Tiers,G0 r45.Height,G0 r45.Kilos20,G0 r45.Kilos40,G0 r45.Lash,LT 1 G0 (r45.Plugs,[]),G0 r45.X,G0 r45.Y,G0 r45.Z]]) O ⟨O,O,G⟩ H7 G5e O O O O) O ?_)
   obtain⟨ha46,h⟩:=J6 h
   refine JLh (OW 1034 12 Gy.av (s41++[(Gy.mk r45.Bay r45.Row r45.Deck r45.Tiers r45.Height r45.Kilos20 r45.Kilos40 r45.Lash (r45.Plugs,[]) r45.X r45.Y r45.Z)])) (Yd (f:=Gy.av) (xs:=s41) (ys:=[(Gy.mk r45.Bay r45.Row r45.Deck r45.Tiers r45.Height r45.Kilos20 r45.Kilos40 r45.Lash (r45.Plugs,[]) r45.X r45.Y r45.Z)]) O O O O H7 H75 ha46 (fun _=>O) (.inl O) O) O (JLh (OW 1034 12 Gy.av (s41++[(Gy.mk r45.Bay r45.Row r45.Deck r45.Tiers r45.Height r45.Kilos20 r45.Kilos40 r45.Lash (r45.Plugs,[]) r45.X r45.Y r45.Z)])) (G9 O O) O (G8 (hK44 _ _ (G2 (JLh (En i41) (G5 O O) O (JLh (G0 ((i41+1:Nat):Int)) (Hy (He hk41 (G11 hx41)) O O O) O (JLh (G0 ((i41+1:Nat):Int)) (G9 O O) O (G8 ?_))))))))
   exact e41 _ _ (i41+1) (s41++[(Gy.mk r45.Bay r45.Row r45.Deck r45.Tiers r45.Height r45.Kilos20 r45.Kilos40 r45.Lash (r45.Plugs,[]) r45.X r45.Y r45.Z)]) (app1 hn41 h) (by omega) ⟨⟨.same rfl,.same rfl,.same rfl,G⟩,⟨⟨_,rfl,.same⟩,G⟩,rfl⟩
  ·
   have h:=app1 hkx41 (G35 hi41 (Ry hb))
   refine Hk (hK30 _ _ (G7 fun K47 hK47=>G2 (JLh (OW 1034 12 Gy.av s41) (G5 O O) O (JLh (E3 l) (G5 O O) O (H3 (f:=G4.av) (xs:=l) H7 O O (fun hm37=>?_) O O O)))))
   obtain⟨m48,hm48,h⟩:=Gf h
   refine JLh (LT 12 Gy.av (s41.take m48,s41.drop m48)) (J3f (f:=Gy.av) (xs:=s41) O O O H7 (Rz hm48)) O (JLh (LT 12 Gy.av (s41.take m48,s41.drop m48)) (G9 O O) O (G8 (hK47 _ _ (Gu (⟨[LT 12 Gy.av (s41.take m48,s41.drop m48)],[],G,O,⟨⟨_,O,.conv (.same O)⟩,G⟩,O,congrArg (fun r:(Ln Gy)=>(LT 12 Gy.av r:AV)) (Option.some.inj h)⟩)))))

def Yi (x:Gg):Option Ha:=
 bnd (R1 x.Rows) fun r3=>
 some (Ha.mk x.Bay r3)
theorem Gf6 (x:Gg) (r:Ha) (h:Yi x=some r):Pure Tryz.prog 140 [.agg [G0 x.Bay,E1 x.Rows]] (·=.agg [G0 r.Bay,LT 1 G0 r.Rows]):=by
 unfold Yi at h
 refine H1 [.cell 2 114] Tryz.func140 O O (G7 fun K1 hK1=>G2 (JLh (.ptr 1081 0) (Jy (u:=.agg [G0 x.Bay,E1 x.Rows]) (cs:=[G0 x.Bay,E1 x.Rows]) 1081 O O O O O) O (JLh (.ptr 1082 0) (Zc 1082 [G0 0,E1 ([]:List Int)] [.int .i64 0,.slice none 0 0] H12 ⟨.inl O,.inr ⟨_,O,O⟩,G⟩ O O) O (G8 (hK1 _ _ (G7 fun K2 hK2=>G2 (JLh (.ptr 1081 1) (G07 Jr O O) O (JLh (E1 x.Rows) (Zf Hg O O O O) O ?_))))))))
 obtain⟨r3,hr3,h⟩:=Gf h
 refine JLh (LT 1 G0 r3) (Gq (args:=[E1 x.Rows]) O (G1b x.Rows r3 hr3) H7b ⟨O,O,G⟩) O (JLh (.ptr 1081 1) (G07 Jr O O) O (J4 (u:=.junk) (Ht (u:=LT 1 G0 r3) (ds:=[G0 x.Bay,LT 1 G0 r3]) H46 O O O O O O O O) (G8 (hK2 _ _ (Gx [(1,.dptr [G0 x.Bay,LT 1 G0 r3]),(2,.ptr 1082 0)] [(1082,.box 114 [G0 0,E1 ([]:List Int)])] 1081 rfl rfl rfl ⟨⟨_,rfl,.boxEq rfl rfl⟩,G⟩ rfl (by exact⟨.ptr,.conv (.same rfl),G⟩) (G7 fun K4 hK4=>G2 (JLh (.agg [G0 x.Bay,LT 1 G0 r3]) (Gj Rh O O O) O (J4 (u:=.junk) (Ht (u:=.agg [G0 x.Bay,LT 1 G0 r3]) (ds:=[G0 x.Bay,LT 1 G0 r3]) G54 O O O O O O O O) (G8 (hK4 _ _ (Gu ?_)))))))))))
 exact⟨[.agg [G0 x.Bay,LT 1 G0 r3]],[],G,O,⟨⟨_,⟨_,_,_,_,O,O,O,.inl ⟨Rh,O⟩⟩,.conv (.same O)⟩,G⟩,O,congrArg (fun r:Ha=>(.agg [G0 r.Bay,LT 1 G0 r.Rows]:AV)) (Option.some.inj h)⟩

def Qs (k:Int) (i:Int):Option Gg:=
 bnd (Ji k i) fun r3=>
 some (Gg.mk r3 [])
theorem G5a (k:Int) (i:Int) (r:Gg) (h:Qs k i=some r):Pure Tryz.prog 141 [G0 k,G0 i] (·=.agg [G0 r.Bay,E1 r.Rows]):=by
 unfold Qs at h
 refine H1 [.cell 4 114] Tryz.func141 O O (G7 fun K1 hK1=>G2 (JLh (.ptr 1083 0) (Zc 1083 [G0 0,E1 ([]:List Int)] [.int .i64 0,.slice none 0 0] H12 ⟨.inl O,.inr ⟨_,O,O⟩,G⟩ O O) O (G8 (hK1 _ _ (G7 fun K2 hK2=>G2 (JLh (G0 k) (G5 O O) O (JLh (G0 i) (G5 O O) O ?_)))))))
 obtain⟨r3,hr3,h⟩:=Gf h
 refine JLh (G0 r3) (Gq (args:=[G0 k,G0 i]) O (Qi k i r3 hr3) G22 ⟨O,O,O,O,G⟩) O (JLh (.agg [G0 r3,E1 ([]:List Int)]) (Jv (cs:=[G0 r3,E1 ([]:List Int)]) [(0,1),(1,1)] [G0 0,E1 ([]:List Int)] [.int .i64 0,.slice none 0 0] Hb1 H12 ⟨.inl O,.inr ⟨_,O,O⟩,G⟩ O O) O (J4 (u:=.junk) (Ht (u:=.agg [G0 r3,E1 ([]:List Int)]) (ds:=[G0 r3,E1 ([]:List Int)]) G54 O O O O O O O O) (G8 (hK2 _ _ (Gu (⟨[.agg [G0 r3,E1 ([]:List Int)]],[],G,O,⟨⟨_,⟨_,_,_,_,O,O,O,.inl ⟨Rh,O⟩⟩,.conv (.same O)⟩,G⟩,O,congrArg (fun r:Gg=>(.agg [G0 r.Bay,E1 r.Rows]:AV)) (Option.some.inj h)⟩))))))

def Y8 (l:List Gg):Option (Ln Ha):=
 G32 ((l.length:Int)+12) fun v3=>
 bnd (H1a v3) fun m4=>
 need (decide (32*m4≤281474976710656∧m4≤maxLen)) <|
 each (fun y23 i23 (s23:(List Ha)) nx23=>
  bnd (Yi y23) fun r28=>
  need (decide ((s23.length+[r28].length)*32≤140737488355328∧s23.length+[r28].length≤maxLen)) <|
  nx23 (s23++[r28]))
 (fun(s23:(List Ha))=>
  need (decide (12≤9223372036854775807)) <|
  upto (fun i41 (s41:(List Ha)) nx41=>
   bnd (Qs 1 (i41:Int)) fun r45=>
   need (decide ((s41.length+[(Ha.mk r45.Bay (r45.Rows,[]))].length)*32≤140737488355328∧s41.length+[(Ha.mk r45.Bay (r45.Rows,[]))].length≤maxLen)) <|
   nx41 (s41++[(Ha.mk r45.Bay (r45.Rows,[]))]))
  (fun(s41:(List Ha))=>
   bnd (G24 (l.length:Int) s41.length) fun m48=>
   some (s41.take m48,s41.drop m48)) (12:Int).toNat 0 s23) l 0 []
theorem Gd4 (l:List Gg) (r:(Ln Ha)) (h:Y8 l=some r):Pure Tryz.prog 64 [E4 l] (·=LT 2 Ha.av r):=by
 unfold Y8 at h
 refine H1 [.tmp 2] Tryz.func64 O O (G7 fun K1 hK1=>G2 (JLh (E4 ([]:List Gg)) (R4 2 O O) O (G8 (hK1 _ _ (G7 fun K2 hK2=>G2 (JLh (E4 l) (G5 O O) O (H3 (f:=Gg.av) (xs:=l) Hp O O (fun hm8=>?_) O O O)))))))
 obtain⟨v3,hv3,h⟩:=Qw h
 refine JLh (G0 v3) (Hy hv3 O O O) O ?_
 obtain⟨m4,hm4,h⟩:=Gf h
 obtain⟨ha5,h⟩:=J6 h
 refine JLh (OW 1036 2 Ha.av ([]:List Ha)) (G8a 1036 O O O O Hp H74 O (G82 hm4) ha5) O (JLh (OW 1036 2 Ha.av ([]:List Ha)) (G9 O O) O (G8 (hK2 _ _ (G7 (fun K6 hK6=>G7 fun K7 hK7=>G2 (JLh (G0 0) (G9 O O) O (G8 (hK7 _ _ (Gk ?_)))))))))
 obtain⟨b23,kx23,hb23,hkx23,h⟩:=Hw h
 refine Hc (fun i23 (s23:(List Ha))=>each b23 kx23 (List.drop i23 l) i23 s23=some r) (fun i23 s23=>[(0,E4 l),(3,OW 1036 2 Ha.av s23),(4,En i23)]) (fun i23 s23=>[(1036,.spare 114 2 s23.length s23.length)]) (fun i23=>l.length - i23) 0 [] h ⟨⟨.same O,.same O,.same O,G⟩,⟨⟨_,O,.same⟩,G⟩,O⟩ ?_
 clear h
 intro i23 s23 hi23 K23 e23
 refine G7 (fun K24 hK24=>G7 fun K25 hK25=>G2 (JLh (En i23) (G5 O O) O (JLh (E4 l) (G5 O O) O (H3 (f:=Gg.av) (xs:=l) Hp O O (fun hm13=>?_) O O O))))
 refine JLh (BL (decide ((i23:Int) < (l.length:Int)))) (J2 O O O) O (G8 (hK25 _ _ (Gn O (fun hb=>?_) (fun hb=>?_))))
 ·
  have hk23:=Jc hb
  obtain⟨y23,nx23,hy23,hn23,h⟩:=Hn hi23 hk23
  replace h:=Yb hb23 h
  refine Gp (hK24 _ _ (G7 (fun K26 hK26=>Gk (G7 fun K27 hK27=>G2 (JLh (E4 l) (G5 O O) O (JLh (En i23) (G5 O O) O (JLh (.dptr [G0 y23.Bay,E1 y23.Rows]) (Gt (f:=Gg.av) (xs:=l) (y:=y23) O O O Hp hy23 O) O (JLh (.agg [G0 y23.Bay,E1 y23.Rows]) (Gj Rh O O O) O ?_))))))))
  obtain⟨r28,hr28,h⟩:=Gf h
  refine JLh (.agg [G0 r28.Bay,LT 1 G0 r28.Rows]) (Gq (args:=[.agg [G0 y23.Bay,E1 y23.Rows]]) O (Gf6 y23 r28 hr28) Je3 ⟨O,O,G⟩) O (JLh (.ptr 1035 0) (Jb 1035 2 G20 O O) O (J4 (u:=.junk) (Ht (u:=.agg [G0 r28.Bay,LT 1 G0 r28.Rows]) (ds:=[G0 r28.Bay,LT 1 G0 r28.Rows]) G54 O O O O O O O O) (G8 (hK27 _ _ (Gx [(0,E4 l),(3,OW 1036 2 Ha.av s23),(4,En i23),(5,.dptr [G0 r28.Bay,LT 1 G0 r28.Rows])] [(1036,.spare 114 2 s23.length s23.length)] 1035 rfl rfl rfl ⟨⟨_,rfl,.same⟩,G⟩ rfl (by repeat' (first | exact .ptr | constructor)) (G2 ?_))))))
  refine JLh (OW 1036 2 Ha.av s23) (G5 O O) O (JLh (.agg [G0 r28.Bay,LT 1 G0 r28.Rows]) (Gj Rh O O O) O (JLh (Ec [r28]) (Hm (xs:=[.agg [G0 r28.Bay,LT 1 G0 r28.Rows]]) O ⟨O,O,G⟩ Hp G20 O O O O) O ?_))
  obtain⟨ha29,h⟩:=J6 h
  refine JLh (OW 1036 2 Ha.av (s23++[r28])) (Yd (f:=Ha.av) (xs:=s23) (ys:=[r28]) O O O O Hp H74 ha29 (fun _=>O) (.inl O) O) O (JLh (OW 1036 2 Ha.av (s23++[r28])) (G9 O O) O (G8 (hK26 _ _ (G2 (JLh (En i23) (G5 O O) O (JLh (G0 ((i23+1:Nat):Int)) (Hy (He hk23 hm13) O O O) O (JLh (G0 ((i23+1:Nat):Int)) (G9 O O) O (G8 (e23 _ _ (i23+1) (s23++[r28]) (app1 hn23 h) (by omega) ⟨⟨.same rfl,.same rfl,.same rfl,G⟩,⟨⟨_,rfl,.same⟩,G⟩,rfl⟩)))))))))
 ·
  have h:=app1 hkx23 (Ho hi23 (H9 hb))
  refine Hk (hK6 _ _ (G7 (fun K30 hK30=>G7 fun K31 hK31=>G2 (JLh (G0 0) (G9 O O) O (G8 (hK31 _ _ (Gk ?_)))))))
  obtain⟨hx41,h⟩:=J6 h
  obtain⟨b41,kx41,hb41,hkx41,h⟩:=G5d h
  refine Hc (fun i41 (s41:(List Ha))=>upto b41 kx41 ((12:Int).toNat - i41) i41 s41=some r) (fun i41 s41=>[(0,E4 l),(3,OW 1036 2 Ha.av s41),(6,En i41)]) (fun i41 s41=>[(1036,.spare 114 2 s41.length s41.length)]) (fun i41=>(12:Int).toNat - i41) 0 s23 h ⟨⟨.same O,.same O,.same O,G⟩,⟨⟨_,O,.same⟩,G⟩,O⟩ ?_
  clear h
  intro i41 s41 hi41 K41 e41
  refine G7 (fun K42 hK42=>G7 fun K43 hK43=>G2 (JLh (En i41) (G5 O O) O (JLh (BL (decide ((i41:Int) < 12))) (J2 O O O) O (G8 (hK43 _ _ (Gn O (fun hb=>?_) (fun hb=>?_)))))))
  ·
   have hk41:=G37 hb
   obtain⟨nx41,hn41,h⟩:=G34 hi41 hk41
   replace h:=Heb hb41 h
   refine Gp (hK42 _ _ (G7 (fun K44 hK44=>Gk (G2 (JLh (OW 1036 2 Ha.av s41) (G5 O O) O (JLh (En i41) (G5 O O) O ?_))))))
   obtain⟨r45,hr45,h⟩:=Gf h
   refine JLh (.agg [G0 r45.Bay,LT 1 G0 (r45.Rows,[])]) (H4.cv (Cv.aggL (cs:=[G0 r45.Bay,E1 r45.Rows]) ⟨.same,Cv.of0 r45.Rows,G⟩) (Gq (args:=[G0 1,En i41]) O (G5a 1 (i41:Int) r45 hr45) J27 ⟨O,O,O,O,G⟩)) O (JLh (Ec ([(Ha.mk r45.Bay (r45.Rows,[]))])) (Hm (xs:=[.agg [G0 r45.Bay,LT 1 G0 (r45.Rows,[])]]) O ⟨O,O,G⟩ Hp G20 O O O O) O ?_)
   obtain⟨ha46,h⟩:=J6 h
   refine JLh (OW 1036 2 Ha.av (s41++[(Ha.mk r45.Bay (r45.Rows,[]))])) (Yd (f:=Ha.av) (xs:=s41) (ys:=[(Ha.mk r45.Bay (r45.Rows,[]))]) O O O O Hp H74 ha46 (fun _=>O) (.inl O) O) O (JLh (OW 1036 2 Ha.av (s41++[(Ha.mk r45.Bay (r45.Rows,[]))])) (G9 O O) O (G8 (hK44 _ _ (G2 (JLh (En i41) (G5 O O) O (JLh (G0 ((i41+1:Nat):Int)) (Hy (He hk41 (G11 hx41)) O O O) O (JLh (G0 ((i41+1:Nat):Int)) (G9 O O) O (G8 (e41 _ _ (i41+1) (s41++[(Ha.mk r45.Bay (r45.Rows,[]))]) (app1 hn41 h) (by omega) ⟨⟨.same rfl,.same rfl,.same rfl,G⟩,⟨⟨_,rfl,.same⟩,G⟩,rfl⟩)))))))))
  ·
   have h:=app1 hkx41 (G35 hi41 (Ry hb))
   refine Hk (hK30 _ _ (G7 fun K47 hK47=>G2 (JLh (OW 1036 2 Ha.av s41) (G5 O O) O (JLh (E4 l) (G5 O O) O (H3 (f:=Gg.av) (xs:=l) Hp O O (fun hm37=>?_) O O O)))))
   obtain⟨m48,hm48,h⟩:=Gf h
   refine JLh (LT 2 Ha.av (s41.take m48,s41.drop m48)) (J3f (f:=Ha.av) (xs:=s41) O O O Hp (Rz hm48)) O (JLh (LT 2 Ha.av (s41.take m48,s41.drop m48)) (G9 O O) O (G8 (hK47 _ _ (Gu (⟨[LT 2 Ha.av (s41.take m48,s41.drop m48)],[],G,O,⟨⟨_,O,.conv (.same O)⟩,G⟩,O,congrArg (fun r:(Ln Ha)=>(LT 2 Ha.av r:AV)) (Option.some.inj h)⟩)))))

def Ra (k:Int) (i:Int):Option Row:=
 bnd (Ji k i) fun r3=>
 some (Row.mk 0 r3 0 0 0)
theorem G72 (k:Int) (i:Int) (r:Row) (h:Ra k i=some r):Pure Tryz.prog 142 [G0 k,G0 i] (·=.agg (Row.cs r)):=by
 unfold Ra at h
 refine H1 [.cell 4 228] Tryz.func142 O O (G7 fun K1 hK1=>G2 (JLh (.ptr 1084 0) (Zc 1084 [G0 0,G0 0,G0 0,G0 0,G0 0] [.int .i64 0,.int .i64 0,.int .i64 0,.int .i64 0,.int .i64 0] J14 ⟨.inl O,.inl O,.inl O,.inl O,.inl O,G⟩ O O) O (G8 (hK1 _ _ (G7 fun K2 hK2=>G2 (JLh (G0 k) (G5 O O) O (JLh (G0 i) (G5 O O) O ?_)))))))
 obtain⟨r3,hr3,h⟩:=Gf h
 refine JLh (G0 r3) (Gq (args:=[G0 k,G0 i]) O (Qi k i r3 hr3) G22 ⟨O,O,O,O,G⟩) O (JLh (.agg [G0 0,G0 r3,G0 0,G0 0,G0 0]) (Jv (cs:=[G0 0,G0 r3,G0 0,G0 0,G0 0]) [(0,1),(1,1),(2,1),(3,1),(4,1)] [G0 0,G0 0,G0 0,G0 0,G0 0] [.int .i64 0,.int .i64 0,.int .i64 0,.int .i64 0,.int .i64 0] Ja0 J14 ⟨.inl O,.inl O,.inl O,.inl O,.inl O,G⟩ O O) O (J4 (u:=.junk) (Ht (u:=.agg [G0 0,G0 r3,G0 0,G0 0,G0 0]) (ds:=[G0 0,G0 r3,G0 0,G0 0,G0 0]) Jb8 O O O O O O O O) (G8 (hK2 _ _ (Gu (⟨[.agg [G0 0,G0 r3,G0 0,G0 0,G0 0]],[],G,O,⟨⟨_,⟨_,_,_,_,O,O,O,.inl ⟨Ga5,O⟩⟩,.conv (.same O)⟩,G⟩,O,congrArg (fun r:Row=>(.agg (Row.cs r):AV)) (Option.some.inj h)⟩))))))

def Yw (l:List Row):Option (Ln Row):=
 G32 ((l.length:Int)+12) fun v3=>
 bnd (H1a v3) fun m4=>
 need (decide (40*m4≤281474976710656∧m4≤maxLen)) <|
 need (decide ((([]:List Row).length+l.length)*40≤140737488355328∧([]:List Row).length+l.length≤maxLen)) <|
 need (decide (12≤9223372036854775807)) <|
 upto (fun i19 (s19:(List Row)) nx19=>
  bnd (Ra 1 (i19:Int)) fun r23=>
  need (decide ((s19.length+[r23].length)*40≤140737488355328∧s19.length+[r23].length≤maxLen)) <|
  nx19 (s19++[r23]))
 (fun(s19:(List Row))=>
  bnd (G24 (l.length:Int) s19.length) fun m26=>
  some (s19.take m26,s19.drop m26)) (12:Int).toNat 0 (([]:List Row)++l)
theorem H09 (l:List Row) (r:(Ln Row)) (h:Yw l=some r):Pure Tryz.prog 65 [E6 l] (·=LT 5 Row.av r):=by
 unfold Yw at h
 refine H1 [.tmp 2] Tryz.func65 O O (G7 fun K1 hK1=>G2 (JLh (E6 ([]:List Row)) (R4 5 O O) O (G8 (hK1 _ _ (G7 fun K2 hK2=>G2 (JLh (E6 l) (G5 O O) O (H3 (f:=Row.av) (xs:=l) Q1 O O (fun hm6=>?_) O O O)))))))
 obtain⟨v3,hv3,h⟩:=Qw h
 refine JLh (G0 v3) (Hy hv3 O O O) O ?_
 obtain⟨m4,hm4,h⟩:=Gf h
 obtain⟨ha5,h⟩:=J6 h
 refine JLh (OW 1037 5 Row.av ([]:List Row)) (G8a 1037 O O O O Q1 H71 O (G82 hm4) ha5) O (JLh (OW 1037 5 Row.av ([]:List Row)) (G9 O O) O (G8 (hK2 _ _ (G7 fun K6 hK6=>G2 (JLh (OW 1037 5 Row.av ([]:List Row)) (G5 O O) O (JLh (E6 l) (G5 O O) O ?_))))))
 obtain⟨ha7,h⟩:=J6 h
 refine JLh (OW 1037 5 Row.av (([]:List Row)++l)) (H40 (f:=Row.av) (xs:=([]:List Row)) (ys:=l) O O O O Q1 H71 ha7 (fun _=>O) (.inl O)) O (JLh (OW 1037 5 Row.av (([]:List Row)++l)) (G9 O O) O (G8 (hK6 _ _ (G7 (fun K8 hK8=>G7 fun K9 hK9=>G2 (JLh (G0 0) (G9 O O) O (G8 (hK9 _ _ (Gk ?_)))))))))
 obtain⟨hx19,h⟩:=J6 h
 obtain⟨b19,kx19,hb19,hkx19,h⟩:=G5d h
 refine Hc (fun i19 (s19:(List Row))=>upto b19 kx19 ((12:Int).toNat - i19) i19 s19=some r) (fun i19 s19=>[(0,E6 l),(3,OW 1037 5 Row.av s19),(4,En i19)]) (fun i19 s19=>[(1037,.spare 228 5 s19.length s19.length)]) (fun i19=>(12:Int).toNat - i19) 0 (([]:List Row)++l) h ⟨⟨.same O,.same O,.same O,G⟩,⟨⟨_,O,.same⟩,G⟩,O⟩ ?_
 clear h
 intro i19 s19 hi19 K19 e19
 refine G7 (fun K20 hK20=>G7 fun K21 hK21=>G2 (JLh (En i19) (G5 O O) O (JLh (BL (decide ((i19:Int) < 12))) (J2 O O O) O (G8 (hK21 _ _ (Gn O (fun hb=>?_) (fun hb=>?_)))))))
 ·
  have hk19:=G37 hb
  obtain⟨nx19,hn19,h⟩:=G34 hi19 hk19
  replace h:=Heb hb19 h
  refine Gp (hK20 _ _ (G7 (fun K22 hK22=>Gk (G2 (JLh (OW 1037 5 Row.av s19) (G5 O O) O (JLh (En i19) (G5 O O) O ?_))))))
  obtain⟨r23,hr23,h⟩:=Gf h
  refine JLh (.agg (Row.cs r23)) (Gq (args:=[G0 1,En i19]) O (G72 1 (i19:Int) r23 hr23) J26 ⟨O,O,O,O,G⟩) O (JLh (E6 [r23]) (Hm (xs:=[.agg (Row.cs r23)]) O ⟨O,O,G⟩ Q1 Ja9 O O O O) O ?_)
  obtain⟨ha24,h⟩:=J6 h
  refine JLh (OW 1037 5 Row.av (s19++[r23])) (Yd (f:=Row.av) (xs:=s19) (ys:=[r23]) O O O O Q1 H71 ha24 (fun _=>O) (.inl O) O) O (JLh (OW 1037 5 Row.av (s19++[r23])) (G9 O O) O (G8 (hK22 _ _ (G2 (JLh (En i19) (G5 O O) O (JLh (G0 ((i19+1:Nat):Int)) (Hy (He hk19 (G11 hx19)) O O O) O (JLh (G0 ((i19+1:Nat):Int)) (G9 O O) O (G8 (e19 _ _ (i19+1) (s19++[r23]) (app1 hn19 h) (by omega) ⟨⟨.same rfl,.same rfl,.same rfl,G⟩,⟨⟨_,rfl,.same⟩,G⟩,rfl⟩)))))))))
 ·
  have h:=app1 hkx19 (G35 hi19 (Ry hb))
  refine Hk (hK8 _ _ (G7 fun K25 hK25=>G2 (JLh (OW 1037 5 Row.av s19) (G5 O O) O (JLh (E6 l) (G5 O O) O (H3 (f:=Row.av) (xs:=l) Q1 O O (fun hm23=>?_) O O O)))))
  obtain⟨m26,hm26,h⟩:=Gf h
  refine JLh (LT 5 Row.av (s19.take m26,s19.drop m26)) (J3f (f:=Row.av) (xs:=s19) O O O Q1 (Rz hm26)) O (JLh (LT 5 Row.av (s19.take m26,s19.drop m26)) (G9 O O) O (G8 (hK25 _ _ (Gu (⟨[LT 5 Row.av (s19.take m26,s19.drop m26)],[],G,O,⟨⟨_,O,.conv (.same O)⟩,G⟩,O,congrArg (fun r:(Ln Row)=>(LT 5 Row.av r:AV)) (Option.some.inj h)⟩)))))

def Qr (k:Int) (i:Int):Option Frame:=
 bnd (Ji k i) fun r3=>
 some (Frame.mk r3 0 0 0 0)
theorem G59 (k:Int) (i:Int) (r:Frame) (h:Qr k i=some r):Pure Tryz.prog 143 [G0 k,G0 i] (·=.agg (Frame.cs r)):=by
 unfold Qr at h
 refine H1 [.cell 4 231] Tryz.func143 O O (G7 fun K1 hK1=>G2 (JLh (.ptr 1085 0) (Zc 1085 [G0 0,G0 0,G0 0,G0 0,G0 0] [.int .i64 0,.int .i64 0,.int .i64 0,.int .i64 0,.int .i64 0] J13 ⟨.inl O,.inl O,.inl O,.inl O,.inl O,G⟩ O O) O (G8 (hK1 _ _ (G7 fun K2 hK2=>G2 (JLh (G0 k) (G5 O O) O (JLh (G0 i) (G5 O O) O ?_)))))))
 obtain⟨r3,hr3,h⟩:=Gf h
 refine JLh (G0 r3) (Gq (args:=[G0 k,G0 i]) O (Qi k i r3 hr3) G22 ⟨O,O,O,O,G⟩) O (JLh (.agg [G0 r3,G0 0,G0 0,G0 0,G0 0]) (Jv (cs:=[G0 r3,G0 0,G0 0,G0 0,G0 0]) [(0,1),(1,1),(2,1),(3,1),(4,1)] [G0 0,G0 0,G0 0,G0 0,G0 0] [.int .i64 0,.int .i64 0,.int .i64 0,.int .i64 0,.int .i64 0] J9f J13 ⟨.inl O,.inl O,.inl O,.inl O,.inl O,G⟩ O O) O (J4 (u:=.junk) (Ht (u:=.agg [G0 r3,G0 0,G0 0,G0 0,G0 0]) (ds:=[G0 r3,G0 0,G0 0,G0 0,G0 0]) Jb7 O O O O O O O O) (G8 (hK2 _ _ (Gu (⟨[.agg [G0 r3,G0 0,G0 0,G0 0,G0 0]],[],G,O,⟨⟨_,⟨_,_,_,_,O,O,O,.inl ⟨Ga4,O⟩⟩,.conv (.same O)⟩,G⟩,O,congrArg (fun r:Frame=>(.agg (Frame.cs r):AV)) (Option.some.inj h)⟩))))))

def Y7 (l:List Frame):Option (Ln Frame):=
 G32 ((l.length:Int)+12) fun v3=>
 bnd (H1a v3) fun m4=>
 need (decide (40*m4≤281474976710656∧m4≤maxLen)) <|
 need (decide ((([]:List Frame).length+l.length)*40≤140737488355328∧([]:List Frame).length+l.length≤maxLen)) <|
 need (decide (12≤9223372036854775807)) <|
 upto (fun i19 (s19:(List Frame)) nx19=>
  bnd (Qr 1 (i19:Int)) fun r23=>
  need (decide ((s19.length+[r23].length)*40≤140737488355328∧s19.length+[r23].length≤maxLen)) <|
  nx19 (s19++[r23]))
 (fun(s19:(List Frame))=>
  bnd (G24 (l.length:Int) s19.length) fun m26=>
  some (s19.take m26,s19.drop m26)) (12:Int).toNat 0 (([]:List Frame)++l)
theorem Gd3 (l:List Frame) (r:(Ln Frame)) (h:Y7 l=some r):Pure Tryz.prog 66 [E5 l] (·=LT 5 Frame.av r):=by
 unfold Y7 at h
 refine H1 [.tmp 2] Tryz.func66 O O (G7 fun K1 hK1=>G2 (JLh (E5 ([]:List Frame)) (R4 5 O O) O (G8 (hK1 _ _ (G7 fun K2 hK2=>G2 (JLh (E5 l) (G5 O O) O (H3 (f:=Frame.av) (xs:=l) Q0 O O (fun hm6=>?_) O O O)))))))
 obtain⟨v3,hv3,h⟩:=Qw h
 refine JLh (G0 v3) (Hy hv3 O O O) O ?_
 obtain⟨m4,hm4,h⟩:=Gf h
 obtain⟨ha5,h⟩:=J6 h
 refine JLh (OW 1038 5 Frame.av ([]:List Frame)) (G8a 1038 O O O O Q0 H70 O (G82 hm4) ha5) O (JLh (OW 1038 5 Frame.av ([]:List Frame)) (G9 O O) O (G8 (hK2 _ _ (G7 fun K6 hK6=>G2 (JLh (OW 1038 5 Frame.av ([]:List Frame)) (G5 O O) O (JLh (E5 l) (G5 O O) O ?_))))))
 obtain⟨ha7,h⟩:=J6 h
 refine JLh (OW 1038 5 Frame.av (([]:List Frame)++l)) (H40 (f:=Frame.av) (xs:=([]:List Frame)) (ys:=l) O O O O Q0 H70 ha7 (fun _=>O) (.inl O)) O (JLh (OW 1038 5 Frame.av (([]:List Frame)++l)) (G9 O O) O (G8 (hK6 _ _ (G7 (fun K8 hK8=>G7 fun K9 hK9=>G2 (JLh (G0 0) (G9 O O) O (G8 (hK9 _ _ (Gk ?_)))))))))
 obtain⟨hx19,h⟩:=J6 h
 obtain⟨b19,kx19,hb19,hkx19,h⟩:=G5d h
 refine Hc (fun i19 (s19:(List Frame))=>upto b19 kx19 ((12:Int).toNat - i19) i19 s19=some r) (fun i19 s19=>[(0,E5 l),(3,OW 1038 5 Frame.av s19),(4,En i19)]) (fun i19 s19=>[(1038,.spare 231 5 s19.length s19.length)]) (fun i19=>(12:Int).toNat - i19) 0 (([]:List Frame)++l) h ⟨⟨.same O,.same O,.same O,G⟩,⟨⟨_,O,.same⟩,G⟩,O⟩ ?_
 clear h
 intro i19 s19 hi19 K19 e19
 refine G7 (fun K20 hK20=>G7 fun K21 hK21=>G2 (JLh (En i19) (G5 O O) O (JLh (BL (decide ((i19:Int) < 12))) (J2 O O O) O (G8 (hK21 _ _ (Gn O (fun hb=>?_) (fun hb=>?_)))))))
 ·
  have hk19:=G37 hb
  obtain⟨nx19,hn19,h⟩:=G34 hi19 hk19
  replace h:=Heb hb19 h
  refine Gp (hK20 _ _ (G7 (fun K22 hK22=>Gk (G2 (JLh (OW 1038 5 Frame.av s19) (G5 O O) O (JLh (En i19) (G5 O O) O ?_))))))
  obtain⟨r23,hr23,h⟩:=Gf h
  refine JLh (.agg (Frame.cs r23)) (Gq (args:=[G0 1,En i19]) O (G59 1 (i19:Int) r23 hr23) J25 ⟨O,O,O,O,G⟩) O (JLh (E5 [r23]) (Hm (xs:=[.agg (Frame.cs r23)]) O ⟨O,O,G⟩ Q0 Ja8 O O O O) O ?_)
  obtain⟨ha24,h⟩:=J6 h
  refine JLh (OW 1038 5 Frame.av (s19++[r23])) (Yd (f:=Frame.av) (xs:=s19) (ys:=[r23]) O O O O Q0 H70 ha24 (fun _=>O) (.inl O) O) O (JLh (OW 1038 5 Frame.av (s19++[r23])) (G9 O O) O (G8 (hK22 _ _ (G2 (JLh (En i19) (G5 O O) O (JLh (G0 ((i19+1:Nat):Int)) (Hy (He hk19 (G11 hx19)) O O O) O (JLh (G0 ((i19+1:Nat):Int)) (G9 O O) O (G8 (e19 _ _ (i19+1) (s19++[r23]) (app1 hn19 h) (by omega) ⟨⟨.same rfl,.same rfl,.same rfl,G⟩,⟨⟨_,rfl,.same⟩,G⟩,rfl⟩)))))))))
 ·
  have h:=app1 hkx19 (G35 hi19 (Ry hb))
  refine Hk (hK8 _ _ (G7 fun K25 hK25=>G2 (JLh (OW 1038 5 Frame.av s19) (G5 O O) O (JLh (E5 l) (G5 O O) O (H3 (f:=Frame.av) (xs:=l) Q0 O O (fun hm23=>?_) O O O)))))
  obtain⟨m26,hm26,h⟩:=Gf h
  refine JLh (LT 5 Frame.av (s19.take m26,s19.drop m26)) (J3f (f:=Frame.av) (xs:=s19) O O O Q0 (Rz hm26)) O (JLh (LT 5 Frame.av (s19.take m26,s19.drop m26)) (G9 O O) O (G8 (hK25 _ _ (Gu (⟨[LT 5 Frame.av (s19.take m26,s19.drop m26)],[],G,O,⟨⟨_,O,.conv (.same O)⟩,G⟩,O,congrArg (fun r:(Ln Frame)=>(LT 5 Frame.av r:AV)) (Option.some.inj h)⟩)))))

def Yu (x:Gr):Option Hh:=
 bnd (R1 x.Steps) fun r3=>
 some (Hh.mk x.Kilos x.X x.Y x.Z x.Surface r3)
theorem H07 (x:Gr) (r:Hh) (h:Yu x=some r):Pure Tryz.prog 144 [.agg (Gr.cs x)] (·=.agg (Hh.cs r)):=by
 unfold Yu at h
 refine H1 [.cell 2 234] Tryz.func144 O O (G7 fun K1 hK1=>G2 (JLh (.ptr 1086 0) (Jy (u:=.agg (Gr.cs x)) (cs:=[G0 x.Kilos,G0 x.X,G0 x.Y,G0 x.Z,G0 x.Surface,E1 x.Steps]) 1086 O O O O O) O (JLh (.ptr 1087 0) (Zc 1087 [G0 0,G0 0,G0 0,G0 0,G0 0,E1 ([]:List Int)] [.int .i64 0,.int .i64 0,.int .i64 0,.int .i64 0,.int .i64 0,.slice none 0 0] H67 ⟨.inl O,.inl O,.inl O,.inl O,.inl O,.inr ⟨_,O,O⟩,G⟩ O O) O (G8 (hK1 _ _ (G7 fun K2 hK2=>G2 (JLh (.ptr 1086 5) (G07 G36 O O) O (JLh (E1 x.Steps) (Zf Hg O O O O) O ?_))))))))
 obtain⟨r3,hr3,h⟩:=Gf h
 refine JLh (LT 1 G0 r3) (Gq (args:=[E1 x.Steps]) O (G1b x.Steps r3 hr3) H7b ⟨O,O,G⟩) O (JLh (.ptr 1086 5) (G07 G36 O O) O (J4 (u:=.junk) (Ht (u:=LT 1 G0 r3) (ds:=[G0 x.Kilos,G0 x.X,G0 x.Y,G0 x.Z,G0 x.Surface,LT 1 G0 r3]) H46 O O O O O O O O) (G8 (hK2 _ _ (Gx [(1,.dptr [G0 x.Kilos,G0 x.X,G0 x.Y,G0 x.Z,G0 x.Surface,LT 1 G0 r3]),(2,.ptr 1087 0)] [(1087,.box 234 [G0 0,G0 0,G0 0,G0 0,G0 0,E1 ([]:List Int)])] 1086 rfl rfl rfl ⟨⟨_,rfl,.boxEq rfl rfl⟩,G⟩ rfl (by exact⟨.ptr,.conv (.same rfl),G⟩) ?_)))))
 refine G7 fun K4 hK4=>G2 (JLh (.agg [G0 x.Kilos,G0 x.X,G0 x.Y,G0 x.Z,G0 x.Surface,LT 1 G0 r3]) (Gj G00 O O O) O (J4 (u:=.junk) (Ht (u:=.agg [G0 x.Kilos,G0 x.X,G0 x.Y,G0 x.Z,G0 x.Surface,LT 1 G0 r3]) (ds:=[G0 x.Kilos,G0 x.X,G0 x.Y,G0 x.Z,G0 x.Surface,LT 1 G0 r3]) H68 O O O O O O O O) (G8 (hK4 _ _ (Gu (⟨[.agg [G0 x.Kilos,G0 x.X,G0 x.Y,G0 x.Z,G0 x.Surface,LT 1 G0 r3]],[],G,O,⟨⟨_,⟨_,_,_,_,O,O,O,.inl ⟨G00,O⟩⟩,.conv (.same O)⟩,G⟩,O,congrArg (fun r:Hh=>(.agg (Hh.cs r):AV)) (Option.some.inj h)⟩))))))

def Qz (k:Int) (i:Int):Option Gr:=
 bnd (Ji k i) fun r3=>
 some (Gr.mk r3 0 0 0 0 [])
theorem G68 (k:Int) (i:Int) (r:Gr) (h:Qz k i=some r):Pure Tryz.prog 145 [G0 k,G0 i] (·=.agg (Gr.cs r)):=by
 unfold Qz at h
 refine H1 [.cell 4 234] Tryz.func145 O O (G7 fun K1 hK1=>G2 (JLh (.ptr 1088 0) (Zc 1088 [G0 0,G0 0,G0 0,G0 0,G0 0,E1 ([]:List Int)] [.int .i64 0,.int .i64 0,.int .i64 0,.int .i64 0,.int .i64 0,.slice none 0 0] H67 ⟨.inl O,.inl O,.inl O,.inl O,.inl O,.inr ⟨_,O,O⟩,G⟩ O O) O (G8 (hK1 _ _ (G7 fun K2 hK2=>G2 (JLh (G0 k) (G5 O O) O (JLh (G0 i) (G5 O O) O ?_)))))))
 obtain⟨r3,hr3,h⟩:=Gf h
 refine JLh (G0 r3) (Gq (args:=[G0 k,G0 i]) O (Qi k i r3 hr3) G22 ⟨O,O,O,O,G⟩) O (JLh (.agg [G0 r3,G0 0,G0 0,G0 0,G0 0,E1 ([]:List Int)]) (Jv (cs:=[G0 r3,G0 0,G0 0,G0 0,G0 0,E1 ([]:List Int)]) [(0,1),(1,1),(2,1),(3,1),(4,1),(5,1)] [G0 0,G0 0,G0 0,G0 0,G0 0,E1 ([]:List Int)] [.int .i64 0,.int .i64 0,.int .i64 0,.int .i64 0,.int .i64 0,.slice none 0 0] J9e H67 ⟨.inl O,.inl O,.inl O,.inl O,.inl O,.inr ⟨_,O,O⟩,G⟩ O O) O (J4 (u:=.junk) (Ht (u:=.agg [G0 r3,G0 0,G0 0,G0 0,G0 0,E1 ([]:List Int)]) (ds:=[G0 r3,G0 0,G0 0,G0 0,G0 0,E1 ([]:List Int)]) H68 O O O O O O O O) (G8 (hK2 _ _ (Gu ?_)))))
 exact⟨[.agg [G0 r3,G0 0,G0 0,G0 0,G0 0,E1 ([]:List Int)]],[],G,O,⟨⟨_,⟨_,_,_,_,O,O,O,.inl ⟨G00,O⟩⟩,.conv (.same O)⟩,G⟩,O,congrArg (fun r:Gr=>(.agg (Gr.cs r):AV)) (Option.some.inj h)⟩

def Yh (l:List Gr):Option (Ln Hh):=
 G32 ((l.length:Int)+12) fun v3=>
 bnd (H1a v3) fun m4=>
 need (decide (64*m4≤281474976710656∧m4≤maxLen)) <|
 each (fun y23 i23 (s23:(List Hh)) nx23=>
  bnd (Yu y23) fun r28=>
  need (decide ((s23.length+[r28].length)*64≤140737488355328∧s23.length+[r28].length≤maxLen)) <|
  nx23 (s23++[r28]))
 (fun(s23:(List Hh))=>
  need (decide (12≤9223372036854775807)) <|
  upto (fun i41 (s41:(List Hh)) nx41=>
   bnd (Qz 1 (i41:Int)) fun r45=>
   need (decide ((s41.length+[(Hh.mk r45.Kilos r45.X r45.Y r45.Z r45.Surface (r45.Steps,[]))].length)*64≤140737488355328∧s41.length+[(Hh.mk r45.Kilos r45.X r45.Y r45.Z r45.Surface (r45.Steps,[]))].length≤maxLen)) <|
   nx41 (s41++[(Hh.mk r45.Kilos r45.X r45.Y r45.Z r45.Surface (r45.Steps,[]))]))
  (fun(s41:(List Hh))=>
   bnd (G24 (l.length:Int) s41.length) fun m48=>
   some (s41.take m48,s41.drop m48)) (12:Int).toNat 0 s23) l 0 []
theorem Gf5 (l:List Gr) (r:(Ln Hh)) (h:Yh l=some r):Pure Tryz.prog 67 [E7 l] (·=LT 6 Hh.av r):=by
 unfold Yh at h
 refine H1 [.tmp 2] Tryz.func67 O O (G7 fun K1 hK1=>G2 (JLh (E7 ([]:List Gr)) (R4 6 O O) O (G8 (hK1 _ _ (G7 fun K2 hK2=>G2 (JLh (E7 l) (G5 O O) O (H3 (f:=Gr.av) (xs:=l) Jm O O (fun hm8=>?_) O O O)))))))
 obtain⟨v3,hv3,h⟩:=Qw h
 refine JLh (G0 v3) (Hy hv3 O O O) O ?_
 obtain⟨m4,hm4,h⟩:=Gf h
 obtain⟨ha5,h⟩:=J6 h
 refine JLh (OW 1040 6 Hh.av ([]:List Hh)) (G8a 1040 O O O O Jm H6f O (G82 hm4) ha5) O (JLh (OW 1040 6 Hh.av ([]:List Hh)) (G9 O O) O (G8 (hK2 _ _ (G7 (fun K6 hK6=>G7 fun K7 hK7=>G2 (JLh (G0 0) (G9 O O) O (G8 (hK7 _ _ (Gk ?_)))))))))
 obtain⟨b23,kx23,hb23,hkx23,h⟩:=Hw h
 refine Hc (fun i23 (s23:(List Hh))=>each b23 kx23 (List.drop i23 l) i23 s23=some r) (fun i23 s23=>[(0,E7 l),(3,OW 1040 6 Hh.av s23),(4,En i23)]) (fun i23 s23=>[(1040,.spare 234 6 s23.length s23.length)]) (fun i23=>l.length - i23) 0 [] h ⟨⟨.same O,.same O,.same O,G⟩,⟨⟨_,O,.same⟩,G⟩,O⟩ ?_
 clear h
 intro i23 s23 hi23 K23 e23
 refine G7 (fun K24 hK24=>G7 fun K25 hK25=>G2 (JLh (En i23) (G5 O O) O (JLh (E7 l) (G5 O O) O (H3 (f:=Gr.av) (xs:=l) Jm O O (fun hm13=>?_) O O O))))
 refine JLh (BL (decide ((i23:Int) < (l.length:Int)))) (J2 O O O) O (G8 (hK25 _ _ (Gn O (fun hb=>?_) (fun hb=>?_))))
 ·
  have hk23:=Jc hb
  obtain⟨y23,nx23,hy23,hn23,h⟩:=Hn hi23 hk23
  replace h:=Yb hb23 h
  refine Gp (hK24 _ _ (G7 (fun K26 hK26=>Gk (G7 fun K27 hK27=>G2 (JLh (E7 l) (G5 O O) O (JLh (En i23) (G5 O O) O (JLh (Ej y23) (Gt (f:=Gr.av) (xs:=l) (y:=y23) O O O Jm hy23 O) O (JLh (.agg (Gr.cs y23)) (Gj G00 O O O) O ?_))))))))
  obtain⟨r28,hr28,h⟩:=Gf h
  refine JLh (.agg (Hh.cs r28)) (Gq (args:=[.agg (Gr.cs y23)]) O (H07 y23 r28 hr28) Je2 ⟨O,O,G⟩) O (JLh (.ptr 1039 0) (Jb 1039 6 H45 O O) O (J4 (u:=.junk) (Ht (u:=.agg (Hh.cs r28)) (ds:=[G0 r28.Kilos,G0 r28.X,G0 r28.Y,G0 r28.Z,G0 r28.Surface,LT 1 G0 r28.Steps]) H68 O O O O O O O O) (G8 (hK27 _ _ (Gx [(0,E7 l),(3,OW 1040 6 Hh.av s23),(4,En i23),(5,.dptr (Hh.cs r28))] [(1040,.spare 234 6 s23.length s23.length)] 1039 rfl rfl rfl ⟨⟨_,rfl,.same⟩,G⟩ rfl (by repeat' (first | exact .ptr | constructor)) (G2 ?_))))))
  refine JLh (OW 1040 6 Hh.av s23) (G5 O O) O (JLh (.agg (Hh.cs r28)) (Gj G00 O O O) O (JLh (Ed [r28]) (Hm (xs:=[.agg (Hh.cs r28)]) O ⟨O,O,G⟩ Jm H45 O O O O) O ?_))
  obtain⟨ha29,h⟩:=J6 h
  refine JLh (OW 1040 6 Hh.av (s23++[r28])) (Yd (f:=Hh.av) (xs:=s23) (ys:=[r28]) O O O O Jm H6f ha29 (fun _=>O) (.inl O) O) O (JLh (OW 1040 6 Hh.av (s23++[r28])) (G9 O O) O (G8 (hK26 _ _ (G2 (JLh (En i23) (G5 O O) O (JLh (G0 ((i23+1:Nat):Int)) (Hy (He hk23 hm13) O O O) O (JLh (G0 ((i23+1:Nat):Int)) (G9 O O) O (G8 (e23 _ _ (i23+1) (s23++[r28]) (app1 hn23 h) (by omega) ⟨⟨.same rfl,.same rfl,.same rfl,G⟩,⟨⟨_,rfl,.same⟩,G⟩,rfl⟩)))))))))
 ·
  have h:=app1 hkx23 (Ho hi23 (H9 hb))
  refine Hk (hK6 _ _ (G7 (fun K30 hK30=>G7 fun K31 hK31=>G2 (JLh (G0 0) (G9 O O) O (G8 (hK31 _ _ (Gk ?_)))))))
  obtain⟨hx41,h⟩:=J6 h
  obtain⟨b41,kx41,hb41,hkx41,h⟩:=G5d h
  refine Hc (fun i41 (s41:(List Hh))=>upto b41 kx41 ((12:Int).toNat - i41) i41 s41=some r) (fun i41 s41=>[(0,E7 l),(3,OW 1040 6 Hh.av s41),(6,En i41)]) (fun i41 s41=>[(1040,.spare 234 6 s41.length s41.length)]) (fun i41=>(12:Int).toNat - i41) 0 s23 h ⟨⟨.same O,.same O,.same O,G⟩,⟨⟨_,O,.same⟩,G⟩,O⟩ ?_
  clear h
  intro i41 s41 hi41 K41 e41
  refine G7 (fun K42 hK42=>G7 fun K43 hK43=>G2 (JLh (En i41) (G5 O O) O (JLh (BL (decide ((i41:Int) < 12))) (J2 O O O) O (G8 (hK43 _ _ (Gn O (fun hb=>?_) (fun hb=>?_)))))))
  ·
   have hk41:=G37 hb
   obtain⟨nx41,hn41,h⟩:=G34 hi41 hk41
   replace h:=Heb hb41 h
   refine Gp (hK42 _ _ (G7 (fun K44 hK44=>Gk (G2 (JLh (OW 1040 6 Hh.av s41) (G5 O O) O (JLh (En i41) (G5 O O) O ?_))))))
   obtain⟨r45,hr45,h⟩:=Gf h
   refine JLh (.agg [G0 r45.Kilos,G0 r45.X,G0 r45.Y,G0 r45.Z,G0 r45.Surface,LT 1 G0 (r45.Steps,[])]) (H4.cv (Cv.aggL (cs:=(Gr.cs r45)) ⟨.same,.same,.same,.same,.same,Cv.of0 r45.Steps,G⟩) (Gq (args:=[G0 1,En i41]) O (G68 1 (i41:Int) r45 hr45) J24 ⟨O,O,O,O,G⟩)) O (JLh (Ed ([(Hh.mk r45.Kilos r45.X r45.Y r45.Z r45.Surface (r45.Steps,[]))])) (Hm (xs:=[.agg [G0 r45.Kilos,G0 r45.X,G0 r45.Y,G0 r45.Z,G0 r45.Surface,LT 1 G0 (r45.Steps,[])]]) O ⟨O,O,G⟩ Jm H45 O O O O) O ?_)
   obtain⟨ha46,h⟩:=J6 h
   refine JLh (OW 1040 6 Hh.av (s41++[(Hh.mk r45.Kilos r45.X r45.Y r45.Z r45.Surface (r45.Steps,[]))])) (Yd (f:=Hh.av) (xs:=s41) (ys:=[(Hh.mk r45.Kilos r45.X r45.Y r45.Z r45.Surface (r45.Steps,[]))]) O O O O Jm H6f ha46 (fun _=>O) (.inl O) O) O (JLh (OW 1040 6 Hh.av (s41++[(Hh.mk r45.Kilos r45.X r45.Y r45.Z r45.Surface (r45.Steps,[]))])) (G9 O O) O (G8 (hK44 _ _ (G2 (JLh (En i41) (G5 O O) O (JLh (G0 ((i41+1:Nat):Int)) (Hy (He hk41 (G11 hx41)) O O O) O (JLh (G0 ((i41+1:Nat):Int)) (G9 O O) O (G8 (e41 _ _ (i41+1) (s41++[(Hh.mk r45.Kilos r45.X r45.Y r45.Z r45.Surface (r45.Steps,[]))]) (app1 hn41 h) (by omega) ⟨⟨.same rfl,.same rfl,.same rfl,G⟩,⟨⟨_,rfl,.same⟩,G⟩,rfl⟩)))))))))
  ·
   have h:=app1 hkx41 (G35 hi41 (Ry hb))
   refine Hk (hK30 _ _ (G7 fun K47 hK47=>G2 (JLh (OW 1040 6 Hh.av s41) (G5 O O) O (JLh (E7 l) (G5 O O) O (H3 (f:=Gr.av) (xs:=l) Jm O O (fun hm37=>?_) O O O)))))
   obtain⟨m48,hm48,h⟩:=Gf h
   refine JLh (LT 6 Hh.av (s41.take m48,s41.drop m48)) (J3f (f:=Hh.av) (xs:=s41) O O O Jm (Rz hm48)) O (JLh (LT 6 Hh.av (s41.take m48,s41.drop m48)) (G9 O O) O (G8 (hK47 _ _ (Gu (⟨[LT 6 Hh.av (s41.take m48,s41.drop m48)],[],G,O,⟨⟨_,O,.conv (.same O)⟩,G⟩,O,congrArg (fun r:(Ln Hh)=>(LT 6 Hh.av r:AV)) (Option.some.inj h)⟩)))))

def Yv (x:Hb):Option Y4:=
 bnd (Ru x.Columns) fun r3=>
 bnd (Y8 x.Covers) fun r5=>
 bnd (Yw x.Rows) fun r7=>
 bnd (Y7 x.Frames) fun r9=>
 bnd (Yh x.Tanks) fun r11=>
 some (Y4.mk r3 r5 x.Light r7 r9 r11 x.G3)
theorem H08 (x:Hb) (r:Y4) (h:Yv x=some r):Pure Tryz.prog 12 [.agg (Hb.cs x)] (·=.agg (Y4.cs r)):=by
 unfold Yv at h
 refine H1 [.cell 2 32] Tryz.func12 O O ?_
 refine G7 fun K1 hK1=>G2 (JLh (.ptr 1008 0) (Jy (u:=.agg (Hb.cs x)) (cs:=(Hb.cs x)) 1008 O O O O O) O (JLh (.ptr 1009 0) (Zc 1009 [E3 ([]:List G4),E4 ([]:List Gg),G0 0,G0 0,G0 0,G0 0,E6 ([]:List Row),E5 ([]:List Frame),E7 ([]:List Gr),G0 0,G0 0,G0 0,G0 0] [.slice none 0 0,.slice none 0 0,.int .i64 0,.int .i64 0,.int .i64 0,.int .i64 0,.slice none 0 0,.slice none 0 0,.slice none 0 0,.int .i64 0,.int .i64 0,.int .i64 0,.int .i64 0] Hb8 ⟨.inr ⟨_,O,O⟩,.inr ⟨_,O,O⟩,.inl O,.inl O,.inl O,.inl O,.inr ⟨_,O,O⟩,.inr ⟨_,O,O⟩,.inr ⟨_,O,O⟩,.inl O,.inl O,.inl O,.inl O,G⟩ O O) O (G8 (hK1 _ _ ?_))))
 refine G7 fun K2 hK2=>G2 (JLh (.ptr 1008 0) (G07 Hi O O) O (JLh (E3 x.Columns) (Zf Hq O O O O) O ?_))
 obtain⟨r3,hr3,h⟩:=Gf h
 refine JLh (LT 12 Gy.av r3) (Gq (args:=[E3 x.Columns]) O (Gc7 x.Columns r3 hr3) Q08 ⟨O,O,G⟩) O (JLh (.ptr 1008 0) (G07 Hi O O) O (J4 (u:=.junk) (Ht (u:=LT 12 Gy.av r3) (ds:=[LT 12 Gy.av r3,E4 x.Covers,G0 x.Light.Kilos,G0 x.Light.X,G0 x.Light.Y,G0 x.Light.Z,E6 x.Rows,E5 x.Frames,E7 x.Tanks,G0 x.G3.Tolerance,G0 x.G3.Trim,G0 x.G3.List_,G0 x.G3.Stability]) Jf4 O O O O O O O O) (G8 (hK2 _ _ (G7 fun K4 hK4=>G2 (JLh (.ptr 1008 1) (G07 Jz O O) O (JLh (E4 x.Covers) (Zf Qh O O O O) O ?_)))))))
 obtain⟨r5,hr5,h⟩:=Gf h
 refine JLh (LT 2 Ha.av r5) (Gq (args:=[E4 x.Covers]) O (Gd4 x.Covers r5 hr5) Q07 ⟨O,O,G⟩) O (JLh (.ptr 1008 1) (G07 Jz O O) O (J4 (u:=.junk) (Ht (u:=LT 2 Ha.av r5) (ds:=[LT 12 Gy.av r3,LT 2 Ha.av r5,G0 x.Light.Kilos,G0 x.Light.X,G0 x.Light.Y,G0 x.Light.Z,E6 x.Rows,E5 x.Frames,E7 x.Tanks,G0 x.G3.Tolerance,G0 x.G3.Trim,G0 x.G3.List_,G0 x.G3.Stability]) Jf3 O O O O O O O O) (G8 (hK4 _ _ (G7 fun K6 hK6=>G2 (JLh (.ptr 1008 6) (G07 G4c O O) O (JLh (E6 x.Rows) (Zf G8d O O O O) O ?_)))))))
 obtain⟨r7,hr7,h⟩:=Gf h
 refine JLh (LT 5 Row.av r7) (Gq (args:=[E6 x.Rows]) O (H09 x.Rows r7 hr7) Q06 ⟨O,O,G⟩) O (JLh (.ptr 1008 6) (G07 G4c O O) O (J4 (u:=.junk) (Ht (u:=LT 5 Row.av r7) (ds:=[LT 12 Gy.av r3,LT 2 Ha.av r5,G0 x.Light.Kilos,G0 x.Light.X,G0 x.Light.Y,G0 x.Light.Z,LT 5 Row.av r7,E5 x.Frames,E7 x.Tanks,G0 x.G3.Tolerance,G0 x.G3.Trim,G0 x.G3.List_,G0 x.G3.Stability]) Jf2 O O O O O O O O) (G8 (hK6 _ _ (G7 fun K8 hK8=>G2 (JLh (.ptr 1008 7) (G07 G4b O O) O (JLh (E5 x.Frames) (Zf G8c O O O O) O ?_)))))))
 obtain⟨r9,hr9,h⟩:=Gf h
 refine JLh (LT 5 Frame.av r9) (Gq (args:=[E5 x.Frames]) O (Gd3 x.Frames r9 hr9) Q05 ⟨O,O,G⟩) O (JLh (.ptr 1008 7) (G07 G4b O O) O (J4 (u:=.junk) (Ht (u:=LT 5 Frame.av r9) (ds:=[LT 12 Gy.av r3,LT 2 Ha.av r5,G0 x.Light.Kilos,G0 x.Light.X,G0 x.Light.Y,G0 x.Light.Z,LT 5 Row.av r7,LT 5 Frame.av r9,E7 x.Tanks,G0 x.G3.Tolerance,G0 x.G3.Trim,G0 x.G3.List_,G0 x.G3.Stability]) Jf1 O O O O O O O O) (G8 (hK8 _ _ (G7 fun K10 hK10=>G2 (JLh (.ptr 1008 8) (G07 G4a O O) O (JLh (E7 x.Tanks) (Zf G8b O O O O) O ?_)))))))
 obtain⟨r11,hr11,h⟩:=Gf h
 refine JLh (LT 6 Hh.av r11) (Gq (args:=[E7 x.Tanks]) O (Gf5 x.Tanks r11 hr11) Q04 ⟨O,O,G⟩) O (JLh (.ptr 1008 8) (G07 G4a O O) O (J4 (u:=.junk) (Ht (u:=LT 6 Hh.av r11) (ds:=[LT 12 Gy.av r3,LT 2 Ha.av r5,G0 x.Light.Kilos,G0 x.Light.X,G0 x.Light.Y,G0 x.Light.Z,LT 5 Row.av r7,LT 5 Frame.av r9,LT 6 Hh.av r11,G0 x.G3.Tolerance,G0 x.G3.Trim,G0 x.G3.List_,G0 x.G3.Stability]) Jf0 O O O O O O O O) (G8 (hK10 _ _ ?_))))
 refine Gx [(1,.dptr [LT 12 Gy.av r3,LT 2 Ha.av r5,G0 x.Light.Kilos,G0 x.Light.X,G0 x.Light.Y,G0 x.Light.Z,LT 5 Row.av r7,LT 5 Frame.av r9,LT 6 Hh.av r11,G0 x.G3.Tolerance,G0 x.G3.Trim,G0 x.G3.List_,G0 x.G3.Stability]),(2,.ptr 1009 0)] [(1009,.box 32 [E3 ([]:List G4),E4 ([]:List Gg),G0 0,G0 0,G0 0,G0 0,E6 ([]:List Row),E5 ([]:List Frame),E7 ([]:List Gr),G0 0,G0 0,G0 0,G0 0])] 1008 rfl rfl rfl ⟨⟨_,rfl,.boxEq rfl rfl⟩,G⟩ rfl (by exact⟨.ptr,.conv (.same rfl),G⟩) ?_
 refine G7 fun K12 hK12=>G2 (JLh (.agg [LT 12 Gy.av r3,LT 2 Ha.av r5,G0 x.Light.Kilos,G0 x.Light.X,G0 x.Light.Y,G0 x.Light.Z,LT 5 Row.av r7,LT 5 Frame.av r9,LT 6 Hh.av r11,G0 x.G3.Tolerance,G0 x.G3.Trim,G0 x.G3.List_,G0 x.G3.Stability]) (Gj J8 O O O) O (J4 (u:=.junk) (Ht (u:=.agg [LT 12 Gy.av r3,LT 2 Ha.av r5,G0 x.Light.Kilos,G0 x.Light.X,G0 x.Light.Y,G0 x.Light.Z,LT 5 Row.av r7,LT 5 Frame.av r9,LT 6 Hh.av r11,G0 x.G3.Tolerance,G0 x.G3.Trim,G0 x.G3.List_,G0 x.G3.Stability]) (ds:=[LT 12 Gy.av r3,LT 2 Ha.av r5,G0 x.Light.Kilos,G0 x.Light.X,G0 x.Light.Y,G0 x.Light.Z,LT 5 Row.av r7,LT 5 Frame.av r9,LT 6 Hh.av r11,G0 x.G3.Tolerance,G0 x.G3.Trim,G0 x.G3.List_,G0 x.G3.Stability]) H47 O O O O O O O O) (G8 (hK12 _ _ ?_))))
 refine Gu (⟨[.agg [LT 12 Gy.av r3,LT 2 Ha.av r5,G0 x.Light.Kilos,G0 x.Light.X,G0 x.Light.Y,G0 x.Light.Z,LT 5 Row.av r7,LT 5 Frame.av r9,LT 6 Hh.av r11,G0 x.G3.Tolerance,G0 x.G3.Trim,G0 x.G3.List_,G0 x.G3.Stability]],[],G,O,⟨⟨_,⟨_,_,_,_,O,O,O,.inl ⟨J8,O⟩⟩,.conv (.same O)⟩,G⟩,O,congrArg (fun r:Y4=>(.agg (Y4.cs r):AV)) (Option.some.inj h)⟩)

def J9 (a:List Int) (b:List Int):Option Bool:=
 bif decide ((a.length:Int)≠(b.length:Int)) then
 (some false)
 else
 (each (fun y24 i24 (s24:Unit) nx24=>
   Q3 b (i24:Int) fun y29=>
   bif decide (y24≠y29) then
   (some false)
   else
   (nx24 ()))
  (fun(s24:Unit)=>
   some true) a 0 ())
theorem Q9 (a:List Int) (b:List Int) (r:Bool) (h:J9 a b=some r):Pure Tryz.prog 19 [E1 a,E1 b] (·=BL r):=by
 unfold J9 at h
 refine H1 [.tmp 4] Tryz.func19 O O (G7 fun K1 hK1=>G2 (JLh (BL false) (G9 O O) O (G8 (hK1 _ _ (G7 (fun K2 hK2=>G7 fun K3 hK3=>G2 (JLh (E1 a) (G5 O O) O (H3 (f:=G0) (xs:=a) H0 O O (fun hm7=>?_) O O O))))))))
 refine JLh (E1 b) (G5 O O) O (H3 (f:=G0) (xs:=b) H0 O O (fun hm9=>?_) O O O)
 refine JLh (BL (decide ((a.length:Int)≠(b.length:Int)))) (G5c O O O) O (G8 (hK3 _ _ (Gn O (fun hb=>?_) (fun hb=>?_))))
 ·
  replace h:=Gz hb h
  refine G7 fun K4 hK4=>G2 (JLh (BL false) (G9 O O) O (G8 (hK4 _ _ (Gu (⟨[BL false],[],G,O,⟨⟨_,O,.conv (.same O)⟩,G⟩,O,congrArg (fun r:Bool=>(BL r:AV)) (Option.some.inj h)⟩)))))
 ·
  replace h:=Hv hb h
  refine Gp (hK2 _ _ (G7 (fun K5 hK5=>G7 fun K6 hK6=>G2 (JLh (G0 0) (G9 O O) O (G8 (hK6 _ _ (Gk ?_)))))))
  obtain⟨b24,kx24,hb24,hkx24,h⟩:=Hw h
  refine Hc (fun i24 (s24:Unit)=>each b24 kx24 (List.drop i24 a) i24 s24=some r) (fun i24 s24=>[(0,E1 a),(1,E1 b),(5,En i24)]) (fun i24 s24=>[]) (fun i24=>a.length - i24) 0 () h ⟨⟨.same O,.same O,.same O,G⟩,G,O⟩ ?_
  clear h
  intro i24 s24 hi24 K24 e24
  refine G7 (fun K25 hK25=>G7 fun K26 hK26=>G2 (JLh (En i24) (G5 O O) O (JLh (E1 a) (G5 O O) O (H3 (f:=G0) (xs:=a) H0 O O (fun hm13=>?_) O O O))))
  refine JLh (BL (decide ((i24:Int) < (a.length:Int)))) (J2 O O O) O (G8 (hK26 _ _ (Gn O (fun hb=>?_) (fun hb=>?_))))
  ·
   have hk24:=Jc hb
   obtain⟨y24,nx24,hy24,hn24,h⟩:=Hn hi24 hk24
   replace h:=Yb hb24 h
   refine Gp (hK25 _ _ (G7 (fun K27 hK27=>Gk (G7 (fun K28 hK28=>?_)))))
   obtain⟨m30,y29,hm30,hy29,h⟩:=Y3 h
   refine Q6 [] [0,0,0,0,0,0,0,0,0] [0,0,0,0,0,0,0,0,0] [[]] Jk (by kernel_rfl) rfl rfl (Gc (u:=E1 a) O O ⟨Gw (G5 O O) O,G⟩ (Gc (u:=En i24) O O ⟨Gw (G5 O O) O,G⟩ (Gc (u:=.dptr [G0 y24]) O O ⟨Gw (Gt (f:=G0) (xs:=a) (y:=y24) O O O H0 hy24 O) O,G⟩ (Gc (u:=G0 y24) O O ⟨Gw (Gh Gd O O O) O,G⟩ (Gc (u:=E1 b) O O ⟨Gw (G5 O O) O,G⟩ (Gc (u:=En i24) O O ⟨Gw (G5 O O) O,G⟩ (Gc (u:=.dptr [G0 y29]) O O ⟨Gw (Gt (f:=G0) (xs:=b) (y:=y29) O O O H0 hy29 hm30) O,G⟩ (Gc (u:=G0 y29) O O ⟨Gw (Gh Gd O O O) O,G⟩ (Gc (u:=BL (decide (y24≠y29))) O O ⟨Gw (G5c O O O) O,G⟩ (Yz (hK28 _ _ (Gn O (fun hb=>?_) (fun hb=>?_)))))))))))))
   ·
    replace h:=Gz hb h
    refine G7 fun K31 hK31=>G2 (JLh (BL false) (G9 O O) O (G8 (hK31 _ _ (Gu (⟨[BL false],[],G,O,⟨⟨_,O,.conv (.same O)⟩,G⟩,O,congrArg (fun r:Bool=>(BL r:AV)) (Option.some.inj h)⟩)))))
   ·
    replace h:=Hv hb h
    refine Gp (hK27 _ _ (G2 (JLh (En i24) (G5 O O) O (JLh (G0 ((i24+1:Nat):Int)) (Hy (He hk24 hm13) O O O) O (JLh (G0 ((i24+1:Nat):Int)) (G9 O O) O (G8 (e24 _ _ (i24+1) () (app1 hn24 h) (by omega) ⟨⟨.same rfl,.same rfl,.same rfl,G⟩,G,rfl⟩)))))))
  ·
   have h:=app1 hkx24 (Ho hi24 (H9 hb))
   refine Hk (hK5 _ _ (G7 fun K32 hK32=>G2 (JLh (BL true) (G9 O O) O (G8 (hK32 _ _ (Gu (⟨[BL true],[],G,O,⟨⟨_,O,.conv (.same O)⟩,G⟩,O,congrArg (fun r:Bool=>(BL r:AV)) (Option.some.inj h)⟩)))))))

def Jj (a:G4) (b:G4):Option Bool:=
 bnd (bif ((((((((decide (a.Bay=b.Bay))&&(decide (a.Row=b.Row)))&&(a.Deck==b.Deck))&&(decide (a.Tiers=b.Tiers)))&&(decide (a.Height=b.Height)))&&(decide (a.Kilos20=b.Kilos20)))&&(decide (a.Kilos40=b.Kilos40)))&&(decide (a.Lash=b.Lash))) then J9 a.Plugs b.Plugs else some default) fun r3=>
 some ((((((((((((decide (a.Bay=b.Bay))&&(decide (a.Row=b.Row)))&&(a.Deck==b.Deck))&&(decide (a.Tiers=b.Tiers)))&&(decide (a.Height=b.Height)))&&(decide (a.Kilos20=b.Kilos20)))&&(decide (a.Kilos40=b.Kilos40)))&&(decide (a.Lash=b.Lash)))&&r3)&&(decide (a.X=b.X)))&&(decide (a.Y=b.Y)))&&(decide (a.Z=b.Z)))
theorem G0a (a:G4) (b:G4) (r:Bool) (h:Jj a b=some r):Pure Tryz.prog 181 [.agg (G4.cs a),.agg (G4.cs b)] (·=BL r):=by
 unfold Jj at h
 refine H1 [.tmp 4] Tryz.func181 O O (G7 fun K1 hK1=>G2 (JLh (.ptr 1122 0) (Jy (u:=.agg (G4.cs a)) (cs:=(G4.cs a)) 1122 O O O O O) O (JLh (.ptr 1123 0) (Jy (u:=.agg (G4.cs b)) (cs:=(G4.cs b)) 1123 O O O O O) O (JLh (BL false) (G9 O O) O (G8 (hK1 _ _ ?_))))))
 refine Gx [(2,Eh a),(3,.ptr 1123 0)] [(1123,.box 112 (G4.cs b))] 1122 rfl rfl rfl ⟨⟨_,rfl,.boxEq rfl rfl⟩,G⟩ rfl (by exact⟨.ptr,.conv (.same rfl),G⟩) (Gx [(2,Eh a),(3,Eh b)] [] 1123 rfl rfl rfl G rfl (by exact⟨.conv (.same rfl),.ptr,G⟩) (G7 fun K2 hK2=>G2 (JLh (Eh a) (Gb Z4 O O O) O (JLh (G0 a.Bay) (Gh Gd O O O) O (JLh (Eh b) (Gb Z4 O O O) O (JLh (G0 b.Bay) (Gh Gd O O O) O (JLh (BL (decide (a.Bay=b.Bay))) (Jx O O O) O (JLh (BL (decide (a.Bay=b.Bay))) (G5 O O) O ?_))))))))
 refine Ga (u:=.dptr ((G4.cs a).drop 1)) [] O O O .sct G (fun hc=>Gb Z3 O O O) ?_
 refine Ga (u:=G0 a.Row) [(11,.dptr ((G4.cs a).drop 1))] O O O .sct ⟨.all id,G⟩ (fun hc=>Gh Gd O O O) ?_
 refine Ga (u:=.dptr ((G4.cs b).drop 1)) [] O O O .sct G (fun hc=>Gb Z3 O O O) ?_
 refine Ga (u:=G0 b.Row) [(13,.dptr ((G4.cs b).drop 1))] O O O .sct ⟨.all id,G⟩ (fun hc=>Gh Gd O O O) ?_
 refine Ga (u:=BL (decide (a.Row=b.Row))) [(12,G0 a.Row),(14,G0 b.Row)] O O O .sct ⟨.all id,.all id,G⟩ (fun hc=>Jx O O O) ?_
 refine JLh (BL ((decide (a.Bay=b.Bay))&&(decide (a.Row=b.Row)))) (Hx O O O O) O (JLh (BL ((decide (a.Bay=b.Bay))&&(decide (a.Row=b.Row)))) (G5 O O) O (Ga (u:=.dptr ((G4.cs a).drop 2)) [] O O O .sct G (fun hc=>Gb Z2 O O O) ?_))
 refine Ga (u:=BL a.Deck) [(18,.dptr ((G4.cs a).drop 2))] O O O .sct ⟨.all id,G⟩ (fun hc=>Gh Rq O O O) ?_
 refine Ga (u:=.dptr ((G4.cs b).drop 2)) [] O O O .sct G (fun hc=>Gb Z2 O O O) ?_
 refine Ga (u:=BL b.Deck) [(20,.dptr ((G4.cs b).drop 2))] O O O .sct ⟨.all id,G⟩ (fun hc=>Gh Rq O O O) ?_
 refine Ga (u:=BL (a.Deck==b.Deck)) [(19,BL a.Deck),(21,BL b.Deck)] O O O .sct ⟨.all id,.all id,G⟩ (fun hc=>Jeb H9b O O O) ?_
 refine JLh (BL (((decide (a.Bay=b.Bay))&&(decide (a.Row=b.Row)))&&(a.Deck==b.Deck))) (Hx O O O O) O (JLh (BL (((decide (a.Bay=b.Bay))&&(decide (a.Row=b.Row)))&&(a.Deck==b.Deck))) (G5 O O) O (Ga (u:=.dptr ((G4.cs a).drop 3)) [] O O O .sct G (fun hc=>Gb Z1 O O O) ?_))
 refine Ga (u:=G0 a.Tiers) [(25,.dptr ((G4.cs a).drop 3))] O O O .sct ⟨.all id,G⟩ (fun hc=>Gh Gd O O O) ?_
 refine Ga (u:=.dptr ((G4.cs b).drop 3)) [] O O O .sct G (fun hc=>Gb Z1 O O O) ?_
 refine Ga (u:=G0 b.Tiers) [(27,.dptr ((G4.cs b).drop 3))] O O O .sct ⟨.all id,G⟩ (fun hc=>Gh Gd O O O) ?_
 refine Ga (u:=BL (decide (a.Tiers=b.Tiers))) [(26,G0 a.Tiers),(28,G0 b.Tiers)] O O O .sct ⟨.all id,.all id,G⟩ (fun hc=>Jx O O O) ?_
 refine JLh (BL ((((decide (a.Bay=b.Bay))&&(decide (a.Row=b.Row)))&&(a.Deck==b.Deck))&&(decide (a.Tiers=b.Tiers)))) (Hx O O O O) O (JLh (BL ((((decide (a.Bay=b.Bay))&&(decide (a.Row=b.Row)))&&(a.Deck==b.Deck))&&(decide (a.Tiers=b.Tiers)))) (G5 O O) O (Ga (u:=.dptr ((G4.cs a).drop 4)) [] O O O .sct G (fun hc=>Gb Zu O O O) ?_))
 refine Ga (u:=G0 a.Height) [(32,.dptr ((G4.cs a).drop 4))] O O O .sct ⟨.all id,G⟩ (fun hc=>Gh Gd O O O) ?_
 refine Ga (u:=.dptr ((G4.cs b).drop 4)) [] O O O .sct G (fun hc=>Gb Zu O O O) ?_
 refine Ga (u:=G0 b.Height) [(34,.dptr ((G4.cs b).drop 4))] O O O .sct ⟨.all id,G⟩ (fun hc=>Gh Gd O O O) ?_
 refine Ga (u:=BL (decide (a.Height=b.Height))) [(33,G0 a.Height),(35,G0 b.Height)] O O O .sct ⟨.all id,.all id,G⟩ (fun hc=>Jx O O O) ?_
 refine JLh (BL (((((decide (a.Bay=b.Bay))&&(decide (a.Row=b.Row)))&&(a.Deck==b.Deck))&&(decide (a.Tiers=b.Tiers)))&&(decide (a.Height=b.Height)))) (Hx O O O O) O (JLh (BL (((((decide (a.Bay=b.Bay))&&(decide (a.Row=b.Row)))&&(a.Deck==b.Deck))&&(decide (a.Tiers=b.Tiers)))&&(decide (a.Height=b.Height)))) (G5 O O) O (Ga (u:=.dptr ((G4.cs a).drop 5)) [] O O O .sct G (fun hc=>Gb G93 O O O) ?_))
 refine Ga (u:=G0 a.Kilos20) [(39,.dptr ((G4.cs a).drop 5))] O O O .sct ⟨.all id,G⟩ (fun hc=>Gh Gd O O O) ?_
 refine Ga (u:=.dptr ((G4.cs b).drop 5)) [] O O O .sct G (fun hc=>Gb G93 O O O) ?_
 refine Ga (u:=G0 b.Kilos20) [(41,.dptr ((G4.cs b).drop 5))] O O O .sct ⟨.all id,G⟩ (fun hc=>Gh Gd O O O) ?_
 refine Ga (u:=BL (decide (a.Kilos20=b.Kilos20))) [(40,G0 a.Kilos20),(42,G0 b.Kilos20)] O O O .sct ⟨.all id,.all id,G⟩ (fun hc=>Jx O O O) ?_
 refine JLh (BL ((((((decide (a.Bay=b.Bay))&&(decide (a.Row=b.Row)))&&(a.Deck==b.Deck))&&(decide (a.Tiers=b.Tiers)))&&(decide (a.Height=b.Height)))&&(decide (a.Kilos20=b.Kilos20)))) (Hx O O O O) O (JLh (BL ((((((decide (a.Bay=b.Bay))&&(decide (a.Row=b.Row)))&&(a.Deck==b.Deck))&&(decide (a.Tiers=b.Tiers)))&&(decide (a.Height=b.Height)))&&(decide (a.Kilos20=b.Kilos20)))) (G5 O O) O (Ga (u:=.dptr ((G4.cs a).drop 6)) [] O O O .sct G (fun hc=>Gb G92 O O O) ?_))
 refine Ga (u:=G0 a.Kilos40) [(46,.dptr ((G4.cs a).drop 6))] O O O .sct ⟨.all id,G⟩ (fun hc=>Gh Gd O O O) ?_
 refine Ga (u:=.dptr ((G4.cs b).drop 6)) [] O O O .sct G (fun hc=>Gb G92 O O O) ?_
 refine Ga (u:=G0 b.Kilos40) [(48,.dptr ((G4.cs b).drop 6))] O O O .sct ⟨.all id,G⟩ (fun hc=>Gh Gd O O O) ?_
 refine Ga (u:=BL (decide (a.Kilos40=b.Kilos40))) [(47,G0 a.Kilos40),(49,G0 b.Kilos40)] O O O .sct ⟨.all id,.all id,G⟩ (fun hc=>Jx O O O) ?_
 refine JLh (BL (((((((decide (a.Bay=b.Bay))&&(decide (a.Row=b.Row)))&&(a.Deck==b.Deck))&&(decide (a.Tiers=b.Tiers)))&&(decide (a.Height=b.Height)))&&(decide (a.Kilos20=b.Kilos20)))&&(decide (a.Kilos40=b.Kilos40)))) (Hx O O O O) O (JLh (BL (((((((decide (a.Bay=b.Bay))&&(decide (a.Row=b.Row)))&&(a.Deck==b.Deck))&&(decide (a.Tiers=b.Tiers)))&&(decide (a.Height=b.Height)))&&(decide (a.Kilos20=b.Kilos20)))&&(decide (a.Kilos40=b.Kilos40)))) (G5 O O) O (Ga (u:=.dptr ((G4.cs a).drop 7)) [] O O O .sct G (fun hc=>Gb G91 O O O) ?_))
 refine Ga (u:=G0 a.Lash) [(53,.dptr ((G4.cs a).drop 7))] O O O .sct ⟨.all id,G⟩ (fun hc=>Gh Gd O O O) ?_
 refine Ga (u:=.dptr ((G4.cs b).drop 7)) [] O O O .sct G (fun hc=>Gb G91 O O O) ?_
 refine Ga (u:=G0 b.Lash) [(55,.dptr ((G4.cs b).drop 7))] O O O .sct ⟨.all id,G⟩ (fun hc=>Gh Gd O O O) ?_
 refine Ga (u:=BL (decide (a.Lash=b.Lash))) [(54,G0 a.Lash),(56,G0 b.Lash)] O O O .sct ⟨.all id,.all id,G⟩ (fun hc=>Jx O O O) ?_
 refine JLh (BL ((((((((decide (a.Bay=b.Bay))&&(decide (a.Row=b.Row)))&&(a.Deck==b.Deck))&&(decide (a.Tiers=b.Tiers)))&&(decide (a.Height=b.Height)))&&(decide (a.Kilos20=b.Kilos20)))&&(decide (a.Kilos40=b.Kilos40)))&&(decide (a.Lash=b.Lash)))) (Hx O O O O) O (JLh (BL ((((((((decide (a.Bay=b.Bay))&&(decide (a.Row=b.Row)))&&(a.Deck==b.Deck))&&(decide (a.Tiers=b.Tiers)))&&(decide (a.Height=b.Height)))&&(decide (a.Kilos20=b.Kilos20)))&&(decide (a.Kilos40=b.Kilos40)))&&(decide (a.Lash=b.Lash)))) (G5 O O) O (Ga (u:=.dptr ((G4.cs a).drop 8)) [] O O O .sct G (fun hc=>Gb Qp O O O) ?_))
 refine Ga (u:=E1 a.Plugs) [(60,.dptr ((G4.cs a).drop 8))] O O O .sct ⟨.all id,G⟩ (fun hc=>Gh Hg O O O) ?_
 refine Ga (u:=.dptr ((G4.cs b).drop 8)) [] O O O .sct G (fun hc=>Gb Qp O O O) ?_
 refine Ga (u:=E1 b.Plugs) [(62,.dptr ((G4.cs b).drop 8))] O O O .sct ⟨.all id,G⟩ (fun hc=>Gh Hg O O O) ?_
 obtain⟨r3,hr3,h⟩:=Gf h
 refine Ga (u:=BL r3) [(61,E1 a.Plugs),(63,E1 b.Plugs)] O O O .sct ⟨.all id,.all id,G⟩ (fun hc=>Gq (args:=[E1 a.Plugs,E1 b.Plugs]) O (Q9 a.Plugs b.Plugs r3 (Gz hc hr3)) G55 ⟨O,O,O,O,G⟩) ?_
 refine JLh (BL (((((((((decide (a.Bay=b.Bay))&&(decide (a.Row=b.Row)))&&(a.Deck==b.Deck))&&(decide (a.Tiers=b.Tiers)))&&(decide (a.Height=b.Height)))&&(decide (a.Kilos20=b.Kilos20)))&&(decide (a.Kilos40=b.Kilos40)))&&(decide (a.Lash=b.Lash)))&&r3)) (Hx O O O O) O (JLh (BL (((((((((decide (a.Bay=b.Bay))&&(decide (a.Row=b.Row)))&&(a.Deck==b.Deck))&&(decide (a.Tiers=b.Tiers)))&&(decide (a.Height=b.Height)))&&(decide (a.Kilos20=b.Kilos20)))&&(decide (a.Kilos40=b.Kilos40)))&&(decide (a.Lash=b.Lash)))&&r3)) (G5 O O) O (Ga (u:=.dptr [G0 a.X,G0 a.Y,G0 a.Z]) [] O O O .sct G (fun hc=>Gb G90 O O O) ?_))
 refine Ga (u:=G0 a.X) [(67,.dptr [G0 a.X,G0 a.Y,G0 a.Z])] O O O .sct ⟨.all id,G⟩ (fun hc=>Gh Gd O O O) ?_
 refine Ga (u:=.dptr [G0 b.X,G0 b.Y,G0 b.Z]) [] O O O .sct G (fun hc=>Gb G90 O O O) ?_
 refine Ga (u:=G0 b.X) [(69,.dptr [G0 b.X,G0 b.Y,G0 b.Z])] O O O .sct ⟨.all id,G⟩ (fun hc=>Gh Gd O O O) ?_
 refine Ga (u:=BL (decide (a.X=b.X))) [(68,G0 a.X),(70,G0 b.X)] O O O .sct ⟨.all id,.all id,G⟩ (fun hc=>Jx O O O) ?_
 refine JLh (BL ((((((((((decide (a.Bay=b.Bay))&&(decide (a.Row=b.Row)))&&(a.Deck==b.Deck))&&(decide (a.Tiers=b.Tiers)))&&(decide (a.Height=b.Height)))&&(decide (a.Kilos20=b.Kilos20)))&&(decide (a.Kilos40=b.Kilos40)))&&(decide (a.Lash=b.Lash)))&&r3)&&(decide (a.X=b.X)))) (Hx O O O O) O (JLh (BL ((((((((((decide (a.Bay=b.Bay))&&(decide (a.Row=b.Row)))&&(a.Deck==b.Deck))&&(decide (a.Tiers=b.Tiers)))&&(decide (a.Height=b.Height)))&&(decide (a.Kilos20=b.Kilos20)))&&(decide (a.Kilos40=b.Kilos40)))&&(decide (a.Lash=b.Lash)))&&r3)&&(decide (a.X=b.X)))) (G5 O O) O (Ga (u:=.dptr [G0 a.Y,G0 a.Z]) [] O O O .sct G (fun hc=>Gb G7a O O O) ?_))
 refine Ga (u:=G0 a.Y) [(74,.dptr [G0 a.Y,G0 a.Z])] O O O .sct ⟨.all id,G⟩ (fun hc=>Gh Gd O O O) ?_
 refine Ga (u:=.dptr [G0 b.Y,G0 b.Z]) [] O O O .sct G (fun hc=>Gb G7a O O O) ?_
 refine Ga (u:=G0 b.Y) [(76,.dptr [G0 b.Y,G0 b.Z])] O O O .sct ⟨.all id,G⟩ (fun hc=>Gh Gd O O O) ?_
 refine Ga (u:=BL (decide (a.Y=b.Y))) [(75,G0 a.Y),(77,G0 b.Y)] O O O .sct ⟨.all id,.all id,G⟩ (fun hc=>Jx O O O) ?_
 refine JLh (BL (((((((((((decide (a.Bay=b.Bay))&&(decide (a.Row=b.Row)))&&(a.Deck==b.Deck))&&(decide (a.Tiers=b.Tiers)))&&(decide (a.Height=b.Height)))&&(decide (a.Kilos20=b.Kilos20)))&&(decide (a.Kilos40=b.Kilos40)))&&(decide (a.Lash=b.Lash)))&&r3)&&(decide (a.X=b.X)))&&(decide (a.Y=b.Y)))) (Hx O O O O) O (JLh (BL (((((((((((decide (a.Bay=b.Bay))&&(decide (a.Row=b.Row)))&&(a.Deck==b.Deck))&&(decide (a.Tiers=b.Tiers)))&&(decide (a.Height=b.Height)))&&(decide (a.Kilos20=b.Kilos20)))&&(decide (a.Kilos40=b.Kilos40)))&&(decide (a.Lash=b.Lash)))&&r3)&&(decide (a.X=b.X)))&&(decide (a.Y=b.Y)))) (G5 O O) O (Ga (u:=.dptr [G0 a.Z]) [] O O O .sct G (fun hc=>Gb G79 O O O) ?_))
 refine Ga (u:=G0 a.Z) [(81,.dptr [G0 a.Z])] O O O .sct ⟨.all id,G⟩ (fun hc=>Gh Gd O O O) ?_
 refine Ga (u:=.dptr [G0 b.Z]) [] O O O .sct G (fun hc=>Gb G79 O O O) ?_
 refine Ga (u:=G0 b.Z) [(83,.dptr [G0 b.Z])] O O O .sct ⟨.all id,G⟩ (fun hc=>Gh Gd O O O) ?_
 refine Ga (u:=BL (decide (a.Z=b.Z))) [(82,G0 a.Z),(84,G0 b.Z)] O O O .sct ⟨.all id,.all id,G⟩ (fun hc=>Jx O O O) ?_
 refine JLh (BL ((((((((((((decide (a.Bay=b.Bay))&&(decide (a.Row=b.Row)))&&(a.Deck==b.Deck))&&(decide (a.Tiers=b.Tiers)))&&(decide (a.Height=b.Height)))&&(decide (a.Kilos20=b.Kilos20)))&&(decide (a.Kilos40=b.Kilos40)))&&(decide (a.Lash=b.Lash)))&&r3)&&(decide (a.X=b.X)))&&(decide (a.Y=b.Y)))&&(decide (a.Z=b.Z)))) (Hx O O O O) O (JLh (BL ((((((((((((decide (a.Bay=b.Bay))&&(decide (a.Row=b.Row)))&&(a.Deck==b.Deck))&&(decide (a.Tiers=b.Tiers)))&&(decide (a.Height=b.Height)))&&(decide (a.Kilos20=b.Kilos20)))&&(decide (a.Kilos40=b.Kilos40)))&&(decide (a.Lash=b.Lash)))&&r3)&&(decide (a.X=b.X)))&&(decide (a.Y=b.Y)))&&(decide (a.Z=b.Z)))) (G9 O O) O (G8 (hK2 _ _ (Gu ?_))))
 exact⟨[BL ((((((((((((decide (a.Bay=b.Bay))&&(decide (a.Row=b.Row)))&&(a.Deck==b.Deck))&&(decide (a.Tiers=b.Tiers)))&&(decide (a.Height=b.Height)))&&(decide (a.Kilos20=b.Kilos20)))&&(decide (a.Kilos40=b.Kilos40)))&&(decide (a.Lash=b.Lash)))&&r3)&&(decide (a.X=b.X)))&&(decide (a.Y=b.Y)))&&(decide (a.Z=b.Z)))],[],G,O,⟨⟨_,O,.conv (.same O)⟩,G⟩,O,congrArg (fun r:Bool=>(BL r:AV)) (Option.some.inj h)⟩

def Rt (a:List G4) (b:List G4):Option Bool:=
 bif decide ((a.length:Int)≠(b.length:Int)) then
 (some false)
 else
 (each (fun y26 i26 (s26:Unit) nx26=>
   Q3 b (i26:Int) fun y31=>
   bnd (Jj y26 y31) fun r33=>
   bif (!r33) then
   (some false)
   else
   (nx26 ()))
  (fun(s26:Unit)=>
   some true) a 0 ())
theorem Gc6 (a:List G4) (b:List G4) (r:Bool) (h:Rt a b=some r):Pure Tryz.prog 175 [E3 a,E3 b] (·=BL r):=by
 unfold Rt at h
 refine H1 [.tmp 4] Tryz.func175 O O (G7 fun K1 hK1=>G2 (JLh (BL false) (G9 O O) O (G8 (hK1 _ _ (G7 (fun K2 hK2=>G7 fun K3 hK3=>G2 (JLh (E3 a) (G5 O O) O (H3 (f:=G4.av) (xs:=a) H7 O O (fun hm7=>?_) O O O))))))))
 refine JLh (E3 b) (G5 O O) O (H3 (f:=G4.av) (xs:=b) H7 O O (fun hm9=>?_) O O O)
 refine JLh (BL (decide ((a.length:Int)≠(b.length:Int)))) (G5c O O O) O (G8 (hK3 _ _ (Gn O (fun hb=>?_) (fun hb=>?_))))
 ·
  replace h:=Gz hb h
  refine G7 fun K4 hK4=>G2 (JLh (BL false) (G9 O O) O (G8 (hK4 _ _ (Gu (⟨[BL false],[],G,O,⟨⟨_,O,.conv (.same O)⟩,G⟩,O,congrArg (fun r:Bool=>(BL r:AV)) (Option.some.inj h)⟩)))))
 ·
  replace h:=Hv hb h
  refine Gp (hK2 _ _ (G7 (fun K5 hK5=>G7 fun K6 hK6=>G2 (JLh (G0 0) (G9 O O) O (G8 (hK6 _ _ (Gk ?_)))))))
  obtain⟨b26,kx26,hb26,hkx26,h⟩:=Hw h
  refine Hc (fun i26 (s26:Unit)=>each b26 kx26 (List.drop i26 a) i26 s26=some r) (fun i26 s26=>[(0,E3 a),(1,E3 b),(5,En i26)]) (fun i26 s26=>[]) (fun i26=>a.length - i26) 0 () h ⟨⟨.same O,.same O,.same O,G⟩,G,O⟩ ?_
  clear h
  intro i26 s26 hi26 K26 e26
  refine G7 (fun K27 hK27=>G7 fun K28 hK28=>G2 (JLh (En i26) (G5 O O) O (JLh (E3 a) (G5 O O) O (H3 (f:=G4.av) (xs:=a) H7 O O (fun hm13=>?_) O O O))))
  refine JLh (BL (decide ((i26:Int) < (a.length:Int)))) (J2 O O O) O (G8 (hK28 _ _ (Gn O (fun hb=>?_) (fun hb=>?_))))
  ·
   have hk26:=Jc hb
   obtain⟨y26,nx26,hy26,hn26,h⟩:=Hn hi26 hk26
   replace h:=Yb hb26 h
   refine Gp (hK27 _ _ (G7 (fun K29 hK29=>Gk (G7 (fun K30 hK30=>?_)))))
   obtain⟨m32,y31,hm32,hy31,h⟩:=Y3 h
   obtain⟨r33,hr33,h⟩:=Gf h
   refine Q6 [] [0,0,0,0,0,0,0,0,0,0] [0,0,0,0,0,0,0,0,0,0] [[]] Jk (by kernel_rfl) rfl rfl ?_
   refine Gc (u:=E3 a) O O ⟨Gw (G5 O O) O,G⟩ (Gc (u:=En i26) O O ⟨Gw (G5 O O) O,G⟩ (Gc (u:=Eh y26) O O ⟨Gw (Gt (f:=G4.av) (xs:=a) (y:=y26) O O O H7 hy26 O) O,G⟩ (Gc (u:=.agg (G4.cs y26)) O O ⟨Gw (Gj Rr O O O) O,G⟩ (Gc (u:=E3 b) O O ⟨Gw (G5 O O) O,G⟩ (Gc (u:=En i26) O O ⟨Gw (G5 O O) O,G⟩ (Gc (u:=Eh y31) O O ⟨Gw (Gt (f:=G4.av) (xs:=b) (y:=y31) O O O H7 hy31 hm32) O,G⟩ (Gc (u:=.agg (G4.cs y31)) O O ⟨Gw (Gj Rr O O O) O,G⟩ (Gc (u:=BL r33) O O ⟨Gw (Gq (args:=[.agg (G4.cs y26),.agg (G4.cs y31)]) O (G0a y26 y31 r33 hr33) H7a ⟨O,O,O,O,G⟩) O,G⟩ (Gc (u:=BL (!r33)) O O ⟨Gw (Qv (b:=r33) O O) O,G⟩ (Yz ?_))))))))))
   refine hK30 _ _ (Gn O (fun hb=>?_) (fun hb=>?_))
   ·
    replace h:=Gz hb h
    refine G7 fun K34 hK34=>G2 (JLh (BL false) (G9 O O) O (G8 (hK34 _ _ (Gu (⟨[BL false],[],G,O,⟨⟨_,O,.conv (.same O)⟩,G⟩,O,congrArg (fun r:Bool=>(BL r:AV)) (Option.some.inj h)⟩)))))
   ·
    replace h:=Hv hb h
    refine Gp (hK29 _ _ (G2 (JLh (En i26) (G5 O O) O (JLh (G0 ((i26+1:Nat):Int)) (Hy (He hk26 hm13) O O O) O (JLh (G0 ((i26+1:Nat):Int)) (G9 O O) O (G8 (e26 _ _ (i26+1) () (app1 hn26 h) (by omega) ⟨⟨.same rfl,.same rfl,.same rfl,G⟩,G,rfl⟩)))))))
  ·
   have h:=app1 hkx26 (Ho hi26 (H9 hb))
   refine Hk (hK5 _ _ (G7 fun K35 hK35=>G2 (JLh (BL true) (G9 O O) O (G8 (hK35 _ _ (Gu (⟨[BL true],[],G,O,⟨⟨_,O,.conv (.same O)⟩,G⟩,O,congrArg (fun r:Bool=>(BL r:AV)) (Option.some.inj h)⟩)))))))

def Jp (a:Gg) (b:Gg):Option Bool:=
 bnd (bif decide (a.Bay=b.Bay) then J9 a.Rows b.Rows else some default) fun r3=>
 some ((decide (a.Bay=b.Bay))&&r3)
theorem G17 (a:Gg) (b:Gg) (r:Bool) (h:Jp a b=some r):Pure Tryz.prog 183 [.agg [G0 a.Bay,E1 a.Rows],.agg [G0 b.Bay,E1 b.Rows]] (·=BL r):=by
 unfold Jp at h
 refine H1 [.tmp 4] Tryz.func183 O O (G7 fun K1 hK1=>G2 (JLh (.ptr 1126 0) (Jy (u:=.agg [G0 a.Bay,E1 a.Rows]) (cs:=[G0 a.Bay,E1 a.Rows]) 1126 O O O O O) O (JLh (.ptr 1127 0) (Jy (u:=.agg [G0 b.Bay,E1 b.Rows]) (cs:=[G0 b.Bay,E1 b.Rows]) 1127 O O O O O) O (JLh (BL false) (G9 O O) O (G8 (hK1 _ _ (Gx [(2,.dptr [G0 a.Bay,E1 a.Rows]),(3,.ptr 1127 0)] [(1127,.box 114 [G0 b.Bay,E1 b.Rows])] 1126 rfl rfl rfl ⟨⟨_,rfl,.boxEq rfl rfl⟩,G⟩ rfl (by exact⟨.ptr,.conv (.same rfl),G⟩) (Gx [(2,.dptr [G0 a.Bay,E1 a.Rows]),(3,.dptr [G0 b.Bay,E1 b.Rows])] [] 1127 rfl rfl rfl G rfl (by exact⟨.conv (.same rfl),.ptr,G⟩) ?_))))))))
 refine G7 fun K2 hK2=>G2 (JLh (.dptr [G0 a.Bay,E1 a.Rows]) (Gb Yf O O O) O (JLh (G0 a.Bay) (Gh Gd O O O) O (JLh (.dptr [G0 b.Bay,E1 b.Rows]) (Gb Yf O O O) O (JLh (G0 b.Bay) (Gh Gd O O O) O (JLh (BL (decide (a.Bay=b.Bay))) (Jx O O O) O (JLh (BL (decide (a.Bay=b.Bay))) (G5 O O) O (Ga (u:=.dptr [E1 a.Rows]) [] O O O .sct G (fun hc=>Gb Jr O O O) ?_)))))))
 refine Ga (u:=E1 a.Rows) [(11,.dptr [E1 a.Rows])] O O O .sct ⟨.all id,G⟩ (fun hc=>Gh Hg O O O) ?_
 refine Ga (u:=.dptr [E1 b.Rows]) [] O O O .sct G (fun hc=>Gb Jr O O O) ?_
 refine Ga (u:=E1 b.Rows) [(13,.dptr [E1 b.Rows])] O O O .sct ⟨.all id,G⟩ (fun hc=>Gh Hg O O O) ?_
 obtain⟨r3,hr3,h⟩:=Gf h
 refine Ga (u:=BL r3) [(12,E1 a.Rows),(14,E1 b.Rows)] O O O .sct ⟨.all id,.all id,G⟩ (fun hc=>Gq (args:=[E1 a.Rows,E1 b.Rows]) O (Q9 a.Rows b.Rows r3 (Gz hc hr3)) G55 ⟨O,O,O,O,G⟩) ?_
 refine JLh (BL ((decide (a.Bay=b.Bay))&&r3)) (Hx O O O O) O (JLh (BL ((decide (a.Bay=b.Bay))&&r3)) (G9 O O) O (G8 (hK2 _ _ (Gu (⟨[BL ((decide (a.Bay=b.Bay))&&r3)],[],G,O,⟨⟨_,O,.conv (.same O)⟩,G⟩,O,congrArg (fun r:Bool=>(BL r:AV)) (Option.some.inj h)⟩)))))

def Y6 (a:List Gg) (b:List Gg):Option Bool:=
 bif decide ((a.length:Int)≠(b.length:Int)) then
 (some false)
 else
 (each (fun y26 i26 (s26:Unit) nx26=>
   Q3 b (i26:Int) fun y31=>
   bnd (Jp y26 y31) fun r33=>
   bif (!r33) then
   (some false)
   else
   (nx26 ()))
  (fun(s26:Unit)=>
   some true) a 0 ())
theorem Gd2 (a:List Gg) (b:List Gg) (r:Bool) (h:Y6 a b=some r):Pure Tryz.prog 176 [E4 a,E4 b] (·=BL r):=by
 unfold Y6 at h
 refine H1 [.tmp 4] Tryz.func176 O O (G7 fun K1 hK1=>G2 (JLh (BL false) (G9 O O) O (G8 (hK1 _ _ (G7 (fun K2 hK2=>G7 fun K3 hK3=>G2 (JLh (E4 a) (G5 O O) O (H3 (f:=Gg.av) (xs:=a) Hp O O (fun hm7=>?_) O O O))))))))
 refine JLh (E4 b) (G5 O O) O (H3 (f:=Gg.av) (xs:=b) Hp O O (fun hm9=>?_) O O O)
 refine JLh (BL (decide ((a.length:Int)≠(b.length:Int)))) (G5c O O O) O (G8 (hK3 _ _ (Gn O (fun hb=>?_) (fun hb=>?_))))
 ·
  replace h:=Gz hb h
  refine G7 fun K4 hK4=>G2 (JLh (BL false) (G9 O O) O (G8 (hK4 _ _ (Gu (⟨[BL false],[],G,O,⟨⟨_,O,.conv (.same O)⟩,G⟩,O,congrArg (fun r:Bool=>(BL r:AV)) (Option.some.inj h)⟩)))))
 ·
  replace h:=Hv hb h
  refine Gp (hK2 _ _ (G7 (fun K5 hK5=>G7 fun K6 hK6=>G2 (JLh (G0 0) (G9 O O) O (G8 (hK6 _ _ (Gk ?_)))))))
  obtain⟨b26,kx26,hb26,hkx26,h⟩:=Hw h
  refine Hc (fun i26 (s26:Unit)=>each b26 kx26 (List.drop i26 a) i26 s26=some r) (fun i26 s26=>[(0,E4 a),(1,E4 b),(5,En i26)]) (fun i26 s26=>[]) (fun i26=>a.length - i26) 0 () h ⟨⟨.same O,.same O,.same O,G⟩,G,O⟩ ?_
  clear h
  intro i26 s26 hi26 K26 e26
  refine G7 (fun K27 hK27=>G7 fun K28 hK28=>G2 (JLh (En i26) (G5 O O) O (JLh (E4 a) (G5 O O) O (H3 (f:=Gg.av) (xs:=a) Hp O O (fun hm13=>?_) O O O))))
  refine JLh (BL (decide ((i26:Int) < (a.length:Int)))) (J2 O O O) O (G8 (hK28 _ _ (Gn O (fun hb=>?_) (fun hb=>?_))))
  ·
   have hk26:=Jc hb
   obtain⟨y26,nx26,hy26,hn26,h⟩:=Hn hi26 hk26
   replace h:=Yb hb26 h
   refine Gp (hK27 _ _ (G7 (fun K29 hK29=>Gk (G7 (fun K30 hK30=>?_)))))
   obtain⟨m32,y31,hm32,hy31,h⟩:=Y3 h
   obtain⟨r33,hr33,h⟩:=Gf h
   refine Q6 [] [0,0,0,0,0,0,0,0,0,0] [0,0,0,0,0,0,0,0,0,0] [[]] Jk (by kernel_rfl) rfl rfl ?_
   refine Gc (u:=E4 a) O O ⟨Gw (G5 O O) O,G⟩ (Gc (u:=En i26) O O ⟨Gw (G5 O O) O,G⟩ (Gc (u:=.dptr [G0 y26.Bay,E1 y26.Rows]) O O ⟨Gw (Gt (f:=Gg.av) (xs:=a) (y:=y26) O O O Hp hy26 O) O,G⟩ (Gc (u:=.agg [G0 y26.Bay,E1 y26.Rows]) O O ⟨Gw (Gj Rh O O O) O,G⟩ (Gc (u:=E4 b) O O ⟨Gw (G5 O O) O,G⟩ (Gc (u:=En i26) O O ⟨Gw (G5 O O) O,G⟩ (Gc (u:=.dptr [G0 y31.Bay,E1 y31.Rows]) O O ⟨Gw (Gt (f:=Gg.av) (xs:=b) (y:=y31) O O O Hp hy31 hm32) O,G⟩ (Gc (u:=.agg [G0 y31.Bay,E1 y31.Rows]) O O ⟨Gw (Gj Rh O O O) O,G⟩ (Gc (u:=BL r33) O O ⟨Gw (Gq (args:=[.agg [G0 y26.Bay,E1 y26.Rows],.agg [G0 y31.Bay,E1 y31.Rows]]) O (G17 y26 y31 r33 hr33) H79 ⟨O,O,O,O,G⟩) O,G⟩ (Gc (u:=BL (!r33)) O O ⟨Gw (Qv (b:=r33) O O) O,G⟩ (Yz ?_))))))))))
   refine hK30 _ _ (Gn O (fun hb=>?_) (fun hb=>?_))
   ·
    replace h:=Gz hb h
    refine G7 fun K34 hK34=>G2 (JLh (BL false) (G9 O O) O (G8 (hK34 _ _ (Gu (⟨[BL false],[],G,O,⟨⟨_,O,.conv (.same O)⟩,G⟩,O,congrArg (fun r:Bool=>(BL r:AV)) (Option.some.inj h)⟩)))))
   ·
    replace h:=Hv hb h
    refine Gp (hK29 _ _ (G2 (JLh (En i26) (G5 O O) O (JLh (G0 ((i26+1:Nat):Int)) (Hy (He hk26 hm13) O O O) O (JLh (G0 ((i26+1:Nat):Int)) (G9 O O) O (G8 (e26 _ _ (i26+1) () (app1 hn26 h) (by omega) ⟨⟨.same rfl,.same rfl,.same rfl,G⟩,G,rfl⟩)))))))
  ·
   have h:=app1 hkx26 (Ho hi26 (H9 hb))
   refine Hk (hK5 _ _ (G7 fun K35 hK35=>G2 (JLh (BL true) (G9 O O) O (G8 (hK35 _ _ (Gu (⟨[BL true],[],G,O,⟨⟨_,O,.conv (.same O)⟩,G⟩,O,congrArg (fun r:Bool=>(BL r:AV)) (Option.some.inj h)⟩)))))))

def Yt (a:List Row) (b:List Row):Option Bool:=
 bif decide ((a.length:Int)≠(b.length:Int)) then
 (some false)
 else
 (each (fun y24 i24 (s24:Unit) nx24=>
   Q3 b (i24:Int) fun y29=>
   bif (!decide (y24=y29)) then
   (some false)
   else
   (nx24 ()))
  (fun(s24:Unit)=>
   some true) a 0 ())
theorem H06 (a:List Row) (b:List Row) (r:Bool) (h:Yt a b=some r):Pure Tryz.prog 177 [E6 a,E6 b] (·=BL r):=by
 unfold Yt at h
 refine H1 [.tmp 4] Tryz.func177 O O (G7 fun K1 hK1=>G2 (JLh (BL false) (G9 O O) O (G8 (hK1 _ _ (G7 (fun K2 hK2=>G7 fun K3 hK3=>G2 (JLh (E6 a) (G5 O O) O (H3 (f:=Row.av) (xs:=a) Q1 O O (fun hm7=>?_) O O O))))))))
 refine JLh (E6 b) (G5 O O) O (H3 (f:=Row.av) (xs:=b) Q1 O O (fun hm9=>?_) O O O)
 refine JLh (BL (decide ((a.length:Int)≠(b.length:Int)))) (G5c O O O) O (G8 (hK3 _ _ (Gn O (fun hb=>?_) (fun hb=>?_))))
 ·
  replace h:=Gz hb h
  refine G7 fun K4 hK4=>G2 (JLh (BL false) (G9 O O) O (G8 (hK4 _ _ (Gu (⟨[BL false],[],G,O,⟨⟨_,O,.conv (.same O)⟩,G⟩,O,congrArg (fun r:Bool=>(BL r:AV)) (Option.some.inj h)⟩)))))
 ·
  replace h:=Hv hb h
  refine Gp (hK2 _ _ (G7 (fun K5 hK5=>G7 fun K6 hK6=>G2 (JLh (G0 0) (G9 O O) O (G8 (hK6 _ _ (Gk ?_)))))))
  obtain⟨b24,kx24,hb24,hkx24,h⟩:=Hw h
  refine Hc (fun i24 (s24:Unit)=>each b24 kx24 (List.drop i24 a) i24 s24=some r) (fun i24 s24=>[(0,E6 a),(1,E6 b),(5,En i24)]) (fun i24 s24=>[]) (fun i24=>a.length - i24) 0 () h ⟨⟨.same O,.same O,.same O,G⟩,G,O⟩ ?_
  clear h
  intro i24 s24 hi24 K24 e24
  refine G7 (fun K25 hK25=>G7 fun K26 hK26=>G2 (JLh (En i24) (G5 O O) O (JLh (E6 a) (G5 O O) O (H3 (f:=Row.av) (xs:=a) Q1 O O (fun hm13=>?_) O O O))))
  refine JLh (BL (decide ((i24:Int) < (a.length:Int)))) (J2 O O O) O (G8 (hK26 _ _ (Gn O (fun hb=>?_) (fun hb=>?_))))
  ·
   have hk24:=Jc hb
   obtain⟨y24,nx24,hy24,hn24,h⟩:=Hn hi24 hk24
   replace h:=Yb hb24 h
   refine Gp (hK25 _ _ (G7 (fun K27 hK27=>Gk (G7 (fun K28 hK28=>?_)))))
   obtain⟨m30,y29,hm30,hy29,h⟩:=Y3 h
   refine Q6 [] [0,0,0,0,0,0,0,0,0] [0,0,0,0,0,0,0,0,0] [[]] Jk (by kernel_rfl) rfl rfl ?_
   refine Gc (u:=E6 a) O O ⟨Gw (G5 O O) O,G⟩ (Gc (u:=En i24) O O ⟨Gw (G5 O O) O,G⟩ (Gc (u:=Ek y24) O O ⟨Gw (Gt (f:=Row.av) (xs:=a) (y:=y24) O O O Q1 hy24 O) O,G⟩ (Gc (u:=.agg (Row.cs y24)) O O ⟨Gw (Gj Ga5 O O O) O,G⟩ (Gc (u:=E6 b) O O ⟨Gw (G5 O O) O,G⟩ (Gc (u:=En i24) O O ⟨Gw (G5 O O) O,G⟩ (Gc (u:=Ek y29) O O ⟨Gw (Gt (f:=Row.av) (xs:=b) (y:=y29) O O O Q1 hy29 hm30) O,G⟩ (Gc (u:=.agg (Row.cs y29)) O O ⟨Gw (Gj Ga5 O O O) O,G⟩ (Gc (u:=BL (!decide (y24=y29))) O O ⟨Gw (Hf2 (vs:=[.int .i64 y24.Draught,.int .i64 y24.Kilos,.int .i64 y24.Buoy,.int .i64 y24.Metacentre,.int .i64 y24.H8d]) (us:=[.int .i64 y29.Draught,.int .i64 y29.Kilos,.int .i64 y29.Buoy,.int .i64 y29.Metacentre,.int .i64 y29.H8d]) 4 O (tq_228 y24 y29) H4a Hba O O O) O,G⟩ (Yz ?_)))))))))
   refine hK28 _ _ (Gn O (fun hb=>?_) (fun hb=>?_))
   ·
    replace h:=Gz hb h
    refine G7 fun K31 hK31=>G2 (JLh (BL false) (G9 O O) O (G8 (hK31 _ _ (Gu (⟨[BL false],[],G,O,⟨⟨_,O,.conv (.same O)⟩,G⟩,O,congrArg (fun r:Bool=>(BL r:AV)) (Option.some.inj h)⟩)))))
   ·
    replace h:=Hv hb h
    refine Gp (hK27 _ _ (G2 (JLh (En i24) (G5 O O) O (JLh (G0 ((i24+1:Nat):Int)) (Hy (He hk24 hm13) O O O) O (JLh (G0 ((i24+1:Nat):Int)) (G9 O O) O (G8 (e24 _ _ (i24+1) () (app1 hn24 h) (by omega) ⟨⟨.same rfl,.same rfl,.same rfl,G⟩,G,rfl⟩)))))))
  ·
   have h:=app1 hkx24 (Ho hi24 (H9 hb))
   refine Hk (hK5 _ _ (G7 fun K32 hK32=>G2 (JLh (BL true) (G9 O O) O (G8 (hK32 _ _ (Gu (⟨[BL true],[],G,O,⟨⟨_,O,.conv (.same O)⟩,G⟩,O,congrArg (fun r:Bool=>(BL r:AV)) (Option.some.inj h)⟩)))))))

def Y5 (a:List Frame) (b:List Frame):Option Bool:=
 bif decide ((a.length:Int)≠(b.length:Int)) then
 (some false)
 else
 (each (fun y24 i24 (s24:Unit) nx24=>
   Q3 b (i24:Int) fun y29=>
   bif (!decide (y24=y29)) then
   (some false)
   else
   (nx24 ()))
  (fun(s24:Unit)=>
   some true) a 0 ())
theorem Gd1 (a:List Frame) (b:List Frame) (r:Bool) (h:Y5 a b=some r):Pure Tryz.prog 178 [E5 a,E5 b] (·=BL r):=by
 unfold Y5 at h
 refine H1 [.tmp 4] Tryz.func178 O O (G7 fun K1 hK1=>G2 (JLh (BL false) (G9 O O) O (G8 (hK1 _ _ (G7 (fun K2 hK2=>G7 fun K3 hK3=>G2 (JLh (E5 a) (G5 O O) O (H3 (f:=Frame.av) (xs:=a) Q0 O O (fun hm7=>?_) O O O))))))))
 refine JLh (E5 b) (G5 O O) O (H3 (f:=Frame.av) (xs:=b) Q0 O O (fun hm9=>?_) O O O)
 refine JLh (BL (decide ((a.length:Int)≠(b.length:Int)))) (G5c O O O) O (G8 (hK3 _ _ (Gn O (fun hb=>?_) (fun hb=>?_))))
 ·
  replace h:=Gz hb h
  refine G7 fun K4 hK4=>G2 (JLh (BL false) (G9 O O) O (G8 (hK4 _ _ (Gu (⟨[BL false],[],G,O,⟨⟨_,O,.conv (.same O)⟩,G⟩,O,congrArg (fun r:Bool=>(BL r:AV)) (Option.some.inj h)⟩)))))
 ·
  replace h:=Hv hb h
  refine Gp (hK2 _ _ (G7 (fun K5 hK5=>G7 fun K6 hK6=>G2 (JLh (G0 0) (G9 O O) O (G8 (hK6 _ _ (Gk ?_)))))))
  obtain⟨b24,kx24,hb24,hkx24,h⟩:=Hw h
  refine Hc (fun i24 (s24:Unit)=>each b24 kx24 (List.drop i24 a) i24 s24=some r) (fun i24 s24=>[(0,E5 a),(1,E5 b),(5,En i24)]) (fun i24 s24=>[]) (fun i24=>a.length - i24) 0 () h ⟨⟨.same O,.same O,.same O,G⟩,G,O⟩ ?_
  clear h
  intro i24 s24 hi24 K24 e24
  refine G7 (fun K25 hK25=>G7 fun K26 hK26=>G2 (JLh (En i24) (G5 O O) O (JLh (E5 a) (G5 O O) O (H3 (f:=Frame.av) (xs:=a) Q0 O O (fun hm13=>?_) O O O))))
  refine JLh (BL (decide ((i24:Int) < (a.length:Int)))) (J2 O O O) O (G8 (hK26 _ _ (Gn O (fun hb=>?_) (fun hb=>?_))))
  ·
   have hk24:=Jc hb
   obtain⟨y24,nx24,hy24,hn24,h⟩:=Hn hi24 hk24
   replace h:=Yb hb24 h
   refine Gp (hK25 _ _ (G7 (fun K27 hK27=>Gk (G7 (fun K28 hK28=>?_)))))
   obtain⟨m30,y29,hm30,hy29,h⟩:=Y3 h
   refine Q6 [] [0,0,0,0,0,0,0,0,0] [0,0,0,0,0,0,0,0,0] [[]] Jk (by kernel_rfl) rfl rfl ?_
   refine Gc (u:=E5 a) O O ⟨Gw (G5 O O) O,G⟩ (Gc (u:=En i24) O O ⟨Gw (G5 O O) O,G⟩ (Gc (u:=Em y24) O O ⟨Gw (Gt (f:=Frame.av) (xs:=a) (y:=y24) O O O Q0 hy24 O) O,G⟩ (Gc (u:=.agg (Frame.cs y24)) O O ⟨Gw (Gj Ga4 O O O) O,G⟩ (Gc (u:=E5 b) O O ⟨Gw (G5 O O) O,G⟩ (Gc (u:=En i24) O O ⟨Gw (G5 O O) O,G⟩ (Gc (u:=Em y29) O O ⟨Gw (Gt (f:=Frame.av) (xs:=b) (y:=y29) O O O Q0 hy29 hm30) O,G⟩ (Gc (u:=.agg (Frame.cs y29)) O O ⟨Gw (Gj Ga4 O O O) O,G⟩ (Gc (u:=BL (!decide (y24=y29))) O O ⟨Gw (Hf2 (vs:=[.int .i64 y24.X,.int .i64 y24.Light,.int .i64 y24.Share,.int .i64 y24.Shear,.int .i64 y24.Bend]) (us:=[.int .i64 y29.X,.int .i64 y29.Light,.int .i64 y29.Share,.int .i64 y29.Shear,.int .i64 y29.Bend]) 4 O (tq_231 y24 y29) H49 Hb9 O O O) O,G⟩ (Yz ?_)))))))))
   refine hK28 _ _ (Gn O (fun hb=>?_) (fun hb=>?_))
   ·
    replace h:=Gz hb h
    refine G7 fun K31 hK31=>G2 (JLh (BL false) (G9 O O) O (G8 (hK31 _ _ (Gu (⟨[BL false],[],G,O,⟨⟨_,O,.conv (.same O)⟩,G⟩,O,congrArg (fun r:Bool=>(BL r:AV)) (Option.some.inj h)⟩)))))
   ·
    replace h:=Hv hb h
    refine Gp (hK27 _ _ (G2 (JLh (En i24) (G5 O O) O (JLh (G0 ((i24+1:Nat):Int)) (Hy (He hk24 hm13) O O O) O (JLh (G0 ((i24+1:Nat):Int)) (G9 O O) O (G8 (e24 _ _ (i24+1) () (app1 hn24 h) (by omega) ⟨⟨.same rfl,.same rfl,.same rfl,G⟩,G,rfl⟩)))))))
  ·
   have h:=app1 hkx24 (Ho hi24 (H9 hb))
   refine Hk (hK5 _ _ (G7 fun K32 hK32=>G2 (JLh (BL true) (G9 O O) O (G8 (hK32 _ _ (Gu (⟨[BL true],[],G,O,⟨⟨_,O,.conv (.same O)⟩,G⟩,O,congrArg (fun r:Bool=>(BL r:AV)) (Option.some.inj h)⟩)))))))

def Jt (a:Gr) (b:Gr):Option Bool:=
 bnd (bif (((((decide (a.Kilos=b.Kilos))&&(decide (a.X=b.X)))&&(decide (a.Y=b.Y)))&&(decide (a.Z=b.Z)))&&(decide (a.Surface=b.Surface))) then J9 a.Steps b.Steps else some default) fun r3=>
 some ((((((decide (a.Kilos=b.Kilos))&&(decide (a.X=b.X)))&&(decide (a.Y=b.Y)))&&(decide (a.Z=b.Z)))&&(decide (a.Surface=b.Surface)))&&r3)
theorem G1a (a:Gr) (b:Gr) (r:Bool) (h:Jt a b=some r):Pure Tryz.prog 185 [.agg (Gr.cs a),.agg (Gr.cs b)] (·=BL r):=by
 unfold Jt at h
 refine H1 [.tmp 4] Tryz.func185 O O (G7 fun K1 hK1=>G2 (JLh (.ptr 1130 0) (Jy (u:=.agg (Gr.cs a)) (cs:=[G0 a.Kilos,G0 a.X,G0 a.Y,G0 a.Z,G0 a.Surface,E1 a.Steps]) 1130 O O O O O) O (JLh (.ptr 1131 0) (Jy (u:=.agg (Gr.cs b)) (cs:=[G0 b.Kilos,G0 b.X,G0 b.Y,G0 b.Z,G0 b.Surface,E1 b.Steps]) 1131 O O O O O) O (JLh (BL false) (G9 O O) O (G8 (hK1 _ _ (Gx [(2,Ej a),(3,.ptr 1131 0)] [(1131,.box 234 [G0 b.Kilos,G0 b.X,G0 b.Y,G0 b.Z,G0 b.Surface,E1 b.Steps])] 1130 rfl rfl rfl ⟨⟨_,rfl,.boxEq rfl rfl⟩,G⟩ rfl (by exact⟨.ptr,.conv (.same rfl),G⟩) (Gx [(2,Ej a),(3,Ej b)] [] 1131 rfl rfl rfl G rfl (by exact⟨.conv (.same rfl),.ptr,G⟩) ?_))))))))
 refine G7 fun K2 hK2=>G2 (JLh (Ej a) (Gb H6e O O O) O (JLh (G0 a.Kilos) (Gh Gd O O O) O (JLh (Ej b) (Gb H6e O O O) O (JLh (G0 b.Kilos) (Gh Gd O O O) O (JLh (BL (decide (a.Kilos=b.Kilos))) (Jx O O O) O (JLh (BL (decide (a.Kilos=b.Kilos))) (G5 O O) O (Ga (u:=.dptr ((Gr.cs a).drop 1)) [] O O O .sct G (fun hc=>Gb H6d O O O) ?_)))))))
 refine Ga (u:=G0 a.X) [(11,.dptr ((Gr.cs a).drop 1))] O O O .sct ⟨.all id,G⟩ (fun hc=>Gh Gd O O O) ?_
 refine Ga (u:=.dptr ((Gr.cs b).drop 1)) [] O O O .sct G (fun hc=>Gb H6d O O O) ?_
 refine Ga (u:=G0 b.X) [(13,.dptr ((Gr.cs b).drop 1))] O O O .sct ⟨.all id,G⟩ (fun hc=>Gh Gd O O O) ?_
 refine Ga (u:=BL (decide (a.X=b.X))) [(12,G0 a.X),(14,G0 b.X)] O O O .sct ⟨.all id,.all id,G⟩ (fun hc=>Jx O O O) ?_
 refine JLh (BL ((decide (a.Kilos=b.Kilos))&&(decide (a.X=b.X)))) (Hx O O O O) O (JLh (BL ((decide (a.Kilos=b.Kilos))&&(decide (a.X=b.X)))) (G5 O O) O (Ga (u:=.dptr ((Gr.cs a).drop 2)) [] O O O .sct G (fun hc=>Gb H6c O O O) ?_))
 refine Ga (u:=G0 a.Y) [(18,.dptr ((Gr.cs a).drop 2))] O O O .sct ⟨.all id,G⟩ (fun hc=>Gh Gd O O O) ?_
 refine Ga (u:=.dptr ((Gr.cs b).drop 2)) [] O O O .sct G (fun hc=>Gb H6c O O O) ?_
 refine Ga (u:=G0 b.Y) [(20,.dptr ((Gr.cs b).drop 2))] O O O .sct ⟨.all id,G⟩ (fun hc=>Gh Gd O O O) ?_
 refine Ga (u:=BL (decide (a.Y=b.Y))) [(19,G0 a.Y),(21,G0 b.Y)] O O O .sct ⟨.all id,.all id,G⟩ (fun hc=>Jx O O O) ?_
 refine JLh (BL (((decide (a.Kilos=b.Kilos))&&(decide (a.X=b.X)))&&(decide (a.Y=b.Y)))) (Hx O O O O) O (JLh (BL (((decide (a.Kilos=b.Kilos))&&(decide (a.X=b.X)))&&(decide (a.Y=b.Y)))) (G5 O O) O (Ga (u:=.dptr ((Gr.cs a).drop 3)) [] O O O .sct G (fun hc=>Gb H6b O O O) ?_))
 refine Ga (u:=G0 a.Z) [(25,.dptr ((Gr.cs a).drop 3))] O O O .sct ⟨.all id,G⟩ (fun hc=>Gh Gd O O O) ?_
 refine Ga (u:=.dptr ((Gr.cs b).drop 3)) [] O O O .sct G (fun hc=>Gb H6b O O O) ?_
 refine Ga (u:=G0 b.Z) [(27,.dptr ((Gr.cs b).drop 3))] O O O .sct ⟨.all id,G⟩ (fun hc=>Gh Gd O O O) ?_
 refine Ga (u:=BL (decide (a.Z=b.Z))) [(26,G0 a.Z),(28,G0 b.Z)] O O O .sct ⟨.all id,.all id,G⟩ (fun hc=>Jx O O O) ?_
 refine JLh (BL ((((decide (a.Kilos=b.Kilos))&&(decide (a.X=b.X)))&&(decide (a.Y=b.Y)))&&(decide (a.Z=b.Z)))) (Hx O O O O) O (JLh (BL ((((decide (a.Kilos=b.Kilos))&&(decide (a.X=b.X)))&&(decide (a.Y=b.Y)))&&(decide (a.Z=b.Z)))) (G5 O O) O (Ga (u:=.dptr [G0 a.Surface,E1 a.Steps]) [] O O O .sct G (fun hc=>Gb H6a O O O) ?_))
 refine Ga (u:=G0 a.Surface) [(32,.dptr [G0 a.Surface,E1 a.Steps])] O O O .sct ⟨.all id,G⟩ (fun hc=>Gh Gd O O O) ?_
 refine Ga (u:=.dptr [G0 b.Surface,E1 b.Steps]) [] O O O .sct G (fun hc=>Gb H6a O O O) ?_
 refine Ga (u:=G0 b.Surface) [(34,.dptr [G0 b.Surface,E1 b.Steps])] O O O .sct ⟨.all id,G⟩ (fun hc=>Gh Gd O O O) ?_
 refine Ga (u:=BL (decide (a.Surface=b.Surface))) [(33,G0 a.Surface),(35,G0 b.Surface)] O O O .sct ⟨.all id,.all id,G⟩ (fun hc=>Jx O O O) ?_
 refine JLh (BL (((((decide (a.Kilos=b.Kilos))&&(decide (a.X=b.X)))&&(decide (a.Y=b.Y)))&&(decide (a.Z=b.Z)))&&(decide (a.Surface=b.Surface)))) (Hx O O O O) O (JLh (BL (((((decide (a.Kilos=b.Kilos))&&(decide (a.X=b.X)))&&(decide (a.Y=b.Y)))&&(decide (a.Z=b.Z)))&&(decide (a.Surface=b.Surface)))) (G5 O O) O (Ga (u:=.dptr [E1 a.Steps]) [] O O O .sct G (fun hc=>Gb G36 O O O) ?_))
 refine Ga (u:=E1 a.Steps) [(39,.dptr [E1 a.Steps])] O O O .sct ⟨.all id,G⟩ (fun hc=>Gh Hg O O O) ?_
 refine Ga (u:=.dptr [E1 b.Steps]) [] O O O .sct G (fun hc=>Gb G36 O O O) ?_
 refine Ga (u:=E1 b.Steps) [(41,.dptr [E1 b.Steps])] O O O .sct ⟨.all id,G⟩ (fun hc=>Gh Hg O O O) ?_
 obtain⟨r3,hr3,h⟩:=Gf h
 refine Ga (u:=BL r3) [(40,E1 a.Steps),(42,E1 b.Steps)] O O O .sct ⟨.all id,.all id,G⟩ (fun hc=>Gq (args:=[E1 a.Steps,E1 b.Steps]) O (Q9 a.Steps b.Steps r3 (Gz hc hr3)) G55 ⟨O,O,O,O,G⟩) ?_
 refine JLh (BL ((((((decide (a.Kilos=b.Kilos))&&(decide (a.X=b.X)))&&(decide (a.Y=b.Y)))&&(decide (a.Z=b.Z)))&&(decide (a.Surface=b.Surface)))&&r3)) (Hx O O O O) O (JLh (BL ((((((decide (a.Kilos=b.Kilos))&&(decide (a.X=b.X)))&&(decide (a.Y=b.Y)))&&(decide (a.Z=b.Z)))&&(decide (a.Surface=b.Surface)))&&r3)) (G9 O O) O (G8 (hK2 _ _ (Gu (⟨[BL ((((((decide (a.Kilos=b.Kilos))&&(decide (a.X=b.X)))&&(decide (a.Y=b.Y)))&&(decide (a.Z=b.Z)))&&(decide (a.Surface=b.Surface)))&&r3)],[],G,O,⟨⟨_,O,.conv (.same O)⟩,G⟩,O,congrArg (fun r:Bool=>(BL r:AV)) (Option.some.inj h)⟩)))))

def Yg (a:List Gr) (b:List Gr):Option Bool:=
 bif decide ((a.length:Int)≠(b.length:Int)) then
 (some false)
 else
 (each (fun y26 i26 (s26:Unit) nx26=>
   Q3 b (i26:Int) fun y31=>
   bnd (Jt y26 y31) fun r33=>
   bif (!r33) then
   (some false)
   else
   (nx26 ()))
  (fun(s26:Unit)=>
   some true) a 0 ())
theorem Gf4 (a:List Gr) (b:List Gr) (r:Bool) (h:Yg a b=some r):Pure Tryz.prog 179 [E7 a,E7 b] (·=BL r):=by
 unfold Yg at h
 refine H1 [.tmp 4] Tryz.func179 O O (G7 fun K1 hK1=>G2 (JLh (BL false) (G9 O O) O (G8 (hK1 _ _ (G7 (fun K2 hK2=>G7 fun K3 hK3=>G2 (JLh (E7 a) (G5 O O) O (H3 (f:=Gr.av) (xs:=a) Jm O O (fun hm7=>?_) O O O))))))))
 refine JLh (E7 b) (G5 O O) O (H3 (f:=Gr.av) (xs:=b) Jm O O (fun hm9=>?_) O O O)
 refine JLh (BL (decide ((a.length:Int)≠(b.length:Int)))) (G5c O O O) O (G8 (hK3 _ _ (Gn O (fun hb=>?_) (fun hb=>?_))))
 ·
  replace h:=Gz hb h
  refine G7 fun K4 hK4=>G2 (JLh (BL false) (G9 O O) O (G8 (hK4 _ _ (Gu (⟨[BL false],[],G,O,⟨⟨_,O,.conv (.same O)⟩,G⟩,O,congrArg (fun r:Bool=>(BL r:AV)) (Option.some.inj h)⟩)))))
 ·
  replace h:=Hv hb h
  refine Gp (hK2 _ _ (G7 (fun K5 hK5=>G7 fun K6 hK6=>G2 (JLh (G0 0) (G9 O O) O (G8 (hK6 _ _ (Gk ?_)))))))
  obtain⟨b26,kx26,hb26,hkx26,h⟩:=Hw h
  refine Hc (fun i26 (s26:Unit)=>each b26 kx26 (List.drop i26 a) i26 s26=some r) (fun i26 s26=>[(0,E7 a),(1,E7 b),(5,En i26)]) (fun i26 s26=>[]) (fun i26=>a.length - i26) 0 () h ⟨⟨.same O,.same O,.same O,G⟩,G,O⟩ ?_
  clear h
  intro i26 s26 hi26 K26 e26
  refine G7 (fun K27 hK27=>G7 fun K28 hK28=>G2 (JLh (En i26) (G5 O O) O (JLh (E7 a) (G5 O O) O (H3 (f:=Gr.av) (xs:=a) Jm O O (fun hm13=>?_) O O O))))
  refine JLh (BL (decide ((i26:Int) < (a.length:Int)))) (J2 O O O) O (G8 (hK28 _ _ (Gn O (fun hb=>?_) (fun hb=>?_))))
  ·
   have hk26:=Jc hb
   obtain⟨y26,nx26,hy26,hn26,h⟩:=Hn hi26 hk26
   replace h:=Yb hb26 h
   refine Gp (hK27 _ _ (G7 (fun K29 hK29=>Gk (G7 (fun K30 hK30=>?_)))))
   obtain⟨m32,y31,hm32,hy31,h⟩:=Y3 h
   obtain⟨r33,hr33,h⟩:=Gf h
   refine Q6 [] [0,0,0,0,0,0,0,0,0,0] [0,0,0,0,0,0,0,0,0,0] [[]] Jk (by kernel_rfl) rfl rfl ?_
   refine Gc (u:=E7 a) O O ⟨Gw (G5 O O) O,G⟩ (Gc (u:=En i26) O O ⟨Gw (G5 O O) O,G⟩ (Gc (u:=Ej y26) O O ⟨Gw (Gt (f:=Gr.av) (xs:=a) (y:=y26) O O O Jm hy26 O) O,G⟩ (Gc (u:=.agg (Gr.cs y26)) O O ⟨Gw (Gj G00 O O O) O,G⟩ (Gc (u:=E7 b) O O ⟨Gw (G5 O O) O,G⟩ (Gc (u:=En i26) O O ⟨Gw (G5 O O) O,G⟩ (Gc (u:=Ej y31) O O ⟨Gw (Gt (f:=Gr.av) (xs:=b) (y:=y31) O O O Jm hy31 hm32) O,G⟩ (Gc (u:=.agg (Gr.cs y31)) O O ⟨Gw (Gj G00 O O O) O,G⟩ (Gc (u:=BL r33) O O ⟨Gw (Gq (args:=[.agg (Gr.cs y26),.agg (Gr.cs y31)]) O (G1a y26 y31 r33 hr33) H78 ⟨O,O,O,O,G⟩) O,G⟩ (Gc (u:=BL (!r33)) O O ⟨Gw (Qv (b:=r33) O O) O,G⟩ (Yz ?_))))))))))
   refine hK30 _ _ (Gn O (fun hb=>?_) (fun hb=>?_))
   ·
    replace h:=Gz hb h
    refine G7 fun K34 hK34=>G2 (JLh (BL false) (G9 O O) O (G8 (hK34 _ _ (Gu (⟨[BL false],[],G,O,⟨⟨_,O,.conv (.same O)⟩,G⟩,O,congrArg (fun r:Bool=>(BL r:AV)) (Option.some.inj h)⟩)))))
   ·
    replace h:=Hv hb h
    refine Gp (hK29 _ _ (G2 (JLh (En i26) (G5 O O) O (JLh (G0 ((i26+1:Nat):Int)) (Hy (He hk26 hm13) O O O) O (JLh (G0 ((i26+1:Nat):Int)) (G9 O O) O (G8 (e26 _ _ (i26+1) () (app1 hn26 h) (by omega) ⟨⟨.same rfl,.same rfl,.same rfl,G⟩,G,rfl⟩)))))))
  ·
   have h:=app1 hkx26 (Ho hi26 (H9 hb))
   refine Hk (hK5 _ _ (G7 fun K35 hK35=>G2 (JLh (BL true) (G9 O O) O (G8 (hK35 _ _ (Gu (⟨[BL true],[],G,O,⟨⟨_,O,.conv (.same O)⟩,G⟩,O,congrArg (fun r:Bool=>(BL r:AV)) (Option.some.inj h)⟩)))))))

def Ys (a:Hb) (b:Hb):Option Bool:=
 bnd (Rt a.Columns b.Columns) fun r3=>
 bnd (bif r3 then Y6 a.Covers b.Covers else some default) fun r4=>
 bnd (bif ((r3&&r4)&&(decide (a.Light=b.Light))) then Yt a.Rows b.Rows else some default) fun r5=>
 bnd (bif (((r3&&r4)&&(decide (a.Light=b.Light)))&&r5) then Y5 a.Frames b.Frames else some default) fun r6=>
 bnd (bif ((((r3&&r4)&&(decide (a.Light=b.Light)))&&r5)&&r6) then Yg a.Tanks b.Tanks else some default) fun r7=>
 some ((((((r3&&r4)&&(decide (a.Light=b.Light)))&&r5)&&r6)&&r7)&&(decide (a.G3=b.G3)))
theorem H05 (a:Hb) (b:Hb) (r:Bool) (h:Ys a b=some r):Pure Tryz.prog 83 [.agg (Hb.cs a),.agg (Hb.cs b)] (·=BL r):=by
 unfold Ys at h
 refine H1 [.tmp 4] Tryz.func83 O O (G7 fun K1 hK1=>G2 (JLh (.ptr 1074 0) (Jy (u:=.agg (Hb.cs a)) (cs:=(Hb.cs a)) 1074 O O O O O) O (JLh (.ptr 1075 0) (Jy (u:=.agg (Hb.cs b)) (cs:=(Hb.cs b)) 1075 O O O O O) O (JLh (BL false) (G9 O O) O (G8 (hK1 _ _ ?_))))))
 refine Gx [(2,Ee a),(3,.ptr 1075 0)] [(1075,.box 32 (Hb.cs b))] 1074 rfl rfl rfl ⟨⟨_,rfl,.boxEq rfl rfl⟩,G⟩ rfl (by exact⟨.ptr,.conv (.same rfl),G⟩) (Gx [(2,Ee a),(3,Ee b)] [] 1075 rfl rfl rfl G rfl (by exact⟨.conv (.same rfl),.ptr,G⟩) (G7 fun K2 hK2=>G2 (JLh (Ee a) (Gb Hi O O O) O (JLh (E3 a.Columns) (Gh Hq O O O) O (JLh (Ee b) (Gb Hi O O O) O (JLh (E3 b.Columns) (Gh Hq O O O) O ?_))))))
 obtain⟨r3,hr3,h⟩:=Gf h
 refine JLh (BL r3) (Gq (args:=[E3 a.Columns,E3 b.Columns]) O (Gc6 a.Columns b.Columns r3 hr3) Jcf ⟨O,O,O,O,G⟩) O (JLh (BL r3) (G5 O O) O (Ga (u:=.dptr ((Hb.cs a).drop 1)) [] O O O .sct G (fun hc=>Gb Jz O O O) ?_))
 refine Ga (u:=E4 a.Covers) [(11,.dptr ((Hb.cs a).drop 1))] O O O .sct ⟨.all id,G⟩ (fun hc=>Gh Qh O O O) ?_
 refine Ga (u:=.dptr ((Hb.cs b).drop 1)) [] O O O .sct G (fun hc=>Gb Jz O O O) ?_
 refine Ga (u:=E4 b.Covers) [(13,.dptr ((Hb.cs b).drop 1))] O O O .sct ⟨.all id,G⟩ (fun hc=>Gh Qh O O O) ?_
 obtain⟨r4,hr4,h⟩:=Gf h
 refine Ga (u:=BL r4) [(12,E4 a.Covers),(14,E4 b.Covers)] O O O .sct ⟨.all id,.all id,G⟩ (fun hc=>Gq (args:=[E4 a.Covers,E4 b.Covers]) O (Gd2 a.Covers b.Covers r4 (Gz hc hr4)) Jce ⟨O,O,O,O,G⟩) ?_
 refine JLh (BL (r3&&r4)) (Hx O O O O) O (JLh (BL (r3&&r4)) (G5 O O) O (Ga (u:=.dptr ((Hb.cs a).drop 2)) [] O O O .sct G (fun hc=>Gb Hb3 O O O) ?_))
 refine Ga (u:=.agg (Light.cs a.Light)) [(18,.dptr ((Hb.cs a).drop 2))] O O O .sct ⟨.all id,G⟩ (fun hc=>Gj Ja4 O O O) ?_
 refine Ga (u:=.dptr ((Hb.cs b).drop 2)) [] O O O .sct G (fun hc=>Gb Hb3 O O O) ?_
 refine Ga (u:=.agg (Light.cs b.Light)) [(20,.dptr ((Hb.cs b).drop 2))] O O O .sct ⟨.all id,G⟩ (fun hc=>Gj Ja4 O O O) ?_
 refine Ga (u:=BL (decide (a.Light=b.Light))) [(19,.agg (Light.cs a.Light)),(21,.agg (Light.cs b.Light))] O O O .sct ⟨.all id,.all id,G⟩ (fun hc=>Ga0 (vs:=[.int .i64 a.Light.Kilos,.int .i64 a.Light.X,.int .i64 a.Light.Y,.int .i64 a.Light.Z]) (us:=[.int .i64 b.Light.Kilos,.int .i64 b.Light.X,.int .i64 b.Light.Y,.int .i64 b.Light.Z]) 4 O (tq_25 a.Light b.Light) Je6 tf_eqg_25 O O O) ?_
 refine JLh (BL ((r3&&r4)&&(decide (a.Light=b.Light)))) (Hx O O O O) O (JLh (BL ((r3&&r4)&&(decide (a.Light=b.Light)))) (G5 O O) O (Ga (u:=.dptr ((Hb.cs a).drop 6)) [] O O O .sct G (fun hc=>Gb G4c O O O) ?_))
 refine Ga (u:=E6 a.Rows) [(25,.dptr ((Hb.cs a).drop 6))] O O O .sct ⟨.all id,G⟩ (fun hc=>Gh G8d O O O) ?_
 refine Ga (u:=.dptr ((Hb.cs b).drop 6)) [] O O O .sct G (fun hc=>Gb G4c O O O) ?_
 refine Ga (u:=E6 b.Rows) [(27,.dptr ((Hb.cs b).drop 6))] O O O .sct ⟨.all id,G⟩ (fun hc=>Gh G8d O O O) ?_
 obtain⟨r5,hr5,h⟩:=Gf h
 refine Ga (u:=BL r5) [(26,E6 a.Rows),(28,E6 b.Rows)] O O O .sct ⟨.all id,.all id,G⟩ (fun hc=>Gq (args:=[E6 a.Rows,E6 b.Rows]) O (H06 a.Rows b.Rows r5 (Gz hc hr5)) Jcd ⟨O,O,O,O,G⟩) ?_
 refine JLh (BL (((r3&&r4)&&(decide (a.Light=b.Light)))&&r5)) (Hx O O O O) O (JLh (BL (((r3&&r4)&&(decide (a.Light=b.Light)))&&r5)) (G5 O O) O (Ga (u:=.dptr ((Hb.cs a).drop 7)) [] O O O .sct G (fun hc=>Gb G4b O O O) ?_))
 refine Ga (u:=E5 a.Frames) [(32,.dptr ((Hb.cs a).drop 7))] O O O .sct ⟨.all id,G⟩ (fun hc=>Gh G8c O O O) ?_
 refine Ga (u:=.dptr ((Hb.cs b).drop 7)) [] O O O .sct G (fun hc=>Gb G4b O O O) ?_
 refine Ga (u:=E5 b.Frames) [(34,.dptr ((Hb.cs b).drop 7))] O O O .sct ⟨.all id,G⟩ (fun hc=>Gh G8c O O O) ?_
 obtain⟨r6,hr6,h⟩:=Gf h
 refine Ga (u:=BL r6) [(33,E5 a.Frames),(35,E5 b.Frames)] O O O .sct ⟨.all id,.all id,G⟩ (fun hc=>Gq (args:=[E5 a.Frames,E5 b.Frames]) O (Gd1 a.Frames b.Frames r6 (Gz hc hr6)) Jcc ⟨O,O,O,O,G⟩) ?_
 refine JLh (BL ((((r3&&r4)&&(decide (a.Light=b.Light)))&&r5)&&r6)) (Hx O O O O) O (JLh (BL ((((r3&&r4)&&(decide (a.Light=b.Light)))&&r5)&&r6)) (G5 O O) O (Ga (u:=.dptr ((Hb.cs a).drop 8)) [] O O O .sct G (fun hc=>Gb G4a O O O) ?_))
 refine Ga (u:=E7 a.Tanks) [(39,.dptr ((Hb.cs a).drop 8))] O O O .sct ⟨.all id,G⟩ (fun hc=>Gh G8b O O O) ?_
 refine Ga (u:=.dptr ((Hb.cs b).drop 8)) [] O O O .sct G (fun hc=>Gb G4a O O O) ?_
 refine Ga (u:=E7 b.Tanks) [(41,.dptr ((Hb.cs b).drop 8))] O O O .sct ⟨.all id,G⟩ (fun hc=>Gh G8b O O O) ?_
 obtain⟨r7,hr7,h⟩:=Gf h
 refine Ga (u:=BL r7) [(40,E7 a.Tanks),(42,E7 b.Tanks)] O O O .sct ⟨.all id,.all id,G⟩ (fun hc=>Gq (args:=[E7 a.Tanks,E7 b.Tanks]) O (Gf4 a.Tanks b.Tanks r7 (Gz hc hr7)) Jcb ⟨O,O,O,O,G⟩) ?_
 refine JLh (BL (((((r3&&r4)&&(decide (a.Light=b.Light)))&&r5)&&r6)&&r7)) (Hx O O O O) O (JLh (BL (((((r3&&r4)&&(decide (a.Light=b.Light)))&&r5)&&r6)&&r7)) (G5 O O) O (Ga (u:=.dptr (G3.cs a.G3)) [] O O O .sct G (fun hc=>Gb Hb2 O O O) ?_))
 refine Ga (u:=.agg (G3.cs a.G3)) [(46,.dptr (G3.cs a.G3))] O O O .sct ⟨.all id,G⟩ (fun hc=>Gj Ja3 O O O) ?_
 refine Ga (u:=.dptr (G3.cs b.G3)) [] O O O .sct G (fun hc=>Gb Hb2 O O O) ?_
 refine Ga (u:=.agg (G3.cs b.G3)) [(48,.dptr (G3.cs b.G3))] O O O .sct ⟨.all id,G⟩ (fun hc=>Gj Ja3 O O O) ?_
 refine Ga (u:=BL (decide (a.G3=b.G3))) [(47,.agg (G3.cs a.G3)),(49,.agg (G3.cs b.G3))] O O O .sct ⟨.all id,.all id,G⟩ (fun hc=>Ga0 (vs:=[.int .i64 a.G3.Tolerance,.int .i64 a.G3.Trim,.int .i64 a.G3.List_,.int .i64 a.G3.Stability]) (us:=[.int .i64 b.G3.Tolerance,.int .i64 b.G3.Trim,.int .i64 b.G3.List_,.int .i64 b.G3.Stability]) 4 O (tq_30 a.G3 b.G3) Je5 tf_eqg_30 O O O) ?_
 refine JLh (BL ((((((r3&&r4)&&(decide (a.Light=b.Light)))&&r5)&&r6)&&r7)&&(decide (a.G3=b.G3)))) (Hx O O O O) O (JLh (BL ((((((r3&&r4)&&(decide (a.Light=b.Light)))&&r5)&&r6)&&r7)&&(decide (a.G3=b.G3)))) (G9 O O) O (G8 (hK2 _ _ (Gu (⟨[BL ((((((r3&&r4)&&(decide (a.Light=b.Light)))&&r5)&&r6)&&r7)&&(decide (a.G3=b.G3)))],[],G,O,⟨⟨_,O,.conv (.same O)⟩,G⟩,O,congrArg (fun r:Bool=>(BL r:AV)) (Option.some.inj h)⟩)))))

def J7 (out:Ln Int) (l:List Int):Option Bool:=
 bif decide ((out.1.length:Int)≠(l.length:Int)) then
 (some false)
 else
 (G32 ((l.length:Int)+12) fun v6=>
  bnd (G24 v6 (out.1++out.2).length) fun m7=>
  each (fun y29 i29 (s29:Unit) nx29=>
   bnd (bif decide ((i29:Int) < (l.length:Int)) then Q3 l (i29:Int) some else some default) fun y34=>
   bnd (bif ((!((decide ((i29:Int) < (l.length:Int)))&&(!(decide (y29=y34)))))&&(decide ((l.length:Int)≤(i29:Int)))) then G32 ((i29:Int) - (l.length:Int)) some else some 0) fun v35=>
   bnd (bif ((!((decide ((i29:Int) < (l.length:Int)))&&(!(decide (y29=y34)))))&&(decide ((l.length:Int)≤(i29:Int)))) then Ji 1 v35 else some default) fun r36=>
   bif (((decide ((i29:Int) < (l.length:Int)))&&(!(decide (y29=y34))))||((decide ((l.length:Int)≤(i29:Int)))&&(!(decide (y29=r36))))) then
   (some false)
   else
   (nx29 ()))
  (fun(s29:Unit)=>
   some true) ((out.1++out.2).take m7) 0 ())
theorem G1c (out:Ln Int) (l:List Int) (r:Bool) (h:J7 out l=some r):Pure Tryz.prog 189 [LT 1 G0 out,E1 l] (·=BL r):=by
 unfold J7 at h
 refine H1 [.tmp 4] Tryz.func189 O O (G7 fun K1 hK1=>G2 (JLh (BL false) (G9 O O) O (G8 (hK1 _ _ (G7 (fun K2 hK2=>G7 fun K3 hK3=>G2 (JLh (LT 1 G0 out) (G5 O O) O (H3 (f:=G0) (xs:=out.1) H0 O O (fun hm8=>?_) O O O))))))))
 refine JLh (E1 l) (G5 O O) O (H3 (f:=G0) (xs:=l) H0 O O (fun hm10=>?_) O O O)
 refine JLh (BL (decide ((out.1.length:Int)≠(l.length:Int)))) (G5c O O O) O (G8 (hK3 _ _ (Gn O (fun hb=>?_) (fun hb=>?_))))
 ·
  replace h:=Gz hb h
  refine G7 fun K4 hK4=>G2 (JLh (BL false) (G9 O O) O (G8 (hK4 _ _ (Gu (⟨[BL false],[],G,O,⟨⟨_,O,.conv (.same O)⟩,G⟩,O,congrArg (fun r:Bool=>(BL r:AV)) (Option.some.inj h)⟩)))))
 ·
  replace h:=Hv hb h
  refine Gp (hK2 _ _ (G7 fun K5 hK5=>G2 (JLh (LT 1 G0 out) (G5 O O) O (JLh (E1 l) (G5 O O) O (H3 (f:=G0) (xs:=l) H0 O O (fun hm14=>?_) O O O)))))
  obtain⟨v6,hv6,h⟩:=Qw h
  refine JLh (G0 v6) (Hy hv6 O O O) O ?_
  obtain⟨m7,hm7,h⟩:=Gf h
  refine JLh (E1 ((out.1++out.2).take m7)) (H20 (f:=G0) (e:=out) O O O H0 (Rz hm7)) O (JLh (E1 ((out.1++out.2).take m7)) (G9 O O) O (G8 (hK5 _ _ (G7 (fun K8 hK8=>G7 fun K9 hK9=>G2 (JLh (G0 0) (G9 O O) O (G8 (hK9 _ _ (Gk ?_)))))))))
  obtain⟨b29,kx29,hb29,hkx29,h⟩:=Hw h
  refine Hc (fun i29 (s29:Unit)=>each b29 kx29 (List.drop i29 ((out.1++out.2).take m7)) i29 s29=some r) (fun i29 s29=>[(1,E1 l),(5,E1 ((out.1++out.2).take m7)),(6,En i29)]) (fun i29 s29=>[]) (fun i29=>((out.1++out.2).take m7).length - i29) 0 () h ⟨⟨.same O,.same O,.same O,G⟩,G,O⟩ ?_
  clear h
  intro i29 s29 hi29 K29 e29
  refine G7 (fun K30 hK30=>G7 fun K31 hK31=>G2 (JLh (En i29) (G5 O O) O (JLh (E1 ((out.1++out.2).take m7)) (G5 O O) O (H3 (f:=G0) (xs:=((out.1++out.2).take m7)) H0 O O (fun hm19=>?_) O O O))))
  refine JLh (BL (decide ((i29:Int) < (((out.1++out.2).take m7).length:Int)))) (J2 O O O) O (G8 (hK31 _ _ (Gn O (fun hb=>?_) (fun hb=>?_))))
  ·
   have hk29:=Jc hb
   obtain⟨y29,nx29,hy29,hn29,h⟩:=Hn hi29 hk29
   replace h:=Yb hb29 h
   refine Gp (hK30 _ _ (G7 (fun K32 hK32=>Gk (G7 (fun K33 hK33=>?_)))))
   obtain⟨y34,hy34,h⟩:=Gf h
   obtain⟨v35,hv35,h⟩:=Gf h
   obtain⟨r36,hr36,h⟩:=Gf h
   refine Q6 [] [0,0,0,0,0,0,0,0,0,0,0,0,0,0,0,0,0,0,0,0,0,0,0,0,0,0,0,0,0,0,0,0,0,0,0] [0,0,0,0,0,0,0,0,0,0,0,0,0,0,0,0,0,0,0,0,0,0,0,0,0,0,0,0,0,0,0,0,0,0,0] [[]] Jk (by kernel_rfl) rfl rfl ?_
   refine Gc (u:=En i29) O O ⟨Gw (G5 O O) O,G⟩ (Gc (u:=E1 l) O O ⟨Gw (G5 O O) O,G⟩ (Gc (u:=En l.length) O O ⟨Gw (Qt (f:=G0) (xs:=l) H0 O O) O,G⟩ (Gc (u:=BL (decide ((i29:Int) < (l.length:Int)))) O O ⟨Gw (J2 O O O) O,G⟩ (Gc (u:=BL (decide ((i29:Int) < (l.length:Int)))) O O ⟨Gw (G5 O O) O,G⟩ (Gc (u:=.opt (decide ((i29:Int) < (l.length:Int))) (E1 ((out.1++out.2).take m7))) O O ⟨Ge [] O O O .sct G (fun hc=>G5 O O) O,G⟩ (Gc (u:=.opt (decide ((i29:Int) < (l.length:Int))) (En i29)) O O ⟨Ge [] O O O .sct G (fun hc=>G5 O O) O,G⟩ (Gc (u:=.opt (decide ((i29:Int) < (l.length:Int))) (.dptr [G0 y29])) O O ⟨Ge [(28,E1 ((out.1++out.2).take m7)),(29,En i29)] O O O .sct ⟨.all id,.all id,G⟩ (fun hc=>Gt (f:=G0) (xs:=((out.1++out.2).take m7)) (y:=y29) O O O H0 hy29 O) O,G⟩ (Gc (u:=.opt (decide ((i29:Int) < (l.length:Int))) (G0 y29)) O O ⟨Ge [(30,.dptr [G0 y29])] O O O .sct ⟨.all id,G⟩ (fun hc=>Gh Gd O O O) O,G⟩ (Gc (u:=.opt (decide ((i29:Int) < (l.length:Int))) (E1 l)) O O ⟨Ge [] O O O .sct G (fun hc=>G5 O O) O,G⟩ (Gc (u:=.opt (decide ((i29:Int) < (l.length:Int))) (En i29)) O O ⟨Ge [] O O O .sct G (fun hc=>G5 O O) O,G⟩ (Gc (u:=.opt (decide ((i29:Int) < (l.length:Int))) (.dptr [G0 y34])) O O ⟨Ge [(32,E1 l),(33,En i29)] O O O .sct ⟨.all id,.all id,G⟩ (fun hc=>(match Jf (Gz hc hy34) with | ⟨_,hm_,hy_⟩=>Gt (f:=G0) (xs:=l) (y:=y34) O O O H0 hy_ hm_)) O,G⟩ (Gc (u:=.opt (decide ((i29:Int) < (l.length:Int))) (G0 y34)) O O ⟨Ge [(34,.dptr [G0 y34])] O O O .sct ⟨.all id,G⟩ (fun hc=>Gh Gd O O O) O,G⟩ (Gc (u:=.opt (decide ((i29:Int) < (l.length:Int))) (BL (decide (y29=y34)))) O O ⟨Ge [(31,G0 y29),(35,G0 y34)] O O O .sct ⟨.all id,.all id,G⟩ (fun hc=>Jx O O O) O,G⟩ ?_)))))))))))))
   refine Gc (u:=.opt (decide ((i29:Int) < (l.length:Int))) (BL (!(decide (y29=y34))))) O O ⟨Ge [(36,BL (decide (y29=y34)))] O O O .sct ⟨.all id,G⟩ (fun hc=>Qv (b:=decide (y29=y34)) O O) O,G⟩ (Gc (u:=BL ((decide ((i29:Int) < (l.length:Int)))&&(!(decide (y29=y34))))) O O ⟨Gw (Hx O O O O) O,G⟩ (Gc (u:=BL ((decide ((i29:Int) < (l.length:Int)))&&(!(decide (y29=y34))))) O O ⟨Gw (G5 O O) O,G⟩ (Gc (u:=.opt (!((decide ((i29:Int) < (l.length:Int)))&&(!(decide (y29=y34))))) (En i29)) O O ⟨Ge [] O O O .scf G (fun hc=>G5 O O) O,G⟩ (Gc (u:=.opt (!((decide ((i29:Int) < (l.length:Int)))&&(!(decide (y29=y34))))) (E1 l)) O O ⟨Ge [] O O O .scf G (fun hc=>G5 O O) O,G⟩ (Gc (u:=.opt (!((decide ((i29:Int) < (l.length:Int)))&&(!(decide (y29=y34))))) (En l.length)) O O ⟨Ge [(41,E1 l)] O O O .scf ⟨.all id,G⟩ (fun hc=>Qt (f:=G0) (xs:=l) H0 O O) O,G⟩ (Gc (u:=.opt (!((decide ((i29:Int) < (l.length:Int)))&&(!(decide (y29=y34))))) (BL (decide ((l.length:Int)≤(i29:Int))))) O O ⟨Ge [(40,En i29),(42,En l.length)] O O O .scf ⟨.all id,.all id,G⟩ (fun hc=>G29 O O O) O,G⟩ (Gc (u:=.opt (!((decide ((i29:Int) < (l.length:Int)))&&(!(decide (y29=y34))))) (BL (decide ((l.length:Int)≤(i29:Int))))) O O ⟨Ge [(43,BL (decide ((l.length:Int)≤(i29:Int))))] O O O .scf ⟨.all id,G⟩ (fun hc=>G5 O O) O,G⟩ (Gc (u:=.opt ((!((decide ((i29:Int) < (l.length:Int)))&&(!(decide (y29=y34)))))&&(decide ((l.length:Int)≤(i29:Int)))) (E1 ((out.1++out.2).take m7))) O O ⟨Ge [] O O O .optt G (fun hc=>G5 O O) O,G⟩ (Gc (u:=.opt ((!((decide ((i29:Int) < (l.length:Int)))&&(!(decide (y29=y34)))))&&(decide ((l.length:Int)≤(i29:Int)))) (En i29)) O O ⟨Ge [] O O O .optt G (fun hc=>G5 O O) O,G⟩ (Gc (u:=.opt ((!((decide ((i29:Int) < (l.length:Int)))&&(!(decide (y29=y34)))))&&(decide ((l.length:Int)≤(i29:Int)))) (.dptr [G0 y29])) O O ⟨Ge [(45,E1 ((out.1++out.2).take m7)),(46,En i29)] O O O .optt ⟨.all id,.all id,G⟩ (fun hc=>Gt (f:=G0) (xs:=((out.1++out.2).take m7)) (y:=y29) O O O H0 hy29 O) O,G⟩ (Gc (u:=.opt ((!((decide ((i29:Int) < (l.length:Int)))&&(!(decide (y29=y34)))))&&(decide ((l.length:Int)≤(i29:Int)))) (G0 y29)) O O ⟨Ge [(47,.dptr [G0 y29])] O O O .optt ⟨.all id,G⟩ (fun hc=>Gh Gd O O O) O,G⟩ (Gc (u:=.opt ((!((decide ((i29:Int) < (l.length:Int)))&&(!(decide (y29=y34)))))&&(decide ((l.length:Int)≤(i29:Int)))) (En i29)) O O ⟨Ge [] O O O .optt G (fun hc=>G5 O O) O,G⟩ (Gc (u:=.opt ((!((decide ((i29:Int) < (l.length:Int)))&&(!(decide (y29=y34)))))&&(decide ((l.length:Int)≤(i29:Int)))) (E1 l)) O O ⟨Ge [] O O O .optt G (fun hc=>G5 O O) O,G⟩ ?_)))))))))))))
   refine Gc (u:=.opt ((!((decide ((i29:Int) < (l.length:Int)))&&(!(decide (y29=y34)))))&&(decide ((l.length:Int)≤(i29:Int)))) (En l.length)) O O ⟨Ge [(50,E1 l)] O O O .optt ⟨.all id,G⟩ (fun hc=>Qt (f:=G0) (xs:=l) H0 O O) O,G⟩ (Gc (u:=.opt ((!((decide ((i29:Int) < (l.length:Int)))&&(!(decide (y29=y34)))))&&(decide ((l.length:Int)≤(i29:Int)))) (G0 v35)) O O ⟨Ge [(49,En i29),(51,En l.length)] O O O .optt ⟨.all id,.all id,G⟩ (fun hc=>Gcb (G04 (Gz hc hv35)) O O O) O,G⟩ (Gc (u:=.opt ((!((decide ((i29:Int) < (l.length:Int)))&&(!(decide (y29=y34)))))&&(decide ((l.length:Int)≤(i29:Int)))) (G0 r36)) O O ⟨Ge [(52,G0 v35)] O O O .optt ⟨.all id,G⟩ (fun hc=>Gq (args:=[G0 1,G0 v35]) O (Qi 1 v35 r36 (Gz hc hr36)) G22 ⟨O,O,O,O,G⟩) O,G⟩ (Gc (u:=.opt ((!((decide ((i29:Int) < (l.length:Int)))&&(!(decide (y29=y34)))))&&(decide ((l.length:Int)≤(i29:Int)))) (BL (decide (y29=r36)))) O O ⟨Ge [(48,G0 y29),(53,G0 r36)] O O O .optt ⟨.all id,.all id,G⟩ (fun hc=>Jx O O O) O,G⟩ (Gc (u:=.opt ((!((decide ((i29:Int) < (l.length:Int)))&&(!(decide (y29=y34)))))&&(decide ((l.length:Int)≤(i29:Int)))) (BL (!(decide (y29=r36))))) O O ⟨Ge [(54,BL (decide (y29=r36)))] O O O .optt ⟨.all id,G⟩ (fun hc=>Qv (b:=decide (y29=r36)) O O) O,G⟩ (Gc (u:=.opt (!((decide ((i29:Int) < (l.length:Int)))&&(!(decide (y29=y34))))) (BL ((decide ((l.length:Int)≤(i29:Int)))&&(!(decide (y29=r36)))))) O O ⟨Ge [(44,BL (decide ((l.length:Int)≤(i29:Int)))),(55,_)] O O O .scf ⟨.all id,.part,G⟩ (fun hc=>Hx O O O O) O,G⟩ (Gc (u:=BL (((decide ((i29:Int) < (l.length:Int)))&&(!(decide (y29=y34))))||((decide ((l.length:Int)≤(i29:Int)))&&(!(decide (y29=r36)))))) O O ⟨Gw (Rn O O O O) O,G⟩ (Yz ?_)))))))
   refine hK33 _ _ (Gn O (fun hb=>?_) (fun hb=>?_))
   ·
    replace h:=Gz hb h
    refine G7 fun K37 hK37=>G2 (JLh (BL false) (G9 O O) O (G8 (hK37 _ _ (Gu (⟨[BL false],[],G,O,⟨⟨_,O,.conv (.same O)⟩,G⟩,O,congrArg (fun r:Bool=>(BL r:AV)) (Option.some.inj h)⟩)))))
   ·
    replace h:=Hv hb h
    refine Gp (hK32 _ _ (G2 (JLh (En i29) (G5 O O) O (JLh (G0 ((i29+1:Nat):Int)) (Hy (He hk29 hm19) O O O) O (JLh (G0 ((i29+1:Nat):Int)) (G9 O O) O (G8 (e29 _ _ (i29+1) () (app1 hn29 h) (by omega) ⟨⟨.same rfl,.same rfl,.same rfl,G⟩,G,rfl⟩)))))))
  ·
   have h:=app1 hkx29 (Ho hi29 (H9 hb))
   refine Hk (hK8 _ _ (G7 fun K38 hK38=>G2 (JLh (BL true) (G9 O O) O (G8 (hK38 _ _ (Gu (⟨[BL true],[],G,O,⟨⟨_,O,.conv (.same O)⟩,G⟩,O,congrArg (fun r:Bool=>(BL r:AV)) (Option.some.inj h)⟩)))))))

def R8 (x:Gy) (y:G4):Option Bool:=
 bnd (Jj (G4.mk x.Bay x.Row x.Deck x.Tiers x.Height x.Kilos20 x.Kilos40 x.Lash x.Plugs.1 x.X x.Y x.Z) y) fun r3=>
 bnd (bif r3 then J7 x.Plugs y.Plugs else some default) fun r4=>
 some (r3&&r4)
theorem Gd8 (x:Gy) (y:G4) (r:Bool) (h:R8 x y=some r):Pure Tryz.prog 180 [.agg (Gy.cs x),.agg (G4.cs y)] (·=BL r):=by
 unfold R8 at h
 refine H1 [.tmp 4] Tryz.func180 O O (G7 fun K1 hK1=>G2 (JLh (.ptr 1120 0) (Jy (u:=.agg (Gy.cs x)) (cs:=(Gy.cs x)) 1120 O O O O O) O (JLh (.ptr 1121 0) (Jy (u:=.agg (G4.cs y)) (cs:=(G4.cs y)) 1121 O O O O O) O (JLh (BL false) (G9 O O) O (G8 (hK1 _ _ ?_))))))
 refine Gx [(2,.dptr (Gy.cs x)),(3,.ptr 1121 0)] [(1121,.box 112 (G4.cs y))] 1120 rfl rfl rfl ⟨⟨_,rfl,.boxEq rfl rfl⟩,G⟩ rfl (by exact⟨.ptr,.conv (.same rfl),G⟩) (Gx [(2,.dptr (Gy.cs x)),(3,Eh y)] [] 1121 rfl rfl rfl G rfl (by exact⟨.conv (.same rfl),.ptr,G⟩) ?_)
 refine G7 fun K2 hK2=>G2 (JLh (.agg [G0 x.Bay,G0 x.Row,BL x.Deck,G0 x.Tiers,G0 x.Height,G0 x.Kilos20,G0 x.Kilos40,G0 x.Lash,E1 x.Plugs.1,G0 x.X,G0 x.Y,G0 x.Z]) (H4.cv (Cv.aggL (cs:=(Gy.cs x)) ⟨.same,.same,.same,.same,.same,.same,.same,.same,Cv.lst0 x.Plugs,.same,.same,.same,G⟩) (Gj Rr O O O)) O (JLh (.agg (G4.cs y)) (Gj Rr O O O) O ?_))
 obtain⟨r3,hr3,h⟩:=Gf h
 refine JLh (BL r3) (Gq (args:=[.agg [G0 x.Bay,G0 x.Row,BL x.Deck,G0 x.Tiers,G0 x.Height,G0 x.Kilos20,G0 x.Kilos40,G0 x.Lash,E1 x.Plugs.1,G0 x.X,G0 x.Y,G0 x.Z],.agg (G4.cs y)]) O (G0a (G4.mk x.Bay x.Row x.Deck x.Tiers x.Height x.Kilos20 x.Kilos40 x.Lash x.Plugs.1 x.X x.Y x.Z) y r3 hr3) H7a ⟨O,O,O,O,G⟩) O (JLh (BL r3) (G5 O O) O (Ga (u:=.dptr ((Gy.cs x).drop 8)) [] O O O .sct G (fun hc=>Gb Qp O O O) ?_))
 refine Ga (u:=LT 1 G0 x.Plugs) [(9,.dptr ((Gy.cs x).drop 8))] O O O .sct ⟨.all id,G⟩ (fun hc=>Gh Hg O O O) ?_
 refine Ga (u:=.dptr ((G4.cs y).drop 8)) [] O O O .sct G (fun hc=>Gb Qp O O O) ?_
 refine Ga (u:=E1 y.Plugs) [(11,.dptr ((G4.cs y).drop 8))] O O O .sct ⟨.all id,G⟩ (fun hc=>Gh Hg O O O) ?_
 obtain⟨r4,hr4,h⟩:=Gf h
 refine Ga (u:=BL r4) [(10,LT 1 G0 x.Plugs),(12,E1 y.Plugs)] O O O .sct ⟨.all id,.all id,G⟩ (fun hc=>Gq (args:=[LT 1 G0 x.Plugs,E1 y.Plugs]) O (G1c x.Plugs y.Plugs r4 (Gz hc hr4)) H77 ⟨O,O,O,O,G⟩) ?_
 refine JLh (BL (r3&&r4)) (Hx O O O O) O (JLh (BL (r3&&r4)) (G9 O O) O (G8 (hK2 _ _ (Gu (⟨[BL (r3&&r4)],[],G,O,⟨⟨_,O,.conv (.same O)⟩,G⟩,O,congrArg (fun r:Bool=>(BL r:AV)) (Option.some.inj h)⟩)))))

def R3 (out:Ln Gy) (l:List G4):Option Bool:=
 bif decide ((out.1.length:Int)≠(l.length:Int)) then
 (some false)
 else
 (G32 ((l.length:Int)+12) fun v6=>
  bnd (G24 v6 (out.1++out.2).length) fun m7=>
  each (fun y33 i33 (s33:Unit) nx33=>
   bnd (bif decide ((i33:Int) < (l.length:Int)) then Q3 l (i33:Int) some else some default) fun y38=>
   bnd (bif decide ((i33:Int) < (l.length:Int)) then R8 y33 y38 else some default) fun r39=>
   bnd (bif ((!((decide ((i33:Int) < (l.length:Int)))&&(!r39)))&&(decide ((l.length:Int)≤(i33:Int)))) then G32 ((i33:Int) - (l.length:Int)) some else some 0) fun v40=>
   bnd (bif ((!((decide ((i33:Int) < (l.length:Int)))&&(!r39)))&&(decide ((l.length:Int)≤(i33:Int)))) then Qn 1 v40 else some default) fun r41=>
   bnd (bif ((!((decide ((i33:Int) < (l.length:Int)))&&(!r39)))&&(decide ((l.length:Int)≤(i33:Int)))) then Jj (G4.mk y33.Bay y33.Row y33.Deck y33.Tiers y33.Height y33.Kilos20 y33.Kilos40 y33.Lash y33.Plugs.1 y33.X y33.Y y33.Z) r41 else some default) fun r42=>
   bif (((decide ((i33:Int) < (l.length:Int)))&&(!r39))||((decide ((l.length:Int)≤(i33:Int)))&&(!r42))) then
   (some false)
   else
   (nx33 ()))
  (fun(s33:Unit)=>
   some true) ((out.1++out.2).take m7) 0 ())
theorem Gc8 (out:Ln Gy) (l:List G4) (r:Bool) (h:R3 out l=some r):Pure Tryz.prog 84 [LT 12 Gy.av out,E3 l] (·=BL r):=by
 unfold R3 at h
 refine H1 [.tmp 4] Tryz.func84 O O (G7 fun K1 hK1=>G2 (JLh (BL false) (G9 O O) O (G8 (hK1 _ _ (G7 (fun K2 hK2=>G7 fun K3 hK3=>G2 (JLh (LT 12 Gy.av out) (G5 O O) O (H3 (f:=Gy.av) (xs:=out.1) H7 O O (fun hm8=>?_) O O O))))))))
 refine JLh (E3 l) (G5 O O) O (H3 (f:=G4.av) (xs:=l) H7 O O (fun hm10=>?_) O O O)
 refine JLh (BL (decide ((out.1.length:Int)≠(l.length:Int)))) (G5c O O O) O (G8 (hK3 _ _ (Gn O (fun hb=>?_) (fun hb=>?_))))
 ·
  replace h:=Gz hb h
  refine G7 fun K4 hK4=>G2 (JLh (BL false) (G9 O O) O (G8 (hK4 _ _ (Gu (⟨[BL false],[],G,O,⟨⟨_,O,.conv (.same O)⟩,G⟩,O,congrArg (fun r:Bool=>(BL r:AV)) (Option.some.inj h)⟩)))))
 ·
  replace h:=Hv hb h
  refine Gp (hK2 _ _ (G7 fun K5 hK5=>G2 (JLh (LT 12 Gy.av out) (G5 O O) O (JLh (E3 l) (G5 O O) O (H3 (f:=G4.av) (xs:=l) H7 O O (fun hm14=>?_) O O O)))))
  obtain⟨v6,hv6,h⟩:=Qw h
  refine JLh (G0 v6) (Hy hv6 O O O) O ?_
  obtain⟨m7,hm7,h⟩:=Gf h
  refine JLh (Eb ((out.1++out.2).take m7)) (H20 (f:=Gy.av) (e:=out) O O O H7 (Rz hm7)) O (JLh (Eb ((out.1++out.2).take m7)) (G9 O O) O (G8 (hK5 _ _ (G7 (fun K8 hK8=>G7 fun K9 hK9=>G2 (JLh (G0 0) (G9 O O) O (G8 (hK9 _ _ (Gk ?_)))))))))
  obtain⟨b33,kx33,hb33,hkx33,h⟩:=Hw h
  refine Hc (fun i33 (s33:Unit)=>each b33 kx33 (List.drop i33 ((out.1++out.2).take m7)) i33 s33=some r) (fun i33 s33=>[(1,E3 l),(5,Eb ((out.1++out.2).take m7)),(6,En i33)]) (fun i33 s33=>[]) (fun i33=>((out.1++out.2).take m7).length - i33) 0 () h ⟨⟨.same O,.same O,.same O,G⟩,G,O⟩ ?_
  clear h
  intro i33 s33 hi33 K33 e33
  refine G7 (fun K34 hK34=>G7 fun K35 hK35=>G2 (JLh (En i33) (G5 O O) O (JLh (Eb ((out.1++out.2).take m7)) (G5 O O) O (H3 (f:=Gy.av) (xs:=((out.1++out.2).take m7)) H7 O O (fun hm19=>?_) O O O))))
  refine JLh (BL (decide ((i33:Int) < (((out.1++out.2).take m7).length:Int)))) (J2 O O O) O (G8 (hK35 _ _ (Gn O (fun hb=>?_) (fun hb=>?_))))
  ·
   have hk33:=Jc hb
   obtain⟨y33,nx33,hy33,hn33,h⟩:=Hn hi33 hk33
   replace h:=Yb hb33 h
   refine Gp (hK34 _ _ (G7 (fun K36 hK36=>Gk (G7 (fun K37 hK37=>?_)))))
   obtain⟨y38,hy38,h⟩:=Gf h
   obtain⟨r39,hr39,h⟩:=Gf h
   obtain⟨v40,hv40,h⟩:=Gf h
   obtain⟨r41,hr41,h⟩:=Gf h
   obtain⟨r42,hr42,h⟩:=Gf h
   refine Q6 [] [0,0,0,0,0,0,0,0,0,0,0,0,0,0,0,0,0,0,0,0,0,0,0,0,0,0,0,0,0,0,0,0,0,0,0] [0,0,0,0,0,0,0,0,0,0,0,0,0,0,0,0,0,0,0,0,0,0,0,0,0,0,0,0,0,0,0,0,0,0,0] [[]] Jk (by kernel_rfl) rfl rfl ?_
   refine Gc (u:=En i33) O O ⟨Gw (G5 O O) O,G⟩ (Gc (u:=E3 l) O O ⟨Gw (G5 O O) O,G⟩ (Gc (u:=En l.length) O O ⟨Gw (Qt (f:=G4.av) (xs:=l) H7 O O) O,G⟩ (Gc (u:=BL (decide ((i33:Int) < (l.length:Int)))) O O ⟨Gw (J2 O O O) O,G⟩ (Gc (u:=BL (decide ((i33:Int) < (l.length:Int)))) O O ⟨Gw (G5 O O) O,G⟩ (Gc (u:=.opt (decide ((i33:Int) < (l.length:Int))) (Eb ((out.1++out.2).take m7))) O O ⟨Ge [] O O O .sct G (fun hc=>G5 O O) O,G⟩ (Gc (u:=.opt (decide ((i33:Int) < (l.length:Int))) (En i33)) O O ⟨Ge [] O O O .sct G (fun hc=>G5 O O) O,G⟩ (Gc (u:=.opt (decide ((i33:Int) < (l.length:Int))) (.dptr (Gy.cs y33))) O O ⟨Ge [(28,Eb ((out.1++out.2).take m7)),(29,En i33)] O O O .sct ⟨.all id,.all id,G⟩ (fun hc=>Gt (f:=Gy.av) (xs:=((out.1++out.2).take m7)) (y:=y33) O O O H7 hy33 O) O,G⟩ (Gc (u:=.opt (decide ((i33:Int) < (l.length:Int))) (.agg (Gy.cs y33))) O O ⟨Ge [(30,.dptr (Gy.cs y33))] O O O .sct ⟨.all id,G⟩ (fun hc=>Gj Rr O O O) O,G⟩ (Gc (u:=.opt (decide ((i33:Int) < (l.length:Int))) (E3 l)) O O ⟨Ge [] O O O .sct G (fun hc=>G5 O O) O,G⟩ (Gc (u:=.opt (decide ((i33:Int) < (l.length:Int))) (En i33)) O O ⟨Ge [] O O O .sct G (fun hc=>G5 O O) O,G⟩ (Gc (u:=.opt (decide ((i33:Int) < (l.length:Int))) (Eh y38)) O O ⟨Ge [(32,E3 l),(33,En i33)] O O O .sct ⟨.all id,.all id,G⟩ (fun hc=>(match Jf (Gz hc hy38) with | ⟨_,hm_,hy_⟩=>Gt (f:=G4.av) (xs:=l) (y:=y38) O O O H7 hy_ hm_)) O,G⟩ (Gc (u:=.opt (decide ((i33:Int) < (l.length:Int))) (.agg (G4.cs y38))) O O ⟨Ge [(34,Eh y38)] O O O .sct ⟨.all id,G⟩ (fun hc=>Gj Rr O O O) O,G⟩ (Gc (u:=.opt (decide ((i33:Int) < (l.length:Int))) (BL r39)) O O ⟨Ge [(31,.agg (Gy.cs y33)),(35,.agg (G4.cs y38))] O O O .sct ⟨.all id,.all id,G⟩ (fun hc=>Gq (args:=[.agg (Gy.cs y33),.agg (G4.cs y38)]) O (Gd8 y33 y38 r39 (Gz hc hr39)) Jca ⟨O,O,O,O,G⟩) O,G⟩ ?_)))))))))))))
   refine Gc (u:=.opt (decide ((i33:Int) < (l.length:Int))) (BL (!r39))) O O ⟨Ge [(36,BL r39)] O O O .sct ⟨.all id,G⟩ (fun hc=>Qv (b:=r39) O O) O,G⟩ (Gc (u:=BL ((decide ((i33:Int) < (l.length:Int)))&&(!r39))) O O ⟨Gw (Hx O O O O) O,G⟩ (Gc (u:=BL ((decide ((i33:Int) < (l.length:Int)))&&(!r39))) O O ⟨Gw (G5 O O) O,G⟩ (Gc (u:=.opt (!((decide ((i33:Int) < (l.length:Int)))&&(!r39))) (En i33)) O O ⟨Ge [] O O O .scf G (fun hc=>G5 O O) O,G⟩ (Gc (u:=.opt (!((decide ((i33:Int) < (l.length:Int)))&&(!r39))) (E3 l)) O O ⟨Ge [] O O O .scf G (fun hc=>G5 O O) O,G⟩ (Gc (u:=.opt (!((decide ((i33:Int) < (l.length:Int)))&&(!r39))) (En l.length)) O O ⟨Ge [(41,E3 l)] O O O .scf ⟨.all id,G⟩ (fun hc=>Qt (f:=G4.av) (xs:=l) H7 O O) O,G⟩ (Gc (u:=.opt (!((decide ((i33:Int) < (l.length:Int)))&&(!r39))) (BL (decide ((l.length:Int)≤(i33:Int))))) O O ⟨Ge [(40,En i33),(42,En l.length)] O O O .scf ⟨.all id,.all id,G⟩ (fun hc=>G29 O O O) O,G⟩ (Gc (u:=.opt (!((decide ((i33:Int) < (l.length:Int)))&&(!r39))) (BL (decide ((l.length:Int)≤(i33:Int))))) O O ⟨Ge [(43,BL (decide ((l.length:Int)≤(i33:Int))))] O O O .scf ⟨.all id,G⟩ (fun hc=>G5 O O) O,G⟩ (Gc (u:=.opt ((!((decide ((i33:Int) < (l.length:Int)))&&(!r39)))&&(decide ((l.length:Int)≤(i33:Int)))) (Eb ((out.1++out.2).take m7))) O O ⟨Ge [] O O O .optt G (fun hc=>G5 O O) O,G⟩ (Gc (u:=.opt ((!((decide ((i33:Int) < (l.length:Int)))&&(!r39)))&&(decide ((l.length:Int)≤(i33:Int)))) (En i33)) O O ⟨Ge [] O O O .optt G (fun hc=>G5 O O) O,G⟩ (Gc (u:=.opt ((!((decide ((i33:Int) < (l.length:Int)))&&(!r39)))&&(decide ((l.length:Int)≤(i33:Int)))) (.dptr (Gy.cs y33))) O O ⟨Ge [(45,Eb ((out.1++out.2).take m7)),(46,En i33)] O O O .optt ⟨.all id,.all id,G⟩ (fun hc=>Gt (f:=Gy.av) (xs:=((out.1++out.2).take m7)) (y:=y33) O O O H7 hy33 O) O,G⟩ (Gc (u:=.opt ((!((decide ((i33:Int) < (l.length:Int)))&&(!r39)))&&(decide ((l.length:Int)≤(i33:Int)))) (.agg [G0 y33.Bay,G0 y33.Row,BL y33.Deck,G0 y33.Tiers,G0 y33.Height,G0 y33.Kilos20,G0 y33.Kilos40,G0 y33.Lash,E1 y33.Plugs.1,G0 y33.X,G0 y33.Y,G0 y33.Z])) O O ⟨Ge [(47,.dptr (Gy.cs y33))] O O O .optt ⟨.all id,G⟩ (fun hc=>H4.cv (Cv.aggL (cs:=(Gy.cs y33)) ⟨.same,.same,.same,.same,.same,.same,.same,.same,Cv.lst0 y33.Plugs,.same,.same,.same,G⟩) (Gj Rr O O O)) O,G⟩ (Gc (u:=.opt ((!((decide ((i33:Int) < (l.length:Int)))&&(!r39)))&&(decide ((l.length:Int)≤(i33:Int)))) (En i33)) O O ⟨Ge [] O O O .optt G (fun hc=>G5 O O) O,G⟩ (Gc (u:=.opt ((!((decide ((i33:Int) < (l.length:Int)))&&(!r39)))&&(decide ((l.length:Int)≤(i33:Int)))) (E3 l)) O O ⟨Ge [] O O O .optt G (fun hc=>G5 O O) O,G⟩ ?_)))))))))))))
   refine Gc (u:=.opt ((!((decide ((i33:Int) < (l.length:Int)))&&(!r39)))&&(decide ((l.length:Int)≤(i33:Int)))) (En l.length)) O O ⟨Ge [(50,E3 l)] O O O .optt ⟨.all id,G⟩ (fun hc=>Qt (f:=G4.av) (xs:=l) H7 O O) O,G⟩ (Gc (u:=.opt ((!((decide ((i33:Int) < (l.length:Int)))&&(!r39)))&&(decide ((l.length:Int)≤(i33:Int)))) (G0 v40)) O O ⟨Ge [(49,En i33),(51,En l.length)] O O O .optt ⟨.all id,.all id,G⟩ (fun hc=>Gcb (G04 (Gz hc hv40)) O O O) O,G⟩ (Gc (u:=.opt ((!((decide ((i33:Int) < (l.length:Int)))&&(!r39)))&&(decide ((l.length:Int)≤(i33:Int)))) (.agg (G4.cs r41))) O O ⟨Ge [(52,G0 v40)] O O O .optt ⟨.all id,G⟩ (fun hc=>Gq (args:=[G0 1,G0 v40]) O (G52 1 v40 r41 (Gz hc hr41)) J28 ⟨O,O,O,O,G⟩) O,G⟩ (Gc (u:=.opt ((!((decide ((i33:Int) < (l.length:Int)))&&(!r39)))&&(decide ((l.length:Int)≤(i33:Int)))) (BL r42)) O O ⟨Ge [(48,.agg [G0 y33.Bay,G0 y33.Row,BL y33.Deck,G0 y33.Tiers,G0 y33.Height,G0 y33.Kilos20,G0 y33.Kilos40,G0 y33.Lash,E1 y33.Plugs.1,G0 y33.X,G0 y33.Y,G0 y33.Z]),(53,.agg (G4.cs r41))] O O O .optt ⟨.all id,.all id,G⟩ (fun hc=>Gq (args:=[.agg [G0 y33.Bay,G0 y33.Row,BL y33.Deck,G0 y33.Tiers,G0 y33.Height,G0 y33.Kilos20,G0 y33.Kilos40,G0 y33.Lash,E1 y33.Plugs.1,G0 y33.X,G0 y33.Y,G0 y33.Z],.agg (G4.cs r41)]) O (G0a (G4.mk y33.Bay y33.Row y33.Deck y33.Tiers y33.Height y33.Kilos20 y33.Kilos40 y33.Lash y33.Plugs.1 y33.X y33.Y y33.Z) r41 r42 (Gz hc hr42)) H7a ⟨O,O,O,O,G⟩) O,G⟩ (Gc (u:=.opt ((!((decide ((i33:Int) < (l.length:Int)))&&(!r39)))&&(decide ((l.length:Int)≤(i33:Int)))) (BL (!r42))) O O ⟨Ge [(54,BL r42)] O O O .optt ⟨.all id,G⟩ (fun hc=>Qv (b:=r42) O O) O,G⟩ (Gc (u:=.opt (!((decide ((i33:Int) < (l.length:Int)))&&(!r39))) (BL ((decide ((l.length:Int)≤(i33:Int)))&&(!r42)))) O O ⟨Ge [(44,BL (decide ((l.length:Int)≤(i33:Int)))),(55,_)] O O O .scf ⟨.all id,.part,G⟩ (fun hc=>Hx O O O O) O,G⟩ (Gc (u:=BL (((decide ((i33:Int) < (l.length:Int)))&&(!r39))||((decide ((l.length:Int)≤(i33:Int)))&&(!r42)))) O O ⟨Gw (Rn O O O O) O,G⟩ (Yz ?_)))))))
   refine hK37 _ _ (Gn O (fun hb=>?_) (fun hb=>?_))
   ·
    replace h:=Gz hb h
    refine G7 fun K43 hK43=>G2 (JLh (BL false) (G9 O O) O (G8 (hK43 _ _ (Gu (⟨[BL false],[],G,O,⟨⟨_,O,.conv (.same O)⟩,G⟩,O,congrArg (fun r:Bool=>(BL r:AV)) (Option.some.inj h)⟩)))))
   ·
    replace h:=Hv hb h
    refine Gp (hK36 _ _ (G2 (JLh (En i33) (G5 O O) O (JLh (G0 ((i33+1:Nat):Int)) (Hy (He hk33 hm19) O O O) O (JLh (G0 ((i33+1:Nat):Int)) (G9 O O) O (G8 (e33 _ _ (i33+1) () (app1 hn33 h) (by omega) ⟨⟨.same rfl,.same rfl,.same rfl,G⟩,G,rfl⟩)))))))
  ·
   have h:=app1 hkx33 (Ho hi33 (H9 hb))
   refine Hk (hK8 _ _ (G7 fun K44 hK44=>G2 (JLh (BL true) (G9 O O) O (G8 (hK44 _ _ (Gu (⟨[BL true],[],G,O,⟨⟨_,O,.conv (.same O)⟩,G⟩,O,congrArg (fun r:Bool=>(BL r:AV)) (Option.some.inj h)⟩)))))))

def Rf (x:Ha) (y:Gg):Option Bool:=
 bnd (Jp (Gg.mk x.Bay x.Rows.1) y) fun r3=>
 bnd (bif r3 then J7 x.Rows y.Rows else some default) fun r4=>
 some (r3&&r4)
theorem Gf9 (x:Ha) (y:Gg) (r:Bool) (h:Rf x y=some r):Pure Tryz.prog 182 [.agg [G0 x.Bay,LT 1 G0 x.Rows],.agg [G0 y.Bay,E1 y.Rows]] (·=BL r):=by
 unfold Rf at h
 refine H1 [.tmp 4] Tryz.func182 O O (G7 fun K1 hK1=>G2 (JLh (.ptr 1124 0) (Jy (u:=.agg [G0 x.Bay,LT 1 G0 x.Rows]) (cs:=[G0 x.Bay,LT 1 G0 x.Rows]) 1124 O O O O O) O (JLh (.ptr 1125 0) (Jy (u:=.agg [G0 y.Bay,E1 y.Rows]) (cs:=[G0 y.Bay,E1 y.Rows]) 1125 O O O O O) O (JLh (BL false) (G9 O O) O (G8 (hK1 _ _ (Gx [(2,.dptr [G0 x.Bay,LT 1 G0 x.Rows]),(3,.ptr 1125 0)] [(1125,.box 114 [G0 y.Bay,E1 y.Rows])] 1124 rfl rfl rfl ⟨⟨_,rfl,.boxEq rfl rfl⟩,G⟩ rfl (by exact⟨.ptr,.conv (.same rfl),G⟩) (Gx [(2,.dptr [G0 x.Bay,LT 1 G0 x.Rows]),(3,.dptr [G0 y.Bay,E1 y.Rows])] [] 1125 rfl rfl rfl G rfl (by exact⟨.conv (.same rfl),.ptr,G⟩) ?_))))))))
 refine G7 fun K2 hK2=>G2 (JLh (.agg [G0 x.Bay,E1 x.Rows.1]) (H4.cv (Cv.aggL (cs:=[G0 x.Bay,LT 1 G0 x.Rows]) ⟨.same,Cv.lst0 x.Rows,G⟩) (Gj Rh O O O)) O (JLh (.agg [G0 y.Bay,E1 y.Rows]) (Gj Rh O O O) O ?_))
 obtain⟨r3,hr3,h⟩:=Gf h
 refine JLh (BL r3) (Gq (args:=[.agg [G0 x.Bay,E1 x.Rows.1],.agg [G0 y.Bay,E1 y.Rows]]) O (G17 (Gg.mk x.Bay x.Rows.1) y r3 hr3) H79 ⟨O,O,O,O,G⟩) O (JLh (BL r3) (G5 O O) O (Ga (u:=.dptr [LT 1 G0 x.Rows]) [] O O O .sct G (fun hc=>Gb Jr O O O) ?_))
 refine Ga (u:=LT 1 G0 x.Rows) [(9,.dptr [LT 1 G0 x.Rows])] O O O .sct ⟨.all id,G⟩ (fun hc=>Gh Hg O O O) ?_
 refine Ga (u:=.dptr [E1 y.Rows]) [] O O O .sct G (fun hc=>Gb Jr O O O) ?_
 refine Ga (u:=E1 y.Rows) [(11,.dptr [E1 y.Rows])] O O O .sct ⟨.all id,G⟩ (fun hc=>Gh Hg O O O) ?_
 obtain⟨r4,hr4,h⟩:=Gf h
 refine Ga (u:=BL r4) [(10,LT 1 G0 x.Rows),(12,E1 y.Rows)] O O O .sct ⟨.all id,.all id,G⟩ (fun hc=>Gq (args:=[LT 1 G0 x.Rows,E1 y.Rows]) O (G1c x.Rows y.Rows r4 (Gz hc hr4)) H77 ⟨O,O,O,O,G⟩) ?_
 refine JLh (BL (r3&&r4)) (Hx O O O O) O (JLh (BL (r3&&r4)) (G9 O O) O (G8 (hK2 _ _ (Gu (⟨[BL (r3&&r4)],[],G,O,⟨⟨_,O,.conv (.same O)⟩,G⟩,O,congrArg (fun r:Bool=>(BL r:AV)) (Option.some.inj h)⟩)))))
end
end Go.Proofs.YtfkilljboodoaaaGreat
