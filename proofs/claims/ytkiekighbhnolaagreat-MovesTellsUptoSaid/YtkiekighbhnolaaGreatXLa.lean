/- Walks of functions. -/
import Derived.Test.YtkiekighbhnolaaGreatXN
import Derived.Test.YtkiekighbhnolaaGreatSpecK
import Derived.Test.YtkiekighbhnolaaGreatSpecK
set_option maxRecDepth 100000
set_option maxHeartbeats 1000000
set_option linter.unusedVariables false
set_option linter.unusedSimpArgs false
namespace Go.Proofs.YtkiekighbhnolaaGreat
open Go.RowKit
noncomputable section
structure H3 where
 Bay:Int
 Row:Int
 AO:Bool
 AP:Int
 Height:Int
 AR:Int
 AX:Int
 BC:Int
 Plugs:Ln Int
 X:Int
 Y:Int
 Z:Int
 deriving Inhabited
def H3.cs (x:H3):AD:=[I64 x.Bay,I64 x.Row,BL x.AO,I64 x.AP,I64 x.Height,I64 x.AR,I64 x.AX,I64 x.BC,LT 1 I64 x.Plugs,I64 x.X,I64 x.Y,I64 x.Z]
def H3.av (x:H3):AV:=.agg x.cs
def H3.pl (x:H3):G5:=⟨x.Bay,x.Row,x.AO,x.AP,x.Height,x.AR,x.AX,x.BC,Prod.fst x.Plugs,x.X,x.Y,x.Z⟩
def H3.of (x:G5):H3:=⟨x.Bay,x.Row,x.AO,x.AP,x.Height,x.AR,x.AX,x.BC,(fun e=>(e,[])) x.Plugs,x.X,x.Y,x.Z⟩
theorem H3.cvl (x:H3):CvL (H3.cs x) (G5.cs x.pl):=⟨.same,.same,.same,.same,.same,.same,.same,.same,Cv.lst0 x.Plugs,.same,.same,.same,trivial⟩
structure Hi where
 Bay:Int
 Rows:Ln Int
 deriving Inhabited
def Hi.cs (x:Hi):AD:=[I64 x.Bay,LT 1 I64 x.Rows]
def Hi.av (x:Hi):AV:=.agg x.cs
def Hi.pl (x:Hi):Gv:=⟨x.Bay,Prod.fst x.Rows⟩
def Hi.of (x:Gv):Hi:=⟨x.Bay,(fun e=>(e,[])) x.Rows⟩
theorem Hi.cvl (x:Hi):CvL (Hi.cs x) (Gv.cs x.pl):=⟨.same,Cv.lst0 x.Rows,trivial⟩
structure J2 where
 AU:Int
 X:Int
 Y:Int
 Z:Int
 AY:Int
 Steps:Ln Int
 deriving Inhabited
def J2.cs (x:J2):AD:=[I64 x.AU,I64 x.X,I64 x.Y,I64 x.Z,I64 x.AY,LT 1 I64 x.Steps]
def J2.av (x:J2):AV:=.agg x.cs
def J2.pl (x:J2):Hz:=⟨x.AU,x.X,x.Y,x.Z,x.AY,Prod.fst x.Steps⟩
def J2.of (x:Hz):J2:=⟨x.AU,x.X,x.Y,x.Z,x.AY,(fun e=>(e,[])) x.Steps⟩
theorem J2.cvl (x:J2):CvL (J2.cs x) (Hz.cs x.pl):=⟨.same,.same,.same,.same,.same,Cv.lst0 x.Steps,trivial⟩
structure Rs where
 Columns:Ln H3
 Covers:Ln Hi
 Light:Light
 Rows:Ln Row
 Frames:Ln Frame
 Tanks:Ln J2
 Gj:Gj
 deriving Inhabited
def Rs.cs (x:Rs):AD:=[LT 12 H3.av x.Columns,LT 2 Hi.av x.Covers,I64 x.Light.AU,I64 x.Light.X,I64 x.Light.Y,I64 x.Light.Z,LT 5 Row.av x.Rows,LT 5 Frame.av x.Frames,LT 6 J2.av x.Tanks,I64 x.Gj.AZ,I64 x.Gj.Trim,I64 x.Gj.BQ,I64 x.Gj.BA]
abbrev En (x:Rs):AV:=.AA (Rs.cs x)
structure Box where
 ID:Int
 Number:ByteArray
 Size:Int
 BU:Bool
 AU:Int
 Load:Int
 AQ:Int
 Class:Int
 Reefer:Bool
 deriving DecidableEq,Inhabited
abbrev AK:=List Box
def Box.cs (x:Box):AD:=[I64 x.ID,ST x.Number,U8 x.Size,BL x.BU,I64 x.AU,I64 x.Load,I64 x.AQ,U8 x.Class,BL x.Reefer]
def Box.av (x:Box):AV:=.agg x.cs
abbrev Ei (x:Box):AV:=.AA (Box.cs x)
abbrev E4:=LS 9 Box.av
structure Slot where
 G5:Int
 AB:Int
 Half:Int
 deriving DecidableEq,Inhabited
def Slot.cs (x:Slot):AD:=[I64 x.G5,I64 x.AB,U8 x.Half]
def Slot.av (x:Slot):AV:=.agg x.cs
abbrev Ek (x:Slot):AV:=.AA (Slot.cs x)
abbrev E7:=LS 3 Slot.av
structure G2 where
 Box:Int
 Slot:Slot
 deriving DecidableEq,Inhabited
abbrev AG:=List G2
def G2.cs (x:G2):AD:=[I64 x.Box,I64 x.Slot.G5,I64 x.Slot.AB,U8 x.Slot.Half]
def G2.av (x:G2):AV:=.agg x.cs
abbrev Eg (x:G2):AV:=.AA (G2.cs x)
abbrev E1:=LS 4 G2.av
structure dO where
 States:List AG
 Water:List AE
 deriving DecidableEq,Inhabited
def dO.cs (x:dO):AD:=[LS 1 (E1) x.States,LS 1 (E2) x.Water]
structure lR where
 States:Ln (Ln G2)
 Water:Ln (Ln Int)
 deriving Inhabited
structure Move where
 Kind:Int
 Box:Int
 Slot:Slot
 Gv:Int
 deriving DecidableEq,Inhabited
abbrev AH:=List Move
def Move.cs (x:Move):AD:=[U8 x.Kind,I64 x.Box,I64 x.Slot.G5,I64 x.Slot.AB,U8 x.Slot.Half,I64 x.Gv]
def Move.av (x:Move):AV:=.agg x.cs
abbrev Ej (x:Move):AV:=.AA (Move.cs x)
abbrev E3:=LS 6 Move.av
namespace XLF
open XAF
theorem Q37 (a b:Row):rG Ep 4 139 [.int .i64 a.Draught,.int .i64 a.AU,.int .i64 a.Buoy,.int .i64 a.BP,.int .i64 a.G18] [.int .i64 b.Draught,.int .i64 b.AU,.int .i64 b.Buoy,.int .i64 b.BP,.int .i64 b.G18]=some (decide (a=b)):=by
 refine(show _=some ((a.Draught==b.Draught)&&((a.AU==b.AU)&&((a.Buoy==b.Buoy)&&((a.BP==b.BP)&&((a.G18==b.G18)&&true))))) by kernel_rfl).trans (congrArg some ?_);rw [Bool.eq_iff_iff];simp only [S8,beq_iff_eq,S9,Bool.and_true];constructor
 .intro h; obtain⟨_,_,_,_,_⟩:=a; obtain⟨_,_,_,_,_⟩:=b; simp_all
 .intro h; subst h; simp
theorem Q36 (a b:Frame):rG Ep 4 142 [.int .i64 a.X,.int .i64 a.Light,.int .i64 a.Share,.int .i64 a.Shear,.int .i64 a.Bend] [.int .i64 b.X,.int .i64 b.Light,.int .i64 b.Share,.int .i64 b.Shear,.int .i64 b.Bend]=some (decide (a=b)):=by
 refine(show _=some ((a.X==b.X)&&((a.Light==b.Light)&&((a.Share==b.Share)&&((a.Shear==b.Shear)&&((a.Bend==b.Bend)&&true))))) by kernel_rfl).trans (congrArg some ?_);rw [Bool.eq_iff_iff];simp only [S8,beq_iff_eq,S9,Bool.and_true];constructor
 .intro h; obtain⟨_,_,_,_,_⟩:=a; obtain⟨_,_,_,_,_⟩:=b; simp_all
 .intro h; subst h; simp
theorem R30 (a b:Light):rG Ep 4 25 [.int .i64 a.AU,.int .i64 a.X,.int .i64 a.Y,.int .i64 a.Z] [.int .i64 b.AU,.int .i64 b.X,.int .i64 b.Y,.int .i64 b.Z]=some (decide (a=b)):=by
 refine(show _=some ((a.AU==b.AU)&&((a.X==b.X)&&((a.Y==b.Y)&&((a.Z==b.Z)&&true)))) by kernel_rfl).trans (congrArg some ?_);rw [Bool.eq_iff_iff];simp only [S8,beq_iff_eq,S9,Bool.and_true];constructor
 .intro h; obtain⟨_,_,_,_⟩:=a; obtain⟨_,_,_,_⟩:=b; simp_all
 .intro h; subst h; simp
theorem R2f (a b:Gj):rG Ep 4 30 [.int .i64 a.AZ,.int .i64 a.Trim,.int .i64 a.BQ,.int .i64 a.BA] [.int .i64 b.AZ,.int .i64 b.Trim,.int .i64 b.BQ,.int .i64 b.BA]=some (decide (a=b)):=by
 refine(show _=some ((a.AZ==b.AZ)&&((a.Trim==b.Trim)&&((a.BQ==b.BQ)&&((a.BA==b.BA)&&true)))) by kernel_rfl).trans (congrArg some ?_);rw [Bool.eq_iff_iff];simp only [S8,beq_iff_eq,S9,Bool.and_true];constructor
 .intro h; obtain⟨_,_,_,_⟩:=a; obtain⟨_,_,_,_⟩:=b; simp_all
 .intro h; subst h; simp
theorem R2e (a b:Box):rG Ep 4 64 [.int .i64 a.ID,.string a.Number,.int .u8 a.Size,.bool a.BU,.int .i64 a.AU,.int .i64 a.Load,.int .i64 a.AQ,.int .u8 a.Class,.bool a.Reefer] [.int .i64 b.ID,.string b.Number,.int .u8 b.Size,.bool b.BU,.int .i64 b.AU,.int .i64 b.Load,.int .i64 b.AQ,.int .u8 b.Class,.bool b.Reefer]=some (decide (a=b)):=by
 refine(show _=some ((a.ID==b.ID)&&((a.Number==b.Number)&&((a.Size==b.Size)&&((a.BU==b.BU)&&((a.AU==b.AU)&&((a.Load==b.Load)&&((a.AQ==b.AQ)&&((a.Class==b.Class)&&((a.Reefer==b.Reefer)&&true))))))))) by kernel_rfl).trans (congrArg some ?_);rw [Bool.eq_iff_iff];simp only [S8,Jb6,beq_iff_eq,S9,Bool.and_true];constructor
 .intro h; obtain⟨_,_,_,_,_,_,_,_,_⟩:=a; obtain⟨_,_,_,_,_,_,_,_,_⟩:=b; simp_all
 .intro h; subst h; simp
theorem Qcf (a b:G2):rG Ep 4 68 [.int .i64 a.Box,.int .i64 a.Slot.G5,.int .i64 a.Slot.AB,.int .u8 a.Slot.Half] [.int .i64 b.Box,.int .i64 b.Slot.G5,.int .i64 b.Slot.AB,.int .u8 b.Slot.Half]=some (decide (a=b)):=by
 refine(show _=some ((a.Box==b.Box)&&(((a.Slot.G5==b.Slot.G5)&&((a.Slot.AB==b.Slot.AB)&&((a.Slot.Half==b.Slot.Half)&&true)))&&true)) by kernel_rfl).trans (congrArg some ?_);rw [Bool.eq_iff_iff];simp only [S8,beq_iff_eq,S9,Bool.and_true];constructor
 .intro h; obtain⟨_,⟨_,_,_⟩⟩:=a; obtain⟨_,⟨_,_,_⟩⟩:=b; simp_all
 .intro h; subst h; simp
theorem Q34 (a b:Move):rG Ep 4 77 [.int .u8 a.Kind,.int .i64 a.Box,.int .i64 a.Slot.G5,.int .i64 a.Slot.AB,.int .u8 a.Slot.Half,.int .i64 a.Gv] [.int .u8 b.Kind,.int .i64 b.Box,.int .i64 b.Slot.G5,.int .i64 b.Slot.AB,.int .u8 b.Slot.Half,.int .i64 b.Gv]=some (decide (a=b)):=by
 refine(show _=some ((a.Kind==b.Kind)&&((a.Box==b.Box)&&(((a.Slot.G5==b.Slot.G5)&&((a.Slot.AB==b.Slot.AB)&&((a.Slot.Half==b.Slot.Half)&&true)))&&((a.Gv==b.Gv)&&true)))) by kernel_rfl).trans (congrArg some ?_);rw [Bool.eq_iff_iff];simp only [S8,beq_iff_eq,S9,Bool.and_true];constructor
 .intro h; obtain⟨_,_,⟨_,_,_⟩,_⟩:=a; obtain⟨_,_,⟨_,_,_⟩,_⟩:=b; simp_all
 .intro h; subst h; simp
theorem Gcd:jQ Ep 139 5=true:=zR
theorem Gcc:jQ Ep 142 5=true:=zR
theorem iG:jQ Ep 145 6=true:=zR
theorem H43:jQ Ep 25 4=true:=zR
theorem H42:jQ Ep 30 4=true:=zR
theorem Hn:jQ Ep 32 13=true:=zR
theorem cP:jQ Ep 37 2=true:=zR
theorem eQ:jQ Ep 64 9=true:=zR
theorem R5:jQ Ep 68 4=true:=zR
theorem xQ:jQ Ep 77 6=true:=zR
theorem ZS:cF Ep 139=true:=zR
theorem ZR:cF Ep 142=true:=zR
theorem Hf0:cF Ep 25=true:=zR
theorem Hef:cF Ep 30=true:=zR
theorem Hee:cF Ep 64=true:=zR
theorem G6a:cF Ep 68=true:=zR
theorem G69:cF Ep 77=true:=zR
theorem mV:G83 Ep 4=true:=zR
theorem HX:Gz Ep 121=true:=zR
theorem Hdc:Gz Ep 143=true:=zR
theorem Hdb:Gz Ep 144=true:=zR
theorem Hda:Gz Ep 145=true:=zR
theorem Hd9:Gz Ep 146=true:=zR
theorem Hd8:Gz Ep 147=true:=zR
theorem Hd7:Gz Ep 148=true:=zR
theorem HW:Gz Ep 149=true:=zR
theorem Hd6:Gz Ep 150=true:=zR
theorem HV:Gz Ep 151=true:=zR
theorem Hd5:Gz Ep 152=true:=zR
theorem HU:Gz Ep 153=true:=zR
theorem J84:Gz Ep 22=true:=zR
theorem J83:Gz Ep 23=true:=zR
theorem J82:Gz Ep 24=true:=zR
theorem J81:Gz Ep 25=true:=zR
theorem J80:Gz Ep 26=true:=zR
theorem Gc4:Gz Ep 27=true:=zR
theorem J7f:Gz Ep 28=true:=zR
theorem J7e:Gz Ep 29=true:=zR
theorem J74:Gz Ep 39=true:=zR
theorem J73:Gz Ep 40=true:=zR
theorem J72:Gz Ep 41=true:=zR
theorem J6d:Gz Ep 51=true:=zR
theorem Gc3:Gz Ep 52=true:=zR
theorem J6c:Gz Ep 53=true:=zR
theorem Gc2:Gz Ep 54=true:=zR
theorem Gc1:Gz Ep 55=true:=zR
theorem Gc0:Gz Ep 56=true:=zR
theorem J6b:Gz Ep 57=true:=zR
theorem Gbf:Gz Ep 58=true:=zR
theorem Ya:Gz Ep 59=true:=zR
theorem J6a:Gz Ep 60=true:=zR
theorem Gbe:Gz Ep 61=true:=zR
theorem zI:Gz Ep 62=true:=zR
theorem Gbd:Gz Ep 63=true:=zR
theorem Gbb:Gz Ep 77=true:=zR
theorem J61:Gz Ep 79=true:=zR
theorem J60:Gz Ep 80=true:=zR
theorem J5f:Gz Ep 81=true:=zR
theorem J5e:Gz Ep 82=true:=zR
theorem J5d:Gz Ep 83=true:=zR
theorem J5c:Gz Ep 84=true:=zR
theorem J5b:Gz Ep 85=true:=zR
theorem J5a:Gz Ep 86=true:=zR
theorem J59:Gz Ep 87=true:=zR
theorem Gba:Gz Ep 88=true:=zR
theorem zG:Gz Ep 89=true:=zR
theorem tI:Gz Ep 90=true:=zR
theorem Hb2:Qh Ep 139 5 40=true:=zR
theorem Hb1:Qh Ep 142 5 40=true:=zR
theorem HM:Qh Ep 145 6 64=true:=zR
theorem mU:Qh Ep 3 1 8=true:=zR
theorem YJ:Qh Ep 41 1 24=true:=zR
theorem YI:Qh Ep 57 1 24=true:=zR
theorem YH:Qh Ep 59 12 112=true:=zR
theorem YG:Qh Ep 61 2 32=true:=zR
theorem J58:Qh Ep 64 9 64=true:=zR
theorem YF:Qh Ep 68 4 32=true:=zR
theorem eT:Qh Ep 77 6 48=true:=zR
theorem Gb6:Ep.eqGuardType Ep.depth 139=false:=zR
theorem Gb5:Ep.eqGuardType Ep.depth 142=false:=zR
theorem Jf9:Ep.eqGuardType Ep.depth 25=false:=zR
theorem Jf8:Ep.eqGuardType Ep.depth 30=false:=zR
theorem Jf7:Ep.eqGuardType Ep.depth 64=false:=zR
theorem H41:Ep.eqGuardType Ep.depth 68=false:=zR
theorem H40:Ep.eqGuardType Ep.depth 77=false:=zR
theorem HK:Jf Ep 145 0 0=true:=zR
theorem HJ:Jf Ep 145 1 1=true:=zR
theorem HI:Jf Ep 145 2 2=true:=zR
theorem HH:Jf Ep 145 3 3=true:=zR
theorem HG:Jf Ep 145 4 4=true:=zR
theorem gT:Jf Ep 145 5 5=true:=zR
theorem RN:Jf Ep 32 2 2=true:=zR
theorem jE:Jf Ep 32 3 6=true:=zR
theorem jD:Jf Ep 32 4 7=true:=zR
theorem jC:Jf Ep 32 5 8=true:=zR
theorem RM:Jf Ep 32 6 9=true:=zR
theorem R2:Jf Ep 37 0 0=true:=zR
theorem jB:Jf Ep 37 1 1=true:=zR
theorem H23:placesOf Ep 139=some [(0,1),(1,1),(2,1),(3,1),(4,1)]:=zR
theorem H22:placesOf Ep 142=some [(0,1),(1,1),(2,1),(3,1),(4,1)]:=zR
theorem H21:placesOf Ep 145=some [(0,1),(1,1),(2,1),(3,1),(4,1),(5,1)]:=zR
theorem kP:placesOf Ep 59=some [(0,1),(1,1),(2,1),(3,1),(4,1),(5,1),(6,1),(7,1),(8,1),(9,1),(10,1),(11,1)]:=zR
theorem ZP:placesOf Ep 61=some [(0,1),(1,1)]:=zR
theorem oF:placesOf Ep 64=some [(0,1),(1,1),(2,1),(3,1),(4,1),(5,1),(6,1),(7,1),(8,1)]:=zR
theorem ZN:placesOf Ep 68=some [(0,1),(1,3)]:=zR
theorem cS:placesOf Ep 77=some [(0,1),(1,1),(2,3),(5,1)]:=zR
theorem oC:Jg Ep 26=true:=zR
theorem oB:Jg Ep 27=true:=zR
theorem oA:Jg Ep 28=true:=zR
theorem R0:Jg Ep 34=true:=zR
theorem nY:Jg Ep 35=true:=zR
theorem Y9:Jg Ep 41=true:=zR
theorem Hae:Rh Ep 139 5=true:=zR
theorem Had:Rh Ep 142 5=true:=zR
theorem HD:Rh Ep 145 6=true:=zR
theorem J53:Rh Ep 22 1=true:=zR
theorem J52:Rh Ep 23 1=true:=zR
theorem J51:Rh Ep 26 1=true:=zR
theorem J50:Rh Ep 27 1=true:=zR
theorem J4f:Rh Ep 28 1=true:=zR
theorem tG:Rh Ep 32 13=true:=zR
theorem Gb0:Rh Ep 34 1=true:=zR
theorem J4e:Rh Ep 35 1=true:=zR
theorem YD:Rh Ep 37 2=true:=zR
theorem zF:Rh Ep 57 1=true:=zR
theorem dU:Rh Ep 64 9=true:=zR
theorem Yw:Rh Ep 68 4=true:=zR
theorem YC:Rh Ep 77 6=true:=zR
theorem HC:sliceB Ep 26 139 5=true:=zR
theorem HB:sliceB Ep 27 142 5=true:=zR
theorem bO:sliceB Ep 28 145 6=true:=zR
theorem Qg:sliceB Ep 33 64 9=true:=zR
theorem Je:sliceB Ep 34 41 1=true:=zR
theorem aC:sliceB Ep 35 57 1=true:=zR
theorem Jv:sliceB Ep 38 77 6=true:=zR
theorem H2:sliceB Ep 41 68 4=true:=zR
theorem G53:(Ep.info? 139).bind (fun i=>i.zero.map Value.cells)=some (List.toArray [E0,E0,E0,E0,E0]):=zR
theorem G52:(Ep.info? 142).bind (fun i=>i.zero.map Value.cells)=some (List.toArray [E0,E0,E0,E0,E0]):=zR
theorem HA:(Ep.info? 145).bind (fun i=>i.zero.map Value.cells)=some (List.toArray [E0,E0,E0,E0,E0,.slice none 0 0]):=zR
theorem tF:(Ep.info? 32).bind (fun i=>i.zero.map Value.cells)=some (List.toArray [.slice none 0 0,.slice none 0 0,E0,E0,E0,E0,.slice none 0 0,.slice none 0 0,.slice none 0 0,E0,E0,E0,E0]):=zR
theorem YB:(Ep.info? 37).bind (fun i=>i.zero.map Value.cells)=some (List.toArray [.slice none 0 0,.slice none 0 0]):=zR
theorem jT:(Ep.info? 59).bind (fun i=>i.zero.map Value.cells)=some (List.toArray [E0,E0,.bool false,E0,E0,E0,E0,E0,.slice none 0 0,E0,E0,E0]):=zR
theorem zC:(Ep.info? 61).bind (fun i=>i.zero.map Value.cells)=some (List.toArray [E0,.slice none 0 0]):=zR
theorem jS:(Ep.info? 64).bind (fun i=>i.zero.map Value.cells)=some (List.toArray [E0,.string ByteArray.empty,.int .u8 0,.bool false,E0,E0,E0,.int .u8 0,.bool false]):=zR
theorem zB:(Ep.info? 68).bind (fun i=>i.zero.map Value.cells)=some (List.toArray [E0,E0,E0,.int .u8 0]):=zR
theorem eS:(Ep.info? 77).bind (fun i=>i.zero.map Value.cells)=some (List.toArray [.int .u8 0,E0,E0,E0,.int .u8 0,E0]):=zR
theorem H6f:Rr Ep 139 5=true:=zR
theorem H6e:Rr Ep 142 5=true:=zR
theorem zA:Rr Ep 145 6=true:=zR
theorem aV:Rr Ep 3 1=true:=zR
theorem vY:Rr Ep 41 1=true:=zR
theorem GY:Rr Ep 57 1=true:=zR
theorem fL:Rr Ep 64 9=true:=zR
theorem Rg:Rr Ep 68 4=true:=zR
theorem iC:Rr Ep 77 6=true:=zR
end XLF
open XAF
open XLF

def Hw (k:Int) (i:Int):Option Int:=chk (k+7) fun a=>chk (1000003*a) fun b=>chk (b+i) fun c=>some c
theorem J7 (k:Int) (i:Int) (r:Int) (h:Hw k i=some r):Pure Ep 59 [I64 k,I64 i] (·=I64 r):=by
 unfold Hw at h;refine Gy [.tmp 4] Tryz.func59 G G (Jr fun a=>(JLm (I64 0) G (G6 (a (Jr fun b=>(JLm (I64 k) G ?_))))));obtain⟨g,c,h⟩:=Q7 h;refine JLh (I64 g) (Hx c G G G) G ?_;obtain⟨j,d,h⟩:=Q7 h;refine JLh (I64 j) (Jf2 d G G G) G (JLm (I64 i) G ?_);obtain⟨e,f,h⟩:=Q7 h;refine JLh (I64 e) (Hx f G G G) G (JLm (I64 e) G (G6 (b (Gr (AL I64 h)))))

def Rz (l:AE):Option (Ln Int):=JT 8 Hw l
theorem J21:El Ep 3 1 I64:=⟨fun ho hx=>Gb Ga ho hx,fun _=>rfl,fun _=>rfl,fun _=>rfl,fun _=>rfl⟩
theorem bV (l:AE) (r:(Ln Int)) (h:Rz l=some r):Pure Ep 62 [E2 l] (·=LT 1 I64 r):=yD H5 J21 mU aV rfl rfl Ya J7 l r h Tryz.func62

def Zd (x:G5):Option H3:=bnd (Rz x.Plugs) fun a=>some (H3.mk x.Bay x.Row x.AO x.AP x.Height x.AR x.AX x.BC a x.X x.Y x.Z)
abbrev Kd:AD:=[I64 0,I64 0,BL false,I64 0,I64 0,I64 0,I64 0,I64 0,E2 ([]:AE),I64 0,I64 0,I64 0]
theorem sM (x:G5) (r:H3) (h:Zd x=some r):Pure Ep 51 [.agg (G5.cs x)] (·=.agg (H3.cs r)):=by
 unfold Zd at h;refine Gy [.cell 2 59] Tryz.func51 G G (Jr fun b=>(JLh (.ptr 1073 0) (Jh (cs:=(G5.cs x)) 1073 G G G G G) G (JLh (.ptr 1074 0) (Y0 1074 Kd [E0,E0,.bool false,E0,E0,E0,E0,E0,.slice none 0 0,E0,E0,E0] jT ⟨.inl G,.inl G,.inl G,.inl G,.inl G,.inl G,.inl G,.inl G,.inr ⟨_,G,G⟩,.inl G,.inl G,.inl G,U⟩ G G) G (G6 (b (Jr fun c=>(JLh (.ptr 1073 8) (Qf Y2 G G) G (JLh (E2 x.Plugs) (Yr J1 G G G G) G ?_))))))));obtain⟨a,d,h⟩:=Gd h;refine JLh (LT 1 I64 a) (Gn G (bV x.Plugs a d) zI ⟨G,G,U⟩) G (JLh (.ptr 1073 8) (Qf Y2 G G) G (J3 (u:=.AJ) (Hm (u:=LT 1 I64 a) (ds:=[I64 x.Bay,I64 x.Row,BL x.AO,I64 x.AP,I64 x.Height,I64 x.AR,I64 x.AX,I64 x.BC,LT 1 I64 a,I64 x.X,I64 x.Y,I64 x.Z]) zF G G G G G G G G) (G6 (c (Gu [(1,.AA [I64 x.Bay,I64 x.Row,BL x.AO,I64 x.AP,I64 x.Height,I64 x.AR,I64 x.AX,I64 x.BC,LT 1 I64 a,I64 x.X,I64 x.Y,I64 x.Z]),(2,.ptr 1074 0)] [(1074,.box 59 Kd)] 1073 rfl rfl rfl ⟨GO,U⟩ rfl (by exact⟨.ptr,.conv .same,U⟩) ?_)))));refine Jr fun e=>(JLh (.agg [I64 x.Bay,I64 x.Row,BL x.AO,I64 x.AP,I64 x.Height,I64 x.AR,I64 x.AX,I64 x.BC,LT 1 I64 a,I64 x.X,I64 x.Y,I64 x.Z]) (Gi Zm G G G) G (J3 (u:=.AJ) (Hm (u:=.agg [I64 x.Bay,I64 x.Row,BL x.AO,I64 x.AP,I64 x.Height,I64 x.AR,I64 x.AX,I64 x.BC,LT 1 I64 a,I64 x.X,I64 x.Y,I64 x.Z]) (ds:=[I64 x.Bay,I64 x.Row,BL x.AO,I64 x.AP,I64 x.Height,I64 x.AR,I64 x.AX,I64 x.BC,LT 1 I64 a,I64 x.X,I64 x.Y,I64 x.Z]) jU G G G G G G G G) (G6 (e (Gr ?_)))));exact⟨[.agg [I64 x.Bay,I64 x.Row,BL x.AO,I64 x.AP,I64 x.Height,I64 x.AR,I64 x.AX,I64 x.BC,LT 1 I64 a,I64 x.X,I64 x.Y,I64 x.Z]],[],U,G,⟨⟨_,⟨_,_,_,_,G,G,G,.inl ⟨Zm,G⟩⟩,.conv (.same G)⟩,U⟩,G,congrArg (fun r:H3=>(.agg (H3.cs r):AV)) (Pw h)⟩

def Rc (k:Int) (i:Int):Option G5:=bnd (Hw k i) fun a=>some (G5.mk a 0 false 0 0 0 0 0 [] 0 0 0)
abbrev Ke (a:Int):AD:=[I64 a,I64 0,BL false,I64 0,I64 0,I64 0,I64 0,I64 0,E2 ([]:AE),I64 0,I64 0,I64 0]
theorem jO (k:Int) (i:Int) (r:G5) (h:Rc k i=some r):Pure Ep 52 [I64 k,I64 i] (·=.agg (G5.cs r)):=by
 unfold Rc at h;refine Gy [.cell 4 59] Tryz.func52 G G (Jr fun b=>(JLh (.ptr 1075 0) (Y0 1075 Kd [E0,E0,.bool false,E0,E0,E0,E0,E0,.slice none 0 0,E0,E0,E0] jT ⟨.inl G,.inl G,.inl G,.inl G,.inl G,.inl G,.inl G,.inl G,.inr ⟨_,G,G⟩,.inl G,.inl G,.inl G,U⟩ G G) G (G6 (b (Jr fun c=>(JLm (I64 k) G (JLm (I64 i) G ?_)))))));obtain⟨a,d,h⟩:=Gd h;refine JLh (I64 a) (Gn G (J7 k i a d) Ya ⟨G,G,G,G,U⟩) G (JLh (.agg (Ke a)) (Jb (cs:=(Ke a)) [(0,1),(1,1),(2,1),(3,1),(4,1),(5,1),(6,1),(7,1),(8,1),(9,1),(10,1),(11,1)] Kd [E0,E0,.bool false,E0,E0,E0,E0,E0,.slice none 0 0,E0,E0,E0] kP jT ⟨.inl G,.inl G,.inl G,.inl G,.inl G,.inl G,.inl G,.inl G,.inr ⟨_,G,G⟩,.inl G,.inl G,.inl G,U⟩ G G) G (J3 (u:=.AJ) (Hm (u:=.agg (Ke a)) (ds:=(Ke a)) jU G G G G G G G G) (G6 (c ?_))));refine Gr (⟨[.agg (Ke a)],[],U,G,⟨⟨_,⟨_,_,_,_,G,G,G,.inl ⟨Zm,G⟩⟩,.conv (.same G)⟩,U⟩,G,congrArg (fun r:G5=>(.agg (G5.cs r):AV)) (Pw h)⟩)

def Yy (l:List G5):Option (Ln H3):=chk ((l.length:Int)+12) fun k=>bnd (xU k) fun h=>need (decide (112*h<=281474976710656/\h<=maxLen)) <| each (fun i m (c:(List H3)) f=>bnd (Zd i) fun d=>need (decide ((c.length+[d].length)*112<=140737488355328/\c.length+[d].length<=maxLen)) <| f (c++[d])) (fun(c:(List H3))=>need (decide (12<=9223372036854775807)) <| upto (fun j (b:(List H3)) g=>bnd (Rc 1 (j:Int)) fun a=>need (decide ((b.length+[(H3.mk a.Bay a.Row a.AO a.AP a.Height a.AR a.AX a.BC (a.Plugs,([]:AE)) a.X a.Y a.Z)].length)*112<=140737488355328/\b.length+[(H3.mk a.Bay a.Row a.AO a.AP a.Height a.AR a.AX a.BC (a.Plugs,([]:AE)) a.X a.Y a.Z)].length<=maxLen)) <| g (b++[(H3.mk a.Bay a.Row a.AO a.AP a.Height a.AR a.AX a.BC (a.Plugs,([]:AE)) a.X a.Y a.Z)])) (fun(b:(List H3))=>bnd (oP (l.length:Int) b.length) fun e=>some (b.take e,b.drop e)) (12:Int).toNat 0 c) l 0 []
abbrev Kf (a:G5):List H3:=[(H3.mk a.Bay a.Row a.AO a.AP a.Height a.AR a.AX a.BC (a.Plugs,([]:AE)) a.X a.Y a.Z)]
abbrev Kg (a:G5):AD:=[I64 a.Bay,I64 a.Row,BL a.AO,I64 a.AP,I64 a.Height,I64 a.AR,I64 a.AX,I64 a.BC,LT 1 I64 (a.Plugs,([]:AE)),I64 a.X,I64 a.Y,I64 a.Z]
theorem rO (l:List G5) (r:(Ln H3)) (h:Yy l=some r):Pure Ep 22 [E5 l] (·=LT 12 H3.av r):=by
 unfold Yy at h;refine Gy [.tmp 2] Tryz.func22 G G (Jr fun b8=>(JLh (E5 ([]:List G5)) (Jx 12 G G) G (G6 (b8 (Jr fun b9=>(JLm (E5 l) G (JLl Hj G G G fun d3=>?_)))))));obtain⟨v3,c0,h⟩:=Q7 h;refine JLh (I64 v3) (Hx c0 G G G) G ?_;obtain⟨m4,c1,h⟩:=Gd h;obtain⟨c2,h⟩:=J5 h;refine JLh (OW 1040 12 H3.av ([]:List H3)) (pY 1040 G G G G Hj YH G (mX c1) c2) G (JLm (OW 1040 12 H3.av ([]:List H3)) G (G6 (b9 (Js fun c3=>Jr fun c4=>(JLm (I64 0) G (G6 (c4 (Gf ?_))))))));obtain⟨c5,s,t,p,h⟩:=J6 h;refine zAC h (fun b c=>[(0,E5 l),(3,OW 1040 12 H3.av c),(4,Eo b)]) (fun b c=>[(1040,.spare 59 12 c.length c.length)]) ⟨(.sm G G),⟨⟨_,G,.same⟩,U⟩,G⟩ ?_;clear h;intro b c k d4 c6;refine Js fun v=>Jr fun w=>(JLm (Eo b) G (JLm (E5 l) G (JLl Hj G G G fun x=>(JLh (BL (decide ((b:Int) < (l.length:Int)))) (Hs G G G) G (G6 (w (Gh G (fun hb=>?_) (fun hb=>?_))))))))
 .have m:=Jp hb;obtain⟨i,d0,z,a0,h⟩:=Hu k m;replace h:=Yg t h;refine Gk (v (Js fun a1=>Gf (Jr fun a2=>(JLm (E5 l) G (JLm (Eo b) G (JLh (Eh i) (Gs (f:=G5.av) (xs:=l) (y:=i) G G G Hj z G) G (JLh (.agg (G5.cs i)) (Gi Zm G G G) G ?_)))))));obtain⟨e,a3,h⟩:=Gd h;refine JLh (.agg (H3.cs e)) (Gn G (sM i e a3) J6d ⟨G,G,U⟩) G (JLh (.ptr 1039 0) (Jo 1039 12 fN G G) G (J3 (u:=.AJ) (Hm (u:=.agg (H3.cs e)) (ds:=(H3.cs e)) jU G G G G G G G G) (G6 (a2 (fzQ [(0,E5 l),(3,OW 1040 12 H3.av c),(4,Eo b),(5,.AA (H3.cs e))] [(1040,.spare 59 12 c.length c.length)] 1039 rfl rfl rfl ⟨zAB,U⟩ rfl (G1 ?_))))));refine JLm (OW 1040 12 H3.av c) G (JLh (.agg (H3.cs e)) (Gi Zm G G G) G (JLh (LS 12 H3.av [e]) (Hf (xs:=[.agg (H3.cs e)]) G ⟨G,G,U⟩ Hj fN G G G G) G ?_));obtain⟨a4,h⟩:=J5 h;refine JLh (OW 1040 12 H3.av (c++[e])) (Rf (f:=H3.av) (xs:=c) (ys:=[e]) G G G G Hj YH a4 (fun _=>G) (.inl G) G) G (JLm (OW 1040 12 H3.av (c++[e])) G (G6 (a1 (G1 (JLm (Eo b) G (JLh (I64 ((b+1:Nat):Int)) (Hx (Hc m x) G G G) G (JLm (I64 ((b+1:Nat):Int)) G (G6 (c6 _ _ (b+1) (c++[e]) (app1 a0 h) (by omega) ⟨(.sm G G),⟨zAB,U⟩,rfl⟩)))))))))
 .have h:=app1 p (Hv k (Ha hb));refine H9 (c3 (Js fun a5=>Jr fun a6=>(JLm (I64 0) G (G6 (a6 (Gf ?_))))));obtain⟨a7,h⟩:=J5 h;obtain⟨c7,a8,a9,q,h⟩:=fD h;refine zAD h (fun d a=>[(0,E5 l),(3,OW 1040 12 H3.av a),(6,Eo d)]) (fun d a=>[(1040,.spare 59 12 a.length a.length)]) ⟨(.sm G G),⟨⟨_,G,.same⟩,U⟩,G⟩ ?_;clear h;intro d a n d5 c8;refine Js fun b0=>Jr fun b1=>(JLm (Eo d) G (JLh (BL (decide ((d:Int) < 12))) (Hs G G G) G (G6 (b1 (Gh G (fun hb=>?_) (fun hb=>?_))))))
  .have o:=cE hb;obtain⟨d1,b2,h⟩:=cC n o;replace h:=yG a9 h;refine Gk (b0 (Js fun b3=>Gf (G1 (JLm (OW 1040 12 H3.av a) G (JLm (Eo d) G ?_)))));obtain⟨g,b4,h⟩:=Gd h;refine JLh (.agg (Kg g)) (H1.cv (Cv.aggL (cs:=(G5.cs g)) ⟨.same,.same,.same,.same,.same,.same,.same,.same,Cv.of0 g.Plugs,.same,.same,.same,U⟩) (Gn G (jO 1 (d:Int) g b4) Gc3 ⟨G,G,G,G,U⟩)) G (JLh (LS 12 H3.av ((Kf g))) (Hf (xs:=[.agg (Kg g)]) G ⟨G,G,U⟩ Hj fN G G G G) G ?_);obtain⟨b5,h⟩:=J5 h;refine JLh (OW 1040 12 H3.av (a++(Kf g))) (Rf (f:=H3.av) (xs:=a) (ys:=(Kf g)) G G G G Hj YH b5 (fun _=>G) (.inl G) G) G (JLm (OW 1040 12 H3.av (a++(Kf g))) G (G6 (b3 (G1 (JLm (Eo d) G (JLh (I64 ((d+1:Nat):Int)) (Hx (Hc o (Zk a7)) G G G) G (JLm (I64 ((d+1:Nat):Int)) G (G6 ?_))))))));exact c8 _ _ (d+1) (a++(Kf g)) (app1 b2 h) (by omega) ⟨(.sm G G),⟨zAB,U⟩,rfl⟩
  .have h:=app1 q (cD n (R7 hb));refine H9 (a5 (Jr fun b6=>(JLm (OW 1040 12 H3.av a) G (JLm (E5 l) G (JLl Hj G G G fun d2=>?_)))));obtain⟨j,b7,h⟩:=Gd h;refine JLh (LT 12 H3.av (a.take j,a.drop j)) (H67 (f:=H3.av) (xs:=a) G G G Hj (kS b7)) G (JLm (LT 12 H3.av (a.take j,a.drop j)) G (G6 (b6 (Gr (AL (fun r:(Ln H3)=>(LT 12 H3.av r:AV)) h)))))

def Zx (x:Gv):Option Hi:=bnd (Rz x.Rows) fun a=>some (Hi.mk x.Bay a)
theorem uW (x:Gv) (r:Hi) (h:Zx x=some r):Pure Ep 53 [.agg [I64 x.Bay,E2 x.Rows]] (·=.agg [I64 r.Bay,LT 1 I64 r.Rows]):=by
 unfold Zx at h;refine Gy [.cell 2 61] Tryz.func53 G G (Jr fun b=>(JLh (.ptr 1076 0) (Jh (cs:=[I64 x.Bay,E2 x.Rows]) 1076 G G G G G) G (JLh (.ptr 1077 0) (Y0 1077 [I64 0,E2 ([]:AE)] [E0,.slice none 0 0] zC ⟨.inl G,.inr ⟨_,G,G⟩,U⟩ G G) G (G6 (b (Jr fun c=>(JLh (.ptr 1076 1) (Qf Qp G G) G (JLh (E2 x.Rows) (Yr J1 G G G G) G ?_))))))));obtain⟨a,d,h⟩:=Gd h;refine JLh (LT 1 I64 a) (Gn G (bV x.Rows a d) zI ⟨G,G,U⟩) G (JLh (.ptr 1076 1) (Qf Qp G G) G (J3 (u:=.AJ) (Hm (u:=LT 1 I64 a) (ds:=[I64 x.Bay,LT 1 I64 a]) zF G G G G G G G G) (G6 (c (Gu [(1,.AA [I64 x.Bay,LT 1 I64 a]),(2,.ptr 1077 0)] [(1077,.box 61 [I64 0,E2 ([]:AE)])] 1076 rfl rfl rfl ⟨GO,U⟩ rfl (by exact⟨.ptr,.conv .same,U⟩) (Jr fun e=>(JLh (.agg [I64 x.Bay,LT 1 I64 a]) (Gi cO G G G) G (J3 (u:=.AJ) (Hm (u:=.agg [I64 x.Bay,LT 1 I64 a]) (ds:=[I64 x.Bay,LT 1 I64 a]) mN G G G G G G G G) (G6 (e (Gr ?_)))))))))));exact⟨[.agg [I64 x.Bay,LT 1 I64 a]],[],U,G,⟨⟨_,⟨_,_,_,_,G,G,G,.inl ⟨cO,G⟩⟩,.conv (.same G)⟩,U⟩,G,congrArg (fun r:Hi=>(.agg [I64 r.Bay,LT 1 I64 r.Rows]:AV)) (Pw h)⟩

def Ro (k:Int) (i:Int):Option Gv:=bnd (Hw k i) fun a=>some (Gv.mk a [])
theorem kH (k:Int) (i:Int) (r:Gv) (h:Ro k i=some r):Pure Ep 54 [I64 k,I64 i] (·=.agg [I64 r.Bay,E2 r.Rows]):=by
 unfold Ro at h;refine Gy [.cell 4 61] Tryz.func54 G G (Jr fun b=>(JLh (.ptr 1078 0) (Y0 1078 [I64 0,E2 ([]:AE)] [E0,.slice none 0 0] zC ⟨.inl G,.inr ⟨_,G,G⟩,U⟩ G G) G (G6 (b (Jr fun c=>(JLm (I64 k) G (JLm (I64 i) G ?_)))))));obtain⟨a,d,h⟩:=Gd h;refine JLh (I64 a) (Gn G (J7 k i a d) Ya ⟨G,G,G,G,U⟩) G (JLh (.agg [I64 a,E2 ([]:AE)]) (Jb (cs:=[I64 a,E2 ([]:AE)]) [(0,1),(1,1)] [I64 0,E2 ([]:AE)] [E0,.slice none 0 0] ZP zC ⟨.inl G,.inr ⟨_,G,G⟩,U⟩ G G) G (J3 (u:=.AJ) (Hm (u:=.agg [I64 a,E2 ([]:AE)]) (ds:=[I64 a,E2 ([]:AE)]) mN G G G G G G G G) (G6 (c (Gr (⟨[.agg [I64 a,E2 ([]:AE)]],[],U,G,⟨⟨_,⟨_,_,_,_,G,G,G,.inl ⟨cO,G⟩⟩,.conv (.same G)⟩,U⟩,G,congrArg (fun r:Gv=>(.agg [I64 r.Bay,E2 r.Rows]:AV)) (Pw h)⟩))))))

def Zc (l:List Gv):Option (Ln Hi):=chk ((l.length:Int)+12) fun k=>bnd (xU k) fun h=>need (decide (32*h<=281474976710656/\h<=maxLen)) <| each (fun i m (c:(List Hi)) f=>bnd (Zx i) fun d=>need (decide ((c.length+[d].length)*32<=140737488355328/\c.length+[d].length<=maxLen)) <| f (c++[d])) (fun(c:(List Hi))=>need (decide (12<=9223372036854775807)) <| upto (fun j (a:(List Hi)) g=>bnd (Ro 1 (j:Int)) fun b=>need (decide ((a.length+[(Hi.mk b.Bay (b.Rows,([]:AE)))].length)*32<=140737488355328/\a.length+[(Hi.mk b.Bay (b.Rows,([]:AE)))].length<=maxLen)) <| g (a++[(Hi.mk b.Bay (b.Rows,([]:AE)))])) (fun(a:(List Hi))=>bnd (oP (l.length:Int) a.length) fun e=>some (a.take e,a.drop e)) (12:Int).toNat 0 c) l 0 []
abbrev Kh (a:Gv):List Hi:=[(Hi.mk a.Bay (a.Rows,([]:AE)))]
abbrev Ki (a:Hi):AD:=[I64 a.Bay,LT 1 I64 a.Rows]
theorem sL (l:List Gv) (r:(Ln Hi)) (h:Zc l=some r):Pure Ep 23 [E6 l] (·=LT 2 Hi.av r):=by
 unfold Zc at h;refine Gy [.tmp 2] Tryz.func23 G G (Jr fun b8=>(JLh (E6 ([]:List Gv)) (Jx 2 G G) G (G6 (b8 (Jr fun b9=>(JLm (E6 l) G (JLl Jj G G G fun d3=>?_)))))));obtain⟨v3,c0,h⟩:=Q7 h;refine JLh (I64 v3) (Hx c0 G G G) G ?_;obtain⟨m4,c1,h⟩:=Gd h;obtain⟨c2,h⟩:=J5 h;refine JLh (OW 1042 2 Hi.av ([]:List Hi)) (pY 1042 G G G G Jj YG G (mX c1) c2) G (JLm (OW 1042 2 Hi.av ([]:List Hi)) G (G6 (b9 (Js fun c3=>Jr fun c4=>(JLm (I64 0) G (G6 (c4 (Gf ?_))))))));obtain⟨c5,s,t,p,h⟩:=J6 h;refine zAC h (fun b c=>[(0,E6 l),(3,OW 1042 2 Hi.av c),(4,Eo b)]) (fun b c=>[(1042,.spare 61 2 c.length c.length)]) ⟨(.sm G G),⟨⟨_,G,.same⟩,U⟩,G⟩ ?_;clear h;intro b c k d4 c6;refine Js fun v=>Jr fun w=>(JLm (Eo b) G (JLm (E6 l) G (JLl Jj G G G fun x=>(JLh (BL (decide ((b:Int) < (l.length:Int)))) (Hs G G G) G (G6 (w (Gh G (fun hb=>?_) (fun hb=>?_))))))))
 .have m:=Jp hb;obtain⟨i,d0,z,a0,h⟩:=Hu k m;replace h:=Yg t h;refine Gk (v (Js fun a1=>Gf (Jr fun a2=>(JLm (E6 l) G (JLm (Eo b) G (JLh (.AA [I64 i.Bay,E2 i.Rows]) (Gs (f:=Gv.av) (xs:=l) (y:=i) G G G Jj z G) G (JLh (.agg [I64 i.Bay,E2 i.Rows]) (Gi cO G G G) G ?_)))))));obtain⟨g,a3,h⟩:=Gd h;refine JLh (.agg (Ki g)) (Gn G (uW i g a3) J6c ⟨G,G,U⟩) G (JLh (.ptr 1041 0) (Jo 1041 2 iD G G) G (J3 (u:=.AJ) (Hm (u:=.agg (Ki g)) (ds:=(Ki g)) mN G G G G G G G G) (G6 (a2 (fzQ [(0,E6 l),(3,OW 1042 2 Hi.av c),(4,Eo b),(5,.AA (Ki g))] [(1042,.spare 61 2 c.length c.length)] 1041 rfl rfl rfl ⟨zAB,U⟩ rfl (G1 ?_))))));refine JLm (OW 1042 2 Hi.av c) G (JLh (.agg (Ki g)) (Gi cO G G G) G (JLh (LS 2 Hi.av [g]) (Hf (xs:=[.agg (Ki g)]) G ⟨G,G,U⟩ Jj iD G G G G) G ?_));obtain⟨a4,h⟩:=J5 h;refine JLh (OW 1042 2 Hi.av (c++[g])) (Rf (f:=Hi.av) (xs:=c) (ys:=[g]) G G G G Jj YG a4 (fun _=>G) (.inl G) G) G (JLm (OW 1042 2 Hi.av (c++[g])) G (G6 (a1 (G1 (JLm (Eo b) G (JLh (I64 ((b+1:Nat):Int)) (Hx (Hc m x) G G G) G (JLm (I64 ((b+1:Nat):Int)) G (G6 (c6 _ _ (b+1) (c++[g]) (app1 a0 h) (by omega) ⟨(.sm G G),⟨zAB,U⟩,rfl⟩)))))))))
 .have h:=app1 p (Hv k (Ha hb));refine H9 (c3 (Js fun a5=>Jr fun a6=>(JLm (I64 0) G (G6 (a6 (Gf ?_))))));obtain⟨a7,h⟩:=J5 h;obtain⟨c7,a8,a9,q,h⟩:=fD h;refine zAD h (fun d a=>[(0,E6 l),(3,OW 1042 2 Hi.av a),(6,Eo d)]) (fun d a=>[(1042,.spare 61 2 a.length a.length)]) ⟨(.sm G G),⟨⟨_,G,.same⟩,U⟩,G⟩ ?_;clear h;intro d a n d5 c8;refine Js fun b0=>Jr fun b1=>(JLm (Eo d) G (JLh (BL (decide ((d:Int) < 12))) (Hs G G G) G (G6 (b1 (Gh G (fun hb=>?_) (fun hb=>?_))))))
  .have o:=cE hb;obtain⟨d1,b2,h⟩:=cC n o;replace h:=yG a9 h;refine Gk (b0 (Js fun b3=>Gf (G1 (JLm (OW 1042 2 Hi.av a) G (JLm (Eo d) G ?_)))));obtain⟨e,b4,h⟩:=Gd h;refine JLh (.agg [I64 e.Bay,LT 1 I64 (e.Rows,([]:AE))]) (H1.cv (Cv.aggL (cs:=[I64 e.Bay,E2 e.Rows]) ⟨.same,Cv.of0 e.Rows,U⟩) (Gn G (kH 1 (d:Int) e b4) Gc2 ⟨G,G,G,G,U⟩)) G (JLh (LS 2 Hi.av ((Kh e))) (Hf (xs:=[.agg [I64 e.Bay,LT 1 I64 (e.Rows,([]:AE))]]) G ⟨G,G,U⟩ Jj iD G G G G) G ?_);obtain⟨b5,h⟩:=J5 h;refine JLh (OW 1042 2 Hi.av (a++(Kh e))) (Rf (f:=Hi.av) (xs:=a) (ys:=(Kh e)) G G G G Jj YG b5 (fun _=>G) (.inl G) G) G (JLm (OW 1042 2 Hi.av (a++(Kh e))) G (G6 (b3 (G1 (JLm (Eo d) G (JLh (I64 ((d+1:Nat):Int)) (Hx (Hc o (Zk a7)) G G G) G (JLm (I64 ((d+1:Nat):Int)) G (G6 (c8 _ _ (d+1) (a++(Kh e)) (app1 b2 h) (by omega) ⟨(.sm G G),⟨zAB,U⟩,rfl⟩)))))))))
  .have h:=app1 q (cD n (R7 hb));refine H9 (a5 (Jr fun b6=>(JLm (OW 1042 2 Hi.av a) G (JLm (E6 l) G (JLl Jj G G G fun d2=>?_)))));obtain⟨j,b7,h⟩:=Gd h;refine JLh (LT 2 Hi.av (a.take j,a.drop j)) (H67 (f:=Hi.av) (xs:=a) G G G Jj (kS b7)) G (JLm (LT 2 Hi.av (a.take j,a.drop j)) G (G6 (b6 (Gr (AL (fun r:(Ln Hi)=>(LT 2 Hi.av r:AV)) h)))))

def Ye (k:Int) (i:Int):Option Row:=bnd (Hw k i) fun a=>some (Row.mk 0 a 0 0 0)
abbrev Kj (a:Int):AD:=[I64 0,I64 a,I64 0,I64 0,I64 0]
theorem lU (k:Int) (i:Int) (r:Row) (h:Ye k i=some r):Pure Ep 55 [I64 k,I64 i] (·=.agg (Row.cs r)):=by
 unfold Ye at h;refine Gy [.cell 4 139] Tryz.func55 G G (Jr fun b=>(JLh (.ptr 1079 0) (Y0 1079 [I64 0,I64 0,I64 0,I64 0,I64 0] [E0,E0,E0,E0,E0] G53 (zzQ G) G G) G (G6 (b (Jr fun c=>(JLm (I64 k) G (JLm (I64 i) G ?_)))))));obtain⟨a,d,h⟩:=Gd h;refine JLh (I64 a) (Gn G (J7 k i a d) Ya ⟨G,G,G,G,U⟩) G (JLh (.agg (Kj a)) (Jb (cs:=(Kj a)) [(0,1),(1,1),(2,1),(3,1),(4,1)] [I64 0,I64 0,I64 0,I64 0,I64 0] [E0,E0,E0,E0,E0] H23 G53 (zzQ G) G G) G (J3 (u:=.AJ) (Hm (u:=.agg (Kj a)) (ds:=(Kj a)) Hae G G G G G G G G) (G6 (c (Gr (⟨[.agg (Kj a)],[],U,G,⟨⟨_,⟨_,_,_,_,G,G,G,.inl ⟨Gcd,G⟩⟩,.conv (.same G)⟩,U⟩,G,congrArg (fun r:Row=>(.agg (Row.cs r):AV)) (Pw h)⟩))))))

def dR (l:List Row):Option (Ln Row):=JT 40 Ye l
theorem wX:El Ep 139 5 Row.av:=⟨fun ho hx=>Gi Gcd ho hx,fun _=>rfl,fun _=>rfl,fun _=>rfl,fun _=>rfl⟩
theorem vR (l:List Row) (r:(Ln Row)) (h:dR l=some r):Pure Ep 24 [Ec l] (·=LT 5 Row.av r):=yD HC wX Hb2 H6f rfl rfl Gc1 lU l r h Tryz.func24

def Rn (k:Int) (i:Int):Option Frame:=bnd (Hw k i) fun a=>some (Frame.mk a 0 0 0 0)
abbrev Kk (a:Int):AD:=[I64 a,I64 0,I64 0,I64 0,I64 0]
theorem kG (k:Int) (i:Int) (r:Frame) (h:Rn k i=some r):Pure Ep 56 [I64 k,I64 i] (·=.agg (Frame.cs r)):=by
 unfold Rn at h;refine Gy [.cell 4 142] Tryz.func56 G G (Jr fun b=>(JLh (.ptr 1080 0) (Y0 1080 [I64 0,I64 0,I64 0,I64 0,I64 0] [E0,E0,E0,E0,E0] G52 (zzQ G) G G) G (G6 (b (Jr fun c=>(JLm (I64 k) G (JLm (I64 i) G ?_)))))));obtain⟨a,d,h⟩:=Gd h;refine JLh (I64 a) (Gn G (J7 k i a d) Ya ⟨G,G,G,G,U⟩) G (JLh (.agg (Kk a)) (Jb (cs:=(Kk a)) [(0,1),(1,1),(2,1),(3,1),(4,1)] [I64 0,I64 0,I64 0,I64 0,I64 0] [E0,E0,E0,E0,E0] H22 G52 (zzQ G) G G) G (J3 (u:=.AJ) (Hm (u:=.agg (Kk a)) (ds:=(Kk a)) Had G G G G G G G G) (G6 (c (Gr (⟨[.agg (Kk a)],[],U,G,⟨⟨_,⟨_,_,_,_,G,G,G,.inl ⟨Gcc,G⟩⟩,.conv (.same G)⟩,U⟩,G,congrArg (fun r:Frame=>(.agg (Frame.cs r):AV)) (Pw h)⟩))))))

def bW (l:List Frame):Option (Ln Frame):=JT 40 Rn l
theorem rI:El Ep 142 5 Frame.av:=⟨fun ho hx=>Gi Gcc ho hx,fun _=>rfl,fun _=>rfl,fun _=>rfl,fun _=>rfl⟩
theorem sK (l:List Frame) (r:(Ln Frame)) (h:bW l=some r):Pure Ep 25 [Eb l] (·=LT 5 Frame.av r):=yD HB rI Hb1 H6e rfl rfl Gc0 kG l r h Tryz.func25

def aK (x:Hz):Option J2:=bnd (Rz x.Steps) fun a=>some (J2.mk x.AU x.X x.Y x.Z x.AY a)
abbrev Km:AD:=[I64 0,I64 0,I64 0,I64 0,I64 0,E2 ([]:AE)]
theorem vQ (x:Hz) (r:J2) (h:aK x=some r):Pure Ep 57 [.agg (Hz.cs x)] (·=.agg (J2.cs r)):=by
 unfold aK at h;refine Gy [.cell 2 145] Tryz.func57 G G (Jr fun b=>(JLh (.ptr 1081 0) (Jh (cs:=[I64 x.AU,I64 x.X,I64 x.Y,I64 x.Z,I64 x.AY,E2 x.Steps]) 1081 G G G G G) G (JLh (.ptr 1082 0) (Y0 1082 Km [E0,E0,E0,E0,E0,.slice none 0 0] HA ⟨.inl G,.inl G,.inl G,.inl G,.inl G,.inr ⟨_,G,G⟩,U⟩ G G) G (G6 (b (Jr fun c=>(JLh (.ptr 1081 5) (Qf gT G G) G (JLh (E2 x.Steps) (Yr J1 G G G G) G ?_))))))));obtain⟨a,d,h⟩:=Gd h;refine JLh (LT 1 I64 a) (Gn G (bV x.Steps a d) zI ⟨G,G,U⟩) G (JLh (.ptr 1081 5) (Qf gT G G) G (J3 (u:=.AJ) (Hm (u:=LT 1 I64 a) (ds:=[I64 x.AU,I64 x.X,I64 x.Y,I64 x.Z,I64 x.AY,LT 1 I64 a]) zF G G G G G G G G) (G6 (c (Gu [(1,.AA [I64 x.AU,I64 x.X,I64 x.Y,I64 x.Z,I64 x.AY,LT 1 I64 a]),(2,.ptr 1082 0)] [(1082,.box 145 Km)] 1081 rfl rfl rfl ⟨GO,U⟩ rfl (by exact⟨.ptr,.conv .same,U⟩) ?_)))));refine Jr fun e=>(JLh (.agg [I64 x.AU,I64 x.X,I64 x.Y,I64 x.Z,I64 x.AY,LT 1 I64 a]) (Gi iG G G G) G (J3 (u:=.AJ) (Hm (u:=.agg [I64 x.AU,I64 x.X,I64 x.Y,I64 x.Z,I64 x.AY,LT 1 I64 a]) (ds:=[I64 x.AU,I64 x.X,I64 x.Y,I64 x.Z,I64 x.AY,LT 1 I64 a]) HD G G G G G G G G) (G6 (e (Gr (⟨[.agg [I64 x.AU,I64 x.X,I64 x.Y,I64 x.Z,I64 x.AY,LT 1 I64 a]],[],U,G,⟨⟨_,⟨_,_,_,_,G,G,G,.inl ⟨iG,G⟩⟩,.conv (.same G)⟩,U⟩,G,congrArg (fun r:J2=>(.agg (J2.cs r):AV)) (Pw h)⟩))))))

def Rx (k:Int) (i:Int):Option Hz:=bnd (Hw k i) fun a=>some (Hz.mk a 0 0 0 0 [])
abbrev Kn (a:Int):AD:=[I64 a,I64 0,I64 0,I64 0,I64 0,E2 ([]:AE)]
theorem lG (k:Int) (i:Int) (r:Hz) (h:Rx k i=some r):Pure Ep 58 [I64 k,I64 i] (·=.agg (Hz.cs r)):=by
 unfold Rx at h;refine Gy [.cell 4 145] Tryz.func58 G G (Jr fun b=>(JLh (.ptr 1083 0) (Y0 1083 Km [E0,E0,E0,E0,E0,.slice none 0 0] HA ⟨.inl G,.inl G,.inl G,.inl G,.inl G,.inr ⟨_,G,G⟩,U⟩ G G) G (G6 (b (Jr fun c=>(JLm (I64 k) G (JLm (I64 i) G ?_)))))));obtain⟨a,d,h⟩:=Gd h;refine JLh (I64 a) (Gn G (J7 k i a d) Ya ⟨G,G,G,G,U⟩) G (JLh (.agg (Kn a)) (Jb (cs:=(Kn a)) [(0,1),(1,1),(2,1),(3,1),(4,1),(5,1)] Km [E0,E0,E0,E0,E0,.slice none 0 0] H21 HA ⟨.inl G,.inl G,.inl G,.inl G,.inl G,.inr ⟨_,G,G⟩,U⟩ G G) G (J3 (u:=.AJ) (Hm (u:=.agg (Kn a)) (ds:=(Kn a)) HD G G G G G G G G) (G6 (c (Gr ?_)))));exact⟨[.agg (Kn a)],[],U,G,⟨⟨_,⟨_,_,_,_,G,G,G,.inl ⟨iG,G⟩⟩,.conv (.same G)⟩,U⟩,G,congrArg (fun r:Hz=>(.agg (Hz.cs r):AV)) (Pw h)⟩

def Zw (l:List Hz):Option (Ln J2):=chk ((l.length:Int)+12) fun k=>bnd (xU k) fun h=>need (decide (64*h<=281474976710656/\h<=maxLen)) <| each (fun i m (c:(List J2)) f=>bnd (aK i) fun d=>need (decide ((c.length+[d].length)*64<=140737488355328/\c.length+[d].length<=maxLen)) <| f (c++[d])) (fun(c:(List J2))=>need (decide (12<=9223372036854775807)) <| upto (fun j (b:(List J2)) g=>bnd (Rx 1 (j:Int)) fun a=>need (decide ((b.length+[(J2.mk a.AU a.X a.Y a.Z a.AY (a.Steps,([]:AE)))].length)*64<=140737488355328/\b.length+[(J2.mk a.AU a.X a.Y a.Z a.AY (a.Steps,([]:AE)))].length<=maxLen)) <| g (b++[(J2.mk a.AU a.X a.Y a.Z a.AY (a.Steps,([]:AE)))])) (fun(b:(List J2))=>bnd (oP (l.length:Int) b.length) fun e=>some (b.take e,b.drop e)) (12:Int).toNat 0 c) l 0 []
abbrev Ko (a:Hz):List J2:=[(J2.mk a.AU a.X a.Y a.Z a.AY (a.Steps,([]:AE)))]
abbrev Kp (a:Hz):AD:=[I64 a.AU,I64 a.X,I64 a.Y,I64 a.Z,I64 a.AY,LT 1 I64 (a.Steps,([]:AE))]
theorem uU (l:List Hz) (r:(Ln J2)) (h:Zw l=some r):Pure Ep 26 [Ea l] (·=LT 6 J2.av r):=by
 unfold Zw at h;refine Gy [.tmp 2] Tryz.func26 G G (Jr fun b8=>(JLh (Ea ([]:List Hz)) (Jx 6 G G) G (G6 (b8 (Jr fun b9=>(JLm (Ea l) G (JLl bO G G G fun d3=>?_)))))));obtain⟨v3,c0,h⟩:=Q7 h;refine JLh (I64 v3) (Hx c0 G G G) G ?_;obtain⟨m4,c1,h⟩:=Gd h;obtain⟨c2,h⟩:=J5 h;refine JLh (OW 1044 6 J2.av ([]:List J2)) (pY 1044 G G G G bO HM G (mX c1) c2) G (JLm (OW 1044 6 J2.av ([]:List J2)) G (G6 (b9 (Js fun c3=>Jr fun c4=>(JLm (I64 0) G (G6 (c4 (Gf ?_))))))));obtain⟨c5,s,t,p,h⟩:=J6 h;refine zAC h (fun c d=>[(0,Ea l),(3,OW 1044 6 J2.av d),(4,Eo c)]) (fun c d=>[(1044,.spare 145 6 d.length d.length)]) ⟨(.sm G G),⟨⟨_,G,.same⟩,U⟩,G⟩ ?_;clear h;intro c d k d4 c6;refine Js fun v=>Jr fun w=>(JLm (Eo c) G (JLm (Ea l) G (JLl bO G G G fun x=>(JLh (BL (decide ((c:Int) < (l.length:Int)))) (Hs G G G) G (G6 (w (Gh G (fun hb=>?_) (fun hb=>?_))))))))
 .have m:=Jp hb;obtain⟨i,d0,z,a0,h⟩:=Hu k m;replace h:=Yg t h;refine Gk (v (Js fun a1=>Gf (Jr fun a2=>(JLm (Ea l) G (JLm (Eo c) G (JLh (.AA (Hz.cs i)) (Gs (f:=Hz.av) (xs:=l) (y:=i) G G G bO z G) G (JLh (.agg (Hz.cs i)) (Gi iG G G G) G ?_)))))));obtain⟨b,a3,h⟩:=Gd h;refine JLh (.agg (J2.cs b)) (Gn G (vQ i b a3) J6b ⟨G,G,U⟩) G (JLh (.ptr 1043 0) (Jo 1043 6 zA G G) G (J3 (u:=.AJ) (Hm (u:=.agg (J2.cs b)) (ds:=[I64 b.AU,I64 b.X,I64 b.Y,I64 b.Z,I64 b.AY,LT 1 I64 b.Steps]) HD G G G G G G G G) (G6 (a2 (fzQ [(0,Ea l),(3,OW 1044 6 J2.av d),(4,Eo c),(5,.AA (J2.cs b))] [(1044,.spare 145 6 d.length d.length)] 1043 rfl rfl rfl ⟨zAB,U⟩ rfl (G1 (JLm (OW 1044 6 J2.av d) G (JLh (.agg (J2.cs b)) (Gi iG G G G) G (JLh (LS 6 J2.av [b]) (Hf (xs:=[.agg (J2.cs b)]) G ⟨G,G,U⟩ bO zA G G G G) G ?_)))))))));obtain⟨a4,h⟩:=J5 h;refine JLh (OW 1044 6 J2.av (d++[b])) (Rf (f:=J2.av) (xs:=d) (ys:=[b]) G G G G bO HM a4 (fun _=>G) (.inl G) G) G (JLm (OW 1044 6 J2.av (d++[b])) G (G6 (a1 (G1 (JLm (Eo c) G (JLh (I64 ((c+1:Nat):Int)) (Hx (Hc m x) G G G) G (JLm (I64 ((c+1:Nat):Int)) G (G6 (c6 _ _ (c+1) (d++[b]) (app1 a0 h) (by omega) ⟨(.sm G G),⟨zAB,U⟩,rfl⟩)))))))))
 .have h:=app1 p (Hv k (Ha hb));refine H9 (c3 (Js fun a5=>Jr fun a6=>(JLm (I64 0) G (G6 (a6 (Gf ?_))))));obtain⟨a7,h⟩:=J5 h;obtain⟨c7,a8,a9,q,h⟩:=fD h;refine zAD h (fun e a=>[(0,Ea l),(3,OW 1044 6 J2.av a),(6,Eo e)]) (fun e a=>[(1044,.spare 145 6 a.length a.length)]) ⟨(.sm G G),⟨⟨_,G,.same⟩,U⟩,G⟩ ?_;clear h;intro e a n d5 c8;refine Js fun b0=>Jr fun b1=>(JLm (Eo e) G (JLh (BL (decide ((e:Int) < 12))) (Hs G G G) G (G6 (b1 (Gh G (fun hb=>?_) (fun hb=>?_))))))
  .have o:=cE hb;obtain⟨d1,b2,h⟩:=cC n o;replace h:=yG a9 h;refine Gk (b0 (Js fun b3=>Gf (G1 (JLm (OW 1044 6 J2.av a) G (JLm (Eo e) G ?_)))));obtain⟨g,b4,h⟩:=Gd h;refine JLh (.agg (Kp g)) (H1.cv (Cv.aggL (cs:=(Hz.cs g)) ⟨.same,.same,.same,.same,.same,Cv.of0 g.Steps,U⟩) (Gn G (lG 1 (e:Int) g b4) Gbf ⟨G,G,G,G,U⟩)) G (JLh (LS 6 J2.av ((Ko g))) (Hf (xs:=[.agg (Kp g)]) G ⟨G,G,U⟩ bO zA G G G G) G ?_);obtain⟨b5,h⟩:=J5 h;refine JLh (OW 1044 6 J2.av (a++(Ko g))) (Rf (f:=J2.av) (xs:=a) (ys:=(Ko g)) G G G G bO HM b5 (fun _=>G) (.inl G) G) G (JLm (OW 1044 6 J2.av (a++(Ko g))) G (G6 (b3 (G1 (JLm (Eo e) G (JLh (I64 ((e+1:Nat):Int)) (Hx (Hc o (Zk a7)) G G G) G (JLm (I64 ((e+1:Nat):Int)) G (G6 (c8 _ _ (e+1) (a++(Ko g)) (app1 b2 h) (by omega) ⟨(.sm G G),⟨zAB,U⟩,rfl⟩)))))))))
  .have h:=app1 q (cD n (R7 hb));refine H9 (a5 (Jr fun b6=>(JLm (OW 1044 6 J2.av a) G (JLm (Ea l) G (JLl bO G G G fun d2=>?_)))));obtain⟨j,b7,h⟩:=Gd h;refine JLh (LT 6 J2.av (a.take j,a.drop j)) (H67 (f:=J2.av) (xs:=a) G G G bO (kS b7)) G (JLm (LT 6 J2.av (a.take j,a.drop j)) G (G6 (b6 (Gr (AL (fun r:(Ln J2)=>(LT 6 J2.av r:AV)) h)))))

def aL (x:Ge):Option Rs:=bnd (Yy x.Columns) fun b=>bnd (Zc x.Covers) fun c=>bnd (dR x.Rows) fun d=>bnd (bW x.Frames) fun e=>bnd (Zw x.Tanks) fun a=>some (Rs.mk b c x.Light d e a x.Gj)
abbrev Kq:AD:=[E5 ([]:List G5),E6 ([]:List Gv),I64 0,I64 0,I64 0,I64 0,Ec ([]:List Row),Eb ([]:List Frame),Ea ([]:List Hz),I64 0,I64 0,I64 0,I64 0]
theorem bT (x:Ge) (r:Rs) (h:aL x=some r):Pure Ep 6 [.agg (Ge.cs x)] (·=.agg (Rs.cs r)):=by
 unfold aL at h;refine Gy [.cell 2 32] Tryz.func6 G G ?_;refine Jr fun j=>(JLh (.ptr 1011 0) (Jh (cs:=(Ge.cs x)) 1011 G G G G G) G (JLh (.ptr 1012 0) (Y0 1012 Kq [.slice none 0 0,.slice none 0 0,E0,E0,E0,E0,.slice none 0 0,.slice none 0 0,.slice none 0 0,E0,E0,E0,E0] tF ⟨.inr ⟨_,G,G⟩,.inr ⟨_,G,G⟩,.inl G,.inl G,.inl G,.inl G,.inr ⟨_,G,G⟩,.inr ⟨_,G,G⟩,.inr ⟨_,G,G⟩,.inl G,.inl G,.inl G,.inl G,U⟩ G G) G (G6 (j ?_))));refine Jr fun k=>(JLh (.ptr 1011 0) (Qf Hg G G) G (JLh (E5 x.Columns) (Yr Hr G G G G) G ?_));obtain⟨b,l,h⟩:=Gd h;refine JLh (LT 12 H3.av b) (Gn G (rO x.Columns b l) J84 ⟨G,G,U⟩) G (JLh (.ptr 1011 0) (Qf Hg G G) G (J3 (u:=.AJ) (Hm (u:=LT 12 H3.av b) (ds:=[LT 12 H3.av b,E6 x.Covers,I64 x.Light.AU,I64 x.Light.X,I64 x.Light.Y,I64 x.Light.Z,Ec x.Rows,Eb x.Frames,Ea x.Tanks,I64 x.Gj.AZ,I64 x.Gj.Trim,I64 x.Gj.BQ,I64 x.Gj.BA]) J53 G G G G G G G G) (G6 (k (Jr fun m=>(JLh (.ptr 1011 1) (Qf Q1 G G) G (JLh (E6 x.Covers) (Yr Qb G G G G) G ?_)))))));obtain⟨c,n,h⟩:=Gd h;refine JLh (LT 2 Hi.av c) (Gn G (sL x.Covers c n) J83 ⟨G,G,U⟩) G (JLh (.ptr 1011 1) (Qf Q1 G G) G (J3 (u:=.AJ) (Hm (u:=LT 2 Hi.av c) (ds:=[LT 12 H3.av b,LT 2 Hi.av c,I64 x.Light.AU,I64 x.Light.X,I64 x.Light.Y,I64 x.Light.Z,Ec x.Rows,Eb x.Frames,Ea x.Tanks,I64 x.Gj.AZ,I64 x.Gj.Trim,I64 x.Gj.BQ,I64 x.Gj.BA]) J52 G G G G G G G G) (G6 (m (Jr fun o=>(JLh (.ptr 1011 6) (Qf jE G G) G (JLh (Ec x.Rows) (Yr oC G G G G) G ?_)))))));obtain⟨d,p,h⟩:=Gd h;refine JLh (LT 5 Row.av d) (Gn G (vR x.Rows d p) J82 ⟨G,G,U⟩) G (JLh (.ptr 1011 6) (Qf jE G G) G (J3 (u:=.AJ) (Hm (u:=LT 5 Row.av d) (ds:=[LT 12 H3.av b,LT 2 Hi.av c,I64 x.Light.AU,I64 x.Light.X,I64 x.Light.Y,I64 x.Light.Z,LT 5 Row.av d,Eb x.Frames,Ea x.Tanks,I64 x.Gj.AZ,I64 x.Gj.Trim,I64 x.Gj.BQ,I64 x.Gj.BA]) J51 G G G G G G G G) (G6 (o (Jr fun q=>(JLh (.ptr 1011 7) (Qf jD G G) G (JLh (Eb x.Frames) (Yr oB G G G G) G ?_)))))));obtain⟨e,s,h⟩:=Gd h;refine JLh (LT 5 Frame.av e) (Gn G (sK x.Frames e s) J81 ⟨G,G,U⟩) G (JLh (.ptr 1011 7) (Qf jD G G) G (J3 (u:=.AJ) (Hm (u:=LT 5 Frame.av e) (ds:=[LT 12 H3.av b,LT 2 Hi.av c,I64 x.Light.AU,I64 x.Light.X,I64 x.Light.Y,I64 x.Light.Z,LT 5 Row.av d,LT 5 Frame.av e,Ea x.Tanks,I64 x.Gj.AZ,I64 x.Gj.Trim,I64 x.Gj.BQ,I64 x.Gj.BA]) J50 G G G G G G G G) (G6 (q (Jr fun f=>(JLh (.ptr 1011 8) (Qf jC G G) G (JLh (Ea x.Tanks) (Yr oA G G G G) G ?_)))))));obtain⟨a,g,h⟩:=Gd h;refine JLh (LT 6 J2.av a) (Gn G (uU x.Tanks a g) J80 ⟨G,G,U⟩) G (JLh (.ptr 1011 8) (Qf jC G G) G (J3 (u:=.AJ) (Hm (u:=LT 6 J2.av a) (ds:=[LT 12 H3.av b,LT 2 Hi.av c,I64 x.Light.AU,I64 x.Light.X,I64 x.Light.Y,I64 x.Light.Z,LT 5 Row.av d,LT 5 Frame.av e,LT 6 J2.av a,I64 x.Gj.AZ,I64 x.Gj.Trim,I64 x.Gj.BQ,I64 x.Gj.BA]) J4f G G G G G G G G) (G6 (f ?_))));refine Gu [(1,.AA [LT 12 H3.av b,LT 2 Hi.av c,I64 x.Light.AU,I64 x.Light.X,I64 x.Light.Y,I64 x.Light.Z,LT 5 Row.av d,LT 5 Frame.av e,LT 6 J2.av a,I64 x.Gj.AZ,I64 x.Gj.Trim,I64 x.Gj.BQ,I64 x.Gj.BA]),(2,.ptr 1012 0)] [(1012,.box 32 Kq)] 1011 rfl rfl rfl ⟨GO,U⟩ rfl (by exact⟨.ptr,.conv .same,U⟩) ?_;refine Jr fun i=>(JLh (.agg [LT 12 H3.av b,LT 2 Hi.av c,I64 x.Light.AU,I64 x.Light.X,I64 x.Light.Y,I64 x.Light.Z,LT 5 Row.av d,LT 5 Frame.av e,LT 6 J2.av a,I64 x.Gj.AZ,I64 x.Gj.Trim,I64 x.Gj.BQ,I64 x.Gj.BA]) (Gi Hn G G G) G (J3 (u:=.AJ) (Hm (u:=.agg [LT 12 H3.av b,LT 2 Hi.av c,I64 x.Light.AU,I64 x.Light.X,I64 x.Light.Y,I64 x.Light.Z,LT 5 Row.av d,LT 5 Frame.av e,LT 6 J2.av a,I64 x.Gj.AZ,I64 x.Gj.Trim,I64 x.Gj.BQ,I64 x.Gj.BA]) (ds:=[LT 12 H3.av b,LT 2 Hi.av c,I64 x.Light.AU,I64 x.Light.X,I64 x.Light.Y,I64 x.Light.Z,LT 5 Row.av d,LT 5 Frame.av e,LT 6 J2.av a,I64 x.Gj.AZ,I64 x.Gj.Trim,I64 x.Gj.BQ,I64 x.Gj.BA]) tG G G G G G G G G) (G6 (i ?_))));refine Gr (⟨[.agg [LT 12 H3.av b,LT 2 Hi.av c,I64 x.Light.AU,I64 x.Light.X,I64 x.Light.Y,I64 x.Light.Z,LT 5 Row.av d,LT 5 Frame.av e,LT 6 J2.av a,I64 x.Gj.AZ,I64 x.Gj.Trim,I64 x.Gj.BQ,I64 x.Gj.BA]],[],U,G,⟨⟨_,⟨_,_,_,_,G,G,G,.inl ⟨Hn,G⟩⟩,.conv (.same G)⟩,U⟩,G,congrArg (fun r:Rs=>(.agg (Rs.cs r):AV)) (Pw h)⟩)

def Qj (a:AE) (b:AE):Option Bool:=bif decide ((a.length:Int)≠(b.length:Int)) then (some false) else (each (fun d e (f:Unit) c=>Jk b (e:Int) fun g=>bif decide (d≠g) then (some false) else (c ())) (fun(f:Unit)=>some true) a 0 ())
theorem Z9 (a:AE) (b:AE) (r:Bool) (h:Qj a b=some r):Pure Ep 90 [E2 a,E2 b] (·=BL r):=by
 unfold Qj at h;refine Gy [.tmp 4] Tryz.func90 G G (Jr fun a0=>(JLm (BL false) G (G6 (a0 (Js fun a1=>Jr fun a2=>(JLm (E2 a) G (JLl H5 G G G fun a9=>(JLm (E2 b) G (JLl H5 G G G fun b0=>(JLh (BL (decide ((a.length:Int)≠(b.length:Int)))) (fC G G G) G (G6 (a2 (JCc G h (fun h hb=>?_) (fun h hb=>?_))))))))))))))
 .refine Jr fun a3=>(JLm (BL false) G (G6 (a3 (Gr (AL BL h)))))
 .refine Gk (a1 (Js fun a4=>Jr fun a5=>(JLm (I64 0) G (G6 (a5 (Gf ?_))))));obtain⟨a6,l,m,k,h⟩:=J6 h;refine zAC h (fun c d=>[(0,E2 a),(1,E2 b),(5,Eo c)]) (fun c d=>[]) ⟨(.sm G G),U,G⟩ ?_;clear h;intro c d i b1 a7;refine Js fun n=>Jr fun o=>(JLm (Eo c) G (JLm (E2 a) G (JLl H5 G G G fun p=>(JLh (BL (decide ((c:Int) < (a.length:Int)))) (Hs G G G) G (G6 (o (Gh G (fun hb=>?_) (fun hb=>?_))))))))
  .have j:=Jp hb;obtain⟨e,a8,q,s,h⟩:=Hu i j;replace h:=Yg m h;refine Gk (n (Js fun t=>Gf (Js fun u=>?_)));obtain⟨b2,g,v,w,h⟩:=Qy h;refine BD J4 zR (Dq (E2 a) (G3 G G) G (Dq (Eo c) (G3 G G) G (Dq (.AA [I64 e]) (Gs (f:=I64) (xs:=a) (y:=e) G G G H5 q G) G (Dq (I64 e) (Gb Ga G G G) G (Dq (E2 b) (G3 G G) G (Dq (Eo c) (G3 G G) G (Dq (.AA [I64 g]) (Gs (f:=I64) (xs:=b) (y:=g) G G G H5 w v) G (Dq (I64 g) (Gb Ga G G G) G (Dq (BL (decide (e≠g))) (fC G G G) G (BN (u (JCc G h (fun h hb=>?_) (fun h hb=>?_)))))))))))))
   .refine Jr fun x=>(JLm (BL false) G (G6 (x (Gr (AL BL h)))))
   .refine Gk (t (G1 (JLm (Eo c) G (JLh (I64 ((c+1:Nat):Int)) (Hx (Hc j p) G G G) G (JLm (I64 ((c+1:Nat):Int)) G (G6 (a7 _ _ (c+1) () (app1 s h) (by omega) ⟨(.sm G G),U,rfl⟩)))))))
  .have h:=app1 k (Hv i (Ha hb));refine H9 (a4 (Jr fun z=>(JLm (BL true) G (G6 (z (Gr (AL BL h)))))))

def Q9 (a:G5) (b:G5):Option Bool:=bnd (bif ((((((((decide (a.Bay=b.Bay))&&(decide (a.Row=b.Row)))&&(a.AO==b.AO))&&(decide (a.AP=b.AP)))&&(decide (a.Height=b.Height)))&&(decide (a.AR=b.AR)))&&(decide (a.AX=b.AX)))&&(decide (a.BC=b.BC))) then Qj a.Plugs b.Plugs else some default) fun c=>some ((((((((((((decide (a.Bay=b.Bay))&&(decide (a.Row=b.Row)))&&(a.AO==b.AO))&&(decide (a.AP=b.AP)))&&(decide (a.Height=b.Height)))&&(decide (a.AR=b.AR)))&&(decide (a.AX=b.AX)))&&(decide (a.BC=b.BC)))&&c)&&(decide (a.X=b.X)))&&(decide (a.Y=b.Y)))&&(decide (a.Z=b.Z)))
abbrev Kr (a:G5) (b:G5):Bool:=(((((((decide (a.Bay=b.Bay))&&(decide (a.Row=b.Row)))&&(a.AO==b.AO))&&(decide (a.AP=b.AP)))&&(decide (a.Height=b.Height)))&&(decide (a.AR=b.AR)))&&(decide (a.AX=b.AX)))
abbrev Ks (a:G5) (b:G5):Bool:=((((decide (a.Bay=b.Bay))&&(decide (a.Row=b.Row)))&&(a.AO==b.AO))&&(decide (a.AP=b.AP)))
abbrev Kt (a:G5) (b:G5):Bool:=((decide (a.Bay=b.Bay))&&(decide (a.Row=b.Row)))
theorem eJ (a:G5) (b:G5) (r:Bool) (h:Q9 a b=some r):Pure Ep 149 [.agg (G5.cs a),.agg (G5.cs b)] (·=BL r):=by
 unfold Q9 at h;refine Gy [.tmp 4] Tryz.func149 G G (Jr fun d=>(JLh (.ptr 1163 0) (Jh (cs:=(G5.cs a)) 1163 G G G G G) G (JLh (.ptr 1164 0) (Jh (cs:=(G5.cs b)) 1164 G G G G G) G (JLm (BL false) G (G6 (d (Gu [(2,Eh a),(3,.ptr 1164 0)] [(1164,.box 59 (G5.cs b))] 1163 rfl rfl rfl ⟨GO,U⟩ rfl (by exact⟨.ptr,.conv .same,U⟩) ?_)))))));refine Gu [(2,Eh a),(3,Eh b)] [] 1164 rfl rfl rfl U rfl (by exact⟨.conv .same,.ptr,U⟩) ?_;refine Jr fun e=>(JLh (Eh a) (G8 Y3 G G G) G (JLh (I64 a.Bay) (Gb Ga G G G) G (JLh (Eh b) (G8 Y3 G G G) G (JLh (I64 b.Bay) (Gb Ga G G G) G (JLh (BL (decide (a.Bay=b.Bay))) (Jy G G G) G (JLm (BL (decide (a.Bay=b.Bay))) G (JLo (.AA ((G5.cs a).drop 1)) [] G .sct U (fun hc=>G8 cU G G G) G (JLo (I64 a.Row) [11] G .sct ⟨Ua,U⟩ (fun hc=>Gb Ga G G G) G (JLo (.AA ((G5.cs b).drop 1)) [] G .sct U (fun hc=>G8 cU G G G) G (JLo (I64 b.Row) [13] G .sct ⟨Ua,U⟩ (fun hc=>Gb Ga G G G) G (JLo (BL (decide (a.Row=b.Row))) [12,14] G .sct ⟨Ua,Ua,U⟩ (fun hc=>Jy G G G) G (JLh (BL (Kt a b)) (Ja G G G G) G (JLm (BL (Kt a b)) G ?_)))))))))))));refine JLo (.AA ((G5.cs a).drop 2)) [] G .sct U (fun hc=>G8 Yn G G G) G (JLo (BL a.AO) [18] G .sct ⟨Ua,U⟩ (fun hc=>Gb R1 G G G) G (JLo (.AA ((G5.cs b).drop 2)) [] G .sct U (fun hc=>G8 Yn G G G) G (JLo (BL b.AO) [20] G .sct ⟨Ua,U⟩ (fun hc=>Gb R1 G G G) G (JLo (BL (a.AO==b.AO)) [19,21] G .sct ⟨Ua,Ua,U⟩ (fun hc=>QJ mV G G G) G (JLh (BL ((Kt a b)&&(a.AO==b.AO))) (Ja G G G G) G (JLm (BL ((Kt a b)&&(a.AO==b.AO))) G (JLo (.AA ((G5.cs a).drop 3)) [] G .sct U (fun hc=>G8 cT G G G) G (JLo (I64 a.AP) [25] G .sct ⟨Ua,U⟩ (fun hc=>Gb Ga G G G) G (JLo (.AA ((G5.cs b).drop 3)) [] G .sct U (fun hc=>G8 cT G G G) G (JLo (I64 b.AP) [27] G .sct ⟨Ua,U⟩ (fun hc=>Gb Ga G G G) G (JLo (BL (decide (a.AP=b.AP))) [26,28] G .sct ⟨Ua,Ua,U⟩ (fun hc=>Jy G G G) G (JLh (BL (Ks a b)) (Ja G G G G) G (JLm (BL (Ks a b)) G ?_)))))))))))));refine JLo (.AA ((G5.cs a).drop 4)) [] G .sct U (fun hc=>G8 eL G G G) G (JLo (I64 a.Height) [32] G .sct ⟨Ua,U⟩ (fun hc=>Gb Ga G G G) G (JLo (.AA ((G5.cs b).drop 4)) [] G .sct U (fun hc=>G8 eL G G G) G (JLo (I64 b.Height) [34] G .sct ⟨Ua,U⟩ (fun hc=>Gb Ga G G G) G (JLo (BL (decide (a.Height=b.Height))) [33,35] G .sct ⟨Ua,Ua,U⟩ (fun hc=>Jy G G G) G (JLh (BL ((Ks a b)&&(decide (a.Height=b.Height)))) (Ja G G G G) G (JLm (BL ((Ks a b)&&(decide (a.Height=b.Height)))) G (JLo (.AA ((G5.cs a).drop 5)) [] G .sct U (fun hc=>G8 qG G G G) G (JLo (I64 a.AR) [39] G .sct ⟨Ua,U⟩ (fun hc=>Gb Ga G G G) G (JLo (.AA ((G5.cs b).drop 5)) [] G .sct U (fun hc=>G8 qG G G G) G (JLo (I64 b.AR) [41] G .sct ⟨Ua,U⟩ (fun hc=>Gb Ga G G G) G (JLo (BL (decide (a.AR=b.AR))) [40,42] G .sct ⟨Ua,Ua,U⟩ (fun hc=>Jy G G G) G (JLh (BL (((Ks a b)&&(decide (a.Height=b.Height)))&&(decide (a.AR=b.AR)))) (Ja G G G G) G (JLm (BL (((Ks a b)&&(decide (a.Height=b.Height)))&&(decide (a.AR=b.AR)))) G ?_)))))))))))));refine JLo (.AA ((G5.cs a).drop 6)) [] G .sct U (fun hc=>G8 qF G G G) G (JLo (I64 a.AX) [46] G .sct ⟨Ua,U⟩ (fun hc=>Gb Ga G G G) G (JLo (.AA ((G5.cs b).drop 6)) [] G .sct U (fun hc=>G8 qF G G G) G (JLo (I64 b.AX) [48] G .sct ⟨Ua,U⟩ (fun hc=>Gb Ga G G G) G (JLo (BL (decide (a.AX=b.AX))) [47,49] G .sct ⟨Ua,Ua,U⟩ (fun hc=>Jy G G G) G (JLh (BL (Kr a b)) (Ja G G G G) G (JLm (BL (Kr a b)) G (JLo (.AA ((G5.cs a).drop 7)) [] G .sct U (fun hc=>G8 qE G G G) G (JLo (I64 a.BC) [53] G .sct ⟨Ua,U⟩ (fun hc=>Gb Ga G G G) G (JLo (.AA ((G5.cs b).drop 7)) [] G .sct U (fun hc=>G8 qE G G G) G (JLo (I64 b.BC) [55] G .sct ⟨Ua,U⟩ (fun hc=>Gb Ga G G G) G (JLo (BL (decide (a.BC=b.BC))) [54,56] G .sct ⟨Ua,Ua,U⟩ (fun hc=>Jy G G G) G (JLh (BL ((Kr a b)&&(decide (a.BC=b.BC)))) (Ja G G G G) G (JLm (BL ((Kr a b)&&(decide (a.BC=b.BC)))) G ?_)))))))))))));refine JLo (.AA ((G5.cs a).drop 8)) [] G .sct U (fun hc=>G8 Y2 G G G) G (JLo (E2 a.Plugs) [60] G .sct ⟨Ua,U⟩ (fun hc=>Gb J1 G G G) G (JLo (.AA ((G5.cs b).drop 8)) [] G .sct U (fun hc=>G8 Y2 G G G) G (JLo (E2 b.Plugs) [62] G .sct ⟨Ua,U⟩ (fun hc=>Gb J1 G G G) G ?_)));obtain⟨c,f,h⟩:=Gd h;refine JLo (BL c) [61,63] G .sct ⟨Ua,Ua,U⟩ (fun hc=>Gn (args:=[E2 a.Plugs,E2 b.Plugs]) G (Z9 a.Plugs b.Plugs c (Gw hc f)) tI ⟨G,G,G,G,U⟩) G (JLh (BL (((Kr a b)&&(decide (a.BC=b.BC)))&&c)) (Ja G G G G) G (JLm (BL (((Kr a b)&&(decide (a.BC=b.BC)))&&c)) G (JLo (.AA [I64 a.X,I64 a.Y,I64 a.Z]) [] G .sct U (fun hc=>G8 qD G G G) G (JLo (I64 a.X) [67] G .sct ⟨Ua,U⟩ (fun hc=>Gb Ga G G G) G (JLo (.AA [I64 b.X,I64 b.Y,I64 b.Z]) [] G .sct U (fun hc=>G8 qD G G G) G (JLo (I64 b.X) [69] G .sct ⟨Ua,U⟩ (fun hc=>Gb Ga G G G) G (JLo (BL (decide (a.X=b.X))) [68,70] G .sct ⟨Ua,Ua,U⟩ (fun hc=>Jy G G G) G (JLh (BL ((((Kr a b)&&(decide (a.BC=b.BC)))&&c)&&(decide (a.X=b.X)))) (Ja G G G G) G (JLm (BL ((((Kr a b)&&(decide (a.BC=b.BC)))&&c)&&(decide (a.X=b.X)))) G (JLo (.AA [I64 a.Y,I64 a.Z]) [] G .sct U (fun hc=>G8 oH G G G) G (JLo (I64 a.Y) [74] G .sct ⟨Ua,U⟩ (fun hc=>Gb Ga G G G) G (JLo (.AA [I64 b.Y,I64 b.Z]) [] G .sct U (fun hc=>G8 oH G G G) G (JLo (I64 b.Y) [76] G .sct ⟨Ua,U⟩ (fun hc=>Gb Ga G G G) G ?_)))))))))))));refine JLo (BL (decide (a.Y=b.Y))) [75,77] G .sct ⟨Ua,Ua,U⟩ (fun hc=>Jy G G G) G (JLh (BL (((((Kr a b)&&(decide (a.BC=b.BC)))&&c)&&(decide (a.X=b.X)))&&(decide (a.Y=b.Y)))) (Ja G G G G) G (JLm (BL (((((Kr a b)&&(decide (a.BC=b.BC)))&&c)&&(decide (a.X=b.X)))&&(decide (a.Y=b.Y)))) G (JLo (.AA [I64 a.Z]) [] G .sct U (fun hc=>G8 oG G G G) G (JLo (I64 a.Z) [81] G .sct ⟨Ua,U⟩ (fun hc=>Gb Ga G G G) G (JLo (.AA [I64 b.Z]) [] G .sct U (fun hc=>G8 oG G G G) G (JLo (I64 b.Z) [83] G .sct ⟨Ua,U⟩ (fun hc=>Gb Ga G G G) G (JLo (BL (decide (a.Z=b.Z))) [82,84] G .sct ⟨Ua,Ua,U⟩ (fun hc=>Jy G G G) G (JLh (BL ((((((Kr a b)&&(decide (a.BC=b.BC)))&&c)&&(decide (a.X=b.X)))&&(decide (a.Y=b.Y)))&&(decide (a.Z=b.Z)))) (Ja G G G G) G (JLm (BL ((((((Kr a b)&&(decide (a.BC=b.BC)))&&c)&&(decide (a.X=b.X)))&&(decide (a.Y=b.Y)))&&(decide (a.Z=b.Z)))) G (G6 (e ?_)))))))))));refine Gr (AL BL h)

def bE (a:List G5) (b:List G5):Option Bool:=ZB Q9 a b
theorem GJ:El Ep 59 12 G5.av:=⟨fun ho hx=>Gi Zm ho hx,fun _=>rfl,fun _=>rfl,fun _=>rfl,fun _=>rfl⟩
theorem rM (a:List G5) (b:List G5) (r:Bool) (h:bE a b=some r):Pure Ep 143 [E5 a,E5 b] (·=BL r):=JR Hj GJ HW J4 eJ a b r h Tryz.func143

def Qd (a:Gv) (b:Gv):Option Bool:=bnd (bif decide (a.Bay=b.Bay) then Qj a.Rows b.Rows else some default) fun c=>some ((decide (a.Bay=b.Bay))&&c)
theorem eW (a:Gv) (b:Gv) (r:Bool) (h:Qd a b=some r):Pure Ep 151 [.agg [I64 a.Bay,E2 a.Rows],.agg [I64 b.Bay,E2 b.Rows]] (·=BL r):=by
 unfold Qd at h;refine Gy [.tmp 4] Tryz.func151 G G (Jr fun d=>(JLh (.ptr 1167 0) (Jh (cs:=[I64 a.Bay,E2 a.Rows]) 1167 G G G G G) G (JLh (.ptr 1168 0) (Jh (cs:=[I64 b.Bay,E2 b.Rows]) 1168 G G G G G) G (JLm (BL false) G (G6 (d (Gu [(2,.AA [I64 a.Bay,E2 a.Rows]),(3,.ptr 1168 0)] [(1168,.box 61 [I64 b.Bay,E2 b.Rows])] 1167 rfl rfl rfl ⟨GO,U⟩ rfl (by exact⟨.ptr,.conv .same,U⟩) (Gu [(2,.AA [I64 a.Bay,E2 a.Rows]),(3,.AA [I64 b.Bay,E2 b.Rows])] [] 1168 rfl rfl rfl U rfl (by exact⟨.conv .same,.ptr,U⟩) ?_))))))));refine Jr fun e=>(JLh (.AA [I64 a.Bay,E2 a.Rows]) (G8 Ym G G G) G (JLh (I64 a.Bay) (Gb Ga G G G) G (JLh (.AA [I64 b.Bay,E2 b.Rows]) (G8 Ym G G G) G (JLh (I64 b.Bay) (Gb Ga G G G) G (JLh (BL (decide (a.Bay=b.Bay))) (Jy G G G) G (JLm (BL (decide (a.Bay=b.Bay))) G (JLo (.AA [E2 a.Rows]) [] G .sct U (fun hc=>G8 Qp G G G) G (JLo (E2 a.Rows) [11] G .sct ⟨Ua,U⟩ (fun hc=>Gb J1 G G G) G (JLo (.AA [E2 b.Rows]) [] G .sct U (fun hc=>G8 Qp G G G) G (JLo (E2 b.Rows) [13] G .sct ⟨Ua,U⟩ (fun hc=>Gb J1 G G G) G ?_))))))))));obtain⟨c,f,h⟩:=Gd h;refine JLo (BL c) [12,14] G .sct ⟨Ua,Ua,U⟩ (fun hc=>Gn (args:=[E2 a.Rows,E2 b.Rows]) G (Z9 a.Rows b.Rows c (Gw hc f)) tI ⟨G,G,G,G,U⟩) G (JLh (BL ((decide (a.Bay=b.Bay))&&c)) (Ja G G G G) G (JLm (BL ((decide (a.Bay=b.Bay))&&c)) G (G6 (e (Gr (AL BL h))))))

def bS (a:List Gv) (b:List Gv):Option Bool:=ZB Qd a b
theorem JX:El Ep 61 2 Gv.av:=⟨fun ho hx=>Gi cO ho hx,fun _=>rfl,fun _=>rfl,fun _=>rfl,fun _=>rfl⟩
theorem sH (a:List Gv) (b:List Gv) (r:Bool) (h:bS a b=some r):Pure Ep 144 [E6 a,E6 b] (·=BL r):=JR Jj JX HV J4 eW a b r h Tryz.func144

def dQ (a:List Row) (b:List Row):Option Bool:=ZC a b
theorem vN (a:List Row) (b:List Row) (r:Bool) (h:dQ a b=some r):Pure Ep 145 [Ec a,Ec b] (·=BL r):=JS HC wX J4 (fun u v _ _ _ _ _ _ ho hx hy=>wS (vs:=[.int .i64 u.Draught,.int .i64 u.AU,.int .i64 u.Buoy,.int .i64 u.BP,.int .i64 u.G18]) (us:=[.int .i64 v.Draught,.int .i64 v.AU,.int .i64 v.Buoy,.int .i64 v.BP,.int .i64 v.G18]) 4 rfl (Q37 u v) ZS Gb6 ho hx hy) a b r h Tryz.func145 rfl rfl rfl

def bR (a:List Frame) (b:List Frame):Option Bool:=ZC a b
theorem sG (a:List Frame) (b:List Frame) (r:Bool) (h:bR a b=some r):Pure Ep 146 [Eb a,Eb b] (·=BL r):=JS HB rI J4 (fun u v _ _ _ _ _ _ ho hx hy=>wS (vs:=[.int .i64 u.X,.int .i64 u.Light,.int .i64 u.Share,.int .i64 u.Shear,.int .i64 u.Bend]) (us:=[.int .i64 v.X,.int .i64 v.Light,.int .i64 v.Share,.int .i64 v.Shear,.int .i64 v.Bend]) 4 rfl (Q36 u v) ZR Gb5 ho hx hy) a b r h Tryz.func146 rfl rfl rfl

def Qi (a:Hz) (b:Hz):Option Bool:=bnd (bif (((((decide (a.AU=b.AU))&&(decide (a.X=b.X)))&&(decide (a.Y=b.Y)))&&(decide (a.Z=b.Z)))&&(decide (a.AY=b.AY))) then Qj a.Steps b.Steps else some default) fun c=>some ((((((decide (a.AU=b.AU))&&(decide (a.X=b.X)))&&(decide (a.Y=b.Y)))&&(decide (a.Z=b.Z)))&&(decide (a.AY=b.AY)))&&c)
abbrev Ku (a:Hz) (b:Hz):Bool:=(((decide (a.AU=b.AU))&&(decide (a.X=b.X)))&&(decide (a.Y=b.Y)))
abbrev Kv (b:Hz):AD:=[I64 b.AU,I64 b.X,I64 b.Y,I64 b.Z,I64 b.AY,E2 b.Steps]
theorem fH (a:Hz) (b:Hz) (r:Bool) (h:Qi a b=some r):Pure Ep 153 [.agg (Hz.cs a),.agg (Hz.cs b)] (·=BL r):=by
 unfold Qi at h;refine Gy [.tmp 4] Tryz.func153 G G (Jr fun d=>(JLh (.ptr 1171 0) (Jh (cs:=(Kv a)) 1171 G G G G G) G (JLh (.ptr 1172 0) (Jh (cs:=(Kv b)) 1172 G G G G G) G (JLm (BL false) G (G6 (d (Gu [(2,.AA (Hz.cs a)),(3,.ptr 1172 0)] [(1172,.box 145 (Kv b))] 1171 rfl rfl rfl ⟨GO,U⟩ rfl (by exact⟨.ptr,.conv .same,U⟩) (Gu [(2,.AA (Hz.cs a)),(3,.AA (Hz.cs b))] [] 1172 rfl rfl rfl U rfl (by exact⟨.conv .same,.ptr,U⟩) ?_))))))));refine Jr fun e=>(JLh (.AA (Hz.cs a)) (G8 HK G G G) G (JLh (I64 a.AU) (Gb Ga G G G) G (JLh (.AA (Hz.cs b)) (G8 HK G G G) G (JLh (I64 b.AU) (Gb Ga G G G) G (JLh (BL (decide (a.AU=b.AU))) (Jy G G G) G (JLm (BL (decide (a.AU=b.AU))) G (JLo (.AA ((Hz.cs a).drop 1)) [] G .sct U (fun hc=>G8 HJ G G G) G (JLo (I64 a.X) [11] G .sct ⟨Ua,U⟩ (fun hc=>Gb Ga G G G) G (JLo (.AA ((Hz.cs b).drop 1)) [] G .sct U (fun hc=>G8 HJ G G G) G (JLo (I64 b.X) [13] G .sct ⟨Ua,U⟩ (fun hc=>Gb Ga G G G) G (JLo (BL (decide (a.X=b.X))) [12,14] G .sct ⟨Ua,Ua,U⟩ (fun hc=>Jy G G G) G (JLh (BL ((decide (a.AU=b.AU))&&(decide (a.X=b.X)))) (Ja G G G G) G (JLm (BL ((decide (a.AU=b.AU))&&(decide (a.X=b.X)))) G ?_)))))))))))));refine JLo (.AA ((Hz.cs a).drop 2)) [] G .sct U (fun hc=>G8 HI G G G) G (JLo (I64 a.Y) [18] G .sct ⟨Ua,U⟩ (fun hc=>Gb Ga G G G) G (JLo (.AA ((Hz.cs b).drop 2)) [] G .sct U (fun hc=>G8 HI G G G) G (JLo (I64 b.Y) [20] G .sct ⟨Ua,U⟩ (fun hc=>Gb Ga G G G) G (JLo (BL (decide (a.Y=b.Y))) [19,21] G .sct ⟨Ua,Ua,U⟩ (fun hc=>Jy G G G) G (JLh (BL (Ku a b)) (Ja G G G G) G (JLm (BL (Ku a b)) G (JLo (.AA ((Hz.cs a).drop 3)) [] G .sct U (fun hc=>G8 HH G G G) G (JLo (I64 a.Z) [25] G .sct ⟨Ua,U⟩ (fun hc=>Gb Ga G G G) G (JLo (.AA ((Hz.cs b).drop 3)) [] G .sct U (fun hc=>G8 HH G G G) G (JLo (I64 b.Z) [27] G .sct ⟨Ua,U⟩ (fun hc=>Gb Ga G G G) G (JLo (BL (decide (a.Z=b.Z))) [26,28] G .sct ⟨Ua,Ua,U⟩ (fun hc=>Jy G G G) G (JLh (BL ((Ku a b)&&(decide (a.Z=b.Z)))) (Ja G G G G) G (JLm (BL ((Ku a b)&&(decide (a.Z=b.Z)))) G ?_)))))))))))));refine JLo (.AA [I64 a.AY,E2 a.Steps]) [] G .sct U (fun hc=>G8 HG G G G) G (JLo (I64 a.AY) [32] G .sct ⟨Ua,U⟩ (fun hc=>Gb Ga G G G) G (JLo (.AA [I64 b.AY,E2 b.Steps]) [] G .sct U (fun hc=>G8 HG G G G) G (JLo (I64 b.AY) [34] G .sct ⟨Ua,U⟩ (fun hc=>Gb Ga G G G) G (JLo (BL (decide (a.AY=b.AY))) [33,35] G .sct ⟨Ua,Ua,U⟩ (fun hc=>Jy G G G) G (JLh (BL (((Ku a b)&&(decide (a.Z=b.Z)))&&(decide (a.AY=b.AY)))) (Ja G G G G) G (JLm (BL (((Ku a b)&&(decide (a.Z=b.Z)))&&(decide (a.AY=b.AY)))) G (JLo (.AA [E2 a.Steps]) [] G .sct U (fun hc=>G8 gT G G G) G (JLo (E2 a.Steps) [39] G .sct ⟨Ua,U⟩ (fun hc=>Gb J1 G G G) G (JLo (.AA [E2 b.Steps]) [] G .sct U (fun hc=>G8 gT G G G) G (JLo (E2 b.Steps) [41] G .sct ⟨Ua,U⟩ (fun hc=>Gb J1 G G G) G ?_))))))))));obtain⟨c,f,h⟩:=Gd h;refine JLo (BL c) [40,42] G .sct ⟨Ua,Ua,U⟩ (fun hc=>Gn (args:=[E2 a.Steps,E2 b.Steps]) G (Z9 a.Steps b.Steps c (Gw hc f)) tI ⟨G,G,G,G,U⟩) G (JLh (BL ((((Ku a b)&&(decide (a.Z=b.Z)))&&(decide (a.AY=b.AY)))&&c)) (Ja G G G G) G (JLm (BL ((((Ku a b)&&(decide (a.Z=b.Z)))&&(decide (a.AY=b.AY)))&&c)) G (G6 (e (Gr (AL BL h))))))

def cY (a:List Hz) (b:List Hz):Option Bool:=ZB Qi a b
theorem JY:El Ep 145 6 Hz.av:=⟨fun ho hx=>Gi iG ho hx,fun _=>rfl,fun _=>rfl,fun _=>rfl,fun _=>rfl⟩
theorem uT (a:List Hz) (b:List Hz) (r:Bool) (h:cY a b=some r):Pure Ep 147 [Ea a,Ea b] (·=BL r):=JR bO JY HU J4 fH a b r h Tryz.func147

def aI (a:Ge) (b:Ge):Option Bool:=bnd (bE a.Columns b.Columns) fun c=>bnd (bif c then bS a.Covers b.Covers else some default) fun d=>bnd (bif ((c&&d)&&(decide (a.Light=b.Light))) then dQ a.Rows b.Rows else some default) fun e=>bnd (bif (((c&&d)&&(decide (a.Light=b.Light)))&&e) then bR a.Frames b.Frames else some default) fun f=>bnd (bif ((((c&&d)&&(decide (a.Light=b.Light)))&&e)&&f) then cY a.Tanks b.Tanks else some default) fun g=>some ((((((c&&d)&&(decide (a.Light=b.Light)))&&e)&&f)&&g)&&(decide (a.Gj=b.Gj)))
theorem vM (a:Ge) (b:Ge) (r:Bool) (h:aI a b=some r):Pure Ep 79 [.agg (Ge.cs a),.agg (Ge.cs b)] (·=BL r):=by
 unfold aI at h;refine Gy [.tmp 4] Tryz.func79 G G (Jr fun i=>(JLh (.ptr 1111 0) (Jh (cs:=(Ge.cs a)) 1111 G G G G G) G (JLh (.ptr 1112 0) (Jh (cs:=(Ge.cs b)) 1112 G G G G G) G (JLm (BL false) G (G6 (i ?_))))));refine Gu [(2,Ef a),(3,.ptr 1112 0)] [(1112,.box 32 (Ge.cs b))] 1111 rfl rfl rfl ⟨GO,U⟩ rfl (by exact⟨.ptr,.conv .same,U⟩) (Gu [(2,Ef a),(3,Ef b)] [] 1112 rfl rfl rfl U rfl (by exact⟨.conv .same,.ptr,U⟩) (Jr fun j=>(JLh (Ef a) (G8 Hg G G G) G (JLh (E5 a.Columns) (Gb Hr G G G) G (JLh (Ef b) (G8 Hg G G G) G (JLh (E5 b.Columns) (Gb Hr G G G) G ?_))))));obtain⟨c,k,h⟩:=Gd h;refine JLh (BL c) (Gn G (rM a.Columns b.Columns c k) Hdc ⟨G,G,G,G,U⟩) G (JLm (BL c) G (JLo (.AA ((Ge.cs a).drop 1)) [] G .sct U (fun hc=>G8 Q1 G G G) G (JLo (E6 a.Covers) [11] G .sct ⟨Ua,U⟩ (fun hc=>Gb Qb G G G) G (JLo (.AA ((Ge.cs b).drop 1)) [] G .sct U (fun hc=>G8 Q1 G G G) G (JLo (E6 b.Covers) [13] G .sct ⟨Ua,U⟩ (fun hc=>Gb Qb G G G) G ?_)))));obtain⟨d,l,h⟩:=Gd h;refine JLo (BL d) [12,14] G .sct ⟨Ua,Ua,U⟩ (fun hc=>Gn (args:=[E6 a.Covers,E6 b.Covers]) G (sH a.Covers b.Covers d (Gw hc l)) Hdb ⟨G,G,G,G,U⟩) G (JLh (BL (c&&d)) (Ja G G G G) G (JLm (BL (c&&d)) G (JLo (.AA ((Ge.cs a).drop 2)) [] G .sct U (fun hc=>G8 RN G G G) G (JLo (.agg (Light.cs a.Light)) [18] G .sct ⟨Ua,U⟩ (fun hc=>Gi H43 G G G) G (JLo (.AA ((Ge.cs b).drop 2)) [] G .sct U (fun hc=>G8 RN G G G) G (JLo (.agg (Light.cs b.Light)) [20] G .sct ⟨Ua,U⟩ (fun hc=>Gi H43 G G G) G (JLo (BL (decide (a.Light=b.Light))) [19,21] G .sct ⟨Ua,Ua,U⟩ (fun hc=>oX (vs:=[.int .i64 a.Light.AU,.int .i64 a.Light.X,.int .i64 a.Light.Y,.int .i64 a.Light.Z]) (us:=[.int .i64 b.Light.AU,.int .i64 b.Light.X,.int .i64 b.Light.Y,.int .i64 b.Light.Z]) 4 G (R30 a.Light b.Light) Hf0 Jf9 G G G) G (JLh (BL ((c&&d)&&(decide (a.Light=b.Light)))) (Ja G G G G) G (JLm (BL ((c&&d)&&(decide (a.Light=b.Light)))) G (JLo (.AA ((Ge.cs a).drop 6)) [] G .sct U (fun hc=>G8 jE G G G) G (JLo (Ec a.Rows) [25] G .sct ⟨Ua,U⟩ (fun hc=>Gb oC G G G) G (JLo (.AA ((Ge.cs b).drop 6)) [] G .sct U (fun hc=>G8 jE G G G) G (JLo (Ec b.Rows) [27] G .sct ⟨Ua,U⟩ (fun hc=>Gb oC G G G) G ?_)))))))))))));obtain⟨e,m,h⟩:=Gd h;refine JLo (BL e) [26,28] G .sct ⟨Ua,Ua,U⟩ (fun hc=>Gn (args:=[Ec a.Rows,Ec b.Rows]) G (vN a.Rows b.Rows e (Gw hc m)) Hda ⟨G,G,G,G,U⟩) G (JLh (BL (((c&&d)&&(decide (a.Light=b.Light)))&&e)) (Ja G G G G) G (JLm (BL (((c&&d)&&(decide (a.Light=b.Light)))&&e)) G (JLo (.AA ((Ge.cs a).drop 7)) [] G .sct U (fun hc=>G8 jD G G G) G (JLo (Eb a.Frames) [32] G .sct ⟨Ua,U⟩ (fun hc=>Gb oB G G G) G (JLo (.AA ((Ge.cs b).drop 7)) [] G .sct U (fun hc=>G8 jD G G G) G (JLo (Eb b.Frames) [34] G .sct ⟨Ua,U⟩ (fun hc=>Gb oB G G G) G ?_))))));obtain⟨f,n,h⟩:=Gd h;refine JLo (BL f) [33,35] G .sct ⟨Ua,Ua,U⟩ (fun hc=>Gn (args:=[Eb a.Frames,Eb b.Frames]) G (sG a.Frames b.Frames f (Gw hc n)) Hd9 ⟨G,G,G,G,U⟩) G (JLh (BL ((((c&&d)&&(decide (a.Light=b.Light)))&&e)&&f)) (Ja G G G G) G (JLm (BL ((((c&&d)&&(decide (a.Light=b.Light)))&&e)&&f)) G (JLo (.AA ((Ge.cs a).drop 8)) [] G .sct U (fun hc=>G8 jC G G G) G (JLo (Ea a.Tanks) [39] G .sct ⟨Ua,U⟩ (fun hc=>Gb oA G G G) G (JLo (.AA ((Ge.cs b).drop 8)) [] G .sct U (fun hc=>G8 jC G G G) G (JLo (Ea b.Tanks) [41] G .sct ⟨Ua,U⟩ (fun hc=>Gb oA G G G) G ?_))))));obtain⟨g,o,h⟩:=Gd h;refine JLo (BL g) [40,42] G .sct ⟨Ua,Ua,U⟩ (fun hc=>Gn (args:=[Ea a.Tanks,Ea b.Tanks]) G (uT a.Tanks b.Tanks g (Gw hc o)) Hd8 ⟨G,G,G,G,U⟩) G (JLh (BL (((((c&&d)&&(decide (a.Light=b.Light)))&&e)&&f)&&g)) (Ja G G G G) G (JLm (BL (((((c&&d)&&(decide (a.Light=b.Light)))&&e)&&f)&&g)) G (JLo (.AA ((Ge.cs a).drop 9)) [] G .sct U (fun hc=>G8 RM G G G) G (JLo (.agg ((Ge.cs a).drop 9)) [46] G .sct ⟨Ua,U⟩ (fun hc=>Gi H42 G G G) G (JLo (.AA ((Ge.cs b).drop 9)) [] G .sct U (fun hc=>G8 RM G G G) G (JLo (.agg ((Ge.cs b).drop 9)) [48] G .sct ⟨Ua,U⟩ (fun hc=>Gi H42 G G G) G (JLo (BL (decide (a.Gj=b.Gj))) [47,49] G .sct ⟨Ua,Ua,U⟩ (fun hc=>oX (vs:=[.int .i64 a.Gj.AZ,.int .i64 a.Gj.Trim,.int .i64 a.Gj.BQ,.int .i64 a.Gj.BA]) (us:=[.int .i64 b.Gj.AZ,.int .i64 b.Gj.Trim,.int .i64 b.Gj.BQ,.int .i64 b.Gj.BA]) 4 G (R2f a.Gj b.Gj) Hef Jf8 G G G) G (JLh (BL ((((((c&&d)&&(decide (a.Light=b.Light)))&&e)&&f)&&g)&&(decide (a.Gj=b.Gj)))) (Ja G G G G) G (JLm (BL ((((((c&&d)&&(decide (a.Light=b.Light)))&&e)&&f)&&g)&&(decide (a.Gj=b.Gj)))) G (G6 (j ?_)))))))))));refine Gr (AL BL h)

def Jq (out:Ln Int) (l:AE):Option Bool:=JV Hw out l
theorem cA (out:Ln Int) (l:AE) (r:Bool) (h:Jq out l=some r):Pure Ep 89 [LT 1 I64 out,E2 l] (·=BL r):=yE H5 J21 Ya J4 J7 (fun _ _ _ _ _ _ _ _ ho hx hy=>Jy ho hx hy) out l r h Tryz.func89

def Y8 (x:H3) (y:G5):Option Bool:=bnd (Q9 (G5.mk x.Bay x.Row x.AO x.AP x.Height x.AR x.AX x.BC x.Plugs.1 x.X x.Y x.Z) y) fun a=>bnd (bif a then Jq x.Plugs y.Plugs else some default) fun b=>some (a&&b)
theorem sR (x:H3) (y:G5) (r:Bool) (h:Y8 x y=some r):Pure Ep 148 [.agg (H3.cs x),.agg (G5.cs y)] (·=BL r):=by
 unfold Y8 at h;refine Gy [.tmp 4] Tryz.func148 G G (Jr fun c=>(JLh (.ptr 1161 0) (Jh (cs:=(H3.cs x)) 1161 G G G G G) G (JLh (.ptr 1162 0) (Jh (cs:=(G5.cs y)) 1162 G G G G G) G (JLm (BL false) G (G6 (c (Gu [(2,.AA (H3.cs x)),(3,.ptr 1162 0)] [(1162,.box 59 (G5.cs y))] 1161 rfl rfl rfl ⟨GO,U⟩ rfl (by exact⟨.ptr,.conv .same,U⟩) ?_)))))));refine Gu [(2,.AA (H3.cs x)),(3,Eh y)] [] 1162 rfl rfl rfl U rfl (by exact⟨.conv .same,.ptr,U⟩) (Jr fun d=>(JLh (.agg [I64 x.Bay,I64 x.Row,BL x.AO,I64 x.AP,I64 x.Height,I64 x.AR,I64 x.AX,I64 x.BC,E2 x.Plugs.1,I64 x.X,I64 x.Y,I64 x.Z]) (H1.cv (Cv.aggL (cs:=(H3.cs x)) ⟨.same,.same,.same,.same,.same,.same,.same,.same,Cv.lst0 x.Plugs,.same,.same,.same,U⟩) (Gi Zm G G G)) G (JLh (.agg (G5.cs y)) (Gi Zm G G G) G ?_)));obtain⟨a,e,h⟩:=Gd h;refine JLh (BL a) (Gn G (eJ (G5.mk x.Bay x.Row x.AO x.AP x.Height x.AR x.AX x.BC x.Plugs.1 x.X x.Y x.Z) y a e) HW ⟨G,G,G,G,U⟩) G (JLm (BL a) G (JLo (.AA ((H3.cs x).drop 8)) [] G .sct U (fun hc=>G8 Y2 G G G) G (JLo (LT 1 I64 x.Plugs) [9] G .sct ⟨Ua,U⟩ (fun hc=>Gb J1 G G G) G (JLo (.AA ((G5.cs y).drop 8)) [] G .sct U (fun hc=>G8 Y2 G G G) G (JLo (E2 y.Plugs) [11] G .sct ⟨Ua,U⟩ (fun hc=>Gb J1 G G G) G ?_)))));obtain⟨b,f,h⟩:=Gd h;refine JLo (BL b) [10,12] G .sct ⟨Ua,Ua,U⟩ (fun hc=>Gn (args:=[LT 1 I64 x.Plugs,E2 y.Plugs]) G (cA x.Plugs y.Plugs b (Gw hc f)) zG ⟨G,G,G,G,U⟩) G (JLh (BL (a&&b)) (Ja G G G G) G (JLm (BL (a&&b)) G (G6 (d (Gr (AL BL h))))))

def Z0 (out:Ln H3) (l:List G5):Option Bool:=ZD Y8 Rc Q9 H3.pl out l
theorem G3d:El Ep 59 12 H3.av:=⟨fun ho hx=>Gi Zm ho hx,fun _=>rfl,fun _=>rfl,fun _=>rfl,fun _=>rfl⟩
theorem rQ (out:Ln H3) (l:List G5) (r:Bool) (h:Z0 out l=some r):Pure Ep 80 [LT 12 H3.av out,E5 l] (·=BL r):=JU Hj GJ G3d (fun y=>Cv.aggL (H3.cvl y)) Hd7 Gc3 HW J4 sR jO eJ out l r h Tryz.func80

def Yo (x:Hi) (y:Gv):Option Bool:=bnd (Qd (Gv.mk x.Bay x.Rows.1) y) fun a=>bnd (bif a then Jq x.Rows y.Rows else some default) fun b=>some (a&&b)
theorem vA (x:Hi) (y:Gv) (r:Bool) (h:Yo x y=some r):Pure Ep 150 [.agg [I64 x.Bay,LT 1 I64 x.Rows],.agg [I64 y.Bay,E2 y.Rows]] (·=BL r):=by
 unfold Yo at h;refine Gy [.tmp 4] Tryz.func150 G G (Jr fun c=>(JLh (.ptr 1165 0) (Jh (cs:=[I64 x.Bay,LT 1 I64 x.Rows]) 1165 G G G G G) G (JLh (.ptr 1166 0) (Jh (cs:=[I64 y.Bay,E2 y.Rows]) 1166 G G G G G) G (JLm (BL false) G (G6 (c (Gu [(2,.AA [I64 x.Bay,LT 1 I64 x.Rows]),(3,.ptr 1166 0)] [(1166,.box 61 [I64 y.Bay,E2 y.Rows])] 1165 rfl rfl rfl ⟨GO,U⟩ rfl (by exact⟨.ptr,.conv .same,U⟩) (Gu [(2,.AA [I64 x.Bay,LT 1 I64 x.Rows]),(3,.AA [I64 y.Bay,E2 y.Rows])] [] 1166 rfl rfl rfl U rfl (by exact⟨.conv .same,.ptr,U⟩) ?_))))))));refine Jr fun d=>(JLh (.agg [I64 x.Bay,E2 x.Rows.1]) (H1.cv (Cv.aggL (cs:=[I64 x.Bay,LT 1 I64 x.Rows]) ⟨.same,Cv.lst0 x.Rows,U⟩) (Gi cO G G G)) G (JLh (.agg [I64 y.Bay,E2 y.Rows]) (Gi cO G G G) G ?_));obtain⟨a,e,h⟩:=Gd h;refine JLh (BL a) (Gn G (eW (Gv.mk x.Bay x.Rows.1) y a e) HV ⟨G,G,G,G,U⟩) G (JLm (BL a) G (JLo (.AA [LT 1 I64 x.Rows]) [] G .sct U (fun hc=>G8 Qp G G G) G (JLo (LT 1 I64 x.Rows) [9] G .sct ⟨Ua,U⟩ (fun hc=>Gb J1 G G G) G (JLo (.AA [E2 y.Rows]) [] G .sct U (fun hc=>G8 Qp G G G) G (JLo (E2 y.Rows) [11] G .sct ⟨Ua,U⟩ (fun hc=>Gb J1 G G G) G ?_)))));obtain⟨b,f,h⟩:=Gd h;refine JLo (BL b) [10,12] G .sct ⟨Ua,Ua,U⟩ (fun hc=>Gn (args:=[LT 1 I64 x.Rows,E2 y.Rows]) G (cA x.Rows y.Rows b (Gw hc f)) zG ⟨G,G,G,G,U⟩) G (JLh (BL (a&&b)) (Ja G G G G) G (JLm (BL (a&&b)) G (G6 (d (Gr (AL BL h))))))
end
end Go.Proofs.YtkiekighbhnolaaGreat
