/- Walks of functions. -/
import Derived.Test.YthkihfoleenlmaaGreatSpecK
import Derived.Test.YthkihfoleenlmaaGreatSpecK
set_option maxRecDepth 100000
set_option maxHeartbeats 1000000
set_option linter.unusedVariables false
set_option linter.unusedSimpArgs false
namespace Go.Proofs.YthkihfoleenlmaaGreat
open Go.RowKit
noncomputable section
structure Gx where
 Bay:Int
 Row:Int
 Deck:Bool
 Tiers:Int
 Height:Int
 Kilos20:Int
 Kilos40:Int
 Lash:Int
 Plugs:Ln Int
 X:Int
 Y:Int
 Z:Int
 deriving Inhabited
def Gx.cs (x:Gx):List AV:=[I64 x.Bay,I64 x.Row,BL x.Deck,I64 x.Tiers,I64 x.Height,I64 x.Kilos20,I64 x.Kilos40,I64 x.Lash,LT 1 I64 x.Plugs,I64 x.X,I64 x.Y,I64 x.Z]
def Gx.av (x:Gx):AV:=.agg x.cs
def Gx.pl (x:Gx):G6:=⟨x.Bay,x.Row,x.Deck,x.Tiers,x.Height,x.Kilos20,x.Kilos40,x.Lash,Prod.fst x.Plugs,x.X,x.Y,x.Z⟩
def Gx.of (x:G6):Gx:=⟨x.Bay,x.Row,x.Deck,x.Tiers,x.Height,x.Kilos20,x.Kilos40,x.Lash,(fun e=>(e,[])) x.Plugs,x.X,x.Y,x.Z⟩
theorem Gx.cvl (x:Gx):CvL (Gx.cs x) (G6.cs x.pl):=⟨.same,.same,.same,.same,.same,.same,.same,.same,Cv.lst0 x.Plugs,.same,.same,.same,trivial⟩
structure Ha where
 Bay:Int
 Rows:Ln Int
 deriving Inhabited
def Ha.cs (x:Ha):List AV:=[I64 x.Bay,LT 1 I64 x.Rows]
def Ha.av (x:Ha):AV:=.agg x.cs
def Ha.pl (x:Ha):H3:=⟨x.Bay,Prod.fst x.Rows⟩
def Ha.of (x:H3):Ha:=⟨x.Bay,(fun e=>(e,[])) x.Rows⟩
theorem Ha.cvl (x:Ha):CvL (Ha.cs x) (H3.cs x.pl):=⟨.same,Cv.lst0 x.Rows,trivial⟩
structure Hj where
 Kilos:Int
 X:Int
 Y:Int
 Z:Int
 Surface:Int
 Steps:Ln Int
 deriving Inhabited
def Hj.cs (x:Hj):List AV:=[I64 x.Kilos,I64 x.X,I64 x.Y,I64 x.Z,I64 x.Surface,LT 1 I64 x.Steps]
def Hj.av (x:Hj):AV:=.agg x.cs
def Hj.pl (x:Hj):Hg:=⟨x.Kilos,x.X,x.Y,x.Z,x.Surface,Prod.fst x.Steps⟩
def Hj.of (x:Hg):Hj:=⟨x.Kilos,x.X,x.Y,x.Z,x.Surface,(fun e=>(e,[])) x.Steps⟩
theorem Hj.cvl (x:Hj):CvL (Hj.cs x) (Hg.cs x.pl):=⟨.same,.same,.same,.same,.same,Cv.lst0 x.Steps,trivial⟩
structure Yh where
 Columns:Ln Gx
 Covers:Ln Ha
 Light:Light
 Rows:Ln Row
 Frames:Ln Frame
 Tanks:Ln Hj
 Gk:Gk
 deriving Inhabited
def Yh.cs (x:Yh):List AV:=[LT 12 Gx.av x.Columns,LT 2 Ha.av x.Covers,I64 x.Light.Kilos,I64 x.Light.X,I64 x.Light.Y,I64 x.Light.Z,LT 5 Row.av x.Rows,LT 5 Frame.av x.Frames,LT 6 Hj.av x.Tanks,I64 x.Gk.Tolerance,I64 x.Gk.Trim,I64 x.Gk.List_,I64 x.Gk.Stability]
def Yh.av (x:Yh):AV:=.agg x.cs
def Yh.of (x:Gq):Yh:=⟨(fun e=>(e.map Gx.of,[])) x.Columns,(fun e=>(e.map Ha.of,[])) x.Covers,x.Light,(fun e=>(e,[])) x.Rows,(fun e=>(e,[])) x.Frames,(fun e=>(e.map Hj.of,[])) x.Tanks,x.Gk⟩
structure Box where
 ID:Int
 Number:ByteArray
 Size:Int
 High:Bool
 Kilos:Int
 Load:Int
 Discharge:Int
 Class:Int
 Reefer:Bool
 deriving DecidableEq,Inhabited
def Box.cs (x:Box):List AV:=[I64 x.ID,ST x.Number,U8 x.Size,BL x.High,I64 x.Kilos,I64 x.Load,I64 x.Discharge,U8 x.Class,BL x.Reefer]
def Box.av (x:Box):AV:=.agg x.cs
abbrev Eg (x:Box):AV:=.dptr (Box.cs x)
abbrev E3:=LS 9 Box.av
structure iO where
 States:Ln (Ln G2)
 Water:Ln (Ln Int)
 deriving Inhabited
def iO.cs (x:iO):List AV:=[LT 1 (LT 4 G2.av) x.States,LT 1 (LT 1 I64) x.Water]
def iO.av (x:iO):AV:=.agg x.cs
def iO.of (x:Ya):iO:=⟨(fun e=>(e.map (fun e=>(e,[])),[])) x.States,(fun e=>(e.map (fun e=>(e,[])),[])) x.Water⟩
namespace XLF
open XAF
theorem H4a (a b:Row):rT Ek 4 171 [.int .i64 a.Draught,.int .i64 a.Kilos,.int .i64 a.Buoy,.int .i64 a.Metacentre,.int .i64 a.xU] [.int .i64 b.Draught,.int .i64 b.Kilos,.int .i64 b.Buoy,.int .i64 b.Metacentre,.int .i64 b.xU]=some (decide (a=b)):=by
 refine(show _=some ((a.Draught==b.Draught)&&((a.Kilos==b.Kilos)&&((a.Buoy==b.Buoy)&&((a.Metacentre==b.Metacentre)&&((a.xU==b.xU)&&true))))) by kernel_rfl).trans (congrArg some ?_)
 rw [Bool.eq_iff_iff]
 simp only [Pp,beq_iff_eq,Pq,Bool.and_true]
 constructor
 .intro h; obtain⟨_,_,_,_,_⟩:=a; obtain⟨_,_,_,_,_⟩:=b; simp_all
 .intro h; subst h; simp
theorem H49 (a b:Frame):rT Ek 4 174 [.int .i64 a.X,.int .i64 a.Light,.int .i64 a.Share,.int .i64 a.Shear,.int .i64 a.Bend] [.int .i64 b.X,.int .i64 b.Light,.int .i64 b.Share,.int .i64 b.Shear,.int .i64 b.Bend]=some (decide (a=b)):=by
 refine(show _=some ((a.X==b.X)&&((a.Light==b.Light)&&((a.Share==b.Share)&&((a.Shear==b.Shear)&&((a.Bend==b.Bend)&&true))))) by kernel_rfl).trans (congrArg some ?_)
 rw [Bool.eq_iff_iff]
 simp only [Pp,beq_iff_eq,Pq,Bool.and_true]
 constructor
 .intro h; obtain⟨_,_,_,_,_⟩:=a; obtain⟨_,_,_,_,_⟩:=b; simp_all
 .intro h; subst h; simp
theorem Q24 (a b:Light):rT Ek 4 25 [.int .i64 a.Kilos,.int .i64 a.X,.int .i64 a.Y,.int .i64 a.Z] [.int .i64 b.Kilos,.int .i64 b.X,.int .i64 b.Y,.int .i64 b.Z]=some (decide (a=b)):=by
 refine(show _=some ((a.Kilos==b.Kilos)&&((a.X==b.X)&&((a.Y==b.Y)&&((a.Z==b.Z)&&true)))) by kernel_rfl).trans (congrArg some ?_)
 rw [Bool.eq_iff_iff]
 simp only [Pp,beq_iff_eq,Pq,Bool.and_true]
 constructor
 .intro h; obtain⟨_,_,_,_⟩:=a; obtain⟨_,_,_,_⟩:=b; simp_all
 .intro h; subst h; simp
theorem Q23 (a b:Gk):rT Ek 4 30 [.int .i64 a.Tolerance,.int .i64 a.Trim,.int .i64 a.List_,.int .i64 a.Stability] [.int .i64 b.Tolerance,.int .i64 b.Trim,.int .i64 b.List_,.int .i64 b.Stability]=some (decide (a=b)):=by
 refine(show _=some ((a.Tolerance==b.Tolerance)&&((a.Trim==b.Trim)&&((a.List_==b.List_)&&((a.Stability==b.Stability)&&true)))) by kernel_rfl).trans (congrArg some ?_)
 rw [Bool.eq_iff_iff]
 simp only [Pp,beq_iff_eq,Pq,Bool.and_true]
 constructor
 .intro h; obtain⟨_,_,_,_⟩:=a; obtain⟨_,_,_,_⟩:=b; simp_all
 .intro h; subst h; simp
theorem Jbd (a b:Box):rT Ek 4 77 [.int .i64 a.ID,.string a.Number,.int .u8 a.Size,.bool a.High,.int .i64 a.Kilos,.int .i64 a.Load,.int .i64 a.Discharge,.int .u8 a.Class,.bool a.Reefer] [.int .i64 b.ID,.string b.Number,.int .u8 b.Size,.bool b.High,.int .i64 b.Kilos,.int .i64 b.Load,.int .i64 b.Discharge,.int .u8 b.Class,.bool b.Reefer]=some (decide (a=b)):=by
 refine(show _=some ((a.ID==b.ID)&&((a.Number==b.Number)&&((a.Size==b.Size)&&((a.High==b.High)&&((a.Kilos==b.Kilos)&&((a.Load==b.Load)&&((a.Discharge==b.Discharge)&&((a.Class==b.Class)&&((a.Reefer==b.Reefer)&&true))))))))) by kernel_rfl).trans (congrArg some ?_)
 rw [Bool.eq_iff_iff]
 simp only [Pp,H99,beq_iff_eq,Pq,Bool.and_true]
 constructor
 .intro h; obtain⟨_,_,_,_,_,_,_,_,_⟩:=a; obtain⟨_,_,_,_,_,_,_,_,_⟩:=b; simp_all
 .intro h; subst h; simp
theorem J19 (a b:G2):rT Ek 4 83 [.int .i64 a.Box,.int .i64 a.Slot.G6,.int .i64 a.Slot.Tier,.int .u8 a.Slot.Half] [.int .i64 b.Box,.int .i64 b.Slot.G6,.int .i64 b.Slot.Tier,.int .u8 b.Slot.Half]=some (decide (a=b)):=by
 refine(show _=some ((a.Box==b.Box)&&(((a.Slot.G6==b.Slot.G6)&&((a.Slot.Tier==b.Slot.Tier)&&((a.Slot.Half==b.Slot.Half)&&true)))&&true)) by kernel_rfl).trans (congrArg some ?_)
 rw [Bool.eq_iff_iff]
 simp only [Pp,beq_iff_eq,Pq,Bool.and_true]
 constructor
 .intro h; obtain⟨_,⟨_,_,_⟩⟩:=a; obtain⟨_,⟨_,_,_⟩⟩:=b; simp_all
 .intro h; subst h; simp
theorem lG:iC Ek 171 5=true:=by kernel_rfl
theorem lF:iC Ek 174 5=true:=by kernel_rfl
theorem cK:iC Ek 177 6=true:=by kernel_rfl
theorem G74:iC Ek 25 4=true:=by kernel_rfl
theorem G73:iC Ek 30 4=true:=by kernel_rfl
theorem J4:iC Ek 32 13=true:=by kernel_rfl
theorem R5:iC Ek 37 2=true:=by kernel_rfl
theorem bN:iC Ek 77 9=true:=by kernel_rfl
theorem Zt:iC Ek 83 4=true:=by kernel_rfl
theorem tY:cI Ek 171=true:=by kernel_rfl
theorem tX:cI Ek 174=true:=by kernel_rfl
theorem H05:cI Ek 25=true:=by kernel_rfl
theorem H04:cI Ek 30=true:=by kernel_rfl
theorem QX:cI Ek 77=true:=by kernel_rfl
theorem wC:cI Ek 83=true:=by kernel_rfl
theorem sI:RT Ek 4=true:=by kernel_rfl
theorem Gef:H7 Ek 128=true:=by kernel_rfl
theorem Gee:H7 Ek 129=true:=by kernel_rfl
theorem Ged:H7 Ek 130=true:=by kernel_rfl
theorem Gec:H7 Ek 131=true:=by kernel_rfl
theorem Geb:H7 Ek 132=true:=by kernel_rfl
theorem Gea:H7 Ek 133=true:=by kernel_rfl
theorem wB:H7 Ek 134=true:=by kernel_rfl
theorem Ge9:H7 Ek 135=true:=by kernel_rfl
theorem wA:H7 Ek 136=true:=by kernel_rfl
theorem Ge8:H7 Ek 137=true:=by kernel_rfl
theorem vY:H7 Ek 138=true:=by kernel_rfl
theorem Ge7:H7 Ek 139=true:=by kernel_rfl
theorem Ge6:H7 Ek 140=true:=by kernel_rfl
theorem Ge5:H7 Ek 141=true:=by kernel_rfl
theorem QQ:H7 Ek 142=true:=by kernel_rfl
theorem qT:H7 Ek 143=true:=by kernel_rfl
theorem dI:H7 Ek 15=true:=by kernel_rfl
theorem vX:H7 Ek 183=true:=by kernel_rfl
theorem H6d:H7 Ek 35=true:=by kernel_rfl
theorem H6c:H7 Ek 36=true:=by kernel_rfl
theorem H6b:H7 Ek 37=true:=by kernel_rfl
theorem H6a:H7 Ek 38=true:=by kernel_rfl
theorem H69:H7 Ek 39=true:=by kernel_rfl
theorem ZS:H7 Ek 40=true:=by kernel_rfl
theorem H68:H7 Ek 41=true:=by kernel_rfl
theorem H67:H7 Ek 42=true:=by kernel_rfl
theorem H60:H7 Ek 56=true:=by kernel_rfl
theorem H5f:H7 Ek 57=true:=by kernel_rfl
theorem H5e:H7 Ek 58=true:=by kernel_rfl
theorem H5d:H7 Ek 59=true:=by kernel_rfl
theorem H5c:H7 Ek 60=true:=by kernel_rfl
theorem H5b:H7 Ek 61=true:=by kernel_rfl
theorem H5a:H7 Ek 62=true:=by kernel_rfl
theorem H59:H7 Ek 63=true:=by kernel_rfl
theorem H58:H7 Ek 64=true:=by kernel_rfl
theorem H57:H7 Ek 87=true:=by kernel_rfl
theorem ZN:H7 Ek 88=true:=by kernel_rfl
theorem H56:H7 Ek 89=true:=by kernel_rfl
theorem ZM:H7 Ek 90=true:=by kernel_rfl
theorem ZL:H7 Ek 91=true:=by kernel_rfl
theorem ZK:H7 Ek 92=true:=by kernel_rfl
theorem H55:H7 Ek 93=true:=by kernel_rfl
theorem ZJ:H7 Ek 94=true:=by kernel_rfl
theorem Y4:H7 Ek 95=true:=by kernel_rfl
theorem H54:H7 Ek 96=true:=by kernel_rfl
theorem ZI:H7 Ek 97=true:=by kernel_rfl
theorem tV:H7 Ek 98=true:=by kernel_rfl
theorem ZH:H7 Ek 99=true:=by kernel_rfl
theorem vV:Qo Ek 171 5 40=true:=by kernel_rfl
theorem vU:Qo Ek 174 5 40=true:=by kernel_rfl
theorem vT:Qo Ek 177 6 64=true:=by kernel_rfl
theorem fY:Qo Ek 3 1 8=true:=by kernel_rfl
theorem oT:Qo Ek 51 1 24=true:=by kernel_rfl
theorem yT:Qo Ek 71 12 112=true:=by kernel_rfl
theorem yS:Qo Ek 73 2 32=true:=by kernel_rfl
theorem yR:Qo Ek 74 1 24=true:=by kernel_rfl
theorem yQ:Qo Ek 77 9 64=true:=by kernel_rfl
theorem yP:Qo Ek 83 4 32=true:=by kernel_rfl
theorem yO:Ek.eqGuardType Ek.depth 171=false:=by kernel_rfl
theorem yN:Ek.eqGuardType Ek.depth 174=false:=by kernel_rfl
theorem Hde:Ek.eqGuardType Ek.depth 25=false:=by kernel_rfl
theorem Hdd:Ek.eqGuardType Ek.depth 30=false:=by kernel_rfl
theorem G71:Ek.eqGuardType Ek.depth 77=false:=by kernel_rfl
theorem HN:Ek.eqGuardType Ek.depth 83=false:=by kernel_rfl
theorem vS:Jm Ek 177 0 0=true:=by kernel_rfl
theorem vR:Jm Ek 177 1 1=true:=by kernel_rfl
theorem vQ:Jm Ek 177 2 2=true:=by kernel_rfl
theorem vP:Jm Ek 177 3 3=true:=by kernel_rfl
theorem vO:Jm Ek 177 4 4=true:=by kernel_rfl
theorem eV:Jm Ek 177 5 5=true:=by kernel_rfl
theorem xY:Jm Ek 32 2 2=true:=by kernel_rfl
theorem fX:Jm Ek 32 3 6=true:=by kernel_rfl
theorem fW:Jm Ek 32 4 7=true:=by kernel_rfl
theorem fV:Jm Ek 32 5 8=true:=by kernel_rfl
theorem xX:Jm Ek 32 6 9=true:=by kernel_rfl
theorem fU:Jm Ek 37 1 1=true:=by kernel_rfl
theorem G56:placesOf Ek 171=some [(0,1),(1,1),(2,1),(3,1),(4,1)]:=by kernel_rfl
theorem G55:placesOf Ek 174=some [(0,1),(1,1),(2,1),(3,1),(4,1)]:=by kernel_rfl
theorem G54:placesOf Ek 177=some [(0,1),(1,1),(2,1),(3,1),(4,1),(5,1)]:=by kernel_rfl
theorem iA:placesOf Ek 71=some [(0,1),(1,1),(2,1),(3,1),(4,1),(5,1),(6,1),(7,1),(8,1),(9,1),(10,1),(11,1)]:=by kernel_rfl
theorem zY:placesOf Ek 73=some [(0,1),(1,1)]:=by kernel_rfl
theorem hY:placesOf Ek 77=some [(0,1),(1,1),(2,1),(3,1),(4,1),(5,1),(6,1),(7,1),(8,1)]:=by kernel_rfl
theorem zX:placesOf Ek 83=some [(0,1),(1,3)]:=by kernel_rfl
theorem kL:Jc Ek 26=true:=by kernel_rfl
theorem kK:Jc Ek 27=true:=by kernel_rfl
theorem kJ:Jc Ek 28=true:=by kernel_rfl
theorem cP:Jc Ek 35=true:=by kernel_rfl
theorem Gd1:Rc Ek 171 5=true:=by kernel_rfl
theorem Gd0:Rc Ek 174 5=true:=by kernel_rfl
theorem vM:Rc Ek 177 6=true:=by kernel_rfl
theorem H52:Rc Ek 22 1=true:=by kernel_rfl
theorem H51:Rc Ek 23 1=true:=by kernel_rfl
theorem H50:Rc Ek 26 1=true:=by kernel_rfl
theorem H4f:Rc Ek 27 1=true:=by kernel_rfl
theorem H4e:Rc Ek 28 1=true:=by kernel_rfl
theorem oS:Rc Ek 32 13=true:=by kernel_rfl
theorem yM:Rc Ek 34 1=true:=by kernel_rfl
theorem ZB:Rc Ek 35 1=true:=by kernel_rfl
theorem tU:Rc Ek 37 2=true:=by kernel_rfl
theorem tT:Rc Ek 51 1=true:=by kernel_rfl
theorem cJ:Rc Ek 77 9=true:=by kernel_rfl
theorem eH:Rc Ek 83 4=true:=by kernel_rfl
theorem Qm:sliceB Ek 26 171 5=true:=by kernel_rfl
theorem Qk:sliceB Ek 27 174 5=true:=by kernel_rfl
theorem Q3:sliceB Ek 28 177 6=true:=by kernel_rfl
theorem J3:sliceB Ek 33 77 9=true:=by kernel_rfl
theorem Hz:sliceB Ek 35 51 1=true:=by kernel_rfl
theorem H5:sliceB Ek 74 83 4=true:=by kernel_rfl
theorem QE:(Ek.info? 171).bind (fun i=>i.zero.map Value.cells)=some (List.toArray [E0,E0,E0,E0,E0]):=by kernel_rfl
theorem QD:(Ek.info? 174).bind (fun i=>i.zero.map Value.cells)=some (List.toArray [E0,E0,E0,E0,E0]):=by kernel_rfl
theorem vL:(Ek.info? 177).bind (fun i=>i.zero.map Value.cells)=some (List.toArray [E0,E0,E0,E0,E0,.slice none 0 0]):=by kernel_rfl
theorem oQ:(Ek.info? 32).bind (fun i=>i.zero.map Value.cells)=some (List.toArray [.slice none 0 0,.slice none 0 0,E0,E0,E0,E0,.slice none 0 0,.slice none 0 0,.slice none 0 0,E0,E0,E0,E0]):=by kernel_rfl
theorem tQ:(Ek.info? 37).bind (fun i=>i.zero.map Value.cells)=some (List.toArray [.slice none 0 0,.slice none 0 0]):=by kernel_rfl
theorem gO:(Ek.info? 71).bind (fun i=>i.zero.map Value.cells)=some (List.toArray [E0,E0,.bool false,E0,E0,E0,E0,E0,.slice none 0 0,E0,E0,E0]):=by kernel_rfl
theorem tP:(Ek.info? 73).bind (fun i=>i.zero.map Value.cells)=some (List.toArray [E0,.slice none 0 0]):=by kernel_rfl
theorem fG:(Ek.info? 77).bind (fun i=>i.zero.map Value.cells)=some (List.toArray [E0,.string ByteArray.empty,.int .u8 0,.bool false,E0,E0,E0,.int .u8 0,.bool false]):=by kernel_rfl
theorem tO:(Ek.info? 83).bind (fun i=>i.zero.map Value.cells)=some (List.toArray [E0,E0,E0,.int .u8 0]):=by kernel_rfl
theorem G99:Yf Ek 171 5=true:=by kernel_rfl
theorem G98:Yf Ek 174 5=true:=by kernel_rfl
theorem tN:Yf Ek 177 6=true:=by kernel_rfl
theorem Zq:Yf Ek 3 1=true:=by kernel_rfl
theorem mE:Yf Ek 51 1=true:=by kernel_rfl
theorem gN:Yf Ek 74 1=true:=by kernel_rfl
theorem dX:Yf Ek 77 9=true:=by kernel_rfl
theorem Yd:Yf Ek 83 4=true:=by kernel_rfl
end XLF
open XAF
open XLF

def Ho (k:Int) (i:Int):Option Int:=
 chk (k+7) fun a=>
 chk (1000003*a) fun b=>
 chk (b+i) fun c=>
 some c
theorem J0 (k:Int) (i:Int) (r:Int) (h:Ho k i=some r):Pure Ek 95 [I64 k,I64 i] (·=I64 r):=by
 unfold Ho at h
 refine Gy [.tmp 4] Tryz.func95 G G (Jr fun a=>(JLm (I64 0) G (G5 (a (Jr fun b=>(JLm (I64 k) G ?_))))))
 obtain⟨g,c,h⟩:=R2 h
 refine JLh (I64 g) (Hs c G G G) G ?_
 obtain⟨j,d,h⟩:=R2 h
 refine JLh (I64 j) (Jd8 d G G G) G (JLm (I64 i) G ?_)
 obtain⟨e,f,h⟩:=R2 h
 refine JLh (I64 e) (Hs f G G G) G (JLm (I64 e) G (G5 (b (Gs (fin1 I64 h)))))

def R6 (l:List Int):Option (Ln Int):=
 chk ((l.length:Int)+12) fun g=>
 bnd (nI g) fun e=>
 need (decide (8*e≤281474976710656/\e≤maxLen)) <|
 need (decide ((([]:List Int).length+l.length)*8≤140737488355328/\([]:List Int).length+l.length≤maxLen)) <|
 need (decide (12≤9223372036854775807)) <|
 upto (fun f (a:(List Int)) d=>
  bnd (Ho 1 (f:Int)) fun b=>
  need (decide ((a.length+[b].length)*8≤140737488355328/\a.length+[b].length≤maxLen)) <|
  d (a++[b]))
 (fun(a:(List Int))=>
  bnd (cO (l.length:Int) a.length) fun c=>
  some (a.take c,a.drop c)) (12:Int).toNat 0 (([]:List Int)++l)
theorem bD (l:List Int) (r:(Ln Int)) (h:R6 l=some r):Pure Ek 98 [E2 l] (·=LT 1 I64 r):=by
 unfold R6 at h
 refine Gy [.tmp 2] Tryz.func98 G G (Jr fun w=>(JLh (E2 ([]:List Int)) (Qd 1 G G) G (G5 (w (Jr fun x=>(JLm (E2 l) G (JLl Gz G G G fun b0=>?_)))))))
 obtain⟨v3,y,h⟩:=R2 h
 refine JLh (I64 v3) (Hs y G G G) G ?_
 obtain⟨m4,z,h⟩:=Gd h
 obtain⟨a0,h⟩:=J5 h
 refine JLh (OW 1110 1 I64 ([]:List Int)) (fD 1110 G G G G Gz fY G (gB z) a0) G (JLm (OW 1110 1 I64 ([]:List Int)) G (G5 (x (Jr fun a1=>(JLm (OW 1110 1 I64 ([]:List Int)) G (JLm (E2 l) G ?_))))))
 obtain⟨a2,h⟩:=J5 h
 refine JLh (OW 1110 1 I64 (([]:List Int)++l)) (oO (f:=I64) (xs:=([]:List Int)) (ys:=l) G G G G Gz fY a2 (fun _=>G) (.inl G)) G (JLm (OW 1110 1 I64 (([]:List Int)++l)) G (G5 (a1 (Js fun a3=>Jr fun a4=>(JLm (I64 0) G (G5 (a4 (Gf ?_))))))))
 obtain⟨j,h⟩:=J5 h
 obtain⟨a5,k,m,i,h⟩:=dW h
 refine H8 (fun b (a:(List Int))=>upto a5 k ((12:Int).toNat - b) b a=some r) (fun b a=>[(0,E2 l),(3,OW 1110 1 I64 a),(4,Ej b)]) (fun b a=>[(1110,.spare 3 1 a.length a.length)]) (fun b=>(12:Int).toNat - b) 0 (([]:List Int)++l) h ⟨(.sm G G),⟨⟨_,G,.same⟩,U⟩,G⟩ ?_
 clear h
 intro b a e b1 a6
 refine Js fun n=>Jr fun o=>(JLm (Ej b) G (JLh (BL (decide ((b:Int) < 12))) (Hr G G G) G (G5 (o (Gg G (fun hb=>?_) (fun hb=>?_))))))
 ·
  have g:=cE hb
  obtain⟨a8,p,h⟩:=cA e g
  replace h:=vG m h
  refine Gn (n (Js fun q=>Gf (G1 (JLm (OW 1110 1 I64 a) G (JLm (Ej b) G ?_)))))
  obtain⟨c,s,h⟩:=Gd h
  refine JLh (I64 c) (Gi G (J0 1 (b:Int) c s) Y4 ⟨G,G,G,G,U⟩) G (JLh (E2 [c]) (Hf (xs:=[I64 c]) G ⟨G,G,U⟩ Gz Zq G G G G) G ?_)
  obtain⟨t,h⟩:=J5 h
  refine JLh (OW 1110 1 I64 (a++[c])) (R8 (f:=I64) (xs:=a) (ys:=[c]) G G G G Gz fY t (fun _=>G) (.inl G) G) G (JLm (OW 1110 1 I64 (a++[c])) G (G5 (q (G1 (JLm (Ej b) G (JLh (I64 ((b+1:Nat):Int)) (Hs (Hb g (Zr j)) G G G) G (JLm (I64 ((b+1:Nat):Int)) G (G5 (a6 _ _ (b+1) (a++[c]) (app1 p h) (by omega) ⟨(.sm G G),⟨⟨_,rfl,.same⟩,U⟩,rfl⟩)))))))))
 ·
  have h:=app1 i (cB e (R9 hb))
  refine H9 (a3 (Jr fun u=>(JLm (OW 1110 1 I64 a) G (JLm (E2 l) G (JLl Gz G G G fun a9=>?_)))))
  obtain⟨d,v,h⟩:=Gd h
  refine JLh (LT 1 I64 (a.take d,a.drop d)) (yK (f:=I64) (xs:=a) G G G Gz (Rq v)) G (JLm (LT 1 I64 (a.take d,a.drop d)) G (G5 (u (Gs (fin1 (fun r:(Ln Int)=>(LT 1 I64 r:AV)) h)))))

def Z5 (x:G6):Option Gx:=
 bnd (R6 x.Plugs) fun a=>
 some (Gx.mk x.Bay x.Row x.Deck x.Tiers x.Height x.Kilos20 x.Kilos40 x.Lash a x.X x.Y x.Z)
abbrev K0 (x:G6) (a:Ln Int):List AV:=[I64 x.Bay,I64 x.Row,BL x.Deck,I64 x.Tiers,I64 x.Height,I64 x.Kilos20,I64 x.Kilos40,I64 x.Lash,LT 1 I64 a,I64 x.X,I64 x.Y,I64 x.Z]
abbrev Ka:List AV:=[I64 0,I64 0,BL false,I64 0,I64 0,I64 0,I64 0,I64 0,E2 ([]:List Int),I64 0,I64 0,I64 0]
theorem oB (x:G6) (r:Gx) (h:Z5 x=some r):Pure Ek 87 [.agg (G6.cs x)] (·=.agg (Gx.cs r)):=by
 unfold Z5 at h
 refine Gy [.cell 2 71] Tryz.func87 G G (Jr fun b=>(JLh (.ptr 1098 0) (Jy (cs:=(G6.cs x)) 1098 G G G G G) G (JLh (.ptr 1099 0) (Rn 1099 Ka [E0,E0,.bool false,E0,E0,E0,E0,E0,.slice none 0 0,E0,E0,E0] gO ⟨.inl G,.inl G,.inl G,.inl G,.inl G,.inl G,.inl G,.inl G,.inr ⟨_,G,G⟩,.inl G,.inl G,.inl G,U⟩ G G) G (G5 (b (Jr fun c=>(JLh (.ptr 1098 8) (Z9 Rz G G) G (JLh (E2 x.Plugs) (Zp He G G G G) G ?_))))))))
 obtain⟨a,d,h⟩:=Gd h
 refine JLh (LT 1 I64 a) (Gi G (bD x.Plugs a d) tV ⟨G,G,U⟩) G (JLh (.ptr 1098 8) (Z9 Rz G G) G (J7 (u:=.junk) (Hv (u:=LT 1 I64 a) (ds:=(K0 x a)) tT G G G G G G G G) (G5 (c (Gw [(1,.dptr (K0 x a)),(2,.ptr 1099 0)] [(1099,.box 71 Ka)] 1098 rfl rfl rfl ⟨⟨_,rfl,.boxEq rfl rfl⟩,U⟩ rfl (by exact⟨.ptr,.conv (.same rfl),U⟩) ?_)))))
 refine Jr fun e=>(JLh (.agg (K0 x a)) (Gj Zu G G G) G (J7 (u:=.junk) (Hv (u:=.agg (K0 x a)) (ds:=(K0 x a)) oR G G G G G G G G) (G5 (e (Gs ?_)))))
 exact⟨[.agg (K0 x a)],[],U,G,⟨⟨_,⟨_,_,_,_,G,G,G,.inl ⟨Zu,G⟩⟩,.conv (.same G)⟩,U⟩,G,congrArg (fun r:Gx=>(.agg (Gx.cs r):AV)) (Pc h)⟩

def R7 (k:Int) (i:Int):Option G6:=
 bnd (Ho k i) fun a=>
 some (G6.mk a 0 false 0 0 0 0 0 [] 0 0 0)
abbrev Kb (a:Int):List AV:=[I64 a,I64 0,BL false,I64 0,I64 0,I64 0,I64 0,I64 0,E2 ([]:List Int),I64 0,I64 0,I64 0]
theorem gK (k:Int) (i:Int) (r:G6) (h:R7 k i=some r):Pure Ek 88 [I64 k,I64 i] (·=.agg (G6.cs r)):=by
 unfold R7 at h
 refine Gy [.cell 4 71] Tryz.func88 G G (Jr fun b=>(JLh (.ptr 1100 0) (Rn 1100 Ka [E0,E0,.bool false,E0,E0,E0,E0,E0,.slice none 0 0,E0,E0,E0] gO ⟨.inl G,.inl G,.inl G,.inl G,.inl G,.inl G,.inl G,.inl G,.inr ⟨_,G,G⟩,.inl G,.inl G,.inl G,U⟩ G G) G (G5 (b (Jr fun c=>(JLm (I64 k) G (JLm (I64 i) G ?_)))))))
 obtain⟨a,d,h⟩:=Gd h
 refine JLh (I64 a) (Gi G (J0 k i a d) Y4 ⟨G,G,G,G,U⟩) G (JLh (.agg (Kb a)) (Jq (cs:=(Kb a)) [(0,1),(1,1),(2,1),(3,1),(4,1),(5,1),(6,1),(7,1),(8,1),(9,1),(10,1),(11,1)] Ka [E0,E0,.bool false,E0,E0,E0,E0,E0,.slice none 0 0,E0,E0,E0] iA gO ⟨.inl G,.inl G,.inl G,.inl G,.inl G,.inl G,.inl G,.inl G,.inr ⟨_,G,G⟩,.inl G,.inl G,.inl G,U⟩ G G) G (J7 (u:=.junk) (Hv (u:=.agg (Kb a)) (ds:=(Kb a)) oR G G G G G G G G) (G5 (c ?_))))
 refine Gs (⟨[.agg (Kb a)],[],U,G,⟨⟨_,⟨_,_,_,_,G,G,G,.inl ⟨Zu,G⟩⟩,.conv (.same G)⟩,U⟩,G,congrArg (fun r:G6=>(.agg (G6.cs r):AV)) (Pc h)⟩)

def Yp (l:List G6):Option (Ln Gx):=
 chk ((l.length:Int)+12) fun k=>
 bnd (nI k) fun h=>
 need (decide (112*h≤281474976710656/\h≤maxLen)) <|
 each (fun i m (c:(List Gx)) f=>
  bnd (Z5 i) fun d=>
  need (decide ((c.length+[d].length)*112≤140737488355328/\c.length+[d].length≤maxLen)) <|
  f (c++[d]))
 (fun(c:(List Gx))=>
  need (decide (12≤9223372036854775807)) <|
  upto (fun j (b:(List Gx)) g=>
   bnd (R7 1 (j:Int)) fun a=>
   need (decide ((b.length+[(Gx.mk a.Bay a.Row a.Deck a.Tiers a.Height a.Kilos20 a.Kilos40 a.Lash (a.Plugs,([]:List Int)) a.X a.Y a.Z)].length)*112≤140737488355328/\b.length+[(Gx.mk a.Bay a.Row a.Deck a.Tiers a.Height a.Kilos20 a.Kilos40 a.Lash (a.Plugs,([]:List Int)) a.X a.Y a.Z)].length≤maxLen)) <|
   g (b++[(Gx.mk a.Bay a.Row a.Deck a.Tiers a.Height a.Kilos20 a.Kilos40 a.Lash (a.Plugs,([]:List Int)) a.X a.Y a.Z)]))
  (fun(b:(List Gx))=>
   bnd (cO (l.length:Int) b.length) fun e=>
   some (b.take e,b.drop e)) (12:Int).toNat 0 c) l 0 []
abbrev Kc (a:G6):List Gx:=[(Gx.mk a.Bay a.Row a.Deck a.Tiers a.Height a.Kilos20 a.Kilos40 a.Lash (a.Plugs,([]:List Int)) a.X a.Y a.Z)]
abbrev Kd (a:G6):List AV:=[I64 a.Bay,I64 a.Row,BL a.Deck,I64 a.Tiers,I64 a.Height,I64 a.Kilos20,I64 a.Kilos40,I64 a.Lash,LT 1 I64 (a.Plugs,([]:List Int)),I64 a.X,I64 a.Y,I64 a.Z]
theorem mY (l:List G6) (r:(Ln Gx)) (h:Yp l=some r):Pure Ek 35 [E4 l] (·=LT 12 Gx.av r):=by
 unfold Yp at h
 refine Gy [.tmp 2] Tryz.func35 G G (Jr fun b8=>(JLh (E4 ([]:List G6)) (Qd 12 G G) G (G5 (b8 (Jr fun b9=>(JLm (E4 l) G (JLl Hd G G G fun d3=>?_)))))))
 obtain⟨v3,c0,h⟩:=R2 h
 refine JLh (I64 v3) (Hs c0 G G G) G ?_
 obtain⟨m4,c1,h⟩:=Gd h
 obtain⟨c2,h⟩:=J5 h
 refine JLh (OW 1049 12 Gx.av ([]:List Gx)) (fD 1049 G G G G Hd yT G (gB c1) c2) G (JLm (OW 1049 12 Gx.av ([]:List Gx)) G (G5 (b9 (Js fun c3=>Jr fun c4=>(JLm (I64 0) G (G5 (c4 (Gf ?_))))))))
 obtain⟨c5,s,t,p,h⟩:=Hy h
 refine H8 (fun b (c:(List Gx))=>each c5 s (List.drop b l) b c=some r) (fun b c=>[(0,E4 l),(3,OW 1049 12 Gx.av c),(4,Ej b)]) (fun b c=>[(1049,.spare 71 12 c.length c.length)]) (fun b=>l.length - b) 0 [] h ⟨(.sm G G),⟨⟨_,G,.same⟩,U⟩,G⟩ ?_
 clear h
 intro b c k d4 c6
 refine Js fun v=>Jr fun w=>(JLm (Ej b) G (JLm (E4 l) G (JLl Hd G G G fun x=>(JLh (BL (decide ((b:Int) < (l.length:Int)))) (Hr G G G) G (G5 (w (Gg G (fun hb=>?_) (fun hb=>?_))))))))
 ·
  have m:=Je hb
  obtain⟨i,d0,z,a0,h⟩:=Hh k m
  replace h:=Rx t h
  refine Gn (v (Js fun a1=>Gf (Jr fun a2=>(JLm (E4 l) G (JLm (Ej b) G (JLh (Ef i) (Gr (f:=G6.av) (xs:=l) (y:=i) G G G Hd z G) G (JLh (.agg (G6.cs i)) (Gj Zu G G G) G ?_)))))))
  obtain⟨e,a3,h⟩:=Gd h
  refine JLh (.agg (Gx.cs e)) (Gi G (oB i e a3) H57 ⟨G,G,U⟩) G (JLh (.ptr 1048 0) (Jp 1048 12 jS G G) G (J7 (u:=.junk) (Hv (u:=.agg (Gx.cs e)) (ds:=(Gx.cs e)) oR G G G G G G G G) (G5 (a2 (fzQ [(0,E4 l),(3,OW 1049 12 Gx.av c),(4,Ej b),(5,.dptr (Gx.cs e))] [(1049,.spare 71 12 c.length c.length)] 1048 rfl rfl rfl ⟨⟨_,rfl,.same⟩,U⟩ rfl (G1 ?_))))))
  refine JLm (OW 1049 12 Gx.av c) G (JLh (.agg (Gx.cs e)) (Gj Zu G G G) G (JLh (LS 12 Gx.av [e]) (Hf (xs:=[.agg (Gx.cs e)]) G ⟨G,G,U⟩ Hd jS G G G G) G ?_))
  obtain⟨a4,h⟩:=J5 h
  refine JLh (OW 1049 12 Gx.av (c++[e])) (R8 (f:=Gx.av) (xs:=c) (ys:=[e]) G G G G Hd yT a4 (fun _=>G) (.inl G) G) G (JLm (OW 1049 12 Gx.av (c++[e])) G (G5 (a1 (G1 (JLm (Ej b) G (JLh (I64 ((b+1:Nat):Int)) (Hs (Hb m x) G G G) G (JLm (I64 ((b+1:Nat):Int)) G (G5 (c6 _ _ (b+1) (c++[e]) (app1 a0 h) (by omega) ⟨(.sm G G),⟨⟨_,rfl,.same⟩,U⟩,rfl⟩)))))))))
 ·
  have h:=app1 p (Hi k (H6 hb))
  refine H9 (c3 (Js fun a5=>Jr fun a6=>(JLm (I64 0) G (G5 (a6 (Gf ?_))))))
  obtain⟨a7,h⟩:=J5 h
  obtain⟨c7,a8,a9,q,h⟩:=dW h
  refine H8 (fun d (a:(List Gx))=>upto c7 a8 ((12:Int).toNat - d) d a=some r) (fun d a=>[(0,E4 l),(3,OW 1049 12 Gx.av a),(6,Ej d)]) (fun d a=>[(1049,.spare 71 12 a.length a.length)]) (fun d=>(12:Int).toNat - d) 0 c h ⟨(.sm G G),⟨⟨_,G,.same⟩,U⟩,G⟩ ?_
  clear h
  intro d a n d5 c8
  refine Js fun b0=>Jr fun b1=>(JLm (Ej d) G (JLh (BL (decide ((d:Int) < 12))) (Hr G G G) G (G5 (b1 (Gg G (fun hb=>?_) (fun hb=>?_))))))
  ·
   have o:=cE hb
   obtain⟨d1,b2,h⟩:=cA n o
   replace h:=vG a9 h
   refine Gn (b0 (Js fun b3=>Gf (G1 (JLm (OW 1049 12 Gx.av a) G (JLm (Ej d) G ?_)))))
   obtain⟨g,b4,h⟩:=Gd h
   refine JLh (.agg (Kd g)) (H2.cv (Cv.aggL (cs:=(G6.cs g)) ⟨.same,.same,.same,.same,.same,.same,.same,.same,Cv.of0 g.Plugs,.same,.same,.same,U⟩) (Gi G (gK 1 (d:Int) g b4) ZN ⟨G,G,G,G,U⟩)) G (JLh (LS 12 Gx.av ((Kc g))) (Hf (xs:=[.agg (Kd g)]) G ⟨G,G,U⟩ Hd jS G G G G) G ?_)
   obtain⟨b5,h⟩:=J5 h
   refine JLh (OW 1049 12 Gx.av (a++(Kc g))) (R8 (f:=Gx.av) (xs:=a) (ys:=(Kc g)) G G G G Hd yT b5 (fun _=>G) (.inl G) G) G (JLm (OW 1049 12 Gx.av (a++(Kc g))) G (G5 (b3 (G1 (JLm (Ej d) G (JLh (I64 ((d+1:Nat):Int)) (Hs (Hb o (Zr a7)) G G G) G (JLm (I64 ((d+1:Nat):Int)) G (G5 ?_))))))))
   exact c8 _ _ (d+1) (a++(Kc g)) (app1 b2 h) (by omega) ⟨(.sm G G),⟨⟨_,rfl,.same⟩,U⟩,rfl⟩
  ·
   have h:=app1 q (cB n (R9 hb))
   refine H9 (a5 (Jr fun b6=>(JLm (OW 1049 12 Gx.av a) G (JLm (E4 l) G (JLl Hd G G G fun d2=>?_)))))
   obtain⟨j,b7,h⟩:=Gd h
   refine JLh (LT 12 Gx.av (a.take j,a.drop j)) (yK (f:=Gx.av) (xs:=a) G G G Hd (Rq b7)) G (JLm (LT 12 Gx.av (a.take j,a.drop j)) G (G5 (b6 (Gs (fin1 (fun r:(Ln Gx)=>(LT 12 Gx.av r:AV)) h)))))

def Zi (x:H3):Option Ha:=
 bnd (R6 x.Rows) fun a=>
 some (Ha.mk x.Bay a)
theorem pS (x:H3) (r:Ha) (h:Zi x=some r):Pure Ek 89 [.agg [I64 x.Bay,E2 x.Rows]] (·=.agg [I64 r.Bay,LT 1 I64 r.Rows]):=by
 unfold Zi at h
 refine Gy [.cell 2 73] Tryz.func89 G G (Jr fun b=>(JLh (.ptr 1101 0) (Jy (cs:=[I64 x.Bay,E2 x.Rows]) 1101 G G G G G) G (JLh (.ptr 1102 0) (Rn 1102 [I64 0,E2 ([]:List Int)] [E0,.slice none 0 0] tP ⟨.inl G,.inr ⟨_,G,G⟩,U⟩ G G) G (G5 (b (Jr fun c=>(JLh (.ptr 1101 1) (Z9 Qg G G) G (JLh (E2 x.Rows) (Zp He G G G G) G ?_))))))))
 obtain⟨a,d,h⟩:=Gd h
 refine JLh (LT 1 I64 a) (Gi G (bD x.Rows a d) tV ⟨G,G,U⟩) G (JLh (.ptr 1101 1) (Z9 Qg G G) G (J7 (u:=.junk) (Hv (u:=LT 1 I64 a) (ds:=[I64 x.Bay,LT 1 I64 a]) tT G G G G G G G G) (G5 (c (Gw [(1,.dptr [I64 x.Bay,LT 1 I64 a]),(2,.ptr 1102 0)] [(1102,.box 73 [I64 0,E2 ([]:List Int)])] 1101 rfl rfl rfl ⟨⟨_,rfl,.boxEq rfl rfl⟩,U⟩ rfl (by exact⟨.ptr,.conv (.same rfl),U⟩) (Jr fun e=>(JLh (.agg [I64 x.Bay,LT 1 I64 a]) (Gj Zd G G G) G (J7 (u:=.junk) (Hv (u:=.agg [I64 x.Bay,LT 1 I64 a]) (ds:=[I64 x.Bay,LT 1 I64 a]) jL G G G G G G G G) (G5 (e (Gs ?_)))))))))))
 exact⟨[.agg [I64 x.Bay,LT 1 I64 a]],[],U,G,⟨⟨_,⟨_,_,_,_,G,G,G,.inl ⟨Zd,G⟩⟩,.conv (.same G)⟩,U⟩,G,congrArg (fun r:Ha=>(.agg [I64 r.Bay,LT 1 I64 r.Rows]:AV)) (Pc h)⟩

def Rj (k:Int) (i:Int):Option H3:=
 bnd (Ho k i) fun a=>
 some (H3.mk a [])
theorem gY (k:Int) (i:Int) (r:H3) (h:Rj k i=some r):Pure Ek 90 [I64 k,I64 i] (·=.agg [I64 r.Bay,E2 r.Rows]):=by
 unfold Rj at h
 refine Gy [.cell 4 73] Tryz.func90 G G (Jr fun b=>(JLh (.ptr 1103 0) (Rn 1103 [I64 0,E2 ([]:List Int)] [E0,.slice none 0 0] tP ⟨.inl G,.inr ⟨_,G,G⟩,U⟩ G G) G (G5 (b (Jr fun c=>(JLm (I64 k) G (JLm (I64 i) G ?_)))))))
 obtain⟨a,d,h⟩:=Gd h
 refine JLh (I64 a) (Gi G (J0 k i a d) Y4 ⟨G,G,G,G,U⟩) G (JLh (.agg [I64 a,E2 ([]:List Int)]) (Jq (cs:=[I64 a,E2 ([]:List Int)]) [(0,1),(1,1)] [I64 0,E2 ([]:List Int)] [E0,.slice none 0 0] zY tP ⟨.inl G,.inr ⟨_,G,G⟩,U⟩ G G) G (J7 (u:=.junk) (Hv (u:=.agg [I64 a,E2 ([]:List Int)]) (ds:=[I64 a,E2 ([]:List Int)]) jL G G G G G G G G) (G5 (c (Gs (⟨[.agg [I64 a,E2 ([]:List Int)]],[],U,G,⟨⟨_,⟨_,_,_,_,G,G,G,.inl ⟨Zd,G⟩⟩,.conv (.same G)⟩,U⟩,G,congrArg (fun r:H3=>(.agg [I64 r.Bay,E2 r.Rows]:AV)) (Pc h)⟩))))))

def Z4 (l:List H3):Option (Ln Ha):=
 chk ((l.length:Int)+12) fun k=>
 bnd (nI k) fun h=>
 need (decide (32*h≤281474976710656/\h≤maxLen)) <|
 each (fun i m (c:(List Ha)) f=>
  bnd (Zi i) fun d=>
  need (decide ((c.length+[d].length)*32≤140737488355328/\c.length+[d].length≤maxLen)) <|
  f (c++[d]))
 (fun(c:(List Ha))=>
  need (decide (12≤9223372036854775807)) <|
  upto (fun j (a:(List Ha)) g=>
   bnd (Rj 1 (j:Int)) fun b=>
   need (decide ((a.length+[(Ha.mk b.Bay (b.Rows,([]:List Int)))].length)*32≤140737488355328/\a.length+[(Ha.mk b.Bay (b.Rows,([]:List Int)))].length≤maxLen)) <|
   g (a++[(Ha.mk b.Bay (b.Rows,([]:List Int)))]))
  (fun(a:(List Ha))=>
   bnd (cO (l.length:Int) a.length) fun e=>
   some (a.take e,a.drop e)) (12:Int).toNat 0 c) l 0 []
abbrev Ke (a:H3):List Ha:=[(Ha.mk a.Bay (a.Rows,([]:List Int)))]
abbrev Kf (a:Ha):List AV:=[I64 a.Bay,LT 1 I64 a.Rows]
theorem oA (l:List H3) (r:(Ln Ha)) (h:Z4 l=some r):Pure Ek 36 [E5 l] (·=LT 2 Ha.av r):=by
 unfold Z4 at h
 refine Gy [.tmp 2] Tryz.func36 G G (Jr fun b8=>(JLh (E5 ([]:List H3)) (Qd 2 G G) G (G5 (b8 (Jr fun b9=>(JLm (E5 l) G (JLl J1 G G G fun d3=>?_)))))))
 obtain⟨v3,c0,h⟩:=R2 h
 refine JLh (I64 v3) (Hs c0 G G G) G ?_
 obtain⟨m4,c1,h⟩:=Gd h
 obtain⟨c2,h⟩:=J5 h
 refine JLh (OW 1051 2 Ha.av ([]:List Ha)) (fD 1051 G G G G J1 yS G (gB c1) c2) G (JLm (OW 1051 2 Ha.av ([]:List Ha)) G (G5 (b9 (Js fun c3=>Jr fun c4=>(JLm (I64 0) G (G5 (c4 (Gf ?_))))))))
 obtain⟨c5,s,t,p,h⟩:=Hy h
 refine H8 (fun b (c:(List Ha))=>each c5 s (List.drop b l) b c=some r) (fun b c=>[(0,E5 l),(3,OW 1051 2 Ha.av c),(4,Ej b)]) (fun b c=>[(1051,.spare 73 2 c.length c.length)]) (fun b=>l.length - b) 0 [] h ⟨(.sm G G),⟨⟨_,G,.same⟩,U⟩,G⟩ ?_
 clear h
 intro b c k d4 c6
 refine Js fun v=>Jr fun w=>(JLm (Ej b) G (JLm (E5 l) G (JLl J1 G G G fun x=>(JLh (BL (decide ((b:Int) < (l.length:Int)))) (Hr G G G) G (G5 (w (Gg G (fun hb=>?_) (fun hb=>?_))))))))
 ·
  have m:=Je hb
  obtain⟨i,d0,z,a0,h⟩:=Hh k m
  replace h:=Rx t h
  refine Gn (v (Js fun a1=>Gf (Jr fun a2=>(JLm (E5 l) G (JLm (Ej b) G (JLh (.dptr [I64 i.Bay,E2 i.Rows]) (Gr (f:=H3.av) (xs:=l) (y:=i) G G G J1 z G) G (JLh (.agg [I64 i.Bay,E2 i.Rows]) (Gj Zd G G G) G ?_)))))))
  obtain⟨g,a3,h⟩:=Gd h
  refine JLh (.agg (Kf g)) (Gi G (pS i g a3) H56 ⟨G,G,U⟩) G (JLh (.ptr 1050 0) (Jp 1050 2 fF G G) G (J7 (u:=.junk) (Hv (u:=.agg (Kf g)) (ds:=(Kf g)) jL G G G G G G G G) (G5 (a2 (fzQ [(0,E5 l),(3,OW 1051 2 Ha.av c),(4,Ej b),(5,.dptr (Kf g))] [(1051,.spare 73 2 c.length c.length)] 1050 rfl rfl rfl ⟨⟨_,rfl,.same⟩,U⟩ rfl (G1 ?_))))))
  refine JLm (OW 1051 2 Ha.av c) G (JLh (.agg (Kf g)) (Gj Zd G G G) G (JLh (LS 2 Ha.av [g]) (Hf (xs:=[.agg (Kf g)]) G ⟨G,G,U⟩ J1 fF G G G G) G ?_))
  obtain⟨a4,h⟩:=J5 h
  refine JLh (OW 1051 2 Ha.av (c++[g])) (R8 (f:=Ha.av) (xs:=c) (ys:=[g]) G G G G J1 yS a4 (fun _=>G) (.inl G) G) G (JLm (OW 1051 2 Ha.av (c++[g])) G (G5 (a1 (G1 (JLm (Ej b) G (JLh (I64 ((b+1:Nat):Int)) (Hs (Hb m x) G G G) G (JLm (I64 ((b+1:Nat):Int)) G (G5 (c6 _ _ (b+1) (c++[g]) (app1 a0 h) (by omega) ⟨(.sm G G),⟨⟨_,rfl,.same⟩,U⟩,rfl⟩)))))))))
 ·
  have h:=app1 p (Hi k (H6 hb))
  refine H9 (c3 (Js fun a5=>Jr fun a6=>(JLm (I64 0) G (G5 (a6 (Gf ?_))))))
  obtain⟨a7,h⟩:=J5 h
  obtain⟨c7,a8,a9,q,h⟩:=dW h
  refine H8 (fun d (a:(List Ha))=>upto c7 a8 ((12:Int).toNat - d) d a=some r) (fun d a=>[(0,E5 l),(3,OW 1051 2 Ha.av a),(6,Ej d)]) (fun d a=>[(1051,.spare 73 2 a.length a.length)]) (fun d=>(12:Int).toNat - d) 0 c h ⟨(.sm G G),⟨⟨_,G,.same⟩,U⟩,G⟩ ?_
  clear h
  intro d a n d5 c8
  refine Js fun b0=>Jr fun b1=>(JLm (Ej d) G (JLh (BL (decide ((d:Int) < 12))) (Hr G G G) G (G5 (b1 (Gg G (fun hb=>?_) (fun hb=>?_))))))
  ·
   have o:=cE hb
   obtain⟨d1,b2,h⟩:=cA n o
   replace h:=vG a9 h
   refine Gn (b0 (Js fun b3=>Gf (G1 (JLm (OW 1051 2 Ha.av a) G (JLm (Ej d) G ?_)))))
   obtain⟨e,b4,h⟩:=Gd h
   refine JLh (.agg [I64 e.Bay,LT 1 I64 (e.Rows,([]:List Int))]) (H2.cv (Cv.aggL (cs:=[I64 e.Bay,E2 e.Rows]) ⟨.same,Cv.of0 e.Rows,U⟩) (Gi G (gY 1 (d:Int) e b4) ZM ⟨G,G,G,G,U⟩)) G (JLh (LS 2 Ha.av ((Ke e))) (Hf (xs:=[.agg [I64 e.Bay,LT 1 I64 (e.Rows,([]:List Int))]]) G ⟨G,G,U⟩ J1 fF G G G G) G ?_)
   obtain⟨b5,h⟩:=J5 h
   refine JLh (OW 1051 2 Ha.av (a++(Ke e))) (R8 (f:=Ha.av) (xs:=a) (ys:=(Ke e)) G G G G J1 yS b5 (fun _=>G) (.inl G) G) G (JLm (OW 1051 2 Ha.av (a++(Ke e))) G (G5 (b3 (G1 (JLm (Ej d) G (JLh (I64 ((d+1:Nat):Int)) (Hs (Hb o (Zr a7)) G G G) G (JLm (I64 ((d+1:Nat):Int)) G (G5 (c8 _ _ (d+1) (a++(Ke e)) (app1 b2 h) (by omega) ⟨(.sm G G),⟨⟨_,rfl,.same⟩,U⟩,rfl⟩)))))))))
  ·
   have h:=app1 q (cB n (R9 hb))
   refine H9 (a5 (Jr fun b6=>(JLm (OW 1051 2 Ha.av a) G (JLm (E5 l) G (JLl J1 G G G fun d2=>?_)))))
   obtain⟨j,b7,h⟩:=Gd h
   refine JLh (LT 2 Ha.av (a.take j,a.drop j)) (yK (f:=Ha.av) (xs:=a) G G G J1 (Rq b7)) G (JLm (LT 2 Ha.av (a.take j,a.drop j)) G (G5 (b6 (Gs (fin1 (fun r:(Ln Ha)=>(LT 2 Ha.av r:AV)) h)))))

def Y7 (k:Int) (i:Int):Option Row:=
 bnd (Ho k i) fun a=>
 some (Row.mk 0 a 0 0 0)
abbrev Kg (a:Int):List AV:=[I64 0,I64 a,I64 0,I64 0,I64 0]
theorem iV (k:Int) (i:Int) (r:Row) (h:Y7 k i=some r):Pure Ek 91 [I64 k,I64 i] (·=.agg (Row.cs r)):=by
 unfold Y7 at h
 refine Gy [.cell 4 171] Tryz.func91 G G (Jr fun b=>(JLh (.ptr 1104 0) (Rn 1104 [I64 0,I64 0,I64 0,I64 0,I64 0] [E0,E0,E0,E0,E0] QE (zzQ G) G G) G (G5 (b (Jr fun c=>(JLm (I64 k) G (JLm (I64 i) G ?_)))))))
 obtain⟨a,d,h⟩:=Gd h
 refine JLh (I64 a) (Gi G (J0 k i a d) Y4 ⟨G,G,G,G,U⟩) G (JLh (.agg (Kg a)) (Jq (cs:=(Kg a)) [(0,1),(1,1),(2,1),(3,1),(4,1)] [I64 0,I64 0,I64 0,I64 0,I64 0] [E0,E0,E0,E0,E0] G56 QE (zzQ G) G G) G (J7 (u:=.junk) (Hv (u:=.agg (Kg a)) (ds:=(Kg a)) Gd1 G G G G G G G G) (G5 (c (Gs (⟨[.agg (Kg a)],[],U,G,⟨⟨_,⟨_,_,_,_,G,G,G,.inl ⟨lG,G⟩⟩,.conv (.same G)⟩,U⟩,G,congrArg (fun r:Row=>(.agg (Row.cs r):AV)) (Pc h)⟩))))))

def aC (l:List Row):Option (Ln Row):=
 chk ((l.length:Int)+12) fun g=>
 bnd (nI g) fun e=>
 need (decide (40*e≤281474976710656/\e≤maxLen)) <|
 need (decide ((([]:List Row).length+l.length)*40≤140737488355328/\([]:List Row).length+l.length≤maxLen)) <|
 need (decide (12≤9223372036854775807)) <|
 upto (fun f (a:(List Row)) d=>
  bnd (Y7 1 (f:Int)) fun b=>
  need (decide ((a.length+[b].length)*40≤140737488355328/\a.length+[b].length≤maxLen)) <|
  d (a++[b]))
 (fun(a:(List Row))=>
  bnd (cO (l.length:Int) a.length) fun c=>
  some (a.take c,a.drop c)) (12:Int).toNat 0 (([]:List Row)++l)
theorem qJ (l:List Row) (r:(Ln Row)) (h:aC l=some r):Pure Ek 37 [E8 l] (·=LT 5 Row.av r):=by
 unfold aC at h
 refine Gy [.tmp 2] Tryz.func37 G G (Jr fun w=>(JLh (E8 ([]:List Row)) (Qd 5 G G) G (G5 (w (Jr fun x=>(JLm (E8 l) G (JLl Qm G G G fun b0=>?_)))))))
 obtain⟨v3,y,h⟩:=R2 h
 refine JLh (I64 v3) (Hs y G G G) G ?_
 obtain⟨m4,z,h⟩:=Gd h
 obtain⟨a0,h⟩:=J5 h
 refine JLh (OW 1052 5 Row.av ([]:List Row)) (fD 1052 G G G G Qm vV G (gB z) a0) G (JLm (OW 1052 5 Row.av ([]:List Row)) G (G5 (x (Jr fun a1=>(JLm (OW 1052 5 Row.av ([]:List Row)) G (JLm (E8 l) G ?_))))))
 obtain⟨a2,h⟩:=J5 h
 refine JLh (OW 1052 5 Row.av (([]:List Row)++l)) (oO (f:=Row.av) (xs:=([]:List Row)) (ys:=l) G G G G Qm vV a2 (fun _=>G) (.inl G)) G (JLm (OW 1052 5 Row.av (([]:List Row)++l)) G (G5 (a1 (Js fun a3=>Jr fun a4=>(JLm (I64 0) G (G5 (a4 (Gf ?_))))))))
 obtain⟨j,h⟩:=J5 h
 obtain⟨a5,k,m,i,h⟩:=dW h
 refine H8 (fun b (a:(List Row))=>upto a5 k ((12:Int).toNat - b) b a=some r) (fun b a=>[(0,E8 l),(3,OW 1052 5 Row.av a),(4,Ej b)]) (fun b a=>[(1052,.spare 171 5 a.length a.length)]) (fun b=>(12:Int).toNat - b) 0 (([]:List Row)++l) h ⟨(.sm G G),⟨⟨_,G,.same⟩,U⟩,G⟩ ?_
 clear h
 intro b a e b1 a6
 refine Js fun n=>Jr fun o=>(JLm (Ej b) G (JLh (BL (decide ((b:Int) < 12))) (Hr G G G) G (G5 (o (Gg G (fun hb=>?_) (fun hb=>?_))))))
 ·
  have g:=cE hb
  obtain⟨a8,p,h⟩:=cA e g
  replace h:=vG m h
  refine Gn (n (Js fun q=>Gf (G1 (JLm (OW 1052 5 Row.av a) G (JLm (Ej b) G ?_)))))
  obtain⟨c,s,h⟩:=Gd h
  refine JLh (.agg (Row.cs c)) (Gi G (iV 1 (b:Int) c s) ZL ⟨G,G,G,G,U⟩) G (JLh (E8 [c]) (Hf (xs:=[.agg (Row.cs c)]) G ⟨G,G,U⟩ Qm G99 G G G G) G ?_)
  obtain⟨t,h⟩:=J5 h
  refine JLh (OW 1052 5 Row.av (a++[c])) (R8 (f:=Row.av) (xs:=a) (ys:=[c]) G G G G Qm vV t (fun _=>G) (.inl G) G) G (JLm (OW 1052 5 Row.av (a++[c])) G (G5 (q (G1 (JLm (Ej b) G (JLh (I64 ((b+1:Nat):Int)) (Hs (Hb g (Zr j)) G G G) G (JLm (I64 ((b+1:Nat):Int)) G (G5 (a6 _ _ (b+1) (a++[c]) (app1 p h) (by omega) ⟨(.sm G G),⟨⟨_,rfl,.same⟩,U⟩,rfl⟩)))))))))
 ·
  have h:=app1 i (cB e (R9 hb))
  refine H9 (a3 (Jr fun u=>(JLm (OW 1052 5 Row.av a) G (JLm (E8 l) G (JLl Qm G G G fun a9=>?_)))))
  obtain⟨d,v,h⟩:=Gd h
  refine JLh (LT 5 Row.av (a.take d,a.drop d)) (yK (f:=Row.av) (xs:=a) G G G Qm (Rq v)) G (JLm (LT 5 Row.av (a.take d,a.drop d)) G (G5 (u (Gs (fin1 (fun r:(Ln Row)=>(LT 5 Row.av r:AV)) h)))))

def Ri (k:Int) (i:Int):Option Frame:=
 bnd (Ho k i) fun a=>
 some (Frame.mk a 0 0 0 0)
abbrev Kh (a:Int):List AV:=[I64 a,I64 0,I64 0,I64 0,I64 0]
theorem gX (k:Int) (i:Int) (r:Frame) (h:Ri k i=some r):Pure Ek 92 [I64 k,I64 i] (·=.agg (Frame.cs r)):=by
 unfold Ri at h
 refine Gy [.cell 4 174] Tryz.func92 G G (Jr fun b=>(JLh (.ptr 1105 0) (Rn 1105 [I64 0,I64 0,I64 0,I64 0,I64 0] [E0,E0,E0,E0,E0] QD (zzQ G) G G) G (G5 (b (Jr fun c=>(JLm (I64 k) G (JLm (I64 i) G ?_)))))))
 obtain⟨a,d,h⟩:=Gd h
 refine JLh (I64 a) (Gi G (J0 k i a d) Y4 ⟨G,G,G,G,U⟩) G (JLh (.agg (Kh a)) (Jq (cs:=(Kh a)) [(0,1),(1,1),(2,1),(3,1),(4,1)] [I64 0,I64 0,I64 0,I64 0,I64 0] [E0,E0,E0,E0,E0] G55 QD (zzQ G) G G) G (J7 (u:=.junk) (Hv (u:=.agg (Kh a)) (ds:=(Kh a)) Gd0 G G G G G G G G) (G5 (c (Gs (⟨[.agg (Kh a)],[],U,G,⟨⟨_,⟨_,_,_,_,G,G,G,.inl ⟨lF,G⟩⟩,.conv (.same G)⟩,U⟩,G,congrArg (fun r:Frame=>(.agg (Frame.cs r):AV)) (Pc h)⟩))))))

def Z3 (l:List Frame):Option (Ln Frame):=
 chk ((l.length:Int)+12) fun g=>
 bnd (nI g) fun e=>
 need (decide (40*e≤281474976710656/\e≤maxLen)) <|
 need (decide ((([]:List Frame).length+l.length)*40≤140737488355328/\([]:List Frame).length+l.length≤maxLen)) <|
 need (decide (12≤9223372036854775807)) <|
 upto (fun f (a:(List Frame)) d=>
  bnd (Ri 1 (f:Int)) fun b=>
  need (decide ((a.length+[b].length)*40≤140737488355328/\a.length+[b].length≤maxLen)) <|
  d (a++[b]))
 (fun(a:(List Frame))=>
  bnd (cO (l.length:Int) a.length) fun c=>
  some (a.take c,a.drop c)) (12:Int).toNat 0 (([]:List Frame)++l)
theorem nY (l:List Frame) (r:(Ln Frame)) (h:Z3 l=some r):Pure Ek 38 [E7 l] (·=LT 5 Frame.av r):=by
 unfold Z3 at h
 refine Gy [.tmp 2] Tryz.func38 G G (Jr fun w=>(JLh (E7 ([]:List Frame)) (Qd 5 G G) G (G5 (w (Jr fun x=>(JLm (E7 l) G (JLl Qk G G G fun b0=>?_)))))))
 obtain⟨v3,y,h⟩:=R2 h
 refine JLh (I64 v3) (Hs y G G G) G ?_
 obtain⟨m4,z,h⟩:=Gd h
 obtain⟨a0,h⟩:=J5 h
 refine JLh (OW 1053 5 Frame.av ([]:List Frame)) (fD 1053 G G G G Qk vU G (gB z) a0) G (JLm (OW 1053 5 Frame.av ([]:List Frame)) G (G5 (x (Jr fun a1=>(JLm (OW 1053 5 Frame.av ([]:List Frame)) G (JLm (E7 l) G ?_))))))
 obtain⟨a2,h⟩:=J5 h
 refine JLh (OW 1053 5 Frame.av (([]:List Frame)++l)) (oO (f:=Frame.av) (xs:=([]:List Frame)) (ys:=l) G G G G Qk vU a2 (fun _=>G) (.inl G)) G (JLm (OW 1053 5 Frame.av (([]:List Frame)++l)) G (G5 (a1 (Js fun a3=>Jr fun a4=>(JLm (I64 0) G (G5 (a4 (Gf ?_))))))))
 obtain⟨j,h⟩:=J5 h
 obtain⟨a5,k,m,i,h⟩:=dW h
 refine H8 (fun b (a:(List Frame))=>upto a5 k ((12:Int).toNat - b) b a=some r) (fun b a=>[(0,E7 l),(3,OW 1053 5 Frame.av a),(4,Ej b)]) (fun b a=>[(1053,.spare 174 5 a.length a.length)]) (fun b=>(12:Int).toNat - b) 0 (([]:List Frame)++l) h ⟨(.sm G G),⟨⟨_,G,.same⟩,U⟩,G⟩ ?_
 clear h
 intro b a e b1 a6
 refine Js fun n=>Jr fun o=>(JLm (Ej b) G (JLh (BL (decide ((b:Int) < 12))) (Hr G G G) G (G5 (o (Gg G (fun hb=>?_) (fun hb=>?_))))))
 ·
  have g:=cE hb
  obtain⟨a8,p,h⟩:=cA e g
  replace h:=vG m h
  refine Gn (n (Js fun q=>Gf (G1 (JLm (OW 1053 5 Frame.av a) G (JLm (Ej b) G ?_)))))
  obtain⟨c,s,h⟩:=Gd h
  refine JLh (.agg (Frame.cs c)) (Gi G (gX 1 (b:Int) c s) ZK ⟨G,G,G,G,U⟩) G (JLh (E7 [c]) (Hf (xs:=[.agg (Frame.cs c)]) G ⟨G,G,U⟩ Qk G98 G G G G) G ?_)
  obtain⟨t,h⟩:=J5 h
  refine JLh (OW 1053 5 Frame.av (a++[c])) (R8 (f:=Frame.av) (xs:=a) (ys:=[c]) G G G G Qk vU t (fun _=>G) (.inl G) G) G (JLm (OW 1053 5 Frame.av (a++[c])) G (G5 (q (G1 (JLm (Ej b) G (JLh (I64 ((b+1:Nat):Int)) (Hs (Hb g (Zr j)) G G G) G (JLm (I64 ((b+1:Nat):Int)) G (G5 (a6 _ _ (b+1) (a++[c]) (app1 p h) (by omega) ⟨(.sm G G),⟨⟨_,rfl,.same⟩,U⟩,rfl⟩)))))))))
 ·
  have h:=app1 i (cB e (R9 hb))
  refine H9 (a3 (Jr fun u=>(JLm (OW 1053 5 Frame.av a) G (JLm (E7 l) G (JLl Qk G G G fun a9=>?_)))))
  obtain⟨d,v,h⟩:=Gd h
  refine JLh (LT 5 Frame.av (a.take d,a.drop d)) (yK (f:=Frame.av) (xs:=a) G G G Qk (Rq v)) G (JLm (LT 5 Frame.av (a.take d,a.drop d)) G (G5 (u (Gs (fin1 (fun r:(Ln Frame)=>(LT 5 Frame.av r:AV)) h)))))

def aA (x:Hg):Option Hj:=
 bnd (R6 x.Steps) fun a=>
 some (Hj.mk x.Kilos x.X x.Y x.Z x.Surface a)
abbrev Ki (x:Hg) (a:Ln Int):List AV:=[I64 x.Kilos,I64 x.X,I64 x.Y,I64 x.Z,I64 x.Surface,LT 1 I64 a]
abbrev Kj:List AV:=[I64 0,I64 0,I64 0,I64 0,I64 0,E2 ([]:List Int)]
theorem qI (x:Hg) (r:Hj) (h:aA x=some r):Pure Ek 93 [.agg (Hg.cs x)] (·=.agg (Hj.cs r)):=by
 unfold aA at h
 refine Gy [.cell 2 177] Tryz.func93 G G (Jr fun b=>(JLh (.ptr 1106 0) (Jy (cs:=[I64 x.Kilos,I64 x.X,I64 x.Y,I64 x.Z,I64 x.Surface,E2 x.Steps]) 1106 G G G G G) G (JLh (.ptr 1107 0) (Rn 1107 Kj [E0,E0,E0,E0,E0,.slice none 0 0] vL ⟨.inl G,.inl G,.inl G,.inl G,.inl G,.inr ⟨_,G,G⟩,U⟩ G G) G (G5 (b (Jr fun c=>(JLh (.ptr 1106 5) (Z9 eV G G) G (JLh (E2 x.Steps) (Zp He G G G G) G ?_))))))))
 obtain⟨a,d,h⟩:=Gd h
 refine JLh (LT 1 I64 a) (Gi G (bD x.Steps a d) tV ⟨G,G,U⟩) G (JLh (.ptr 1106 5) (Z9 eV G G) G (J7 (u:=.junk) (Hv (u:=LT 1 I64 a) (ds:=(Ki x a)) tT G G G G G G G G) (G5 (c (Gw [(1,.dptr (Ki x a)),(2,.ptr 1107 0)] [(1107,.box 177 Kj)] 1106 rfl rfl rfl ⟨⟨_,rfl,.boxEq rfl rfl⟩,U⟩ rfl (by exact⟨.ptr,.conv (.same rfl),U⟩) ?_)))))
 refine Jr fun e=>(JLh (.agg (Ki x a)) (Gj cK G G G) G (J7 (u:=.junk) (Hv (u:=.agg (Ki x a)) (ds:=(Ki x a)) vM G G G G G G G G) (G5 (e (Gs (⟨[.agg (Ki x a)],[],U,G,⟨⟨_,⟨_,_,_,_,G,G,G,.inl ⟨cK,G⟩⟩,.conv (.same G)⟩,U⟩,G,congrArg (fun r:Hj=>(.agg (Hj.cs r):AV)) (Pc h)⟩))))))

def Ru (k:Int) (i:Int):Option Hg:=
 bnd (Ho k i) fun a=>
 some (Hg.mk a 0 0 0 0 [])
abbrev Kk (a:Int):List AV:=[I64 a,I64 0,I64 0,I64 0,I64 0,E2 ([]:List Int)]
theorem iI (k:Int) (i:Int) (r:Hg) (h:Ru k i=some r):Pure Ek 94 [I64 k,I64 i] (·=.agg (Hg.cs r)):=by
 unfold Ru at h
 refine Gy [.cell 4 177] Tryz.func94 G G (Jr fun b=>(JLh (.ptr 1108 0) (Rn 1108 Kj [E0,E0,E0,E0,E0,.slice none 0 0] vL ⟨.inl G,.inl G,.inl G,.inl G,.inl G,.inr ⟨_,G,G⟩,U⟩ G G) G (G5 (b (Jr fun c=>(JLm (I64 k) G (JLm (I64 i) G ?_)))))))
 obtain⟨a,d,h⟩:=Gd h
 refine JLh (I64 a) (Gi G (J0 k i a d) Y4 ⟨G,G,G,G,U⟩) G (JLh (.agg (Kk a)) (Jq (cs:=(Kk a)) [(0,1),(1,1),(2,1),(3,1),(4,1),(5,1)] Kj [E0,E0,E0,E0,E0,.slice none 0 0] G54 vL ⟨.inl G,.inl G,.inl G,.inl G,.inl G,.inr ⟨_,G,G⟩,U⟩ G G) G (J7 (u:=.junk) (Hv (u:=.agg (Kk a)) (ds:=(Kk a)) vM G G G G G G G G) (G5 (c (Gs ?_)))))
 exact⟨[.agg (Kk a)],[],U,G,⟨⟨_,⟨_,_,_,_,G,G,G,.inl ⟨cK,G⟩⟩,.conv (.same G)⟩,U⟩,G,congrArg (fun r:Hg=>(.agg (Hg.cs r):AV)) (Pc h)⟩

def Zh (l:List Hg):Option (Ln Hj):=
 chk ((l.length:Int)+12) fun k=>
 bnd (nI k) fun h=>
 need (decide (64*h≤281474976710656/\h≤maxLen)) <|
 each (fun i m (c:(List Hj)) f=>
  bnd (aA i) fun d=>
  need (decide ((c.length+[d].length)*64≤140737488355328/\c.length+[d].length≤maxLen)) <|
  f (c++[d]))
 (fun(c:(List Hj))=>
  need (decide (12≤9223372036854775807)) <|
  upto (fun j (b:(List Hj)) g=>
   bnd (Ru 1 (j:Int)) fun a=>
   need (decide ((b.length+[(Hj.mk a.Kilos a.X a.Y a.Z a.Surface (a.Steps,([]:List Int)))].length)*64≤140737488355328/\b.length+[(Hj.mk a.Kilos a.X a.Y a.Z a.Surface (a.Steps,([]:List Int)))].length≤maxLen)) <|
   g (b++[(Hj.mk a.Kilos a.X a.Y a.Z a.Surface (a.Steps,([]:List Int)))]))
  (fun(b:(List Hj))=>
   bnd (cO (l.length:Int) b.length) fun e=>
   some (b.take e,b.drop e)) (12:Int).toNat 0 c) l 0 []
abbrev Km (a:Hg):List Hj:=[(Hj.mk a.Kilos a.X a.Y a.Z a.Surface (a.Steps,([]:List Int)))]
abbrev Kn (a:Hg):List AV:=[I64 a.Kilos,I64 a.X,I64 a.Y,I64 a.Z,I64 a.Surface,LT 1 I64 (a.Steps,([]:List Int))]
theorem pR (l:List Hg) (r:(Ln Hj)) (h:Zh l=some r):Pure Ek 39 [E9 l] (·=LT 6 Hj.av r):=by
 unfold Zh at h
 refine Gy [.tmp 2] Tryz.func39 G G (Jr fun b8=>(JLh (E9 ([]:List Hg)) (Qd 6 G G) G (G5 (b8 (Jr fun b9=>(JLm (E9 l) G (JLl Q3 G G G fun d3=>?_)))))))
 obtain⟨v3,c0,h⟩:=R2 h
 refine JLh (I64 v3) (Hs c0 G G G) G ?_
 obtain⟨m4,c1,h⟩:=Gd h
 obtain⟨c2,h⟩:=J5 h
 refine JLh (OW 1055 6 Hj.av ([]:List Hj)) (fD 1055 G G G G Q3 vT G (gB c1) c2) G (JLm (OW 1055 6 Hj.av ([]:List Hj)) G (G5 (b9 (Js fun c3=>Jr fun c4=>(JLm (I64 0) G (G5 (c4 (Gf ?_))))))))
 obtain⟨c5,s,t,p,h⟩:=Hy h
 refine H8 (fun c (d:(List Hj))=>each c5 s (List.drop c l) c d=some r) (fun c d=>[(0,E9 l),(3,OW 1055 6 Hj.av d),(4,Ej c)]) (fun c d=>[(1055,.spare 177 6 d.length d.length)]) (fun c=>l.length - c) 0 [] h ⟨(.sm G G),⟨⟨_,G,.same⟩,U⟩,G⟩ ?_
 clear h
 intro c d k d4 c6
 refine Js fun v=>Jr fun w=>(JLm (Ej c) G (JLm (E9 l) G (JLl Q3 G G G fun x=>(JLh (BL (decide ((c:Int) < (l.length:Int)))) (Hr G G G) G (G5 (w (Gg G (fun hb=>?_) (fun hb=>?_))))))))
 ·
  have m:=Je hb
  obtain⟨i,d0,z,a0,h⟩:=Hh k m
  replace h:=Rx t h
  refine Gn (v (Js fun a1=>Gf (Jr fun a2=>(JLm (E9 l) G (JLm (Ej c) G (JLh (Ei i) (Gr (f:=Hg.av) (xs:=l) (y:=i) G G G Q3 z G) G (JLh (.agg (Hg.cs i)) (Gj cK G G G) G ?_)))))))
  obtain⟨b,a3,h⟩:=Gd h
  refine JLh (.agg (Hj.cs b)) (Gi G (qI i b a3) H55 ⟨G,G,U⟩) G (JLh (.ptr 1054 0) (Jp 1054 6 tN G G) G (J7 (u:=.junk) (Hv (u:=.agg (Hj.cs b)) (ds:=[I64 b.Kilos,I64 b.X,I64 b.Y,I64 b.Z,I64 b.Surface,LT 1 I64 b.Steps]) vM G G G G G G G G) (G5 (a2 (fzQ [(0,E9 l),(3,OW 1055 6 Hj.av d),(4,Ej c),(5,.dptr (Hj.cs b))] [(1055,.spare 177 6 d.length d.length)] 1054 rfl rfl rfl ⟨⟨_,rfl,.same⟩,U⟩ rfl (G1 (JLm (OW 1055 6 Hj.av d) G (JLh (.agg (Hj.cs b)) (Gj cK G G G) G (JLh (LS 6 Hj.av [b]) (Hf (xs:=[.agg (Hj.cs b)]) G ⟨G,G,U⟩ Q3 tN G G G G) G ?_)))))))))
  obtain⟨a4,h⟩:=J5 h
  refine JLh (OW 1055 6 Hj.av (d++[b])) (R8 (f:=Hj.av) (xs:=d) (ys:=[b]) G G G G Q3 vT a4 (fun _=>G) (.inl G) G) G (JLm (OW 1055 6 Hj.av (d++[b])) G (G5 (a1 (G1 (JLm (Ej c) G (JLh (I64 ((c+1:Nat):Int)) (Hs (Hb m x) G G G) G (JLm (I64 ((c+1:Nat):Int)) G (G5 (c6 _ _ (c+1) (d++[b]) (app1 a0 h) (by omega) ⟨(.sm G G),⟨⟨_,rfl,.same⟩,U⟩,rfl⟩)))))))))
 ·
  have h:=app1 p (Hi k (H6 hb))
  refine H9 (c3 (Js fun a5=>Jr fun a6=>(JLm (I64 0) G (G5 (a6 (Gf ?_))))))
  obtain⟨a7,h⟩:=J5 h
  obtain⟨c7,a8,a9,q,h⟩:=dW h
  refine H8 (fun e (a:(List Hj))=>upto c7 a8 ((12:Int).toNat - e) e a=some r) (fun e a=>[(0,E9 l),(3,OW 1055 6 Hj.av a),(6,Ej e)]) (fun e a=>[(1055,.spare 177 6 a.length a.length)]) (fun e=>(12:Int).toNat - e) 0 d h ⟨(.sm G G),⟨⟨_,G,.same⟩,U⟩,G⟩ ?_
  clear h
  intro e a n d5 c8
  refine Js fun b0=>Jr fun b1=>(JLm (Ej e) G (JLh (BL (decide ((e:Int) < 12))) (Hr G G G) G (G5 (b1 (Gg G (fun hb=>?_) (fun hb=>?_))))))
  ·
   have o:=cE hb
   obtain⟨d1,b2,h⟩:=cA n o
   replace h:=vG a9 h
   refine Gn (b0 (Js fun b3=>Gf (G1 (JLm (OW 1055 6 Hj.av a) G (JLm (Ej e) G ?_)))))
   obtain⟨g,b4,h⟩:=Gd h
   refine JLh (.agg (Kn g)) (H2.cv (Cv.aggL (cs:=(Hg.cs g)) ⟨.same,.same,.same,.same,.same,Cv.of0 g.Steps,U⟩) (Gi G (iI 1 (e:Int) g b4) ZJ ⟨G,G,G,G,U⟩)) G (JLh (LS 6 Hj.av ((Km g))) (Hf (xs:=[.agg (Kn g)]) G ⟨G,G,U⟩ Q3 tN G G G G) G ?_)
   obtain⟨b5,h⟩:=J5 h
   refine JLh (OW 1055 6 Hj.av (a++(Km g))) (R8 (f:=Hj.av) (xs:=a) (ys:=(Km g)) G G G G Q3 vT b5 (fun _=>G) (.inl G) G) G (JLm (OW 1055 6 Hj.av (a++(Km g))) G (G5 (b3 (G1 (JLm (Ej e) G (JLh (I64 ((e+1:Nat):Int)) (Hs (Hb o (Zr a7)) G G G) G (JLm (I64 ((e+1:Nat):Int)) G (G5 (c8 _ _ (e+1) (a++(Km g)) (app1 b2 h) (by omega) ⟨(.sm G G),⟨⟨_,rfl,.same⟩,U⟩,rfl⟩)))))))))
  ·
   have h:=app1 q (cB n (R9 hb))
   refine H9 (a5 (Jr fun b6=>(JLm (OW 1055 6 Hj.av a) G (JLm (E9 l) G (JLl Q3 G G G fun d2=>?_)))))
   obtain⟨j,b7,h⟩:=Gd h
   refine JLh (LT 6 Hj.av (a.take j,a.drop j)) (yK (f:=Hj.av) (xs:=a) G G G Q3 (Rq b7)) G (JLm (LT 6 Hj.av (a.take j,a.drop j)) G (G5 (b6 (Gs (fin1 (fun r:(Ln Hj)=>(LT 6 Hj.av r:AV)) h)))))

def aB (x:Gq):Option Yh:=
 bnd (Yp x.Columns) fun b=>
 bnd (Z4 x.Covers) fun c=>
 bnd (aC x.Rows) fun d=>
 bnd (Z3 x.Frames) fun e=>
 bnd (Zh x.Tanks) fun a=>
 some (Yh.mk b c x.Light d e a x.Gk)
abbrev Ko:List AV:=[E4 ([]:List G6),E5 ([]:List H3),I64 0,I64 0,I64 0,I64 0,E8 ([]:List Row),E7 ([]:List Frame),E9 ([]:List Hg),I64 0,I64 0,I64 0,I64 0]
theorem bB (x:Gq) (r:Yh) (h:aB x=some r):Pure Ek 8 [.agg (Gq.cs x)] (·=.agg (Yh.cs r)):=by
 unfold aB at h
 refine Gy [.cell 2 32] Tryz.func8 G G ?_
 refine Jr fun j=>(JLh (.ptr 1011 0) (Jy (cs:=(Gq.cs x)) 1011 G G G G G) G (JLh (.ptr 1012 0) (Rn 1012 Ko [.slice none 0 0,.slice none 0 0,E0,E0,E0,E0,.slice none 0 0,.slice none 0 0,.slice none 0 0,E0,E0,E0,E0] oQ ⟨.inr ⟨_,G,G⟩,.inr ⟨_,G,G⟩,.inl G,.inl G,.inl G,.inl G,.inr ⟨_,G,G⟩,.inr ⟨_,G,G⟩,.inr ⟨_,G,G⟩,.inl G,.inl G,.inl G,.inl G,U⟩ G G) G (G5 (j ?_))))
 refine Jr fun k=>(JLh (.ptr 1011 0) (Z9 Hu G G) G (JLh (E4 x.Columns) (Zp J2 G G G G) G ?_))
 obtain⟨b,l,h⟩:=Gd h
 refine JLh (LT 12 Gx.av b) (Gi G (mY x.Columns b l) H6d ⟨G,G,U⟩) G (JLh (.ptr 1011 0) (Z9 Hu G G) G (J7 (u:=.junk) (Hv (u:=LT 12 Gx.av b) (ds:=[LT 12 Gx.av b,E5 x.Covers,I64 x.Light.Kilos,I64 x.Light.X,I64 x.Light.Y,I64 x.Light.Z,E8 x.Rows,E7 x.Frames,E9 x.Tanks,I64 x.Gk.Tolerance,I64 x.Gk.Trim,I64 x.Gk.List_,I64 x.Gk.Stability]) H52 G G G G G G G G) (G5 (k (Jr fun m=>(JLh (.ptr 1011 1) (Z9 Qh G G) G (JLh (E5 x.Covers) (Zp R4 G G G G) G ?_)))))))
 obtain⟨c,n,h⟩:=Gd h
 refine JLh (LT 2 Ha.av c) (Gi G (oA x.Covers c n) H6c ⟨G,G,U⟩) G (JLh (.ptr 1011 1) (Z9 Qh G G) G (J7 (u:=.junk) (Hv (u:=LT 2 Ha.av c) (ds:=[LT 12 Gx.av b,LT 2 Ha.av c,I64 x.Light.Kilos,I64 x.Light.X,I64 x.Light.Y,I64 x.Light.Z,E8 x.Rows,E7 x.Frames,E9 x.Tanks,I64 x.Gk.Tolerance,I64 x.Gk.Trim,I64 x.Gk.List_,I64 x.Gk.Stability]) H51 G G G G G G G G) (G5 (m (Jr fun o=>(JLh (.ptr 1011 6) (Z9 fX G G) G (JLh (E8 x.Rows) (Zp kL G G G G) G ?_)))))))
 obtain⟨d,p,h⟩:=Gd h
 refine JLh (LT 5 Row.av d) (Gi G (qJ x.Rows d p) H6b ⟨G,G,U⟩) G (JLh (.ptr 1011 6) (Z9 fX G G) G (J7 (u:=.junk) (Hv (u:=LT 5 Row.av d) (ds:=[LT 12 Gx.av b,LT 2 Ha.av c,I64 x.Light.Kilos,I64 x.Light.X,I64 x.Light.Y,I64 x.Light.Z,LT 5 Row.av d,E7 x.Frames,E9 x.Tanks,I64 x.Gk.Tolerance,I64 x.Gk.Trim,I64 x.Gk.List_,I64 x.Gk.Stability]) H50 G G G G G G G G) (G5 (o (Jr fun q=>(JLh (.ptr 1011 7) (Z9 fW G G) G (JLh (E7 x.Frames) (Zp kK G G G G) G ?_)))))))
 obtain⟨e,s,h⟩:=Gd h
 refine JLh (LT 5 Frame.av e) (Gi G (nY x.Frames e s) H6a ⟨G,G,U⟩) G (JLh (.ptr 1011 7) (Z9 fW G G) G (J7 (u:=.junk) (Hv (u:=LT 5 Frame.av e) (ds:=[LT 12 Gx.av b,LT 2 Ha.av c,I64 x.Light.Kilos,I64 x.Light.X,I64 x.Light.Y,I64 x.Light.Z,LT 5 Row.av d,LT 5 Frame.av e,E9 x.Tanks,I64 x.Gk.Tolerance,I64 x.Gk.Trim,I64 x.Gk.List_,I64 x.Gk.Stability]) H4f G G G G G G G G) (G5 (q (Jr fun f=>(JLh (.ptr 1011 8) (Z9 fV G G) G (JLh (E9 x.Tanks) (Zp kJ G G G G) G ?_)))))))
 obtain⟨a,g,h⟩:=Gd h
 refine JLh (LT 6 Hj.av a) (Gi G (pR x.Tanks a g) H69 ⟨G,G,U⟩) G (JLh (.ptr 1011 8) (Z9 fV G G) G (J7 (u:=.junk) (Hv (u:=LT 6 Hj.av a) (ds:=[LT 12 Gx.av b,LT 2 Ha.av c,I64 x.Light.Kilos,I64 x.Light.X,I64 x.Light.Y,I64 x.Light.Z,LT 5 Row.av d,LT 5 Frame.av e,LT 6 Hj.av a,I64 x.Gk.Tolerance,I64 x.Gk.Trim,I64 x.Gk.List_,I64 x.Gk.Stability]) H4e G G G G G G G G) (G5 (f ?_))))
 refine Gw [(1,.dptr [LT 12 Gx.av b,LT 2 Ha.av c,I64 x.Light.Kilos,I64 x.Light.X,I64 x.Light.Y,I64 x.Light.Z,LT 5 Row.av d,LT 5 Frame.av e,LT 6 Hj.av a,I64 x.Gk.Tolerance,I64 x.Gk.Trim,I64 x.Gk.List_,I64 x.Gk.Stability]),(2,.ptr 1012 0)] [(1012,.box 32 Ko)] 1011 rfl rfl rfl ⟨⟨_,rfl,.boxEq rfl rfl⟩,U⟩ rfl (by exact⟨.ptr,.conv (.same rfl),U⟩) ?_
 refine Jr fun i=>(JLh (.agg [LT 12 Gx.av b,LT 2 Ha.av c,I64 x.Light.Kilos,I64 x.Light.X,I64 x.Light.Y,I64 x.Light.Z,LT 5 Row.av d,LT 5 Frame.av e,LT 6 Hj.av a,I64 x.Gk.Tolerance,I64 x.Gk.Trim,I64 x.Gk.List_,I64 x.Gk.Stability]) (Gj J4 G G G) G (J7 (u:=.junk) (Hv (u:=.agg [LT 12 Gx.av b,LT 2 Ha.av c,I64 x.Light.Kilos,I64 x.Light.X,I64 x.Light.Y,I64 x.Light.Z,LT 5 Row.av d,LT 5 Frame.av e,LT 6 Hj.av a,I64 x.Gk.Tolerance,I64 x.Gk.Trim,I64 x.Gk.List_,I64 x.Gk.Stability]) (ds:=[LT 12 Gx.av b,LT 2 Ha.av c,I64 x.Light.Kilos,I64 x.Light.X,I64 x.Light.Y,I64 x.Light.Z,LT 5 Row.av d,LT 5 Frame.av e,LT 6 Hj.av a,I64 x.Gk.Tolerance,I64 x.Gk.Trim,I64 x.Gk.List_,I64 x.Gk.Stability]) oS G G G G G G G G) (G5 (i ?_))))
 refine Gs (⟨[.agg [LT 12 Gx.av b,LT 2 Ha.av c,I64 x.Light.Kilos,I64 x.Light.X,I64 x.Light.Y,I64 x.Light.Z,LT 5 Row.av d,LT 5 Frame.av e,LT 6 Hj.av a,I64 x.Gk.Tolerance,I64 x.Gk.Trim,I64 x.Gk.List_,I64 x.Gk.Stability]],[],U,G,⟨⟨_,⟨_,_,_,_,G,G,G,.inl ⟨J4,G⟩⟩,.conv (.same G)⟩,U⟩,G,congrArg (fun r:Yh=>(.agg (Yh.cs r):AV)) (Pc h)⟩)

def Ja (a:List Int) (b:List Int):Option Bool:=
 bif decide ((a.length:Int)≠(b.length:Int)) then
 (some false)
 else
 (each (fun d e (f:Unit) c=>
   Jo b (e:Int) fun g=>
   bif decide (d≠g) then
   (some false)
   else
   (c ()))
  (fun(f:Unit)=>
   some true) a 0 ())
theorem Jv (a:List Int) (b:List Int) (r:Bool) (h:Ja a b=some r):Pure Ek 15 [E2 a,E2 b] (·=BL r):=by
 unfold Ja at h
 refine Gy [.tmp 4] Tryz.func15 G G (Jr fun a0=>(JLm (BL false) G (G5 (a0 (Js fun a1=>Jr fun a2=>(JLm (E2 a) G (JLl Gz G G G fun a9=>(JLm (E2 b) G (JLl Gz G G G fun b0=>(JLh (BL (decide ((a.length:Int)≠(b.length:Int)))) (aH G G G) G (G5 (a2 (JCc G h (fun h hb=>?_) (fun h hb=>?_))))))))))))))
 ·
  refine Jr fun a3=>(JLm (BL false) G (G5 (a3 (Gs (fin1 BL h)))))
 ·
  refine Gn (a1 (Js fun a4=>Jr fun a5=>(JLm (I64 0) G (G5 (a5 (Gf ?_))))))
  obtain⟨a6,l,m,k,h⟩:=Hy h
  refine H8 (fun c (d:Unit)=>each a6 l (List.drop c a) c d=some r) (fun c d=>[(0,E2 a),(1,E2 b),(5,Ej c)]) (fun c d=>[]) (fun c=>a.length - c) 0 () h ⟨(.sm G G),U,G⟩ ?_
  clear h
  intro c d i b1 a7
  refine Js fun n=>Jr fun o=>(JLm (Ej c) G (JLm (E2 a) G (JLl Gz G G G fun p=>(JLh (BL (decide ((c:Int) < (a.length:Int)))) (Hr G G G) G (G5 (o (Gg G (fun hb=>?_) (fun hb=>?_))))))))
  ·
   have j:=Je hb
   obtain⟨e,a8,q,s,h⟩:=Hh i j
   replace h:=Rx m h
   refine Gn (n (Js fun t=>Gf (Js fun u=>?_)))
   obtain⟨b2,g,v,w,h⟩:=R0 h
   refine JC_d0 Jd (by kernel_rfl) (Dq (E2 a) (G3 G G) G (Dq (Ej c) (G3 G G) G (Dq (.dptr [I64 e]) (Gr (f:=I64) (xs:=a) (y:=e) G G G Gz q G) G (Dq (I64 e) (Ge Gb G G G) G (Dq (E2 b) (G3 G G) G (Dq (Ej c) (G3 G G) G (Dq (.dptr [I64 g]) (Gr (f:=I64) (xs:=b) (y:=g) G G G Gz w v) G (Dq (I64 g) (Ge Gb G G G) G (Dq (BL (decide (e≠g))) (aH G G G) G (Dnil (u (JCc G h (fun h hb=>?_) (fun h hb=>?_)))))))))))))
   ·
    refine Jr fun x=>(JLm (BL false) G (G5 (x (Gs (fin1 BL h)))))
   ·
    refine Gn (t (G1 (JLm (Ej c) G (JLh (I64 ((c+1:Nat):Int)) (Hs (Hb j p) G G G) G (JLm (I64 ((c+1:Nat):Int)) G (G5 (a7 _ _ (c+1) () (app1 s h) (by omega) ⟨(.sm G G),U,rfl⟩)))))))
  ·
   have h:=app1 k (Hi i (H6 hb))
   refine H9 (a4 (Jr fun z=>(JLm (BL true) G (G5 (z (Gs (fin1 BL h)))))))

def Q0 (a:G6) (b:G6):Option Bool:=
 bnd (bif ((((((((decide (a.Bay=b.Bay))&&(decide (a.Row=b.Row)))&&(a.Deck==b.Deck))&&(decide (a.Tiers=b.Tiers)))&&(decide (a.Height=b.Height)))&&(decide (a.Kilos20=b.Kilos20)))&&(decide (a.Kilos40=b.Kilos40)))&&(decide (a.Lash=b.Lash))) then Ja a.Plugs b.Plugs else some default) fun c=>
 some ((((((((((((decide (a.Bay=b.Bay))&&(decide (a.Row=b.Row)))&&(a.Deck==b.Deck))&&(decide (a.Tiers=b.Tiers)))&&(decide (a.Height=b.Height)))&&(decide (a.Kilos20=b.Kilos20)))&&(decide (a.Kilos40=b.Kilos40)))&&(decide (a.Lash=b.Lash)))&&c)&&(decide (a.X=b.X)))&&(decide (a.Y=b.Y)))&&(decide (a.Z=b.Z)))
abbrev Kp (a:G6) (b:G6):Bool:=(((((((decide (a.Bay=b.Bay))&&(decide (a.Row=b.Row)))&&(a.Deck==b.Deck))&&(decide (a.Tiers=b.Tiers)))&&(decide (a.Height=b.Height)))&&(decide (a.Kilos20=b.Kilos20)))&&(decide (a.Kilos40=b.Kilos40)))
abbrev Kq (a:G6) (b:G6):Bool:=((((decide (a.Bay=b.Bay))&&(decide (a.Row=b.Row)))&&(a.Deck==b.Deck))&&(decide (a.Tiers=b.Tiers)))
abbrev Kr (a:G6) (b:G6):Bool:=((decide (a.Bay=b.Bay))&&(decide (a.Row=b.Row)))
theorem cV (a:G6) (b:G6) (r:Bool) (h:Q0 a b=some r):Pure Ek 134 [.agg (G6.cs a),.agg (G6.cs b)] (·=BL r):=by
 unfold Q0 at h
 refine Gy [.tmp 4] Tryz.func134 G G (Jr fun d=>(JLh (.ptr 1144 0) (Jy (cs:=(G6.cs a)) 1144 G G G G G) G (JLh (.ptr 1145 0) (Jy (cs:=(G6.cs b)) 1145 G G G G G) G (JLm (BL false) G (G5 (d (Gw [(2,Ef a),(3,.ptr 1145 0)] [(1145,.box 71 (G6.cs b))] 1144 rfl rfl rfl ⟨⟨_,rfl,.boxEq rfl rfl⟩,U⟩ rfl (by exact⟨.ptr,.conv (.same rfl),U⟩) ?_)))))))
 refine Gw [(2,Ef a),(3,Ef b)] [] 1145 rfl rfl rfl U rfl (by exact⟨.conv (.same rfl),.ptr,U⟩) ?_
 refine Jr fun e=>(JLh (Ef a) (Ga bU G G G) G (JLh (I64 a.Bay) (Ge Gb G G G) G (JLh (Ef b) (Ga bU G G G) G (JLh (I64 b.Bay) (Ge Gb G G G) G (JLh (BL (decide (a.Bay=b.Bay))) (Qc G G G) G (JLm (BL (decide (a.Bay=b.Bay))) G (JLo (.dptr ((G6.cs a).drop 1)) [] G .sct U (fun hc=>Ga bT G G G) G (JLo (I64 a.Row) [11] G .sct ⟨Ua,U⟩ (fun hc=>Ge Gb G G G) G (JLo (.dptr ((G6.cs b).drop 1)) [] G .sct U (fun hc=>Ga bT G G G) G (JLo (I64 b.Row) [13] G .sct ⟨Ua,U⟩ (fun hc=>Ge Gb G G G) G (JLo (BL (decide (a.Row=b.Row))) [12,14] G .sct ⟨Ua,Ua,U⟩ (fun hc=>Qc G G G) G (JLh (BL (Kr a b)) (J9 G G G G) G (JLm (BL (Kr a b)) G ?_)))))))))))))
 refine JLo (.dptr ((G6.cs a).drop 2)) [] G .sct U (fun hc=>Ga bS G G G) G (JLo (BL a.Deck) [18] G .sct ⟨Ua,U⟩ (fun hc=>Ge Ye G G G) G (JLo (.dptr ((G6.cs b).drop 2)) [] G .sct U (fun hc=>Ga bS G G G) G (JLo (BL b.Deck) [20] G .sct ⟨Ua,U⟩ (fun hc=>Ge Ye G G G) G (JLo (BL (a.Deck==b.Deck)) [19,21] G .sct ⟨Ua,Ua,U⟩ (fun hc=>H46 sI G G G) G (JLh (BL ((Kr a b)&&(a.Deck==b.Deck))) (J9 G G G G) G (JLm (BL ((Kr a b)&&(a.Deck==b.Deck))) G (JLo (.dptr ((G6.cs a).drop 3)) [] G .sct U (fun hc=>Ga bR G G G) G (JLo (I64 a.Tiers) [25] G .sct ⟨Ua,U⟩ (fun hc=>Ge Gb G G G) G (JLo (.dptr ((G6.cs b).drop 3)) [] G .sct U (fun hc=>Ga bR G G G) G (JLo (I64 b.Tiers) [27] G .sct ⟨Ua,U⟩ (fun hc=>Ge Gb G G G) G (JLo (BL (decide (a.Tiers=b.Tiers))) [26,28] G .sct ⟨Ua,Ua,U⟩ (fun hc=>Qc G G G) G (JLh (BL (Kq a b)) (J9 G G G G) G (JLm (BL (Kq a b)) G ?_)))))))))))))
 refine JLo (.dptr ((G6.cs a).drop 4)) [] G .sct U (fun hc=>Ga dA G G G) G (JLo (I64 a.Height) [32] G .sct ⟨Ua,U⟩ (fun hc=>Ge Gb G G G) G (JLo (.dptr ((G6.cs b).drop 4)) [] G .sct U (fun hc=>Ga dA G G G) G (JLo (I64 b.Height) [34] G .sct ⟨Ua,U⟩ (fun hc=>Ge Gb G G G) G (JLo (BL (decide (a.Height=b.Height))) [33,35] G .sct ⟨Ua,Ua,U⟩ (fun hc=>Qc G G G) G (JLh (BL ((Kq a b)&&(decide (a.Height=b.Height)))) (J9 G G G G) G (JLm (BL ((Kq a b)&&(decide (a.Height=b.Height)))) G (JLo (.dptr ((G6.cs a).drop 5)) [] G .sct U (fun hc=>Ga lY G G G) G (JLo (I64 a.Kilos20) [39] G .sct ⟨Ua,U⟩ (fun hc=>Ge Gb G G G) G (JLo (.dptr ((G6.cs b).drop 5)) [] G .sct U (fun hc=>Ga lY G G G) G (JLo (I64 b.Kilos20) [41] G .sct ⟨Ua,U⟩ (fun hc=>Ge Gb G G G) G (JLo (BL (decide (a.Kilos20=b.Kilos20))) [40,42] G .sct ⟨Ua,Ua,U⟩ (fun hc=>Qc G G G) G (JLh (BL (((Kq a b)&&(decide (a.Height=b.Height)))&&(decide (a.Kilos20=b.Kilos20)))) (J9 G G G G) G (JLm (BL (((Kq a b)&&(decide (a.Height=b.Height)))&&(decide (a.Kilos20=b.Kilos20)))) G ?_)))))))))))))
 refine JLo (.dptr ((G6.cs a).drop 6)) [] G .sct U (fun hc=>Ga lX G G G) G (JLo (I64 a.Kilos40) [46] G .sct ⟨Ua,U⟩ (fun hc=>Ge Gb G G G) G (JLo (.dptr ((G6.cs b).drop 6)) [] G .sct U (fun hc=>Ga lX G G G) G (JLo (I64 b.Kilos40) [48] G .sct ⟨Ua,U⟩ (fun hc=>Ge Gb G G G) G (JLo (BL (decide (a.Kilos40=b.Kilos40))) [47,49] G .sct ⟨Ua,Ua,U⟩ (fun hc=>Qc G G G) G (JLh (BL (Kp a b)) (J9 G G G G) G (JLm (BL (Kp a b)) G (JLo (.dptr ((G6.cs a).drop 7)) [] G .sct U (fun hc=>Ga lW G G G) G (JLo (I64 a.Lash) [53] G .sct ⟨Ua,U⟩ (fun hc=>Ge Gb G G G) G (JLo (.dptr ((G6.cs b).drop 7)) [] G .sct U (fun hc=>Ga lW G G G) G (JLo (I64 b.Lash) [55] G .sct ⟨Ua,U⟩ (fun hc=>Ge Gb G G G) G (JLo (BL (decide (a.Lash=b.Lash))) [54,56] G .sct ⟨Ua,Ua,U⟩ (fun hc=>Qc G G G) G (JLh (BL ((Kp a b)&&(decide (a.Lash=b.Lash)))) (J9 G G G G) G (JLm (BL ((Kp a b)&&(decide (a.Lash=b.Lash)))) G ?_)))))))))))))
 refine JLo (.dptr ((G6.cs a).drop 8)) [] G .sct U (fun hc=>Ga Rz G G G) G (JLo (E2 a.Plugs) [60] G .sct ⟨Ua,U⟩ (fun hc=>Ge He G G G) G (JLo (.dptr ((G6.cs b).drop 8)) [] G .sct U (fun hc=>Ga Rz G G G) G (JLo (E2 b.Plugs) [62] G .sct ⟨Ua,U⟩ (fun hc=>Ge He G G G) G ?_)))
 obtain⟨c,f,h⟩:=Gd h
 refine JLo (BL c) [61,63] G .sct ⟨Ua,Ua,U⟩ (fun hc=>Gi (args:=[E2 a.Plugs,E2 b.Plugs]) G (Jv a.Plugs b.Plugs c (Gv hc f)) dI ⟨G,G,G,G,U⟩) G (JLh (BL (((Kp a b)&&(decide (a.Lash=b.Lash)))&&c)) (J9 G G G G) G (JLm (BL (((Kp a b)&&(decide (a.Lash=b.Lash)))&&c)) G (JLo (.dptr [I64 a.X,I64 a.Y,I64 a.Z]) [] G .sct U (fun hc=>Ga lV G G G) G (JLo (I64 a.X) [67] G .sct ⟨Ua,U⟩ (fun hc=>Ge Gb G G G) G (JLo (.dptr [I64 b.X,I64 b.Y,I64 b.Z]) [] G .sct U (fun hc=>Ga lV G G G) G (JLo (I64 b.X) [69] G .sct ⟨Ua,U⟩ (fun hc=>Ge Gb G G G) G (JLo (BL (decide (a.X=b.X))) [68,70] G .sct ⟨Ua,Ua,U⟩ (fun hc=>Qc G G G) G (JLh (BL ((((Kp a b)&&(decide (a.Lash=b.Lash)))&&c)&&(decide (a.X=b.X)))) (J9 G G G G) G (JLm (BL ((((Kp a b)&&(decide (a.Lash=b.Lash)))&&c)&&(decide (a.X=b.X)))) G (JLo (.dptr [I64 a.Y,I64 a.Z]) [] G .sct U (fun hc=>Ga kN G G G) G (JLo (I64 a.Y) [74] G .sct ⟨Ua,U⟩ (fun hc=>Ge Gb G G G) G (JLo (.dptr [I64 b.Y,I64 b.Z]) [] G .sct U (fun hc=>Ga kN G G G) G (JLo (I64 b.Y) [76] G .sct ⟨Ua,U⟩ (fun hc=>Ge Gb G G G) G ?_)))))))))))))
 refine JLo (BL (decide (a.Y=b.Y))) [75,77] G .sct ⟨Ua,Ua,U⟩ (fun hc=>Qc G G G) G (JLh (BL (((((Kp a b)&&(decide (a.Lash=b.Lash)))&&c)&&(decide (a.X=b.X)))&&(decide (a.Y=b.Y)))) (J9 G G G G) G (JLm (BL (((((Kp a b)&&(decide (a.Lash=b.Lash)))&&c)&&(decide (a.X=b.X)))&&(decide (a.Y=b.Y)))) G (JLo (.dptr [I64 a.Z]) [] G .sct U (fun hc=>Ga kM G G G) G (JLo (I64 a.Z) [81] G .sct ⟨Ua,U⟩ (fun hc=>Ge Gb G G G) G (JLo (.dptr [I64 b.Z]) [] G .sct U (fun hc=>Ga kM G G G) G (JLo (I64 b.Z) [83] G .sct ⟨Ua,U⟩ (fun hc=>Ge Gb G G G) G (JLo (BL (decide (a.Z=b.Z))) [82,84] G .sct ⟨Ua,Ua,U⟩ (fun hc=>Qc G G G) G (JLh (BL ((((((Kp a b)&&(decide (a.Lash=b.Lash)))&&c)&&(decide (a.X=b.X)))&&(decide (a.Y=b.Y)))&&(decide (a.Z=b.Z)))) (J9 G G G G) G (JLm (BL ((((((Kp a b)&&(decide (a.Lash=b.Lash)))&&c)&&(decide (a.X=b.X)))&&(decide (a.Y=b.Y)))&&(decide (a.Z=b.Z)))) G (G5 (e ?_)))))))))))
 refine Gs (fin1 BL h)

def Yn (a:List G6) (b:List G6):Option Bool:=
 bif decide ((a.length:Int)≠(b.length:Int)) then
 (some false)
 else
 (each (fun d e (f:Unit) c=>
   Jo b (e:Int) fun g=>
   bnd (Q0 d g) fun h=>
   bif (!h) then
   (some false)
   else
   (c ()))
  (fun(f:Unit)=>
   some true) a 0 ())
theorem mW (a:List G6) (b:List G6) (r:Bool) (h:Yn a b=some r):Pure Ek 128 [E4 a,E4 b] (·=BL r):=by
 unfold Yn at h
 refine Gy [.tmp 4] Tryz.func128 G G (Jr fun a2=>(JLm (BL false) G (G5 (a2 (Js fun a3=>Jr fun a4=>(JLm (E4 a) G (JLl Hd G G G fun b1=>(JLm (E4 b) G (JLl Hd G G G fun b2=>(JLh (BL (decide ((a.length:Int)≠(b.length:Int)))) (aH G G G) G (G5 (a4 (JCc G h (fun h hb=>?_) (fun h hb=>?_))))))))))))))
 ·
  refine Jr fun a5=>(JLm (BL false) G (G5 (a5 (Gs (fin1 BL h)))))
 ·
  refine Gn (a3 (Js fun a6=>Jr fun a7=>(JLm (I64 0) G (G5 (a7 (Gf ?_))))))
  obtain⟨a8,m,n,l,h⟩:=Hy h
  refine H8 (fun c (g:Unit)=>each a8 m (List.drop c a) c g=some r) (fun c g=>[(0,E4 a),(1,E4 b),(5,Ej c)]) (fun c g=>[]) (fun c=>a.length - c) 0 () h ⟨(.sm G G),U,G⟩ ?_
  clear h
  intro c g j b3 a9
  refine Js fun o=>Jr fun p=>(JLm (Ej c) G (JLm (E4 a) G (JLl Hd G G G fun q=>(JLh (BL (decide ((c:Int) < (a.length:Int)))) (Hr G G G) G (G5 (p (Gg G (fun hb=>?_) (fun hb=>?_))))))))
  ·
   have k:=Je hb
   obtain⟨d,b0,s,t,h⟩:=Hh j k
   replace h:=Rx n h
   refine Gn (o (Js fun u=>Gf (Js fun v=>?_)))
   obtain⟨b4,e,w,x,h⟩:=R0 h
   obtain⟨i,z,h⟩:=Gd h
   refine JC_d0 Jd (by kernel_rfl) (Dq (E4 a) (G3 G G) G (Dq (Ej c) (G3 G G) G (Dq (Ef d) (Gr (f:=G6.av) (xs:=a) (y:=d) G G G Hd s G) G (Dq (.agg (G6.cs d)) (Gj Zu G G G) G (Dq (E4 b) (G3 G G) G (Dq (Ej c) (G3 G G) G (Dq (Ef e) (Gr (f:=G6.av) (xs:=b) (y:=e) G G G Hd x w) G (Dq (.agg (G6.cs e)) (Gj Zu G G G) G (Dq (BL i) (Gi (args:=[.agg (G6.cs d),.agg (G6.cs e)]) G (cV d e i z) wB ⟨G,G,G,G,U⟩) G (Dq (BL (!i)) (Qj (b:=i) G G) G (Dnil (v (JCc G h (fun h hb=>?_) (fun h hb=>?_))))))))))))))
   ·
    refine Jr fun a0=>(JLm (BL false) G (G5 (a0 (Gs (fin1 BL h)))))
   ·
    refine Gn (u (G1 (JLm (Ej c) G (JLh (I64 ((c+1:Nat):Int)) (Hs (Hb k q) G G G) G (JLm (I64 ((c+1:Nat):Int)) G (G5 (a9 _ _ (c+1) () (app1 t h) (by omega) ⟨(.sm G G),U,rfl⟩)))))))
  ·
   have h:=app1 l (Hi j (H6 hb))
   refine H9 (a6 (Jr fun a1=>(JLm (BL true) G (G5 (a1 (Gs (fin1 BL h)))))))

def Q5 (a:H3) (b:H3):Option Bool:=
 bnd (bif decide (a.Bay=b.Bay) then Ja a.Rows b.Rows else some default) fun c=>
 some ((decide (a.Bay=b.Bay))&&c)
theorem dL (a:H3) (b:H3) (r:Bool) (h:Q5 a b=some r):Pure Ek 136 [.agg [I64 a.Bay,E2 a.Rows],.agg [I64 b.Bay,E2 b.Rows]] (·=BL r):=by
 unfold Q5 at h
 refine Gy [.tmp 4] Tryz.func136 G G (Jr fun d=>(JLh (.ptr 1148 0) (Jy (cs:=[I64 a.Bay,E2 a.Rows]) 1148 G G G G G) G (JLh (.ptr 1149 0) (Jy (cs:=[I64 b.Bay,E2 b.Rows]) 1149 G G G G G) G (JLm (BL false) G (G5 (d (Gw [(2,.dptr [I64 a.Bay,E2 a.Rows]),(3,.ptr 1149 0)] [(1149,.box 73 [I64 b.Bay,E2 b.Rows])] 1148 rfl rfl rfl ⟨⟨_,rfl,.boxEq rfl rfl⟩,U⟩ rfl (by exact⟨.ptr,.conv (.same rfl),U⟩) (Gw [(2,.dptr [I64 a.Bay,E2 a.Rows]),(3,.dptr [I64 b.Bay,E2 b.Rows])] [] 1149 rfl rfl rfl U rfl (by exact⟨.conv (.same rfl),.ptr,U⟩) ?_))))))))
 refine Jr fun e=>(JLh (.dptr [I64 a.Bay,E2 a.Rows]) (Ga aI G G G) G (JLh (I64 a.Bay) (Ge Gb G G G) G (JLh (.dptr [I64 b.Bay,E2 b.Rows]) (Ga aI G G G) G (JLh (I64 b.Bay) (Ge Gb G G G) G (JLh (BL (decide (a.Bay=b.Bay))) (Qc G G G) G (JLm (BL (decide (a.Bay=b.Bay))) G (JLo (.dptr [E2 a.Rows]) [] G .sct U (fun hc=>Ga Qg G G G) G (JLo (E2 a.Rows) [11] G .sct ⟨Ua,U⟩ (fun hc=>Ge He G G G) G (JLo (.dptr [E2 b.Rows]) [] G .sct U (fun hc=>Ga Qg G G G) G (JLo (E2 b.Rows) [13] G .sct ⟨Ua,U⟩ (fun hc=>Ge He G G G) G ?_))))))))))
 obtain⟨c,f,h⟩:=Gd h
 refine JLo (BL c) [12,14] G .sct ⟨Ua,Ua,U⟩ (fun hc=>Gi (args:=[E2 a.Rows,E2 b.Rows]) G (Jv a.Rows b.Rows c (Gv hc f)) dI ⟨G,G,G,G,U⟩) G (JLh (BL ((decide (a.Bay=b.Bay))&&c)) (J9 G G G G) G (JLm (BL ((decide (a.Bay=b.Bay))&&c)) G (G5 (e (Gs (fin1 BL h))))))

def Z0 (a:List H3) (b:List H3):Option Bool:=
 bif decide ((a.length:Int)≠(b.length:Int)) then
 (some false)
 else
 (each (fun d e (f:Unit) c=>
   Jo b (e:Int) fun g=>
   bnd (Q5 d g) fun h=>
   bif (!h) then
   (some false)
   else
   (c ()))
  (fun(f:Unit)=>
   some true) a 0 ())
theorem nV (a:List H3) (b:List H3) (r:Bool) (h:Z0 a b=some r):Pure Ek 129 [E5 a,E5 b] (·=BL r):=by
 unfold Z0 at h
 refine Gy [.tmp 4] Tryz.func129 G G (Jr fun a2=>(JLm (BL false) G (G5 (a2 (Js fun a3=>Jr fun a4=>(JLm (E5 a) G (JLl J1 G G G fun b1=>(JLm (E5 b) G (JLl J1 G G G fun b2=>(JLh (BL (decide ((a.length:Int)≠(b.length:Int)))) (aH G G G) G (G5 (a4 (JCc G h (fun h hb=>?_) (fun h hb=>?_))))))))))))))
 ·
  refine Jr fun a5=>(JLm (BL false) G (G5 (a5 (Gs (fin1 BL h)))))
 ·
  refine Gn (a3 (Js fun a6=>Jr fun a7=>(JLm (I64 0) G (G5 (a7 (Gf ?_))))))
  obtain⟨a8,m,n,l,h⟩:=Hy h
  refine H8 (fun c (g:Unit)=>each a8 m (List.drop c a) c g=some r) (fun c g=>[(0,E5 a),(1,E5 b),(5,Ej c)]) (fun c g=>[]) (fun c=>a.length - c) 0 () h ⟨(.sm G G),U,G⟩ ?_
  clear h
  intro c g j b3 a9
  refine Js fun o=>Jr fun p=>(JLm (Ej c) G (JLm (E5 a) G (JLl J1 G G G fun q=>(JLh (BL (decide ((c:Int) < (a.length:Int)))) (Hr G G G) G (G5 (p (Gg G (fun hb=>?_) (fun hb=>?_))))))))
  ·
   have k:=Je hb
   obtain⟨d,b0,s,t,h⟩:=Hh j k
   replace h:=Rx n h
   refine Gn (o (Js fun u=>Gf (Js fun v=>?_)))
   obtain⟨b4,e,w,x,h⟩:=R0 h
   obtain⟨i,z,h⟩:=Gd h
   refine JC_d0 Jd (by kernel_rfl) (Dq (E5 a) (G3 G G) G (Dq (Ej c) (G3 G G) G (Dq (.dptr [I64 d.Bay,E2 d.Rows]) (Gr (f:=H3.av) (xs:=a) (y:=d) G G G J1 s G) G (Dq (.agg [I64 d.Bay,E2 d.Rows]) (Gj Zd G G G) G (Dq (E5 b) (G3 G G) G (Dq (Ej c) (G3 G G) G (Dq (.dptr [I64 e.Bay,E2 e.Rows]) (Gr (f:=H3.av) (xs:=b) (y:=e) G G G J1 x w) G (Dq (.agg [I64 e.Bay,E2 e.Rows]) (Gj Zd G G G) G (Dq (BL i) (Gi (args:=[.agg [I64 d.Bay,E2 d.Rows],.agg [I64 e.Bay,E2 e.Rows]]) G (dL d e i z) wA ⟨G,G,G,G,U⟩) G (Dq (BL (!i)) (Qj (b:=i) G G) G (Dnil (v (JCc G h (fun h hb=>?_) (fun h hb=>?_))))))))))))))
   ·
    refine Jr fun a0=>(JLm (BL false) G (G5 (a0 (Gs (fin1 BL h)))))
   ·
    refine Gn (u (G1 (JLm (Ej c) G (JLh (I64 ((c+1:Nat):Int)) (Hs (Hb k q) G G G) G (JLm (I64 ((c+1:Nat):Int)) G (G5 (a9 _ _ (c+1) () (app1 t h) (by omega) ⟨(.sm G G),U,rfl⟩)))))))
  ·
   have h:=app1 l (Hi j (H6 hb))
   refine H9 (a6 (Jr fun a1=>(JLm (BL true) G (G5 (a1 (Gs (fin1 BL h)))))))

def Zy (a:List Row) (b:List Row):Option Bool:=
 bif decide ((a.length:Int)≠(b.length:Int)) then
 (some false)
 else
 (each (fun d e (f:Unit) c=>
   Jo b (e:Int) fun g=>
   bif (!decide (d=g)) then
   (some false)
   else
   (c ()))
  (fun(f:Unit)=>
   some true) a 0 ())
theorem qG (a:List Row) (b:List Row) (r:Bool) (h:Zy a b=some r):Pure Ek 130 [E8 a,E8 b] (·=BL r):=by
 unfold Zy at h
 refine Gy [.tmp 4] Tryz.func130 G G (Jr fun a0=>(JLm (BL false) G (G5 (a0 (Js fun a1=>Jr fun a2=>(JLm (E8 a) G (JLl Qm G G G fun a9=>(JLm (E8 b) G (JLl Qm G G G fun b0=>(JLh (BL (decide ((a.length:Int)≠(b.length:Int)))) (aH G G G) G (G5 (a2 (JCc G h (fun h hb=>?_) (fun h hb=>?_))))))))))))))
 ·
  refine Jr fun a3=>(JLm (BL false) G (G5 (a3 (Gs (fin1 BL h)))))
 ·
  refine Gn (a1 (Js fun a4=>Jr fun a5=>(JLm (I64 0) G (G5 (a5 (Gf ?_))))))
  obtain⟨a6,l,m,k,h⟩:=Hy h
  refine H8 (fun c (g:Unit)=>each a6 l (List.drop c a) c g=some r) (fun c g=>[(0,E8 a),(1,E8 b),(5,Ej c)]) (fun c g=>[]) (fun c=>a.length - c) 0 () h ⟨(.sm G G),U,G⟩ ?_
  clear h
  intro c g i b1 a7
  refine Js fun n=>Jr fun o=>(JLm (Ej c) G (JLm (E8 a) G (JLl Qm G G G fun p=>(JLh (BL (decide ((c:Int) < (a.length:Int)))) (Hr G G G) G (G5 (o (Gg G (fun hb=>?_) (fun hb=>?_))))))))
  ·
   have j:=Je hb
   obtain⟨d,a8,q,s,h⟩:=Hh i j
   replace h:=Rx m h
   refine Gn (n (Js fun t=>Gf (Js fun u=>?_)))
   obtain⟨b2,e,v,w,h⟩:=R0 h
   refine JC_d0 Jd (by kernel_rfl) (Dq (E8 a) (G3 G G) G (Dq (Ej c) (G3 G G) G (Dq (.dptr (Row.cs d)) (Gr (f:=Row.av) (xs:=a) (y:=d) G G G Qm q G) G (Dq (.agg (Row.cs d)) (Gj lG G G G) G (Dq (E8 b) (G3 G G) G (Dq (Ej c) (G3 G G) G (Dq (.dptr (Row.cs e)) (Gr (f:=Row.av) (xs:=b) (y:=e) G G G Qm w v) G (Dq (.agg (Row.cs e)) (Gj lG G G G) G (Dq (BL (!decide (d=e))) (uY (vs:=[.int .i64 d.Draught,.int .i64 d.Kilos,.int .i64 d.Buoy,.int .i64 d.Metacentre,.int .i64 d.xU]) (us:=[.int .i64 e.Draught,.int .i64 e.Kilos,.int .i64 e.Buoy,.int .i64 e.Metacentre,.int .i64 e.xU]) 4 G (H4a d e) tY yO G G G) G (Dnil (u ?_)))))))))))
   refine JCc G h ?_ ?_<;>intro h hb
   ·
    refine Jr fun x=>(JLm (BL false) G (G5 (x (Gs (fin1 BL h)))))
   ·
    refine Gn (t (G1 (JLm (Ej c) G (JLh (I64 ((c+1:Nat):Int)) (Hs (Hb j p) G G G) G (JLm (I64 ((c+1:Nat):Int)) G (G5 (a7 _ _ (c+1) () (app1 s h) (by omega) ⟨(.sm G G),U,rfl⟩)))))))
  ·
   have h:=app1 k (Hi i (H6 hb))
   refine H9 (a4 (Jr fun z=>(JLm (BL true) G (G5 (z (Gs (fin1 BL h)))))))

def Yz (a:List Frame) (b:List Frame):Option Bool:=
 bif decide ((a.length:Int)≠(b.length:Int)) then
 (some false)
 else
 (each (fun d e (f:Unit) c=>
   Jo b (e:Int) fun g=>
   bif (!decide (d=g)) then
   (some false)
   else
   (c ()))
  (fun(f:Unit)=>
   some true) a 0 ())
theorem nU (a:List Frame) (b:List Frame) (r:Bool) (h:Yz a b=some r):Pure Ek 131 [E7 a,E7 b] (·=BL r):=by
 unfold Yz at h
 refine Gy [.tmp 4] Tryz.func131 G G (Jr fun a0=>(JLm (BL false) G (G5 (a0 (Js fun a1=>Jr fun a2=>(JLm (E7 a) G (JLl Qk G G G fun a9=>(JLm (E7 b) G (JLl Qk G G G fun b0=>(JLh (BL (decide ((a.length:Int)≠(b.length:Int)))) (aH G G G) G (G5 (a2 (JCc G h (fun h hb=>?_) (fun h hb=>?_))))))))))))))
 ·
  refine Jr fun a3=>(JLm (BL false) G (G5 (a3 (Gs (fin1 BL h)))))
 ·
  refine Gn (a1 (Js fun a4=>Jr fun a5=>(JLm (I64 0) G (G5 (a5 (Gf ?_))))))
  obtain⟨a6,l,m,k,h⟩:=Hy h
  refine H8 (fun c (g:Unit)=>each a6 l (List.drop c a) c g=some r) (fun c g=>[(0,E7 a),(1,E7 b),(5,Ej c)]) (fun c g=>[]) (fun c=>a.length - c) 0 () h ⟨(.sm G G),U,G⟩ ?_
  clear h
  intro c g i b1 a7
  refine Js fun n=>Jr fun o=>(JLm (Ej c) G (JLm (E7 a) G (JLl Qk G G G fun p=>(JLh (BL (decide ((c:Int) < (a.length:Int)))) (Hr G G G) G (G5 (o (Gg G (fun hb=>?_) (fun hb=>?_))))))))
  ·
   have j:=Je hb
   obtain⟨d,a8,q,s,h⟩:=Hh i j
   replace h:=Rx m h
   refine Gn (n (Js fun t=>Gf (Js fun u=>?_)))
   obtain⟨b2,e,v,w,h⟩:=R0 h
   refine JC_d0 Jd (by kernel_rfl) (Dq (E7 a) (G3 G G) G (Dq (Ej c) (G3 G G) G (Dq (.dptr (Frame.cs d)) (Gr (f:=Frame.av) (xs:=a) (y:=d) G G G Qk q G) G (Dq (.agg (Frame.cs d)) (Gj lF G G G) G (Dq (E7 b) (G3 G G) G (Dq (Ej c) (G3 G G) G (Dq (.dptr (Frame.cs e)) (Gr (f:=Frame.av) (xs:=b) (y:=e) G G G Qk w v) G (Dq (.agg (Frame.cs e)) (Gj lF G G G) G (Dq (BL (!decide (d=e))) (uY (vs:=[.int .i64 d.X,.int .i64 d.Light,.int .i64 d.Share,.int .i64 d.Shear,.int .i64 d.Bend]) (us:=[.int .i64 e.X,.int .i64 e.Light,.int .i64 e.Share,.int .i64 e.Shear,.int .i64 e.Bend]) 4 G (H49 d e) tX yN G G G) G (Dnil (u (JCc G h (fun h hb=>?_) (fun h hb=>?_)))))))))))))
   ·
    refine Jr fun x=>(JLm (BL false) G (G5 (x (Gs (fin1 BL h)))))
   ·
    refine Gn (t (G1 (JLm (Ej c) G (JLh (I64 ((c+1:Nat):Int)) (Hs (Hb j p) G G G) G (JLm (I64 ((c+1:Nat):Int)) G (G5 (a7 _ _ (c+1) () (app1 s h) (by omega) ⟨(.sm G G),U,rfl⟩)))))))
  ·
   have h:=app1 k (Hi i (H6 hb))
   refine H9 (a4 (Jr fun z=>(JLm (BL true) G (G5 (z (Gs (fin1 BL h)))))))

def Qa (a:Hg) (b:Hg):Option Bool:=
 bnd (bif (((((decide (a.Kilos=b.Kilos))&&(decide (a.X=b.X)))&&(decide (a.Y=b.Y)))&&(decide (a.Z=b.Z)))&&(decide (a.Surface=b.Surface))) then Ja a.Steps b.Steps else some default) fun c=>
 some ((((((decide (a.Kilos=b.Kilos))&&(decide (a.X=b.X)))&&(decide (a.Y=b.Y)))&&(decide (a.Z=b.Z)))&&(decide (a.Surface=b.Surface)))&&c)
abbrev Ks (a:Hg) (b:Hg):Bool:=(((decide (a.Kilos=b.Kilos))&&(decide (a.X=b.X)))&&(decide (a.Y=b.Y)))
abbrev Kt (b:Hg):List AV:=[I64 b.Kilos,I64 b.X,I64 b.Y,I64 b.Z,I64 b.Surface,E2 b.Steps]
theorem dS (a:Hg) (b:Hg) (r:Bool) (h:Qa a b=some r):Pure Ek 138 [.agg (Hg.cs a),.agg (Hg.cs b)] (·=BL r):=by
 unfold Qa at h
 refine Gy [.tmp 4] Tryz.func138 G G (Jr fun d=>(JLh (.ptr 1152 0) (Jy (cs:=(Kt a)) 1152 G G G G G) G (JLh (.ptr 1153 0) (Jy (cs:=(Kt b)) 1153 G G G G G) G (JLm (BL false) G (G5 (d (Gw [(2,Ei a),(3,.ptr 1153 0)] [(1153,.box 177 (Kt b))] 1152 rfl rfl rfl ⟨⟨_,rfl,.boxEq rfl rfl⟩,U⟩ rfl (by exact⟨.ptr,.conv (.same rfl),U⟩) (Gw [(2,Ei a),(3,Ei b)] [] 1153 rfl rfl rfl U rfl (by exact⟨.conv (.same rfl),.ptr,U⟩) ?_))))))))
 refine Jr fun e=>(JLh (Ei a) (Ga vS G G G) G (JLh (I64 a.Kilos) (Ge Gb G G G) G (JLh (Ei b) (Ga vS G G G) G (JLh (I64 b.Kilos) (Ge Gb G G G) G (JLh (BL (decide (a.Kilos=b.Kilos))) (Qc G G G) G (JLm (BL (decide (a.Kilos=b.Kilos))) G (JLo (.dptr ((Hg.cs a).drop 1)) [] G .sct U (fun hc=>Ga vR G G G) G (JLo (I64 a.X) [11] G .sct ⟨Ua,U⟩ (fun hc=>Ge Gb G G G) G (JLo (.dptr ((Hg.cs b).drop 1)) [] G .sct U (fun hc=>Ga vR G G G) G (JLo (I64 b.X) [13] G .sct ⟨Ua,U⟩ (fun hc=>Ge Gb G G G) G (JLo (BL (decide (a.X=b.X))) [12,14] G .sct ⟨Ua,Ua,U⟩ (fun hc=>Qc G G G) G (JLh (BL ((decide (a.Kilos=b.Kilos))&&(decide (a.X=b.X)))) (J9 G G G G) G (JLm (BL ((decide (a.Kilos=b.Kilos))&&(decide (a.X=b.X)))) G ?_)))))))))))))
 refine JLo (.dptr ((Hg.cs a).drop 2)) [] G .sct U (fun hc=>Ga vQ G G G) G (JLo (I64 a.Y) [18] G .sct ⟨Ua,U⟩ (fun hc=>Ge Gb G G G) G (JLo (.dptr ((Hg.cs b).drop 2)) [] G .sct U (fun hc=>Ga vQ G G G) G (JLo (I64 b.Y) [20] G .sct ⟨Ua,U⟩ (fun hc=>Ge Gb G G G) G (JLo (BL (decide (a.Y=b.Y))) [19,21] G .sct ⟨Ua,Ua,U⟩ (fun hc=>Qc G G G) G (JLh (BL (Ks a b)) (J9 G G G G) G (JLm (BL (Ks a b)) G (JLo (.dptr ((Hg.cs a).drop 3)) [] G .sct U (fun hc=>Ga vP G G G) G (JLo (I64 a.Z) [25] G .sct ⟨Ua,U⟩ (fun hc=>Ge Gb G G G) G (JLo (.dptr ((Hg.cs b).drop 3)) [] G .sct U (fun hc=>Ga vP G G G) G (JLo (I64 b.Z) [27] G .sct ⟨Ua,U⟩ (fun hc=>Ge Gb G G G) G (JLo (BL (decide (a.Z=b.Z))) [26,28] G .sct ⟨Ua,Ua,U⟩ (fun hc=>Qc G G G) G (JLh (BL ((Ks a b)&&(decide (a.Z=b.Z)))) (J9 G G G G) G (JLm (BL ((Ks a b)&&(decide (a.Z=b.Z)))) G ?_)))))))))))))
 refine JLo (.dptr [I64 a.Surface,E2 a.Steps]) [] G .sct U (fun hc=>Ga vO G G G) G (JLo (I64 a.Surface) [32] G .sct ⟨Ua,U⟩ (fun hc=>Ge Gb G G G) G (JLo (.dptr [I64 b.Surface,E2 b.Steps]) [] G .sct U (fun hc=>Ga vO G G G) G (JLo (I64 b.Surface) [34] G .sct ⟨Ua,U⟩ (fun hc=>Ge Gb G G G) G (JLo (BL (decide (a.Surface=b.Surface))) [33,35] G .sct ⟨Ua,Ua,U⟩ (fun hc=>Qc G G G) G (JLh (BL (((Ks a b)&&(decide (a.Z=b.Z)))&&(decide (a.Surface=b.Surface)))) (J9 G G G G) G (JLm (BL (((Ks a b)&&(decide (a.Z=b.Z)))&&(decide (a.Surface=b.Surface)))) G (JLo (.dptr [E2 a.Steps]) [] G .sct U (fun hc=>Ga eV G G G) G (JLo (E2 a.Steps) [39] G .sct ⟨Ua,U⟩ (fun hc=>Ge He G G G) G (JLo (.dptr [E2 b.Steps]) [] G .sct U (fun hc=>Ga eV G G G) G (JLo (E2 b.Steps) [41] G .sct ⟨Ua,U⟩ (fun hc=>Ge He G G G) G ?_))))))))))
 obtain⟨c,f,h⟩:=Gd h
 refine JLo (BL c) [40,42] G .sct ⟨Ua,Ua,U⟩ (fun hc=>Gi (args:=[E2 a.Steps,E2 b.Steps]) G (Jv a.Steps b.Steps c (Gv hc f)) dI ⟨G,G,G,G,U⟩) G (JLh (BL ((((Ks a b)&&(decide (a.Z=b.Z)))&&(decide (a.Surface=b.Surface)))&&c)) (J9 G G G G) G (JLm (BL ((((Ks a b)&&(decide (a.Z=b.Z)))&&(decide (a.Surface=b.Surface)))&&c)) G (G5 (e (Gs (fin1 BL h))))))

def Zg (a:List Hg) (b:List Hg):Option Bool:=
 bif decide ((a.length:Int)≠(b.length:Int)) then
 (some false)
 else
 (each (fun d e (f:Unit) c=>
   Jo b (e:Int) fun g=>
   bnd (Qa d g) fun h=>
   bif (!h) then
   (some false)
   else
   (c ()))
  (fun(f:Unit)=>
   some true) a 0 ())
theorem pQ (a:List Hg) (b:List Hg) (r:Bool) (h:Zg a b=some r):Pure Ek 132 [E9 a,E9 b] (·=BL r):=by
 unfold Zg at h
 refine Gy [.tmp 4] Tryz.func132 G G (Jr fun a2=>(JLm (BL false) G (G5 (a2 (Js fun a3=>Jr fun a4=>(JLm (E9 a) G (JLl Q3 G G G fun b1=>(JLm (E9 b) G (JLl Q3 G G G fun b2=>(JLh (BL (decide ((a.length:Int)≠(b.length:Int)))) (aH G G G) G (G5 (a4 (JCc G h (fun h hb=>?_) (fun h hb=>?_))))))))))))))
 ·
  refine Jr fun a5=>(JLm (BL false) G (G5 (a5 (Gs (fin1 BL h)))))
 ·
  refine Gn (a3 (Js fun a6=>Jr fun a7=>(JLm (I64 0) G (G5 (a7 (Gf ?_))))))
  obtain⟨a8,m,n,l,h⟩:=Hy h
  refine H8 (fun c (g:Unit)=>each a8 m (List.drop c a) c g=some r) (fun c g=>[(0,E9 a),(1,E9 b),(5,Ej c)]) (fun c g=>[]) (fun c=>a.length - c) 0 () h ⟨(.sm G G),U,G⟩ ?_
  clear h
  intro c g j b3 a9
  refine Js fun o=>Jr fun p=>(JLm (Ej c) G (JLm (E9 a) G (JLl Q3 G G G fun q=>(JLh (BL (decide ((c:Int) < (a.length:Int)))) (Hr G G G) G (G5 (p (Gg G (fun hb=>?_) (fun hb=>?_))))))))
  ·
   have k:=Je hb
   obtain⟨d,b0,s,t,h⟩:=Hh j k
   replace h:=Rx n h
   refine Gn (o (Js fun u=>Gf (Js fun v=>?_)))
   obtain⟨b4,e,w,x,h⟩:=R0 h
   obtain⟨i,z,h⟩:=Gd h
   refine JC_d0 Jd (by kernel_rfl) (Dq (E9 a) (G3 G G) G (Dq (Ej c) (G3 G G) G (Dq (Ei d) (Gr (f:=Hg.av) (xs:=a) (y:=d) G G G Q3 s G) G (Dq (.agg (Hg.cs d)) (Gj cK G G G) G (Dq (E9 b) (G3 G G) G (Dq (Ej c) (G3 G G) G (Dq (Ei e) (Gr (f:=Hg.av) (xs:=b) (y:=e) G G G Q3 x w) G (Dq (.agg (Hg.cs e)) (Gj cK G G G) G (Dq (BL i) (Gi (args:=[.agg (Hg.cs d),.agg (Hg.cs e)]) G (dS d e i z) vY ⟨G,G,G,G,U⟩) G (Dq (BL (!i)) (Qj (b:=i) G G) G (Dnil (v (JCc G h (fun h hb=>?_) (fun h hb=>?_))))))))))))))
   ·
    refine Jr fun a0=>(JLm (BL false) G (G5 (a0 (Gs (fin1 BL h)))))
   ·
    refine Gn (u (G1 (JLm (Ej c) G (JLh (I64 ((c+1:Nat):Int)) (Hs (Hb k q) G G G) G (JLm (I64 ((c+1:Nat):Int)) G (G5 (a9 _ _ (c+1) () (app1 t h) (by omega) ⟨(.sm G G),U,rfl⟩)))))))
  ·
   have h:=app1 l (Hi j (H6 hb))
   refine H9 (a6 (Jr fun a1=>(JLm (BL true) G (G5 (a1 (Gs (fin1 BL h)))))))

def Zx (a:Gq) (b:Gq):Option Bool:=
 bnd (Yn a.Columns b.Columns) fun c=>
 bnd (bif c then Z0 a.Covers b.Covers else some default) fun d=>
 bnd (bif ((c&&d)&&(decide (a.Light=b.Light))) then Zy a.Rows b.Rows else some default) fun e=>
 bnd (bif (((c&&d)&&(decide (a.Light=b.Light)))&&e) then Yz a.Frames b.Frames else some default) fun f=>
 bnd (bif ((((c&&d)&&(decide (a.Light=b.Light)))&&e)&&f) then Zg a.Tanks b.Tanks else some default) fun g=>
 some ((((((c&&d)&&(decide (a.Light=b.Light)))&&e)&&f)&&g)&&(decide (a.Gk=b.Gk)))
theorem qF (a:Gq) (b:Gq) (r:Bool) (h:Zx a b=some r):Pure Ek 56 [.agg (Gq.cs a),.agg (Gq.cs b)] (·=BL r):=by
 unfold Zx at h
 refine Gy [.tmp 4] Tryz.func56 G G (Jr fun i=>(JLh (.ptr 1094 0) (Jy (cs:=(Gq.cs a)) 1094 G G G G G) G (JLh (.ptr 1095 0) (Jy (cs:=(Gq.cs b)) 1095 G G G G G) G (JLm (BL false) G (G5 (i ?_))))))
 refine Gw [(2,Ed a),(3,.ptr 1095 0)] [(1095,.box 32 (Gq.cs b))] 1094 rfl rfl rfl ⟨⟨_,rfl,.boxEq rfl rfl⟩,U⟩ rfl (by exact⟨.ptr,.conv (.same rfl),U⟩) (Gw [(2,Ed a),(3,Ed b)] [] 1095 rfl rfl rfl U rfl (by exact⟨.conv (.same rfl),.ptr,U⟩) (Jr fun j=>(JLh (Ed a) (Ga Hu G G G) G (JLh (E4 a.Columns) (Ge J2 G G G) G (JLh (Ed b) (Ga Hu G G G) G (JLh (E4 b.Columns) (Ge J2 G G G) G ?_))))))
 obtain⟨c,k,h⟩:=Gd h
 refine JLh (BL c) (Gi G (mW a.Columns b.Columns c k) Gef ⟨G,G,G,G,U⟩) G (JLm (BL c) G (JLo (.dptr ((Gq.cs a).drop 1)) [] G .sct U (fun hc=>Ga Qh G G G) G (JLo (E5 a.Covers) [11] G .sct ⟨Ua,U⟩ (fun hc=>Ge R4 G G G) G (JLo (.dptr ((Gq.cs b).drop 1)) [] G .sct U (fun hc=>Ga Qh G G G) G (JLo (E5 b.Covers) [13] G .sct ⟨Ua,U⟩ (fun hc=>Ge R4 G G G) G ?_)))))
 obtain⟨d,l,h⟩:=Gd h
 refine JLo (BL d) [12,14] G .sct ⟨Ua,Ua,U⟩ (fun hc=>Gi (args:=[E5 a.Covers,E5 b.Covers]) G (nV a.Covers b.Covers d (Gv hc l)) Gee ⟨G,G,G,G,U⟩) G (JLh (BL (c&&d)) (J9 G G G G) G (JLm (BL (c&&d)) G (JLo (.dptr ((Gq.cs a).drop 2)) [] G .sct U (fun hc=>Ga xY G G G) G (JLo (.agg (Light.cs a.Light)) [18] G .sct ⟨Ua,U⟩ (fun hc=>Gj G74 G G G) G (JLo (.dptr ((Gq.cs b).drop 2)) [] G .sct U (fun hc=>Ga xY G G G) G (JLo (.agg (Light.cs b.Light)) [20] G .sct ⟨Ua,U⟩ (fun hc=>Gj G74 G G G) G (JLo (BL (decide (a.Light=b.Light))) [19,21] G .sct ⟨Ua,Ua,U⟩ (fun hc=>lA (vs:=[.int .i64 a.Light.Kilos,.int .i64 a.Light.X,.int .i64 a.Light.Y,.int .i64 a.Light.Z]) (us:=[.int .i64 b.Light.Kilos,.int .i64 b.Light.X,.int .i64 b.Light.Y,.int .i64 b.Light.Z]) 4 G (Q24 a.Light b.Light) H05 Hde G G G) G (JLh (BL ((c&&d)&&(decide (a.Light=b.Light)))) (J9 G G G G) G (JLm (BL ((c&&d)&&(decide (a.Light=b.Light)))) G (JLo (.dptr ((Gq.cs a).drop 6)) [] G .sct U (fun hc=>Ga fX G G G) G (JLo (E8 a.Rows) [25] G .sct ⟨Ua,U⟩ (fun hc=>Ge kL G G G) G (JLo (.dptr ((Gq.cs b).drop 6)) [] G .sct U (fun hc=>Ga fX G G G) G (JLo (E8 b.Rows) [27] G .sct ⟨Ua,U⟩ (fun hc=>Ge kL G G G) G ?_)))))))))))))
 obtain⟨e,m,h⟩:=Gd h
 refine JLo (BL e) [26,28] G .sct ⟨Ua,Ua,U⟩ (fun hc=>Gi (args:=[E8 a.Rows,E8 b.Rows]) G (qG a.Rows b.Rows e (Gv hc m)) Ged ⟨G,G,G,G,U⟩) G (JLh (BL (((c&&d)&&(decide (a.Light=b.Light)))&&e)) (J9 G G G G) G (JLm (BL (((c&&d)&&(decide (a.Light=b.Light)))&&e)) G (JLo (.dptr ((Gq.cs a).drop 7)) [] G .sct U (fun hc=>Ga fW G G G) G (JLo (E7 a.Frames) [32] G .sct ⟨Ua,U⟩ (fun hc=>Ge kK G G G) G (JLo (.dptr ((Gq.cs b).drop 7)) [] G .sct U (fun hc=>Ga fW G G G) G (JLo (E7 b.Frames) [34] G .sct ⟨Ua,U⟩ (fun hc=>Ge kK G G G) G ?_))))))
 obtain⟨f,n,h⟩:=Gd h
 refine JLo (BL f) [33,35] G .sct ⟨Ua,Ua,U⟩ (fun hc=>Gi (args:=[E7 a.Frames,E7 b.Frames]) G (nU a.Frames b.Frames f (Gv hc n)) Gec ⟨G,G,G,G,U⟩) G (JLh (BL ((((c&&d)&&(decide (a.Light=b.Light)))&&e)&&f)) (J9 G G G G) G (JLm (BL ((((c&&d)&&(decide (a.Light=b.Light)))&&e)&&f)) G (JLo (.dptr ((Gq.cs a).drop 8)) [] G .sct U (fun hc=>Ga fV G G G) G (JLo (E9 a.Tanks) [39] G .sct ⟨Ua,U⟩ (fun hc=>Ge kJ G G G) G (JLo (.dptr ((Gq.cs b).drop 8)) [] G .sct U (fun hc=>Ga fV G G G) G (JLo (E9 b.Tanks) [41] G .sct ⟨Ua,U⟩ (fun hc=>Ge kJ G G G) G ?_))))))
 obtain⟨g,o,h⟩:=Gd h
 refine JLo (BL g) [40,42] G .sct ⟨Ua,Ua,U⟩ (fun hc=>Gi (args:=[E9 a.Tanks,E9 b.Tanks]) G (pQ a.Tanks b.Tanks g (Gv hc o)) Geb ⟨G,G,G,G,U⟩) G (JLh (BL (((((c&&d)&&(decide (a.Light=b.Light)))&&e)&&f)&&g)) (J9 G G G G) G (JLm (BL (((((c&&d)&&(decide (a.Light=b.Light)))&&e)&&f)&&g)) G (JLo (.dptr ((Gq.cs a).drop 9)) [] G .sct U (fun hc=>Ga xX G G G) G (JLo (.agg ((Gq.cs a).drop 9)) [46] G .sct ⟨Ua,U⟩ (fun hc=>Gj G73 G G G) G (JLo (.dptr ((Gq.cs b).drop 9)) [] G .sct U (fun hc=>Ga xX G G G) G (JLo (.agg ((Gq.cs b).drop 9)) [48] G .sct ⟨Ua,U⟩ (fun hc=>Gj G73 G G G) G (JLo (BL (decide (a.Gk=b.Gk))) [47,49] G .sct ⟨Ua,Ua,U⟩ (fun hc=>lA (vs:=[.int .i64 a.Gk.Tolerance,.int .i64 a.Gk.Trim,.int .i64 a.Gk.List_,.int .i64 a.Gk.Stability]) (us:=[.int .i64 b.Gk.Tolerance,.int .i64 b.Gk.Trim,.int .i64 b.Gk.List_,.int .i64 b.Gk.Stability]) 4 G (Q23 a.Gk b.Gk) H04 Hdd G G G) G (JLh (BL ((((((c&&d)&&(decide (a.Light=b.Light)))&&e)&&f)&&g)&&(decide (a.Gk=b.Gk)))) (J9 G G G G) G (JLm (BL ((((((c&&d)&&(decide (a.Light=b.Light)))&&e)&&f)&&g)&&(decide (a.Gk=b.Gk)))) G (G5 (j ?_)))))))))))
 refine Gs (fin1 BL h)

def Jb (out:Ln Int) (l:List Int):Option Bool:=
 bif decide ((out.1.length:Int)≠(l.length:Int)) then
 (some false)
 else
 (chk ((l.length:Int)+12) fun h=>
  bnd (cO h (out.1++out.2).length) fun i=>
  each (fun b a (e:Unit) d=>
   bnd (bif decide ((a:Int) < (l.length:Int)) then Jo l (a:Int) some else some default) fun c=>
   bnd (bif ((!((decide ((a:Int) < (l.length:Int)))&&(!(decide (b=c)))))&&(decide ((l.length:Int)≤(a:Int)))) then chk ((a:Int) - (l.length:Int)) some else some 0) fun f=>
   bnd (bif ((!((decide ((a:Int) < (l.length:Int)))&&(!(decide (b=c)))))&&(decide ((l.length:Int)≤(a:Int)))) then Ho 1 f else some default) fun g=>
   bif (((decide ((a:Int) < (l.length:Int)))&&(!(decide (b=c))))||((decide ((l.length:Int)≤(a:Int)))&&(!(decide (b=g))))) then
   (some false)
   else
   (d ()))
  (fun(e:Unit)=>
   some true) ((out.1++out.2).take i) 0 ())
theorem bE (out:Ln Int) (l:List Int) (r:Bool) (h:Jb out l=some r):Pure Ek 143 [LT 1 I64 out,E2 l] (·=BL r):=by
 unfold Jb at h
 refine Gy [.tmp 4] Tryz.func143 G G (Jr fun a5=>(JLm (BL false) G (G5 (a5 (Js fun a6=>Jr fun a7=>(JLm (LT 1 I64 out) G (JLl Gz G G G fun c0=>(JLm (E2 l) G (JLl Gz G G G fun b6=>(JLh (BL (decide ((out.1.length:Int)≠(l.length:Int)))) (aH G G G) G (G5 (a7 (JCc G h (fun h hb=>?_) (fun h hb=>?_))))))))))))))
 ·
  refine Jr fun a8=>(JLm (BL false) G (G5 (a8 (Gs (fin1 BL h)))))
 ·
  refine Gn (a6 (Jr fun a9=>(JLm (LT 1 I64 out) G (JLm (E2 l) G (JLl Gz G G G fun b7=>?_)))))
  obtain⟨v6,b0,h⟩:=R2 h
  refine JLh (I64 v6) (Hs b0 G G G) G ?_
  obtain⟨g,b1,h⟩:=Gd h
  refine JLh (E2 ((out.1++out.2).take g)) (mD (f:=I64) (e:=out) G G G Gz (Rq b1)) G (JLm (E2 ((out.1++out.2).take g)) G (G5 (a9 (Js fun b2=>Jr fun b3=>(JLm (I64 0) G (G5 (b3 (Gf ?_))))))))
  obtain⟨b4,q,s,p,h⟩:=Hy h
  refine H8 (fun a (j:Unit)=>each b4 q (List.drop a ((out.1++out.2).take g)) a j=some r) (fun a j=>[(1,E2 l),(5,E2 ((out.1++out.2).take g)),(6,Ej a)]) (fun a j=>[]) (fun a=>((out.1++out.2).take g).length - a) 0 () h ⟨(.sm G G),U,G⟩ ?_
  clear h
  intro a j k c1 b5
  refine Js fun t=>Jr fun u=>(JLm (Ej a) G (JLm (E2 ((out.1++out.2).take g)) G (JLl Gz G G G fun v=>(JLh (BL (decide ((a:Int) < (((out.1++out.2).take g).length:Int)))) (Hr G G G) G (G5 (u (Gg G (fun hb=>?_) (fun hb=>?_))))))))
  ·
   have m:=Je hb
   obtain⟨c,b9,n,w,h⟩:=Hh k m
   replace h:=Rx s h
   refine Gn (t (Js fun x=>Gf (Js fun z=>?_)))
   obtain⟨d,a0,h⟩:=Gd h
   obtain⟨o,a1,h⟩:=Gd h
   obtain⟨i,a2,h⟩:=Gd h
   refine JC_d0 Jd (by kernel_rfl) (Dq (Ej a) (G3 G G) G (Dq (E2 l) (G3 G G) G (Dq (Ej l.length) (Q8 (f:=I64) (xs:=l) Gz G G) G (Dq (BL (decide ((a:Int) < (l.length:Int)))) (Hr G G G) G (Dq (BL (decide ((a:Int) < (l.length:Int)))) (G3 G G) G (Do (E2 ((out.1++out.2).take g)) [] G .sct U (fun hc=>G3 G G) G (Do (Ej a) [] G .sct U (fun hc=>G3 G G) G (Do (.dptr [I64 c]) [28,29] G .sct ⟨Ua,Ua,U⟩ (fun hc=>Gr (f:=I64) (xs:=((out.1++out.2).take g)) (y:=c) G G G Gz n G) G (Do (I64 c) [30] G .sct ⟨Ua,U⟩ (fun hc=>Ge Gb G G G) G (Do (E2 l) [] G .sct U (fun hc=>G3 G G) G (Do (Ej a) [] G .sct U (fun hc=>G3 G G) G (Do (.dptr [I64 d]) [32,33] G .sct ⟨Ua,Ua,U⟩ (fun hc=>(match Jt (Gv hc a0) with | ⟨_,hm_,hy_⟩=>Gr (f:=I64) (xs:=l) (y:=d) G G G Gz hy_ hm_)) G (Do (I64 d) [34] G .sct ⟨Ua,U⟩ (fun hc=>Ge Gb G G G) G ?_)))))))))))))
   refine Do (BL (decide (c=d))) [31,35] G .sct ⟨Ua,Ua,U⟩ (fun hc=>Qc G G G) G (Do (BL (!(decide (c=d)))) [36] G .sct ⟨Ua,U⟩ (fun hc=>Qj (b:=decide (c=d)) G G) G (Dq (BL ((decide ((a:Int) < (l.length:Int)))&&(!(decide (c=d))))) (J9 G G G G) G (Dq (BL ((decide ((a:Int) < (l.length:Int)))&&(!(decide (c=d))))) (G3 G G) G (Do (Ej a) [] G .scf U (fun hc=>G3 G G) G (Do (E2 l) [] G .scf U (fun hc=>G3 G G) G (Do (Ej l.length) [41] G .scf ⟨Ua,U⟩ (fun hc=>Q8 (f:=I64) (xs:=l) Gz G G) G (Do (BL (decide ((l.length:Int)≤(a:Int)))) [40,42] G .scf ⟨Ua,Ua,U⟩ (fun hc=>cH G G G) G (Do (BL (decide ((l.length:Int)≤(a:Int)))) [43] G .scf ⟨Ua,U⟩ (fun hc=>G3 G G) G (Do (E2 ((out.1++out.2).take g)) [] G .optt U (fun hc=>G3 G G) G (Do (Ej a) [] G .optt U (fun hc=>G3 G G) G (Do (.dptr [I64 c]) [45,46] G .optt ⟨Ua,Ua,U⟩ (fun hc=>Gr (f:=I64) (xs:=((out.1++out.2).take g)) (y:=c) G G G Gz n G) G (Do (I64 c) [47] G .optt ⟨Ua,U⟩ (fun hc=>Ge Gb G G G) G (Do (Ej a) [] G .optt U (fun hc=>G3 G G) G ?_)))))))))))))
   refine Do (E2 l) [] G .optt U (fun hc=>G3 G G) G (Do (Ej l.length) [50] G .optt ⟨Ua,U⟩ (fun hc=>Q8 (f:=I64) (xs:=l) Gz G G) G (Do (I64 o) [49,51] G .optt ⟨Ua,Ua,U⟩ (fun hc=>kX (aM (Gv hc a1)) G G G) G (Do (I64 i) [52] G .optt ⟨Ua,U⟩ (fun hc=>Gi (args:=[I64 1,I64 o]) G (J0 1 o i (Gv hc a2)) Y4 ⟨G,G,G,G,U⟩) G (Do (BL (decide (c=i))) [48,53] G .optt ⟨Ua,Ua,U⟩ (fun hc=>Qc G G G) G (Do (BL (!(decide (c=i)))) [54] G .optt ⟨Ua,U⟩ (fun hc=>Qj (b:=decide (c=i)) G G) G (Dg (.opt (!((decide ((a:Int) < (l.length:Int)))&&(!(decide (c=d))))) (BL ((decide ((l.length:Int)≤(a:Int)))&&(!(decide (c=i)))))) (Gc [(44,BL (decide ((l.length:Int)≤(a:Int)))),(55,_)] G G G .scf ⟨.all id,.part,U⟩ (fun hc=>J9 G G G G) G) G (Dq (BL (((decide ((a:Int) < (l.length:Int)))&&(!(decide (c=d))))||((decide ((l.length:Int)≤(a:Int)))&&(!(decide (c=i)))))) (Rm G G G G) G (Dnil ?_))))))))
   refine z (JCc G h (fun h hb=>?_) (fun h hb=>?_))
   ·
    refine Jr fun a3=>(JLm (BL false) G (G5 (a3 (Gs (fin1 BL h)))))
   ·
    refine Gn (x (G1 (JLm (Ej a) G (JLh (I64 ((a+1:Nat):Int)) (Hs (Hb m v) G G G) G (JLm (I64 ((a+1:Nat):Int)) G (G5 (b5 _ _ (a+1) () (app1 w h) (by omega) ⟨(.sm G G),U,rfl⟩)))))))
  ·
   have h:=app1 p (Hi k (H6 hb))
   refine H9 (b2 (Jr fun a4=>(JLm (BL true) G (G5 (a4 (Gs (fin1 BL h)))))))

def Y3 (x:Gx) (y:G6):Option Bool:=
 bnd (Q0 (G6.mk x.Bay x.Row x.Deck x.Tiers x.Height x.Kilos20 x.Kilos40 x.Lash x.Plugs.1 x.X x.Y x.Z) y) fun a=>
 bnd (bif a then Jb x.Plugs y.Plugs else some default) fun b=>
 some (a&&b)
theorem oG (x:Gx) (y:G6) (r:Bool) (h:Y3 x y=some r):Pure Ek 133 [.agg (Gx.cs x),.agg (G6.cs y)] (·=BL r):=by
 unfold Y3 at h
 refine Gy [.tmp 4] Tryz.func133 G G (Jr fun c=>(JLh (.ptr 1142 0) (Jy (cs:=(Gx.cs x)) 1142 G G G G G) G (JLh (.ptr 1143 0) (Jy (cs:=(G6.cs y)) 1143 G G G G G) G (JLm (BL false) G (G5 (c (Gw [(2,.dptr (Gx.cs x)),(3,.ptr 1143 0)] [(1143,.box 71 (G6.cs y))] 1142 rfl rfl rfl ⟨⟨_,rfl,.boxEq rfl rfl⟩,U⟩ rfl (by exact⟨.ptr,.conv (.same rfl),U⟩) ?_)))))))
 refine Gw [(2,.dptr (Gx.cs x)),(3,Ef y)] [] 1143 rfl rfl rfl U rfl (by exact⟨.conv (.same rfl),.ptr,U⟩) (Jr fun d=>(JLh (.agg [I64 x.Bay,I64 x.Row,BL x.Deck,I64 x.Tiers,I64 x.Height,I64 x.Kilos20,I64 x.Kilos40,I64 x.Lash,E2 x.Plugs.1,I64 x.X,I64 x.Y,I64 x.Z]) (H2.cv (Cv.aggL (cs:=(Gx.cs x)) ⟨.same,.same,.same,.same,.same,.same,.same,.same,Cv.lst0 x.Plugs,.same,.same,.same,U⟩) (Gj Zu G G G)) G (JLh (.agg (G6.cs y)) (Gj Zu G G G) G ?_)))
 obtain⟨a,e,h⟩:=Gd h
 refine JLh (BL a) (Gi G (cV (G6.mk x.Bay x.Row x.Deck x.Tiers x.Height x.Kilos20 x.Kilos40 x.Lash x.Plugs.1 x.X x.Y x.Z) y a e) wB ⟨G,G,G,G,U⟩) G (JLm (BL a) G (JLo (.dptr ((Gx.cs x).drop 8)) [] G .sct U (fun hc=>Ga Rz G G G) G (JLo (LT 1 I64 x.Plugs) [9] G .sct ⟨Ua,U⟩ (fun hc=>Ge He G G G) G (JLo (.dptr ((G6.cs y).drop 8)) [] G .sct U (fun hc=>Ga Rz G G G) G (JLo (E2 y.Plugs) [11] G .sct ⟨Ua,U⟩ (fun hc=>Ge He G G G) G ?_)))))
 obtain⟨b,f,h⟩:=Gd h
 refine JLo (BL b) [10,12] G .sct ⟨Ua,Ua,U⟩ (fun hc=>Gi (args:=[LT 1 I64 x.Plugs,E2 y.Plugs]) G (bE x.Plugs y.Plugs b (Gv hc f)) qT ⟨G,G,G,G,U⟩) G (JLh (BL (a&&b)) (J9 G G G G) G (JLm (BL (a&&b)) G (G5 (d (Gs (fin1 BL h))))))

def Rw (out:Ln Gx) (l:List G6):Option Bool:=
 bif decide ((out.1.length:Int)≠(l.length:Int)) then
 (some false)
 else
 (chk ((l.length:Int)+12) fun j=>
  bnd (cO j (out.1++out.2).length) fun k=>
  each (fun a b (e:Unit) d=>
   bnd (bif decide ((b:Int) < (l.length:Int)) then Jo l (b:Int) some else some default) fun f=>
   bnd (bif decide ((b:Int) < (l.length:Int)) then Y3 a f else some default) fun c=>
   bnd (bif ((!((decide ((b:Int) < (l.length:Int)))&&(!c)))&&(decide ((l.length:Int)≤(b:Int)))) then chk ((b:Int) - (l.length:Int)) some else some 0) fun g=>
   bnd (bif ((!((decide ((b:Int) < (l.length:Int)))&&(!c)))&&(decide ((l.length:Int)≤(b:Int)))) then R7 1 g else some default) fun h=>
   bnd (bif ((!((decide ((b:Int) < (l.length:Int)))&&(!c)))&&(decide ((l.length:Int)≤(b:Int)))) then Q0 (G6.mk a.Bay a.Row a.Deck a.Tiers a.Height a.Kilos20 a.Kilos40 a.Lash a.Plugs.1 a.X a.Y a.Z) h else some default) fun i=>
   bif (((decide ((b:Int) < (l.length:Int)))&&(!c))||((decide ((l.length:Int)≤(b:Int)))&&(!i))) then
   (some false)
   else
   (d ()))
  (fun(e:Unit)=>
   some true) ((out.1++out.2).take k) 0 ())
theorem nB (out:Ln Gx) (l:List G6) (r:Bool) (h:Rw out l=some r):Pure Ek 57 [LT 12 Gx.av out,E4 l] (·=BL r):=by
 unfold Rw at h
 refine Gy [.tmp 4] Tryz.func57 G G (Jr fun a9=>(JLm (BL false) G (G5 (a9 (Js fun b0=>Jr fun b1=>(JLm (LT 12 Gx.av out) G (JLl Hd G G G fun c4=>(JLm (E4 l) G (JLl Hd G G G fun c0=>(JLh (BL (decide ((out.1.length:Int)≠(l.length:Int)))) (aH G G G) G (G5 (b1 (JCc G h (fun h hb=>?_) (fun h hb=>?_))))))))))))))
 ·
  refine Jr fun b2=>(JLm (BL false) G (G5 (b2 (Gs (fin1 BL h)))))
 ·
  refine Gn (b0 (Jr fun b3=>(JLm (LT 12 Gx.av out) G (JLm (E4 l) G (JLl Hd G G G fun c1=>?_)))))
  obtain⟨v6,b4,h⟩:=R2 h
  refine JLh (I64 v6) (Hs b4 G G G) G ?_
  obtain⟨g,b5,h⟩:=Gd h
  refine JLh (LS 12 Gx.av ((out.1++out.2).take g)) (mD (f:=Gx.av) (e:=out) G G G Hd (Rq b5)) G (JLm (LS 12 Gx.av ((out.1++out.2).take g)) G (G5 (b3 (Js fun b6=>Jr fun b7=>(JLm (I64 0) G (G5 (b7 (Gf ?_))))))))
  obtain⟨b8,t,u,s,h⟩:=Hy h
  refine H8 (fun c (k:Unit)=>each b8 t (List.drop c ((out.1++out.2).take g)) c k=some r) (fun c k=>[(1,E4 l),(5,LS 12 Gx.av ((out.1++out.2).take g)),(6,Ej c)]) (fun c k=>[]) (fun c=>((out.1++out.2).take g).length - c) 0 () h ⟨(.sm G G),U,G⟩ ?_
  clear h
  intro c k n c5 b9
  refine Js fun v=>Jr fun w=>(JLm (Ej c) G (JLm (LS 12 Gx.av ((out.1++out.2).take g)) G (JLl Hd G G G fun x=>(JLh (BL (decide ((c:Int) < (((out.1++out.2).take g).length:Int)))) (Hr G G G) G (G5 (w (Gg G (fun hb=>?_) (fun hb=>?_))))))))
  ·
   have o:=Je hb
   obtain⟨a,c3,p,z,h⟩:=Hh n o
   replace h:=Rx u h
   refine Gn (v (Js fun a0=>Gf (Js fun a1=>?_)))
   obtain⟨j,a2,h⟩:=Gd h
   obtain⟨d,a3,h⟩:=Gd h
   obtain⟨q,a4,h⟩:=Gd h
   obtain⟨m,a5,h⟩:=Gd h
   obtain⟨i,a6,h⟩:=Gd h
   refine JC_d0 Jd (by kernel_rfl) (Dq (Ej c) (G3 G G) G (Dq (E4 l) (G3 G G) G (Dq (Ej l.length) (Q8 (f:=G6.av) (xs:=l) Hd G G) G (Dq (BL (decide ((c:Int) < (l.length:Int)))) (Hr G G G) G (Dq (BL (decide ((c:Int) < (l.length:Int)))) (G3 G G) G (Do (LS 12 Gx.av ((out.1++out.2).take g)) [] G .sct U (fun hc=>G3 G G) G (Do (Ej c) [] G .sct U (fun hc=>G3 G G) G (Do (.dptr (Gx.cs a)) [28,29] G .sct ⟨Ua,Ua,U⟩ (fun hc=>Gr (f:=Gx.av) (xs:=((out.1++out.2).take g)) (y:=a) G G G Hd p G) G (Do (.agg (Gx.cs a)) [30] G .sct ⟨Ua,U⟩ (fun hc=>Gj Zu G G G) G (Do (E4 l) [] G .sct U (fun hc=>G3 G G) G (Do (Ej c) [] G .sct U (fun hc=>G3 G G) G (Do (Ef j) [32,33] G .sct ⟨Ua,Ua,U⟩ (fun hc=>(match Jt (Gv hc a2) with | ⟨_,hm_,hy_⟩=>Gr (f:=G6.av) (xs:=l) (y:=j) G G G Hd hy_ hm_)) G (Do (.agg (G6.cs j)) [34] G .sct ⟨Ua,U⟩ (fun hc=>Gj Zu G G G) G ?_)))))))))))))
   refine Do (BL d) [31,35] G .sct ⟨Ua,Ua,U⟩ (fun hc=>Gi (args:=[.agg (Gx.cs a),.agg (G6.cs j)]) G (oG a j d (Gv hc a3)) Gea ⟨G,G,G,G,U⟩) G (Do (BL (!d)) [36] G .sct ⟨Ua,U⟩ (fun hc=>Qj (b:=d) G G) G (Dq (BL ((decide ((c:Int) < (l.length:Int)))&&(!d))) (J9 G G G G) G (Dq (BL ((decide ((c:Int) < (l.length:Int)))&&(!d))) (G3 G G) G (Do (Ej c) [] G .scf U (fun hc=>G3 G G) G (Do (E4 l) [] G .scf U (fun hc=>G3 G G) G (Do (Ej l.length) [41] G .scf ⟨Ua,U⟩ (fun hc=>Q8 (f:=G6.av) (xs:=l) Hd G G) G (Do (BL (decide ((l.length:Int)≤(c:Int)))) [40,42] G .scf ⟨Ua,Ua,U⟩ (fun hc=>cH G G G) G (Do (BL (decide ((l.length:Int)≤(c:Int)))) [43] G .scf ⟨Ua,U⟩ (fun hc=>G3 G G) G (Do (LS 12 Gx.av ((out.1++out.2).take g)) [] G .optt U (fun hc=>G3 G G) G (Do (Ej c) [] G .optt U (fun hc=>G3 G G) G (Do (.dptr (Gx.cs a)) [45,46] G .optt ⟨Ua,Ua,U⟩ (fun hc=>Gr (f:=Gx.av) (xs:=((out.1++out.2).take g)) (y:=a) G G G Hd p G) G (Do (.agg [I64 a.Bay,I64 a.Row,BL a.Deck,I64 a.Tiers,I64 a.Height,I64 a.Kilos20,I64 a.Kilos40,I64 a.Lash,E2 a.Plugs.1,I64 a.X,I64 a.Y,I64 a.Z]) [47] G .optt ⟨Ua,U⟩ (fun hc=>H2.cv (Cv.aggL (cs:=(Gx.cs a)) ⟨.same,.same,.same,.same,.same,.same,.same,.same,Cv.lst0 a.Plugs,.same,.same,.same,U⟩) (Gj Zu G G G)) G (Do (Ej c) [] G .optt U (fun hc=>G3 G G) G ?_)))))))))))))
   refine Do (E4 l) [] G .optt U (fun hc=>G3 G G) G (Do (Ej l.length) [50] G .optt ⟨Ua,U⟩ (fun hc=>Q8 (f:=G6.av) (xs:=l) Hd G G) G (Do (I64 q) [49,51] G .optt ⟨Ua,Ua,U⟩ (fun hc=>kX (aM (Gv hc a4)) G G G) G (Do (.agg (G6.cs m)) [52] G .optt ⟨Ua,U⟩ (fun hc=>Gi (args:=[I64 1,I64 q]) G (gK 1 q m (Gv hc a5)) ZN ⟨G,G,G,G,U⟩) G (Do (BL i) [48,53] G .optt ⟨Ua,Ua,U⟩ (fun hc=>Gi (args:=[.agg [I64 a.Bay,I64 a.Row,BL a.Deck,I64 a.Tiers,I64 a.Height,I64 a.Kilos20,I64 a.Kilos40,I64 a.Lash,E2 a.Plugs.1,I64 a.X,I64 a.Y,I64 a.Z],.agg (G6.cs m)]) G (cV (G6.mk a.Bay a.Row a.Deck a.Tiers a.Height a.Kilos20 a.Kilos40 a.Lash a.Plugs.1 a.X a.Y a.Z) m i (Gv hc a6)) wB ⟨G,G,G,G,U⟩) G (Do (BL (!i)) [54] G .optt ⟨Ua,U⟩ (fun hc=>Qj (b:=i) G G) G (Dg (.opt (!((decide ((c:Int) < (l.length:Int)))&&(!d))) (BL ((decide ((l.length:Int)≤(c:Int)))&&(!i)))) (Gc [(44,BL (decide ((l.length:Int)≤(c:Int)))),(55,_)] G G G .scf ⟨.all id,.part,U⟩ (fun hc=>J9 G G G G) G) G (Dq (BL (((decide ((c:Int) < (l.length:Int)))&&(!d))||((decide ((l.length:Int)≤(c:Int)))&&(!i)))) (Rm G G G G) G (Dnil ?_))))))))
   refine a1 (JCc G h (fun h hb=>?_) (fun h hb=>?_))
   ·
    refine Jr fun a7=>(JLm (BL false) G (G5 (a7 (Gs (fin1 BL h)))))
   ·
    refine Gn (a0 (G1 (JLm (Ej c) G (JLh (I64 ((c+1:Nat):Int)) (Hs (Hb o x) G G G) G (JLm (I64 ((c+1:Nat):Int)) G (G5 (b9 _ _ (c+1) () (app1 z h) (by omega) ⟨(.sm G G),U,rfl⟩)))))))
  ·
   have h:=app1 s (Hi n (H6 hb))
   refine H9 (b6 (Jr fun a8=>(JLm (BL true) G (G5 (a8 (Gs (fin1 BL h)))))))

def Yc (x:Ha) (y:H3):Option Bool:=
 bnd (Q5 (H3.mk x.Bay x.Rows.1) y) fun a=>
 bnd (bif a then Jb x.Rows y.Rows else some default) fun b=>
 some (a&&b)
theorem pV (x:Ha) (y:H3) (r:Bool) (h:Yc x y=some r):Pure Ek 135 [.agg [I64 x.Bay,LT 1 I64 x.Rows],.agg [I64 y.Bay,E2 y.Rows]] (·=BL r):=by
 unfold Yc at h
 refine Gy [.tmp 4] Tryz.func135 G G (Jr fun c=>(JLh (.ptr 1146 0) (Jy (cs:=[I64 x.Bay,LT 1 I64 x.Rows]) 1146 G G G G G) G (JLh (.ptr 1147 0) (Jy (cs:=[I64 y.Bay,E2 y.Rows]) 1147 G G G G G) G (JLm (BL false) G (G5 (c (Gw [(2,.dptr [I64 x.Bay,LT 1 I64 x.Rows]),(3,.ptr 1147 0)] [(1147,.box 73 [I64 y.Bay,E2 y.Rows])] 1146 rfl rfl rfl ⟨⟨_,rfl,.boxEq rfl rfl⟩,U⟩ rfl (by exact⟨.ptr,.conv (.same rfl),U⟩) (Gw [(2,.dptr [I64 x.Bay,LT 1 I64 x.Rows]),(3,.dptr [I64 y.Bay,E2 y.Rows])] [] 1147 rfl rfl rfl U rfl (by exact⟨.conv (.same rfl),.ptr,U⟩) ?_))))))))
 refine Jr fun d=>(JLh (.agg [I64 x.Bay,E2 x.Rows.1]) (H2.cv (Cv.aggL (cs:=[I64 x.Bay,LT 1 I64 x.Rows]) ⟨.same,Cv.lst0 x.Rows,U⟩) (Gj Zd G G G)) G (JLh (.agg [I64 y.Bay,E2 y.Rows]) (Gj Zd G G G) G ?_))
 obtain⟨a,e,h⟩:=Gd h
 refine JLh (BL a) (Gi G (dL (H3.mk x.Bay x.Rows.1) y a e) wA ⟨G,G,G,G,U⟩) G (JLm (BL a) G (JLo (.dptr [LT 1 I64 x.Rows]) [] G .sct U (fun hc=>Ga Qg G G G) G (JLo (LT 1 I64 x.Rows) [9] G .sct ⟨Ua,U⟩ (fun hc=>Ge He G G G) G (JLo (.dptr [E2 y.Rows]) [] G .sct U (fun hc=>Ga Qg G G G) G (JLo (E2 y.Rows) [11] G .sct ⟨Ua,U⟩ (fun hc=>Ge He G G G) G ?_)))))
 obtain⟨b,f,h⟩:=Gd h
 refine JLo (BL b) [10,12] G .sct ⟨Ua,Ua,U⟩ (fun hc=>Gi (args:=[LT 1 I64 x.Rows,E2 y.Rows]) G (bE x.Rows y.Rows b (Gv hc f)) qT ⟨G,G,G,G,U⟩) G (JLh (BL (a&&b)) (J9 G G G G) G (JLm (BL (a&&b)) G (G5 (d (Gs (fin1 BL h))))))
end
end Go.Proofs.YthkihfoleenlmaaGreat
