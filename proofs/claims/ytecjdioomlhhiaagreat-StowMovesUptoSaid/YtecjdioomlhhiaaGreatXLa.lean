/-
 Models of functions of the program,and that they return what the models say.
-/
import Derived.Test.YtecjdioomlhhiaaGreatSpecA
set_option maxRecDepth 100000
set_option maxHeartbeats 1000000
set_option linter.unusedVariables false
set_option linter.unusedSimpArgs false
namespace Go.Proofs.YtecjdioomlhhiaaGreat
open Go.RowKit
noncomputable section
structure Gv where
 Bay:Int
 Row:Int
 Deck:Bool
 Tiers:Int
 Height:Int
 Kilos20:Int
 Kilos40:Int
 Lash:Int
 Plugs:Ln Int
 X:Int
 Y:Int
 Z:Int
 deriving Inhabited
def Gv.cs (x:Gv):List AV:=[I64 x.Bay,I64 x.Row,BL x.Deck,I64 x.Tiers,I64 x.Height,I64 x.Kilos20,I64 x.Kilos40,I64 x.Lash,LT 1 I64 x.Plugs,I64 x.X,I64 x.Y,I64 x.Z]
def Gv.av (x:Gv):AV:=.agg x.cs
def Gv.pl (x:Gv):G3:=⟨x.Bay,x.Row,x.Deck,x.Tiers,x.Height,x.Kilos20,x.Kilos40,x.Lash,Prod.fst x.Plugs,x.X,x.Y,x.Z⟩
def Gv.of (x:G3):Gv:=⟨x.Bay,x.Row,x.Deck,x.Tiers,x.Height,x.Kilos20,x.Kilos40,x.Lash,(fun e=>(e,[])) x.Plugs,x.X,x.Y,x.Z⟩
theorem Gv.cvl (x:Gv):CvL (Gv.cs x) (G3.cs x.pl):=⟨.same,.same,.same,.same,.same,.same,.same,.same,Cv.lst0 x.Plugs,.same,.same,.same,trivial⟩
structure H3 where
 Bay:Int
 Rows:Ln Int
 deriving Inhabited
def H3.cs (x:H3):List AV:=[I64 x.Bay,LT 1 I64 x.Rows]
def H3.av (x:H3):AV:=.agg x.cs
def H3.pl (x:H3):G9:=⟨x.Bay,Prod.fst x.Rows⟩
def H3.of (x:G9):H3:=⟨x.Bay,(fun e=>(e,[])) x.Rows⟩
theorem H3.cvl (x:H3):CvL (H3.cs x) (G9.cs x.pl):=⟨.same,Cv.lst0 x.Rows,trivial⟩
structure H9 where
 Kilos:Int
 X:Int
 Y:Int
 Z:Int
 Surface:Int
 Steps:Ln Int
 deriving Inhabited
def H9.cs (x:H9):List AV:=[I64 x.Kilos,I64 x.X,I64 x.Y,I64 x.Z,I64 x.Surface,LT 1 I64 x.Steps]
def H9.av (x:H9):AV:=.agg x.cs
def H9.pl (x:H9):Gg:=⟨x.Kilos,x.X,x.Y,x.Z,x.Surface,Prod.fst x.Steps⟩
def H9.of (x:Gg):H9:=⟨x.Kilos,x.X,x.Y,x.Z,x.Surface,(fun e=>(e,[])) x.Steps⟩
theorem H9.cvl (x:H9):CvL (H9.cs x) (Gg.cs x.pl):=⟨.same,.same,.same,.same,.same,Cv.lst0 x.Steps,trivial⟩
structure Rv where
 Columns:Ln Gv
 Covers:Ln H3
 Light:Light
 Rows:Ln Row
 Frames:Ln Frame
 Tanks:Ln H9
 G1:G1
 deriving Inhabited
def Rv.cs (x:Rv):List AV:=[LT 12 Gv.av x.Columns,LT 2 H3.av x.Covers,I64 x.Light.Kilos,I64 x.Light.X,I64 x.Light.Y,I64 x.Light.Z,LT 5 Row.av x.Rows,LT 5 Frame.av x.Frames,LT 6 H9.av x.Tanks,I64 x.G1.Tolerance,I64 x.G1.Trim,I64 x.G1.List_,I64 x.G1.Stability]
def Rv.av (x:Rv):AV:=.agg x.cs
def Rv.pl (x:Rv):H0:=⟨(fun e=>e.1.map Gv.pl) x.Columns,(fun e=>e.1.map H3.pl) x.Covers,x.Light,Prod.fst x.Rows,Prod.fst x.Frames,(fun e=>e.1.map H9.pl) x.Tanks,x.G1⟩
def Rv.of (x:H0):Rv:=⟨(fun e=>(e.map Gv.of,[])) x.Columns,(fun e=>(e.map H3.of,[])) x.Covers,x.Light,(fun e=>(e,[])) x.Rows,(fun e=>(e,[])) x.Frames,(fun e=>(e.map H9.of,[])) x.Tanks,x.G1⟩
theorem Rv.cvl (x:Rv):CvL (Rv.cs x) (H0.cs x.pl):=⟨Cv.lstM (f:=Gv.av) (g:=G3.av) Gv.pl Gv.cvl x.Columns,Cv.lstM (f:=H3.av) (g:=G9.av) H3.pl H3.cvl x.Covers,.same,.same,.same,.same,Cv.lst0 x.Rows,Cv.lst0 x.Frames,Cv.lstM (f:=H9.av) (g:=Gg.av) H9.pl H9.cvl x.Tanks,.same,.same,.same,.same,trivial⟩
structure Box where
 ID:Int
 Number:ByteArray
 Size:Int
 High:Bool
 Kilos:Int
 Load:Int
 Discharge:Int
 Class:Int
 Reefer:Bool
 deriving DecidableEq,Inhabited
def Box.cs (x:Box):List AV:=[I64 x.ID,ST x.Number,U8 x.Size,BL x.High,I64 x.Kilos,I64 x.Load,I64 x.Discharge,U8 x.Class,BL x.Reefer]
def Box.av (x:Box):AV:=.agg x.cs
abbrev Ee (x:Box):AV:=.dptr (Box.cs x)
abbrev E3:=LS 9 Box.av
structure Slot where
 G3:Int
 Tier:Int
 Half:Int
 deriving DecidableEq,Inhabited
def Slot.cs (x:Slot):List AV:=[I64 x.G3,I64 x.Tier,U8 x.Half]
def Slot.av (x:Slot):AV:=.agg x.cs
abbrev E9:=LS 3 Slot.av
structure Stowed where
 Box:Int
 Slot:Slot
 deriving DecidableEq,Inhabited
def Stowed.cs (x:Stowed):List AV:=[I64 x.Box,I64 x.Slot.G3,I64 x.Slot.Tier,U8 x.Slot.Half]
def Stowed.av (x:Stowed):AV:=.agg x.cs
abbrev Ec (x:Stowed):AV:=.dptr (Stowed.cs x)
abbrev E2:=LS 4 Stowed.av
namespace XLF
open XAF
theorem R01 (a b:Row):H89 Ei 4 123 [.int .i64 a.Draught,.int .i64 a.Kilos,.int .i64 a.Buoy,.int .i64 a.Metacentre,.int .i64 a.He7] [.int .i64 b.Draught,.int .i64 b.Kilos,.int .i64 b.Buoy,.int .i64 b.Metacentre,.int .i64 b.He7]=some (decide (a=b)):=by
 refine(show _=some ((a.Draught==b.Draught)&&((a.Kilos==b.Kilos)&&((a.Buoy==b.Buoy)&&((a.Metacentre==b.Metacentre)&&((a.He7==b.He7)&&true))))) by kernel_rfl).trans (congrArg some ?_)
 rw [Bool.eq_iff_iff]
 simp only [Bool.and_eq_true,beq_iff_eq,decide_eq_true_eq,Bool.and_true]
 constructor
 ·intro h; obtain⟨_,_,_,_,_⟩:=a; obtain⟨_,_,_,_,_⟩:=b; simp_all
 ·intro h; subst h; simp
theorem R00 (a b:Frame):H89 Ei 4 126 [.int .i64 a.X,.int .i64 a.Light,.int .i64 a.Share,.int .i64 a.Shear,.int .i64 a.Bend] [.int .i64 b.X,.int .i64 b.Light,.int .i64 b.Share,.int .i64 b.Shear,.int .i64 b.Bend]=some (decide (a=b)):=by
 refine(show _=some ((a.X==b.X)&&((a.Light==b.Light)&&((a.Share==b.Share)&&((a.Shear==b.Shear)&&((a.Bend==b.Bend)&&true))))) by kernel_rfl).trans (congrArg some ?_)
 rw [Bool.eq_iff_iff]
 simp only [Bool.and_eq_true,beq_iff_eq,decide_eq_true_eq,Bool.and_true]
 constructor
 ·intro h; obtain⟨_,_,_,_,_⟩:=a; obtain⟨_,_,_,_,_⟩:=b; simp_all
 ·intro h; subst h; simp
theorem Y59 (a b:Light):H89 Ei 4 25 [.int .i64 a.Kilos,.int .i64 a.X,.int .i64 a.Y,.int .i64 a.Z] [.int .i64 b.Kilos,.int .i64 b.X,.int .i64 b.Y,.int .i64 b.Z]=some (decide (a=b)):=by
 refine(show _=some ((a.Kilos==b.Kilos)&&((a.X==b.X)&&((a.Y==b.Y)&&((a.Z==b.Z)&&true)))) by kernel_rfl).trans (congrArg some ?_)
 rw [Bool.eq_iff_iff]
 simp only [Bool.and_eq_true,beq_iff_eq,decide_eq_true_eq,Bool.and_true]
 constructor
 ·intro h; obtain⟨_,_,_,_⟩:=a; obtain⟨_,_,_,_⟩:=b; simp_all
 ·intro h; subst h; simp
theorem Y58 (a b:G1):H89 Ei 4 30 [.int .i64 a.Tolerance,.int .i64 a.Trim,.int .i64 a.List_,.int .i64 a.Stability] [.int .i64 b.Tolerance,.int .i64 b.Trim,.int .i64 b.List_,.int .i64 b.Stability]=some (decide (a=b)):=by
 refine(show _=some ((a.Tolerance==b.Tolerance)&&((a.Trim==b.Trim)&&((a.List_==b.List_)&&((a.Stability==b.Stability)&&true)))) by kernel_rfl).trans (congrArg some ?_)
 rw [Bool.eq_iff_iff]
 simp only [Bool.and_eq_true,beq_iff_eq,decide_eq_true_eq,Bool.and_true]
 constructor
 ·intro h; obtain⟨_,_,_,_⟩:=a; obtain⟨_,_,_,_⟩:=b; simp_all
 ·intro h; subst h; simp
theorem Rc0 (a b:Stowed):H89 Ei 4 39 [.int .i64 a.Box,.int .i64 a.Slot.G3,.int .i64 a.Slot.Tier,.int .u8 a.Slot.Half] [.int .i64 b.Box,.int .i64 b.Slot.G3,.int .i64 b.Slot.Tier,.int .u8 b.Slot.Half]=some (decide (a=b)):=by
 refine(show _=some ((a.Box==b.Box)&&(((a.Slot.G3==b.Slot.G3)&&((a.Slot.Tier==b.Slot.Tier)&&((a.Slot.Half==b.Slot.Half)&&true)))&&true)) by kernel_rfl).trans (congrArg some ?_)
 rw [Bool.eq_iff_iff]
 simp only [Bool.and_eq_true,beq_iff_eq,decide_eq_true_eq,Bool.and_true]
 constructor
 ·intro h; obtain⟨_,⟨_,_,_⟩⟩:=a; obtain⟨_,⟨_,_,_⟩⟩:=b; simp_all
 ·intro h; subst h; simp
theorem Y1c (a b:Box):H89 Ei 4 72 [.int .i64 a.ID,.string a.Number,.int .u8 a.Size,.bool a.High,.int .i64 a.Kilos,.int .i64 a.Load,.int .i64 a.Discharge,.int .u8 a.Class,.bool a.Reefer] [.int .i64 b.ID,.string b.Number,.int .u8 b.Size,.bool b.High,.int .i64 b.Kilos,.int .i64 b.Load,.int .i64 b.Discharge,.int .u8 b.Class,.bool b.Reefer]=some (decide (a=b)):=by
 refine(show _=some ((a.ID==b.ID)&&((a.Number==b.Number)&&((a.Size==b.Size)&&((a.High==b.High)&&((a.Kilos==b.Kilos)&&((a.Load==b.Load)&&((a.Discharge==b.Discharge)&&((a.Class==b.Class)&&((a.Reefer==b.Reefer)&&true))))))))) by kernel_rfl).trans (congrArg some ?_)
 rw [Bool.eq_iff_iff]
 simp only [Bool.and_eq_true,R47,beq_iff_eq,decide_eq_true_eq,Bool.and_true]
 constructor
 ·intro h; obtain⟨_,_,_,_,_,_,_,_,_⟩:=a; obtain⟨_,_,_,_,_,_,_,_,_⟩:=b; simp_all
 ·intro h; subst h; simp
theorem Gee:Ge6 Ei 123 5=true:=by kernel_rfl
theorem Ged:Ge6 Ei 126 5=true:=by kernel_rfl
theorem G2b:Ge6 Ei 129 6=true:=by kernel_rfl
theorem Q43:Ge6 Ei 25 4=true:=by kernel_rfl
theorem Q42:Ge6 Ei 30 4=true:=by kernel_rfl
theorem Hc:Ge6 Ei 32 13=true:=by kernel_rfl
theorem R6:Ge6 Ei 39 4=true:=by kernel_rfl
theorem G4b:Ge6 Ei 72 9=true:=by kernel_rfl
theorem Ha9:G2e Ei 123=true:=by kernel_rfl
theorem Ha8:G2e Ei 126=true:=by kernel_rfl
theorem Qc0:G2e Ei 25=true:=by kernel_rfl
theorem Qbf:G2e Ei 30=true:=by kernel_rfl
theorem Hd7:G2e Ei 39=true:=by kernel_rfl
theorem J84:G2e Ei 72=true:=by kernel_rfl
theorem Hf6:J97 Ei 4=true:=by kernel_rfl
theorem Qb5:H7 Ei 117=true:=by kernel_rfl
theorem Qb4:H7 Ei 118=true:=by kernel_rfl
theorem Qb3:H7 Ei 119=true:=by kernel_rfl
theorem Qb2:H7 Ei 120=true:=by kernel_rfl
theorem Qb1:H7 Ei 121=true:=by kernel_rfl
theorem Qb0:H7 Ei 122=true:=by kernel_rfl
theorem Hd6:H7 Ei 123=true:=by kernel_rfl
theorem Qaf:H7 Ei 124=true:=by kernel_rfl
theorem Hd5:H7 Ei 125=true:=by kernel_rfl
theorem Qae:H7 Ei 126=true:=by kernel_rfl
theorem Hd4:H7 Ei 127=true:=by kernel_rfl
theorem Ha7:H7 Ei 23=true:=by kernel_rfl
theorem G82:H7 Ei 27=true:=by kernel_rfl
theorem R21:H7 Ei 32=true:=by kernel_rfl
theorem R20:H7 Ei 33=true:=by kernel_rfl
theorem R1f:H7 Ei 34=true:=by kernel_rfl
theorem R1e:H7 Ei 35=true:=by kernel_rfl
theorem R1d:H7 Ei 36=true:=by kernel_rfl
theorem Jdc:H7 Ei 37=true:=by kernel_rfl
theorem Ha6:H7 Ei 38=true:=by kernel_rfl
theorem G3f:H7 Ei 39=true:=by kernel_rfl
theorem R19:H7 Ei 71=true:=by kernel_rfl
theorem R18:H7 Ei 72=true:=by kernel_rfl
theorem R17:H7 Ei 73=true:=by kernel_rfl
theorem R16:H7 Ei 74=true:=by kernel_rfl
theorem R15:H7 Ei 75=true:=by kernel_rfl
theorem R14:H7 Ei 76=true:=by kernel_rfl
theorem R11:H7 Ei 84=true:=by kernel_rfl
theorem Jc9:H7 Ei 85=true:=by kernel_rfl
theorem R10:H7 Ei 86=true:=by kernel_rfl
theorem Jc8:H7 Ei 87=true:=by kernel_rfl
theorem Jc7:H7 Ei 88=true:=by kernel_rfl
theorem Jc6:H7 Ei 89=true:=by kernel_rfl
theorem Hf5:H7 Ei 9=true:=by kernel_rfl
theorem R0f:H7 Ei 90=true:=by kernel_rfl
theorem Jc5:H7 Ei 91=true:=by kernel_rfl
theorem Hd2:Zi Ei 123 5 40=true:=by kernel_rfl
theorem Hd1:Zi Ei 126 5 40=true:=by kernel_rfl
theorem Hd0:Zi Ei 129 6 64=true:=by kernel_rfl
theorem Zm:Zi Ei 3 1 8=true:=by kernel_rfl
theorem G2a:Zi Ei 39 4 32=true:=by kernel_rfl
theorem J1b:Zi Ei 67 12 112=true:=by kernel_rfl
theorem J1a:Zi Ei 69 2 32=true:=by kernel_rfl
theorem J19:Zi Ei 72 9 64=true:=by kernel_rfl
theorem J18:Ei.eqGuardType Ei.depth 123=false:=by kernel_rfl
theorem J17:Ei.eqGuardType Ei.depth 126=false:=by kernel_rfl
theorem R84:Ei.eqGuardType Ei.depth 25=false:=by kernel_rfl
theorem R83:Ei.eqGuardType Ei.depth 30=false:=by kernel_rfl
theorem J5e:Ei.eqGuardType Ei.depth 39=false:=by kernel_rfl
theorem Q3f:Ei.eqGuardType Ei.depth 72=false:=by kernel_rfl
theorem Hcf:Qc Ei 129 0 0=true:=by kernel_rfl
theorem Hce:Qc Ei 129 1 1=true:=by kernel_rfl
theorem Hcd:Qc Ei 129 2 2=true:=by kernel_rfl
theorem Hcc:Qc Ei 129 3 3=true:=by kernel_rfl
theorem Hcb:Qc Ei 129 4 4=true:=by kernel_rfl
theorem G5c:Qc Ei 129 5 5=true:=by kernel_rfl
theorem J0a:Qc Ei 32 2 2=true:=by kernel_rfl
theorem G71:Qc Ei 32 3 6=true:=by kernel_rfl
theorem G70:Qc Ei 32 4 7=true:=by kernel_rfl
theorem G6f:Qc Ei 32 5 8=true:=by kernel_rfl
theorem J09:Qc Ei 32 6 9=true:=by kernel_rfl
theorem Q29:placesOf Ei 123=some [(0,1),(1,1),(2,1),(3,1),(4,1)]:=by kernel_rfl
theorem Q28:placesOf Ei 126=some [(0,1),(1,1),(2,1),(3,1),(4,1)]:=by kernel_rfl
theorem Q27:placesOf Ei 129=some [(0,1),(1,1),(2,1),(3,1),(4,1),(5,1)]:=by kernel_rfl
theorem J3a:placesOf Ei 39=some [(0,1),(1,3)]:=by kernel_rfl
theorem G92:placesOf Ei 67=some [(0,1),(1,1),(2,1),(3,1),(4,1),(5,1),(6,1),(7,1),(8,1),(9,1),(10,1),(11,1)]:=by kernel_rfl
theorem J39:placesOf Ei 69=some [(0,1),(1,1)]:=by kernel_rfl
theorem G16:placesOf Ei 72=some [(0,1),(1,1),(2,1),(3,1),(4,1),(5,1),(6,1),(7,1),(8,1)]:=by kernel_rfl
theorem Gd4:Ym Ei 26=true:=by kernel_rfl
theorem Gd3:Ym Ei 27=true:=by kernel_rfl
theorem Gd2:Ym Ei 28=true:=by kernel_rfl
theorem Q9c:Zh Ei 123 5=true:=by kernel_rfl
theorem Q9b:Zh Ei 126 5=true:=by kernel_rfl
theorem Hc9:Zh Ei 129 6=true:=by kernel_rfl
theorem R09:Zh Ei 22 1=true:=by kernel_rfl
theorem R08:Zh Ei 23 1=true:=by kernel_rfl
theorem R07:Zh Ei 26 1=true:=by kernel_rfl
theorem R06:Zh Ei 27 1=true:=by kernel_rfl
theorem R05:Zh Ei 28 1=true:=by kernel_rfl
theorem Ha0:Zh Ei 32 13=true:=by kernel_rfl
theorem J15:Zh Ei 35 1=true:=by kernel_rfl
theorem G7f:Zh Ei 39 4=true:=by kernel_rfl
theorem G29:Zh Ei 72 9=true:=by kernel_rfl
theorem Q9:sliceB Ei 26 123 5=true:=by kernel_rfl
theorem Q8:sliceB Ei 27 126 5=true:=by kernel_rfl
theorem Jt:sliceB Ei 28 129 6=true:=by kernel_rfl
theorem Jq:sliceB Ei 33 72 9=true:=by kernel_rfl
theorem Gt:sliceB Ei 34 39 4=true:=by kernel_rfl
theorem J78:(Ei.info? 123).bind (fun i=>i.zero.map Value.cells)=some (List.toArray [E0,E0,E0,E0,E0]):=by kernel_rfl
theorem J77:(Ei.info? 126).bind (fun i=>i.zero.map Value.cells)=some (List.toArray [E0,E0,E0,E0,E0]):=by kernel_rfl
theorem Hc8:(Ei.info? 129).bind (fun i=>i.zero.map Value.cells)=some (List.toArray [E0,E0,E0,E0,E0,.slice none 0 0]):=by kernel_rfl
theorem J14:(Ei.info? 32).bind (fun i=>i.zero.map Value.cells)=some (List.toArray [.slice none 0 0,.slice none 0 0,E0,E0,E0,E0,.slice none 0 0,.slice none 0 0,.slice none 0 0,E0,E0,E0,E0]):=by kernel_rfl
theorem H9f:(Ei.info? 39).bind (fun i=>i.zero.map Value.cells)=some (List.toArray [E0,E0,E0,.int .u8 0]):=by kernel_rfl
theorem G7e:(Ei.info? 67).bind (fun i=>i.zero.map Value.cells)=some (List.toArray [E0,E0,.bool false,E0,E0,E0,E0,E0,.slice none 0 0,E0,E0,E0]):=by kernel_rfl
theorem H9e:(Ei.info? 69).bind (fun i=>i.zero.map Value.cells)=some (List.toArray [E0,.slice none 0 0]):=by kernel_rfl
theorem G13:(Ei.info? 72).bind (fun i=>i.zero.map Value.cells)=some (List.toArray [E0,.string ByteArray.empty,.int .u8 0,.bool false,E0,E0,E0,.int .u8 0,.bool false]):=by kernel_rfl
theorem Q6f:G01 Ei 123 5=true:=by kernel_rfl
theorem Q6e:G01 Ei 126 5=true:=by kernel_rfl
theorem H9d:G01 Ei 129 6=true:=by kernel_rfl
theorem Rw:G01 Ei 3 1=true:=by kernel_rfl
theorem G0f:G01 Ei 39 4=true:=by kernel_rfl
theorem G4e:G01 Ei 72 9=true:=by kernel_rfl
end XLF
open XAF
open XLF

def Ja (k:Int) (i:Int):Option Int:=
 chk (k+7) fun v3=>
 chk (1000003*v3) fun v4=>
 chk (v4+i) fun v5=>
 some v5
theorem Q1 (k:Int) (i:Int) (r:Int) (h:Ja k i=some r):Pure Ei 39 [I64 k,I64 i] (·=I64 r):=by
 unfold Ja at h
 refine Gz [.tmp 4] Tryz.func39 O O (Jr fun hK1=>(JLm (I64 0) O (G7 (hK1 (Jr fun hK2=>(JLm (I64 k) O ?_))))))
 obtain⟨v3,hv3,h⟩:=Q2 h
 refine JLh (I64 v3) (Hs hv3 O O O) O ?_
 obtain⟨v4,hv4,h⟩:=Q2 h
 refine JLh (I64 v4) (Y7d hv4 O O O) O (JLm (I64 i) O ?_)
 obtain⟨v5,hv5,h⟩:=Q2 h
 refine JLh (I64 v5) (Hs hv5 O O O) O (JLm (I64 v5) O (G7 (hK2 (Gn (fin1 I64 h)))))

def Q0 (l:List Int):Option (Ln Int):=
 chk ((l.length:Int)+12) fun v3=>
 bnd (H60 v3) fun m4=>
 need (decide (8*m4≤281474976710656∧m4≤maxLen)) <|
 need (decide ((([]:List Int).length+l.length)*8≤140737488355328∧([]:List Int).length+l.length≤maxLen)) <|
 need (decide (12≤9223372036854775807)) <|
 upto (fun i19 (s19:(List Int)) nx19=>
  bnd (Ja 1 (i19:Int)) fun r23=>
  need (decide ((s19.length+[r23].length)*8≤140737488355328∧s19.length+[r23].length≤maxLen)) <|
  nx19 (s19++[r23]))
 (fun(s19:(List Int))=>
  bnd (G5e (l.length:Int) s19.length) fun m26=>
  some (s19.take m26,s19.drop m26)) (12:Int).toNat 0 (([]:List Int)++l)
theorem G4a (l:List Int) (r:(Ln Int)) (h:Q0 l=some r):Pure Ei 9 [E1 l] (·=LT 1 I64 r):=by
 unfold Q0 at h
 refine Gz [.tmp 2] Tryz.func9 O O (Jr fun hK1=>(JLh (E1 ([]:List Int)) (Hb 1 O O) O (G7 (hK1 (Jr fun hK2=>(JLm (E1 l) O (JLl Gs O O O fun hm6=>?_)))))))
 obtain⟨v3,hv3,h⟩:=Q2 h
 refine JLh (I64 v3) (Hs hv3 O O O) O ?_
 obtain⟨m4,hm4,h⟩:=Gc h
 obtain⟨ha5,h⟩:=Hr h
 refine JLh (OW 1012 1 I64 ([]:List Int)) (Gcd 1012 O O O O Gs Zm O (G72 hm4) ha5) O (JLm (OW 1012 1 I64 ([]:List Int)) O (G7 (hK2 (Jr fun hK6=>(JLm (OW 1012 1 I64 ([]:List Int)) O (JLm (E1 l) O ?_))))))
 obtain⟨ha7,h⟩:=Hr h
 refine JLh (OW 1012 1 I64 (([]:List Int)++l)) (Gf4 (f:=I64) (xs:=([]:List Int)) (ys:=l) O O O O Gs Zm ha7 (fun _=>O) (.inl O)) O (JLm (OW 1012 1 I64 (([]:List Int)++l)) O (G7 (hK6 (Js fun hK8=>Jr fun hK9=>(JLm (I64 0) O (G7 (hK9 (Gq ?_))))))))
 obtain⟨hx19,h⟩:=Hr h
 obtain⟨b19,kx19,hb19,hkx19,h⟩:=G4d h
 refine Hd (fun i19 (s19:(List Int))=>upto b19 kx19 ((12:Int).toNat - i19) i19 s19=some r) (fun i19 s19=>[(0,E1 l),(3,OW 1012 1 I64 s19),(4,Eh i19)]) (fun i19 s19=>[(1012,.spare 3 1 s19.length s19.length)]) (fun i19=>(12:Int).toNat - i19) 0 (([]:List Int)++l) h ⟨(.sm O O),⟨⟨_,O,.same⟩,G⟩,O⟩ ?_
 clear h
 intro i19 s19 hi19 K19 e19
 refine Js fun hK20=>Jr fun hK21=>(JLm (Eh i19) O (JLh (BL (decide ((i19:Int) < 12))) (Hz O O O) O (G7 (hK21 (Gi O (fun hb=>?_) (fun hb=>?_))))))
 ·
  have hk19:=G21 hb
  obtain⟨nx19,hn19,h⟩:=G1e hi19 hk19
  replace h:=Hba hb19 h
  refine Gk (hK20 (Js fun hK22=>Gq (G2 (JLm (OW 1012 1 I64 s19) O (JLm (Eh i19) O ?_)))))
  obtain⟨r23,hr23,h⟩:=Gc h
  refine JLh (I64 r23) (Gm O (Q1 1 (i19:Int) r23 hr23) G3f ⟨O,O,O,O,G⟩) O (JLh (E1 [r23]) (Hj (xs:=[I64 r23]) O ⟨O,O,G⟩ Gs Rw O O O O) O ?_)
  obtain⟨ha24,h⟩:=Hr h
  refine JLh (OW 1012 1 I64 (s19++[r23])) (Qt (f:=I64) (xs:=s19) (ys:=[r23]) O O O O Gs Zm ha24 (fun _=>O) (.inl O) O) O (JLm (OW 1012 1 I64 (s19++[r23])) O (G7 (hK22 (G2 (JLm (Eh i19) O (JLh (I64 ((i19+1:Nat):Int)) (Hs (Hf hk19 (Zj hx19)) O O O) O (JLm (I64 ((i19+1:Nat):Int)) O (G7 (e19 _ _ (i19+1) (s19++[r23]) (app1 hn19 h) (by omega) ⟨(.sm O O),⟨⟨_,rfl,.same⟩,G⟩,rfl⟩)))))))))
 ·
  have h:=app1 hkx19 (G1f hi19 (Qu hb))
  refine Hn (hK8 (Jr fun hK25=>(JLm (OW 1012 1 I64 s19) O (JLm (E1 l) O (JLl Gs O O O fun hm23=>?_)))))
  obtain⟨m26,hm26,h⟩:=Gc h
  refine JLh (LT 1 I64 (s19.take m26,s19.drop m26)) (Ja2 (f:=I64) (xs:=s19) O O O Gs (Rq hm26)) O (JLm (LT 1 I64 (s19.take m26,s19.drop m26)) O (G7 (hK25 (Gn (fin1 (fun r:(Ln Int)=>(LT 1 I64 r:AV)) h)))))

def Yz (x:G3):Option Gv:=
 bnd (Q0 x.Plugs) fun r3=>
 some (Gv.mk x.Bay x.Row x.Deck x.Tiers x.Height x.Kilos20 x.Kilos40 x.Lash r3 x.X x.Y x.Z)
theorem H21 (x:G3) (r:Gv) (h:Yz x=some r):Pure Ei 84 [.agg (G3.cs x)] (·=.agg (Gv.cs r)):=by
 unfold Yz at h
 refine Gz [.cell 2 67] Tryz.func84 O O (Jr fun hK1=>(JLh (.ptr 1103 0) (Je (cs:=(G3.cs x)) 1103 O O O O O) O (JLh (.ptr 1104 0) (G47 1104 [I64 0,I64 0,BL false,I64 0,I64 0,I64 0,I64 0,I64 0,E1 ([]:List Int),I64 0,I64 0,I64 0] [E0,E0,.bool false,E0,E0,E0,E0,E0,.slice none 0 0,E0,E0,E0] G7e ⟨.inl O,.inl O,.inl O,.inl O,.inl O,.inl O,.inl O,.inl O,.inr ⟨_,O,O⟩,.inl O,.inl O,.inl O,G⟩ O O) O (G7 (hK1 (Jr fun hK2=>(JLh (.ptr 1103 8) (G31 Rc O O) O (JLh (E1 x.Plugs) (G7b Hw O O O O) O ?_))))))))
 obtain⟨r3,hr3,h⟩:=Gc h
 refine JLh (LT 1 I64 r3) (Gm O (G4a x.Plugs r3 hr3) Hf5 ⟨O,O,G⟩) O (JLh (.ptr 1103 8) (G31 Rc O O) O (Jo (u:=.junk) (Jh (u:=LT 1 I64 r3) (ds:=[I64 x.Bay,I64 x.Row,BL x.Deck,I64 x.Tiers,I64 x.Height,I64 x.Kilos20,I64 x.Kilos40,I64 x.Lash,LT 1 I64 r3,I64 x.X,I64 x.Y,I64 x.Z]) J15 O O O O O O O O) (G7 (hK2 (Gx [(1,.dptr [I64 x.Bay,I64 x.Row,BL x.Deck,I64 x.Tiers,I64 x.Height,I64 x.Kilos20,I64 x.Kilos40,I64 x.Lash,LT 1 I64 r3,I64 x.X,I64 x.Y,I64 x.Z]),(2,.ptr 1104 0)] [(1104,.box 67 [I64 0,I64 0,BL false,I64 0,I64 0,I64 0,I64 0,I64 0,E1 ([]:List Int),I64 0,I64 0,I64 0])] 1103 rfl rfl rfl ⟨⟨_,rfl,.boxEq rfl rfl⟩,G⟩ rfl (by exact⟨.ptr,.conv (.same rfl),G⟩) ?_)))))
 refine Jr fun hK4=>(JLh (.agg [I64 x.Bay,I64 x.Row,BL x.Deck,I64 x.Tiers,I64 x.Height,I64 x.Kilos20,I64 x.Kilos40,I64 x.Lash,LT 1 I64 r3,I64 x.X,I64 x.Y,I64 x.Z]) (Gh Y5 O O O) O (Jo (u:=.junk) (Jh (u:=.agg [I64 x.Bay,I64 x.Row,BL x.Deck,I64 x.Tiers,I64 x.Height,I64 x.Kilos20,I64 x.Kilos40,I64 x.Lash,LT 1 I64 r3,I64 x.X,I64 x.Y,I64 x.Z]) (ds:=[I64 x.Bay,I64 x.Row,BL x.Deck,I64 x.Tiers,I64 x.Height,I64 x.Kilos20,I64 x.Kilos40,I64 x.Lash,LT 1 I64 r3,I64 x.X,I64 x.Y,I64 x.Z]) Geb O O O O O O O O) (G7 (hK4 (Gn ?_)))))
 exact⟨[.agg [I64 x.Bay,I64 x.Row,BL x.Deck,I64 x.Tiers,I64 x.Height,I64 x.Kilos20,I64 x.Kilos40,I64 x.Lash,LT 1 I64 r3,I64 x.X,I64 x.Y,I64 x.Z]],[],G,O,⟨⟨_,⟨_,_,_,_,O,O,O,.inl ⟨Y5,O⟩⟩,.conv (.same O)⟩,G⟩,O,congrArg (fun r:Gv=>(.agg (Gv.cs r):AV)) (Option.some.inj h)⟩

def Qs (k:Int) (i:Int):Option G3:=
 bnd (Ja k i) fun r3=>
 some (G3.mk r3 0 false 0 0 0 0 0 [] 0 0 0)
theorem G79 (k:Int) (i:Int) (r:G3) (h:Qs k i=some r):Pure Ei 85 [I64 k,I64 i] (·=.agg (G3.cs r)):=by
 unfold Qs at h
 refine Gz [.cell 4 67] Tryz.func85 O O (Jr fun hK1=>(JLh (.ptr 1105 0) (G47 1105 [I64 0,I64 0,BL false,I64 0,I64 0,I64 0,I64 0,I64 0,E1 ([]:List Int),I64 0,I64 0,I64 0] [E0,E0,.bool false,E0,E0,E0,E0,E0,.slice none 0 0,E0,E0,E0] G7e ⟨.inl O,.inl O,.inl O,.inl O,.inl O,.inl O,.inl O,.inl O,.inr ⟨_,O,O⟩,.inl O,.inl O,.inl O,G⟩ O O) O (G7 (hK1 (Jr fun hK2=>(JLm (I64 k) O (JLm (I64 i) O ?_)))))))
 obtain⟨r3,hr3,h⟩:=Gc h
 refine JLh (I64 r3) (Gm O (Q1 k i r3 hr3) G3f ⟨O,O,O,O,G⟩) O (JLh (.agg [I64 r3,I64 0,BL false,I64 0,I64 0,I64 0,I64 0,I64 0,E1 ([]:List Int),I64 0,I64 0,I64 0]) (Jp (cs:=[I64 r3,I64 0,BL false,I64 0,I64 0,I64 0,I64 0,I64 0,E1 ([]:List Int),I64 0,I64 0,I64 0]) [(0,1),(1,1),(2,1),(3,1),(4,1),(5,1),(6,1),(7,1),(8,1),(9,1),(10,1),(11,1)] [I64 0,I64 0,BL false,I64 0,I64 0,I64 0,I64 0,I64 0,E1 ([]:List Int),I64 0,I64 0,I64 0] [E0,E0,.bool false,E0,E0,E0,E0,E0,.slice none 0 0,E0,E0,E0] G92 G7e ⟨.inl O,.inl O,.inl O,.inl O,.inl O,.inl O,.inl O,.inl O,.inr ⟨_,O,O⟩,.inl O,.inl O,.inl O,G⟩ O O) O (Jo (u:=.junk) (Jh (u:=.agg [I64 r3,I64 0,BL false,I64 0,I64 0,I64 0,I64 0,I64 0,E1 ([]:List Int),I64 0,I64 0,I64 0]) (ds:=[I64 r3,I64 0,BL false,I64 0,I64 0,I64 0,I64 0,I64 0,E1 ([]:List Int),I64 0,I64 0,I64 0]) Geb O O O O O O O O) (G7 (hK2 ?_))))
 refine Gn (⟨[.agg [I64 r3,I64 0,BL false,I64 0,I64 0,I64 0,I64 0,I64 0,E1 ([]:List Int),I64 0,I64 0,I64 0]],[],G,O,⟨⟨_,⟨_,_,_,_,O,O,O,.inl ⟨Y5,O⟩⟩,.conv (.same O)⟩,G⟩,O,congrArg (fun r:G3=>(.agg (G3.cs r):AV)) (Option.some.inj h)⟩)

def Yg (l:List G3):Option (Ln Gv):=
 chk ((l.length:Int)+12) fun v3=>
 bnd (H60 v3) fun m4=>
 need (decide (112*m4≤281474976710656∧m4≤maxLen)) <|
 each (fun y23 i23 (s23:(List Gv)) nx23=>
  bnd (Yz y23) fun r28=>
  need (decide ((s23.length+[r28].length)*112≤140737488355328∧s23.length+[r28].length≤maxLen)) <|
  nx23 (s23++[r28]))
 (fun(s23:(List Gv))=>
  need (decide (12≤9223372036854775807)) <|
  upto (fun i41 (s41:(List Gv)) nx41=>
   bnd (Qs 1 (i41:Int)) fun r45=>
   need (decide ((s41.length+[(Gv.mk r45.Bay r45.Row r45.Deck r45.Tiers r45.Height r45.Kilos20 r45.Kilos40 r45.Lash (r45.Plugs,([]:List Int)) r45.X r45.Y r45.Z)].length)*112≤140737488355328∧s41.length+[(Gv.mk r45.Bay r45.Row r45.Deck r45.Tiers r45.Height r45.Kilos20 r45.Kilos40 r45.Lash (r45.Plugs,([]:List Int)) r45.X r45.Y r45.Z)].length≤maxLen)) <|
   nx41 (s41++[(Gv.mk r45.Bay r45.Row r45.Deck r45.Tiers r45.Height r45.Kilos20 r45.Kilos40 r45.Lash (r45.Plugs,([]:List Int)) r45.X r45.Y r45.Z)]))
  (fun(s41:(List Gv))=>
   bnd (G5e (l.length:Int) s41.length) fun m48=>
   some (s41.take m48,s41.drop m48)) (12:Int).toNat 0 s23) l 0 []
theorem H11 (l:List G3) (r:(Ln Gv)) (h:Yg l=some r):Pure Ei 32 [E5 l] (·=LT 12 Gv.av r):=by
 unfold Yg at h
 refine Gz [.tmp 2] Tryz.func32 O O (Jr fun hK1=>(JLh (E5 ([]:List G3)) (Hb 12 O O) O (G7 (hK1 (Jr fun hK2=>(JLm (E5 l) O (JLl H4 O O O fun hm8=>?_)))))))
 obtain⟨v3,hv3,h⟩:=Q2 h
 refine JLh (I64 v3) (Hs hv3 O O O) O ?_
 obtain⟨m4,hm4,h⟩:=Gc h
 obtain⟨ha5,h⟩:=Hr h
 refine JLh (OW 1048 12 Gv.av ([]:List Gv)) (Gcd 1048 O O O O H4 J1b O (G72 hm4) ha5) O (JLm (OW 1048 12 Gv.av ([]:List Gv)) O (G7 (hK2 (Js fun hK6=>Jr fun hK7=>(JLm (I64 0) O (G7 (hK7 (Gq ?_))))))))
 obtain⟨b23,kx23,hb23,hkx23,h⟩:=J3 h
 refine Hd (fun i23 (s23:(List Gv))=>each b23 kx23 (List.drop i23 l) i23 s23=some r) (fun i23 s23=>[(0,E5 l),(3,OW 1048 12 Gv.av s23),(4,Eh i23)]) (fun i23 s23=>[(1048,.spare 67 12 s23.length s23.length)]) (fun i23=>l.length - i23) 0 [] h ⟨(.sm O O),⟨⟨_,O,.same⟩,G⟩,O⟩ ?_
 clear h
 intro i23 s23 hi23 K23 e23
 refine Js fun hK24=>Jr fun hK25=>(JLm (Eh i23) O (JLm (E5 l) O (JLl H4 O O O fun hm13=>(JLh (BL (decide ((i23:Int) < (l.length:Int)))) (Hz O O O) O (G7 (hK25 (Gi O (fun hb=>?_) (fun hb=>?_))))))))
 ·
  have hk23:=Jj hb
  obtain⟨y23,nx23,hy23,hn23,h⟩:=Hu hi23 hk23
  replace h:=Z9 hb23 h
  refine Gk (hK24 (Js fun hK26=>Gq (Jr fun hK27=>(JLm (E5 l) O (JLm (Eh i23) O (JLh (Ed y23) (Gw (f:=G3.av) (xs:=l) (y:=y23) O O O H4 hy23 O) O (JLh (.agg (G3.cs y23)) (Gh Y5 O O O) O ?_)))))))
  obtain⟨r28,hr28,h⟩:=Gc h
  refine JLh (.agg (Gv.cs r28)) (Gm O (H21 y23 r28 hr28) R11 ⟨O,O,G⟩) O (JLh (.ptr 1047 0) (Qo 1047 12 G7d O O) O (Jo (u:=.junk) (Jh (u:=.agg (Gv.cs r28)) (ds:=(Gv.cs r28)) Geb O O O O O O O O) (G7 (hK27 (Gx [(0,E5 l),(3,OW 1048 12 Gv.av s23),(4,Eh i23),(5,.dptr (Gv.cs r28))] [(1048,.spare 67 12 s23.length s23.length)] 1047 rfl rfl rfl ⟨⟨_,rfl,.same⟩,G⟩ rfl (by repeat' (first | exact .ptr | constructor)) (G2 ?_))))))
  refine JLm (OW 1048 12 Gv.av s23) O (JLh (.agg (Gv.cs r28)) (Gh Y5 O O O) O (JLh (LS 12 Gv.av [r28]) (Hj (xs:=[.agg (Gv.cs r28)]) O ⟨O,O,G⟩ H4 G7d O O O O) O ?_))
  obtain⟨ha29,h⟩:=Hr h
  refine JLh (OW 1048 12 Gv.av (s23++[r28])) (Qt (f:=Gv.av) (xs:=s23) (ys:=[r28]) O O O O H4 J1b ha29 (fun _=>O) (.inl O) O) O (JLm (OW 1048 12 Gv.av (s23++[r28])) O (G7 (hK26 (G2 (JLm (Eh i23) O (JLh (I64 ((i23+1:Nat):Int)) (Hs (Hf hk23 hm13) O O O) O (JLm (I64 ((i23+1:Nat):Int)) O (G7 (e23 _ _ (i23+1) (s23++[r28]) (app1 hn23 h) (by omega) ⟨(.sm O O),⟨⟨_,rfl,.same⟩,G⟩,rfl⟩)))))))))
 ·
  have h:=app1 hkx23 (Hv hi23 (Ha hb))
  refine Hn (hK6 (Js fun hK30=>Jr fun hK31=>(JLm (I64 0) O (G7 (hK31 (Gq ?_))))))
  obtain⟨hx41,h⟩:=Hr h
  obtain⟨b41,kx41,hb41,hkx41,h⟩:=G4d h
  refine Hd (fun i41 (s41:(List Gv))=>upto b41 kx41 ((12:Int).toNat - i41) i41 s41=some r) (fun i41 s41=>[(0,E5 l),(3,OW 1048 12 Gv.av s41),(6,Eh i41)]) (fun i41 s41=>[(1048,.spare 67 12 s41.length s41.length)]) (fun i41=>(12:Int).toNat - i41) 0 s23 h ⟨(.sm O O),⟨⟨_,O,.same⟩,G⟩,O⟩ ?_
  clear h
  intro i41 s41 hi41 K41 e41
  refine Js fun hK42=>Jr fun hK43=>(JLm (Eh i41) O (JLh (BL (decide ((i41:Int) < 12))) (Hz O O O) O (G7 (hK43 (Gi O (fun hb=>?_) (fun hb=>?_))))))
  ·
   have hk41:=G21 hb
   obtain⟨nx41,hn41,h⟩:=G1e hi41 hk41
   replace h:=Hba hb41 h
   refine Gk (hK42 (Js fun hK44=>Gq (G2 (JLm (OW 1048 12 Gv.av s41) O (JLm (Eh i41) O ?_)))))
   obtain⟨r45,hr45,h⟩:=Gc h
   refine JLh (.agg [I64 r45.Bay,I64 r45.Row,BL r45.Deck,I64 r45.Tiers,I64 r45.Height,I64 r45.Kilos20,I64 r45.Kilos40,I64 r45.Lash,LT 1 I64 (r45.Plugs,([]:List Int)),I64 r45.X,I64 r45.Y,I64 r45.Z]) (H1.cv (Cv.aggL (cs:=(G3.cs r45)) ⟨.same,.same,.same,.same,.same,.same,.same,.same,Cv.of0 r45.Plugs,.same,.same,.same,G⟩) (Gm O (G79 1 (i41:Int) r45 hr45) Jc9 ⟨O,O,O,O,G⟩)) O (JLh (LS 12 Gv.av ([(Gv.mk r45.Bay r45.Row r45.Deck r45.Tiers r45.Height r45.Kilos20 r45.Kilos40 r45.Lash (r45.Plugs,([]:List Int)) r45.X r45.Y r45.Z)])) (Hj (xs:=[.agg [I64 r45.Bay,I64 r45.Row,BL r45.Deck,I64 r45.Tiers,I64 r45.Height,I64 r45.Kilos20,I64 r45.Kilos40,I64 r45.Lash,LT 1 I64 (r45.Plugs,([]:List Int)),I64 r45.X,I64 r45.Y,I64 r45.Z]]) O ⟨O,O,G⟩ H4 G7d O O O O) O ?_)
   obtain⟨ha46,h⟩:=Hr h
   refine JLh (OW 1048 12 Gv.av (s41++[(Gv.mk r45.Bay r45.Row r45.Deck r45.Tiers r45.Height r45.Kilos20 r45.Kilos40 r45.Lash (r45.Plugs,([]:List Int)) r45.X r45.Y r45.Z)])) (Qt (f:=Gv.av) (xs:=s41) (ys:=[(Gv.mk r45.Bay r45.Row r45.Deck r45.Tiers r45.Height r45.Kilos20 r45.Kilos40 r45.Lash (r45.Plugs,([]:List Int)) r45.X r45.Y r45.Z)]) O O O O H4 J1b ha46 (fun _=>O) (.inl O) O) O (JLm (OW 1048 12 Gv.av (s41++[(Gv.mk r45.Bay r45.Row r45.Deck r45.Tiers r45.Height r45.Kilos20 r45.Kilos40 r45.Lash (r45.Plugs,([]:List Int)) r45.X r45.Y r45.Z)])) O (G7 (hK44 (G2 (JLm (Eh i41) O (JLh (I64 ((i41+1:Nat):Int)) (Hs (Hf hk41 (Zj hx41)) O O O) O (JLm (I64 ((i41+1:Nat):Int)) O (G7 ?_))))))))
   exact e41 _ _ (i41+1) (s41++[(Gv.mk r45.Bay r45.Row r45.Deck r45.Tiers r45.Height r45.Kilos20 r45.Kilos40 r45.Lash (r45.Plugs,([]:List Int)) r45.X r45.Y r45.Z)]) (app1 hn41 h) (by omega) ⟨(.sm O O),⟨⟨_,rfl,.same⟩,G⟩,rfl⟩
  ·
   have h:=app1 hkx41 (G1f hi41 (Qu hb))
   refine Hn (hK30 (Jr fun hK47=>(JLm (OW 1048 12 Gv.av s41) O (JLm (E5 l) O (JLl H4 O O O fun hm37=>?_)))))
   obtain⟨m48,hm48,h⟩:=Gc h
   refine JLh (LT 12 Gv.av (s41.take m48,s41.drop m48)) (Ja2 (f:=Gv.av) (xs:=s41) O O O H4 (Rq hm48)) O (JLm (LT 12 Gv.av (s41.take m48,s41.drop m48)) O (G7 (hK47 (Gn (fin1 (fun r:(Ln Gv)=>(LT 12 Gv.av r:AV)) h)))))

def Zc (x:G9):Option H3:=
 bnd (Q0 x.Rows) fun r3=>
 some (H3.mk x.Bay r3)
theorem H43 (x:G9) (r:H3) (h:Zc x=some r):Pure Ei 86 [.agg [I64 x.Bay,E1 x.Rows]] (·=.agg [I64 r.Bay,LT 1 I64 r.Rows]):=by
 unfold Zc at h
 refine Gz [.cell 2 69] Tryz.func86 O O (Jr fun hK1=>(JLh (.ptr 1106 0) (Je (cs:=[I64 x.Bay,E1 x.Rows]) 1106 O O O O O) O (JLh (.ptr 1107 0) (G47 1107 [I64 0,E1 ([]:List Int)] [E0,.slice none 0 0] H9e ⟨.inl O,.inr ⟨_,O,O⟩,G⟩ O O) O (G7 (hK1 (Jr fun hK2=>(JLh (.ptr 1106 1) (G31 Q5 O O) O (JLh (E1 x.Rows) (G7b Hw O O O O) O ?_))))))))
 obtain⟨r3,hr3,h⟩:=Gc h
 refine JLh (LT 1 I64 r3) (Gm O (G4a x.Rows r3 hr3) Hf5 ⟨O,O,G⟩) O (JLh (.ptr 1106 1) (G31 Q5 O O) O (Jo (u:=.junk) (Jh (u:=LT 1 I64 r3) (ds:=[I64 x.Bay,LT 1 I64 r3]) J15 O O O O O O O O) (G7 (hK2 (Gx [(1,.dptr [I64 x.Bay,LT 1 I64 r3]),(2,.ptr 1107 0)] [(1107,.box 69 [I64 0,E1 ([]:List Int)])] 1106 rfl rfl rfl ⟨⟨_,rfl,.boxEq rfl rfl⟩,G⟩ rfl (by exact⟨.ptr,.conv (.same rfl),G⟩) (Jr fun hK4=>(JLh (.agg [I64 x.Bay,LT 1 I64 r3]) (Gh Yk O O O) O (Jo (u:=.junk) (Jh (u:=.agg [I64 x.Bay,LT 1 I64 r3]) (ds:=[I64 x.Bay,LT 1 I64 r3]) Gb9 O O O O O O O O) (G7 (hK4 (Gn ?_)))))))))))
 exact⟨[.agg [I64 x.Bay,LT 1 I64 r3]],[],G,O,⟨⟨_,⟨_,_,_,_,O,O,O,.inl ⟨Yk,O⟩⟩,.conv (.same O)⟩,G⟩,O,congrArg (fun r:H3=>(.agg [I64 r.Bay,LT 1 I64 r.Rows]:AV)) (Option.some.inj h)⟩

def Qy (k:Int) (i:Int):Option G9:=
 bnd (Ja k i) fun r3=>
 some (G9.mk r3 [])
theorem G87 (k:Int) (i:Int) (r:G9) (h:Qy k i=some r):Pure Ei 87 [I64 k,I64 i] (·=.agg [I64 r.Bay,E1 r.Rows]):=by
 unfold Qy at h
 refine Gz [.cell 4 69] Tryz.func87 O O (Jr fun hK1=>(JLh (.ptr 1108 0) (G47 1108 [I64 0,E1 ([]:List Int)] [E0,.slice none 0 0] H9e ⟨.inl O,.inr ⟨_,O,O⟩,G⟩ O O) O (G7 (hK1 (Jr fun hK2=>(JLm (I64 k) O (JLm (I64 i) O ?_)))))))
 obtain⟨r3,hr3,h⟩:=Gc h
 refine JLh (I64 r3) (Gm O (Q1 k i r3 hr3) G3f ⟨O,O,O,O,G⟩) O (JLh (.agg [I64 r3,E1 ([]:List Int)]) (Jp (cs:=[I64 r3,E1 ([]:List Int)]) [(0,1),(1,1)] [I64 0,E1 ([]:List Int)] [E0,.slice none 0 0] J39 H9e ⟨.inl O,.inr ⟨_,O,O⟩,G⟩ O O) O (Jo (u:=.junk) (Jh (u:=.agg [I64 r3,E1 ([]:List Int)]) (ds:=[I64 r3,E1 ([]:List Int)]) Gb9 O O O O O O O O) (G7 (hK2 (Gn (⟨[.agg [I64 r3,E1 ([]:List Int)]],[],G,O,⟨⟨_,⟨_,_,_,_,O,O,O,.inl ⟨Yk,O⟩⟩,.conv (.same O)⟩,G⟩,O,congrArg (fun r:G9=>(.agg [I64 r.Bay,E1 r.Rows]:AV)) (Option.some.inj h)⟩))))))

def Yy (l:List G9):Option (Ln H3):=
 chk ((l.length:Int)+12) fun v3=>
 bnd (H60 v3) fun m4=>
 need (decide (32*m4≤281474976710656∧m4≤maxLen)) <|
 each (fun y23 i23 (s23:(List H3)) nx23=>
  bnd (Zc y23) fun r28=>
  need (decide ((s23.length+[r28].length)*32≤140737488355328∧s23.length+[r28].length≤maxLen)) <|
  nx23 (s23++[r28]))
 (fun(s23:(List H3))=>
  need (decide (12≤9223372036854775807)) <|
  upto (fun i41 (s41:(List H3)) nx41=>
   bnd (Qy 1 (i41:Int)) fun r45=>
   need (decide ((s41.length+[(H3.mk r45.Bay (r45.Rows,([]:List Int)))].length)*32≤140737488355328∧s41.length+[(H3.mk r45.Bay (r45.Rows,([]:List Int)))].length≤maxLen)) <|
   nx41 (s41++[(H3.mk r45.Bay (r45.Rows,([]:List Int)))]))
  (fun(s41:(List H3))=>
   bnd (G5e (l.length:Int) s41.length) fun m48=>
   some (s41.take m48,s41.drop m48)) (12:Int).toNat 0 s23) l 0 []
theorem H20 (l:List G9) (r:(Ln H3)) (h:Yy l=some r):Pure Ei 33 [E4 l] (·=LT 2 H3.av r):=by
 unfold Yy at h
 refine Gz [.tmp 2] Tryz.func33 O O (Jr fun hK1=>(JLh (E4 ([]:List G9)) (Hb 2 O O) O (G7 (hK1 (Jr fun hK2=>(JLm (E4 l) O (JLl He O O O fun hm8=>?_)))))))
 obtain⟨v3,hv3,h⟩:=Q2 h
 refine JLh (I64 v3) (Hs hv3 O O O) O ?_
 obtain⟨m4,hm4,h⟩:=Gc h
 obtain⟨ha5,h⟩:=Hr h
 refine JLh (OW 1050 2 H3.av ([]:List H3)) (Gcd 1050 O O O O He J1a O (G72 hm4) ha5) O (JLm (OW 1050 2 H3.av ([]:List H3)) O (G7 (hK2 (Js fun hK6=>Jr fun hK7=>(JLm (I64 0) O (G7 (hK7 (Gq ?_))))))))
 obtain⟨b23,kx23,hb23,hkx23,h⟩:=J3 h
 refine Hd (fun i23 (s23:(List H3))=>each b23 kx23 (List.drop i23 l) i23 s23=some r) (fun i23 s23=>[(0,E4 l),(3,OW 1050 2 H3.av s23),(4,Eh i23)]) (fun i23 s23=>[(1050,.spare 69 2 s23.length s23.length)]) (fun i23=>l.length - i23) 0 [] h ⟨(.sm O O),⟨⟨_,O,.same⟩,G⟩,O⟩ ?_
 clear h
 intro i23 s23 hi23 K23 e23
 refine Js fun hK24=>Jr fun hK25=>(JLm (Eh i23) O (JLm (E4 l) O (JLl He O O O fun hm13=>(JLh (BL (decide ((i23:Int) < (l.length:Int)))) (Hz O O O) O (G7 (hK25 (Gi O (fun hb=>?_) (fun hb=>?_))))))))
 ·
  have hk23:=Jj hb
  obtain⟨y23,nx23,hy23,hn23,h⟩:=Hu hi23 hk23
  replace h:=Z9 hb23 h
  refine Gk (hK24 (Js fun hK26=>Gq (Jr fun hK27=>(JLm (E4 l) O (JLm (Eh i23) O (JLh (.dptr [I64 y23.Bay,E1 y23.Rows]) (Gw (f:=G9.av) (xs:=l) (y:=y23) O O O He hy23 O) O (JLh (.agg [I64 y23.Bay,E1 y23.Rows]) (Gh Yk O O O) O ?_)))))))
  obtain⟨r28,hr28,h⟩:=Gc h
  refine JLh (.agg [I64 r28.Bay,LT 1 I64 r28.Rows]) (Gm O (H43 y23 r28 hr28) R10 ⟨O,O,G⟩) O (JLh (.ptr 1049 0) (Qo 1049 2 G63 O O) O (Jo (u:=.junk) (Jh (u:=.agg [I64 r28.Bay,LT 1 I64 r28.Rows]) (ds:=[I64 r28.Bay,LT 1 I64 r28.Rows]) Gb9 O O O O O O O O) (G7 (hK27 (Gx [(0,E4 l),(3,OW 1050 2 H3.av s23),(4,Eh i23),(5,.dptr [I64 r28.Bay,LT 1 I64 r28.Rows])] [(1050,.spare 69 2 s23.length s23.length)] 1049 rfl rfl rfl ⟨⟨_,rfl,.same⟩,G⟩ rfl (by repeat' (first | exact .ptr | constructor)) (G2 ?_))))))
  refine JLm (OW 1050 2 H3.av s23) O (JLh (.agg [I64 r28.Bay,LT 1 I64 r28.Rows]) (Gh Yk O O O) O (JLh (LS 2 H3.av [r28]) (Hj (xs:=[.agg [I64 r28.Bay,LT 1 I64 r28.Rows]]) O ⟨O,O,G⟩ He G63 O O O O) O ?_))
  obtain⟨ha29,h⟩:=Hr h
  refine JLh (OW 1050 2 H3.av (s23++[r28])) (Qt (f:=H3.av) (xs:=s23) (ys:=[r28]) O O O O He J1a ha29 (fun _=>O) (.inl O) O) O (JLm (OW 1050 2 H3.av (s23++[r28])) O (G7 (hK26 (G2 (JLm (Eh i23) O (JLh (I64 ((i23+1:Nat):Int)) (Hs (Hf hk23 hm13) O O O) O (JLm (I64 ((i23+1:Nat):Int)) O (G7 (e23 _ _ (i23+1) (s23++[r28]) (app1 hn23 h) (by omega) ⟨(.sm O O),⟨⟨_,rfl,.same⟩,G⟩,rfl⟩)))))))))
 ·
  have h:=app1 hkx23 (Hv hi23 (Ha hb))
  refine Hn (hK6 (Js fun hK30=>Jr fun hK31=>(JLm (I64 0) O (G7 (hK31 (Gq ?_))))))
  obtain⟨hx41,h⟩:=Hr h
  obtain⟨b41,kx41,hb41,hkx41,h⟩:=G4d h
  refine Hd (fun i41 (s41:(List H3))=>upto b41 kx41 ((12:Int).toNat - i41) i41 s41=some r) (fun i41 s41=>[(0,E4 l),(3,OW 1050 2 H3.av s41),(6,Eh i41)]) (fun i41 s41=>[(1050,.spare 69 2 s41.length s41.length)]) (fun i41=>(12:Int).toNat - i41) 0 s23 h ⟨(.sm O O),⟨⟨_,O,.same⟩,G⟩,O⟩ ?_
  clear h
  intro i41 s41 hi41 K41 e41
  refine Js fun hK42=>Jr fun hK43=>(JLm (Eh i41) O (JLh (BL (decide ((i41:Int) < 12))) (Hz O O O) O (G7 (hK43 (Gi O (fun hb=>?_) (fun hb=>?_))))))
  ·
   have hk41:=G21 hb
   obtain⟨nx41,hn41,h⟩:=G1e hi41 hk41
   replace h:=Hba hb41 h
   refine Gk (hK42 (Js fun hK44=>Gq (G2 (JLm (OW 1050 2 H3.av s41) O (JLm (Eh i41) O ?_)))))
   obtain⟨r45,hr45,h⟩:=Gc h
   refine JLh (.agg [I64 r45.Bay,LT 1 I64 (r45.Rows,([]:List Int))]) (H1.cv (Cv.aggL (cs:=[I64 r45.Bay,E1 r45.Rows]) ⟨.same,Cv.of0 r45.Rows,G⟩) (Gm O (G87 1 (i41:Int) r45 hr45) Jc8 ⟨O,O,O,O,G⟩)) O (JLh (LS 2 H3.av ([(H3.mk r45.Bay (r45.Rows,([]:List Int)))])) (Hj (xs:=[.agg [I64 r45.Bay,LT 1 I64 (r45.Rows,([]:List Int))]]) O ⟨O,O,G⟩ He G63 O O O O) O ?_)
   obtain⟨ha46,h⟩:=Hr h
   refine JLh (OW 1050 2 H3.av (s41++[(H3.mk r45.Bay (r45.Rows,([]:List Int)))])) (Qt (f:=H3.av) (xs:=s41) (ys:=[(H3.mk r45.Bay (r45.Rows,([]:List Int)))]) O O O O He J1a ha46 (fun _=>O) (.inl O) O) O (JLm (OW 1050 2 H3.av (s41++[(H3.mk r45.Bay (r45.Rows,([]:List Int)))])) O (G7 (hK44 (G2 (JLm (Eh i41) O (JLh (I64 ((i41+1:Nat):Int)) (Hs (Hf hk41 (Zj hx41)) O O O) O (JLm (I64 ((i41+1:Nat):Int)) O (G7 (e41 _ _ (i41+1) (s41++[(H3.mk r45.Bay (r45.Rows,([]:List Int)))]) (app1 hn41 h) (by omega) ⟨(.sm O O),⟨⟨_,rfl,.same⟩,G⟩,rfl⟩)))))))))
  ·
   have h:=app1 hkx41 (G1f hi41 (Qu hb))
   refine Hn (hK30 (Jr fun hK47=>(JLm (OW 1050 2 H3.av s41) O (JLm (E4 l) O (JLl He O O O fun hm37=>?_)))))
   obtain⟨m48,hm48,h⟩:=Gc h
   refine JLh (LT 2 H3.av (s41.take m48,s41.drop m48)) (Ja2 (f:=H3.av) (xs:=s41) O O O He (Rq hm48)) O (JLm (LT 2 H3.av (s41.take m48,s41.drop m48)) O (G7 (hK47 (Gn (fin1 (fun r:(Ln H3)=>(LT 2 H3.av r:AV)) h)))))

def Rk (k:Int) (i:Int):Option Row:=
 bnd (Ja k i) fun r3=>
 some (Row.mk 0 r3 0 0 0)
theorem Gad (k:Int) (i:Int) (r:Row) (h:Rk k i=some r):Pure Ei 88 [I64 k,I64 i] (·=.agg (Row.cs r)):=by
 unfold Rk at h
 refine Gz [.cell 4 123] Tryz.func88 O O (Jr fun hK1=>(JLh (.ptr 1109 0) (G47 1109 [I64 0,I64 0,I64 0,I64 0,I64 0] [E0,E0,E0,E0,E0] J78 ⟨.inl O,.inl O,.inl O,.inl O,.inl O,G⟩ O O) O (G7 (hK1 (Jr fun hK2=>(JLm (I64 k) O (JLm (I64 i) O ?_)))))))
 obtain⟨r3,hr3,h⟩:=Gc h
 refine JLh (I64 r3) (Gm O (Q1 k i r3 hr3) G3f ⟨O,O,O,O,G⟩) O (JLh (.agg [I64 0,I64 r3,I64 0,I64 0,I64 0]) (Jp (cs:=[I64 0,I64 r3,I64 0,I64 0,I64 0]) [(0,1),(1,1),(2,1),(3,1),(4,1)] [I64 0,I64 0,I64 0,I64 0,I64 0] [E0,E0,E0,E0,E0] Q29 J78 ⟨.inl O,.inl O,.inl O,.inl O,.inl O,G⟩ O O) O (Jo (u:=.junk) (Jh (u:=.agg [I64 0,I64 r3,I64 0,I64 0,I64 0]) (ds:=[I64 0,I64 r3,I64 0,I64 0,I64 0]) Q9c O O O O O O O O) (G7 (hK2 (Gn (⟨[.agg [I64 0,I64 r3,I64 0,I64 0,I64 0]],[],G,O,⟨⟨_,⟨_,_,_,_,O,O,O,.inl ⟨Gee,O⟩⟩,.conv (.same O)⟩,G⟩,O,congrArg (fun r:Row=>(.agg (Row.cs r):AV)) (Option.some.inj h)⟩))))))

def Zv (l:List Row):Option (Ln Row):=
 chk ((l.length:Int)+12) fun v3=>
 bnd (H60 v3) fun m4=>
 need (decide (40*m4≤281474976710656∧m4≤maxLen)) <|
 need (decide ((([]:List Row).length+l.length)*40≤140737488355328∧([]:List Row).length+l.length≤maxLen)) <|
 need (decide (12≤9223372036854775807)) <|
 upto (fun i19 (s19:(List Row)) nx19=>
  bnd (Rk 1 (i19:Int)) fun r23=>
  need (decide ((s19.length+[r23].length)*40≤140737488355328∧s19.length+[r23].length≤maxLen)) <|
  nx19 (s19++[r23]))
 (fun(s19:(List Row))=>
  bnd (G5e (l.length:Int) s19.length) fun m26=>
  some (s19.take m26,s19.drop m26)) (12:Int).toNat 0 (([]:List Row)++l)
theorem H53 (l:List Row) (r:(Ln Row)) (h:Zv l=some r):Pure Ei 34 [E7 l] (·=LT 5 Row.av r):=by
 unfold Zv at h
 refine Gz [.tmp 2] Tryz.func34 O O (Jr fun hK1=>(JLh (E7 ([]:List Row)) (Hb 5 O O) O (G7 (hK1 (Jr fun hK2=>(JLm (E7 l) O (JLl Q9 O O O fun hm6=>?_)))))))
 obtain⟨v3,hv3,h⟩:=Q2 h
 refine JLh (I64 v3) (Hs hv3 O O O) O ?_
 obtain⟨m4,hm4,h⟩:=Gc h
 obtain⟨ha5,h⟩:=Hr h
 refine JLh (OW 1051 5 Row.av ([]:List Row)) (Gcd 1051 O O O O Q9 Hd2 O (G72 hm4) ha5) O (JLm (OW 1051 5 Row.av ([]:List Row)) O (G7 (hK2 (Jr fun hK6=>(JLm (OW 1051 5 Row.av ([]:List Row)) O (JLm (E7 l) O ?_))))))
 obtain⟨ha7,h⟩:=Hr h
 refine JLh (OW 1051 5 Row.av (([]:List Row)++l)) (Gf4 (f:=Row.av) (xs:=([]:List Row)) (ys:=l) O O O O Q9 Hd2 ha7 (fun _=>O) (.inl O)) O (JLm (OW 1051 5 Row.av (([]:List Row)++l)) O (G7 (hK6 (Js fun hK8=>Jr fun hK9=>(JLm (I64 0) O (G7 (hK9 (Gq ?_))))))))
 obtain⟨hx19,h⟩:=Hr h
 obtain⟨b19,kx19,hb19,hkx19,h⟩:=G4d h
 refine Hd (fun i19 (s19:(List Row))=>upto b19 kx19 ((12:Int).toNat - i19) i19 s19=some r) (fun i19 s19=>[(0,E7 l),(3,OW 1051 5 Row.av s19),(4,Eh i19)]) (fun i19 s19=>[(1051,.spare 123 5 s19.length s19.length)]) (fun i19=>(12:Int).toNat - i19) 0 (([]:List Row)++l) h ⟨(.sm O O),⟨⟨_,O,.same⟩,G⟩,O⟩ ?_
 clear h
 intro i19 s19 hi19 K19 e19
 refine Js fun hK20=>Jr fun hK21=>(JLm (Eh i19) O (JLh (BL (decide ((i19:Int) < 12))) (Hz O O O) O (G7 (hK21 (Gi O (fun hb=>?_) (fun hb=>?_))))))
 ·
  have hk19:=G21 hb
  obtain⟨nx19,hn19,h⟩:=G1e hi19 hk19
  replace h:=Hba hb19 h
  refine Gk (hK20 (Js fun hK22=>Gq (G2 (JLm (OW 1051 5 Row.av s19) O (JLm (Eh i19) O ?_)))))
  obtain⟨r23,hr23,h⟩:=Gc h
  refine JLh (.agg (Row.cs r23)) (Gm O (Gad 1 (i19:Int) r23 hr23) Jc7 ⟨O,O,O,O,G⟩) O (JLh (E7 [r23]) (Hj (xs:=[.agg (Row.cs r23)]) O ⟨O,O,G⟩ Q9 Q6f O O O O) O ?_)
  obtain⟨ha24,h⟩:=Hr h
  refine JLh (OW 1051 5 Row.av (s19++[r23])) (Qt (f:=Row.av) (xs:=s19) (ys:=[r23]) O O O O Q9 Hd2 ha24 (fun _=>O) (.inl O) O) O (JLm (OW 1051 5 Row.av (s19++[r23])) O (G7 (hK22 (G2 (JLm (Eh i19) O (JLh (I64 ((i19+1:Nat):Int)) (Hs (Hf hk19 (Zj hx19)) O O O) O (JLm (I64 ((i19+1:Nat):Int)) O (G7 (e19 _ _ (i19+1) (s19++[r23]) (app1 hn19 h) (by omega) ⟨(.sm O O),⟨⟨_,rfl,.same⟩,G⟩,rfl⟩)))))))))
 ·
  have h:=app1 hkx19 (G1f hi19 (Qu hb))
  refine Hn (hK8 (Jr fun hK25=>(JLm (OW 1051 5 Row.av s19) O (JLm (E7 l) O (JLl Q9 O O O fun hm23=>?_)))))
  obtain⟨m26,hm26,h⟩:=Gc h
  refine JLh (LT 5 Row.av (s19.take m26,s19.drop m26)) (Ja2 (f:=Row.av) (xs:=s19) O O O Q9 (Rq hm26)) O (JLm (LT 5 Row.av (s19.take m26,s19.drop m26)) O (G7 (hK25 (Gn (fin1 (fun r:(Ln Row)=>(LT 5 Row.av r:AV)) h)))))

def Qx (k:Int) (i:Int):Option Frame:=
 bnd (Ja k i) fun r3=>
 some (Frame.mk r3 0 0 0 0)
theorem G86 (k:Int) (i:Int) (r:Frame) (h:Qx k i=some r):Pure Ei 89 [I64 k,I64 i] (·=.agg (Frame.cs r)):=by
 unfold Qx at h
 refine Gz [.cell 4 126] Tryz.func89 O O (Jr fun hK1=>(JLh (.ptr 1110 0) (G47 1110 [I64 0,I64 0,I64 0,I64 0,I64 0] [E0,E0,E0,E0,E0] J77 ⟨.inl O,.inl O,.inl O,.inl O,.inl O,G⟩ O O) O (G7 (hK1 (Jr fun hK2=>(JLm (I64 k) O (JLm (I64 i) O ?_)))))))
 obtain⟨r3,hr3,h⟩:=Gc h
 refine JLh (I64 r3) (Gm O (Q1 k i r3 hr3) G3f ⟨O,O,O,O,G⟩) O (JLh (.agg [I64 r3,I64 0,I64 0,I64 0,I64 0]) (Jp (cs:=[I64 r3,I64 0,I64 0,I64 0,I64 0]) [(0,1),(1,1),(2,1),(3,1),(4,1)] [I64 0,I64 0,I64 0,I64 0,I64 0] [E0,E0,E0,E0,E0] Q28 J77 ⟨.inl O,.inl O,.inl O,.inl O,.inl O,G⟩ O O) O (Jo (u:=.junk) (Jh (u:=.agg [I64 r3,I64 0,I64 0,I64 0,I64 0]) (ds:=[I64 r3,I64 0,I64 0,I64 0,I64 0]) Q9b O O O O O O O O) (G7 (hK2 (Gn (⟨[.agg [I64 r3,I64 0,I64 0,I64 0,I64 0]],[],G,O,⟨⟨_,⟨_,_,_,_,O,O,O,.inl ⟨Ged,O⟩⟩,.conv (.same O)⟩,G⟩,O,congrArg (fun r:Frame=>(.agg (Frame.cs r):AV)) (Option.some.inj h)⟩))))))

def Yx (l:List Frame):Option (Ln Frame):=
 chk ((l.length:Int)+12) fun v3=>
 bnd (H60 v3) fun m4=>
 need (decide (40*m4≤281474976710656∧m4≤maxLen)) <|
 need (decide ((([]:List Frame).length+l.length)*40≤140737488355328∧([]:List Frame).length+l.length≤maxLen)) <|
 need (decide (12≤9223372036854775807)) <|
 upto (fun i19 (s19:(List Frame)) nx19=>
  bnd (Qx 1 (i19:Int)) fun r23=>
  need (decide ((s19.length+[r23].length)*40≤140737488355328∧s19.length+[r23].length≤maxLen)) <|
  nx19 (s19++[r23]))
 (fun(s19:(List Frame))=>
  bnd (G5e (l.length:Int) s19.length) fun m26=>
  some (s19.take m26,s19.drop m26)) (12:Int).toNat 0 (([]:List Frame)++l)
theorem H1f (l:List Frame) (r:(Ln Frame)) (h:Yx l=some r):Pure Ei 35 [E6 l] (·=LT 5 Frame.av r):=by
 unfold Yx at h
 refine Gz [.tmp 2] Tryz.func35 O O (Jr fun hK1=>(JLh (E6 ([]:List Frame)) (Hb 5 O O) O (G7 (hK1 (Jr fun hK2=>(JLm (E6 l) O (JLl Q8 O O O fun hm6=>?_)))))))
 obtain⟨v3,hv3,h⟩:=Q2 h
 refine JLh (I64 v3) (Hs hv3 O O O) O ?_
 obtain⟨m4,hm4,h⟩:=Gc h
 obtain⟨ha5,h⟩:=Hr h
 refine JLh (OW 1052 5 Frame.av ([]:List Frame)) (Gcd 1052 O O O O Q8 Hd1 O (G72 hm4) ha5) O (JLm (OW 1052 5 Frame.av ([]:List Frame)) O (G7 (hK2 (Jr fun hK6=>(JLm (OW 1052 5 Frame.av ([]:List Frame)) O (JLm (E6 l) O ?_))))))
 obtain⟨ha7,h⟩:=Hr h
 refine JLh (OW 1052 5 Frame.av (([]:List Frame)++l)) (Gf4 (f:=Frame.av) (xs:=([]:List Frame)) (ys:=l) O O O O Q8 Hd1 ha7 (fun _=>O) (.inl O)) O (JLm (OW 1052 5 Frame.av (([]:List Frame)++l)) O (G7 (hK6 (Js fun hK8=>Jr fun hK9=>(JLm (I64 0) O (G7 (hK9 (Gq ?_))))))))
 obtain⟨hx19,h⟩:=Hr h
 obtain⟨b19,kx19,hb19,hkx19,h⟩:=G4d h
 refine Hd (fun i19 (s19:(List Frame))=>upto b19 kx19 ((12:Int).toNat - i19) i19 s19=some r) (fun i19 s19=>[(0,E6 l),(3,OW 1052 5 Frame.av s19),(4,Eh i19)]) (fun i19 s19=>[(1052,.spare 126 5 s19.length s19.length)]) (fun i19=>(12:Int).toNat - i19) 0 (([]:List Frame)++l) h ⟨(.sm O O),⟨⟨_,O,.same⟩,G⟩,O⟩ ?_
 clear h
 intro i19 s19 hi19 K19 e19
 refine Js fun hK20=>Jr fun hK21=>(JLm (Eh i19) O (JLh (BL (decide ((i19:Int) < 12))) (Hz O O O) O (G7 (hK21 (Gi O (fun hb=>?_) (fun hb=>?_))))))
 ·
  have hk19:=G21 hb
  obtain⟨nx19,hn19,h⟩:=G1e hi19 hk19
  replace h:=Hba hb19 h
  refine Gk (hK20 (Js fun hK22=>Gq (G2 (JLm (OW 1052 5 Frame.av s19) O (JLm (Eh i19) O ?_)))))
  obtain⟨r23,hr23,h⟩:=Gc h
  refine JLh (.agg (Frame.cs r23)) (Gm O (G86 1 (i19:Int) r23 hr23) Jc6 ⟨O,O,O,O,G⟩) O (JLh (E6 [r23]) (Hj (xs:=[.agg (Frame.cs r23)]) O ⟨O,O,G⟩ Q8 Q6e O O O O) O ?_)
  obtain⟨ha24,h⟩:=Hr h
  refine JLh (OW 1052 5 Frame.av (s19++[r23])) (Qt (f:=Frame.av) (xs:=s19) (ys:=[r23]) O O O O Q8 Hd1 ha24 (fun _=>O) (.inl O) O) O (JLm (OW 1052 5 Frame.av (s19++[r23])) O (G7 (hK22 (G2 (JLm (Eh i19) O (JLh (I64 ((i19+1:Nat):Int)) (Hs (Hf hk19 (Zj hx19)) O O O) O (JLm (I64 ((i19+1:Nat):Int)) O (G7 (e19 _ _ (i19+1) (s19++[r23]) (app1 hn19 h) (by omega) ⟨(.sm O O),⟨⟨_,rfl,.same⟩,G⟩,rfl⟩)))))))))
 ·
  have h:=app1 hkx19 (G1f hi19 (Qu hb))
  refine Hn (hK8 (Jr fun hK25=>(JLm (OW 1052 5 Frame.av s19) O (JLm (E6 l) O (JLl Q8 O O O fun hm23=>?_)))))
  obtain⟨m26,hm26,h⟩:=Gc h
  refine JLh (LT 5 Frame.av (s19.take m26,s19.drop m26)) (Ja2 (f:=Frame.av) (xs:=s19) O O O Q8 (Rq hm26)) O (JLm (LT 5 Frame.av (s19.take m26,s19.drop m26)) O (G7 (hK25 (Gn (fin1 (fun r:(Ln Frame)=>(LT 5 Frame.av r:AV)) h)))))

def Zt (x:Gg):Option H9:=
 bnd (Q0 x.Steps) fun r3=>
 some (H9.mk x.Kilos x.X x.Y x.Z x.Surface r3)
theorem H51 (x:Gg) (r:H9) (h:Zt x=some r):Pure Ei 90 [.agg (Gg.cs x)] (·=.agg (H9.cs r)):=by
 unfold Zt at h
 refine Gz [.cell 2 129] Tryz.func90 O O (Jr fun hK1=>(JLh (.ptr 1111 0) (Je (cs:=[I64 x.Kilos,I64 x.X,I64 x.Y,I64 x.Z,I64 x.Surface,E1 x.Steps]) 1111 O O O O O) O (JLh (.ptr 1112 0) (G47 1112 [I64 0,I64 0,I64 0,I64 0,I64 0,E1 ([]:List Int)] [E0,E0,E0,E0,E0,.slice none 0 0] Hc8 ⟨.inl O,.inl O,.inl O,.inl O,.inl O,.inr ⟨_,O,O⟩,G⟩ O O) O (G7 (hK1 (Jr fun hK2=>(JLh (.ptr 1111 5) (G31 G5c O O) O (JLh (E1 x.Steps) (G7b Hw O O O O) O ?_))))))))
 obtain⟨r3,hr3,h⟩:=Gc h
 refine JLh (LT 1 I64 r3) (Gm O (G4a x.Steps r3 hr3) Hf5 ⟨O,O,G⟩) O (JLh (.ptr 1111 5) (G31 G5c O O) O (Jo (u:=.junk) (Jh (u:=LT 1 I64 r3) (ds:=[I64 x.Kilos,I64 x.X,I64 x.Y,I64 x.Z,I64 x.Surface,LT 1 I64 r3]) J15 O O O O O O O O) (G7 (hK2 (Gx [(1,.dptr [I64 x.Kilos,I64 x.X,I64 x.Y,I64 x.Z,I64 x.Surface,LT 1 I64 r3]),(2,.ptr 1112 0)] [(1112,.box 129 [I64 0,I64 0,I64 0,I64 0,I64 0,E1 ([]:List Int)])] 1111 rfl rfl rfl ⟨⟨_,rfl,.boxEq rfl rfl⟩,G⟩ rfl (by exact⟨.ptr,.conv (.same rfl),G⟩) ?_)))))
 refine Jr fun hK4=>(JLh (.agg [I64 x.Kilos,I64 x.X,I64 x.Y,I64 x.Z,I64 x.Surface,LT 1 I64 r3]) (Gh G2b O O O) O (Jo (u:=.junk) (Jh (u:=.agg [I64 x.Kilos,I64 x.X,I64 x.Y,I64 x.Z,I64 x.Surface,LT 1 I64 r3]) (ds:=[I64 x.Kilos,I64 x.X,I64 x.Y,I64 x.Z,I64 x.Surface,LT 1 I64 r3]) Hc9 O O O O O O O O) (G7 (hK4 (Gn (⟨[.agg [I64 x.Kilos,I64 x.X,I64 x.Y,I64 x.Z,I64 x.Surface,LT 1 I64 r3]],[],G,O,⟨⟨_,⟨_,_,_,_,O,O,O,.inl ⟨G2b,O⟩⟩,.conv (.same O)⟩,G⟩,O,congrArg (fun r:H9=>(.agg (H9.cs r):AV)) (Option.some.inj h)⟩))))))

def R9 (k:Int) (i:Int):Option Gg:=
 bnd (Ja k i) fun r3=>
 some (Gg.mk r3 0 0 0 0 [])
theorem G9f (k:Int) (i:Int) (r:Gg) (h:R9 k i=some r):Pure Ei 91 [I64 k,I64 i] (·=.agg (Gg.cs r)):=by
 unfold R9 at h
 refine Gz [.cell 4 129] Tryz.func91 O O (Jr fun hK1=>(JLh (.ptr 1113 0) (G47 1113 [I64 0,I64 0,I64 0,I64 0,I64 0,E1 ([]:List Int)] [E0,E0,E0,E0,E0,.slice none 0 0] Hc8 ⟨.inl O,.inl O,.inl O,.inl O,.inl O,.inr ⟨_,O,O⟩,G⟩ O O) O (G7 (hK1 (Jr fun hK2=>(JLm (I64 k) O (JLm (I64 i) O ?_)))))))
 obtain⟨r3,hr3,h⟩:=Gc h
 refine JLh (I64 r3) (Gm O (Q1 k i r3 hr3) G3f ⟨O,O,O,O,G⟩) O (JLh (.agg [I64 r3,I64 0,I64 0,I64 0,I64 0,E1 ([]:List Int)]) (Jp (cs:=[I64 r3,I64 0,I64 0,I64 0,I64 0,E1 ([]:List Int)]) [(0,1),(1,1),(2,1),(3,1),(4,1),(5,1)] [I64 0,I64 0,I64 0,I64 0,I64 0,E1 ([]:List Int)] [E0,E0,E0,E0,E0,.slice none 0 0] Q27 Hc8 ⟨.inl O,.inl O,.inl O,.inl O,.inl O,.inr ⟨_,O,O⟩,G⟩ O O) O (Jo (u:=.junk) (Jh (u:=.agg [I64 r3,I64 0,I64 0,I64 0,I64 0,E1 ([]:List Int)]) (ds:=[I64 r3,I64 0,I64 0,I64 0,I64 0,E1 ([]:List Int)]) Hc9 O O O O O O O O) (G7 (hK2 (Gn ?_)))))
 exact⟨[.agg [I64 r3,I64 0,I64 0,I64 0,I64 0,E1 ([]:List Int)]],[],G,O,⟨⟨_,⟨_,_,_,_,O,O,O,.inl ⟨G2b,O⟩⟩,.conv (.same O)⟩,G⟩,O,congrArg (fun r:Gg=>(.agg (Gg.cs r):AV)) (Option.some.inj h)⟩

def Zb (l:List Gg):Option (Ln H9):=
 chk ((l.length:Int)+12) fun v3=>
 bnd (H60 v3) fun m4=>
 need (decide (64*m4≤281474976710656∧m4≤maxLen)) <|
 each (fun y23 i23 (s23:(List H9)) nx23=>
  bnd (Zt y23) fun r28=>
  need (decide ((s23.length+[r28].length)*64≤140737488355328∧s23.length+[r28].length≤maxLen)) <|
  nx23 (s23++[r28]))
 (fun(s23:(List H9))=>
  need (decide (12≤9223372036854775807)) <|
  upto (fun i41 (s41:(List H9)) nx41=>
   bnd (R9 1 (i41:Int)) fun r45=>
   need (decide ((s41.length+[(H9.mk r45.Kilos r45.X r45.Y r45.Z r45.Surface (r45.Steps,([]:List Int)))].length)*64≤140737488355328∧s41.length+[(H9.mk r45.Kilos r45.X r45.Y r45.Z r45.Surface (r45.Steps,([]:List Int)))].length≤maxLen)) <|
   nx41 (s41++[(H9.mk r45.Kilos r45.X r45.Y r45.Z r45.Surface (r45.Steps,([]:List Int)))]))
  (fun(s41:(List H9))=>
   bnd (G5e (l.length:Int) s41.length) fun m48=>
   some (s41.take m48,s41.drop m48)) (12:Int).toNat 0 s23) l 0 []
theorem H42 (l:List Gg) (r:(Ln H9)) (h:Zb l=some r):Pure Ei 36 [E8 l] (·=LT 6 H9.av r):=by
 unfold Zb at h
 refine Gz [.tmp 2] Tryz.func36 O O (Jr fun hK1=>(JLh (E8 ([]:List Gg)) (Hb 6 O O) O (G7 (hK1 (Jr fun hK2=>(JLm (E8 l) O (JLl Jt O O O fun hm8=>?_)))))))
 obtain⟨v3,hv3,h⟩:=Q2 h
 refine JLh (I64 v3) (Hs hv3 O O O) O ?_
 obtain⟨m4,hm4,h⟩:=Gc h
 obtain⟨ha5,h⟩:=Hr h
 refine JLh (OW 1054 6 H9.av ([]:List H9)) (Gcd 1054 O O O O Jt Hd0 O (G72 hm4) ha5) O (JLm (OW 1054 6 H9.av ([]:List H9)) O (G7 (hK2 (Js fun hK6=>Jr fun hK7=>(JLm (I64 0) O (G7 (hK7 (Gq ?_))))))))
 obtain⟨b23,kx23,hb23,hkx23,h⟩:=J3 h
 refine Hd (fun i23 (s23:(List H9))=>each b23 kx23 (List.drop i23 l) i23 s23=some r) (fun i23 s23=>[(0,E8 l),(3,OW 1054 6 H9.av s23),(4,Eh i23)]) (fun i23 s23=>[(1054,.spare 129 6 s23.length s23.length)]) (fun i23=>l.length - i23) 0 [] h ⟨(.sm O O),⟨⟨_,O,.same⟩,G⟩,O⟩ ?_
 clear h
 intro i23 s23 hi23 K23 e23
 refine Js fun hK24=>Jr fun hK25=>(JLm (Eh i23) O (JLm (E8 l) O (JLl Jt O O O fun hm13=>(JLh (BL (decide ((i23:Int) < (l.length:Int)))) (Hz O O O) O (G7 (hK25 (Gi O (fun hb=>?_) (fun hb=>?_))))))))
 ·
  have hk23:=Jj hb
  obtain⟨y23,nx23,hy23,hn23,h⟩:=Hu hi23 hk23
  replace h:=Z9 hb23 h
  refine Gk (hK24 (Js fun hK26=>Gq (Jr fun hK27=>(JLm (E8 l) O (JLm (Eh i23) O (JLh (Eg y23) (Gw (f:=Gg.av) (xs:=l) (y:=y23) O O O Jt hy23 O) O (JLh (.agg (Gg.cs y23)) (Gh G2b O O O) O ?_)))))))
  obtain⟨r28,hr28,h⟩:=Gc h
  refine JLh (.agg (H9.cs r28)) (Gm O (H51 y23 r28 hr28) R0f ⟨O,O,G⟩) O (JLh (.ptr 1053 0) (Qo 1053 6 H9d O O) O (Jo (u:=.junk) (Jh (u:=.agg (H9.cs r28)) (ds:=[I64 r28.Kilos,I64 r28.X,I64 r28.Y,I64 r28.Z,I64 r28.Surface,LT 1 I64 r28.Steps]) Hc9 O O O O O O O O) (G7 (hK27 (Gx [(0,E8 l),(3,OW 1054 6 H9.av s23),(4,Eh i23),(5,.dptr (H9.cs r28))] [(1054,.spare 129 6 s23.length s23.length)] 1053 rfl rfl rfl ⟨⟨_,rfl,.same⟩,G⟩ rfl (by repeat' (first | exact .ptr | constructor)) (G2 (JLm (OW 1054 6 H9.av s23) O (JLh (.agg (H9.cs r28)) (Gh G2b O O O) O (JLh (LS 6 H9.av [r28]) (Hj (xs:=[.agg (H9.cs r28)]) O ⟨O,O,G⟩ Jt H9d O O O O) O ?_)))))))))
  obtain⟨ha29,h⟩:=Hr h
  refine JLh (OW 1054 6 H9.av (s23++[r28])) (Qt (f:=H9.av) (xs:=s23) (ys:=[r28]) O O O O Jt Hd0 ha29 (fun _=>O) (.inl O) O) O (JLm (OW 1054 6 H9.av (s23++[r28])) O (G7 (hK26 (G2 (JLm (Eh i23) O (JLh (I64 ((i23+1:Nat):Int)) (Hs (Hf hk23 hm13) O O O) O (JLm (I64 ((i23+1:Nat):Int)) O (G7 (e23 _ _ (i23+1) (s23++[r28]) (app1 hn23 h) (by omega) ⟨(.sm O O),⟨⟨_,rfl,.same⟩,G⟩,rfl⟩)))))))))
 ·
  have h:=app1 hkx23 (Hv hi23 (Ha hb))
  refine Hn (hK6 (Js fun hK30=>Jr fun hK31=>(JLm (I64 0) O (G7 (hK31 (Gq ?_))))))
  obtain⟨hx41,h⟩:=Hr h
  obtain⟨b41,kx41,hb41,hkx41,h⟩:=G4d h
  refine Hd (fun i41 (s41:(List H9))=>upto b41 kx41 ((12:Int).toNat - i41) i41 s41=some r) (fun i41 s41=>[(0,E8 l),(3,OW 1054 6 H9.av s41),(6,Eh i41)]) (fun i41 s41=>[(1054,.spare 129 6 s41.length s41.length)]) (fun i41=>(12:Int).toNat - i41) 0 s23 h ⟨(.sm O O),⟨⟨_,O,.same⟩,G⟩,O⟩ ?_
  clear h
  intro i41 s41 hi41 K41 e41
  refine Js fun hK42=>Jr fun hK43=>(JLm (Eh i41) O (JLh (BL (decide ((i41:Int) < 12))) (Hz O O O) O (G7 (hK43 (Gi O (fun hb=>?_) (fun hb=>?_))))))
  ·
   have hk41:=G21 hb
   obtain⟨nx41,hn41,h⟩:=G1e hi41 hk41
   replace h:=Hba hb41 h
   refine Gk (hK42 (Js fun hK44=>Gq (G2 (JLm (OW 1054 6 H9.av s41) O (JLm (Eh i41) O ?_)))))
   obtain⟨r45,hr45,h⟩:=Gc h
   refine JLh (.agg [I64 r45.Kilos,I64 r45.X,I64 r45.Y,I64 r45.Z,I64 r45.Surface,LT 1 I64 (r45.Steps,([]:List Int))]) (H1.cv (Cv.aggL (cs:=(Gg.cs r45)) ⟨.same,.same,.same,.same,.same,Cv.of0 r45.Steps,G⟩) (Gm O (G9f 1 (i41:Int) r45 hr45) Jc5 ⟨O,O,O,O,G⟩)) O (JLh (LS 6 H9.av ([(H9.mk r45.Kilos r45.X r45.Y r45.Z r45.Surface (r45.Steps,([]:List Int)))])) (Hj (xs:=[.agg [I64 r45.Kilos,I64 r45.X,I64 r45.Y,I64 r45.Z,I64 r45.Surface,LT 1 I64 (r45.Steps,([]:List Int))]]) O ⟨O,O,G⟩ Jt H9d O O O O) O ?_)
   obtain⟨ha46,h⟩:=Hr h
   refine JLh (OW 1054 6 H9.av (s41++[(H9.mk r45.Kilos r45.X r45.Y r45.Z r45.Surface (r45.Steps,([]:List Int)))])) (Qt (f:=H9.av) (xs:=s41) (ys:=[(H9.mk r45.Kilos r45.X r45.Y r45.Z r45.Surface (r45.Steps,([]:List Int)))]) O O O O Jt Hd0 ha46 (fun _=>O) (.inl O) O) O (JLm (OW 1054 6 H9.av (s41++[(H9.mk r45.Kilos r45.X r45.Y r45.Z r45.Surface (r45.Steps,([]:List Int)))])) O (G7 (hK44 (G2 (JLm (Eh i41) O (JLh (I64 ((i41+1:Nat):Int)) (Hs (Hf hk41 (Zj hx41)) O O O) O (JLm (I64 ((i41+1:Nat):Int)) O (G7 (e41 _ _ (i41+1) (s41++[(H9.mk r45.Kilos r45.X r45.Y r45.Z r45.Surface (r45.Steps,([]:List Int)))]) (app1 hn41 h) (by omega) ⟨(.sm O O),⟨⟨_,rfl,.same⟩,G⟩,rfl⟩)))))))))
  ·
   have h:=app1 hkx41 (G1f hi41 (Qu hb))
   refine Hn (hK30 (Jr fun hK47=>(JLm (OW 1054 6 H9.av s41) O (JLm (E8 l) O (JLl Jt O O O fun hm37=>?_)))))
   obtain⟨m48,hm48,h⟩:=Gc h
   refine JLh (LT 6 H9.av (s41.take m48,s41.drop m48)) (Ja2 (f:=H9.av) (xs:=s41) O O O Jt (Rq hm48)) O (JLm (LT 6 H9.av (s41.take m48,s41.drop m48)) O (G7 (hK47 (Gn (fin1 (fun r:(Ln H9)=>(LT 6 H9.av r:AV)) h)))))

def Zu (x:H0):Option Rv:=
 bnd (Yg x.Columns) fun r3=>
 bnd (Yy x.Covers) fun r5=>
 bnd (Zv x.Rows) fun r7=>
 bnd (Yx x.Frames) fun r9=>
 bnd (Zb x.Tanks) fun r11=>
 some (Rv.mk r3 r5 x.Light r7 r9 r11 x.G1)
abbrev Em:List AV:=[E5 ([]:List G3),E4 ([]:List G9),I64 0,I64 0,I64 0,I64 0,E7 ([]:List Row),E6 ([]:List Frame),E8 ([]:List Gg),I64 0,I64 0,I64 0,I64 0]
theorem H52 (x:H0) (r:Rv) (h:Zu x=some r):Pure Ei 6 [.agg (H0.cs x)] (·=.agg (Rv.cs r)):=by
 unfold Zu at h
 refine Gz [.cell 2 32] Tryz.func6 O O ?_
 refine Jr fun hK1=>(JLh (.ptr 1008 0) (Je (cs:=(H0.cs x)) 1008 O O O O O) O (JLh (.ptr 1009 0) (G47 1009 Em [.slice none 0 0,.slice none 0 0,E0,E0,E0,E0,.slice none 0 0,.slice none 0 0,.slice none 0 0,E0,E0,E0,E0] J14 ⟨.inr ⟨_,O,O⟩,.inr ⟨_,O,O⟩,.inl O,.inl O,.inl O,.inl O,.inr ⟨_,O,O⟩,.inr ⟨_,O,O⟩,.inr ⟨_,O,O⟩,.inl O,.inl O,.inl O,.inl O,G⟩ O O) O (G7 (hK1 ?_))))
 refine Jr fun hK2=>(JLh (.ptr 1008 0) (G31 Hi O O) O (JLh (E5 x.Columns) (G7b Ht O O O O) O ?_))
 obtain⟨r3,hr3,h⟩:=Gc h
 refine JLh (LT 12 Gv.av r3) (Gm O (H11 x.Columns r3 hr3) R21 ⟨O,O,G⟩) O (JLh (.ptr 1008 0) (G31 Hi O O) O (Jo (u:=.junk) (Jh (u:=LT 12 Gv.av r3) (ds:=[LT 12 Gv.av r3,E4 x.Covers,I64 x.Light.Kilos,I64 x.Light.X,I64 x.Light.Y,I64 x.Light.Z,E7 x.Rows,E6 x.Frames,E8 x.Tanks,I64 x.G1.Tolerance,I64 x.G1.Trim,I64 x.G1.List_,I64 x.G1.Stability]) R09 O O O O O O O O) (G7 (hK2 (Jr fun hK4=>(JLh (.ptr 1008 1) (G31 J0 O O) O (JLh (E4 x.Covers) (G7b J8 O O O O) O ?_)))))))
 obtain⟨r5,hr5,h⟩:=Gc h
 refine JLh (LT 2 H3.av r5) (Gm O (H20 x.Covers r5 hr5) R20 ⟨O,O,G⟩) O (JLh (.ptr 1008 1) (G31 J0 O O) O (Jo (u:=.junk) (Jh (u:=LT 2 H3.av r5) (ds:=[LT 12 Gv.av r3,LT 2 H3.av r5,I64 x.Light.Kilos,I64 x.Light.X,I64 x.Light.Y,I64 x.Light.Z,E7 x.Rows,E6 x.Frames,E8 x.Tanks,I64 x.G1.Tolerance,I64 x.G1.Trim,I64 x.G1.List_,I64 x.G1.Stability]) R08 O O O O O O O O) (G7 (hK4 (Jr fun hK6=>(JLh (.ptr 1008 6) (G31 G71 O O) O (JLh (E7 x.Rows) (G7b Gd4 O O O O) O ?_)))))))
 obtain⟨r7,hr7,h⟩:=Gc h
 refine JLh (LT 5 Row.av r7) (Gm O (H53 x.Rows r7 hr7) R1f ⟨O,O,G⟩) O (JLh (.ptr 1008 6) (G31 G71 O O) O (Jo (u:=.junk) (Jh (u:=LT 5 Row.av r7) (ds:=[LT 12 Gv.av r3,LT 2 H3.av r5,I64 x.Light.Kilos,I64 x.Light.X,I64 x.Light.Y,I64 x.Light.Z,LT 5 Row.av r7,E6 x.Frames,E8 x.Tanks,I64 x.G1.Tolerance,I64 x.G1.Trim,I64 x.G1.List_,I64 x.G1.Stability]) R07 O O O O O O O O) (G7 (hK6 (Jr fun hK8=>(JLh (.ptr 1008 7) (G31 G70 O O) O (JLh (E6 x.Frames) (G7b Gd3 O O O O) O ?_)))))))
 obtain⟨r9,hr9,h⟩:=Gc h
 refine JLh (LT 5 Frame.av r9) (Gm O (H1f x.Frames r9 hr9) R1e ⟨O,O,G⟩) O (JLh (.ptr 1008 7) (G31 G70 O O) O (Jo (u:=.junk) (Jh (u:=LT 5 Frame.av r9) (ds:=[LT 12 Gv.av r3,LT 2 H3.av r5,I64 x.Light.Kilos,I64 x.Light.X,I64 x.Light.Y,I64 x.Light.Z,LT 5 Row.av r7,LT 5 Frame.av r9,E8 x.Tanks,I64 x.G1.Tolerance,I64 x.G1.Trim,I64 x.G1.List_,I64 x.G1.Stability]) R06 O O O O O O O O) (G7 (hK8 (Jr fun hK10=>(JLh (.ptr 1008 8) (G31 G6f O O) O (JLh (E8 x.Tanks) (G7b Gd2 O O O O) O ?_)))))))
 obtain⟨r11,hr11,h⟩:=Gc h
 refine JLh (LT 6 H9.av r11) (Gm O (H42 x.Tanks r11 hr11) R1d ⟨O,O,G⟩) O (JLh (.ptr 1008 8) (G31 G6f O O) O (Jo (u:=.junk) (Jh (u:=LT 6 H9.av r11) (ds:=[LT 12 Gv.av r3,LT 2 H3.av r5,I64 x.Light.Kilos,I64 x.Light.X,I64 x.Light.Y,I64 x.Light.Z,LT 5 Row.av r7,LT 5 Frame.av r9,LT 6 H9.av r11,I64 x.G1.Tolerance,I64 x.G1.Trim,I64 x.G1.List_,I64 x.G1.Stability]) R05 O O O O O O O O) (G7 (hK10 ?_))))
 refine Gx [(1,.dptr [LT 12 Gv.av r3,LT 2 H3.av r5,I64 x.Light.Kilos,I64 x.Light.X,I64 x.Light.Y,I64 x.Light.Z,LT 5 Row.av r7,LT 5 Frame.av r9,LT 6 H9.av r11,I64 x.G1.Tolerance,I64 x.G1.Trim,I64 x.G1.List_,I64 x.G1.Stability]),(2,.ptr 1009 0)] [(1009,.box 32 Em)] 1008 rfl rfl rfl ⟨⟨_,rfl,.boxEq rfl rfl⟩,G⟩ rfl (by exact⟨.ptr,.conv (.same rfl),G⟩) ?_
 refine Jr fun hK12=>(JLh (.agg [LT 12 Gv.av r3,LT 2 H3.av r5,I64 x.Light.Kilos,I64 x.Light.X,I64 x.Light.Y,I64 x.Light.Z,LT 5 Row.av r7,LT 5 Frame.av r9,LT 6 H9.av r11,I64 x.G1.Tolerance,I64 x.G1.Trim,I64 x.G1.List_,I64 x.G1.Stability]) (Gh Hc O O O) O (Jo (u:=.junk) (Jh (u:=.agg [LT 12 Gv.av r3,LT 2 H3.av r5,I64 x.Light.Kilos,I64 x.Light.X,I64 x.Light.Y,I64 x.Light.Z,LT 5 Row.av r7,LT 5 Frame.av r9,LT 6 H9.av r11,I64 x.G1.Tolerance,I64 x.G1.Trim,I64 x.G1.List_,I64 x.G1.Stability]) (ds:=[LT 12 Gv.av r3,LT 2 H3.av r5,I64 x.Light.Kilos,I64 x.Light.X,I64 x.Light.Y,I64 x.Light.Z,LT 5 Row.av r7,LT 5 Frame.av r9,LT 6 H9.av r11,I64 x.G1.Tolerance,I64 x.G1.Trim,I64 x.G1.List_,I64 x.G1.Stability]) Ha0 O O O O O O O O) (G7 (hK12 ?_))))
 refine Gn (⟨[.agg [LT 12 Gv.av r3,LT 2 H3.av r5,I64 x.Light.Kilos,I64 x.Light.X,I64 x.Light.Y,I64 x.Light.Z,LT 5 Row.av r7,LT 5 Frame.av r9,LT 6 H9.av r11,I64 x.G1.Tolerance,I64 x.G1.Trim,I64 x.G1.List_,I64 x.G1.Stability]],[],G,O,⟨⟨_,⟨_,_,_,_,O,O,O,.inl ⟨Hc,O⟩⟩,.conv (.same O)⟩,G⟩,O,congrArg (fun r:Rv=>(.agg (Rv.cs r):AV)) (Option.some.inj h)⟩)

def Ji (a:List Int) (b:List Int):Option Bool:=
 bif decide ((a.length:Int)≠(b.length:Int)) then
 (some false)
 else
 (each (fun y24 i24 (s24:Unit) nx24=>
   Qq b (i24:Int) fun y29=>
   bif decide (y24≠y29) then
   (some false)
   else
   (nx24 ()))
  (fun(s24:Unit)=>
   some true) a 0 ())
theorem Qh (a:List Int) (b:List Int) (r:Bool) (h:Ji a b=some r):Pure Ei 27 [E1 a,E1 b] (·=BL r):=by
 unfold Ji at h
 refine Gz [.tmp 4] Tryz.func27 O O (Jr fun hK1=>(JLm (BL false) O (G7 (hK1 (Js fun hK2=>Jr fun hK3=>(JLm (E1 a) O (JLl Gs O O O fun hm7=>(JLm (E1 b) O (JLl Gs O O O fun hm9=>(JLh (BL (decide ((a.length:Int)≠(b.length:Int)))) (G0e O O O) O (G7 (hK3 (JCc O h (fun h hb=>?_) (fun h hb=>?_))))))))))))))
 ·
  refine Jr fun hK4=>(JLm (BL false) O (G7 (hK4 (Gn (fin1 BL h)))))
 ·
  refine Gk (hK2 (Js fun hK5=>Jr fun hK6=>(JLm (I64 0) O (G7 (hK6 (Gq ?_))))))
  obtain⟨b24,kx24,hb24,hkx24,h⟩:=J3 h
  refine Hd (fun i24 (s24:Unit)=>each b24 kx24 (List.drop i24 a) i24 s24=some r) (fun i24 s24=>[(0,E1 a),(1,E1 b),(5,Eh i24)]) (fun i24 s24=>[]) (fun i24=>a.length - i24) 0 () h ⟨(.sm O O),G,O⟩ ?_
  clear h
  intro i24 s24 hi24 K24 e24
  refine Js fun hK25=>Jr fun hK26=>(JLm (Eh i24) O (JLm (E1 a) O (JLl Gs O O O fun hm13=>(JLh (BL (decide ((i24:Int) < (a.length:Int)))) (Hz O O O) O (G7 (hK26 (Gi O (fun hb=>?_) (fun hb=>?_))))))))
  ·
   have hk24:=Jj hb
   obtain⟨y24,nx24,hy24,hn24,h⟩:=Hu hi24 hk24
   replace h:=Z9 hb24 h
   refine Gk (hK25 (Js fun hK27=>Gq (Js fun hK28=>?_)))
   obtain⟨m30,y29,hm30,hy29,h⟩:=R1 h
   refine JC_d0 J6 (by kernel_rfl) (Dq (E1 a) (G4 O O) O (Dq (Eh i24) (G4 O O) O (Dq (.dptr [I64 y24]) (Gw (f:=I64) (xs:=a) (y:=y24) O O O Gs hy24 O) O (Dq (I64 y24) (Gf Gd O O O) O (Dq (E1 b) (G4 O O) O (Dq (Eh i24) (G4 O O) O (Dq (.dptr [I64 y29]) (Gw (f:=I64) (xs:=b) (y:=y29) O O O Gs hy29 hm30) O (Dq (I64 y29) (Gf Gd O O O) O (Dq (BL (decide (y24≠y29))) (G0e O O O) O (Dnil (hK28 (JCc O h (fun h hb=>?_) (fun h hb=>?_)))))))))))))
   ·
    refine Jr fun hK31=>(JLm (BL false) O (G7 (hK31 (Gn (fin1 BL h)))))
   ·
    refine Gk (hK27 (G2 (JLm (Eh i24) O (JLh (I64 ((i24+1:Nat):Int)) (Hs (Hf hk24 hm13) O O O) O (JLm (I64 ((i24+1:Nat):Int)) O (G7 (e24 _ _ (i24+1) () (app1 hn24 h) (by omega) ⟨(.sm O O),G,rfl⟩)))))))
  ·
   have h:=app1 hkx24 (Hv hi24 (Ha hb))
   refine Hn (hK5 (Jr fun hK32=>(JLm (BL true) O (G7 (hK32 (Gn (fin1 BL h)))))))

def Jm (a:G3) (b:G3):Option Bool:=
 bnd (bif ((((((((decide (a.Bay=b.Bay))&&(decide (a.Row=b.Row)))&&(a.Deck==b.Deck))&&(decide (a.Tiers=b.Tiers)))&&(decide (a.Height=b.Height)))&&(decide (a.Kilos20=b.Kilos20)))&&(decide (a.Kilos40=b.Kilos40)))&&(decide (a.Lash=b.Lash))) then Ji a.Plugs b.Plugs else some default) fun r3=>
 some ((((((((((((decide (a.Bay=b.Bay))&&(decide (a.Row=b.Row)))&&(a.Deck==b.Deck))&&(decide (a.Tiers=b.Tiers)))&&(decide (a.Height=b.Height)))&&(decide (a.Kilos20=b.Kilos20)))&&(decide (a.Kilos40=b.Kilos40)))&&(decide (a.Lash=b.Lash)))&&r3)&&(decide (a.X=b.X)))&&(decide (a.Y=b.Y)))&&(decide (a.Z=b.Z)))
theorem G37 (a:G3) (b:G3) (r:Bool) (h:Jm a b=some r):Pure Ei 123 [.agg (G3.cs a),.agg (G3.cs b)] (·=BL r):=by
 unfold Jm at h
 refine Gz [.tmp 4] Tryz.func123 O O (Jr fun hK1=>(JLh (.ptr 1131 0) (Je (cs:=(G3.cs a)) 1131 O O O O O) O (JLh (.ptr 1132 0) (Je (cs:=(G3.cs b)) 1132 O O O O O) O (JLm (BL false) O (G7 (hK1 (Gx [(2,Ed a),(3,.ptr 1132 0)] [(1132,.box 67 (G3.cs b))] 1131 rfl rfl rfl ⟨⟨_,rfl,.boxEq rfl rfl⟩,G⟩ rfl (by exact⟨.ptr,.conv (.same rfl),G⟩) ?_)))))))
 refine Gx [(2,Ed a),(3,Ed b)] [] 1132 rfl rfl rfl G rfl (by exact⟨.conv (.same rfl),.ptr,G⟩) ?_
 refine Jr fun hK2=>(JLh (Ed a) (Ga G19 O O O) O (JLh (I64 a.Bay) (Gf Gd O O O) O (JLh (Ed b) (Ga G19 O O O) O (JLh (I64 b.Bay) (Gf Gd O O O) O (JLh (BL (decide (a.Bay=b.Bay))) (Jw O O O) O (JLm (BL (decide (a.Bay=b.Bay))) O (JLo (.dptr ((G3.cs a).drop 1)) [] O .sct G (fun hc=>Ga G18 O O O) O (JLo (I64 a.Row) [11] O .sct ⟨Ua,G⟩ (fun hc=>Gf Gd O O O) O (JLo (.dptr ((G3.cs b).drop 1)) [] O .sct G (fun hc=>Ga G18 O O O) O (JLo (I64 b.Row) [13] O .sct ⟨Ua,G⟩ (fun hc=>Gf Gd O O O) O (JLo (BL (decide (a.Row=b.Row))) [12,14] O .sct ⟨Ua,Ua,G⟩ (fun hc=>Jw O O O) O (JLh (BL ((decide (a.Bay=b.Bay))&&(decide (a.Row=b.Row)))) (Hy O O O O) O (JLm (BL ((decide (a.Bay=b.Bay))&&(decide (a.Row=b.Row)))) O ?_)))))))))))))
 refine JLo (.dptr ((G3.cs a).drop 2)) [] O .sct G (fun hc=>Ga Yj O O O) O (JLo (BL a.Deck) [18] O .sct ⟨Ua,G⟩ (fun hc=>Gf Yc O O O) O (JLo (.dptr ((G3.cs b).drop 2)) [] O .sct G (fun hc=>Ga Yj O O O) O (JLo (BL b.Deck) [20] O .sct ⟨Ua,G⟩ (fun hc=>Gf Yc O O O) O (JLo (BL (a.Deck==b.Deck)) [19,21] O .sct ⟨Ua,Ua,G⟩ (fun hc=>J5b Hf6 O O O) O (JLh (BL (((decide (a.Bay=b.Bay))&&(decide (a.Row=b.Row)))&&(a.Deck==b.Deck))) (Hy O O O O) O (JLm (BL (((decide (a.Bay=b.Bay))&&(decide (a.Row=b.Row)))&&(a.Deck==b.Deck))) O (JLo (.dptr ((G3.cs a).drop 3)) [] O .sct G (fun hc=>Ga G17 O O O) O (JLo (I64 a.Tiers) [25] O .sct ⟨Ua,G⟩ (fun hc=>Gf Gd O O O) O (JLo (.dptr ((G3.cs b).drop 3)) [] O .sct G (fun hc=>Ga G17 O O O) O (JLo (I64 b.Tiers) [27] O .sct ⟨Ua,G⟩ (fun hc=>Gf Gd O O O) O (JLo (BL (decide (a.Tiers=b.Tiers))) [26,28] O .sct ⟨Ua,Ua,G⟩ (fun hc=>Jw O O O) O (JLh (BL ((((decide (a.Bay=b.Bay))&&(decide (a.Row=b.Row)))&&(a.Deck==b.Deck))&&(decide (a.Tiers=b.Tiers)))) (Hy O O O O) O (JLm (BL ((((decide (a.Bay=b.Bay))&&(decide (a.Row=b.Row)))&&(a.Deck==b.Deck))&&(decide (a.Tiers=b.Tiers)))) O ?_)))))))))))))
 refine JLo (.dptr ((G3.cs a).drop 4)) [] O .sct G (fun hc=>Ga G3a O O O) O (JLo (I64 a.Height) [32] O .sct ⟨Ua,G⟩ (fun hc=>Gf Gd O O O) O (JLo (.dptr ((G3.cs b).drop 4)) [] O .sct G (fun hc=>Ga G3a O O O) O (JLo (I64 b.Height) [34] O .sct ⟨Ua,G⟩ (fun hc=>Gf Gd O O O) O (JLo (BL (decide (a.Height=b.Height))) [33,35] O .sct ⟨Ua,Ua,G⟩ (fun hc=>Jw O O O) O (JLh (BL (((((decide (a.Bay=b.Bay))&&(decide (a.Row=b.Row)))&&(a.Deck==b.Deck))&&(decide (a.Tiers=b.Tiers)))&&(decide (a.Height=b.Height)))) (Hy O O O O) O (JLm (BL (((((decide (a.Bay=b.Bay))&&(decide (a.Row=b.Row)))&&(a.Deck==b.Deck))&&(decide (a.Tiers=b.Tiers)))&&(decide (a.Height=b.Height)))) O (JLo (.dptr ((G3.cs a).drop 5)) [] O .sct G (fun hc=>Ga Gf9 O O O) O (JLo (I64 a.Kilos20) [39] O .sct ⟨Ua,G⟩ (fun hc=>Gf Gd O O O) O (JLo (.dptr ((G3.cs b).drop 5)) [] O .sct G (fun hc=>Ga Gf9 O O O) O (JLo (I64 b.Kilos20) [41] O .sct ⟨Ua,G⟩ (fun hc=>Gf Gd O O O) O (JLo (BL (decide (a.Kilos20=b.Kilos20))) [40,42] O .sct ⟨Ua,Ua,G⟩ (fun hc=>Jw O O O) O (JLh (BL ((((((decide (a.Bay=b.Bay))&&(decide (a.Row=b.Row)))&&(a.Deck==b.Deck))&&(decide (a.Tiers=b.Tiers)))&&(decide (a.Height=b.Height)))&&(decide (a.Kilos20=b.Kilos20)))) (Hy O O O O) O (JLm (BL ((((((decide (a.Bay=b.Bay))&&(decide (a.Row=b.Row)))&&(a.Deck==b.Deck))&&(decide (a.Tiers=b.Tiers)))&&(decide (a.Height=b.Height)))&&(decide (a.Kilos20=b.Kilos20)))) O ?_)))))))))))))
 refine JLo (.dptr ((G3.cs a).drop 6)) [] O .sct G (fun hc=>Ga Gf8 O O O) O (JLo (I64 a.Kilos40) [46] O .sct ⟨Ua,G⟩ (fun hc=>Gf Gd O O O) O (JLo (.dptr ((G3.cs b).drop 6)) [] O .sct G (fun hc=>Ga Gf8 O O O) O (JLo (I64 b.Kilos40) [48] O .sct ⟨Ua,G⟩ (fun hc=>Gf Gd O O O) O (JLo (BL (decide (a.Kilos40=b.Kilos40))) [47,49] O .sct ⟨Ua,Ua,G⟩ (fun hc=>Jw O O O) O (JLh (BL (((((((decide (a.Bay=b.Bay))&&(decide (a.Row=b.Row)))&&(a.Deck==b.Deck))&&(decide (a.Tiers=b.Tiers)))&&(decide (a.Height=b.Height)))&&(decide (a.Kilos20=b.Kilos20)))&&(decide (a.Kilos40=b.Kilos40)))) (Hy O O O O) O (JLm (BL (((((((decide (a.Bay=b.Bay))&&(decide (a.Row=b.Row)))&&(a.Deck==b.Deck))&&(decide (a.Tiers=b.Tiers)))&&(decide (a.Height=b.Height)))&&(decide (a.Kilos20=b.Kilos20)))&&(decide (a.Kilos40=b.Kilos40)))) O (JLo (.dptr ((G3.cs a).drop 7)) [] O .sct G (fun hc=>Ga Gf7 O O O) O (JLo (I64 a.Lash) [53] O .sct ⟨Ua,G⟩ (fun hc=>Gf Gd O O O) O (JLo (.dptr ((G3.cs b).drop 7)) [] O .sct G (fun hc=>Ga Gf7 O O O) O (JLo (I64 b.Lash) [55] O .sct ⟨Ua,G⟩ (fun hc=>Gf Gd O O O) O (JLo (BL (decide (a.Lash=b.Lash))) [54,56] O .sct ⟨Ua,Ua,G⟩ (fun hc=>Jw O O O) O (JLh (BL ((((((((decide (a.Bay=b.Bay))&&(decide (a.Row=b.Row)))&&(a.Deck==b.Deck))&&(decide (a.Tiers=b.Tiers)))&&(decide (a.Height=b.Height)))&&(decide (a.Kilos20=b.Kilos20)))&&(decide (a.Kilos40=b.Kilos40)))&&(decide (a.Lash=b.Lash)))) (Hy O O O O) O (JLm (BL ((((((((decide (a.Bay=b.Bay))&&(decide (a.Row=b.Row)))&&(a.Deck==b.Deck))&&(decide (a.Tiers=b.Tiers)))&&(decide (a.Height=b.Height)))&&(decide (a.Kilos20=b.Kilos20)))&&(decide (a.Kilos40=b.Kilos40)))&&(decide (a.Lash=b.Lash)))) O ?_)))))))))))))
 refine JLo (.dptr ((G3.cs a).drop 8)) [] O .sct G (fun hc=>Ga Rc O O O) O (JLo (E1 a.Plugs) [60] O .sct ⟨Ua,G⟩ (fun hc=>Gf Hw O O O) O (JLo (.dptr ((G3.cs b).drop 8)) [] O .sct G (fun hc=>Ga Rc O O O) O (JLo (E1 b.Plugs) [62] O .sct ⟨Ua,G⟩ (fun hc=>Gf Hw O O O) O ?_)))
 obtain⟨r3,hr3,h⟩:=Gc h
 refine JLo (BL r3) [61,63] O .sct ⟨Ua,Ua,G⟩ (fun hc=>Gm (args:=[E1 a.Plugs,E1 b.Plugs]) O (Qh a.Plugs b.Plugs r3 (Gu hc hr3)) G82 ⟨O,O,O,O,G⟩) O (JLh (BL (((((((((decide (a.Bay=b.Bay))&&(decide (a.Row=b.Row)))&&(a.Deck==b.Deck))&&(decide (a.Tiers=b.Tiers)))&&(decide (a.Height=b.Height)))&&(decide (a.Kilos20=b.Kilos20)))&&(decide (a.Kilos40=b.Kilos40)))&&(decide (a.Lash=b.Lash)))&&r3)) (Hy O O O O) O (JLm (BL (((((((((decide (a.Bay=b.Bay))&&(decide (a.Row=b.Row)))&&(a.Deck==b.Deck))&&(decide (a.Tiers=b.Tiers)))&&(decide (a.Height=b.Height)))&&(decide (a.Kilos20=b.Kilos20)))&&(decide (a.Kilos40=b.Kilos40)))&&(decide (a.Lash=b.Lash)))&&r3)) O (JLo (.dptr [I64 a.X,I64 a.Y,I64 a.Z]) [] O .sct G (fun hc=>Ga Gf6 O O O) O (JLo (I64 a.X) [67] O .sct ⟨Ua,G⟩ (fun hc=>Gf Gd O O O) O (JLo (.dptr [I64 b.X,I64 b.Y,I64 b.Z]) [] O .sct G (fun hc=>Ga Gf6 O O O) O (JLo (I64 b.X) [69] O .sct ⟨Ua,G⟩ (fun hc=>Gf Gd O O O) O (JLo (BL (decide (a.X=b.X))) [68,70] O .sct ⟨Ua,Ua,G⟩ (fun hc=>Jw O O O) O (JLh (BL ((((((((((decide (a.Bay=b.Bay))&&(decide (a.Row=b.Row)))&&(a.Deck==b.Deck))&&(decide (a.Tiers=b.Tiers)))&&(decide (a.Height=b.Height)))&&(decide (a.Kilos20=b.Kilos20)))&&(decide (a.Kilos40=b.Kilos40)))&&(decide (a.Lash=b.Lash)))&&r3)&&(decide (a.X=b.X)))) (Hy O O O O) O (JLm (BL ((((((((((decide (a.Bay=b.Bay))&&(decide (a.Row=b.Row)))&&(a.Deck==b.Deck))&&(decide (a.Tiers=b.Tiers)))&&(decide (a.Height=b.Height)))&&(decide (a.Kilos20=b.Kilos20)))&&(decide (a.Kilos40=b.Kilos40)))&&(decide (a.Lash=b.Lash)))&&r3)&&(decide (a.X=b.X)))) O (JLo (.dptr [I64 a.Y,I64 a.Z]) [] O .sct G (fun hc=>Ga Gd6 O O O) O (JLo (I64 a.Y) [74] O .sct ⟨Ua,G⟩ (fun hc=>Gf Gd O O O) O (JLo (.dptr [I64 b.Y,I64 b.Z]) [] O .sct G (fun hc=>Ga Gd6 O O O) O (JLo (I64 b.Y) [76] O .sct ⟨Ua,G⟩ (fun hc=>Gf Gd O O O) O ?_)))))))))))))
 refine JLo (BL (decide (a.Y=b.Y))) [75,77] O .sct ⟨Ua,Ua,G⟩ (fun hc=>Jw O O O) O (JLh (BL (((((((((((decide (a.Bay=b.Bay))&&(decide (a.Row=b.Row)))&&(a.Deck==b.Deck))&&(decide (a.Tiers=b.Tiers)))&&(decide (a.Height=b.Height)))&&(decide (a.Kilos20=b.Kilos20)))&&(decide (a.Kilos40=b.Kilos40)))&&(decide (a.Lash=b.Lash)))&&r3)&&(decide (a.X=b.X)))&&(decide (a.Y=b.Y)))) (Hy O O O O) O (JLm (BL (((((((((((decide (a.Bay=b.Bay))&&(decide (a.Row=b.Row)))&&(a.Deck==b.Deck))&&(decide (a.Tiers=b.Tiers)))&&(decide (a.Height=b.Height)))&&(decide (a.Kilos20=b.Kilos20)))&&(decide (a.Kilos40=b.Kilos40)))&&(decide (a.Lash=b.Lash)))&&r3)&&(decide (a.X=b.X)))&&(decide (a.Y=b.Y)))) O (JLo (.dptr [I64 a.Z]) [] O .sct G (fun hc=>Ga Gd5 O O O) O (JLo (I64 a.Z) [81] O .sct ⟨Ua,G⟩ (fun hc=>Gf Gd O O O) O (JLo (.dptr [I64 b.Z]) [] O .sct G (fun hc=>Ga Gd5 O O O) O (JLo (I64 b.Z) [83] O .sct ⟨Ua,G⟩ (fun hc=>Gf Gd O O O) O (JLo (BL (decide (a.Z=b.Z))) [82,84] O .sct ⟨Ua,Ua,G⟩ (fun hc=>Jw O O O) O (JLh (BL ((((((((((((decide (a.Bay=b.Bay))&&(decide (a.Row=b.Row)))&&(a.Deck==b.Deck))&&(decide (a.Tiers=b.Tiers)))&&(decide (a.Height=b.Height)))&&(decide (a.Kilos20=b.Kilos20)))&&(decide (a.Kilos40=b.Kilos40)))&&(decide (a.Lash=b.Lash)))&&r3)&&(decide (a.X=b.X)))&&(decide (a.Y=b.Y)))&&(decide (a.Z=b.Z)))) (Hy O O O O) O (JLm (BL ((((((((((((decide (a.Bay=b.Bay))&&(decide (a.Row=b.Row)))&&(a.Deck==b.Deck))&&(decide (a.Tiers=b.Tiers)))&&(decide (a.Height=b.Height)))&&(decide (a.Kilos20=b.Kilos20)))&&(decide (a.Kilos40=b.Kilos40)))&&(decide (a.Lash=b.Lash)))&&r3)&&(decide (a.X=b.X)))&&(decide (a.Y=b.Y)))&&(decide (a.Z=b.Z)))) O (G7 (hK2 ?_)))))))))))
 refine Gn (fin1 BL h)

def Ye (a:List G3) (b:List G3):Option Bool:=
 bif decide ((a.length:Int)≠(b.length:Int)) then
 (some false)
 else
 (each (fun y26 i26 (s26:Unit) nx26=>
   Qq b (i26:Int) fun y31=>
   bnd (Jm y26 y31) fun r33=>
   bif (!r33) then
   (some false)
   else
   (nx26 ()))
  (fun(s26:Unit)=>
   some true) a 0 ())
theorem H0f (a:List G3) (b:List G3) (r:Bool) (h:Ye a b=some r):Pure Ei 117 [E5 a,E5 b] (·=BL r):=by
 unfold Ye at h
 refine Gz [.tmp 4] Tryz.func117 O O (Jr fun hK1=>(JLm (BL false) O (G7 (hK1 (Js fun hK2=>Jr fun hK3=>(JLm (E5 a) O (JLl H4 O O O fun hm7=>(JLm (E5 b) O (JLl H4 O O O fun hm9=>(JLh (BL (decide ((a.length:Int)≠(b.length:Int)))) (G0e O O O) O (G7 (hK3 (JCc O h (fun h hb=>?_) (fun h hb=>?_))))))))))))))
 ·
  refine Jr fun hK4=>(JLm (BL false) O (G7 (hK4 (Gn (fin1 BL h)))))
 ·
  refine Gk (hK2 (Js fun hK5=>Jr fun hK6=>(JLm (I64 0) O (G7 (hK6 (Gq ?_))))))
  obtain⟨b26,kx26,hb26,hkx26,h⟩:=J3 h
  refine Hd (fun i26 (s26:Unit)=>each b26 kx26 (List.drop i26 a) i26 s26=some r) (fun i26 s26=>[(0,E5 a),(1,E5 b),(5,Eh i26)]) (fun i26 s26=>[]) (fun i26=>a.length - i26) 0 () h ⟨(.sm O O),G,O⟩ ?_
  clear h
  intro i26 s26 hi26 K26 e26
  refine Js fun hK27=>Jr fun hK28=>(JLm (Eh i26) O (JLm (E5 a) O (JLl H4 O O O fun hm13=>(JLh (BL (decide ((i26:Int) < (a.length:Int)))) (Hz O O O) O (G7 (hK28 (Gi O (fun hb=>?_) (fun hb=>?_))))))))
  ·
   have hk26:=Jj hb
   obtain⟨y26,nx26,hy26,hn26,h⟩:=Hu hi26 hk26
   replace h:=Z9 hb26 h
   refine Gk (hK27 (Js fun hK29=>Gq (Js fun hK30=>?_)))
   obtain⟨m32,y31,hm32,hy31,h⟩:=R1 h
   obtain⟨r33,hr33,h⟩:=Gc h
   refine JC_d0 J6 (by kernel_rfl) (Dq (E5 a) (G4 O O) O (Dq (Eh i26) (G4 O O) O (Dq (Ed y26) (Gw (f:=G3.av) (xs:=a) (y:=y26) O O O H4 hy26 O) O (Dq (.agg (G3.cs y26)) (Gh Y5 O O O) O (Dq (E5 b) (G4 O O) O (Dq (Eh i26) (G4 O O) O (Dq (Ed y31) (Gw (f:=G3.av) (xs:=b) (y:=y31) O O O H4 hy31 hm32) O (Dq (.agg (G3.cs y31)) (Gh Y5 O O O) O (Dq (BL r33) (Gm (args:=[.agg (G3.cs y26),.agg (G3.cs y31)]) O (G37 y26 y31 r33 hr33) Hd6 ⟨O,O,O,O,G⟩) O (Dq (BL (!r33)) (Q7 (b:=r33) O O) O (Dnil (hK30 (JCc O h (fun h hb=>?_) (fun h hb=>?_))))))))))))))
   ·
    refine Jr fun hK34=>(JLm (BL false) O (G7 (hK34 (Gn (fin1 BL h)))))
   ·
    refine Gk (hK29 (G2 (JLm (Eh i26) O (JLh (I64 ((i26+1:Nat):Int)) (Hs (Hf hk26 hm13) O O O) O (JLm (I64 ((i26+1:Nat):Int)) O (G7 (e26 _ _ (i26+1) () (app1 hn26 h) (by omega) ⟨(.sm O O),G,rfl⟩)))))))
  ·
   have h:=app1 hkx26 (Hv hi26 (Ha hb))
   refine Hn (hK5 (Jr fun hK35=>(JLm (BL true) O (G7 (hK35 (Gn (fin1 BL h)))))))

def Jv (a:G9) (b:G9):Option Bool:=
 bnd (bif decide (a.Bay=b.Bay) then Ji a.Rows b.Rows else some default) fun r3=>
 some ((decide (a.Bay=b.Bay))&&r3)
theorem G43 (a:G9) (b:G9) (r:Bool) (h:Jv a b=some r):Pure Ei 125 [.agg [I64 a.Bay,E1 a.Rows],.agg [I64 b.Bay,E1 b.Rows]] (·=BL r):=by
 unfold Jv at h
 refine Gz [.tmp 4] Tryz.func125 O O (Jr fun hK1=>(JLh (.ptr 1135 0) (Je (cs:=[I64 a.Bay,E1 a.Rows]) 1135 O O O O O) O (JLh (.ptr 1136 0) (Je (cs:=[I64 b.Bay,E1 b.Rows]) 1136 O O O O O) O (JLm (BL false) O (G7 (hK1 (Gx [(2,.dptr [I64 a.Bay,E1 a.Rows]),(3,.ptr 1136 0)] [(1136,.box 69 [I64 b.Bay,E1 b.Rows])] 1135 rfl rfl rfl ⟨⟨_,rfl,.boxEq rfl rfl⟩,G⟩ rfl (by exact⟨.ptr,.conv (.same rfl),G⟩) (Gx [(2,.dptr [I64 a.Bay,E1 a.Rows]),(3,.dptr [I64 b.Bay,E1 b.Rows])] [] 1136 rfl rfl rfl G rfl (by exact⟨.conv (.same rfl),.ptr,G⟩) ?_))))))))
 refine Jr fun hK2=>(JLh (.dptr [I64 a.Bay,E1 a.Rows]) (Ga G04 O O O) O (JLh (I64 a.Bay) (Gf Gd O O O) O (JLh (.dptr [I64 b.Bay,E1 b.Rows]) (Ga G04 O O O) O (JLh (I64 b.Bay) (Gf Gd O O O) O (JLh (BL (decide (a.Bay=b.Bay))) (Jw O O O) O (JLm (BL (decide (a.Bay=b.Bay))) O (JLo (.dptr [E1 a.Rows]) [] O .sct G (fun hc=>Ga Q5 O O O) O (JLo (E1 a.Rows) [11] O .sct ⟨Ua,G⟩ (fun hc=>Gf Hw O O O) O (JLo (.dptr [E1 b.Rows]) [] O .sct G (fun hc=>Ga Q5 O O O) O (JLo (E1 b.Rows) [13] O .sct ⟨Ua,G⟩ (fun hc=>Gf Hw O O O) O ?_))))))))))
 obtain⟨r3,hr3,h⟩:=Gc h
 refine JLo (BL r3) [12,14] O .sct ⟨Ua,Ua,G⟩ (fun hc=>Gm (args:=[E1 a.Rows,E1 b.Rows]) O (Qh a.Rows b.Rows r3 (Gu hc hr3)) G82 ⟨O,O,O,O,G⟩) O (JLh (BL ((decide (a.Bay=b.Bay))&&r3)) (Hy O O O O) O (JLm (BL ((decide (a.Bay=b.Bay))&&r3)) O (G7 (hK2 (Gn (fin1 BL h))))))

def Yw (a:List G9) (b:List G9):Option Bool:=
 bif decide ((a.length:Int)≠(b.length:Int)) then
 (some false)
 else
 (each (fun y26 i26 (s26:Unit) nx26=>
   Qq b (i26:Int) fun y31=>
   bnd (Jv y26 y31) fun r33=>
   bif (!r33) then
   (some false)
   else
   (nx26 ()))
  (fun(s26:Unit)=>
   some true) a 0 ())
theorem H1e (a:List G9) (b:List G9) (r:Bool) (h:Yw a b=some r):Pure Ei 118 [E4 a,E4 b] (·=BL r):=by
 unfold Yw at h
 refine Gz [.tmp 4] Tryz.func118 O O (Jr fun hK1=>(JLm (BL false) O (G7 (hK1 (Js fun hK2=>Jr fun hK3=>(JLm (E4 a) O (JLl He O O O fun hm7=>(JLm (E4 b) O (JLl He O O O fun hm9=>(JLh (BL (decide ((a.length:Int)≠(b.length:Int)))) (G0e O O O) O (G7 (hK3 (JCc O h (fun h hb=>?_) (fun h hb=>?_))))))))))))))
 ·
  refine Jr fun hK4=>(JLm (BL false) O (G7 (hK4 (Gn (fin1 BL h)))))
 ·
  refine Gk (hK2 (Js fun hK5=>Jr fun hK6=>(JLm (I64 0) O (G7 (hK6 (Gq ?_))))))
  obtain⟨b26,kx26,hb26,hkx26,h⟩:=J3 h
  refine Hd (fun i26 (s26:Unit)=>each b26 kx26 (List.drop i26 a) i26 s26=some r) (fun i26 s26=>[(0,E4 a),(1,E4 b),(5,Eh i26)]) (fun i26 s26=>[]) (fun i26=>a.length - i26) 0 () h ⟨(.sm O O),G,O⟩ ?_
  clear h
  intro i26 s26 hi26 K26 e26
  refine Js fun hK27=>Jr fun hK28=>(JLm (Eh i26) O (JLm (E4 a) O (JLl He O O O fun hm13=>(JLh (BL (decide ((i26:Int) < (a.length:Int)))) (Hz O O O) O (G7 (hK28 (Gi O (fun hb=>?_) (fun hb=>?_))))))))
  ·
   have hk26:=Jj hb
   obtain⟨y26,nx26,hy26,hn26,h⟩:=Hu hi26 hk26
   replace h:=Z9 hb26 h
   refine Gk (hK27 (Js fun hK29=>Gq (Js fun hK30=>?_)))
   obtain⟨m32,y31,hm32,hy31,h⟩:=R1 h
   obtain⟨r33,hr33,h⟩:=Gc h
   refine JC_d0 J6 (by kernel_rfl) (Dq (E4 a) (G4 O O) O (Dq (Eh i26) (G4 O O) O (Dq (.dptr [I64 y26.Bay,E1 y26.Rows]) (Gw (f:=G9.av) (xs:=a) (y:=y26) O O O He hy26 O) O (Dq (.agg [I64 y26.Bay,E1 y26.Rows]) (Gh Yk O O O) O (Dq (E4 b) (G4 O O) O (Dq (Eh i26) (G4 O O) O (Dq (.dptr [I64 y31.Bay,E1 y31.Rows]) (Gw (f:=G9.av) (xs:=b) (y:=y31) O O O He hy31 hm32) O (Dq (.agg [I64 y31.Bay,E1 y31.Rows]) (Gh Yk O O O) O (Dq (BL r33) (Gm (args:=[.agg [I64 y26.Bay,E1 y26.Rows],.agg [I64 y31.Bay,E1 y31.Rows]]) O (G43 y26 y31 r33 hr33) Hd5 ⟨O,O,O,O,G⟩) O (Dq (BL (!r33)) (Q7 (b:=r33) O O) O (Dnil (hK30 (JCc O h (fun h hb=>?_) (fun h hb=>?_))))))))))))))
   ·
    refine Jr fun hK34=>(JLm (BL false) O (G7 (hK34 (Gn (fin1 BL h)))))
   ·
    refine Gk (hK29 (G2 (JLm (Eh i26) O (JLh (I64 ((i26+1:Nat):Int)) (Hs (Hf hk26 hm13) O O O) O (JLm (I64 ((i26+1:Nat):Int)) O (G7 (e26 _ _ (i26+1) () (app1 hn26 h) (by omega) ⟨(.sm O O),G,rfl⟩)))))))
  ·
   have h:=app1 hkx26 (Hv hi26 (Ha hb))
   refine Hn (hK5 (Jr fun hK35=>(JLm (BL true) O (G7 (hK35 (Gn (fin1 BL h)))))))

def Zr (a:List Row) (b:List Row):Option Bool:=
 bif decide ((a.length:Int)≠(b.length:Int)) then
 (some false)
 else
 (each (fun y24 i24 (s24:Unit) nx24=>
   Qq b (i24:Int) fun y29=>
   bif (!decide (y24=y29)) then
   (some false)
   else
   (nx24 ()))
  (fun(s24:Unit)=>
   some true) a 0 ())
theorem H50 (a:List Row) (b:List Row) (r:Bool) (h:Zr a b=some r):Pure Ei 119 [E7 a,E7 b] (·=BL r):=by
 unfold Zr at h
 refine Gz [.tmp 4] Tryz.func119 O O (Jr fun hK1=>(JLm (BL false) O (G7 (hK1 (Js fun hK2=>Jr fun hK3=>(JLm (E7 a) O (JLl Q9 O O O fun hm7=>(JLm (E7 b) O (JLl Q9 O O O fun hm9=>(JLh (BL (decide ((a.length:Int)≠(b.length:Int)))) (G0e O O O) O (G7 (hK3 (JCc O h (fun h hb=>?_) (fun h hb=>?_))))))))))))))
 ·
  refine Jr fun hK4=>(JLm (BL false) O (G7 (hK4 (Gn (fin1 BL h)))))
 ·
  refine Gk (hK2 (Js fun hK5=>Jr fun hK6=>(JLm (I64 0) O (G7 (hK6 (Gq ?_))))))
  obtain⟨b24,kx24,hb24,hkx24,h⟩:=J3 h
  refine Hd (fun i24 (s24:Unit)=>each b24 kx24 (List.drop i24 a) i24 s24=some r) (fun i24 s24=>[(0,E7 a),(1,E7 b),(5,Eh i24)]) (fun i24 s24=>[]) (fun i24=>a.length - i24) 0 () h ⟨(.sm O O),G,O⟩ ?_
  clear h
  intro i24 s24 hi24 K24 e24
  refine Js fun hK25=>Jr fun hK26=>(JLm (Eh i24) O (JLm (E7 a) O (JLl Q9 O O O fun hm13=>(JLh (BL (decide ((i24:Int) < (a.length:Int)))) (Hz O O O) O (G7 (hK26 (Gi O (fun hb=>?_) (fun hb=>?_))))))))
  ·
   have hk24:=Jj hb
   obtain⟨y24,nx24,hy24,hn24,h⟩:=Hu hi24 hk24
   replace h:=Z9 hb24 h
   refine Gk (hK25 (Js fun hK27=>Gq (Js fun hK28=>?_)))
   obtain⟨m30,y29,hm30,hy29,h⟩:=R1 h
   refine JC_d0 J6 (by kernel_rfl) (Dq (E7 a) (G4 O O) O (Dq (Eh i24) (G4 O O) O (Dq (.dptr (Row.cs y24)) (Gw (f:=Row.av) (xs:=a) (y:=y24) O O O Q9 hy24 O) O (Dq (.agg (Row.cs y24)) (Gh Gee O O O) O (Dq (E7 b) (G4 O O) O (Dq (Eh i24) (G4 O O) O (Dq (.dptr (Row.cs y29)) (Gw (f:=Row.av) (xs:=b) (y:=y29) O O O Q9 hy29 hm30) O (Dq (.agg (Row.cs y29)) (Gh Gee O O O) O (Dq (BL (!decide (y24=y29))) (Q91 (vs:=[.int .i64 y24.Draught,.int .i64 y24.Kilos,.int .i64 y24.Buoy,.int .i64 y24.Metacentre,.int .i64 y24.He7]) (us:=[.int .i64 y29.Draught,.int .i64 y29.Kilos,.int .i64 y29.Buoy,.int .i64 y29.Metacentre,.int .i64 y29.He7]) 4 O (R01 y24 y29) Ha9 J18 O O O) O (Dnil (hK28 ?_)))))))))))
   refine JCc O h ?_ ?_<;>intro h hb
   ·
    refine Jr fun hK31=>(JLm (BL false) O (G7 (hK31 (Gn (fin1 BL h)))))
   ·
    refine Gk (hK27 (G2 (JLm (Eh i24) O (JLh (I64 ((i24+1:Nat):Int)) (Hs (Hf hk24 hm13) O O O) O (JLm (I64 ((i24+1:Nat):Int)) O (G7 (e24 _ _ (i24+1) () (app1 hn24 h) (by omega) ⟨(.sm O O),G,rfl⟩)))))))
  ·
   have h:=app1 hkx24 (Hv hi24 (Ha hb))
   refine Hn (hK5 (Jr fun hK32=>(JLm (BL true) O (G7 (hK32 (Gn (fin1 BL h)))))))

def Yv (a:List Frame) (b:List Frame):Option Bool:=
 bif decide ((a.length:Int)≠(b.length:Int)) then
 (some false)
 else
 (each (fun y24 i24 (s24:Unit) nx24=>
   Qq b (i24:Int) fun y29=>
   bif (!decide (y24=y29)) then
   (some false)
   else
   (nx24 ()))
  (fun(s24:Unit)=>
   some true) a 0 ())
theorem H1d (a:List Frame) (b:List Frame) (r:Bool) (h:Yv a b=some r):Pure Ei 120 [E6 a,E6 b] (·=BL r):=by
 unfold Yv at h
 refine Gz [.tmp 4] Tryz.func120 O O (Jr fun hK1=>(JLm (BL false) O (G7 (hK1 (Js fun hK2=>Jr fun hK3=>(JLm (E6 a) O (JLl Q8 O O O fun hm7=>(JLm (E6 b) O (JLl Q8 O O O fun hm9=>(JLh (BL (decide ((a.length:Int)≠(b.length:Int)))) (G0e O O O) O (G7 (hK3 (JCc O h (fun h hb=>?_) (fun h hb=>?_))))))))))))))
 ·
  refine Jr fun hK4=>(JLm (BL false) O (G7 (hK4 (Gn (fin1 BL h)))))
 ·
  refine Gk (hK2 (Js fun hK5=>Jr fun hK6=>(JLm (I64 0) O (G7 (hK6 (Gq ?_))))))
  obtain⟨b24,kx24,hb24,hkx24,h⟩:=J3 h
  refine Hd (fun i24 (s24:Unit)=>each b24 kx24 (List.drop i24 a) i24 s24=some r) (fun i24 s24=>[(0,E6 a),(1,E6 b),(5,Eh i24)]) (fun i24 s24=>[]) (fun i24=>a.length - i24) 0 () h ⟨(.sm O O),G,O⟩ ?_
  clear h
  intro i24 s24 hi24 K24 e24
  refine Js fun hK25=>Jr fun hK26=>(JLm (Eh i24) O (JLm (E6 a) O (JLl Q8 O O O fun hm13=>(JLh (BL (decide ((i24:Int) < (a.length:Int)))) (Hz O O O) O (G7 (hK26 (Gi O (fun hb=>?_) (fun hb=>?_))))))))
  ·
   have hk24:=Jj hb
   obtain⟨y24,nx24,hy24,hn24,h⟩:=Hu hi24 hk24
   replace h:=Z9 hb24 h
   refine Gk (hK25 (Js fun hK27=>Gq (Js fun hK28=>?_)))
   obtain⟨m30,y29,hm30,hy29,h⟩:=R1 h
   refine JC_d0 J6 (by kernel_rfl) (Dq (E6 a) (G4 O O) O (Dq (Eh i24) (G4 O O) O (Dq (.dptr (Frame.cs y24)) (Gw (f:=Frame.av) (xs:=a) (y:=y24) O O O Q8 hy24 O) O (Dq (.agg (Frame.cs y24)) (Gh Ged O O O) O (Dq (E6 b) (G4 O O) O (Dq (Eh i24) (G4 O O) O (Dq (.dptr (Frame.cs y29)) (Gw (f:=Frame.av) (xs:=b) (y:=y29) O O O Q8 hy29 hm30) O (Dq (.agg (Frame.cs y29)) (Gh Ged O O O) O (Dq (BL (!decide (y24=y29))) (Q91 (vs:=[.int .i64 y24.X,.int .i64 y24.Light,.int .i64 y24.Share,.int .i64 y24.Shear,.int .i64 y24.Bend]) (us:=[.int .i64 y29.X,.int .i64 y29.Light,.int .i64 y29.Share,.int .i64 y29.Shear,.int .i64 y29.Bend]) 4 O (R00 y24 y29) Ha8 J17 O O O) O (Dnil (hK28 (JCc O h (fun h hb=>?_) (fun h hb=>?_)))))))))))))
   ·
    refine Jr fun hK31=>(JLm (BL false) O (G7 (hK31 (Gn (fin1 BL h)))))
   ·
    refine Gk (hK27 (G2 (JLm (Eh i24) O (JLh (I64 ((i24+1:Nat):Int)) (Hs (Hf hk24 hm13) O O O) O (JLm (I64 ((i24+1:Nat):Int)) O (G7 (e24 _ _ (i24+1) () (app1 hn24 h) (by omega) ⟨(.sm O O),G,rfl⟩)))))))
  ·
   have h:=app1 hkx24 (Hv hi24 (Ha hb))
   refine Hn (hK5 (Jr fun hK32=>(JLm (BL true) O (G7 (hK32 (Gn (fin1 BL h)))))))

def Jz (a:Gg) (b:Gg):Option Bool:=
 bnd (bif (((((decide (a.Kilos=b.Kilos))&&(decide (a.X=b.X)))&&(decide (a.Y=b.Y)))&&(decide (a.Z=b.Z)))&&(decide (a.Surface=b.Surface))) then Ji a.Steps b.Steps else some default) fun r3=>
 some ((((((decide (a.Kilos=b.Kilos))&&(decide (a.X=b.X)))&&(decide (a.Y=b.Y)))&&(decide (a.Z=b.Z)))&&(decide (a.Surface=b.Surface)))&&r3)
theorem G49 (a:Gg) (b:Gg) (r:Bool) (h:Jz a b=some r):Pure Ei 127 [.agg (Gg.cs a),.agg (Gg.cs b)] (·=BL r):=by
 unfold Jz at h
 refine Gz [.tmp 4] Tryz.func127 O O (Jr fun hK1=>(JLh (.ptr 1139 0) (Je (cs:=[I64 a.Kilos,I64 a.X,I64 a.Y,I64 a.Z,I64 a.Surface,E1 a.Steps]) 1139 O O O O O) O (JLh (.ptr 1140 0) (Je (cs:=[I64 b.Kilos,I64 b.X,I64 b.Y,I64 b.Z,I64 b.Surface,E1 b.Steps]) 1140 O O O O O) O (JLm (BL false) O (G7 (hK1 (Gx [(2,Eg a),(3,.ptr 1140 0)] [(1140,.box 129 [I64 b.Kilos,I64 b.X,I64 b.Y,I64 b.Z,I64 b.Surface,E1 b.Steps])] 1139 rfl rfl rfl ⟨⟨_,rfl,.boxEq rfl rfl⟩,G⟩ rfl (by exact⟨.ptr,.conv (.same rfl),G⟩) (Gx [(2,Eg a),(3,Eg b)] [] 1140 rfl rfl rfl G rfl (by exact⟨.conv (.same rfl),.ptr,G⟩) ?_))))))))
 refine Jr fun hK2=>(JLh (Eg a) (Ga Hcf O O O) O (JLh (I64 a.Kilos) (Gf Gd O O O) O (JLh (Eg b) (Ga Hcf O O O) O (JLh (I64 b.Kilos) (Gf Gd O O O) O (JLh (BL (decide (a.Kilos=b.Kilos))) (Jw O O O) O (JLm (BL (decide (a.Kilos=b.Kilos))) O (JLo (.dptr ((Gg.cs a).drop 1)) [] O .sct G (fun hc=>Ga Hce O O O) O (JLo (I64 a.X) [11] O .sct ⟨Ua,G⟩ (fun hc=>Gf Gd O O O) O (JLo (.dptr ((Gg.cs b).drop 1)) [] O .sct G (fun hc=>Ga Hce O O O) O (JLo (I64 b.X) [13] O .sct ⟨Ua,G⟩ (fun hc=>Gf Gd O O O) O (JLo (BL (decide (a.X=b.X))) [12,14] O .sct ⟨Ua,Ua,G⟩ (fun hc=>Jw O O O) O (JLh (BL ((decide (a.Kilos=b.Kilos))&&(decide (a.X=b.X)))) (Hy O O O O) O (JLm (BL ((decide (a.Kilos=b.Kilos))&&(decide (a.X=b.X)))) O ?_)))))))))))))
 refine JLo (.dptr ((Gg.cs a).drop 2)) [] O .sct G (fun hc=>Ga Hcd O O O) O (JLo (I64 a.Y) [18] O .sct ⟨Ua,G⟩ (fun hc=>Gf Gd O O O) O (JLo (.dptr ((Gg.cs b).drop 2)) [] O .sct G (fun hc=>Ga Hcd O O O) O (JLo (I64 b.Y) [20] O .sct ⟨Ua,G⟩ (fun hc=>Gf Gd O O O) O (JLo (BL (decide (a.Y=b.Y))) [19,21] O .sct ⟨Ua,Ua,G⟩ (fun hc=>Jw O O O) O (JLh (BL (((decide (a.Kilos=b.Kilos))&&(decide (a.X=b.X)))&&(decide (a.Y=b.Y)))) (Hy O O O O) O (JLm (BL (((decide (a.Kilos=b.Kilos))&&(decide (a.X=b.X)))&&(decide (a.Y=b.Y)))) O (JLo (.dptr ((Gg.cs a).drop 3)) [] O .sct G (fun hc=>Ga Hcc O O O) O (JLo (I64 a.Z) [25] O .sct ⟨Ua,G⟩ (fun hc=>Gf Gd O O O) O (JLo (.dptr ((Gg.cs b).drop 3)) [] O .sct G (fun hc=>Ga Hcc O O O) O (JLo (I64 b.Z) [27] O .sct ⟨Ua,G⟩ (fun hc=>Gf Gd O O O) O (JLo (BL (decide (a.Z=b.Z))) [26,28] O .sct ⟨Ua,Ua,G⟩ (fun hc=>Jw O O O) O (JLh (BL ((((decide (a.Kilos=b.Kilos))&&(decide (a.X=b.X)))&&(decide (a.Y=b.Y)))&&(decide (a.Z=b.Z)))) (Hy O O O O) O (JLm (BL ((((decide (a.Kilos=b.Kilos))&&(decide (a.X=b.X)))&&(decide (a.Y=b.Y)))&&(decide (a.Z=b.Z)))) O ?_)))))))))))))
 refine JLo (.dptr [I64 a.Surface,E1 a.Steps]) [] O .sct G (fun hc=>Ga Hcb O O O) O (JLo (I64 a.Surface) [32] O .sct ⟨Ua,G⟩ (fun hc=>Gf Gd O O O) O (JLo (.dptr [I64 b.Surface,E1 b.Steps]) [] O .sct G (fun hc=>Ga Hcb O O O) O (JLo (I64 b.Surface) [34] O .sct ⟨Ua,G⟩ (fun hc=>Gf Gd O O O) O (JLo (BL (decide (a.Surface=b.Surface))) [33,35] O .sct ⟨Ua,Ua,G⟩ (fun hc=>Jw O O O) O (JLh (BL (((((decide (a.Kilos=b.Kilos))&&(decide (a.X=b.X)))&&(decide (a.Y=b.Y)))&&(decide (a.Z=b.Z)))&&(decide (a.Surface=b.Surface)))) (Hy O O O O) O (JLm (BL (((((decide (a.Kilos=b.Kilos))&&(decide (a.X=b.X)))&&(decide (a.Y=b.Y)))&&(decide (a.Z=b.Z)))&&(decide (a.Surface=b.Surface)))) O (JLo (.dptr [E1 a.Steps]) [] O .sct G (fun hc=>Ga G5c O O O) O (JLo (E1 a.Steps) [39] O .sct ⟨Ua,G⟩ (fun hc=>Gf Hw O O O) O (JLo (.dptr [E1 b.Steps]) [] O .sct G (fun hc=>Ga G5c O O O) O (JLo (E1 b.Steps) [41] O .sct ⟨Ua,G⟩ (fun hc=>Gf Hw O O O) O ?_))))))))))
 obtain⟨r3,hr3,h⟩:=Gc h
 refine JLo (BL r3) [40,42] O .sct ⟨Ua,Ua,G⟩ (fun hc=>Gm (args:=[E1 a.Steps,E1 b.Steps]) O (Qh a.Steps b.Steps r3 (Gu hc hr3)) G82 ⟨O,O,O,O,G⟩) O (JLh (BL ((((((decide (a.Kilos=b.Kilos))&&(decide (a.X=b.X)))&&(decide (a.Y=b.Y)))&&(decide (a.Z=b.Z)))&&(decide (a.Surface=b.Surface)))&&r3)) (Hy O O O O) O (JLm (BL ((((((decide (a.Kilos=b.Kilos))&&(decide (a.X=b.X)))&&(decide (a.Y=b.Y)))&&(decide (a.Z=b.Z)))&&(decide (a.Surface=b.Surface)))&&r3)) O (G7 (hK2 (Gn (fin1 BL h))))))

def Za (a:List Gg) (b:List Gg):Option Bool:=
 bif decide ((a.length:Int)≠(b.length:Int)) then
 (some false)
 else
 (each (fun y26 i26 (s26:Unit) nx26=>
   Qq b (i26:Int) fun y31=>
   bnd (Jz y26 y31) fun r33=>
   bif (!r33) then
   (some false)
   else
   (nx26 ()))
  (fun(s26:Unit)=>
   some true) a 0 ())
theorem H41 (a:List Gg) (b:List Gg) (r:Bool) (h:Za a b=some r):Pure Ei 121 [E8 a,E8 b] (·=BL r):=by
 unfold Za at h
 refine Gz [.tmp 4] Tryz.func121 O O (Jr fun hK1=>(JLm (BL false) O (G7 (hK1 (Js fun hK2=>Jr fun hK3=>(JLm (E8 a) O (JLl Jt O O O fun hm7=>(JLm (E8 b) O (JLl Jt O O O fun hm9=>(JLh (BL (decide ((a.length:Int)≠(b.length:Int)))) (G0e O O O) O (G7 (hK3 (JCc O h (fun h hb=>?_) (fun h hb=>?_))))))))))))))
 ·
  refine Jr fun hK4=>(JLm (BL false) O (G7 (hK4 (Gn (fin1 BL h)))))
 ·
  refine Gk (hK2 (Js fun hK5=>Jr fun hK6=>(JLm (I64 0) O (G7 (hK6 (Gq ?_))))))
  obtain⟨b26,kx26,hb26,hkx26,h⟩:=J3 h
  refine Hd (fun i26 (s26:Unit)=>each b26 kx26 (List.drop i26 a) i26 s26=some r) (fun i26 s26=>[(0,E8 a),(1,E8 b),(5,Eh i26)]) (fun i26 s26=>[]) (fun i26=>a.length - i26) 0 () h ⟨(.sm O O),G,O⟩ ?_
  clear h
  intro i26 s26 hi26 K26 e26
  refine Js fun hK27=>Jr fun hK28=>(JLm (Eh i26) O (JLm (E8 a) O (JLl Jt O O O fun hm13=>(JLh (BL (decide ((i26:Int) < (a.length:Int)))) (Hz O O O) O (G7 (hK28 (Gi O (fun hb=>?_) (fun hb=>?_))))))))
  ·
   have hk26:=Jj hb
   obtain⟨y26,nx26,hy26,hn26,h⟩:=Hu hi26 hk26
   replace h:=Z9 hb26 h
   refine Gk (hK27 (Js fun hK29=>Gq (Js fun hK30=>?_)))
   obtain⟨m32,y31,hm32,hy31,h⟩:=R1 h
   obtain⟨r33,hr33,h⟩:=Gc h
   refine JC_d0 J6 (by kernel_rfl) (Dq (E8 a) (G4 O O) O (Dq (Eh i26) (G4 O O) O (Dq (Eg y26) (Gw (f:=Gg.av) (xs:=a) (y:=y26) O O O Jt hy26 O) O (Dq (.agg (Gg.cs y26)) (Gh G2b O O O) O (Dq (E8 b) (G4 O O) O (Dq (Eh i26) (G4 O O) O (Dq (Eg y31) (Gw (f:=Gg.av) (xs:=b) (y:=y31) O O O Jt hy31 hm32) O (Dq (.agg (Gg.cs y31)) (Gh G2b O O O) O (Dq (BL r33) (Gm (args:=[.agg (Gg.cs y26),.agg (Gg.cs y31)]) O (G49 y26 y31 r33 hr33) Hd4 ⟨O,O,O,O,G⟩) O (Dq (BL (!r33)) (Q7 (b:=r33) O O) O (Dnil (hK30 (JCc O h (fun h hb=>?_) (fun h hb=>?_))))))))))))))
   ·
    refine Jr fun hK34=>(JLm (BL false) O (G7 (hK34 (Gn (fin1 BL h)))))
   ·
    refine Gk (hK29 (G2 (JLm (Eh i26) O (JLh (I64 ((i26+1:Nat):Int)) (Hs (Hf hk26 hm13) O O O) O (JLm (I64 ((i26+1:Nat):Int)) O (G7 (e26 _ _ (i26+1) () (app1 hn26 h) (by omega) ⟨(.sm O O),G,rfl⟩)))))))
  ·
   have h:=app1 hkx26 (Hv hi26 (Ha hb))
   refine Hn (hK5 (Jr fun hK35=>(JLm (BL true) O (G7 (hK35 (Gn (fin1 BL h)))))))

def Zq (a:H0) (b:H0):Option Bool:=
 bnd (Ye a.Columns b.Columns) fun r3=>
 bnd (bif r3 then Yw a.Covers b.Covers else some default) fun r4=>
 bnd (bif ((r3&&r4)&&(decide (a.Light=b.Light))) then Zr a.Rows b.Rows else some default) fun r5=>
 bnd (bif (((r3&&r4)&&(decide (a.Light=b.Light)))&&r5) then Yv a.Frames b.Frames else some default) fun r6=>
 bnd (bif ((((r3&&r4)&&(decide (a.Light=b.Light)))&&r5)&&r6) then Za a.Tanks b.Tanks else some default) fun r7=>
 some ((((((r3&&r4)&&(decide (a.Light=b.Light)))&&r5)&&r6)&&r7)&&(decide (a.G1=b.G1)))
theorem H4f (a:H0) (b:H0) (r:Bool) (h:Zq a b=some r):Pure Ei 71 [.agg (H0.cs a),.agg (H0.cs b)] (·=BL r):=by
 unfold Zq at h
 refine Gz [.tmp 4] Tryz.func71 O O (Jr fun hK1=>(JLh (.ptr 1088 0) (Je (cs:=(H0.cs a)) 1088 O O O O O) O (JLh (.ptr 1089 0) (Je (cs:=(H0.cs b)) 1089 O O O O O) O (JLm (BL false) O (G7 (hK1 ?_))))))
 refine Gx [(2,Eb a),(3,.ptr 1089 0)] [(1089,.box 32 (H0.cs b))] 1088 rfl rfl rfl ⟨⟨_,rfl,.boxEq rfl rfl⟩,G⟩ rfl (by exact⟨.ptr,.conv (.same rfl),G⟩) (Gx [(2,Eb a),(3,Eb b)] [] 1089 rfl rfl rfl G rfl (by exact⟨.conv (.same rfl),.ptr,G⟩) (Jr fun hK2=>(JLh (Eb a) (Ga Hi O O O) O (JLh (E5 a.Columns) (Gf Ht O O O) O (JLh (Eb b) (Ga Hi O O O) O (JLh (E5 b.Columns) (Gf Ht O O O) O ?_))))))
 obtain⟨r3,hr3,h⟩:=Gc h
 refine JLh (BL r3) (Gm O (H0f a.Columns b.Columns r3 hr3) Qb5 ⟨O,O,O,O,G⟩) O (JLm (BL r3) O (JLo (.dptr ((H0.cs a).drop 1)) [] O .sct G (fun hc=>Ga J0 O O O) O (JLo (E4 a.Covers) [11] O .sct ⟨Ua,G⟩ (fun hc=>Gf J8 O O O) O (JLo (.dptr ((H0.cs b).drop 1)) [] O .sct G (fun hc=>Ga J0 O O O) O (JLo (E4 b.Covers) [13] O .sct ⟨Ua,G⟩ (fun hc=>Gf J8 O O O) O ?_)))))
 obtain⟨r4,hr4,h⟩:=Gc h
 refine JLo (BL r4) [12,14] O .sct ⟨Ua,Ua,G⟩ (fun hc=>Gm (args:=[E4 a.Covers,E4 b.Covers]) O (H1e a.Covers b.Covers r4 (Gu hc hr4)) Qb4 ⟨O,O,O,O,G⟩) O (JLh (BL (r3&&r4)) (Hy O O O O) O (JLm (BL (r3&&r4)) O (JLo (.dptr ((H0.cs a).drop 2)) [] O .sct G (fun hc=>Ga J0a O O O) O (JLo (.agg (Light.cs a.Light)) [18] O .sct ⟨Ua,G⟩ (fun hc=>Gh Q43 O O O) O (JLo (.dptr ((H0.cs b).drop 2)) [] O .sct G (fun hc=>Ga J0a O O O) O (JLo (.agg (Light.cs b.Light)) [20] O .sct ⟨Ua,G⟩ (fun hc=>Gh Q43 O O O) O (JLo (BL (decide (a.Light=b.Light))) [19,21] O .sct ⟨Ua,Ua,G⟩ (fun hc=>Ge1 (vs:=[.int .i64 a.Light.Kilos,.int .i64 a.Light.X,.int .i64 a.Light.Y,.int .i64 a.Light.Z]) (us:=[.int .i64 b.Light.Kilos,.int .i64 b.Light.X,.int .i64 b.Light.Y,.int .i64 b.Light.Z]) 4 O (Y59 a.Light b.Light) Qc0 R84 O O O) O (JLh (BL ((r3&&r4)&&(decide (a.Light=b.Light)))) (Hy O O O O) O (JLm (BL ((r3&&r4)&&(decide (a.Light=b.Light)))) O (JLo (.dptr ((H0.cs a).drop 6)) [] O .sct G (fun hc=>Ga G71 O O O) O (JLo (E7 a.Rows) [25] O .sct ⟨Ua,G⟩ (fun hc=>Gf Gd4 O O O) O (JLo (.dptr ((H0.cs b).drop 6)) [] O .sct G (fun hc=>Ga G71 O O O) O (JLo (E7 b.Rows) [27] O .sct ⟨Ua,G⟩ (fun hc=>Gf Gd4 O O O) O ?_)))))))))))))
 obtain⟨r5,hr5,h⟩:=Gc h
 refine JLo (BL r5) [26,28] O .sct ⟨Ua,Ua,G⟩ (fun hc=>Gm (args:=[E7 a.Rows,E7 b.Rows]) O (H50 a.Rows b.Rows r5 (Gu hc hr5)) Qb3 ⟨O,O,O,O,G⟩) O (JLh (BL (((r3&&r4)&&(decide (a.Light=b.Light)))&&r5)) (Hy O O O O) O (JLm (BL (((r3&&r4)&&(decide (a.Light=b.Light)))&&r5)) O (JLo (.dptr ((H0.cs a).drop 7)) [] O .sct G (fun hc=>Ga G70 O O O) O (JLo (E6 a.Frames) [32] O .sct ⟨Ua,G⟩ (fun hc=>Gf Gd3 O O O) O (JLo (.dptr ((H0.cs b).drop 7)) [] O .sct G (fun hc=>Ga G70 O O O) O (JLo (E6 b.Frames) [34] O .sct ⟨Ua,G⟩ (fun hc=>Gf Gd3 O O O) O ?_))))))
 obtain⟨r6,hr6,h⟩:=Gc h
 refine JLo (BL r6) [33,35] O .sct ⟨Ua,Ua,G⟩ (fun hc=>Gm (args:=[E6 a.Frames,E6 b.Frames]) O (H1d a.Frames b.Frames r6 (Gu hc hr6)) Qb2 ⟨O,O,O,O,G⟩) O (JLh (BL ((((r3&&r4)&&(decide (a.Light=b.Light)))&&r5)&&r6)) (Hy O O O O) O (JLm (BL ((((r3&&r4)&&(decide (a.Light=b.Light)))&&r5)&&r6)) O (JLo (.dptr ((H0.cs a).drop 8)) [] O .sct G (fun hc=>Ga G6f O O O) O (JLo (E8 a.Tanks) [39] O .sct ⟨Ua,G⟩ (fun hc=>Gf Gd2 O O O) O (JLo (.dptr ((H0.cs b).drop 8)) [] O .sct G (fun hc=>Ga G6f O O O) O (JLo (E8 b.Tanks) [41] O .sct ⟨Ua,G⟩ (fun hc=>Gf Gd2 O O O) O ?_))))))
 obtain⟨r7,hr7,h⟩:=Gc h
 refine JLo (BL r7) [40,42] O .sct ⟨Ua,Ua,G⟩ (fun hc=>Gm (args:=[E8 a.Tanks,E8 b.Tanks]) O (H41 a.Tanks b.Tanks r7 (Gu hc hr7)) Qb1 ⟨O,O,O,O,G⟩) O (JLh (BL (((((r3&&r4)&&(decide (a.Light=b.Light)))&&r5)&&r6)&&r7)) (Hy O O O O) O (JLm (BL (((((r3&&r4)&&(decide (a.Light=b.Light)))&&r5)&&r6)&&r7)) O (JLo (.dptr ((H0.cs a).drop 9)) [] O .sct G (fun hc=>Ga J09 O O O) O (JLo (.agg ((H0.cs a).drop 9)) [46] O .sct ⟨Ua,G⟩ (fun hc=>Gh Q42 O O O) O (JLo (.dptr ((H0.cs b).drop 9)) [] O .sct G (fun hc=>Ga J09 O O O) O (JLo (.agg ((H0.cs b).drop 9)) [48] O .sct ⟨Ua,G⟩ (fun hc=>Gh Q42 O O O) O (JLo (BL (decide (a.G1=b.G1))) [47,49] O .sct ⟨Ua,Ua,G⟩ (fun hc=>Ge1 (vs:=[.int .i64 a.G1.Tolerance,.int .i64 a.G1.Trim,.int .i64 a.G1.List_,.int .i64 a.G1.Stability]) (us:=[.int .i64 b.G1.Tolerance,.int .i64 b.G1.Trim,.int .i64 b.G1.List_,.int .i64 b.G1.Stability]) 4 O (Y58 a.G1 b.G1) Qbf R83 O O O) O (JLh (BL ((((((r3&&r4)&&(decide (a.Light=b.Light)))&&r5)&&r6)&&r7)&&(decide (a.G1=b.G1)))) (Hy O O O O) O (JLm (BL ((((((r3&&r4)&&(decide (a.Light=b.Light)))&&r5)&&r6)&&r7)&&(decide (a.G1=b.G1)))) O (G7 (hK2 ?_)))))))))))
 refine Gn (fin1 BL h)

def J7 (out:Ln Int) (l:List Int):Option Bool:=
 bif decide ((out.1.length:Int)≠(l.length:Int)) then
 (some false)
 else
 (chk ((l.length:Int)+12) fun v6=>
  bnd (G5e v6 (out.1++out.2).length) fun m7=>
  each (fun y29 i29 (s29:Unit) nx29=>
   bnd (bif decide ((i29:Int) < (l.length:Int)) then Qq l (i29:Int) some else some default) fun y34=>
   bnd (bif ((!((decide ((i29:Int) < (l.length:Int)))&&(!(decide (y29=y34)))))&&(decide ((l.length:Int)≤(i29:Int)))) then chk ((i29:Int) - (l.length:Int)) some else some 0) fun v35=>
   bnd (bif ((!((decide ((i29:Int) < (l.length:Int)))&&(!(decide (y29=y34)))))&&(decide ((l.length:Int)≤(i29:Int)))) then Ja 1 v35 else some default) fun r36=>
   bif (((decide ((i29:Int) < (l.length:Int)))&&(!(decide (y29=y34))))||((decide ((l.length:Int)≤(i29:Int)))&&(!(decide (y29=r36))))) then
   (some false)
   else
   (nx29 ()))
  (fun(s29:Unit)=>
   some true) ((out.1++out.2).take m7) 0 ())
theorem G10 (out:Ln Int) (l:List Int) (r:Bool) (h:J7 out l=some r):Pure Ei 23 [LT 1 I64 out,E1 l] (·=BL r):=by
 unfold J7 at h
 refine Gz [.tmp 4] Tryz.func23 O O (Jr fun hK1=>(JLm (BL false) O (G7 (hK1 (Js fun hK2=>Jr fun hK3=>(JLm (LT 1 I64 out) O (JLl Gs O O O fun hm8=>(JLm (E1 l) O (JLl Gs O O O fun hm10=>(JLh (BL (decide ((out.1.length:Int)≠(l.length:Int)))) (G0e O O O) O (G7 (hK3 (JCc O h (fun h hb=>?_) (fun h hb=>?_))))))))))))))
 ·
  refine Jr fun hK4=>(JLm (BL false) O (G7 (hK4 (Gn (fin1 BL h)))))
 ·
  refine Gk (hK2 (Jr fun hK5=>(JLm (LT 1 I64 out) O (JLm (E1 l) O (JLl Gs O O O fun hm14=>?_)))))
  obtain⟨v6,hv6,h⟩:=Q2 h
  refine JLh (I64 v6) (Hs hv6 O O O) O ?_
  obtain⟨m7,hm7,h⟩:=Gc h
  refine JLh (E1 ((out.1++out.2).take m7)) (H70 (f:=I64) (e:=out) O O O Gs (Rq hm7)) O (JLm (E1 ((out.1++out.2).take m7)) O (G7 (hK5 (Js fun hK8=>Jr fun hK9=>(JLm (I64 0) O (G7 (hK9 (Gq ?_))))))))
  obtain⟨b29,kx29,hb29,hkx29,h⟩:=J3 h
  refine Hd (fun i29 (s29:Unit)=>each b29 kx29 (List.drop i29 ((out.1++out.2).take m7)) i29 s29=some r) (fun i29 s29=>[(1,E1 l),(5,E1 ((out.1++out.2).take m7)),(6,Eh i29)]) (fun i29 s29=>[]) (fun i29=>((out.1++out.2).take m7).length - i29) 0 () h ⟨(.sm O O),G,O⟩ ?_
  clear h
  intro i29 s29 hi29 K29 e29
  refine Js fun hK30=>Jr fun hK31=>(JLm (Eh i29) O (JLm (E1 ((out.1++out.2).take m7)) O (JLl Gs O O O fun hm19=>(JLh (BL (decide ((i29:Int) < (((out.1++out.2).take m7).length:Int)))) (Hz O O O) O (G7 (hK31 (Gi O (fun hb=>?_) (fun hb=>?_))))))))
  ·
   have hk29:=Jj hb
   obtain⟨y29,nx29,hy29,hn29,h⟩:=Hu hi29 hk29
   replace h:=Z9 hb29 h
   refine Gk (hK30 (Js fun hK32=>Gq (Js fun hK33=>?_)))
   obtain⟨y34,hy34,h⟩:=Gc h
   obtain⟨v35,hv35,h⟩:=Gc h
   obtain⟨r36,hr36,h⟩:=Gc h
   refine JC_d0 J6 (by kernel_rfl) (Dq (Eh i29) (G4 O O) O (Dq (E1 l) (G4 O O) O (Dq (Eh l.length) (Qe (f:=I64) (xs:=l) Gs O O) O (Dq (BL (decide ((i29:Int) < (l.length:Int)))) (Hz O O O) O (Dq (BL (decide ((i29:Int) < (l.length:Int)))) (G4 O O) O (Do (E1 ((out.1++out.2).take m7)) [] O .sct G (fun hc=>G4 O O) O (Do (Eh i29) [] O .sct G (fun hc=>G4 O O) O (Do (.dptr [I64 y29]) [28,29] O .sct ⟨Ua,Ua,G⟩ (fun hc=>Gw (f:=I64) (xs:=((out.1++out.2).take m7)) (y:=y29) O O O Gs hy29 O) O (Do (I64 y29) [30] O .sct ⟨Ua,G⟩ (fun hc=>Gf Gd O O O) O (Do (E1 l) [] O .sct G (fun hc=>G4 O O) O (Do (Eh i29) [] O .sct G (fun hc=>G4 O O) O (Do (.dptr [I64 y34]) [32,33] O .sct ⟨Ua,Ua,G⟩ (fun hc=>(match Jx (Gu hc hy34) with | ⟨_,hm_,hy_⟩=>Gw (f:=I64) (xs:=l) (y:=y34) O O O Gs hy_ hm_)) O (Do (I64 y34) [34] O .sct ⟨Ua,G⟩ (fun hc=>Gf Gd O O O) O ?_)))))))))))))
   refine Do (BL (decide (y29=y34))) [31,35] O .sct ⟨Ua,Ua,G⟩ (fun hc=>Jw O O O) O (Do (BL (!(decide (y29=y34)))) [36] O .sct ⟨Ua,G⟩ (fun hc=>Q7 (b:=decide (y29=y34)) O O) O (Dq (BL ((decide ((i29:Int) < (l.length:Int)))&&(!(decide (y29=y34))))) (Hy O O O O) O (Dq (BL ((decide ((i29:Int) < (l.length:Int)))&&(!(decide (y29=y34))))) (G4 O O) O (Do (Eh i29) [] O .scf G (fun hc=>G4 O O) O (Do (E1 l) [] O .scf G (fun hc=>G4 O O) O (Do (Eh l.length) [41] O .scf ⟨Ua,G⟩ (fun hc=>Qe (f:=I64) (xs:=l) Gs O O) O (Do (BL (decide ((l.length:Int)≤(i29:Int)))) [40,42] O .scf ⟨Ua,Ua,G⟩ (fun hc=>Zf O O O) O (Do (BL (decide ((l.length:Int)≤(i29:Int)))) [43] O .scf ⟨Ua,G⟩ (fun hc=>G4 O O) O (Do (E1 ((out.1++out.2).take m7)) [] O .optt G (fun hc=>G4 O O) O (Do (Eh i29) [] O .optt G (fun hc=>G4 O O) O (Do (.dptr [I64 y29]) [45,46] O .optt ⟨Ua,Ua,G⟩ (fun hc=>Gw (f:=I64) (xs:=((out.1++out.2).take m7)) (y:=y29) O O O Gs hy29 O) O (Do (I64 y29) [47] O .optt ⟨Ua,G⟩ (fun hc=>Gf Gd O O O) O (Do (Eh i29) [] O .optt G (fun hc=>G4 O O) O ?_)))))))))))))
   refine Do (E1 l) [] O .optt G (fun hc=>G4 O O) O (Do (Eh l.length) [50] O .optt ⟨Ua,G⟩ (fun hc=>Qe (f:=I64) (xs:=l) Gs O O) O (Do (I64 v35) [49,51] O .optt ⟨Ua,Ua,G⟩ (fun hc=>Gcc (Zo (Gu hc hv35)) O O O) O (Do (I64 r36) [52] O .optt ⟨Ua,G⟩ (fun hc=>Gm (args:=[I64 1,I64 v35]) O (Q1 1 v35 r36 (Gu hc hr36)) G3f ⟨O,O,O,O,G⟩) O (Do (BL (decide (y29=r36))) [48,53] O .optt ⟨Ua,Ua,G⟩ (fun hc=>Jw O O O) O (Do (BL (!(decide (y29=r36)))) [54] O .optt ⟨Ua,G⟩ (fun hc=>Q7 (b:=decide (y29=r36)) O O) O (Dg (.opt (!((decide ((i29:Int) < (l.length:Int)))&&(!(decide (y29=y34))))) (BL ((decide ((l.length:Int)≤(i29:Int)))&&(!(decide (y29=r36)))))) (Ge [(44,BL (decide ((l.length:Int)≤(i29:Int)))),(55,_)] O O O .scf ⟨.all id,.part,G⟩ (fun hc=>Hy O O O O) O) O (Dq (BL (((decide ((i29:Int) < (l.length:Int)))&&(!(decide (y29=y34))))||((decide ((l.length:Int)≤(i29:Int)))&&(!(decide (y29=r36)))))) (Y4 O O O O) O (Dnil ?_))))))))
   refine hK33 (JCc O h (fun h hb=>?_) (fun h hb=>?_))
   ·
    refine Jr fun hK37=>(JLm (BL false) O (G7 (hK37 (Gn (fin1 BL h)))))
   ·
    refine Gk (hK32 (G2 (JLm (Eh i29) O (JLh (I64 ((i29+1:Nat):Int)) (Hs (Hf hk29 hm19) O O O) O (JLm (I64 ((i29+1:Nat):Int)) O (G7 (e29 _ _ (i29+1) () (app1 hn29 h) (by omega) ⟨(.sm O O),G,rfl⟩)))))))
  ·
   have h:=app1 hkx29 (Hv hi29 (Ha hb))
   refine Hn (hK8 (Jr fun hK38=>(JLm (BL true) O (G7 (hK38 (Gn (fin1 BL h)))))))

def Ri (x:Gv) (y:G3):Option Bool:=
 bnd (Jm (G3.mk x.Bay x.Row x.Deck x.Tiers x.Height x.Kilos20 x.Kilos40 x.Lash x.Plugs.1 x.X x.Y x.Z) y) fun r3=>
 bnd (bif r3 then J7 x.Plugs y.Plugs else some default) fun r4=>
 some (r3&&r4)
theorem H24 (x:Gv) (y:G3) (r:Bool) (h:Ri x y=some r):Pure Ei 122 [.agg (Gv.cs x),.agg (G3.cs y)] (·=BL r):=by
 unfold Ri at h
 refine Gz [.tmp 4] Tryz.func122 O O (Jr fun hK1=>(JLh (.ptr 1129 0) (Je (cs:=(Gv.cs x)) 1129 O O O O O) O (JLh (.ptr 1130 0) (Je (cs:=(G3.cs y)) 1130 O O O O O) O (JLm (BL false) O (G7 (hK1 (Gx [(2,.dptr (Gv.cs x)),(3,.ptr 1130 0)] [(1130,.box 67 (G3.cs y))] 1129 rfl rfl rfl ⟨⟨_,rfl,.boxEq rfl rfl⟩,G⟩ rfl (by exact⟨.ptr,.conv (.same rfl),G⟩) ?_)))))))
 refine Gx [(2,.dptr (Gv.cs x)),(3,Ed y)] [] 1130 rfl rfl rfl G rfl (by exact⟨.conv (.same rfl),.ptr,G⟩) (Jr fun hK2=>(JLh (.agg [I64 x.Bay,I64 x.Row,BL x.Deck,I64 x.Tiers,I64 x.Height,I64 x.Kilos20,I64 x.Kilos40,I64 x.Lash,E1 x.Plugs.1,I64 x.X,I64 x.Y,I64 x.Z]) (H1.cv (Cv.aggL (cs:=(Gv.cs x)) ⟨.same,.same,.same,.same,.same,.same,.same,.same,Cv.lst0 x.Plugs,.same,.same,.same,G⟩) (Gh Y5 O O O)) O (JLh (.agg (G3.cs y)) (Gh Y5 O O O) O ?_)))
 obtain⟨r3,hr3,h⟩:=Gc h
 refine JLh (BL r3) (Gm O (G37 (G3.mk x.Bay x.Row x.Deck x.Tiers x.Height x.Kilos20 x.Kilos40 x.Lash x.Plugs.1 x.X x.Y x.Z) y r3 hr3) Hd6 ⟨O,O,O,O,G⟩) O (JLm (BL r3) O (JLo (.dptr ((Gv.cs x).drop 8)) [] O .sct G (fun hc=>Ga Rc O O O) O (JLo (LT 1 I64 x.Plugs) [9] O .sct ⟨Ua,G⟩ (fun hc=>Gf Hw O O O) O (JLo (.dptr ((G3.cs y).drop 8)) [] O .sct G (fun hc=>Ga Rc O O O) O (JLo (E1 y.Plugs) [11] O .sct ⟨Ua,G⟩ (fun hc=>Gf Hw O O O) O ?_)))))
 obtain⟨r4,hr4,h⟩:=Gc h
 refine JLo (BL r4) [10,12] O .sct ⟨Ua,Ua,G⟩ (fun hc=>Gm (args:=[LT 1 I64 x.Plugs,E1 y.Plugs]) O (G10 x.Plugs y.Plugs r4 (Gu hc hr4)) Ha7 ⟨O,O,O,O,G⟩) O (JLh (BL (r3&&r4)) (Hy O O O O) O (JLm (BL (r3&&r4)) O (G7 (hK2 (Gn (fin1 BL h))))))

def Rb (out:Ln Gv) (l:List G3):Option Bool:=
 bif decide ((out.1.length:Int)≠(l.length:Int)) then
 (some false)
 else
 (chk ((l.length:Int)+12) fun v6=>
  bnd (G5e v6 (out.1++out.2).length) fun m7=>
  each (fun y33 i33 (s33:Unit) nx33=>
   bnd (bif decide ((i33:Int) < (l.length:Int)) then Qq l (i33:Int) some else some default) fun y38=>
   bnd (bif decide ((i33:Int) < (l.length:Int)) then Ri y33 y38 else some default) fun r39=>
   bnd (bif ((!((decide ((i33:Int) < (l.length:Int)))&&(!r39)))&&(decide ((l.length:Int)≤(i33:Int)))) then chk ((i33:Int) - (l.length:Int)) some else some 0) fun v40=>
   bnd (bif ((!((decide ((i33:Int) < (l.length:Int)))&&(!r39)))&&(decide ((l.length:Int)≤(i33:Int)))) then Qs 1 v40 else some default) fun r41=>
   bnd (bif ((!((decide ((i33:Int) < (l.length:Int)))&&(!r39)))&&(decide ((l.length:Int)≤(i33:Int)))) then Jm (G3.mk y33.Bay y33.Row y33.Deck y33.Tiers y33.Height y33.Kilos20 y33.Kilos40 y33.Lash y33.Plugs.1 y33.X y33.Y y33.Z) r41 else some default) fun r42=>
   bif (((decide ((i33:Int) < (l.length:Int)))&&(!r39))||((decide ((l.length:Int)≤(i33:Int)))&&(!r42))) then
   (some false)
   else
   (nx33 ()))
  (fun(s33:Unit)=>
   some true) ((out.1++out.2).take m7) 0 ())
theorem H13 (out:Ln Gv) (l:List G3) (r:Bool) (h:Rb out l=some r):Pure Ei 72 [LT 12 Gv.av out,E5 l] (·=BL r):=by
 unfold Rb at h
 refine Gz [.tmp 4] Tryz.func72 O O (Jr fun hK1=>(JLm (BL false) O (G7 (hK1 (Js fun hK2=>Jr fun hK3=>(JLm (LT 12 Gv.av out) O (JLl H4 O O O fun hm8=>(JLm (E5 l) O (JLl H4 O O O fun hm10=>(JLh (BL (decide ((out.1.length:Int)≠(l.length:Int)))) (G0e O O O) O (G7 (hK3 (JCc O h (fun h hb=>?_) (fun h hb=>?_))))))))))))))
 ·
  refine Jr fun hK4=>(JLm (BL false) O (G7 (hK4 (Gn (fin1 BL h)))))
 ·
  refine Gk (hK2 (Jr fun hK5=>(JLm (LT 12 Gv.av out) O (JLm (E5 l) O (JLl H4 O O O fun hm14=>?_)))))
  obtain⟨v6,hv6,h⟩:=Q2 h
  refine JLh (I64 v6) (Hs hv6 O O O) O ?_
  obtain⟨m7,hm7,h⟩:=Gc h
  refine JLh (LS 12 Gv.av ((out.1++out.2).take m7)) (H70 (f:=Gv.av) (e:=out) O O O H4 (Rq hm7)) O (JLm (LS 12 Gv.av ((out.1++out.2).take m7)) O (G7 (hK5 (Js fun hK8=>Jr fun hK9=>(JLm (I64 0) O (G7 (hK9 (Gq ?_))))))))
  obtain⟨b33,kx33,hb33,hkx33,h⟩:=J3 h
  refine Hd (fun i33 (s33:Unit)=>each b33 kx33 (List.drop i33 ((out.1++out.2).take m7)) i33 s33=some r) (fun i33 s33=>[(1,E5 l),(5,LS 12 Gv.av ((out.1++out.2).take m7)),(6,Eh i33)]) (fun i33 s33=>[]) (fun i33=>((out.1++out.2).take m7).length - i33) 0 () h ⟨(.sm O O),G,O⟩ ?_
  clear h
  intro i33 s33 hi33 K33 e33
  refine Js fun hK34=>Jr fun hK35=>(JLm (Eh i33) O (JLm (LS 12 Gv.av ((out.1++out.2).take m7)) O (JLl H4 O O O fun hm19=>(JLh (BL (decide ((i33:Int) < (((out.1++out.2).take m7).length:Int)))) (Hz O O O) O (G7 (hK35 (Gi O (fun hb=>?_) (fun hb=>?_))))))))
  ·
   have hk33:=Jj hb
   obtain⟨y33,nx33,hy33,hn33,h⟩:=Hu hi33 hk33
   replace h:=Z9 hb33 h
   refine Gk (hK34 (Js fun hK36=>Gq (Js fun hK37=>?_)))
   obtain⟨y38,hy38,h⟩:=Gc h
   obtain⟨r39,hr39,h⟩:=Gc h
   obtain⟨v40,hv40,h⟩:=Gc h
   obtain⟨r41,hr41,h⟩:=Gc h
   obtain⟨r42,hr42,h⟩:=Gc h
   refine JC_d0 J6 (by kernel_rfl) (Dq (Eh i33) (G4 O O) O (Dq (E5 l) (G4 O O) O (Dq (Eh l.length) (Qe (f:=G3.av) (xs:=l) H4 O O) O (Dq (BL (decide ((i33:Int) < (l.length:Int)))) (Hz O O O) O (Dq (BL (decide ((i33:Int) < (l.length:Int)))) (G4 O O) O (Do (LS 12 Gv.av ((out.1++out.2).take m7)) [] O .sct G (fun hc=>G4 O O) O (Do (Eh i33) [] O .sct G (fun hc=>G4 O O) O (Do (.dptr (Gv.cs y33)) [28,29] O .sct ⟨Ua,Ua,G⟩ (fun hc=>Gw (f:=Gv.av) (xs:=((out.1++out.2).take m7)) (y:=y33) O O O H4 hy33 O) O (Do (.agg (Gv.cs y33)) [30] O .sct ⟨Ua,G⟩ (fun hc=>Gh Y5 O O O) O (Do (E5 l) [] O .sct G (fun hc=>G4 O O) O (Do (Eh i33) [] O .sct G (fun hc=>G4 O O) O (Do (Ed y38) [32,33] O .sct ⟨Ua,Ua,G⟩ (fun hc=>(match Jx (Gu hc hy38) with | ⟨_,hm_,hy_⟩=>Gw (f:=G3.av) (xs:=l) (y:=y38) O O O H4 hy_ hm_)) O (Do (.agg (G3.cs y38)) [34] O .sct ⟨Ua,G⟩ (fun hc=>Gh Y5 O O O) O ?_)))))))))))))
   refine Do (BL r39) [31,35] O .sct ⟨Ua,Ua,G⟩ (fun hc=>Gm (args:=[.agg (Gv.cs y33),.agg (G3.cs y38)]) O (H24 y33 y38 r39 (Gu hc hr39)) Qb0 ⟨O,O,O,O,G⟩) O (Do (BL (!r39)) [36] O .sct ⟨Ua,G⟩ (fun hc=>Q7 (b:=r39) O O) O (Dq (BL ((decide ((i33:Int) < (l.length:Int)))&&(!r39))) (Hy O O O O) O (Dq (BL ((decide ((i33:Int) < (l.length:Int)))&&(!r39))) (G4 O O) O (Do (Eh i33) [] O .scf G (fun hc=>G4 O O) O (Do (E5 l) [] O .scf G (fun hc=>G4 O O) O (Do (Eh l.length) [41] O .scf ⟨Ua,G⟩ (fun hc=>Qe (f:=G3.av) (xs:=l) H4 O O) O (Do (BL (decide ((l.length:Int)≤(i33:Int)))) [40,42] O .scf ⟨Ua,Ua,G⟩ (fun hc=>Zf O O O) O (Do (BL (decide ((l.length:Int)≤(i33:Int)))) [43] O .scf ⟨Ua,G⟩ (fun hc=>G4 O O) O (Do (LS 12 Gv.av ((out.1++out.2).take m7)) [] O .optt G (fun hc=>G4 O O) O (Do (Eh i33) [] O .optt G (fun hc=>G4 O O) O (Do (.dptr (Gv.cs y33)) [45,46] O .optt ⟨Ua,Ua,G⟩ (fun hc=>Gw (f:=Gv.av) (xs:=((out.1++out.2).take m7)) (y:=y33) O O O H4 hy33 O) O (Do (.agg [I64 y33.Bay,I64 y33.Row,BL y33.Deck,I64 y33.Tiers,I64 y33.Height,I64 y33.Kilos20,I64 y33.Kilos40,I64 y33.Lash,E1 y33.Plugs.1,I64 y33.X,I64 y33.Y,I64 y33.Z]) [47] O .optt ⟨Ua,G⟩ (fun hc=>H1.cv (Cv.aggL (cs:=(Gv.cs y33)) ⟨.same,.same,.same,.same,.same,.same,.same,.same,Cv.lst0 y33.Plugs,.same,.same,.same,G⟩) (Gh Y5 O O O)) O (Do (Eh i33) [] O .optt G (fun hc=>G4 O O) O ?_)))))))))))))
   refine Do (E5 l) [] O .optt G (fun hc=>G4 O O) O (Do (Eh l.length) [50] O .optt ⟨Ua,G⟩ (fun hc=>Qe (f:=G3.av) (xs:=l) H4 O O) O (Do (I64 v40) [49,51] O .optt ⟨Ua,Ua,G⟩ (fun hc=>Gcc (Zo (Gu hc hv40)) O O O) O (Do (.agg (G3.cs r41)) [52] O .optt ⟨Ua,G⟩ (fun hc=>Gm (args:=[I64 1,I64 v40]) O (G79 1 v40 r41 (Gu hc hr41)) Jc9 ⟨O,O,O,O,G⟩) O (Do (BL r42) [48,53] O .optt ⟨Ua,Ua,G⟩ (fun hc=>Gm (args:=[.agg [I64 y33.Bay,I64 y33.Row,BL y33.Deck,I64 y33.Tiers,I64 y33.Height,I64 y33.Kilos20,I64 y33.Kilos40,I64 y33.Lash,E1 y33.Plugs.1,I64 y33.X,I64 y33.Y,I64 y33.Z],.agg (G3.cs r41)]) O (G37 (G3.mk y33.Bay y33.Row y33.Deck y33.Tiers y33.Height y33.Kilos20 y33.Kilos40 y33.Lash y33.Plugs.1 y33.X y33.Y y33.Z) r41 r42 (Gu hc hr42)) Hd6 ⟨O,O,O,O,G⟩) O (Do (BL (!r42)) [54] O .optt ⟨Ua,G⟩ (fun hc=>Q7 (b:=r42) O O) O (Dg (.opt (!((decide ((i33:Int) < (l.length:Int)))&&(!r39))) (BL ((decide ((l.length:Int)≤(i33:Int)))&&(!r42)))) (Ge [(44,BL (decide ((l.length:Int)≤(i33:Int)))),(55,_)] O O O .scf ⟨.all id,.part,G⟩ (fun hc=>Hy O O O O) O) O (Dq (BL (((decide ((i33:Int) < (l.length:Int)))&&(!r39))||((decide ((l.length:Int)≤(i33:Int)))&&(!r42)))) (Y4 O O O O) O (Dnil ?_))))))))
   refine hK37 (JCc O h (fun h hb=>?_) (fun h hb=>?_))
   ·
    refine Jr fun hK43=>(JLm (BL false) O (G7 (hK43 (Gn (fin1 BL h)))))
   ·
    refine Gk (hK36 (G2 (JLm (Eh i33) O (JLh (I64 ((i33+1:Nat):Int)) (Hs (Hf hk33 hm19) O O O) O (JLm (I64 ((i33+1:Nat):Int)) O (G7 (e33 _ _ (i33+1) () (app1 hn33 h) (by omega) ⟨(.sm O O),G,rfl⟩)))))))
  ·
   have h:=app1 hkx33 (Hv hi33 (Ha hb))
   refine Hn (hK8 (Jr fun hK44=>(JLm (BL true) O (G7 (hK44 (Gn (fin1 BL h)))))))

def Rt (x:H3) (y:G9):Option Bool:=
 bnd (Jv (G9.mk x.Bay x.Rows.1) y) fun r3=>
 bnd (bif r3 then J7 x.Rows y.Rows else some default) fun r4=>
 some (r3&&r4)
theorem H46 (x:H3) (y:G9) (r:Bool) (h:Rt x y=some r):Pure Ei 124 [.agg [I64 x.Bay,LT 1 I64 x.Rows],.agg [I64 y.Bay,E1 y.Rows]] (·=BL r):=by
 unfold Rt at h
 refine Gz [.tmp 4] Tryz.func124 O O (Jr fun hK1=>(JLh (.ptr 1133 0) (Je (cs:=[I64 x.Bay,LT 1 I64 x.Rows]) 1133 O O O O O) O (JLh (.ptr 1134 0) (Je (cs:=[I64 y.Bay,E1 y.Rows]) 1134 O O O O O) O (JLm (BL false) O (G7 (hK1 (Gx [(2,.dptr [I64 x.Bay,LT 1 I64 x.Rows]),(3,.ptr 1134 0)] [(1134,.box 69 [I64 y.Bay,E1 y.Rows])] 1133 rfl rfl rfl ⟨⟨_,rfl,.boxEq rfl rfl⟩,G⟩ rfl (by exact⟨.ptr,.conv (.same rfl),G⟩) (Gx [(2,.dptr [I64 x.Bay,LT 1 I64 x.Rows]),(3,.dptr [I64 y.Bay,E1 y.Rows])] [] 1134 rfl rfl rfl G rfl (by exact⟨.conv (.same rfl),.ptr,G⟩) ?_))))))))
 refine Jr fun hK2=>(JLh (.agg [I64 x.Bay,E1 x.Rows.1]) (H1.cv (Cv.aggL (cs:=[I64 x.Bay,LT 1 I64 x.Rows]) ⟨.same,Cv.lst0 x.Rows,G⟩) (Gh Yk O O O)) O (JLh (.agg [I64 y.Bay,E1 y.Rows]) (Gh Yk O O O) O ?_))
 obtain⟨r3,hr3,h⟩:=Gc h
 refine JLh (BL r3) (Gm O (G43 (G9.mk x.Bay x.Rows.1) y r3 hr3) Hd5 ⟨O,O,O,O,G⟩) O (JLm (BL r3) O (JLo (.dptr [LT 1 I64 x.Rows]) [] O .sct G (fun hc=>Ga Q5 O O O) O (JLo (LT 1 I64 x.Rows) [9] O .sct ⟨Ua,G⟩ (fun hc=>Gf Hw O O O) O (JLo (.dptr [E1 y.Rows]) [] O .sct G (fun hc=>Ga Q5 O O O) O (JLo (E1 y.Rows) [11] O .sct ⟨Ua,G⟩ (fun hc=>Gf Hw O O O) O ?_)))))
 obtain⟨r4,hr4,h⟩:=Gc h
 refine JLo (BL r4) [10,12] O .sct ⟨Ua,Ua,G⟩ (fun hc=>Gm (args:=[LT 1 I64 x.Rows,E1 y.Rows]) O (G10 x.Rows y.Rows r4 (Gu hc hr4)) Ha7 ⟨O,O,O,O,G⟩) O (JLh (BL (r3&&r4)) (Hy O O O O) O (JLm (BL (r3&&r4)) O (G7 (hK2 (Gn (fin1 BL h))))))
end
end Go.Proofs.YtecjdioomlhhiaaGreat
