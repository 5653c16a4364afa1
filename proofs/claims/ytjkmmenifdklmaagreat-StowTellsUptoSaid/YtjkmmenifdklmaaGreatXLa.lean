/-
 Models of functions of the program,and that they return what the models say.
-/
import Derived.Test.YtjkmmenifdklmaaGreatSpecA
set_option maxRecDepth 100000
set_option linter.unusedVariables false
set_option linter.unusedSimpArgs false
namespace Go.Proofs.YtjkmmenifdklmaaGreat
open Go.RowKit
noncomputable section
structure Gw where
 Bay:Int
 Row:Int
 Deck:Bool
 Tiers:Int
 Height:Int
 Kilos20:Int
 Kilos40:Int
 Lash:Int
 Plugs:Ln Int
 X:Int
 Y:Int
 Z:Int
 deriving Inhabited
def Gw.cs (x:Gw):List AV:=[G0 x.Bay,G0 x.Row,BL x.Deck,G0 x.Tiers,G0 x.Height,G0 x.Kilos20,G0 x.Kilos40,G0 x.Lash,LT 1 G0 x.Plugs,G0 x.X,G0 x.Y,G0 x.Z]
def Gw.av (x:Gw):AV:=.agg x.cs
def Gw.pl (x:Gw):G4:=⟨x.Bay,x.Row,x.Deck,x.Tiers,x.Height,x.Kilos20,x.Kilos40,x.Lash,Prod.fst x.Plugs,x.X,x.Y,x.Z⟩
def Gw.of (x:G4):Gw:=⟨x.Bay,x.Row,x.Deck,x.Tiers,x.Height,x.Kilos20,x.Kilos40,x.Lash,(fun e=>(e,[])) x.Plugs,x.X,x.Y,x.Z⟩
theorem Gw.cvl (x:Gw):J1f (Gw.cs x) (G4.cs x.pl):=⟨.same,.same,.same,.same,.same,.same,.same,.same,Cv.lst0 x.Plugs,.same,.same,.same,trivial⟩
structure H7 where
 Bay:Int
 Rows:Ln Int
 deriving Inhabited
def H7.cs (x:H7):List AV:=[G0 x.Bay,LT 1 G0 x.Rows]
def H7.av (x:H7):AV:=.agg x.cs
def H7.pl (x:H7):Gc:=⟨x.Bay,Prod.fst x.Rows⟩
def H7.of (x:Gc):H7:=⟨x.Bay,(fun e=>(e,[])) x.Rows⟩
theorem H7.cvl (x:H7):J1f (H7.cs x) (Gc.cs x.pl):=⟨.same,Cv.lst0 x.Rows,trivial⟩
structure Hb where
 Kilos:Int
 X:Int
 Y:Int
 Z:Int
 Surface:Int
 Steps:Ln Int
 deriving Inhabited
def Hb.cs (x:Hb):List AV:=[G0 x.Kilos,G0 x.X,G0 x.Y,G0 x.Z,G0 x.Surface,LT 1 G0 x.Steps]
def Hb.av (x:Hb):AV:=.agg x.cs
def Hb.pl (x:Hb):Gj:=⟨x.Kilos,x.X,x.Y,x.Z,x.Surface,Prod.fst x.Steps⟩
def Hb.of (x:Gj):Hb:=⟨x.Kilos,x.X,x.Y,x.Z,x.Surface,(fun e=>(e,[])) x.Steps⟩
theorem Hb.cvl (x:Hb):J1f (Hb.cs x) (Gj.cs x.pl):=⟨.same,.same,.same,.same,.same,Cv.lst0 x.Steps,trivial⟩
structure Rk where
 Columns:Ln Gw
 Covers:Ln H7
 Light:Light
 Rows:Ln Row
 Frames:Ln Frame
 Tanks:Ln Hb
 G2:G2
 deriving Inhabited
def Rk.cs (x:Rk):List AV:=[LT 12 Gw.av x.Columns,LT 2 H7.av x.Covers,G0 x.Light.Kilos,G0 x.Light.X,G0 x.Light.Y,G0 x.Light.Z,LT 5 Row.av x.Rows,LT 5 Frame.av x.Frames,LT 6 Hb.av x.Tanks,G0 x.G2.Tolerance,G0 x.G2.Trim,G0 x.G2.List_,G0 x.G2.Stability]
def Rk.av (x:Rk):AV:=.agg x.cs
def Rk.pl (x:Rk):H4:=⟨(fun e=>e.1.map Gw.pl) x.Columns,(fun e=>e.1.map H7.pl) x.Covers,x.Light,Prod.fst x.Rows,Prod.fst x.Frames,(fun e=>e.1.map Hb.pl) x.Tanks,x.G2⟩
def Rk.of (x:H4):Rk:=⟨(fun e=>(e.map Gw.of,[])) x.Columns,(fun e=>(e.map H7.of,[])) x.Covers,x.Light,(fun e=>(e,[])) x.Rows,(fun e=>(e,[])) x.Frames,(fun e=>(e.map Hb.of,[])) x.Tanks,x.G2⟩
theorem Rk.cvl (x:Rk):J1f (Rk.cs x) (H4.cs x.pl):=⟨Cv.lstM (f:=Gw.av) (g:=G4.av) Gw.pl Gw.cvl x.Columns,Cv.lstM (f:=H7.av) (g:=Gc.av) H7.pl H7.cvl x.Covers,.same,.same,.same,.same,Cv.lst0 x.Rows,Cv.lst0 x.Frames,Cv.lstM (f:=Hb.av) (g:=Gj.av) Hb.pl Hb.cvl x.Tanks,.same,.same,.same,.same,trivial⟩
structure Gh where
 ID:Int
 Number:ByteArray
 Size:Int
 High:Bool
 Kilos:Int
 Load:Int
 Discharge:Int
 Class:Int
 Reefer:Bool
 deriving DecidableEq,Inhabited
def Gh.cs (x:Gh):List AV:=[G0 x.ID,ST x.Number,U8 x.Size,BL x.High,G0 x.Kilos,G0 x.Load,G0 x.Discharge,U8 x.Class,BL x.Reefer]
def Gh.av (x:Gh):AV:=.agg x.cs
abbrev Ed (x:Gh):AV:=.dptr (Gh.cs x)
abbrev E2:=LS 9 Gh.av
structure Slot where
 G4:Int
 Tier:Int
 Half:Int
 deriving DecidableEq,Inhabited
def Slot.cs (x:Slot):List AV:=[G0 x.G4,G0 x.Tier,U8 x.Half]
def Slot.av (x:Slot):AV:=.agg x.cs
abbrev E8:=LS 3 Slot.av
structure Stowed where
 Gh:Int
 Slot:Slot
 deriving DecidableEq,Inhabited
def Stowed.cs (x:Stowed):List AV:=[G0 x.Gh,G0 x.Slot.G4,G0 x.Slot.Tier,U8 x.Slot.Half]
def Stowed.av (x:Stowed):AV:=.agg x.cs
abbrev Eb (x:Stowed):AV:=.dptr (Stowed.cs x)
abbrev E1:=LS 4 Stowed.av
namespace XLF
open XAF
theorem tq_130 (a b:Row):H4d Eh 4 130 [.int .i64 a.Draught,.int .i64 a.Kilos,.int .i64 a.Buoy,.int .i64 a.Metacentre,.int .i64 a.Ha8] [.int .i64 b.Draught,.int .i64 b.Kilos,.int .i64 b.Buoy,.int .i64 b.Metacentre,.int .i64 b.Ha8]=some (decide (a=b)):=by
 refine(show _=some ((a.Draught==b.Draught)&&((a.Kilos==b.Kilos)&&((a.Buoy==b.Buoy)&&((a.Metacentre==b.Metacentre)&&((a.Ha8==b.Ha8)&&true))))) by kernel_rfl).trans (congrArg some ?_)
 rw [Bool.eq_iff_iff]
 simp only [Bool.and_eq_true,beq_iff_eq,decide_eq_true_eq,Bool.and_true]
 constructor
 ·intro h; obtain⟨_,_,_,_,_⟩:=a; obtain⟨_,_,_,_,_⟩:=b; simp_all
 ·intro h; subst h; simp
theorem tq_133 (a b:Frame):H4d Eh 4 133 [.int .i64 a.X,.int .i64 a.Light,.int .i64 a.Share,.int .i64 a.Shear,.int .i64 a.Bend] [.int .i64 b.X,.int .i64 b.Light,.int .i64 b.Share,.int .i64 b.Shear,.int .i64 b.Bend]=some (decide (a=b)):=by
 refine(show _=some ((a.X==b.X)&&((a.Light==b.Light)&&((a.Share==b.Share)&&((a.Shear==b.Shear)&&((a.Bend==b.Bend)&&true))))) by kernel_rfl).trans (congrArg some ?_)
 rw [Bool.eq_iff_iff]
 simp only [Bool.and_eq_true,beq_iff_eq,decide_eq_true_eq,Bool.and_true]
 constructor
 ·intro h; obtain⟨_,_,_,_,_⟩:=a; obtain⟨_,_,_,_,_⟩:=b; simp_all
 ·intro h; subst h; simp
theorem tq_25 (a b:Light):H4d Eh 4 25 [.int .i64 a.Kilos,.int .i64 a.X,.int .i64 a.Y,.int .i64 a.Z] [.int .i64 b.Kilos,.int .i64 b.X,.int .i64 b.Y,.int .i64 b.Z]=some (decide (a=b)):=by
 refine(show _=some ((a.Kilos==b.Kilos)&&((a.X==b.X)&&((a.Y==b.Y)&&((a.Z==b.Z)&&true)))) by kernel_rfl).trans (congrArg some ?_)
 rw [Bool.eq_iff_iff]
 simp only [Bool.and_eq_true,beq_iff_eq,decide_eq_true_eq,Bool.and_true]
 constructor
 ·intro h; obtain⟨_,_,_,_⟩:=a; obtain⟨_,_,_,_⟩:=b; simp_all
 ·intro h; subst h; simp
theorem tq_30 (a b:G2):H4d Eh 4 30 [.int .i64 a.Tolerance,.int .i64 a.Trim,.int .i64 a.List_,.int .i64 a.Stability] [.int .i64 b.Tolerance,.int .i64 b.Trim,.int .i64 b.List_,.int .i64 b.Stability]=some (decide (a=b)):=by
 refine(show _=some ((a.Tolerance==b.Tolerance)&&((a.Trim==b.Trim)&&((a.List_==b.List_)&&((a.Stability==b.Stability)&&true)))) by kernel_rfl).trans (congrArg some ?_)
 rw [Bool.eq_iff_iff]
 simp only [Bool.and_eq_true,beq_iff_eq,decide_eq_true_eq,Bool.and_true]
 constructor
 ·intro h; obtain⟨_,_,_,_⟩:=a; obtain⟨_,_,_,_⟩:=b; simp_all
 ·intro h; subst h; simp
theorem tq_43 (a b:Gh):H4d Eh 4 43 [.int .i64 a.ID,.string a.Number,.int .u8 a.Size,.bool a.High,.int .i64 a.Kilos,.int .i64 a.Load,.int .i64 a.Discharge,.int .u8 a.Class,.bool a.Reefer] [.int .i64 b.ID,.string b.Number,.int .u8 b.Size,.bool b.High,.int .i64 b.Kilos,.int .i64 b.Load,.int .i64 b.Discharge,.int .u8 b.Class,.bool b.Reefer]=some (decide (a=b)):=by
 refine(show _=some ((a.ID==b.ID)&&((a.Number==b.Number)&&((a.Size==b.Size)&&((a.High==b.High)&&((a.Kilos==b.Kilos)&&((a.Load==b.Load)&&((a.Discharge==b.Discharge)&&((a.Class==b.Class)&&((a.Reefer==b.Reefer)&&true))))))))) by kernel_rfl).trans (congrArg some ?_)
 rw [Bool.eq_iff_iff]
 simp only [Bool.and_eq_true,ba_beq_iff,beq_iff_eq,decide_eq_true_eq,Bool.and_true]
 constructor
 ·intro h; obtain⟨_,_,_,_,_,_,_,_,_⟩:=a; obtain⟨_,_,_,_,_,_,_,_,_⟩:=b; simp_all
 ·intro h; subst h; simp
theorem tq_63 (a b:Stowed):H4d Eh 4 63 [.int .i64 a.Gh,.int .i64 a.Slot.G4,.int .i64 a.Slot.Tier,.int .u8 a.Slot.Half] [.int .i64 b.Gh,.int .i64 b.Slot.G4,.int .i64 b.Slot.Tier,.int .u8 b.Slot.Half]=some (decide (a=b)):=by
 refine(show _=some ((a.Gh==b.Gh)&&(((a.Slot.G4==b.Slot.G4)&&((a.Slot.Tier==b.Slot.Tier)&&((a.Slot.Half==b.Slot.Half)&&true)))&&true)) by kernel_rfl).trans (congrArg some ?_)
 rw [Bool.eq_iff_iff]
 simp only [Bool.and_eq_true,beq_iff_eq,decide_eq_true_eq,Bool.and_true]
 constructor
 ·intro h; obtain⟨_,⟨_,_,_⟩⟩:=a; obtain⟨_,⟨_,_,_⟩⟩:=b; simp_all
 ·intro h; subst h; simp
theorem Gba:Gb5 Eh 130 5=true:=by kernel_rfl
theorem Gb9:Gb5 Eh 133 5=true:=by kernel_rfl
theorem G09:Gb5 Eh 136 6=true:=by kernel_rfl
theorem Jde:Gb5 Eh 25 4=true:=by kernel_rfl
theorem Jdd:Gb5 Eh 30 4=true:=by kernel_rfl
theorem Hu:Gb5 Eh 32 13=true:=by kernel_rfl
theorem G05:Gb5 Eh 43 9=true:=by kernel_rfl
theorem G19:Gb5 Eh 63 4=true:=by kernel_rfl
theorem H69:G0c Eh 130=true:=by kernel_rfl
theorem H68:G0c Eh 133=true:=by kernel_rfl
theorem Q1b:G0c Eh 25=true:=by kernel_rfl
theorem Q1a:G0c Eh 30=true:=by kernel_rfl
theorem H92:G0c Eh 43=true:=by kernel_rfl
theorem J4b:G0c Eh 63=true:=by kernel_rfl
theorem Gfa:J5c Eh 4=true:=by kernel_rfl
theorem H66:H8 Eh 10=true:=by kernel_rfl
theorem J4a:H8 Eh 100=true:=by kernel_rfl
theorem Q18:H8 Eh 101=true:=by kernel_rfl
theorem J49:H8 Eh 102=true:=by kernel_rfl
theorem Q10:H8 Eh 120=true:=by kernel_rfl
theorem Q0f:H8 Eh 121=true:=by kernel_rfl
theorem Q0e:H8 Eh 122=true:=by kernel_rfl
theorem Q0d:H8 Eh 123=true:=by kernel_rfl
theorem Q0c:H8 Eh 124=true:=by kernel_rfl
theorem Q0b:H8 Eh 125=true:=by kernel_rfl
theorem H90:H8 Eh 126=true:=by kernel_rfl
theorem Q0a:H8 Eh 127=true:=by kernel_rfl
theorem H8f:H8 Eh 128=true:=by kernel_rfl
theorem Q09:H8 Eh 129=true:=by kernel_rfl
theorem H8e:H8 Eh 130=true:=by kernel_rfl
theorem G5d:H8 Eh 21=true:=by kernel_rfl
theorem H63:H8 Eh 25=true:=by kernel_rfl
theorem Q53:H8 Eh 41=true:=by kernel_rfl
theorem Q52:H8 Eh 42=true:=by kernel_rfl
theorem Q51:H8 Eh 43=true:=by kernel_rfl
theorem Q50:H8 Eh 44=true:=by kernel_rfl
theorem Q4f:H8 Eh 45=true:=by kernel_rfl
theorem J97:H8 Eh 46=true:=by kernel_rfl
theorem J96:H8 Eh 47=true:=by kernel_rfl
theorem G3f:H8 Eh 48=true:=by kernel_rfl
theorem Q40:H8 Eh 75=true:=by kernel_rfl
theorem Q3f:H8 Eh 76=true:=by kernel_rfl
theorem Q3e:H8 Eh 77=true:=by kernel_rfl
theorem Q3d:H8 Eh 78=true:=by kernel_rfl
theorem Q3c:H8 Eh 79=true:=by kernel_rfl
theorem Q3b:H8 Eh 80=true:=by kernel_rfl
theorem Q33:H8 Eh 95=true:=by kernel_rfl
theorem J8b:H8 Eh 96=true:=by kernel_rfl
theorem Q32:H8 Eh 97=true:=by kernel_rfl
theorem J8a:H8 Eh 98=true:=by kernel_rfl
theorem J89:H8 Eh 99=true:=by kernel_rfl
theorem H8d:Yp Eh 130 5 40=true:=by kernel_rfl
theorem H8c:Yp Eh 133 5 40=true:=by kernel_rfl
theorem H8b:Yp Eh 136 6 64=true:=by kernel_rfl
theorem G18:Yp Eh 3 1 8=true:=by kernel_rfl
theorem Hdd:Yp Eh 43 9 64=true:=by kernel_rfl
theorem Gfd:Yp Eh 63 4 32=true:=by kernel_rfl
theorem Hdc:Yp Eh 78 12 112=true:=by kernel_rfl
theorem Hdb:Yp Eh 80 2 32=true:=by kernel_rfl
theorem Hda:Eh.eqGuardType Eh.depth 130=false:=by kernel_rfl
theorem Hd9:Eh.eqGuardType Eh.depth 133=false:=by kernel_rfl
theorem tf_eqg_25:Eh.eqGuardType Eh.depth 25=false:=by kernel_rfl
theorem tf_eqg_30:Eh.eqGuardType Eh.depth 30=false:=by kernel_rfl
theorem J22:Eh.eqGuardType Eh.depth 43=false:=by kernel_rfl
theorem Jdb:Eh.eqGuardType Eh.depth 63=false:=by kernel_rfl
theorem H8a:Q1 Eh 136 0 0=true:=by kernel_rfl
theorem H89:Q1 Eh 136 1 1=true:=by kernel_rfl
theorem H88:Q1 Eh 136 2 2=true:=by kernel_rfl
theorem H87:Q1 Eh 136 3 3=true:=by kernel_rfl
theorem H86:Q1 Eh 136 4 4=true:=by kernel_rfl
theorem G34:Q1 Eh 136 5 5=true:=by kernel_rfl
theorem Hcc:Q1 Eh 32 2 2=true:=by kernel_rfl
theorem G4d:Q1 Eh 32 3 6=true:=by kernel_rfl
theorem G4c:Q1 Eh 32 4 7=true:=by kernel_rfl
theorem G4b:Q1 Eh 32 5 8=true:=by kernel_rfl
theorem Hcb:Q1 Eh 32 6 9=true:=by kernel_rfl
theorem Jd7:placesOf Eh 130=some [(0,1),(1,1),(2,1),(3,1),(4,1)]:=by kernel_rfl
theorem Jd6:placesOf Eh 133=some [(0,1),(1,1),(2,1),(3,1),(4,1)]:=by kernel_rfl
theorem Jd5:placesOf Eh 136=some [(0,1),(1,1),(2,1),(3,1),(4,1),(5,1)]:=by kernel_rfl
theorem Zr:placesOf Eh 43=some [(0,1),(1,1),(2,1),(3,1),(4,1),(5,1),(6,1),(7,1),(8,1)]:=by kernel_rfl
theorem J00:placesOf Eh 63=some [(0,1),(1,3)]:=by kernel_rfl
theorem G6a:placesOf Eh 78=some [(0,1),(1,1),(2,1),(3,1),(4,1),(5,1),(6,1),(7,1),(8,1),(9,1),(10,1),(11,1)]:=by kernel_rfl
theorem Hff:placesOf Eh 80=some [(0,1),(1,1)]:=by kernel_rfl
theorem Ga5:Rt Eh 26=true:=by kernel_rfl
theorem Ga4:Rt Eh 27=true:=by kernel_rfl
theorem Ga3:Rt Eh 28=true:=by kernel_rfl
theorem Jf7:Yj Eh 130 5=true:=by kernel_rfl
theorem Jf6:Yj Eh 133 5=true:=by kernel_rfl
theorem H84:Yj Eh 136 6=true:=by kernel_rfl
theorem Q31:Yj Eh 22 1=true:=by kernel_rfl
theorem Q30:Yj Eh 23 1=true:=by kernel_rfl
theorem Q2f:Yj Eh 26 1=true:=by kernel_rfl
theorem Q2e:Yj Eh 27 1=true:=by kernel_rfl
theorem Q2d:Yj Eh 28 1=true:=by kernel_rfl
theorem H60:Yj Eh 32 13=true:=by kernel_rfl
theorem Hd7:Yj Eh 35 1=true:=by kernel_rfl
theorem G08:Yj Eh 43 9=true:=by kernel_rfl
theorem G92:Yj Eh 63 4=true:=by kernel_rfl
theorem Q0:sliceB Eh 26 130 5=true:=by kernel_rfl
theorem Jz:sliceB Eh 27 133 5=true:=by kernel_rfl
theorem Jn:sliceB Eh 28 136 6=true:=by kernel_rfl
theorem Jm:sliceB Eh 33 43 9=true:=by kernel_rfl
theorem H0:sliceB Eh 34 63 4=true:=by kernel_rfl
theorem J3f:(Eh.info? 130).bind (fun i=>i.zero.map Value.cells)=some (List.toArray [.int .i64 0,.int .i64 0,.int .i64 0,.int .i64 0,.int .i64 0]):=by kernel_rfl
theorem J3e:(Eh.info? 133).bind (fun i=>i.zero.map Value.cells)=some (List.toArray [.int .i64 0,.int .i64 0,.int .i64 0,.int .i64 0,.int .i64 0]):=by kernel_rfl
theorem H83:(Eh.info? 136).bind (fun i=>i.zero.map Value.cells)=some (List.toArray [.int .i64 0,.int .i64 0,.int .i64 0,.int .i64 0,.int .i64 0,.slice none 0 0]):=by kernel_rfl
theorem Hd6:(Eh.info? 32).bind (fun i=>i.zero.map Value.cells)=some (List.toArray [.slice none 0 0,.slice none 0 0,.int .i64 0,.int .i64 0,.int .i64 0,.int .i64 0,.slice none 0 0,.slice none 0 0,.slice none 0 0,.int .i64 0,.int .i64 0,.int .i64 0,.int .i64 0]):=by kernel_rfl
theorem Zp:(Eh.info? 43).bind (fun i=>i.zero.map Value.cells)=some (List.toArray [.int .i64 0,.string ByteArray.empty,.int .u8 0,.bool false,.int .i64 0,.int .i64 0,.int .i64 0,.int .u8 0,.bool false]):=by kernel_rfl
theorem H5f:(Eh.info? 63).bind (fun i=>i.zero.map Value.cells)=some (List.toArray [.int .i64 0,.int .i64 0,.int .i64 0,.int .u8 0]):=by kernel_rfl
theorem G5b:(Eh.info? 78).bind (fun i=>i.zero.map Value.cells)=some (List.toArray [.int .i64 0,.int .i64 0,.bool false,.int .i64 0,.int .i64 0,.int .i64 0,.int .i64 0,.int .i64 0,.slice none 0 0,.int .i64 0,.int .i64 0,.int .i64 0]):=by kernel_rfl
theorem H5e:(Eh.info? 80).bind (fun i=>i.zero.map Value.cells)=some (List.toArray [.int .i64 0,.slice none 0 0]):=by kernel_rfl
theorem Je6:Yz Eh 130 5=true:=by kernel_rfl
theorem Je5:Yz Eh 133 5=true:=by kernel_rfl
theorem H5d:Yz Eh 136 6=true:=by kernel_rfl
theorem Y2:Yz Eh 3 1=true:=by kernel_rfl
theorem G24:Yz Eh 43 9=true:=by kernel_rfl
theorem G5a:Yz Eh 63 4=true:=by kernel_rfl
end XLF
open XAF
open XLF

def Jf (k:Int) (i:Int):Option Int:=
 G1f (k+7) fun v3=>
 G1f (1000003*v3) fun v4=>
 G1f (v4+i) fun v5=>
 some v5
theorem Qb (k:Int) (i:Int) (r:Int) (h:Jf k i=some r):Pure Eh 48 [G0 k,G0 i] (·=G0 r):=by
 unfold Jf at h
 refine Gy [.tmp 4] Tryz.func48 O O (Jr fun hK1=>(Yy (G0 0) O (G7 (hK1 (Jr fun hK2=>(Yy (G0 k) O ?_))))))
 obtain⟨v3,hv3,h⟩:=Qq h
 refine JLh (G0 v3) (Hs hv3 O O O) O ?_
 obtain⟨v4,hv4,h⟩:=Qq h
 refine JLh (G0 v4) (A_mul hv4 O O O) O (Yy (G0 i) O ?_)
 obtain⟨v5,hv5,h⟩:=Qq h
 refine JLh (G0 v5) (Hs hv5 O O O) O (Yy (G0 v5) O (G7 (hK2 (Gr (fin1 G0 h)))))

def Qe (l:List Int):Option (Ln Int):=
 G1f ((l.length:Int)+12) fun v3=>
 bnd (Gcd v3) fun m4=>
 need (decide (8*m4≤281474976710656∧m4≤maxLen)) <|
 need (decide ((([]:List Int).length+l.length)*8≤140737488355328∧([]:List Int).length+l.length≤maxLen)) <|
 need (decide (12≤9223372036854775807)) <|
 upto (fun i19 (s19:(List Int)) nx19=>
  bnd (Jf 1 (i19:Int)) fun r23=>
  need (decide ((s19.length+[r23].length)*8≤140737488355328∧s19.length+[r23].length≤maxLen)) <|
  nx19 (s19++[r23]))
 (fun(s19:(List Int))=>
  bnd (G36 (l.length:Int) s19.length) fun m26=>
  some (s19.take m26,s19.drop m26)) (12:Int).toNat 0 (([]:List Int)++l)
theorem Zi (l:List Int) (r:(Ln Int)) (h:Qe l=some r):Pure Eh 10 [E0 l] (·=LT 1 G0 r):=by
 unfold Qe at h
 refine Gy [.tmp 2] Tryz.func10 O O (Jr fun hK1=>(JLh (E0 ([]:List Int)) (Hy 1 O O) O (G7 (hK1 (Jr fun hK2=>(Yy (E0 l) O (JLl Gu O O O fun hm6=>?_)))))))
 obtain⟨v3,hv3,h⟩:=Qq h
 refine JLh (G0 v3) (Hs hv3 O O O) O ?_
 obtain⟨m4,hm4,h⟩:=Ge h
 obtain⟨ha5,h⟩:=J2 h
 refine JLh (OW 1013 1 G0 ([]:List Int)) (G9f 1013 O O O O Gu G18 O (G4e hm4) ha5) O (Yy (OW 1013 1 G0 ([]:List Int)) O (G7 (hK2 (Jr fun hK6=>(Yy (OW 1013 1 G0 ([]:List Int)) O (Yy (E0 l) O ?_))))))
 obtain⟨ha7,h⟩:=J2 h
 refine JLh (OW 1013 1 G0 (([]:List Int)++l)) (Gc2 (f:=G0) (xs:=([]:List Int)) (ys:=l) O O O O Gu G18 ha7 (fun _=>O) (.inl O)) O (Yy (OW 1013 1 G0 (([]:List Int)++l)) O (G7 (hK6 (Js fun hK8=>Jr fun hK9=>(Yy (G0 0) O (G7 (hK9 (Gs ?_))))))))
 obtain⟨hx19,h⟩:=J2 h
 obtain⟨b19,kx19,hb19,hkx19,h⟩:=G8d h
 refine Hc (fun i19 (s19:(List Int))=>upto b19 kx19 ((12:Int).toNat - i19) i19 s19=some r) (fun i19 s19=>[(0,E0 l),(3,OW 1013 1 G0 s19),(4,Eg i19)]) (fun i19 s19=>[(1013,.spare 3 1 s19.length s19.length)]) (fun i19=>(12:Int).toNat - i19) 0 (([]:List Int)++l) h ⟨⟨.same O,.same O,.same O,G⟩,⟨⟨_,O,.same⟩,G⟩,O⟩ ?_
 clear h
 intro i19 s19 hi19 K19 e19
 refine Js fun hK20=>Jr fun hK21=>(Yy (Eg i19) O (JLh (BL (decide ((i19:Int) < 12))) (J4 O O O) O (G7 (hK21 (Gk O (fun hb=>?_) (fun hb=>?_))))))
 ·
  have hk19:=G48 hb
  obtain⟨nx19,hn19,h⟩:=G45 hi19 hk19
  replace h:=J15 hb19 h
  refine Gp (hK20 (Js fun hK22=>Gs (G3 (Yy (OW 1013 1 G0 s19) O (Yy (Eg i19) O ?_)))))
  obtain⟨r23,hr23,h⟩:=Ge h
  refine JLh (G0 r23) (Gn O (Qb 1 (i19:Int) r23 hr23) G3f ⟨O,O,O,O,G⟩) O (JLh (E0 [r23]) (Hn (xs:=[G0 r23]) O ⟨O,O,G⟩ Gu Y2 O O O O) O ?_)
  obtain⟨ha24,h⟩:=J2 h
  refine JLh (OW 1013 1 G0 (s19++[r23])) (Rj (f:=G0) (xs:=s19) (ys:=[r23]) O O O O Gu G18 ha24 (fun _=>O) (.inl O) O) O (Yy (OW 1013 1 G0 (s19++[r23])) O (G7 (hK22 (G3 (Yy (Eg i19) O (JLh (G0 ((i19+1:Nat):Int)) (Hs (He hk19 (G23 hx19)) O O O) O (Yy (G0 ((i19+1:Nat):Int)) O (G7 (e19 _ _ (i19+1) (s19++[r23]) (app1 hn19 h) (by omega) ⟨⟨.same rfl,.same rfl,.same rfl,G⟩,⟨⟨_,rfl,.same⟩,G⟩,rfl⟩)))))))))
 ·
  have h:=app1 hkx19 (G46 hi19 (Yf hb))
  refine Hi (hK8 (Jr fun hK25=>(Yy (OW 1013 1 G0 s19) O (Yy (E0 l) O (JLl Gu O O O fun hm23=>?_)))))
  obtain⟨m26,hm26,h⟩:=Ge h
  refine JLh (LT 1 G0 (s19.take m26,s19.drop m26)) (J65 (f:=G0) (xs:=s19) O O O Gu (Yo hm26)) O (Yy (LT 1 G0 (s19.take m26,s19.drop m26)) O (G7 (hK25 (Gr (fin1 (fun r:(Ln Int)=>(LT 1 G0 r:AV)) h)))))

def Y0 (x:G4):Option Gw:=
 bnd (Qe x.Plugs) fun r3=>
 some (Gw.mk x.Bay x.Row x.Deck x.Tiers x.Height x.Kilos20 x.Kilos40 x.Lash r3 x.X x.Y x.Z)
theorem Gf1 (x:G4) (r:Gw) (h:Y0 x=some r):Pure Eh 95 [.agg (G4.cs x)] (·=.agg (Gw.cs r)):=by
 unfold Y0 at h
 refine Gy [.cell 2 78] Tryz.func95 O O (Jr fun hK1=>(JLh (.ptr 1106 0) (Ji (cs:=(G4.cs x)) 1106 O O O O O) O (JLh (.ptr 1107 0) (G1c 1107 [G0 0,G0 0,BL false,G0 0,G0 0,G0 0,G0 0,G0 0,E0 ([]:List Int),G0 0,G0 0,G0 0] [.int .i64 0,.int .i64 0,.bool false,.int .i64 0,.int .i64 0,.int .i64 0,.int .i64 0,.int .i64 0,.slice none 0 0,.int .i64 0,.int .i64 0,.int .i64 0] G5b ⟨.inl O,.inl O,.inl O,.inl O,.inl O,.inl O,.inl O,.inl O,.inr ⟨_,O,O⟩,.inl O,.inl O,.inl O,G⟩ O O) O (G7 (hK1 (Jr fun hK2=>(JLh (.ptr 1106 8) (G0d Qw O O) O (JLh (E0 x.Plugs) (G57 Ho O O O O) O ?_))))))))
 obtain⟨r3,hr3,h⟩:=Ge h
 refine JLh (LT 1 G0 r3) (Gn O (Zi x.Plugs r3 hr3) H66 ⟨O,O,G⟩) O (JLh (.ptr 1106 8) (G0d Qw O O) O (Jk (u:=.junk) (Jb (u:=LT 1 G0 r3) (ds:=[G0 x.Bay,G0 x.Row,BL x.Deck,G0 x.Tiers,G0 x.Height,G0 x.Kilos20,G0 x.Kilos40,G0 x.Lash,LT 1 G0 r3,G0 x.X,G0 x.Y,G0 x.Z]) Hd7 O O O O O O O O) (G7 (hK2 (Gz [(1,.dptr [G0 x.Bay,G0 x.Row,BL x.Deck,G0 x.Tiers,G0 x.Height,G0 x.Kilos20,G0 x.Kilos40,G0 x.Lash,LT 1 G0 r3,G0 x.X,G0 x.Y,G0 x.Z]),(2,.ptr 1107 0)] [(1107,.box 78 [G0 0,G0 0,BL false,G0 0,G0 0,G0 0,G0 0,G0 0,E0 ([]:List Int),G0 0,G0 0,G0 0])] 1106 rfl rfl rfl ⟨⟨_,rfl,.boxEq rfl rfl⟩,G⟩ rfl (by exact⟨.ptr,.conv (.same rfl),G⟩) ?_)))))
 refine Jr fun hK4=>(JLh (.agg [G0 x.Bay,G0 x.Row,BL x.Deck,G0 x.Tiers,G0 x.Height,G0 x.Kilos20,G0 x.Kilos40,G0 x.Lash,LT 1 G0 r3,G0 x.X,G0 x.Y,G0 x.Z]) (Gi Rf O O O) O (Jk (u:=.junk) (Jb (u:=.agg [G0 x.Bay,G0 x.Row,BL x.Deck,G0 x.Tiers,G0 x.Height,G0 x.Kilos20,G0 x.Kilos40,G0 x.Lash,LT 1 G0 r3,G0 x.X,G0 x.Y,G0 x.Z]) (ds:=[G0 x.Bay,G0 x.Row,BL x.Deck,G0 x.Tiers,G0 x.Height,G0 x.Kilos20,G0 x.Kilos40,G0 x.Lash,LT 1 G0 r3,G0 x.X,G0 x.Y,G0 x.Z]) Gb8 O O O O O O O O) (G7 (hK4 (Gr ?_)))))
 exact⟨[.agg [G0 x.Bay,G0 x.Row,BL x.Deck,G0 x.Tiers,G0 x.Height,G0 x.Kilos20,G0 x.Kilos40,G0 x.Lash,LT 1 G0 r3,G0 x.X,G0 x.Y,G0 x.Z]],[],G,O,⟨⟨_,⟨_,_,_,_,O,O,O,.inl ⟨Rf,O⟩⟩,.conv (.same O)⟩,G⟩,O,congrArg (fun r:Gw=>(.agg (Gw.cs r):AV)) (Option.some.inj h)⟩

def Qh (k:Int) (i:Int):Option G4:=
 bnd (Jf k i) fun r3=>
 some (G4.mk r3 0 false 0 0 0 0 0 [] 0 0 0)
theorem G55 (k:Int) (i:Int) (r:G4) (h:Qh k i=some r):Pure Eh 96 [G0 k,G0 i] (·=.agg (G4.cs r)):=by
 unfold Qh at h
 refine Gy [.cell 4 78] Tryz.func96 O O (Jr fun hK1=>(JLh (.ptr 1108 0) (G1c 1108 [G0 0,G0 0,BL false,G0 0,G0 0,G0 0,G0 0,G0 0,E0 ([]:List Int),G0 0,G0 0,G0 0] [.int .i64 0,.int .i64 0,.bool false,.int .i64 0,.int .i64 0,.int .i64 0,.int .i64 0,.int .i64 0,.slice none 0 0,.int .i64 0,.int .i64 0,.int .i64 0] G5b ⟨.inl O,.inl O,.inl O,.inl O,.inl O,.inl O,.inl O,.inl O,.inr ⟨_,O,O⟩,.inl O,.inl O,.inl O,G⟩ O O) O (G7 (hK1 (Jr fun hK2=>(Yy (G0 k) O (Yy (G0 i) O ?_)))))))
 obtain⟨r3,hr3,h⟩:=Ge h
 refine JLh (G0 r3) (Gn O (Qb k i r3 hr3) G3f ⟨O,O,O,O,G⟩) O (JLh (.agg [G0 r3,G0 0,BL false,G0 0,G0 0,G0 0,G0 0,G0 0,E0 ([]:List Int),G0 0,G0 0,G0 0]) (Jq (cs:=[G0 r3,G0 0,BL false,G0 0,G0 0,G0 0,G0 0,G0 0,E0 ([]:List Int),G0 0,G0 0,G0 0]) [(0,1),(1,1),(2,1),(3,1),(4,1),(5,1),(6,1),(7,1),(8,1),(9,1),(10,1),(11,1)] [G0 0,G0 0,BL false,G0 0,G0 0,G0 0,G0 0,G0 0,E0 ([]:List Int),G0 0,G0 0,G0 0] [.int .i64 0,.int .i64 0,.bool false,.int .i64 0,.int .i64 0,.int .i64 0,.int .i64 0,.int .i64 0,.slice none 0 0,.int .i64 0,.int .i64 0,.int .i64 0] G6a G5b ⟨.inl O,.inl O,.inl O,.inl O,.inl O,.inl O,.inl O,.inl O,.inr ⟨_,O,O⟩,.inl O,.inl O,.inl O,G⟩ O O) O (Jk (u:=.junk) (Jb (u:=.agg [G0 r3,G0 0,BL false,G0 0,G0 0,G0 0,G0 0,G0 0,E0 ([]:List Int),G0 0,G0 0,G0 0]) (ds:=[G0 r3,G0 0,BL false,G0 0,G0 0,G0 0,G0 0,G0 0,E0 ([]:List Int),G0 0,G0 0,G0 0]) Gb8 O O O O O O O O) (G7 (hK2 ?_))))
 refine Gr (⟨[.agg [G0 r3,G0 0,BL false,G0 0,G0 0,G0 0,G0 0,G0 0,E0 ([]:List Int),G0 0,G0 0,G0 0]],[],G,O,⟨⟨_,⟨_,_,_,_,O,O,O,.inl ⟨Rf,O⟩⟩,.conv (.same O)⟩,G⟩,O,congrArg (fun r:G4=>(.agg (G4.cs r):AV)) (Option.some.inj h)⟩)

def Rq (l:List G4):Option (Ln Gw):=
 G1f ((l.length:Int)+12) fun v3=>
 bnd (Gcd v3) fun m4=>
 need (decide (112*m4≤281474976710656∧m4≤maxLen)) <|
 each (fun y23 i23 (s23:(List Gw)) nx23=>
  bnd (Y0 y23) fun r28=>
  need (decide ((s23.length+[r28].length)*112≤140737488355328∧s23.length+[r28].length≤maxLen)) <|
  nx23 (s23++[r28]))
 (fun(s23:(List Gw))=>
  need (decide (12≤9223372036854775807)) <|
  upto (fun i41 (s41:(List Gw)) nx41=>
   bnd (Qh 1 (i41:Int)) fun r45=>
   need (decide ((s41.length+[(Gw.mk r45.Bay r45.Row r45.Deck r45.Tiers r45.Height r45.Kilos20 r45.Kilos40 r45.Lash (r45.Plugs,([]:List Int)) r45.X r45.Y r45.Z)].length)*112≤140737488355328∧s41.length+[(Gw.mk r45.Bay r45.Row r45.Deck r45.Tiers r45.Height r45.Kilos20 r45.Kilos40 r45.Lash (r45.Plugs,([]:List Int)) r45.X r45.Y r45.Z)].length≤maxLen)) <|
   nx41 (s41++[(Gw.mk r45.Bay r45.Row r45.Deck r45.Tiers r45.Height r45.Kilos20 r45.Kilos40 r45.Lash (r45.Plugs,([]:List Int)) r45.X r45.Y r45.Z)]))
  (fun(s41:(List Gw))=>
   bnd (G36 (l.length:Int) s41.length) fun m48=>
   some (s41.take m48,s41.drop m48)) (12:Int).toNat 0 s23) l 0 []
theorem Ge2 (l:List G4) (r:(Ln Gw)) (h:Rq l=some r):Pure Eh 41 [E4 l] (·=LT 12 Gw.av r):=by
 unfold Rq at h
 refine Gy [.tmp 2] Tryz.func41 O O (Jr fun hK1=>(JLh (E4 ([]:List G4)) (Hy 12 O O) O (G7 (hK1 (Jr fun hK2=>(Yy (E4 l) O (JLl H5 O O O fun hm8=>?_)))))))
 obtain⟨v3,hv3,h⟩:=Qq h
 refine JLh (G0 v3) (Hs hv3 O O O) O ?_
 obtain⟨m4,hm4,h⟩:=Ge h
 obtain⟨ha5,h⟩:=J2 h
 refine JLh (OW 1050 12 Gw.av ([]:List Gw)) (G9f 1050 O O O O H5 Hdc O (G4e hm4) ha5) O (Yy (OW 1050 12 Gw.av ([]:List Gw)) O (G7 (hK2 (Js fun hK6=>Jr fun hK7=>(Yy (G0 0) O (G7 (hK7 (Gs ?_))))))))
 obtain⟨b23,kx23,hb23,hkx23,h⟩:=J5 h
 refine Hc (fun i23 (s23:(List Gw))=>each b23 kx23 (List.drop i23 l) i23 s23=some r) (fun i23 s23=>[(0,E4 l),(3,OW 1050 12 Gw.av s23),(4,Eg i23)]) (fun i23 s23=>[(1050,.spare 78 12 s23.length s23.length)]) (fun i23=>l.length - i23) 0 [] h ⟨⟨.same O,.same O,.same O,G⟩,⟨⟨_,O,.same⟩,G⟩,O⟩ ?_
 clear h
 intro i23 s23 hi23 K23 e23
 refine Js fun hK24=>Jr fun hK25=>(Yy (Eg i23) O (Yy (E4 l) O (JLl H5 O O O fun hm13=>(JLh (BL (decide ((i23:Int) < (l.length:Int)))) (J4 O O O) O (G7 (hK25 (Gk O (fun hb=>?_) (fun hb=>?_))))))))
 ·
  have hk23:=Jj hb
  obtain⟨y23,nx23,hy23,hn23,h⟩:=Hq hi23 hk23
  replace h:=Z1 hb23 h
  refine Gp (hK24 (Js fun hK26=>Gs (Jr fun hK27=>(Yy (E4 l) O (Yy (Eg i23) O (JLh (Ec y23) (Gv (f:=G4.av) (xs:=l) (y:=y23) O O O H5 hy23 O) O (JLh (.agg (G4.cs y23)) (Gi Rf O O O) O ?_)))))))
  obtain⟨r28,hr28,h⟩:=Ge h
  refine JLh (.agg (Gw.cs r28)) (Gn O (Gf1 y23 r28 hr28) Q33 ⟨O,O,G⟩) O (JLh (.ptr 1049 0) (Qf 1049 12 G59 O O) O (Jk (u:=.junk) (Jb (u:=.agg (Gw.cs r28)) (ds:=(Gw.cs r28)) Gb8 O O O O O O O O) (G7 (hK27 (Gz [(0,E4 l),(3,OW 1050 12 Gw.av s23),(4,Eg i23),(5,.dptr (Gw.cs r28))] [(1050,.spare 78 12 s23.length s23.length)] 1049 rfl rfl rfl ⟨⟨_,rfl,.same⟩,G⟩ rfl (by repeat' (first | exact .ptr | constructor)) (G3 ?_))))))
  refine Yy (OW 1050 12 Gw.av s23) O (JLh (.agg (Gw.cs r28)) (Gi Rf O O O) O (JLh (LS 12 Gw.av [r28]) (Hn (xs:=[.agg (Gw.cs r28)]) O ⟨O,O,G⟩ H5 G59 O O O O) O ?_))
  obtain⟨ha29,h⟩:=J2 h
  refine JLh (OW 1050 12 Gw.av (s23++[r28])) (Rj (f:=Gw.av) (xs:=s23) (ys:=[r28]) O O O O H5 Hdc ha29 (fun _=>O) (.inl O) O) O (Yy (OW 1050 12 Gw.av (s23++[r28])) O (G7 (hK26 (G3 (Yy (Eg i23) O (JLh (G0 ((i23+1:Nat):Int)) (Hs (He hk23 hm13) O O O) O (Yy (G0 ((i23+1:Nat):Int)) O (G7 (e23 _ _ (i23+1) (s23++[r28]) (app1 hn23 h) (by omega) ⟨⟨.same rfl,.same rfl,.same rfl,G⟩,⟨⟨_,rfl,.same⟩,G⟩,rfl⟩)))))))))
 ·
  have h:=app1 hkx23 (Hr hi23 (Ha hb))
  refine Hi (hK6 (Js fun hK30=>Jr fun hK31=>(Yy (G0 0) O (G7 (hK31 (Gs ?_))))))
  obtain⟨hx41,h⟩:=J2 h
  obtain⟨b41,kx41,hb41,hkx41,h⟩:=G8d h
  refine Hc (fun i41 (s41:(List Gw))=>upto b41 kx41 ((12:Int).toNat - i41) i41 s41=some r) (fun i41 s41=>[(0,E4 l),(3,OW 1050 12 Gw.av s41),(6,Eg i41)]) (fun i41 s41=>[(1050,.spare 78 12 s41.length s41.length)]) (fun i41=>(12:Int).toNat - i41) 0 s23 h ⟨⟨.same O,.same O,.same O,G⟩,⟨⟨_,O,.same⟩,G⟩,O⟩ ?_
  clear h
  intro i41 s41 hi41 K41 e41
  refine Js fun hK42=>Jr fun hK43=>(Yy (Eg i41) O (JLh (BL (decide ((i41:Int) < 12))) (J4 O O O) O (G7 (hK43 (Gk O (fun hb=>?_) (fun hb=>?_))))))
  ·
   have hk41:=G48 hb
   obtain⟨nx41,hn41,h⟩:=G45 hi41 hk41
   replace h:=J15 hb41 h
   refine Gp (hK42 (Js fun hK44=>Gs (G3 (Yy (OW 1050 12 Gw.av s41) O (Yy (Eg i41) O ?_)))))
   obtain⟨r45,hr45,h⟩:=Ge h
   refine JLh (.agg [G0 r45.Bay,G0 r45.Row,BL r45.Deck,G0 r45.Tiers,G0 r45.Height,G0 r45.Kilos20,G0 r45.Kilos40,G0 r45.Lash,LT 1 G0 (r45.Plugs,([]:List Int)),G0 r45.X,G0 r45.Y,G0 r45.Z]) (H1.cv (Cv.aggL (cs:=(G4.cs r45)) ⟨.same,.same,.same,.same,.same,.same,.same,.same,Cv.of0 r45.Plugs,.same,.same,.same,G⟩) (Gn O (G55 1 (i41:Int) r45 hr45) J8b ⟨O,O,O,O,G⟩)) O (JLh (LS 12 Gw.av ([(Gw.mk r45.Bay r45.Row r45.Deck r45.Tiers r45.Height r45.Kilos20 r45.Kilos40 r45.Lash (r45.Plugs,([]:List Int)) r45.X r45.Y r45.Z)])) (Hn (xs:=[.agg [G0 r45.Bay,G0 r45.Row,BL r45.Deck,G0 r45.Tiers,G0 r45.Height,G0 r45.Kilos20,G0 r45.Kilos40,G0 r45.Lash,LT 1 G0 (r45.Plugs,([]:List Int)),G0 r45.X,G0 r45.Y,G0 r45.Z]]) O ⟨O,O,G⟩ H5 G59 O O O O) O ?_)
   obtain⟨ha46,h⟩:=J2 h
   refine JLh (OW 1050 12 Gw.av (s41++[(Gw.mk r45.Bay r45.Row r45.Deck r45.Tiers r45.Height r45.Kilos20 r45.Kilos40 r45.Lash (r45.Plugs,([]:List Int)) r45.X r45.Y r45.Z)])) (Rj (f:=Gw.av) (xs:=s41) (ys:=[(Gw.mk r45.Bay r45.Row r45.Deck r45.Tiers r45.Height r45.Kilos20 r45.Kilos40 r45.Lash (r45.Plugs,([]:List Int)) r45.X r45.Y r45.Z)]) O O O O H5 Hdc ha46 (fun _=>O) (.inl O) O) O (Yy (OW 1050 12 Gw.av (s41++[(Gw.mk r45.Bay r45.Row r45.Deck r45.Tiers r45.Height r45.Kilos20 r45.Kilos40 r45.Lash (r45.Plugs,([]:List Int)) r45.X r45.Y r45.Z)])) O (G7 (hK44 (G3 (Yy (Eg i41) O (JLh (G0 ((i41+1:Nat):Int)) (Hs (He hk41 (G23 hx41)) O O O) O (Yy (G0 ((i41+1:Nat):Int)) O (G7 ?_))))))))
   exact e41 _ _ (i41+1) (s41++[(Gw.mk r45.Bay r45.Row r45.Deck r45.Tiers r45.Height r45.Kilos20 r45.Kilos40 r45.Lash (r45.Plugs,([]:List Int)) r45.X r45.Y r45.Z)]) (app1 hn41 h) (by omega) ⟨⟨.same rfl,.same rfl,.same rfl,G⟩,⟨⟨_,rfl,.same⟩,G⟩,rfl⟩
  ·
   have h:=app1 hkx41 (G46 hi41 (Yf hb))
   refine Hi (hK30 (Jr fun hK47=>(Yy (OW 1050 12 Gw.av s41) O (Yy (E4 l) O (JLl H5 O O O fun hm37=>?_)))))
   obtain⟨m48,hm48,h⟩:=Ge h
   refine JLh (LT 12 Gw.av (s41.take m48,s41.drop m48)) (J65 (f:=Gw.av) (xs:=s41) O O O H5 (Yo hm48)) O (Yy (LT 12 Gw.av (s41.take m48,s41.drop m48)) O (G7 (hK47 (Gr (fin1 (fun r:(Ln Gw)=>(LT 12 Gw.av r:AV)) h)))))

def Yc (x:Gc):Option H7:=
 bnd (Qe x.Rows) fun r3=>
 some (H7.mk x.Bay r3)
theorem H11 (x:Gc) (r:H7) (h:Yc x=some r):Pure Eh 97 [.agg [G0 x.Bay,E0 x.Rows]] (·=.agg [G0 r.Bay,LT 1 G0 r.Rows]):=by
 unfold Yc at h
 refine Gy [.cell 2 80] Tryz.func97 O O (Jr fun hK1=>(JLh (.ptr 1109 0) (Ji (cs:=[G0 x.Bay,E0 x.Rows]) 1109 O O O O O) O (JLh (.ptr 1110 0) (G1c 1110 [G0 0,E0 ([]:List Int)] [.int .i64 0,.slice none 0 0] H5e ⟨.inl O,.inr ⟨_,O,O⟩,G⟩ O O) O (G7 (hK1 (Jr fun hK2=>(JLh (.ptr 1109 1) (G0d Jy O O) O (JLh (E0 x.Rows) (G57 Ho O O O O) O ?_))))))))
 obtain⟨r3,hr3,h⟩:=Ge h
 refine JLh (LT 1 G0 r3) (Gn O (Zi x.Rows r3 hr3) H66 ⟨O,O,G⟩) O (JLh (.ptr 1109 1) (G0d Jy O O) O (Jk (u:=.junk) (Jb (u:=LT 1 G0 r3) (ds:=[G0 x.Bay,LT 1 G0 r3]) Hd7 O O O O O O O O) (G7 (hK2 (Gz [(1,.dptr [G0 x.Bay,LT 1 G0 r3]),(2,.ptr 1110 0)] [(1110,.box 80 [G0 0,E0 ([]:List Int)])] 1109 rfl rfl rfl ⟨⟨_,rfl,.boxEq rfl rfl⟩,G⟩ rfl (by exact⟨.ptr,.conv (.same rfl),G⟩) (Jr fun hK4=>(JLh (.agg [G0 x.Bay,LT 1 G0 r3]) (Gi Rs O O O) O (Jk (u:=.junk) (Jb (u:=.agg [G0 x.Bay,LT 1 G0 r3]) (ds:=[G0 x.Bay,LT 1 G0 r3]) G91 O O O O O O O O) (G7 (hK4 (Gr ?_)))))))))))
 exact⟨[.agg [G0 x.Bay,LT 1 G0 r3]],[],G,O,⟨⟨_,⟨_,_,_,_,O,O,O,.inl ⟨Rs,O⟩⟩,.conv (.same O)⟩,G⟩,O,congrArg (fun r:H7=>(.agg [G0 r.Bay,LT 1 G0 r.Rows]:AV)) (Option.some.inj h)⟩

def Qo (k:Int) (i:Int):Option Gc:=
 bnd (Jf k i) fun r3=>
 some (Gc.mk r3 [])
theorem G61 (k:Int) (i:Int) (r:Gc) (h:Qo k i=some r):Pure Eh 98 [G0 k,G0 i] (·=.agg [G0 r.Bay,E0 r.Rows]):=by
 unfold Qo at h
 refine Gy [.cell 4 80] Tryz.func98 O O (Jr fun hK1=>(JLh (.ptr 1111 0) (G1c 1111 [G0 0,E0 ([]:List Int)] [.int .i64 0,.slice none 0 0] H5e ⟨.inl O,.inr ⟨_,O,O⟩,G⟩ O O) O (G7 (hK1 (Jr fun hK2=>(Yy (G0 k) O (Yy (G0 i) O ?_)))))))
 obtain⟨r3,hr3,h⟩:=Ge h
 refine JLh (G0 r3) (Gn O (Qb k i r3 hr3) G3f ⟨O,O,O,O,G⟩) O (JLh (.agg [G0 r3,E0 ([]:List Int)]) (Jq (cs:=[G0 r3,E0 ([]:List Int)]) [(0,1),(1,1)] [G0 0,E0 ([]:List Int)] [.int .i64 0,.slice none 0 0] Hff H5e ⟨.inl O,.inr ⟨_,O,O⟩,G⟩ O O) O (Jk (u:=.junk) (Jb (u:=.agg [G0 r3,E0 ([]:List Int)]) (ds:=[G0 r3,E0 ([]:List Int)]) G91 O O O O O O O O) (G7 (hK2 (Gr (⟨[.agg [G0 r3,E0 ([]:List Int)]],[],G,O,⟨⟨_,⟨_,_,_,_,O,O,O,.inl ⟨Rs,O⟩⟩,.conv (.same O)⟩,G⟩,O,congrArg (fun r:Gc=>(.agg [G0 r.Bay,E0 r.Rows]:AV)) (Option.some.inj h)⟩))))))

def Rz (l:List Gc):Option (Ln H7):=
 G1f ((l.length:Int)+12) fun v3=>
 bnd (Gcd v3) fun m4=>
 need (decide (32*m4≤281474976710656∧m4≤maxLen)) <|
 each (fun y23 i23 (s23:(List H7)) nx23=>
  bnd (Yc y23) fun r28=>
  need (decide ((s23.length+[r28].length)*32≤140737488355328∧s23.length+[r28].length≤maxLen)) <|
  nx23 (s23++[r28]))
 (fun(s23:(List H7))=>
  need (decide (12≤9223372036854775807)) <|
  upto (fun i41 (s41:(List H7)) nx41=>
   bnd (Qo 1 (i41:Int)) fun r45=>
   need (decide ((s41.length+[(H7.mk r45.Bay (r45.Rows,([]:List Int)))].length)*32≤140737488355328∧s41.length+[(H7.mk r45.Bay (r45.Rows,([]:List Int)))].length≤maxLen)) <|
   nx41 (s41++[(H7.mk r45.Bay (r45.Rows,([]:List Int)))]))
  (fun(s41:(List H7))=>
   bnd (G36 (l.length:Int) s41.length) fun m48=>
   some (s41.take m48,s41.drop m48)) (12:Int).toNat 0 s23) l 0 []
theorem Gf0 (l:List Gc) (r:(Ln H7)) (h:Rz l=some r):Pure Eh 42 [E3 l] (·=LT 2 H7.av r):=by
 unfold Rz at h
 refine Gy [.tmp 2] Tryz.func42 O O (Jr fun hK1=>(JLh (E3 ([]:List Gc)) (Hy 2 O O) O (G7 (hK1 (Jr fun hK2=>(Yy (E3 l) O (JLl Hh O O O fun hm8=>?_)))))))
 obtain⟨v3,hv3,h⟩:=Qq h
 refine JLh (G0 v3) (Hs hv3 O O O) O ?_
 obtain⟨m4,hm4,h⟩:=Ge h
 obtain⟨ha5,h⟩:=J2 h
 refine JLh (OW 1052 2 H7.av ([]:List H7)) (G9f 1052 O O O O Hh Hdb O (G4e hm4) ha5) O (Yy (OW 1052 2 H7.av ([]:List H7)) O (G7 (hK2 (Js fun hK6=>Jr fun hK7=>(Yy (G0 0) O (G7 (hK7 (Gs ?_))))))))
 obtain⟨b23,kx23,hb23,hkx23,h⟩:=J5 h
 refine Hc (fun i23 (s23:(List H7))=>each b23 kx23 (List.drop i23 l) i23 s23=some r) (fun i23 s23=>[(0,E3 l),(3,OW 1052 2 H7.av s23),(4,Eg i23)]) (fun i23 s23=>[(1052,.spare 80 2 s23.length s23.length)]) (fun i23=>l.length - i23) 0 [] h ⟨⟨.same O,.same O,.same O,G⟩,⟨⟨_,O,.same⟩,G⟩,O⟩ ?_
 clear h
 intro i23 s23 hi23 K23 e23
 refine Js fun hK24=>Jr fun hK25=>(Yy (Eg i23) O (Yy (E3 l) O (JLl Hh O O O fun hm13=>(JLh (BL (decide ((i23:Int) < (l.length:Int)))) (J4 O O O) O (G7 (hK25 (Gk O (fun hb=>?_) (fun hb=>?_))))))))
 ·
  have hk23:=Jj hb
  obtain⟨y23,nx23,hy23,hn23,h⟩:=Hq hi23 hk23
  replace h:=Z1 hb23 h
  refine Gp (hK24 (Js fun hK26=>Gs (Jr fun hK27=>(Yy (E3 l) O (Yy (Eg i23) O (JLh (.dptr [G0 y23.Bay,E0 y23.Rows]) (Gv (f:=Gc.av) (xs:=l) (y:=y23) O O O Hh hy23 O) O (JLh (.agg [G0 y23.Bay,E0 y23.Rows]) (Gi Rs O O O) O ?_)))))))
  obtain⟨r28,hr28,h⟩:=Ge h
  refine JLh (.agg [G0 r28.Bay,LT 1 G0 r28.Rows]) (Gn O (H11 y23 r28 hr28) Q32 ⟨O,O,G⟩) O (JLh (.ptr 1051 0) (Qf 1051 2 G3c O O) O (Jk (u:=.junk) (Jb (u:=.agg [G0 r28.Bay,LT 1 G0 r28.Rows]) (ds:=[G0 r28.Bay,LT 1 G0 r28.Rows]) G91 O O O O O O O O) (G7 (hK27 (Gz [(0,E3 l),(3,OW 1052 2 H7.av s23),(4,Eg i23),(5,.dptr [G0 r28.Bay,LT 1 G0 r28.Rows])] [(1052,.spare 80 2 s23.length s23.length)] 1051 rfl rfl rfl ⟨⟨_,rfl,.same⟩,G⟩ rfl (by repeat' (first | exact .ptr | constructor)) (G3 ?_))))))
  refine Yy (OW 1052 2 H7.av s23) O (JLh (.agg [G0 r28.Bay,LT 1 G0 r28.Rows]) (Gi Rs O O O) O (JLh (LS 2 H7.av [r28]) (Hn (xs:=[.agg [G0 r28.Bay,LT 1 G0 r28.Rows]]) O ⟨O,O,G⟩ Hh G3c O O O O) O ?_))
  obtain⟨ha29,h⟩:=J2 h
  refine JLh (OW 1052 2 H7.av (s23++[r28])) (Rj (f:=H7.av) (xs:=s23) (ys:=[r28]) O O O O Hh Hdb ha29 (fun _=>O) (.inl O) O) O (Yy (OW 1052 2 H7.av (s23++[r28])) O (G7 (hK26 (G3 (Yy (Eg i23) O (JLh (G0 ((i23+1:Nat):Int)) (Hs (He hk23 hm13) O O O) O (Yy (G0 ((i23+1:Nat):Int)) O (G7 (e23 _ _ (i23+1) (s23++[r28]) (app1 hn23 h) (by omega) ⟨⟨.same rfl,.same rfl,.same rfl,G⟩,⟨⟨_,rfl,.same⟩,G⟩,rfl⟩)))))))))
 ·
  have h:=app1 hkx23 (Hr hi23 (Ha hb))
  refine Hi (hK6 (Js fun hK30=>Jr fun hK31=>(Yy (G0 0) O (G7 (hK31 (Gs ?_))))))
  obtain⟨hx41,h⟩:=J2 h
  obtain⟨b41,kx41,hb41,hkx41,h⟩:=G8d h
  refine Hc (fun i41 (s41:(List H7))=>upto b41 kx41 ((12:Int).toNat - i41) i41 s41=some r) (fun i41 s41=>[(0,E3 l),(3,OW 1052 2 H7.av s41),(6,Eg i41)]) (fun i41 s41=>[(1052,.spare 80 2 s41.length s41.length)]) (fun i41=>(12:Int).toNat - i41) 0 s23 h ⟨⟨.same O,.same O,.same O,G⟩,⟨⟨_,O,.same⟩,G⟩,O⟩ ?_
  clear h
  intro i41 s41 hi41 K41 e41
  refine Js fun hK42=>Jr fun hK43=>(Yy (Eg i41) O (JLh (BL (decide ((i41:Int) < 12))) (J4 O O O) O (G7 (hK43 (Gk O (fun hb=>?_) (fun hb=>?_))))))
  ·
   have hk41:=G48 hb
   obtain⟨nx41,hn41,h⟩:=G45 hi41 hk41
   replace h:=J15 hb41 h
   refine Gp (hK42 (Js fun hK44=>Gs (G3 (Yy (OW 1052 2 H7.av s41) O (Yy (Eg i41) O ?_)))))
   obtain⟨r45,hr45,h⟩:=Ge h
   refine JLh (.agg [G0 r45.Bay,LT 1 G0 (r45.Rows,([]:List Int))]) (H1.cv (Cv.aggL (cs:=[G0 r45.Bay,E0 r45.Rows]) ⟨.same,Cv.of0 r45.Rows,G⟩) (Gn O (G61 1 (i41:Int) r45 hr45) J8a ⟨O,O,O,O,G⟩)) O (JLh (LS 2 H7.av ([(H7.mk r45.Bay (r45.Rows,([]:List Int)))])) (Hn (xs:=[.agg [G0 r45.Bay,LT 1 G0 (r45.Rows,([]:List Int))]]) O ⟨O,O,G⟩ Hh G3c O O O O) O ?_)
   obtain⟨ha46,h⟩:=J2 h
   refine JLh (OW 1052 2 H7.av (s41++[(H7.mk r45.Bay (r45.Rows,([]:List Int)))])) (Rj (f:=H7.av) (xs:=s41) (ys:=[(H7.mk r45.Bay (r45.Rows,([]:List Int)))]) O O O O Hh Hdb ha46 (fun _=>O) (.inl O) O) O (Yy (OW 1052 2 H7.av (s41++[(H7.mk r45.Bay (r45.Rows,([]:List Int)))])) O (G7 (hK44 (G3 (Yy (Eg i41) O (JLh (G0 ((i41+1:Nat):Int)) (Hs (He hk41 (G23 hx41)) O O O) O (Yy (G0 ((i41+1:Nat):Int)) O (G7 (e41 _ _ (i41+1) (s41++[(H7.mk r45.Bay (r45.Rows,([]:List Int)))]) (app1 hn41 h) (by omega) ⟨⟨.same rfl,.same rfl,.same rfl,G⟩,⟨⟨_,rfl,.same⟩,G⟩,rfl⟩)))))))))
  ·
   have h:=app1 hkx41 (G46 hi41 (Yf hb))
   refine Hi (hK30 (Jr fun hK47=>(Yy (OW 1052 2 H7.av s41) O (Yy (E3 l) O (JLl Hh O O O fun hm37=>?_)))))
   obtain⟨m48,hm48,h⟩:=Ge h
   refine JLh (LT 2 H7.av (s41.take m48,s41.drop m48)) (J65 (f:=H7.av) (xs:=s41) O O O Hh (Yo hm48)) O (Yy (LT 2 H7.av (s41.take m48,s41.drop m48)) O (G7 (hK47 (Gr (fin1 (fun r:(Ln H7)=>(LT 2 H7.av r:AV)) h)))))

def R3 (k:Int) (i:Int):Option Row:=
 bnd (Jf k i) fun r3=>
 some (Row.mk 0 r3 0 0 0)
theorem G84 (k:Int) (i:Int) (r:Row) (h:R3 k i=some r):Pure Eh 99 [G0 k,G0 i] (·=.agg (Row.cs r)):=by
 unfold R3 at h
 refine Gy [.cell 4 130] Tryz.func99 O O (Jr fun hK1=>(JLh (.ptr 1112 0) (G1c 1112 [G0 0,G0 0,G0 0,G0 0,G0 0] [.int .i64 0,.int .i64 0,.int .i64 0,.int .i64 0,.int .i64 0] J3f ⟨.inl O,.inl O,.inl O,.inl O,.inl O,G⟩ O O) O (G7 (hK1 (Jr fun hK2=>(Yy (G0 k) O (Yy (G0 i) O ?_)))))))
 obtain⟨r3,hr3,h⟩:=Ge h
 refine JLh (G0 r3) (Gn O (Qb k i r3 hr3) G3f ⟨O,O,O,O,G⟩) O (JLh (.agg [G0 0,G0 r3,G0 0,G0 0,G0 0]) (Jq (cs:=[G0 0,G0 r3,G0 0,G0 0,G0 0]) [(0,1),(1,1),(2,1),(3,1),(4,1)] [G0 0,G0 0,G0 0,G0 0,G0 0] [.int .i64 0,.int .i64 0,.int .i64 0,.int .i64 0,.int .i64 0] Jd7 J3f ⟨.inl O,.inl O,.inl O,.inl O,.inl O,G⟩ O O) O (Jk (u:=.junk) (Jb (u:=.agg [G0 0,G0 r3,G0 0,G0 0,G0 0]) (ds:=[G0 0,G0 r3,G0 0,G0 0,G0 0]) Jf7 O O O O O O O O) (G7 (hK2 (Gr (⟨[.agg [G0 0,G0 r3,G0 0,G0 0,G0 0]],[],G,O,⟨⟨_,⟨_,_,_,_,O,O,O,.inl ⟨Gba,O⟩⟩,.conv (.same O)⟩,G⟩,O,congrArg (fun r:Row=>(.agg (Row.cs r):AV)) (Option.some.inj h)⟩))))))

def Yv (l:List Row):Option (Ln Row):=
 G1f ((l.length:Int)+12) fun v3=>
 bnd (Gcd v3) fun m4=>
 need (decide (40*m4≤281474976710656∧m4≤maxLen)) <|
 need (decide ((([]:List Row).length+l.length)*40≤140737488355328∧([]:List Row).length+l.length≤maxLen)) <|
 need (decide (12≤9223372036854775807)) <|
 upto (fun i19 (s19:(List Row)) nx19=>
  bnd (R3 1 (i19:Int)) fun r23=>
  need (decide ((s19.length+[r23].length)*40≤140737488355328∧s19.length+[r23].length≤maxLen)) <|
  nx19 (s19++[r23]))
 (fun(s19:(List Row))=>
  bnd (G36 (l.length:Int) s19.length) fun m26=>
  some (s19.take m26,s19.drop m26)) (12:Int).toNat 0 (([]:List Row)++l)
theorem H24 (l:List Row) (r:(Ln Row)) (h:Yv l=some r):Pure Eh 43 [E6 l] (·=LT 5 Row.av r):=by
 unfold Yv at h
 refine Gy [.tmp 2] Tryz.func43 O O (Jr fun hK1=>(JLh (E6 ([]:List Row)) (Hy 5 O O) O (G7 (hK1 (Jr fun hK2=>(Yy (E6 l) O (JLl Q0 O O O fun hm6=>?_)))))))
 obtain⟨v3,hv3,h⟩:=Qq h
 refine JLh (G0 v3) (Hs hv3 O O O) O ?_
 obtain⟨m4,hm4,h⟩:=Ge h
 obtain⟨ha5,h⟩:=J2 h
 refine JLh (OW 1053 5 Row.av ([]:List Row)) (G9f 1053 O O O O Q0 H8d O (G4e hm4) ha5) O (Yy (OW 1053 5 Row.av ([]:List Row)) O (G7 (hK2 (Jr fun hK6=>(Yy (OW 1053 5 Row.av ([]:List Row)) O (Yy (E6 l) O ?_))))))
 obtain⟨ha7,h⟩:=J2 h
 refine JLh (OW 1053 5 Row.av (([]:List Row)++l)) (Gc2 (f:=Row.av) (xs:=([]:List Row)) (ys:=l) O O O O Q0 H8d ha7 (fun _=>O) (.inl O)) O (Yy (OW 1053 5 Row.av (([]:List Row)++l)) O (G7 (hK6 (Js fun hK8=>Jr fun hK9=>(Yy (G0 0) O (G7 (hK9 (Gs ?_))))))))
 obtain⟨hx19,h⟩:=J2 h
 obtain⟨b19,kx19,hb19,hkx19,h⟩:=G8d h
 refine Hc (fun i19 (s19:(List Row))=>upto b19 kx19 ((12:Int).toNat - i19) i19 s19=some r) (fun i19 s19=>[(0,E6 l),(3,OW 1053 5 Row.av s19),(4,Eg i19)]) (fun i19 s19=>[(1053,.spare 130 5 s19.length s19.length)]) (fun i19=>(12:Int).toNat - i19) 0 (([]:List Row)++l) h ⟨⟨.same O,.same O,.same O,G⟩,⟨⟨_,O,.same⟩,G⟩,O⟩ ?_
 clear h
 intro i19 s19 hi19 K19 e19
 refine Js fun hK20=>Jr fun hK21=>(Yy (Eg i19) O (JLh (BL (decide ((i19:Int) < 12))) (J4 O O O) O (G7 (hK21 (Gk O (fun hb=>?_) (fun hb=>?_))))))
 ·
  have hk19:=G48 hb
  obtain⟨nx19,hn19,h⟩:=G45 hi19 hk19
  replace h:=J15 hb19 h
  refine Gp (hK20 (Js fun hK22=>Gs (G3 (Yy (OW 1053 5 Row.av s19) O (Yy (Eg i19) O ?_)))))
  obtain⟨r23,hr23,h⟩:=Ge h
  refine JLh (.agg (Row.cs r23)) (Gn O (G84 1 (i19:Int) r23 hr23) J89 ⟨O,O,O,O,G⟩) O (JLh (E6 [r23]) (Hn (xs:=[.agg (Row.cs r23)]) O ⟨O,O,G⟩ Q0 Je6 O O O O) O ?_)
  obtain⟨ha24,h⟩:=J2 h
  refine JLh (OW 1053 5 Row.av (s19++[r23])) (Rj (f:=Row.av) (xs:=s19) (ys:=[r23]) O O O O Q0 H8d ha24 (fun _=>O) (.inl O) O) O (Yy (OW 1053 5 Row.av (s19++[r23])) O (G7 (hK22 (G3 (Yy (Eg i19) O (JLh (G0 ((i19+1:Nat):Int)) (Hs (He hk19 (G23 hx19)) O O O) O (Yy (G0 ((i19+1:Nat):Int)) O (G7 (e19 _ _ (i19+1) (s19++[r23]) (app1 hn19 h) (by omega) ⟨⟨.same rfl,.same rfl,.same rfl,G⟩,⟨⟨_,rfl,.same⟩,G⟩,rfl⟩)))))))))
 ·
  have h:=app1 hkx19 (G46 hi19 (Yf hb))
  refine Hi (hK8 (Jr fun hK25=>(Yy (OW 1053 5 Row.av s19) O (Yy (E6 l) O (JLl Q0 O O O fun hm23=>?_)))))
  obtain⟨m26,hm26,h⟩:=Ge h
  refine JLh (LT 5 Row.av (s19.take m26,s19.drop m26)) (J65 (f:=Row.av) (xs:=s19) O O O Q0 (Yo hm26)) O (Yy (LT 5 Row.av (s19.take m26,s19.drop m26)) O (G7 (hK25 (Gr (fin1 (fun r:(Ln Row)=>(LT 5 Row.av r:AV)) h)))))

def Qn (k:Int) (i:Int):Option Frame:=
 bnd (Jf k i) fun r3=>
 some (Frame.mk r3 0 0 0 0)
theorem G60 (k:Int) (i:Int) (r:Frame) (h:Qn k i=some r):Pure Eh 100 [G0 k,G0 i] (·=.agg (Frame.cs r)):=by
 unfold Qn at h
 refine Gy [.cell 4 133] Tryz.func100 O O (Jr fun hK1=>(JLh (.ptr 1113 0) (G1c 1113 [G0 0,G0 0,G0 0,G0 0,G0 0] [.int .i64 0,.int .i64 0,.int .i64 0,.int .i64 0,.int .i64 0] J3e ⟨.inl O,.inl O,.inl O,.inl O,.inl O,G⟩ O O) O (G7 (hK1 (Jr fun hK2=>(Yy (G0 k) O (Yy (G0 i) O ?_)))))))
 obtain⟨r3,hr3,h⟩:=Ge h
 refine JLh (G0 r3) (Gn O (Qb k i r3 hr3) G3f ⟨O,O,O,O,G⟩) O (JLh (.agg [G0 r3,G0 0,G0 0,G0 0,G0 0]) (Jq (cs:=[G0 r3,G0 0,G0 0,G0 0,G0 0]) [(0,1),(1,1),(2,1),(3,1),(4,1)] [G0 0,G0 0,G0 0,G0 0,G0 0] [.int .i64 0,.int .i64 0,.int .i64 0,.int .i64 0,.int .i64 0] Jd6 J3e ⟨.inl O,.inl O,.inl O,.inl O,.inl O,G⟩ O O) O (Jk (u:=.junk) (Jb (u:=.agg [G0 r3,G0 0,G0 0,G0 0,G0 0]) (ds:=[G0 r3,G0 0,G0 0,G0 0,G0 0]) Jf6 O O O O O O O O) (G7 (hK2 (Gr (⟨[.agg [G0 r3,G0 0,G0 0,G0 0,G0 0]],[],G,O,⟨⟨_,⟨_,_,_,_,O,O,O,.inl ⟨Gb9,O⟩⟩,.conv (.same O)⟩,G⟩,O,congrArg (fun r:Frame=>(.agg (Frame.cs r):AV)) (Option.some.inj h)⟩))))))

def Ry (l:List Frame):Option (Ln Frame):=
 G1f ((l.length:Int)+12) fun v3=>
 bnd (Gcd v3) fun m4=>
 need (decide (40*m4≤281474976710656∧m4≤maxLen)) <|
 need (decide ((([]:List Frame).length+l.length)*40≤140737488355328∧([]:List Frame).length+l.length≤maxLen)) <|
 need (decide (12≤9223372036854775807)) <|
 upto (fun i19 (s19:(List Frame)) nx19=>
  bnd (Qn 1 (i19:Int)) fun r23=>
  need (decide ((s19.length+[r23].length)*40≤140737488355328∧s19.length+[r23].length≤maxLen)) <|
  nx19 (s19++[r23]))
 (fun(s19:(List Frame))=>
  bnd (G36 (l.length:Int) s19.length) fun m26=>
  some (s19.take m26,s19.drop m26)) (12:Int).toNat 0 (([]:List Frame)++l)
theorem Gef (l:List Frame) (r:(Ln Frame)) (h:Ry l=some r):Pure Eh 44 [E5 l] (·=LT 5 Frame.av r):=by
 unfold Ry at h
 refine Gy [.tmp 2] Tryz.func44 O O (Jr fun hK1=>(JLh (E5 ([]:List Frame)) (Hy 5 O O) O (G7 (hK1 (Jr fun hK2=>(Yy (E5 l) O (JLl Jz O O O fun hm6=>?_)))))))
 obtain⟨v3,hv3,h⟩:=Qq h
 refine JLh (G0 v3) (Hs hv3 O O O) O ?_
 obtain⟨m4,hm4,h⟩:=Ge h
 obtain⟨ha5,h⟩:=J2 h
 refine JLh (OW 1054 5 Frame.av ([]:List Frame)) (G9f 1054 O O O O Jz H8c O (G4e hm4) ha5) O (Yy (OW 1054 5 Frame.av ([]:List Frame)) O (G7 (hK2 (Jr fun hK6=>(Yy (OW 1054 5 Frame.av ([]:List Frame)) O (Yy (E5 l) O ?_))))))
 obtain⟨ha7,h⟩:=J2 h
 refine JLh (OW 1054 5 Frame.av (([]:List Frame)++l)) (Gc2 (f:=Frame.av) (xs:=([]:List Frame)) (ys:=l) O O O O Jz H8c ha7 (fun _=>O) (.inl O)) O (Yy (OW 1054 5 Frame.av (([]:List Frame)++l)) O (G7 (hK6 (Js fun hK8=>Jr fun hK9=>(Yy (G0 0) O (G7 (hK9 (Gs ?_))))))))
 obtain⟨hx19,h⟩:=J2 h
 obtain⟨b19,kx19,hb19,hkx19,h⟩:=G8d h
 refine Hc (fun i19 (s19:(List Frame))=>upto b19 kx19 ((12:Int).toNat - i19) i19 s19=some r) (fun i19 s19=>[(0,E5 l),(3,OW 1054 5 Frame.av s19),(4,Eg i19)]) (fun i19 s19=>[(1054,.spare 133 5 s19.length s19.length)]) (fun i19=>(12:Int).toNat - i19) 0 (([]:List Frame)++l) h ⟨⟨.same O,.same O,.same O,G⟩,⟨⟨_,O,.same⟩,G⟩,O⟩ ?_
 clear h
 intro i19 s19 hi19 K19 e19
 refine Js fun hK20=>Jr fun hK21=>(Yy (Eg i19) O (JLh (BL (decide ((i19:Int) < 12))) (J4 O O O) O (G7 (hK21 (Gk O (fun hb=>?_) (fun hb=>?_))))))
 ·
  have hk19:=G48 hb
  obtain⟨nx19,hn19,h⟩:=G45 hi19 hk19
  replace h:=J15 hb19 h
  refine Gp (hK20 (Js fun hK22=>Gs (G3 (Yy (OW 1054 5 Frame.av s19) O (Yy (Eg i19) O ?_)))))
  obtain⟨r23,hr23,h⟩:=Ge h
  refine JLh (.agg (Frame.cs r23)) (Gn O (G60 1 (i19:Int) r23 hr23) J4a ⟨O,O,O,O,G⟩) O (JLh (E5 [r23]) (Hn (xs:=[.agg (Frame.cs r23)]) O ⟨O,O,G⟩ Jz Je5 O O O O) O ?_)
  obtain⟨ha24,h⟩:=J2 h
  refine JLh (OW 1054 5 Frame.av (s19++[r23])) (Rj (f:=Frame.av) (xs:=s19) (ys:=[r23]) O O O O Jz H8c ha24 (fun _=>O) (.inl O) O) O (Yy (OW 1054 5 Frame.av (s19++[r23])) O (G7 (hK22 (G3 (Yy (Eg i19) O (JLh (G0 ((i19+1:Nat):Int)) (Hs (He hk19 (G23 hx19)) O O O) O (Yy (G0 ((i19+1:Nat):Int)) O (G7 (e19 _ _ (i19+1) (s19++[r23]) (app1 hn19 h) (by omega) ⟨⟨.same rfl,.same rfl,.same rfl,G⟩,⟨⟨_,rfl,.same⟩,G⟩,rfl⟩)))))))))
 ·
  have h:=app1 hkx19 (G46 hi19 (Yf hb))
  refine Hi (hK8 (Jr fun hK25=>(Yy (OW 1054 5 Frame.av s19) O (Yy (E5 l) O (JLl Jz O O O fun hm23=>?_)))))
  obtain⟨m26,hm26,h⟩:=Ge h
  refine JLh (LT 5 Frame.av (s19.take m26,s19.drop m26)) (J65 (f:=Frame.av) (xs:=s19) O O O Jz (Yo hm26)) O (Yy (LT 5 Frame.av (s19.take m26,s19.drop m26)) O (G7 (hK25 (Gr (fin1 (fun r:(Ln Frame)=>(LT 5 Frame.av r:AV)) h)))))

def Yt (x:Gj):Option Hb:=
 bnd (Qe x.Steps) fun r3=>
 some (Hb.mk x.Kilos x.X x.Y x.Z x.Surface r3)
theorem H22 (x:Gj) (r:Hb) (h:Yt x=some r):Pure Eh 101 [.agg (Gj.cs x)] (·=.agg (Hb.cs r)):=by
 unfold Yt at h
 refine Gy [.cell 2 136] Tryz.func101 O O (Jr fun hK1=>(JLh (.ptr 1114 0) (Ji (cs:=[G0 x.Kilos,G0 x.X,G0 x.Y,G0 x.Z,G0 x.Surface,E0 x.Steps]) 1114 O O O O O) O (JLh (.ptr 1115 0) (G1c 1115 [G0 0,G0 0,G0 0,G0 0,G0 0,E0 ([]:List Int)] [.int .i64 0,.int .i64 0,.int .i64 0,.int .i64 0,.int .i64 0,.slice none 0 0] H83 ⟨.inl O,.inl O,.inl O,.inl O,.inl O,.inr ⟨_,O,O⟩,G⟩ O O) O (G7 (hK1 (Jr fun hK2=>(JLh (.ptr 1114 5) (G0d G34 O O) O (JLh (E0 x.Steps) (G57 Ho O O O O) O ?_))))))))
 obtain⟨r3,hr3,h⟩:=Ge h
 refine JLh (LT 1 G0 r3) (Gn O (Zi x.Steps r3 hr3) H66 ⟨O,O,G⟩) O (JLh (.ptr 1114 5) (G0d G34 O O) O (Jk (u:=.junk) (Jb (u:=LT 1 G0 r3) (ds:=[G0 x.Kilos,G0 x.X,G0 x.Y,G0 x.Z,G0 x.Surface,LT 1 G0 r3]) Hd7 O O O O O O O O) (G7 (hK2 (Gz [(1,.dptr [G0 x.Kilos,G0 x.X,G0 x.Y,G0 x.Z,G0 x.Surface,LT 1 G0 r3]),(2,.ptr 1115 0)] [(1115,.box 136 [G0 0,G0 0,G0 0,G0 0,G0 0,E0 ([]:List Int)])] 1114 rfl rfl rfl ⟨⟨_,rfl,.boxEq rfl rfl⟩,G⟩ rfl (by exact⟨.ptr,.conv (.same rfl),G⟩) ?_)))))
 refine Jr fun hK4=>(JLh (.agg [G0 x.Kilos,G0 x.X,G0 x.Y,G0 x.Z,G0 x.Surface,LT 1 G0 r3]) (Gi G09 O O O) O (Jk (u:=.junk) (Jb (u:=.agg [G0 x.Kilos,G0 x.X,G0 x.Y,G0 x.Z,G0 x.Surface,LT 1 G0 r3]) (ds:=[G0 x.Kilos,G0 x.X,G0 x.Y,G0 x.Z,G0 x.Surface,LT 1 G0 r3]) H84 O O O O O O O O) (G7 (hK4 (Gr (⟨[.agg [G0 x.Kilos,G0 x.X,G0 x.Y,G0 x.Z,G0 x.Surface,LT 1 G0 r3]],[],G,O,⟨⟨_,⟨_,_,_,_,O,O,O,.inl ⟨G09,O⟩⟩,.conv (.same O)⟩,G⟩,O,congrArg (fun r:Hb=>(.agg (Hb.cs r):AV)) (Option.some.inj h)⟩))))))

def Qu (k:Int) (i:Int):Option Gj:=
 bnd (Jf k i) fun r3=>
 some (Gj.mk r3 0 0 0 0 [])
theorem G77 (k:Int) (i:Int) (r:Gj) (h:Qu k i=some r):Pure Eh 102 [G0 k,G0 i] (·=.agg (Gj.cs r)):=by
 unfold Qu at h
 refine Gy [.cell 4 136] Tryz.func102 O O (Jr fun hK1=>(JLh (.ptr 1116 0) (G1c 1116 [G0 0,G0 0,G0 0,G0 0,G0 0,E0 ([]:List Int)] [.int .i64 0,.int .i64 0,.int .i64 0,.int .i64 0,.int .i64 0,.slice none 0 0] H83 ⟨.inl O,.inl O,.inl O,.inl O,.inl O,.inr ⟨_,O,O⟩,G⟩ O O) O (G7 (hK1 (Jr fun hK2=>(Yy (G0 k) O (Yy (G0 i) O ?_)))))))
 obtain⟨r3,hr3,h⟩:=Ge h
 refine JLh (G0 r3) (Gn O (Qb k i r3 hr3) G3f ⟨O,O,O,O,G⟩) O (JLh (.agg [G0 r3,G0 0,G0 0,G0 0,G0 0,E0 ([]:List Int)]) (Jq (cs:=[G0 r3,G0 0,G0 0,G0 0,G0 0,E0 ([]:List Int)]) [(0,1),(1,1),(2,1),(3,1),(4,1),(5,1)] [G0 0,G0 0,G0 0,G0 0,G0 0,E0 ([]:List Int)] [.int .i64 0,.int .i64 0,.int .i64 0,.int .i64 0,.int .i64 0,.slice none 0 0] Jd5 H83 ⟨.inl O,.inl O,.inl O,.inl O,.inl O,.inr ⟨_,O,O⟩,G⟩ O O) O (Jk (u:=.junk) (Jb (u:=.agg [G0 r3,G0 0,G0 0,G0 0,G0 0,E0 ([]:List Int)]) (ds:=[G0 r3,G0 0,G0 0,G0 0,G0 0,E0 ([]:List Int)]) H84 O O O O O O O O) (G7 (hK2 (Gr ?_)))))
 exact⟨[.agg [G0 r3,G0 0,G0 0,G0 0,G0 0,E0 ([]:List Int)]],[],G,O,⟨⟨_,⟨_,_,_,_,O,O,O,.inl ⟨G09,O⟩⟩,.conv (.same O)⟩,G⟩,O,congrArg (fun r:Gj=>(.agg (Gj.cs r):AV)) (Option.some.inj h)⟩

def Yb (l:List Gj):Option (Ln Hb):=
 G1f ((l.length:Int)+12) fun v3=>
 bnd (Gcd v3) fun m4=>
 need (decide (64*m4≤281474976710656∧m4≤maxLen)) <|
 each (fun y23 i23 (s23:(List Hb)) nx23=>
  bnd (Yt y23) fun r28=>
  need (decide ((s23.length+[r28].length)*64≤140737488355328∧s23.length+[r28].length≤maxLen)) <|
  nx23 (s23++[r28]))
 (fun(s23:(List Hb))=>
  need (decide (12≤9223372036854775807)) <|
  upto (fun i41 (s41:(List Hb)) nx41=>
   bnd (Qu 1 (i41:Int)) fun r45=>
   need (decide ((s41.length+[(Hb.mk r45.Kilos r45.X r45.Y r45.Z r45.Surface (r45.Steps,([]:List Int)))].length)*64≤140737488355328∧s41.length+[(Hb.mk r45.Kilos r45.X r45.Y r45.Z r45.Surface (r45.Steps,([]:List Int)))].length≤maxLen)) <|
   nx41 (s41++[(Hb.mk r45.Kilos r45.X r45.Y r45.Z r45.Surface (r45.Steps,([]:List Int)))]))
  (fun(s41:(List Hb))=>
   bnd (G36 (l.length:Int) s41.length) fun m48=>
   some (s41.take m48,s41.drop m48)) (12:Int).toNat 0 s23) l 0 []
theorem H10 (l:List Gj) (r:(Ln Hb)) (h:Yb l=some r):Pure Eh 45 [E7 l] (·=LT 6 Hb.av r):=by
 unfold Yb at h
 refine Gy [.tmp 2] Tryz.func45 O O (Jr fun hK1=>(JLh (E7 ([]:List Gj)) (Hy 6 O O) O (G7 (hK1 (Jr fun hK2=>(Yy (E7 l) O (JLl Jn O O O fun hm8=>?_)))))))
 obtain⟨v3,hv3,h⟩:=Qq h
 refine JLh (G0 v3) (Hs hv3 O O O) O ?_
 obtain⟨m4,hm4,h⟩:=Ge h
 obtain⟨ha5,h⟩:=J2 h
 refine JLh (OW 1056 6 Hb.av ([]:List Hb)) (G9f 1056 O O O O Jn H8b O (G4e hm4) ha5) O (Yy (OW 1056 6 Hb.av ([]:List Hb)) O (G7 (hK2 (Js fun hK6=>Jr fun hK7=>(Yy (G0 0) O (G7 (hK7 (Gs ?_))))))))
 obtain⟨b23,kx23,hb23,hkx23,h⟩:=J5 h
 refine Hc (fun i23 (s23:(List Hb))=>each b23 kx23 (List.drop i23 l) i23 s23=some r) (fun i23 s23=>[(0,E7 l),(3,OW 1056 6 Hb.av s23),(4,Eg i23)]) (fun i23 s23=>[(1056,.spare 136 6 s23.length s23.length)]) (fun i23=>l.length - i23) 0 [] h ⟨⟨.same O,.same O,.same O,G⟩,⟨⟨_,O,.same⟩,G⟩,O⟩ ?_
 clear h
 intro i23 s23 hi23 K23 e23
 refine Js fun hK24=>Jr fun hK25=>(Yy (Eg i23) O (Yy (E7 l) O (JLl Jn O O O fun hm13=>(JLh (BL (decide ((i23:Int) < (l.length:Int)))) (J4 O O O) O (G7 (hK25 (Gk O (fun hb=>?_) (fun hb=>?_))))))))
 ·
  have hk23:=Jj hb
  obtain⟨y23,nx23,hy23,hn23,h⟩:=Hq hi23 hk23
  replace h:=Z1 hb23 h
  refine Gp (hK24 (Js fun hK26=>Gs (Jr fun hK27=>(Yy (E7 l) O (Yy (Eg i23) O (JLh (Ef y23) (Gv (f:=Gj.av) (xs:=l) (y:=y23) O O O Jn hy23 O) O (JLh (.agg (Gj.cs y23)) (Gi G09 O O O) O ?_)))))))
  obtain⟨r28,hr28,h⟩:=Ge h
  refine JLh (.agg (Hb.cs r28)) (Gn O (H22 y23 r28 hr28) Q18 ⟨O,O,G⟩) O (JLh (.ptr 1055 0) (Qf 1055 6 H5d O O) O (Jk (u:=.junk) (Jb (u:=.agg (Hb.cs r28)) (ds:=[G0 r28.Kilos,G0 r28.X,G0 r28.Y,G0 r28.Z,G0 r28.Surface,LT 1 G0 r28.Steps]) H84 O O O O O O O O) (G7 (hK27 (Gz [(0,E7 l),(3,OW 1056 6 Hb.av s23),(4,Eg i23),(5,.dptr (Hb.cs r28))] [(1056,.spare 136 6 s23.length s23.length)] 1055 rfl rfl rfl ⟨⟨_,rfl,.same⟩,G⟩ rfl (by repeat' (first | exact .ptr | constructor)) (G3 (Yy (OW 1056 6 Hb.av s23) O (JLh (.agg (Hb.cs r28)) (Gi G09 O O O) O (JLh (LS 6 Hb.av [r28]) (Hn (xs:=[.agg (Hb.cs r28)]) O ⟨O,O,G⟩ Jn H5d O O O O) O ?_)))))))))
  obtain⟨ha29,h⟩:=J2 h
  refine JLh (OW 1056 6 Hb.av (s23++[r28])) (Rj (f:=Hb.av) (xs:=s23) (ys:=[r28]) O O O O Jn H8b ha29 (fun _=>O) (.inl O) O) O (Yy (OW 1056 6 Hb.av (s23++[r28])) O (G7 (hK26 (G3 (Yy (Eg i23) O (JLh (G0 ((i23+1:Nat):Int)) (Hs (He hk23 hm13) O O O) O (Yy (G0 ((i23+1:Nat):Int)) O (G7 (e23 _ _ (i23+1) (s23++[r28]) (app1 hn23 h) (by omega) ⟨⟨.same rfl,.same rfl,.same rfl,G⟩,⟨⟨_,rfl,.same⟩,G⟩,rfl⟩)))))))))
 ·
  have h:=app1 hkx23 (Hr hi23 (Ha hb))
  refine Hi (hK6 (Js fun hK30=>Jr fun hK31=>(Yy (G0 0) O (G7 (hK31 (Gs ?_))))))
  obtain⟨hx41,h⟩:=J2 h
  obtain⟨b41,kx41,hb41,hkx41,h⟩:=G8d h
  refine Hc (fun i41 (s41:(List Hb))=>upto b41 kx41 ((12:Int).toNat - i41) i41 s41=some r) (fun i41 s41=>[(0,E7 l),(3,OW 1056 6 Hb.av s41),(6,Eg i41)]) (fun i41 s41=>[(1056,.spare 136 6 s41.length s41.length)]) (fun i41=>(12:Int).toNat - i41) 0 s23 h ⟨⟨.same O,.same O,.same O,G⟩,⟨⟨_,O,.same⟩,G⟩,O⟩ ?_
  clear h
  intro i41 s41 hi41 K41 e41
  refine Js fun hK42=>Jr fun hK43=>(Yy (Eg i41) O (JLh (BL (decide ((i41:Int) < 12))) (J4 O O O) O (G7 (hK43 (Gk O (fun hb=>?_) (fun hb=>?_))))))
  ·
   have hk41:=G48 hb
   obtain⟨nx41,hn41,h⟩:=G45 hi41 hk41
   replace h:=J15 hb41 h
   refine Gp (hK42 (Js fun hK44=>Gs (G3 (Yy (OW 1056 6 Hb.av s41) O (Yy (Eg i41) O ?_)))))
   obtain⟨r45,hr45,h⟩:=Ge h
   refine JLh (.agg [G0 r45.Kilos,G0 r45.X,G0 r45.Y,G0 r45.Z,G0 r45.Surface,LT 1 G0 (r45.Steps,([]:List Int))]) (H1.cv (Cv.aggL (cs:=(Gj.cs r45)) ⟨.same,.same,.same,.same,.same,Cv.of0 r45.Steps,G⟩) (Gn O (G77 1 (i41:Int) r45 hr45) J49 ⟨O,O,O,O,G⟩)) O (JLh (LS 6 Hb.av ([(Hb.mk r45.Kilos r45.X r45.Y r45.Z r45.Surface (r45.Steps,([]:List Int)))])) (Hn (xs:=[.agg [G0 r45.Kilos,G0 r45.X,G0 r45.Y,G0 r45.Z,G0 r45.Surface,LT 1 G0 (r45.Steps,([]:List Int))]]) O ⟨O,O,G⟩ Jn H5d O O O O) O ?_)
   obtain⟨ha46,h⟩:=J2 h
   refine JLh (OW 1056 6 Hb.av (s41++[(Hb.mk r45.Kilos r45.X r45.Y r45.Z r45.Surface (r45.Steps,([]:List Int)))])) (Rj (f:=Hb.av) (xs:=s41) (ys:=[(Hb.mk r45.Kilos r45.X r45.Y r45.Z r45.Surface (r45.Steps,([]:List Int)))]) O O O O Jn H8b ha46 (fun _=>O) (.inl O) O) O (Yy (OW 1056 6 Hb.av (s41++[(Hb.mk r45.Kilos r45.X r45.Y r45.Z r45.Surface (r45.Steps,([]:List Int)))])) O (G7 (hK44 (G3 (Yy (Eg i41) O (JLh (G0 ((i41+1:Nat):Int)) (Hs (He hk41 (G23 hx41)) O O O) O (Yy (G0 ((i41+1:Nat):Int)) O (G7 (e41 _ _ (i41+1) (s41++[(Hb.mk r45.Kilos r45.X r45.Y r45.Z r45.Surface (r45.Steps,([]:List Int)))]) (app1 hn41 h) (by omega) ⟨⟨.same rfl,.same rfl,.same rfl,G⟩,⟨⟨_,rfl,.same⟩,G⟩,rfl⟩)))))))))
  ·
   have h:=app1 hkx41 (G46 hi41 (Yf hb))
   refine Hi (hK30 (Jr fun hK47=>(Yy (OW 1056 6 Hb.av s41) O (Yy (E7 l) O (JLl Jn O O O fun hm37=>?_)))))
   obtain⟨m48,hm48,h⟩:=Ge h
   refine JLh (LT 6 Hb.av (s41.take m48,s41.drop m48)) (J65 (f:=Hb.av) (xs:=s41) O O O Jn (Yo hm48)) O (Yy (LT 6 Hb.av (s41.take m48,s41.drop m48)) O (G7 (hK47 (Gr (fin1 (fun r:(Ln Hb)=>(LT 6 Hb.av r:AV)) h)))))

def Yu (x:H4):Option Rk:=
 bnd (Rq x.Columns) fun r3=>
 bnd (Rz x.Covers) fun r5=>
 bnd (Yv x.Rows) fun r7=>
 bnd (Ry x.Frames) fun r9=>
 bnd (Yb x.Tanks) fun r11=>
 some (Rk.mk r3 r5 x.Light r7 r9 r11 x.G2)
theorem H23 (x:H4) (r:Rk) (h:Yu x=some r):Pure Eh 7 [.agg (H4.cs x)] (·=.agg (Rk.cs r)):=by
 unfold Yu at h
 refine Gy [.cell 2 32] Tryz.func7 O O ?_
 refine Jr fun hK1=>(JLh (.ptr 1009 0) (Ji (cs:=(H4.cs x)) 1009 O O O O O) O (JLh (.ptr 1010 0) (G1c 1010 [E4 ([]:List G4),E3 ([]:List Gc),G0 0,G0 0,G0 0,G0 0,E6 ([]:List Row),E5 ([]:List Frame),E7 ([]:List Gj),G0 0,G0 0,G0 0,G0 0] [.slice none 0 0,.slice none 0 0,.int .i64 0,.int .i64 0,.int .i64 0,.int .i64 0,.slice none 0 0,.slice none 0 0,.slice none 0 0,.int .i64 0,.int .i64 0,.int .i64 0,.int .i64 0] Hd6 ⟨.inr ⟨_,O,O⟩,.inr ⟨_,O,O⟩,.inl O,.inl O,.inl O,.inl O,.inr ⟨_,O,O⟩,.inr ⟨_,O,O⟩,.inr ⟨_,O,O⟩,.inl O,.inl O,.inl O,.inl O,G⟩ O O) O (G7 (hK1 ?_))))
 refine Jr fun hK2=>(JLh (.ptr 1009 0) (G0d Hd O O) O (JLh (E4 x.Columns) (G57 Hm O O O O) O ?_))
 obtain⟨r3,hr3,h⟩:=Ge h
 refine JLh (LT 12 Gw.av r3) (Gn O (Ge2 x.Columns r3 hr3) Q53 ⟨O,O,G⟩) O (JLh (.ptr 1009 0) (G0d Hd O O) O (Jk (u:=.junk) (Jb (u:=LT 12 Gw.av r3) (ds:=[LT 12 Gw.av r3,E3 x.Covers,G0 x.Light.Kilos,G0 x.Light.X,G0 x.Light.Y,G0 x.Light.Z,E6 x.Rows,E5 x.Frames,E7 x.Tanks,G0 x.G2.Tolerance,G0 x.G2.Trim,G0 x.G2.List_,G0 x.G2.Stability]) Q31 O O O O O O O O) (G7 (hK2 (Jr fun hK4=>(JLh (.ptr 1009 1) (G0d Je O O) O (JLh (E3 x.Covers) (G57 Jv O O O O) O ?_)))))))
 obtain⟨r5,hr5,h⟩:=Ge h
 refine JLh (LT 2 H7.av r5) (Gn O (Gf0 x.Covers r5 hr5) Q52 ⟨O,O,G⟩) O (JLh (.ptr 1009 1) (G0d Je O O) O (Jk (u:=.junk) (Jb (u:=LT 2 H7.av r5) (ds:=[LT 12 Gw.av r3,LT 2 H7.av r5,G0 x.Light.Kilos,G0 x.Light.X,G0 x.Light.Y,G0 x.Light.Z,E6 x.Rows,E5 x.Frames,E7 x.Tanks,G0 x.G2.Tolerance,G0 x.G2.Trim,G0 x.G2.List_,G0 x.G2.Stability]) Q30 O O O O O O O O) (G7 (hK4 (Jr fun hK6=>(JLh (.ptr 1009 6) (G0d G4d O O) O (JLh (E6 x.Rows) (G57 Ga5 O O O O) O ?_)))))))
 obtain⟨r7,hr7,h⟩:=Ge h
 refine JLh (LT 5 Row.av r7) (Gn O (H24 x.Rows r7 hr7) Q51 ⟨O,O,G⟩) O (JLh (.ptr 1009 6) (G0d G4d O O) O (Jk (u:=.junk) (Jb (u:=LT 5 Row.av r7) (ds:=[LT 12 Gw.av r3,LT 2 H7.av r5,G0 x.Light.Kilos,G0 x.Light.X,G0 x.Light.Y,G0 x.Light.Z,LT 5 Row.av r7,E5 x.Frames,E7 x.Tanks,G0 x.G2.Tolerance,G0 x.G2.Trim,G0 x.G2.List_,G0 x.G2.Stability]) Q2f O O O O O O O O) (G7 (hK6 (Jr fun hK8=>(JLh (.ptr 1009 7) (G0d G4c O O) O (JLh (E5 x.Frames) (G57 Ga4 O O O O) O ?_)))))))
 obtain⟨r9,hr9,h⟩:=Ge h
 refine JLh (LT 5 Frame.av r9) (Gn O (Gef x.Frames r9 hr9) Q50 ⟨O,O,G⟩) O (JLh (.ptr 1009 7) (G0d G4c O O) O (Jk (u:=.junk) (Jb (u:=LT 5 Frame.av r9) (ds:=[LT 12 Gw.av r3,LT 2 H7.av r5,G0 x.Light.Kilos,G0 x.Light.X,G0 x.Light.Y,G0 x.Light.Z,LT 5 Row.av r7,LT 5 Frame.av r9,E7 x.Tanks,G0 x.G2.Tolerance,G0 x.G2.Trim,G0 x.G2.List_,G0 x.G2.Stability]) Q2e O O O O O O O O) (G7 (hK8 (Jr fun hK10=>(JLh (.ptr 1009 8) (G0d G4b O O) O (JLh (E7 x.Tanks) (G57 Ga3 O O O O) O ?_)))))))
 obtain⟨r11,hr11,h⟩:=Ge h
 refine JLh (LT 6 Hb.av r11) (Gn O (H10 x.Tanks r11 hr11) Q4f ⟨O,O,G⟩) O (JLh (.ptr 1009 8) (G0d G4b O O) O (Jk (u:=.junk) (Jb (u:=LT 6 Hb.av r11) (ds:=[LT 12 Gw.av r3,LT 2 H7.av r5,G0 x.Light.Kilos,G0 x.Light.X,G0 x.Light.Y,G0 x.Light.Z,LT 5 Row.av r7,LT 5 Frame.av r9,LT 6 Hb.av r11,G0 x.G2.Tolerance,G0 x.G2.Trim,G0 x.G2.List_,G0 x.G2.Stability]) Q2d O O O O O O O O) (G7 (hK10 ?_))))
 refine Gz [(1,.dptr [LT 12 Gw.av r3,LT 2 H7.av r5,G0 x.Light.Kilos,G0 x.Light.X,G0 x.Light.Y,G0 x.Light.Z,LT 5 Row.av r7,LT 5 Frame.av r9,LT 6 Hb.av r11,G0 x.G2.Tolerance,G0 x.G2.Trim,G0 x.G2.List_,G0 x.G2.Stability]),(2,.ptr 1010 0)] [(1010,.box 32 [E4 ([]:List G4),E3 ([]:List Gc),G0 0,G0 0,G0 0,G0 0,E6 ([]:List Row),E5 ([]:List Frame),E7 ([]:List Gj),G0 0,G0 0,G0 0,G0 0])] 1009 rfl rfl rfl ⟨⟨_,rfl,.boxEq rfl rfl⟩,G⟩ rfl (by exact⟨.ptr,.conv (.same rfl),G⟩) ?_
 refine Jr fun hK12=>(JLh (.agg [LT 12 Gw.av r3,LT 2 H7.av r5,G0 x.Light.Kilos,G0 x.Light.X,G0 x.Light.Y,G0 x.Light.Z,LT 5 Row.av r7,LT 5 Frame.av r9,LT 6 Hb.av r11,G0 x.G2.Tolerance,G0 x.G2.Trim,G0 x.G2.List_,G0 x.G2.Stability]) (Gi Hu O O O) O (Jk (u:=.junk) (Jb (u:=.agg [LT 12 Gw.av r3,LT 2 H7.av r5,G0 x.Light.Kilos,G0 x.Light.X,G0 x.Light.Y,G0 x.Light.Z,LT 5 Row.av r7,LT 5 Frame.av r9,LT 6 Hb.av r11,G0 x.G2.Tolerance,G0 x.G2.Trim,G0 x.G2.List_,G0 x.G2.Stability]) (ds:=[LT 12 Gw.av r3,LT 2 H7.av r5,G0 x.Light.Kilos,G0 x.Light.X,G0 x.Light.Y,G0 x.Light.Z,LT 5 Row.av r7,LT 5 Frame.av r9,LT 6 Hb.av r11,G0 x.G2.Tolerance,G0 x.G2.Trim,G0 x.G2.List_,G0 x.G2.Stability]) H60 O O O O O O O O) (G7 (hK12 ?_))))
 refine Gr (⟨[.agg [LT 12 Gw.av r3,LT 2 H7.av r5,G0 x.Light.Kilos,G0 x.Light.X,G0 x.Light.Y,G0 x.Light.Z,LT 5 Row.av r7,LT 5 Frame.av r9,LT 6 Hb.av r11,G0 x.G2.Tolerance,G0 x.G2.Trim,G0 x.G2.List_,G0 x.G2.Stability]],[],G,O,⟨⟨_,⟨_,_,_,_,O,O,O,.inl ⟨Hu,O⟩⟩,.conv (.same O)⟩,G⟩,O,congrArg (fun r:Rk=>(.agg (Rk.cs r):AV)) (Option.some.inj h)⟩)

def Jc (a:List Int) (b:List Int):Option Bool:=
 bif decide ((a.length:Int)≠(b.length:Int)) then
 (some false)
 else
 (each (fun y24 i24 (s24:Unit) nx24=>
   Qm b (i24:Int) fun y29=>
   bif decide (y24≠y29) then
   (some false)
   else
   (nx24 ()))
  (fun(s24:Unit)=>
   some true) a 0 ())
theorem Q7 (a:List Int) (b:List Int) (r:Bool) (h:Jc a b=some r):Pure Eh 21 [E0 a,E0 b] (·=BL r):=by
 unfold Jc at h
 refine Gy [.tmp 4] Tryz.func21 O O (Jr fun hK1=>(Yy (BL false) O (G7 (hK1 (Js fun hK2=>Jr fun hK3=>(Yy (E0 a) O (JLl Gu O O O fun hm7=>(Yy (E0 b) O (JLl Gu O O O fun hm9=>(JLh (BL (decide ((a.length:Int)≠(b.length:Int)))) (G3d O O O) O (G7 (hK3 (JCc O h (fun h hb=>?_) (fun h hb=>?_))))))))))))))
 ·
  refine Jr fun hK4=>(Yy (BL false) O (G7 (hK4 (Gr (fin1 BL h)))))
 ·
  refine Gp (hK2 (Js fun hK5=>Jr fun hK6=>(Yy (G0 0) O (G7 (hK6 (Gs ?_))))))
  obtain⟨b24,kx24,hb24,hkx24,h⟩:=J5 h
  refine Hc (fun i24 (s24:Unit)=>each b24 kx24 (List.drop i24 a) i24 s24=some r) (fun i24 s24=>[(0,E0 a),(1,E0 b),(5,Eg i24)]) (fun i24 s24=>[]) (fun i24=>a.length - i24) 0 () h ⟨⟨.same O,.same O,.same O,G⟩,G,O⟩ ?_
  clear h
  intro i24 s24 hi24 K24 e24
  refine Js fun hK25=>Jr fun hK26=>(Yy (Eg i24) O (Yy (E0 a) O (JLl Gu O O O fun hm13=>(JLh (BL (decide ((i24:Int) < (a.length:Int)))) (J4 O O O) O (G7 (hK26 (Gk O (fun hb=>?_) (fun hb=>?_))))))))
  ·
   have hk24:=Jj hb
   obtain⟨y24,nx24,hy24,hn24,h⟩:=Hq hi24 hk24
   replace h:=Z1 hb24 h
   refine Gp (hK25 (Js fun hK27=>Gs (Js fun hK28=>?_)))
   obtain⟨m30,y29,hm30,hy29,h⟩:=Qx h
   refine JC_d0 J8 (by kernel_rfl) (Dq (E0 a) (G5 O O) O (Dq (Eg i24) (G5 O O) O (Dq (.dptr [G0 y24]) (Gv (f:=G0) (xs:=a) (y:=y24) O O O Gu hy24 O) O (Dq (G0 y24) (Gg Gd O O O) O (Dq (E0 b) (G5 O O) O (Dq (Eg i24) (G5 O O) O (Dq (.dptr [G0 y29]) (Gv (f:=G0) (xs:=b) (y:=y29) O O O Gu hy29 hm30) O (Dq (G0 y29) (Gg Gd O O O) O (Dq (BL (decide (y24≠y29))) (G3d O O O) O (Dnil (hK28 (JCc O h (fun h hb=>?_) (fun h hb=>?_)))))))))))))
   ·
    refine Jr fun hK31=>(Yy (BL false) O (G7 (hK31 (Gr (fin1 BL h)))))
   ·
    refine Gp (hK27 (G3 (Yy (Eg i24) O (JLh (G0 ((i24+1:Nat):Int)) (Hs (He hk24 hm13) O O O) O (Yy (G0 ((i24+1:Nat):Int)) O (G7 (e24 _ _ (i24+1) () (app1 hn24 h) (by omega) ⟨⟨.same rfl,.same rfl,.same rfl,G⟩,G,rfl⟩)))))))
  ·
   have h:=app1 hkx24 (Hr hi24 (Ha hb))
   refine Hi (hK5 (Jr fun hK32=>(Yy (BL true) O (G7 (hK32 (Gr (fin1 BL h)))))))

def Jg (a:G4) (b:G4):Option Bool:=
 bnd (bif ((((((((decide (a.Bay=b.Bay))&&(decide (a.Row=b.Row)))&&(a.Deck==b.Deck))&&(decide (a.Tiers=b.Tiers)))&&(decide (a.Height=b.Height)))&&(decide (a.Kilos20=b.Kilos20)))&&(decide (a.Kilos40=b.Kilos40)))&&(decide (a.Lash=b.Lash))) then Jc a.Plugs b.Plugs else some default) fun r3=>
 some ((((((((((((decide (a.Bay=b.Bay))&&(decide (a.Row=b.Row)))&&(a.Deck==b.Deck))&&(decide (a.Tiers=b.Tiers)))&&(decide (a.Height=b.Height)))&&(decide (a.Kilos20=b.Kilos20)))&&(decide (a.Kilos40=b.Kilos40)))&&(decide (a.Lash=b.Lash)))&&r3)&&(decide (a.X=b.X)))&&(decide (a.Y=b.Y)))&&(decide (a.Z=b.Z)))
theorem G11 (a:G4) (b:G4) (r:Bool) (h:Jg a b=some r):Pure Eh 126 [.agg (G4.cs a),.agg (G4.cs b)] (·=BL r):=by
 unfold Jg at h
 refine Gy [.tmp 4] Tryz.func126 O O (Jr fun hK1=>(JLh (.ptr 1127 0) (Ji (cs:=(G4.cs a)) 1127 O O O O O) O (JLh (.ptr 1128 0) (Ji (cs:=(G4.cs b)) 1128 O O O O O) O (Yy (BL false) O (G7 (hK1 (Gz [(2,Ec a),(3,.ptr 1128 0)] [(1128,.box 78 (G4.cs b))] 1127 rfl rfl rfl ⟨⟨_,rfl,.boxEq rfl rfl⟩,G⟩ rfl (by exact⟨.ptr,.conv (.same rfl),G⟩) ?_)))))))
 refine Gz [(2,Ec a),(3,Ec b)] [] 1128 rfl rfl rfl G rfl (by exact⟨.conv (.same rfl),.ptr,G⟩) ?_
 refine Jr fun hK2=>(JLh (Ec a) (Ga Zu O O O) O (JLh (G0 a.Bay) (Gg Gd O O O) O (JLh (Ec b) (Ga Zu O O O) O (JLh (G0 b.Bay) (Gg Gd O O O) O (JLh (BL (decide (a.Bay=b.Bay))) (Jt O O O) O (Yy (BL (decide (a.Bay=b.Bay))) O (JLo (.dptr ((G4.cs a).drop 1)) [] O .sct G (fun hc=>Ga Zt O O O) O (JLo (G0 a.Row) [11] O .sct ⟨Ua,G⟩ (fun hc=>Gg Gd O O O) O (JLo (.dptr ((G4.cs b).drop 1)) [] O .sct G (fun hc=>Ga Zt O O O) O (JLo (G0 b.Row) [13] O .sct ⟨Ua,G⟩ (fun hc=>Gg Gd O O O) O (JLo (BL (decide (a.Row=b.Row))) [12,14] O .sct ⟨Ua,Ua,G⟩ (fun hc=>Jt O O O) O (JLh (BL ((decide (a.Bay=b.Bay))&&(decide (a.Row=b.Row)))) (Hx O O O O) O (Yy (BL ((decide (a.Bay=b.Bay))&&(decide (a.Row=b.Row)))) O ?_)))))))))))))
 refine JLo (.dptr ((G4.cs a).drop 2)) [] O .sct G (fun hc=>Ga Z3 O O O) O (JLo (BL a.Deck) [18] O .sct ⟨Ua,G⟩ (fun hc=>Gg Ra O O O) O (JLo (.dptr ((G4.cs b).drop 2)) [] O .sct G (fun hc=>Ga Z3 O O O) O (JLo (BL b.Deck) [20] O .sct ⟨Ua,G⟩ (fun hc=>Gg Ra O O O) O (JLo (BL (a.Deck==b.Deck)) [19,21] O .sct ⟨Ua,Ua,G⟩ (fun hc=>J1e Gfa O O O) O (JLh (BL (((decide (a.Bay=b.Bay))&&(decide (a.Row=b.Row)))&&(a.Deck==b.Deck))) (Hx O O O O) O (Yy (BL (((decide (a.Bay=b.Bay))&&(decide (a.Row=b.Row)))&&(a.Deck==b.Deck))) O (JLo (.dptr ((G4.cs a).drop 3)) [] O .sct G (fun hc=>Ga Zs O O O) O (JLo (G0 a.Tiers) [25] O .sct ⟨Ua,G⟩ (fun hc=>Gg Gd O O O) O (JLo (.dptr ((G4.cs b).drop 3)) [] O .sct G (fun hc=>Ga Zs O O O) O (JLo (G0 b.Tiers) [27] O .sct ⟨Ua,G⟩ (fun hc=>Gg Gd O O O) O (JLo (BL (decide (a.Tiers=b.Tiers))) [26,28] O .sct ⟨Ua,Ua,G⟩ (fun hc=>Jt O O O) O (JLh (BL ((((decide (a.Bay=b.Bay))&&(decide (a.Row=b.Row)))&&(a.Deck==b.Deck))&&(decide (a.Tiers=b.Tiers)))) (Hx O O O O) O (Yy (BL ((((decide (a.Bay=b.Bay))&&(decide (a.Row=b.Row)))&&(a.Deck==b.Deck))&&(decide (a.Tiers=b.Tiers)))) O ?_)))))))))))))
 refine JLo (.dptr ((G4.cs a).drop 4)) [] O .sct G (fun hc=>Ga G13 O O O) O (JLo (G0 a.Height) [32] O .sct ⟨Ua,G⟩ (fun hc=>Gg Gd O O O) O (JLo (.dptr ((G4.cs b).drop 4)) [] O .sct G (fun hc=>Ga G13 O O O) O (JLo (G0 b.Height) [34] O .sct ⟨Ua,G⟩ (fun hc=>Gg Gd O O O) O (JLo (BL (decide (a.Height=b.Height))) [33,35] O .sct ⟨Ua,Ua,G⟩ (fun hc=>Jt O O O) O (JLh (BL (((((decide (a.Bay=b.Bay))&&(decide (a.Row=b.Row)))&&(a.Deck==b.Deck))&&(decide (a.Tiers=b.Tiers)))&&(decide (a.Height=b.Height)))) (Hx O O O O) O (Yy (BL (((((decide (a.Bay=b.Bay))&&(decide (a.Row=b.Row)))&&(a.Deck==b.Deck))&&(decide (a.Tiers=b.Tiers)))&&(decide (a.Height=b.Height)))) O (JLo (.dptr ((G4.cs a).drop 5)) [] O .sct G (fun hc=>Ga Gc7 O O O) O (JLo (G0 a.Kilos20) [39] O .sct ⟨Ua,G⟩ (fun hc=>Gg Gd O O O) O (JLo (.dptr ((G4.cs b).drop 5)) [] O .sct G (fun hc=>Ga Gc7 O O O) O (JLo (G0 b.Kilos20) [41] O .sct ⟨Ua,G⟩ (fun hc=>Gg Gd O O O) O (JLo (BL (decide (a.Kilos20=b.Kilos20))) [40,42] O .sct ⟨Ua,Ua,G⟩ (fun hc=>Jt O O O) O (JLh (BL ((((((decide (a.Bay=b.Bay))&&(decide (a.Row=b.Row)))&&(a.Deck==b.Deck))&&(decide (a.Tiers=b.Tiers)))&&(decide (a.Height=b.Height)))&&(decide (a.Kilos20=b.Kilos20)))) (Hx O O O O) O (Yy (BL ((((((decide (a.Bay=b.Bay))&&(decide (a.Row=b.Row)))&&(a.Deck==b.Deck))&&(decide (a.Tiers=b.Tiers)))&&(decide (a.Height=b.Height)))&&(decide (a.Kilos20=b.Kilos20)))) O ?_)))))))))))))
 refine JLo (.dptr ((G4.cs a).drop 6)) [] O .sct G (fun hc=>Ga Gc6 O O O) O (JLo (G0 a.Kilos40) [46] O .sct ⟨Ua,G⟩ (fun hc=>Gg Gd O O O) O (JLo (.dptr ((G4.cs b).drop 6)) [] O .sct G (fun hc=>Ga Gc6 O O O) O (JLo (G0 b.Kilos40) [48] O .sct ⟨Ua,G⟩ (fun hc=>Gg Gd O O O) O (JLo (BL (decide (a.Kilos40=b.Kilos40))) [47,49] O .sct ⟨Ua,Ua,G⟩ (fun hc=>Jt O O O) O (JLh (BL (((((((decide (a.Bay=b.Bay))&&(decide (a.Row=b.Row)))&&(a.Deck==b.Deck))&&(decide (a.Tiers=b.Tiers)))&&(decide (a.Height=b.Height)))&&(decide (a.Kilos20=b.Kilos20)))&&(decide (a.Kilos40=b.Kilos40)))) (Hx O O O O) O (Yy (BL (((((((decide (a.Bay=b.Bay))&&(decide (a.Row=b.Row)))&&(a.Deck==b.Deck))&&(decide (a.Tiers=b.Tiers)))&&(decide (a.Height=b.Height)))&&(decide (a.Kilos20=b.Kilos20)))&&(decide (a.Kilos40=b.Kilos40)))) O (JLo (.dptr ((G4.cs a).drop 7)) [] O .sct G (fun hc=>Ga Gc5 O O O) O (JLo (G0 a.Lash) [53] O .sct ⟨Ua,G⟩ (fun hc=>Gg Gd O O O) O (JLo (.dptr ((G4.cs b).drop 7)) [] O .sct G (fun hc=>Ga Gc5 O O O) O (JLo (G0 b.Lash) [55] O .sct ⟨Ua,G⟩ (fun hc=>Gg Gd O O O) O (JLo (BL (decide (a.Lash=b.Lash))) [54,56] O .sct ⟨Ua,Ua,G⟩ (fun hc=>Jt O O O) O (JLh (BL ((((((((decide (a.Bay=b.Bay))&&(decide (a.Row=b.Row)))&&(a.Deck==b.Deck))&&(decide (a.Tiers=b.Tiers)))&&(decide (a.Height=b.Height)))&&(decide (a.Kilos20=b.Kilos20)))&&(decide (a.Kilos40=b.Kilos40)))&&(decide (a.Lash=b.Lash)))) (Hx O O O O) O (Yy (BL ((((((((decide (a.Bay=b.Bay))&&(decide (a.Row=b.Row)))&&(a.Deck==b.Deck))&&(decide (a.Tiers=b.Tiers)))&&(decide (a.Height=b.Height)))&&(decide (a.Kilos20=b.Kilos20)))&&(decide (a.Kilos40=b.Kilos40)))&&(decide (a.Lash=b.Lash)))) O ?_)))))))))))))
 refine JLo (.dptr ((G4.cs a).drop 8)) [] O .sct G (fun hc=>Ga Qw O O O) O (JLo (E0 a.Plugs) [60] O .sct ⟨Ua,G⟩ (fun hc=>Gg Ho O O O) O (JLo (.dptr ((G4.cs b).drop 8)) [] O .sct G (fun hc=>Ga Qw O O O) O (JLo (E0 b.Plugs) [62] O .sct ⟨Ua,G⟩ (fun hc=>Gg Ho O O O) O ?_)))
 obtain⟨r3,hr3,h⟩:=Ge h
 refine JLo (BL r3) [61,63] O .sct ⟨Ua,Ua,G⟩ (fun hc=>Gn (args:=[E0 a.Plugs,E0 b.Plugs]) O (Q7 a.Plugs b.Plugs r3 (Gx hc hr3)) G5d ⟨O,O,O,O,G⟩) O (JLh (BL (((((((((decide (a.Bay=b.Bay))&&(decide (a.Row=b.Row)))&&(a.Deck==b.Deck))&&(decide (a.Tiers=b.Tiers)))&&(decide (a.Height=b.Height)))&&(decide (a.Kilos20=b.Kilos20)))&&(decide (a.Kilos40=b.Kilos40)))&&(decide (a.Lash=b.Lash)))&&r3)) (Hx O O O O) O (Yy (BL (((((((((decide (a.Bay=b.Bay))&&(decide (a.Row=b.Row)))&&(a.Deck==b.Deck))&&(decide (a.Tiers=b.Tiers)))&&(decide (a.Height=b.Height)))&&(decide (a.Kilos20=b.Kilos20)))&&(decide (a.Kilos40=b.Kilos40)))&&(decide (a.Lash=b.Lash)))&&r3)) O (JLo (.dptr [G0 a.X,G0 a.Y,G0 a.Z]) [] O .sct G (fun hc=>Ga Gc4 O O O) O (JLo (G0 a.X) [67] O .sct ⟨Ua,G⟩ (fun hc=>Gg Gd O O O) O (JLo (.dptr [G0 b.X,G0 b.Y,G0 b.Z]) [] O .sct G (fun hc=>Ga Gc4 O O O) O (JLo (G0 b.X) [69] O .sct ⟨Ua,G⟩ (fun hc=>Gg Gd O O O) O (JLo (BL (decide (a.X=b.X))) [68,70] O .sct ⟨Ua,Ua,G⟩ (fun hc=>Jt O O O) O (JLh (BL ((((((((((decide (a.Bay=b.Bay))&&(decide (a.Row=b.Row)))&&(a.Deck==b.Deck))&&(decide (a.Tiers=b.Tiers)))&&(decide (a.Height=b.Height)))&&(decide (a.Kilos20=b.Kilos20)))&&(decide (a.Kilos40=b.Kilos40)))&&(decide (a.Lash=b.Lash)))&&r3)&&(decide (a.X=b.X)))) (Hx O O O O) O (Yy (BL ((((((((((decide (a.Bay=b.Bay))&&(decide (a.Row=b.Row)))&&(a.Deck==b.Deck))&&(decide (a.Tiers=b.Tiers)))&&(decide (a.Height=b.Height)))&&(decide (a.Kilos20=b.Kilos20)))&&(decide (a.Kilos40=b.Kilos40)))&&(decide (a.Lash=b.Lash)))&&r3)&&(decide (a.X=b.X)))) O (JLo (.dptr [G0 a.Y,G0 a.Z]) [] O .sct G (fun hc=>Ga Ga7 O O O) O (JLo (G0 a.Y) [74] O .sct ⟨Ua,G⟩ (fun hc=>Gg Gd O O O) O (JLo (.dptr [G0 b.Y,G0 b.Z]) [] O .sct G (fun hc=>Ga Ga7 O O O) O (JLo (G0 b.Y) [76] O .sct ⟨Ua,G⟩ (fun hc=>Gg Gd O O O) O ?_)))))))))))))
 refine JLo (BL (decide (a.Y=b.Y))) [75,77] O .sct ⟨Ua,Ua,G⟩ (fun hc=>Jt O O O) O (JLh (BL (((((((((((decide (a.Bay=b.Bay))&&(decide (a.Row=b.Row)))&&(a.Deck==b.Deck))&&(decide (a.Tiers=b.Tiers)))&&(decide (a.Height=b.Height)))&&(decide (a.Kilos20=b.Kilos20)))&&(decide (a.Kilos40=b.Kilos40)))&&(decide (a.Lash=b.Lash)))&&r3)&&(decide (a.X=b.X)))&&(decide (a.Y=b.Y)))) (Hx O O O O) O (Yy (BL (((((((((((decide (a.Bay=b.Bay))&&(decide (a.Row=b.Row)))&&(a.Deck==b.Deck))&&(decide (a.Tiers=b.Tiers)))&&(decide (a.Height=b.Height)))&&(decide (a.Kilos20=b.Kilos20)))&&(decide (a.Kilos40=b.Kilos40)))&&(decide (a.Lash=b.Lash)))&&r3)&&(decide (a.X=b.X)))&&(decide (a.Y=b.Y)))) O (JLo (.dptr [G0 a.Z]) [] O .sct G (fun hc=>Ga Ga6 O O O) O (JLo (G0 a.Z) [81] O .sct ⟨Ua,G⟩ (fun hc=>Gg Gd O O O) O (JLo (.dptr [G0 b.Z]) [] O .sct G (fun hc=>Ga Ga6 O O O) O (JLo (G0 b.Z) [83] O .sct ⟨Ua,G⟩ (fun hc=>Gg Gd O O O) O (JLo (BL (decide (a.Z=b.Z))) [82,84] O .sct ⟨Ua,Ua,G⟩ (fun hc=>Jt O O O) O (JLh (BL ((((((((((((decide (a.Bay=b.Bay))&&(decide (a.Row=b.Row)))&&(a.Deck==b.Deck))&&(decide (a.Tiers=b.Tiers)))&&(decide (a.Height=b.Height)))&&(decide (a.Kilos20=b.Kilos20)))&&(decide (a.Kilos40=b.Kilos40)))&&(decide (a.Lash=b.Lash)))&&r3)&&(decide (a.X=b.X)))&&(decide (a.Y=b.Y)))&&(decide (a.Z=b.Z)))) (Hx O O O O) O (Yy (BL ((((((((((((decide (a.Bay=b.Bay))&&(decide (a.Row=b.Row)))&&(a.Deck==b.Deck))&&(decide (a.Tiers=b.Tiers)))&&(decide (a.Height=b.Height)))&&(decide (a.Kilos20=b.Kilos20)))&&(decide (a.Kilos40=b.Kilos40)))&&(decide (a.Lash=b.Lash)))&&r3)&&(decide (a.X=b.X)))&&(decide (a.Y=b.Y)))&&(decide (a.Z=b.Z)))) O (G7 (hK2 ?_)))))))))))
 refine Gr (fin1 BL h)

def Rn (a:List G4) (b:List G4):Option Bool:=
 bif decide ((a.length:Int)≠(b.length:Int)) then
 (some false)
 else
 (each (fun y26 i26 (s26:Unit) nx26=>
   Qm b (i26:Int) fun y31=>
   bnd (Jg y26 y31) fun r33=>
   bif (!r33) then
   (some false)
   else
   (nx26 ()))
  (fun(s26:Unit)=>
   some true) a 0 ())
theorem Ge0 (a:List G4) (b:List G4) (r:Bool) (h:Rn a b=some r):Pure Eh 120 [E4 a,E4 b] (·=BL r):=by
 unfold Rn at h
 refine Gy [.tmp 4] Tryz.func120 O O (Jr fun hK1=>(Yy (BL false) O (G7 (hK1 (Js fun hK2=>Jr fun hK3=>(Yy (E4 a) O (JLl H5 O O O fun hm7=>(Yy (E4 b) O (JLl H5 O O O fun hm9=>(JLh (BL (decide ((a.length:Int)≠(b.length:Int)))) (G3d O O O) O (G7 (hK3 (JCc O h (fun h hb=>?_) (fun h hb=>?_))))))))))))))
 ·
  refine Jr fun hK4=>(Yy (BL false) O (G7 (hK4 (Gr (fin1 BL h)))))
 ·
  refine Gp (hK2 (Js fun hK5=>Jr fun hK6=>(Yy (G0 0) O (G7 (hK6 (Gs ?_))))))
  obtain⟨b26,kx26,hb26,hkx26,h⟩:=J5 h
  refine Hc (fun i26 (s26:Unit)=>each b26 kx26 (List.drop i26 a) i26 s26=some r) (fun i26 s26=>[(0,E4 a),(1,E4 b),(5,Eg i26)]) (fun i26 s26=>[]) (fun i26=>a.length - i26) 0 () h ⟨⟨.same O,.same O,.same O,G⟩,G,O⟩ ?_
  clear h
  intro i26 s26 hi26 K26 e26
  refine Js fun hK27=>Jr fun hK28=>(Yy (Eg i26) O (Yy (E4 a) O (JLl H5 O O O fun hm13=>(JLh (BL (decide ((i26:Int) < (a.length:Int)))) (J4 O O O) O (G7 (hK28 (Gk O (fun hb=>?_) (fun hb=>?_))))))))
  ·
   have hk26:=Jj hb
   obtain⟨y26,nx26,hy26,hn26,h⟩:=Hq hi26 hk26
   replace h:=Z1 hb26 h
   refine Gp (hK27 (Js fun hK29=>Gs (Js fun hK30=>?_)))
   obtain⟨m32,y31,hm32,hy31,h⟩:=Qx h
   obtain⟨r33,hr33,h⟩:=Ge h
   refine JC_d0 J8 (by kernel_rfl) (Dq (E4 a) (G5 O O) O (Dq (Eg i26) (G5 O O) O (Dq (Ec y26) (Gv (f:=G4.av) (xs:=a) (y:=y26) O O O H5 hy26 O) O (Dq (.agg (G4.cs y26)) (Gi Rf O O O) O (Dq (E4 b) (G5 O O) O (Dq (Eg i26) (G5 O O) O (Dq (Ec y31) (Gv (f:=G4.av) (xs:=b) (y:=y31) O O O H5 hy31 hm32) O (Dq (.agg (G4.cs y31)) (Gi Rf O O O) O (Dq (BL r33) (Gn (args:=[.agg (G4.cs y26),.agg (G4.cs y31)]) O (G11 y26 y31 r33 hr33) H90 ⟨O,O,O,O,G⟩) O (Dq (BL (!r33)) (R5 (b:=r33) O O) O (Dnil (hK30 (JCc O h (fun h hb=>?_) (fun h hb=>?_))))))))))))))
   ·
    refine Jr fun hK34=>(Yy (BL false) O (G7 (hK34 (Gr (fin1 BL h)))))
   ·
    refine Gp (hK29 (G3 (Yy (Eg i26) O (JLh (G0 ((i26+1:Nat):Int)) (Hs (He hk26 hm13) O O O) O (Yy (G0 ((i26+1:Nat):Int)) O (G7 (e26 _ _ (i26+1) () (app1 hn26 h) (by omega) ⟨⟨.same rfl,.same rfl,.same rfl,G⟩,G,rfl⟩)))))))
  ·
   have h:=app1 hkx26 (Hr hi26 (Ha hb))
   refine Hi (hK5 (Jr fun hK35=>(Yy (BL true) O (G7 (hK35 (Gr (fin1 BL h)))))))

def Jp (a:Gc) (b:Gc):Option Bool:=
 bnd (bif decide (a.Bay=b.Bay) then Jc a.Rows b.Rows else some default) fun r3=>
 some ((decide (a.Bay=b.Bay))&&r3)
theorem G1b (a:Gc) (b:Gc) (r:Bool) (h:Jp a b=some r):Pure Eh 128 [.agg [G0 a.Bay,E0 a.Rows],.agg [G0 b.Bay,E0 b.Rows]] (·=BL r):=by
 unfold Jp at h
 refine Gy [.tmp 4] Tryz.func128 O O (Jr fun hK1=>(JLh (.ptr 1131 0) (Ji (cs:=[G0 a.Bay,E0 a.Rows]) 1131 O O O O O) O (JLh (.ptr 1132 0) (Ji (cs:=[G0 b.Bay,E0 b.Rows]) 1132 O O O O O) O (Yy (BL false) O (G7 (hK1 (Gz [(2,.dptr [G0 a.Bay,E0 a.Rows]),(3,.ptr 1132 0)] [(1132,.box 80 [G0 b.Bay,E0 b.Rows])] 1131 rfl rfl rfl ⟨⟨_,rfl,.boxEq rfl rfl⟩,G⟩ rfl (by exact⟨.ptr,.conv (.same rfl),G⟩) (Gz [(2,.dptr [G0 a.Bay,E0 a.Rows]),(3,.dptr [G0 b.Bay,E0 b.Rows])] [] 1132 rfl rfl rfl G rfl (by exact⟨.conv (.same rfl),.ptr,G⟩) ?_))))))))
 refine Jr fun hK2=>(JLh (.dptr [G0 a.Bay,E0 a.Rows]) (Ga Z2 O O O) O (JLh (G0 a.Bay) (Gg Gd O O O) O (JLh (.dptr [G0 b.Bay,E0 b.Rows]) (Ga Z2 O O O) O (JLh (G0 b.Bay) (Gg Gd O O O) O (JLh (BL (decide (a.Bay=b.Bay))) (Jt O O O) O (Yy (BL (decide (a.Bay=b.Bay))) O (JLo (.dptr [E0 a.Rows]) [] O .sct G (fun hc=>Ga Jy O O O) O (JLo (E0 a.Rows) [11] O .sct ⟨Ua,G⟩ (fun hc=>Gg Ho O O O) O (JLo (.dptr [E0 b.Rows]) [] O .sct G (fun hc=>Ga Jy O O O) O (JLo (E0 b.Rows) [13] O .sct ⟨Ua,G⟩ (fun hc=>Gg Ho O O O) O ?_))))))))))
 obtain⟨r3,hr3,h⟩:=Ge h
 refine JLo (BL r3) [12,14] O .sct ⟨Ua,Ua,G⟩ (fun hc=>Gn (args:=[E0 a.Rows,E0 b.Rows]) O (Q7 a.Rows b.Rows r3 (Gx hc hr3)) G5d ⟨O,O,O,O,G⟩) O (JLh (BL ((decide (a.Bay=b.Bay))&&r3)) (Hx O O O O) O (Yy (BL ((decide (a.Bay=b.Bay))&&r3)) O (G7 (hK2 (Gr (fin1 BL h))))))

def Rx (a:List Gc) (b:List Gc):Option Bool:=
 bif decide ((a.length:Int)≠(b.length:Int)) then
 (some false)
 else
 (each (fun y26 i26 (s26:Unit) nx26=>
   Qm b (i26:Int) fun y31=>
   bnd (Jp y26 y31) fun r33=>
   bif (!r33) then
   (some false)
   else
   (nx26 ()))
  (fun(s26:Unit)=>
   some true) a 0 ())
theorem Gee (a:List Gc) (b:List Gc) (r:Bool) (h:Rx a b=some r):Pure Eh 121 [E3 a,E3 b] (·=BL r):=by
 unfold Rx at h
 refine Gy [.tmp 4] Tryz.func121 O O (Jr fun hK1=>(Yy (BL false) O (G7 (hK1 (Js fun hK2=>Jr fun hK3=>(Yy (E3 a) O (JLl Hh O O O fun hm7=>(Yy (E3 b) O (JLl Hh O O O fun hm9=>(JLh (BL (decide ((a.length:Int)≠(b.length:Int)))) (G3d O O O) O (G7 (hK3 (JCc O h (fun h hb=>?_) (fun h hb=>?_))))))))))))))
 ·
  refine Jr fun hK4=>(Yy (BL false) O (G7 (hK4 (Gr (fin1 BL h)))))
 ·
  refine Gp (hK2 (Js fun hK5=>Jr fun hK6=>(Yy (G0 0) O (G7 (hK6 (Gs ?_))))))
  obtain⟨b26,kx26,hb26,hkx26,h⟩:=J5 h
  refine Hc (fun i26 (s26:Unit)=>each b26 kx26 (List.drop i26 a) i26 s26=some r) (fun i26 s26=>[(0,E3 a),(1,E3 b),(5,Eg i26)]) (fun i26 s26=>[]) (fun i26=>a.length - i26) 0 () h ⟨⟨.same O,.same O,.same O,G⟩,G,O⟩ ?_
  clear h
  intro i26 s26 hi26 K26 e26
  refine Js fun hK27=>Jr fun hK28=>(Yy (Eg i26) O (Yy (E3 a) O (JLl Hh O O O fun hm13=>(JLh (BL (decide ((i26:Int) < (a.length:Int)))) (J4 O O O) O (G7 (hK28 (Gk O (fun hb=>?_) (fun hb=>?_))))))))
  ·
   have hk26:=Jj hb
   obtain⟨y26,nx26,hy26,hn26,h⟩:=Hq hi26 hk26
   replace h:=Z1 hb26 h
   refine Gp (hK27 (Js fun hK29=>Gs (Js fun hK30=>?_)))
   obtain⟨m32,y31,hm32,hy31,h⟩:=Qx h
   obtain⟨r33,hr33,h⟩:=Ge h
   refine JC_d0 J8 (by kernel_rfl) (Dq (E3 a) (G5 O O) O (Dq (Eg i26) (G5 O O) O (Dq (.dptr [G0 y26.Bay,E0 y26.Rows]) (Gv (f:=Gc.av) (xs:=a) (y:=y26) O O O Hh hy26 O) O (Dq (.agg [G0 y26.Bay,E0 y26.Rows]) (Gi Rs O O O) O (Dq (E3 b) (G5 O O) O (Dq (Eg i26) (G5 O O) O (Dq (.dptr [G0 y31.Bay,E0 y31.Rows]) (Gv (f:=Gc.av) (xs:=b) (y:=y31) O O O Hh hy31 hm32) O (Dq (.agg [G0 y31.Bay,E0 y31.Rows]) (Gi Rs O O O) O (Dq (BL r33) (Gn (args:=[.agg [G0 y26.Bay,E0 y26.Rows],.agg [G0 y31.Bay,E0 y31.Rows]]) O (G1b y26 y31 r33 hr33) H8f ⟨O,O,O,O,G⟩) O (Dq (BL (!r33)) (R5 (b:=r33) O O) O (Dnil (hK30 (JCc O h (fun h hb=>?_) (fun h hb=>?_))))))))))))))
   ·
    refine Jr fun hK34=>(Yy (BL false) O (G7 (hK34 (Gr (fin1 BL h)))))
   ·
    refine Gp (hK29 (G3 (Yy (Eg i26) O (JLh (G0 ((i26+1:Nat):Int)) (Hs (He hk26 hm13) O O O) O (Yy (G0 ((i26+1:Nat):Int)) O (G7 (e26 _ _ (i26+1) () (app1 hn26 h) (by omega) ⟨⟨.same rfl,.same rfl,.same rfl,G⟩,G,rfl⟩)))))))
  ·
   have h:=app1 hkx26 (Hr hi26 (Ha hb))
   refine Hi (hK5 (Jr fun hK35=>(Yy (BL true) O (G7 (hK35 (Gr (fin1 BL h)))))))

def Ys (a:List Row) (b:List Row):Option Bool:=
 bif decide ((a.length:Int)≠(b.length:Int)) then
 (some false)
 else
 (each (fun y24 i24 (s24:Unit) nx24=>
   Qm b (i24:Int) fun y29=>
   bif (!decide (y24=y29)) then
   (some false)
   else
   (nx24 ()))
  (fun(s24:Unit)=>
   some true) a 0 ())
theorem H21 (a:List Row) (b:List Row) (r:Bool) (h:Ys a b=some r):Pure Eh 122 [E6 a,E6 b] (·=BL r):=by
 unfold Ys at h
 refine Gy [.tmp 4] Tryz.func122 O O (Jr fun hK1=>(Yy (BL false) O (G7 (hK1 (Js fun hK2=>Jr fun hK3=>(Yy (E6 a) O (JLl Q0 O O O fun hm7=>(Yy (E6 b) O (JLl Q0 O O O fun hm9=>(JLh (BL (decide ((a.length:Int)≠(b.length:Int)))) (G3d O O O) O (G7 (hK3 (JCc O h (fun h hb=>?_) (fun h hb=>?_))))))))))))))
 ·
  refine Jr fun hK4=>(Yy (BL false) O (G7 (hK4 (Gr (fin1 BL h)))))
 ·
  refine Gp (hK2 (Js fun hK5=>Jr fun hK6=>(Yy (G0 0) O (G7 (hK6 (Gs ?_))))))
  obtain⟨b24,kx24,hb24,hkx24,h⟩:=J5 h
  refine Hc (fun i24 (s24:Unit)=>each b24 kx24 (List.drop i24 a) i24 s24=some r) (fun i24 s24=>[(0,E6 a),(1,E6 b),(5,Eg i24)]) (fun i24 s24=>[]) (fun i24=>a.length - i24) 0 () h ⟨⟨.same O,.same O,.same O,G⟩,G,O⟩ ?_
  clear h
  intro i24 s24 hi24 K24 e24
  refine Js fun hK25=>Jr fun hK26=>(Yy (Eg i24) O (Yy (E6 a) O (JLl Q0 O O O fun hm13=>(JLh (BL (decide ((i24:Int) < (a.length:Int)))) (J4 O O O) O (G7 (hK26 (Gk O (fun hb=>?_) (fun hb=>?_))))))))
  ·
   have hk24:=Jj hb
   obtain⟨y24,nx24,hy24,hn24,h⟩:=Hq hi24 hk24
   replace h:=Z1 hb24 h
   refine Gp (hK25 (Js fun hK27=>Gs (Js fun hK28=>?_)))
   obtain⟨m30,y29,hm30,hy29,h⟩:=Qx h
   refine JC_d0 J8 (by kernel_rfl) (Dq (E6 a) (G5 O O) O (Dq (Eg i24) (G5 O O) O (Dq (.dptr (Row.cs y24)) (Gv (f:=Row.av) (xs:=a) (y:=y24) O O O Q0 hy24 O) O (Dq (.agg (Row.cs y24)) (Gi Gba O O O) O (Dq (E6 b) (G5 O O) O (Dq (Eg i24) (G5 O O) O (Dq (.dptr (Row.cs y29)) (Gv (f:=Row.av) (xs:=b) (y:=y29) O O O Q0 hy29 hm30) O (Dq (.agg (Row.cs y29)) (Gi Gba O O O) O (Dq (BL (!decide (y24=y29))) (Jed (vs:=[.int .i64 y24.Draught,.int .i64 y24.Kilos,.int .i64 y24.Buoy,.int .i64 y24.Metacentre,.int .i64 y24.Ha8]) (us:=[.int .i64 y29.Draught,.int .i64 y29.Kilos,.int .i64 y29.Buoy,.int .i64 y29.Metacentre,.int .i64 y29.Ha8]) 4 O (tq_130 y24 y29) H69 Hda O O O) O (Dnil (hK28 ?_)))))))))))
   refine JCc O h (fun h hb=>?_) (fun h hb=>?_)
   ·
    refine Jr fun hK31=>(Yy (BL false) O (G7 (hK31 (Gr (fin1 BL h)))))
   ·
    refine Gp (hK27 (G3 (Yy (Eg i24) O (JLh (G0 ((i24+1:Nat):Int)) (Hs (He hk24 hm13) O O O) O (Yy (G0 ((i24+1:Nat):Int)) O (G7 (e24 _ _ (i24+1) () (app1 hn24 h) (by omega) ⟨⟨.same rfl,.same rfl,.same rfl,G⟩,G,rfl⟩)))))))
  ·
   have h:=app1 hkx24 (Hr hi24 (Ha hb))
   refine Hi (hK5 (Jr fun hK32=>(Yy (BL true) O (G7 (hK32 (Gr (fin1 BL h)))))))

def Rw (a:List Frame) (b:List Frame):Option Bool:=
 bif decide ((a.length:Int)≠(b.length:Int)) then
 (some false)
 else
 (each (fun y24 i24 (s24:Unit) nx24=>
   Qm b (i24:Int) fun y29=>
   bif (!decide (y24=y29)) then
   (some false)
   else
   (nx24 ()))
  (fun(s24:Unit)=>
   some true) a 0 ())
theorem Ged (a:List Frame) (b:List Frame) (r:Bool) (h:Rw a b=some r):Pure Eh 123 [E5 a,E5 b] (·=BL r):=by
 unfold Rw at h
 refine Gy [.tmp 4] Tryz.func123 O O (Jr fun hK1=>(Yy (BL false) O (G7 (hK1 (Js fun hK2=>Jr fun hK3=>(Yy (E5 a) O (JLl Jz O O O fun hm7=>(Yy (E5 b) O (JLl Jz O O O fun hm9=>(JLh (BL (decide ((a.length:Int)≠(b.length:Int)))) (G3d O O O) O (G7 (hK3 (JCc O h (fun h hb=>?_) (fun h hb=>?_))))))))))))))
 ·
  refine Jr fun hK4=>(Yy (BL false) O (G7 (hK4 (Gr (fin1 BL h)))))
 ·
  refine Gp (hK2 (Js fun hK5=>Jr fun hK6=>(Yy (G0 0) O (G7 (hK6 (Gs ?_))))))
  obtain⟨b24,kx24,hb24,hkx24,h⟩:=J5 h
  refine Hc (fun i24 (s24:Unit)=>each b24 kx24 (List.drop i24 a) i24 s24=some r) (fun i24 s24=>[(0,E5 a),(1,E5 b),(5,Eg i24)]) (fun i24 s24=>[]) (fun i24=>a.length - i24) 0 () h ⟨⟨.same O,.same O,.same O,G⟩,G,O⟩ ?_
  clear h
  intro i24 s24 hi24 K24 e24
  refine Js fun hK25=>Jr fun hK26=>(Yy (Eg i24) O (Yy (E5 a) O (JLl Jz O O O fun hm13=>(JLh (BL (decide ((i24:Int) < (a.length:Int)))) (J4 O O O) O (G7 (hK26 (Gk O (fun hb=>?_) (fun hb=>?_))))))))
  ·
   have hk24:=Jj hb
   obtain⟨y24,nx24,hy24,hn24,h⟩:=Hq hi24 hk24
   replace h:=Z1 hb24 h
   refine Gp (hK25 (Js fun hK27=>Gs (Js fun hK28=>?_)))
   obtain⟨m30,y29,hm30,hy29,h⟩:=Qx h
   refine JC_d0 J8 (by kernel_rfl) (Dq (E5 a) (G5 O O) O (Dq (Eg i24) (G5 O O) O (Dq (.dptr (Frame.cs y24)) (Gv (f:=Frame.av) (xs:=a) (y:=y24) O O O Jz hy24 O) O (Dq (.agg (Frame.cs y24)) (Gi Gb9 O O O) O (Dq (E5 b) (G5 O O) O (Dq (Eg i24) (G5 O O) O (Dq (.dptr (Frame.cs y29)) (Gv (f:=Frame.av) (xs:=b) (y:=y29) O O O Jz hy29 hm30) O (Dq (.agg (Frame.cs y29)) (Gi Gb9 O O O) O (Dq (BL (!decide (y24=y29))) (Jed (vs:=[.int .i64 y24.X,.int .i64 y24.Light,.int .i64 y24.Share,.int .i64 y24.Shear,.int .i64 y24.Bend]) (us:=[.int .i64 y29.X,.int .i64 y29.Light,.int .i64 y29.Share,.int .i64 y29.Shear,.int .i64 y29.Bend]) 4 O (tq_133 y24 y29) H68 Hd9 O O O) O (Dnil (hK28 (JCc O h (fun h hb=>?_) (fun h hb=>?_)))))))))))))
   ·
    refine Jr fun hK31=>(Yy (BL false) O (G7 (hK31 (Gr (fin1 BL h)))))
   ·
    refine Gp (hK27 (G3 (Yy (Eg i24) O (JLh (G0 ((i24+1:Nat):Int)) (Hs (He hk24 hm13) O O O) O (Yy (G0 ((i24+1:Nat):Int)) O (G7 (e24 _ _ (i24+1) () (app1 hn24 h) (by omega) ⟨⟨.same rfl,.same rfl,.same rfl,G⟩,G,rfl⟩)))))))
  ·
   have h:=app1 hkx24 (Hr hi24 (Ha hb))
   refine Hi (hK5 (Jr fun hK32=>(Yy (BL true) O (G7 (hK32 (Gr (fin1 BL h)))))))

def Ju (a:Gj) (b:Gj):Option Bool:=
 bnd (bif (((((decide (a.Kilos=b.Kilos))&&(decide (a.X=b.X)))&&(decide (a.Y=b.Y)))&&(decide (a.Z=b.Z)))&&(decide (a.Surface=b.Surface))) then Jc a.Steps b.Steps else some default) fun r3=>
 some ((((((decide (a.Kilos=b.Kilos))&&(decide (a.X=b.X)))&&(decide (a.Y=b.Y)))&&(decide (a.Z=b.Z)))&&(decide (a.Surface=b.Surface)))&&r3)
theorem G21 (a:Gj) (b:Gj) (r:Bool) (h:Ju a b=some r):Pure Eh 130 [.agg (Gj.cs a),.agg (Gj.cs b)] (·=BL r):=by
 unfold Ju at h
 refine Gy [.tmp 4] Tryz.func130 O O (Jr fun hK1=>(JLh (.ptr 1135 0) (Ji (cs:=[G0 a.Kilos,G0 a.X,G0 a.Y,G0 a.Z,G0 a.Surface,E0 a.Steps]) 1135 O O O O O) O (JLh (.ptr 1136 0) (Ji (cs:=[G0 b.Kilos,G0 b.X,G0 b.Y,G0 b.Z,G0 b.Surface,E0 b.Steps]) 1136 O O O O O) O (Yy (BL false) O (G7 (hK1 (Gz [(2,Ef a),(3,.ptr 1136 0)] [(1136,.box 136 [G0 b.Kilos,G0 b.X,G0 b.Y,G0 b.Z,G0 b.Surface,E0 b.Steps])] 1135 rfl rfl rfl ⟨⟨_,rfl,.boxEq rfl rfl⟩,G⟩ rfl (by exact⟨.ptr,.conv (.same rfl),G⟩) (Gz [(2,Ef a),(3,Ef b)] [] 1136 rfl rfl rfl G rfl (by exact⟨.conv (.same rfl),.ptr,G⟩) ?_))))))))
 refine Jr fun hK2=>(JLh (Ef a) (Ga H8a O O O) O (JLh (G0 a.Kilos) (Gg Gd O O O) O (JLh (Ef b) (Ga H8a O O O) O (JLh (G0 b.Kilos) (Gg Gd O O O) O (JLh (BL (decide (a.Kilos=b.Kilos))) (Jt O O O) O (Yy (BL (decide (a.Kilos=b.Kilos))) O (JLo (.dptr ((Gj.cs a).drop 1)) [] O .sct G (fun hc=>Ga H89 O O O) O (JLo (G0 a.X) [11] O .sct ⟨Ua,G⟩ (fun hc=>Gg Gd O O O) O (JLo (.dptr ((Gj.cs b).drop 1)) [] O .sct G (fun hc=>Ga H89 O O O) O (JLo (G0 b.X) [13] O .sct ⟨Ua,G⟩ (fun hc=>Gg Gd O O O) O (JLo (BL (decide (a.X=b.X))) [12,14] O .sct ⟨Ua,Ua,G⟩ (fun hc=>Jt O O O) O (JLh (BL ((decide (a.Kilos=b.Kilos))&&(decide (a.X=b.X)))) (Hx O O O O) O (Yy (BL ((decide (a.Kilos=b.Kilos))&&(decide (a.X=b.X)))) O ?_)))))))))))))
 refine JLo (.dptr ((Gj.cs a).drop 2)) [] O .sct G (fun hc=>Ga H88 O O O) O (JLo (G0 a.Y) [18] O .sct ⟨Ua,G⟩ (fun hc=>Gg Gd O O O) O (JLo (.dptr ((Gj.cs b).drop 2)) [] O .sct G (fun hc=>Ga H88 O O O) O (JLo (G0 b.Y) [20] O .sct ⟨Ua,G⟩ (fun hc=>Gg Gd O O O) O (JLo (BL (decide (a.Y=b.Y))) [19,21] O .sct ⟨Ua,Ua,G⟩ (fun hc=>Jt O O O) O (JLh (BL (((decide (a.Kilos=b.Kilos))&&(decide (a.X=b.X)))&&(decide (a.Y=b.Y)))) (Hx O O O O) O (Yy (BL (((decide (a.Kilos=b.Kilos))&&(decide (a.X=b.X)))&&(decide (a.Y=b.Y)))) O (JLo (.dptr ((Gj.cs a).drop 3)) [] O .sct G (fun hc=>Ga H87 O O O) O (JLo (G0 a.Z) [25] O .sct ⟨Ua,G⟩ (fun hc=>Gg Gd O O O) O (JLo (.dptr ((Gj.cs b).drop 3)) [] O .sct G (fun hc=>Ga H87 O O O) O (JLo (G0 b.Z) [27] O .sct ⟨Ua,G⟩ (fun hc=>Gg Gd O O O) O (JLo (BL (decide (a.Z=b.Z))) [26,28] O .sct ⟨Ua,Ua,G⟩ (fun hc=>Jt O O O) O (JLh (BL ((((decide (a.Kilos=b.Kilos))&&(decide (a.X=b.X)))&&(decide (a.Y=b.Y)))&&(decide (a.Z=b.Z)))) (Hx O O O O) O (Yy (BL ((((decide (a.Kilos=b.Kilos))&&(decide (a.X=b.X)))&&(decide (a.Y=b.Y)))&&(decide (a.Z=b.Z)))) O ?_)))))))))))))
 refine JLo (.dptr [G0 a.Surface,E0 a.Steps]) [] O .sct G (fun hc=>Ga H86 O O O) O (JLo (G0 a.Surface) [32] O .sct ⟨Ua,G⟩ (fun hc=>Gg Gd O O O) O (JLo (.dptr [G0 b.Surface,E0 b.Steps]) [] O .sct G (fun hc=>Ga H86 O O O) O (JLo (G0 b.Surface) [34] O .sct ⟨Ua,G⟩ (fun hc=>Gg Gd O O O) O (JLo (BL (decide (a.Surface=b.Surface))) [33,35] O .sct ⟨Ua,Ua,G⟩ (fun hc=>Jt O O O) O (JLh (BL (((((decide (a.Kilos=b.Kilos))&&(decide (a.X=b.X)))&&(decide (a.Y=b.Y)))&&(decide (a.Z=b.Z)))&&(decide (a.Surface=b.Surface)))) (Hx O O O O) O (Yy (BL (((((decide (a.Kilos=b.Kilos))&&(decide (a.X=b.X)))&&(decide (a.Y=b.Y)))&&(decide (a.Z=b.Z)))&&(decide (a.Surface=b.Surface)))) O (JLo (.dptr [E0 a.Steps]) [] O .sct G (fun hc=>Ga G34 O O O) O (JLo (E0 a.Steps) [39] O .sct ⟨Ua,G⟩ (fun hc=>Gg Ho O O O) O (JLo (.dptr [E0 b.Steps]) [] O .sct G (fun hc=>Ga G34 O O O) O (JLo (E0 b.Steps) [41] O .sct ⟨Ua,G⟩ (fun hc=>Gg Ho O O O) O ?_))))))))))
 obtain⟨r3,hr3,h⟩:=Ge h
 refine JLo (BL r3) [40,42] O .sct ⟨Ua,Ua,G⟩ (fun hc=>Gn (args:=[E0 a.Steps,E0 b.Steps]) O (Q7 a.Steps b.Steps r3 (Gx hc hr3)) G5d ⟨O,O,O,O,G⟩) O (JLh (BL ((((((decide (a.Kilos=b.Kilos))&&(decide (a.X=b.X)))&&(decide (a.Y=b.Y)))&&(decide (a.Z=b.Z)))&&(decide (a.Surface=b.Surface)))&&r3)) (Hx O O O O) O (Yy (BL ((((((decide (a.Kilos=b.Kilos))&&(decide (a.X=b.X)))&&(decide (a.Y=b.Y)))&&(decide (a.Z=b.Z)))&&(decide (a.Surface=b.Surface)))&&r3)) O (G7 (hK2 (Gr (fin1 BL h))))))

def Ya (a:List Gj) (b:List Gj):Option Bool:=
 bif decide ((a.length:Int)≠(b.length:Int)) then
 (some false)
 else
 (each (fun y26 i26 (s26:Unit) nx26=>
   Qm b (i26:Int) fun y31=>
   bnd (Ju y26 y31) fun r33=>
   bif (!r33) then
   (some false)
   else
   (nx26 ()))
  (fun(s26:Unit)=>
   some true) a 0 ())
theorem H0f (a:List Gj) (b:List Gj) (r:Bool) (h:Ya a b=some r):Pure Eh 124 [E7 a,E7 b] (·=BL r):=by
 unfold Ya at h
 refine Gy [.tmp 4] Tryz.func124 O O (Jr fun hK1=>(Yy (BL false) O (G7 (hK1 (Js fun hK2=>Jr fun hK3=>(Yy (E7 a) O (JLl Jn O O O fun hm7=>(Yy (E7 b) O (JLl Jn O O O fun hm9=>(JLh (BL (decide ((a.length:Int)≠(b.length:Int)))) (G3d O O O) O (G7 (hK3 (JCc O h (fun h hb=>?_) (fun h hb=>?_))))))))))))))
 ·
  refine Jr fun hK4=>(Yy (BL false) O (G7 (hK4 (Gr (fin1 BL h)))))
 ·
  refine Gp (hK2 (Js fun hK5=>Jr fun hK6=>(Yy (G0 0) O (G7 (hK6 (Gs ?_))))))
  obtain⟨b26,kx26,hb26,hkx26,h⟩:=J5 h
  refine Hc (fun i26 (s26:Unit)=>each b26 kx26 (List.drop i26 a) i26 s26=some r) (fun i26 s26=>[(0,E7 a),(1,E7 b),(5,Eg i26)]) (fun i26 s26=>[]) (fun i26=>a.length - i26) 0 () h ⟨⟨.same O,.same O,.same O,G⟩,G,O⟩ ?_
  clear h
  intro i26 s26 hi26 K26 e26
  refine Js fun hK27=>Jr fun hK28=>(Yy (Eg i26) O (Yy (E7 a) O (JLl Jn O O O fun hm13=>(JLh (BL (decide ((i26:Int) < (a.length:Int)))) (J4 O O O) O (G7 (hK28 (Gk O (fun hb=>?_) (fun hb=>?_))))))))
  ·
   have hk26:=Jj hb
   obtain⟨y26,nx26,hy26,hn26,h⟩:=Hq hi26 hk26
   replace h:=Z1 hb26 h
   refine Gp (hK27 (Js fun hK29=>Gs (Js fun hK30=>?_)))
   obtain⟨m32,y31,hm32,hy31,h⟩:=Qx h
   obtain⟨r33,hr33,h⟩:=Ge h
   refine JC_d0 J8 (by kernel_rfl) (Dq (E7 a) (G5 O O) O (Dq (Eg i26) (G5 O O) O (Dq (Ef y26) (Gv (f:=Gj.av) (xs:=a) (y:=y26) O O O Jn hy26 O) O (Dq (.agg (Gj.cs y26)) (Gi G09 O O O) O (Dq (E7 b) (G5 O O) O (Dq (Eg i26) (G5 O O) O (Dq (Ef y31) (Gv (f:=Gj.av) (xs:=b) (y:=y31) O O O Jn hy31 hm32) O (Dq (.agg (Gj.cs y31)) (Gi G09 O O O) O (Dq (BL r33) (Gn (args:=[.agg (Gj.cs y26),.agg (Gj.cs y31)]) O (G21 y26 y31 r33 hr33) H8e ⟨O,O,O,O,G⟩) O (Dq (BL (!r33)) (R5 (b:=r33) O O) O (Dnil (hK30 (JCc O h (fun h hb=>?_) (fun h hb=>?_))))))))))))))
   ·
    refine Jr fun hK34=>(Yy (BL false) O (G7 (hK34 (Gr (fin1 BL h)))))
   ·
    refine Gp (hK29 (G3 (Yy (Eg i26) O (JLh (G0 ((i26+1:Nat):Int)) (Hs (He hk26 hm13) O O O) O (Yy (G0 ((i26+1:Nat):Int)) O (G7 (e26 _ _ (i26+1) () (app1 hn26 h) (by omega) ⟨⟨.same rfl,.same rfl,.same rfl,G⟩,G,rfl⟩)))))))
  ·
   have h:=app1 hkx26 (Hr hi26 (Ha hb))
   refine Hi (hK5 (Jr fun hK35=>(Yy (BL true) O (G7 (hK35 (Gr (fin1 BL h)))))))

def Yr (a:H4) (b:H4):Option Bool:=
 bnd (Rn a.Columns b.Columns) fun r3=>
 bnd (bif r3 then Rx a.Covers b.Covers else some default) fun r4=>
 bnd (bif ((r3&&r4)&&(decide (a.Light=b.Light))) then Ys a.Rows b.Rows else some default) fun r5=>
 bnd (bif (((r3&&r4)&&(decide (a.Light=b.Light)))&&r5) then Rw a.Frames b.Frames else some default) fun r6=>
 bnd (bif ((((r3&&r4)&&(decide (a.Light=b.Light)))&&r5)&&r6) then Ya a.Tanks b.Tanks else some default) fun r7=>
 some ((((((r3&&r4)&&(decide (a.Light=b.Light)))&&r5)&&r6)&&r7)&&(decide (a.G2=b.G2)))
theorem H20 (a:H4) (b:H4) (r:Bool) (h:Yr a b=some r):Pure Eh 75 [.agg (H4.cs a),.agg (H4.cs b)] (·=BL r):=by
 unfold Yr at h
 refine Gy [.tmp 4] Tryz.func75 O O (Jr fun hK1=>(JLh (.ptr 1097 0) (Ji (cs:=(H4.cs a)) 1097 O O O O O) O (JLh (.ptr 1098 0) (Ji (cs:=(H4.cs b)) 1098 O O O O O) O (Yy (BL false) O (G7 (hK1 ?_))))))
 refine Gz [(2,Ea a),(3,.ptr 1098 0)] [(1098,.box 32 (H4.cs b))] 1097 rfl rfl rfl ⟨⟨_,rfl,.boxEq rfl rfl⟩,G⟩ rfl (by exact⟨.ptr,.conv (.same rfl),G⟩) (Gz [(2,Ea a),(3,Ea b)] [] 1098 rfl rfl rfl G rfl (by exact⟨.conv (.same rfl),.ptr,G⟩) (Jr fun hK2=>(JLh (Ea a) (Ga Hd O O O) O (JLh (E4 a.Columns) (Gg Hm O O O) O (JLh (Ea b) (Ga Hd O O O) O (JLh (E4 b.Columns) (Gg Hm O O O) O ?_))))))
 obtain⟨r3,hr3,h⟩:=Ge h
 refine JLh (BL r3) (Gn O (Ge0 a.Columns b.Columns r3 hr3) Q10 ⟨O,O,O,O,G⟩) O (Yy (BL r3) O (JLo (.dptr ((H4.cs a).drop 1)) [] O .sct G (fun hc=>Ga Je O O O) O (JLo (E3 a.Covers) [11] O .sct ⟨Ua,G⟩ (fun hc=>Gg Jv O O O) O (JLo (.dptr ((H4.cs b).drop 1)) [] O .sct G (fun hc=>Ga Je O O O) O (JLo (E3 b.Covers) [13] O .sct ⟨Ua,G⟩ (fun hc=>Gg Jv O O O) O ?_)))))
 obtain⟨r4,hr4,h⟩:=Ge h
 refine JLo (BL r4) [12,14] O .sct ⟨Ua,Ua,G⟩ (fun hc=>Gn (args:=[E3 a.Covers,E3 b.Covers]) O (Gee a.Covers b.Covers r4 (Gx hc hr4)) Q0f ⟨O,O,O,O,G⟩) O (JLh (BL (r3&&r4)) (Hx O O O O) O (Yy (BL (r3&&r4)) O (JLo (.dptr ((H4.cs a).drop 2)) [] O .sct G (fun hc=>Ga Hcc O O O) O (JLo (.agg (Light.cs a.Light)) [18] O .sct ⟨Ua,G⟩ (fun hc=>Gi Jde O O O) O (JLo (.dptr ((H4.cs b).drop 2)) [] O .sct G (fun hc=>Ga Hcc O O O) O (JLo (.agg (Light.cs b.Light)) [20] O .sct ⟨Ua,G⟩ (fun hc=>Gi Jde O O O) O (JLo (BL (decide (a.Light=b.Light))) [19,21] O .sct ⟨Ua,Ua,G⟩ (fun hc=>Gb1 (vs:=[.int .i64 a.Light.Kilos,.int .i64 a.Light.X,.int .i64 a.Light.Y,.int .i64 a.Light.Z]) (us:=[.int .i64 b.Light.Kilos,.int .i64 b.Light.X,.int .i64 b.Light.Y,.int .i64 b.Light.Z]) 4 O (tq_25 a.Light b.Light) Q1b tf_eqg_25 O O O) O (JLh (BL ((r3&&r4)&&(decide (a.Light=b.Light)))) (Hx O O O O) O (Yy (BL ((r3&&r4)&&(decide (a.Light=b.Light)))) O (JLo (.dptr ((H4.cs a).drop 6)) [] O .sct G (fun hc=>Ga G4d O O O) O (JLo (E6 a.Rows) [25] O .sct ⟨Ua,G⟩ (fun hc=>Gg Ga5 O O O) O (JLo (.dptr ((H4.cs b).drop 6)) [] O .sct G (fun hc=>Ga G4d O O O) O (JLo (E6 b.Rows) [27] O .sct ⟨Ua,G⟩ (fun hc=>Gg Ga5 O O O) O ?_)))))))))))))
 obtain⟨r5,hr5,h⟩:=Ge h
 refine JLo (BL r5) [26,28] O .sct ⟨Ua,Ua,G⟩ (fun hc=>Gn (args:=[E6 a.Rows,E6 b.Rows]) O (H21 a.Rows b.Rows r5 (Gx hc hr5)) Q0e ⟨O,O,O,O,G⟩) O (JLh (BL (((r3&&r4)&&(decide (a.Light=b.Light)))&&r5)) (Hx O O O O) O (Yy (BL (((r3&&r4)&&(decide (a.Light=b.Light)))&&r5)) O (JLo (.dptr ((H4.cs a).drop 7)) [] O .sct G (fun hc=>Ga G4c O O O) O (JLo (E5 a.Frames) [32] O .sct ⟨Ua,G⟩ (fun hc=>Gg Ga4 O O O) O (JLo (.dptr ((H4.cs b).drop 7)) [] O .sct G (fun hc=>Ga G4c O O O) O (JLo (E5 b.Frames) [34] O .sct ⟨Ua,G⟩ (fun hc=>Gg Ga4 O O O) O ?_))))))
 obtain⟨r6,hr6,h⟩:=Ge h
 refine JLo (BL r6) [33,35] O .sct ⟨Ua,Ua,G⟩ (fun hc=>Gn (args:=[E5 a.Frames,E5 b.Frames]) O (Ged a.Frames b.Frames r6 (Gx hc hr6)) Q0d ⟨O,O,O,O,G⟩) O (JLh (BL ((((r3&&r4)&&(decide (a.Light=b.Light)))&&r5)&&r6)) (Hx O O O O) O (Yy (BL ((((r3&&r4)&&(decide (a.Light=b.Light)))&&r5)&&r6)) O (JLo (.dptr ((H4.cs a).drop 8)) [] O .sct G (fun hc=>Ga G4b O O O) O (JLo (E7 a.Tanks) [39] O .sct ⟨Ua,G⟩ (fun hc=>Gg Ga3 O O O) O (JLo (.dptr ((H4.cs b).drop 8)) [] O .sct G (fun hc=>Ga G4b O O O) O (JLo (E7 b.Tanks) [41] O .sct ⟨Ua,G⟩ (fun hc=>Gg Ga3 O O O) O ?_))))))
 obtain⟨r7,hr7,h⟩:=Ge h
 refine JLo (BL r7) [40,42] O .sct ⟨Ua,Ua,G⟩ (fun hc=>Gn (args:=[E7 a.Tanks,E7 b.Tanks]) O (H0f a.Tanks b.Tanks r7 (Gx hc hr7)) Q0c ⟨O,O,O,O,G⟩) O (JLh (BL (((((r3&&r4)&&(decide (a.Light=b.Light)))&&r5)&&r6)&&r7)) (Hx O O O O) O (Yy (BL (((((r3&&r4)&&(decide (a.Light=b.Light)))&&r5)&&r6)&&r7)) O (JLo (.dptr ((H4.cs a).drop 9)) [] O .sct G (fun hc=>Ga Hcb O O O) O (JLo (.agg ((H4.cs a).drop 9)) [46] O .sct ⟨Ua,G⟩ (fun hc=>Gi Jdd O O O) O (JLo (.dptr ((H4.cs b).drop 9)) [] O .sct G (fun hc=>Ga Hcb O O O) O (JLo (.agg ((H4.cs b).drop 9)) [48] O .sct ⟨Ua,G⟩ (fun hc=>Gi Jdd O O O) O (JLo (BL (decide (a.G2=b.G2))) [47,49] O .sct ⟨Ua,Ua,G⟩ (fun hc=>Gb1 (vs:=[.int .i64 a.G2.Tolerance,.int .i64 a.G2.Trim,.int .i64 a.G2.List_,.int .i64 a.G2.Stability]) (us:=[.int .i64 b.G2.Tolerance,.int .i64 b.G2.Trim,.int .i64 b.G2.List_,.int .i64 b.G2.Stability]) 4 O (tq_30 a.G2 b.G2) Q1a tf_eqg_30 O O O) O (JLh (BL ((((((r3&&r4)&&(decide (a.Light=b.Light)))&&r5)&&r6)&&r7)&&(decide (a.G2=b.G2)))) (Hx O O O O) O (Yy (BL ((((((r3&&r4)&&(decide (a.Light=b.Light)))&&r5)&&r6)&&r7)&&(decide (a.G2=b.G2)))) O (G7 (hK2 ?_)))))))))))
 refine Gr (fin1 BL h)

def J3 (out:Ln Int) (l:List Int):Option Bool:=
 bif decide ((out.1.length:Int)≠(l.length:Int)) then
 (some false)
 else
 (G1f ((l.length:Int)+12) fun v6=>
  bnd (G36 v6 (out.1++out.2).length) fun m7=>
  each (fun y29 i29 (s29:Unit) nx29=>
   bnd (bif decide ((i29:Int) < (l.length:Int)) then Qm l (i29:Int) some else some default) fun y34=>
   bnd (bif ((!((decide ((i29:Int) < (l.length:Int)))&&(!(decide (y29=y34)))))&&(decide ((l.length:Int)≤(i29:Int)))) then G1f ((i29:Int) - (l.length:Int)) some else some 0) fun v35=>
   bnd (bif ((!((decide ((i29:Int) < (l.length:Int)))&&(!(decide (y29=y34)))))&&(decide ((l.length:Int)≤(i29:Int)))) then Jf 1 v35 else some default) fun r36=>
   bif (((decide ((i29:Int) < (l.length:Int)))&&(!(decide (y29=y34))))||((decide ((l.length:Int)≤(i29:Int)))&&(!(decide (y29=r36))))) then
   (some false)
   else
   (nx29 ()))
  (fun(s29:Unit)=>
   some true) ((out.1++out.2).take m7) 0 ())
theorem Zj (out:Ln Int) (l:List Int) (r:Bool) (h:J3 out l=some r):Pure Eh 25 [LT 1 G0 out,E0 l] (·=BL r):=by
 unfold J3 at h
 refine Gy [.tmp 4] Tryz.func25 O O (Jr fun hK1=>(Yy (BL false) O (G7 (hK1 (Js fun hK2=>Jr fun hK3=>(Yy (LT 1 G0 out) O (JLl Gu O O O fun hm8=>(Yy (E0 l) O (JLl Gu O O O fun hm10=>(JLh (BL (decide ((out.1.length:Int)≠(l.length:Int)))) (G3d O O O) O (G7 (hK3 (JCc O h (fun h hb=>?_) (fun h hb=>?_))))))))))))))
 ·
  refine Jr fun hK4=>(Yy (BL false) O (G7 (hK4 (Gr (fin1 BL h)))))
 ·
  refine Gp (hK2 (Jr fun hK5=>(Yy (LT 1 G0 out) O (Yy (E0 l) O (JLl Gu O O O fun hm14=>?_)))))
  obtain⟨v6,hv6,h⟩:=Qq h
  refine JLh (G0 v6) (Hs hv6 O O O) O ?_
  obtain⟨m7,hm7,h⟩:=Ge h
  refine JLh (E0 ((out.1++out.2).take m7)) (H38 (f:=G0) (e:=out) O O O Gu (Yo hm7)) O (Yy (E0 ((out.1++out.2).take m7)) O (G7 (hK5 (Js fun hK8=>Jr fun hK9=>(Yy (G0 0) O (G7 (hK9 (Gs ?_))))))))
  obtain⟨b29,kx29,hb29,hkx29,h⟩:=J5 h
  refine Hc (fun i29 (s29:Unit)=>each b29 kx29 (List.drop i29 ((out.1++out.2).take m7)) i29 s29=some r) (fun i29 s29=>[(1,E0 l),(5,E0 ((out.1++out.2).take m7)),(6,Eg i29)]) (fun i29 s29=>[]) (fun i29=>((out.1++out.2).take m7).length - i29) 0 () h ⟨⟨.same O,.same O,.same O,G⟩,G,O⟩ ?_
  clear h
  intro i29 s29 hi29 K29 e29
  refine Js fun hK30=>Jr fun hK31=>(Yy (Eg i29) O (Yy (E0 ((out.1++out.2).take m7)) O (JLl Gu O O O fun hm19=>(JLh (BL (decide ((i29:Int) < (((out.1++out.2).take m7).length:Int)))) (J4 O O O) O (G7 (hK31 (Gk O (fun hb=>?_) (fun hb=>?_))))))))
  ·
   have hk29:=Jj hb
   obtain⟨y29,nx29,hy29,hn29,h⟩:=Hq hi29 hk29
   replace h:=Z1 hb29 h
   refine Gp (hK30 (Js fun hK32=>Gs (Js fun hK33=>?_)))
   obtain⟨y34,hy34,h⟩:=Ge h
   obtain⟨v35,hv35,h⟩:=Ge h
   obtain⟨r36,hr36,h⟩:=Ge h
   refine JC_d0 J8 (by kernel_rfl) (Dq (Eg i29) (G5 O O) O (Dq (E0 l) (G5 O O) O (Dq (Eg l.length) (Qi (f:=G0) (xs:=l) Gu O O) O (Dq (BL (decide ((i29:Int) < (l.length:Int)))) (J4 O O O) O (Dq (BL (decide ((i29:Int) < (l.length:Int)))) (G5 O O) O (Do (E0 ((out.1++out.2).take m7)) [] O .sct G (fun hc=>G5 O O) O (Do (Eg i29) [] O .sct G (fun hc=>G5 O O) O (Do (.dptr [G0 y29]) [28,29] O .sct ⟨Ua,Ua,G⟩ (fun hc=>Gv (f:=G0) (xs:=((out.1++out.2).take m7)) (y:=y29) O O O Gu hy29 O) O (Do (G0 y29) [30] O .sct ⟨Ua,G⟩ (fun hc=>Gg Gd O O O) O (Do (E0 l) [] O .sct G (fun hc=>G5 O O) O (Do (Eg i29) [] O .sct G (fun hc=>G5 O O) O (Do (.dptr [G0 y34]) [32,33] O .sct ⟨Ua,Ua,G⟩ (fun hc=>(match Q3 (Gx hc hy34) with | ⟨_,hm_,hy_⟩=>Gv (f:=G0) (xs:=l) (y:=y34) O O O Gu hy_ hm_)) O (Do (G0 y34) [34] O .sct ⟨Ua,G⟩ (fun hc=>Gg Gd O O O) O ?_)))))))))))))
   refine Do (BL (decide (y29=y34))) [31,35] O .sct ⟨Ua,Ua,G⟩ (fun hc=>Jt O O O) O (Do (BL (!(decide (y29=y34)))) [36] O .sct ⟨Ua,G⟩ (fun hc=>R5 (b:=decide (y29=y34)) O O) O (Dq (BL ((decide ((i29:Int) < (l.length:Int)))&&(!(decide (y29=y34))))) (Hx O O O O) O (Dq (BL ((decide ((i29:Int) < (l.length:Int)))&&(!(decide (y29=y34))))) (G5 O O) O (Do (Eg i29) [] O .scf G (fun hc=>G5 O O) O (Do (E0 l) [] O .scf G (fun hc=>G5 O O) O (Do (Eg l.length) [41] O .scf ⟨Ua,G⟩ (fun hc=>Qi (f:=G0) (xs:=l) Gu O O) O (Do (BL (decide ((l.length:Int)≤(i29:Int)))) [40,42] O .scf ⟨Ua,Ua,G⟩ (fun hc=>G17 O O O) O (Do (BL (decide ((l.length:Int)≤(i29:Int)))) [43] O .scf ⟨Ua,G⟩ (fun hc=>G5 O O) O (Do (E0 ((out.1++out.2).take m7)) [] O .optt G (fun hc=>G5 O O) O (Do (Eg i29) [] O .optt G (fun hc=>G5 O O) O (Do (.dptr [G0 y29]) [45,46] O .optt ⟨Ua,Ua,G⟩ (fun hc=>Gv (f:=G0) (xs:=((out.1++out.2).take m7)) (y:=y29) O O O Gu hy29 O) O (Do (G0 y29) [47] O .optt ⟨Ua,G⟩ (fun hc=>Gg Gd O O O) O (Do (Eg i29) [] O .optt G (fun hc=>G5 O O) O ?_)))))))))))))
   refine Do (E0 l) [] O .optt G (fun hc=>G5 O O) O (Do (Eg l.length) [50] O .optt ⟨Ua,G⟩ (fun hc=>Qi (f:=G0) (xs:=l) Gu O O) O (Do (G0 v35) [49,51] O .optt ⟨Ua,Ua,G⟩ (fun hc=>Gaf (Z7 (Gx hc hv35)) O O O) O (Do (G0 r36) [52] O .optt ⟨Ua,G⟩ (fun hc=>Gn (args:=[G0 1,G0 v35]) O (Qb 1 v35 r36 (Gx hc hr36)) G3f ⟨O,O,O,O,G⟩) O (Do (BL (decide (y29=r36))) [48,53] O .optt ⟨Ua,Ua,G⟩ (fun hc=>Jt O O O) O (Do (BL (!(decide (y29=r36)))) [54] O .optt ⟨Ua,G⟩ (fun hc=>R5 (b:=decide (y29=r36)) O O) O (Dg (.opt (!((decide ((i29:Int) < (l.length:Int)))&&(!(decide (y29=y34))))) (BL ((decide ((l.length:Int)≤(i29:Int)))&&(!(decide (y29=r36)))))) (Gf [(44,BL (decide ((l.length:Int)≤(i29:Int)))),(55,_)] O O O .scf ⟨.all id,.part,G⟩ (fun hc=>Hx O O O O) O) O (Dq (BL (((decide ((i29:Int) < (l.length:Int)))&&(!(decide (y29=y34))))||((decide ((l.length:Int)≤(i29:Int)))&&(!(decide (y29=r36)))))) (Yi O O O O) O (Dnil ?_))))))))
   refine hK33 (JCc O h (fun h hb=>?_) (fun h hb=>?_))
   ·
    refine Jr fun hK37=>(Yy (BL false) O (G7 (hK37 (Gr (fin1 BL h)))))
   ·
    refine Gp (hK32 (G3 (Yy (Eg i29) O (JLh (G0 ((i29+1:Nat):Int)) (Hs (He hk29 hm19) O O O) O (Yy (G0 ((i29+1:Nat):Int)) O (G7 (e29 _ _ (i29+1) () (app1 hn29 h) (by omega) ⟨⟨.same rfl,.same rfl,.same rfl,G⟩,G,rfl⟩)))))))
  ·
   have h:=app1 hkx29 (Hr hi29 (Ha hb))
   refine Hi (hK8 (Jr fun hK38=>(Yy (BL true) O (G7 (hK38 (Gr (fin1 BL h)))))))

def R2 (x:Gw) (y:G4):Option Bool:=
 bnd (Jg (G4.mk x.Bay x.Row x.Deck x.Tiers x.Height x.Kilos20 x.Kilos40 x.Lash x.Plugs.1 x.X x.Y x.Z) y) fun r3=>
 bnd (bif r3 then J3 x.Plugs y.Plugs else some default) fun r4=>
 some (r3&&r4)
theorem Gf4 (x:Gw) (y:G4) (r:Bool) (h:R2 x y=some r):Pure Eh 125 [.agg (Gw.cs x),.agg (G4.cs y)] (·=BL r):=by
 unfold R2 at h
 refine Gy [.tmp 4] Tryz.func125 O O (Jr fun hK1=>(JLh (.ptr 1125 0) (Ji (cs:=(Gw.cs x)) 1125 O O O O O) O (JLh (.ptr 1126 0) (Ji (cs:=(G4.cs y)) 1126 O O O O O) O (Yy (BL false) O (G7 (hK1 (Gz [(2,.dptr (Gw.cs x)),(3,.ptr 1126 0)] [(1126,.box 78 (G4.cs y))] 1125 rfl rfl rfl ⟨⟨_,rfl,.boxEq rfl rfl⟩,G⟩ rfl (by exact⟨.ptr,.conv (.same rfl),G⟩) ?_)))))))
 refine Gz [(2,.dptr (Gw.cs x)),(3,Ec y)] [] 1126 rfl rfl rfl G rfl (by exact⟨.conv (.same rfl),.ptr,G⟩) (Jr fun hK2=>(JLh (.agg [G0 x.Bay,G0 x.Row,BL x.Deck,G0 x.Tiers,G0 x.Height,G0 x.Kilos20,G0 x.Kilos40,G0 x.Lash,E0 x.Plugs.1,G0 x.X,G0 x.Y,G0 x.Z]) (H1.cv (Cv.aggL (cs:=(Gw.cs x)) ⟨.same,.same,.same,.same,.same,.same,.same,.same,Cv.lst0 x.Plugs,.same,.same,.same,G⟩) (Gi Rf O O O)) O (JLh (.agg (G4.cs y)) (Gi Rf O O O) O ?_)))
 obtain⟨r3,hr3,h⟩:=Ge h
 refine JLh (BL r3) (Gn O (G11 (G4.mk x.Bay x.Row x.Deck x.Tiers x.Height x.Kilos20 x.Kilos40 x.Lash x.Plugs.1 x.X x.Y x.Z) y r3 hr3) H90 ⟨O,O,O,O,G⟩) O (Yy (BL r3) O (JLo (.dptr ((Gw.cs x).drop 8)) [] O .sct G (fun hc=>Ga Qw O O O) O (JLo (LT 1 G0 x.Plugs) [9] O .sct ⟨Ua,G⟩ (fun hc=>Gg Ho O O O) O (JLo (.dptr ((G4.cs y).drop 8)) [] O .sct G (fun hc=>Ga Qw O O O) O (JLo (E0 y.Plugs) [11] O .sct ⟨Ua,G⟩ (fun hc=>Gg Ho O O O) O ?_)))))
 obtain⟨r4,hr4,h⟩:=Ge h
 refine JLo (BL r4) [10,12] O .sct ⟨Ua,Ua,G⟩ (fun hc=>Gn (args:=[LT 1 G0 x.Plugs,E0 y.Plugs]) O (Zj x.Plugs y.Plugs r4 (Gx hc hr4)) H63 ⟨O,O,O,O,G⟩) O (JLh (BL (r3&&r4)) (Hx O O O O) O (Yy (BL (r3&&r4)) O (G7 (hK2 (Gr (fin1 BL h))))))

def Qv (out:Ln Gw) (l:List G4):Option Bool:=
 bif decide ((out.1.length:Int)≠(l.length:Int)) then
 (some false)
 else
 (G1f ((l.length:Int)+12) fun v6=>
  bnd (G36 v6 (out.1++out.2).length) fun m7=>
  each (fun y33 i33 (s33:Unit) nx33=>
   bnd (bif decide ((i33:Int) < (l.length:Int)) then Qm l (i33:Int) some else some default) fun y38=>
   bnd (bif decide ((i33:Int) < (l.length:Int)) then R2 y33 y38 else some default) fun r39=>
   bnd (bif ((!((decide ((i33:Int) < (l.length:Int)))&&(!r39)))&&(decide ((l.length:Int)≤(i33:Int)))) then G1f ((i33:Int) - (l.length:Int)) some else some 0) fun v40=>
   bnd (bif ((!((decide ((i33:Int) < (l.length:Int)))&&(!r39)))&&(decide ((l.length:Int)≤(i33:Int)))) then Qh 1 v40 else some default) fun r41=>
   bnd (bif ((!((decide ((i33:Int) < (l.length:Int)))&&(!r39)))&&(decide ((l.length:Int)≤(i33:Int)))) then Jg (G4.mk y33.Bay y33.Row y33.Deck y33.Tiers y33.Height y33.Kilos20 y33.Kilos40 y33.Lash y33.Plugs.1 y33.X y33.Y y33.Z) r41 else some default) fun r42=>
   bif (((decide ((i33:Int) < (l.length:Int)))&&(!r39))||((decide ((l.length:Int)≤(i33:Int)))&&(!r42))) then
   (some false)
   else
   (nx33 ()))
  (fun(s33:Unit)=>
   some true) ((out.1++out.2).take m7) 0 ())
theorem Ge4 (out:Ln Gw) (l:List G4) (r:Bool) (h:Qv out l=some r):Pure Eh 76 [LT 12 Gw.av out,E4 l] (·=BL r):=by
 unfold Qv at h
 refine Gy [.tmp 4] Tryz.func76 O O (Jr fun hK1=>(Yy (BL false) O (G7 (hK1 (Js fun hK2=>Jr fun hK3=>(Yy (LT 12 Gw.av out) O (JLl H5 O O O fun hm8=>(Yy (E4 l) O (JLl H5 O O O fun hm10=>(JLh (BL (decide ((out.1.length:Int)≠(l.length:Int)))) (G3d O O O) O (G7 (hK3 (JCc O h (fun h hb=>?_) (fun h hb=>?_))))))))))))))
 ·
  refine Jr fun hK4=>(Yy (BL false) O (G7 (hK4 (Gr (fin1 BL h)))))
 ·
  refine Gp (hK2 (Jr fun hK5=>(Yy (LT 12 Gw.av out) O (Yy (E4 l) O (JLl H5 O O O fun hm14=>?_)))))
  obtain⟨v6,hv6,h⟩:=Qq h
  refine JLh (G0 v6) (Hs hv6 O O O) O ?_
  obtain⟨m7,hm7,h⟩:=Ge h
  refine JLh (LS 12 Gw.av ((out.1++out.2).take m7)) (H38 (f:=Gw.av) (e:=out) O O O H5 (Yo hm7)) O (Yy (LS 12 Gw.av ((out.1++out.2).take m7)) O (G7 (hK5 (Js fun hK8=>Jr fun hK9=>(Yy (G0 0) O (G7 (hK9 (Gs ?_))))))))
  obtain⟨b33,kx33,hb33,hkx33,h⟩:=J5 h
  refine Hc (fun i33 (s33:Unit)=>each b33 kx33 (List.drop i33 ((out.1++out.2).take m7)) i33 s33=some r) (fun i33 s33=>[(1,E4 l),(5,LS 12 Gw.av ((out.1++out.2).take m7)),(6,Eg i33)]) (fun i33 s33=>[]) (fun i33=>((out.1++out.2).take m7).length - i33) 0 () h ⟨⟨.same O,.same O,.same O,G⟩,G,O⟩ ?_
  clear h
  intro i33 s33 hi33 K33 e33
  refine Js fun hK34=>Jr fun hK35=>(Yy (Eg i33) O (Yy (LS 12 Gw.av ((out.1++out.2).take m7)) O (JLl H5 O O O fun hm19=>(JLh (BL (decide ((i33:Int) < (((out.1++out.2).take m7).length:Int)))) (J4 O O O) O (G7 (hK35 (Gk O (fun hb=>?_) (fun hb=>?_))))))))
  ·
   have hk33:=Jj hb
   obtain⟨y33,nx33,hy33,hn33,h⟩:=Hq hi33 hk33
   replace h:=Z1 hb33 h
   refine Gp (hK34 (Js fun hK36=>Gs (Js fun hK37=>?_)))
   obtain⟨y38,hy38,h⟩:=Ge h
   obtain⟨r39,hr39,h⟩:=Ge h
   obtain⟨v40,hv40,h⟩:=Ge h
   obtain⟨r41,hr41,h⟩:=Ge h
   obtain⟨r42,hr42,h⟩:=Ge h
   refine JC_d0 J8 (by kernel_rfl) (Dq (Eg i33) (G5 O O) O (Dq (E4 l) (G5 O O) O (Dq (Eg l.length) (Qi (f:=G4.av) (xs:=l) H5 O O) O (Dq (BL (decide ((i33:Int) < (l.length:Int)))) (J4 O O O) O (Dq (BL (decide ((i33:Int) < (l.length:Int)))) (G5 O O) O (Do (LS 12 Gw.av ((out.1++out.2).take m7)) [] O .sct G (fun hc=>G5 O O) O (Do (Eg i33) [] O .sct G (fun hc=>G5 O O) O (Do (.dptr (Gw.cs y33)) [28,29] O .sct ⟨Ua,Ua,G⟩ (fun hc=>Gv (f:=Gw.av) (xs:=((out.1++out.2).take m7)) (y:=y33) O O O H5 hy33 O) O (Do (.agg (Gw.cs y33)) [30] O .sct ⟨Ua,G⟩ (fun hc=>Gi Rf O O O) O (Do (E4 l) [] O .sct G (fun hc=>G5 O O) O (Do (Eg i33) [] O .sct G (fun hc=>G5 O O) O (Do (Ec y38) [32,33] O .sct ⟨Ua,Ua,G⟩ (fun hc=>(match Q3 (Gx hc hy38) with | ⟨_,hm_,hy_⟩=>Gv (f:=G4.av) (xs:=l) (y:=y38) O O O H5 hy_ hm_)) O (Do (.agg (G4.cs y38)) [34] O .sct ⟨Ua,G⟩ (fun hc=>Gi Rf O O O) O ?_)))))))))))))
   refine Do (BL r39) [31,35] O .sct ⟨Ua,Ua,G⟩ (fun hc=>Gn (args:=[.agg (Gw.cs y33),.agg (G4.cs y38)]) O (Gf4 y33 y38 r39 (Gx hc hr39)) Q0b ⟨O,O,O,O,G⟩) O (Do (BL (!r39)) [36] O .sct ⟨Ua,G⟩ (fun hc=>R5 (b:=r39) O O) O (Dq (BL ((decide ((i33:Int) < (l.length:Int)))&&(!r39))) (Hx O O O O) O (Dq (BL ((decide ((i33:Int) < (l.length:Int)))&&(!r39))) (G5 O O) O (Do (Eg i33) [] O .scf G (fun hc=>G5 O O) O (Do (E4 l) [] O .scf G (fun hc=>G5 O O) O (Do (Eg l.length) [41] O .scf ⟨Ua,G⟩ (fun hc=>Qi (f:=G4.av) (xs:=l) H5 O O) O (Do (BL (decide ((l.length:Int)≤(i33:Int)))) [40,42] O .scf ⟨Ua,Ua,G⟩ (fun hc=>G17 O O O) O (Do (BL (decide ((l.length:Int)≤(i33:Int)))) [43] O .scf ⟨Ua,G⟩ (fun hc=>G5 O O) O (Do (LS 12 Gw.av ((out.1++out.2).take m7)) [] O .optt G (fun hc=>G5 O O) O (Do (Eg i33) [] O .optt G (fun hc=>G5 O O) O (Do (.dptr (Gw.cs y33)) [45,46] O .optt ⟨Ua,Ua,G⟩ (fun hc=>Gv (f:=Gw.av) (xs:=((out.1++out.2).take m7)) (y:=y33) O O O H5 hy33 O) O (Do (.agg [G0 y33.Bay,G0 y33.Row,BL y33.Deck,G0 y33.Tiers,G0 y33.Height,G0 y33.Kilos20,G0 y33.Kilos40,G0 y33.Lash,E0 y33.Plugs.1,G0 y33.X,G0 y33.Y,G0 y33.Z]) [47] O .optt ⟨Ua,G⟩ (fun hc=>H1.cv (Cv.aggL (cs:=(Gw.cs y33)) ⟨.same,.same,.same,.same,.same,.same,.same,.same,Cv.lst0 y33.Plugs,.same,.same,.same,G⟩) (Gi Rf O O O)) O (Do (Eg i33) [] O .optt G (fun hc=>G5 O O) O ?_)))))))))))))
   refine Do (E4 l) [] O .optt G (fun hc=>G5 O O) O (Do (Eg l.length) [50] O .optt ⟨Ua,G⟩ (fun hc=>Qi (f:=G4.av) (xs:=l) H5 O O) O (Do (G0 v40) [49,51] O .optt ⟨Ua,Ua,G⟩ (fun hc=>Gaf (Z7 (Gx hc hv40)) O O O) O (Do (.agg (G4.cs r41)) [52] O .optt ⟨Ua,G⟩ (fun hc=>Gn (args:=[G0 1,G0 v40]) O (G55 1 v40 r41 (Gx hc hr41)) J8b ⟨O,O,O,O,G⟩) O (Do (BL r42) [48,53] O .optt ⟨Ua,Ua,G⟩ (fun hc=>Gn (args:=[.agg [G0 y33.Bay,G0 y33.Row,BL y33.Deck,G0 y33.Tiers,G0 y33.Height,G0 y33.Kilos20,G0 y33.Kilos40,G0 y33.Lash,E0 y33.Plugs.1,G0 y33.X,G0 y33.Y,G0 y33.Z],.agg (G4.cs r41)]) O (G11 (G4.mk y33.Bay y33.Row y33.Deck y33.Tiers y33.Height y33.Kilos20 y33.Kilos40 y33.Lash y33.Plugs.1 y33.X y33.Y y33.Z) r41 r42 (Gx hc hr42)) H90 ⟨O,O,O,O,G⟩) O (Do (BL (!r42)) [54] O .optt ⟨Ua,G⟩ (fun hc=>R5 (b:=r42) O O) O (Dg (.opt (!((decide ((i33:Int) < (l.length:Int)))&&(!r39))) (BL ((decide ((l.length:Int)≤(i33:Int)))&&(!r42)))) (Gf [(44,BL (decide ((l.length:Int)≤(i33:Int)))),(55,_)] O O O .scf ⟨.all id,.part,G⟩ (fun hc=>Hx O O O O) O) O (Dq (BL (((decide ((i33:Int) < (l.length:Int)))&&(!r39))||((decide ((l.length:Int)≤(i33:Int)))&&(!r42)))) (Yi O O O O) O (Dnil ?_))))))))
   refine hK37 (JCc O h (fun h hb=>?_) (fun h hb=>?_))
   ·
    refine Jr fun hK43=>(Yy (BL false) O (G7 (hK43 (Gr (fin1 BL h)))))
   ·
    refine Gp (hK36 (G3 (Yy (Eg i33) O (JLh (G0 ((i33+1:Nat):Int)) (Hs (He hk33 hm19) O O O) O (Yy (G0 ((i33+1:Nat):Int)) O (G7 (e33 _ _ (i33+1) () (app1 hn33 h) (by omega) ⟨⟨.same rfl,.same rfl,.same rfl,G⟩,G,rfl⟩)))))))
  ·
   have h:=app1 hkx33 (Hr hi33 (Ha hb))
   refine Hi (hK8 (Jr fun hK44=>(Yy (BL true) O (G7 (hK44 (Gr (fin1 BL h)))))))

def R8 (x:H7) (y:Gc):Option Bool:=
 bnd (Jp (Gc.mk x.Bay x.Rows.1) y) fun r3=>
 bnd (bif r3 then J3 x.Rows y.Rows else some default) fun r4=>
 some (r3&&r4)
theorem H14 (x:H7) (y:Gc) (r:Bool) (h:R8 x y=some r):Pure Eh 127 [.agg [G0 x.Bay,LT 1 G0 x.Rows],.agg [G0 y.Bay,E0 y.Rows]] (·=BL r):=by
 unfold R8 at h
 refine Gy [.tmp 4] Tryz.func127 O O (Jr fun hK1=>(JLh (.ptr 1129 0) (Ji (cs:=[G0 x.Bay,LT 1 G0 x.Rows]) 1129 O O O O O) O (JLh (.ptr 1130 0) (Ji (cs:=[G0 y.Bay,E0 y.Rows]) 1130 O O O O O) O (Yy (BL false) O (G7 (hK1 (Gz [(2,.dptr [G0 x.Bay,LT 1 G0 x.Rows]),(3,.ptr 1130 0)] [(1130,.box 80 [G0 y.Bay,E0 y.Rows])] 1129 rfl rfl rfl ⟨⟨_,rfl,.boxEq rfl rfl⟩,G⟩ rfl (by exact⟨.ptr,.conv (.same rfl),G⟩) (Gz [(2,.dptr [G0 x.Bay,LT 1 G0 x.Rows]),(3,.dptr [G0 y.Bay,E0 y.Rows])] [] 1130 rfl rfl rfl G rfl (by exact⟨.conv (.same rfl),.ptr,G⟩) ?_))))))))
 refine Jr fun hK2=>(JLh (.agg [G0 x.Bay,E0 x.Rows.1]) (H1.cv (Cv.aggL (cs:=[G0 x.Bay,LT 1 G0 x.Rows]) ⟨.same,Cv.lst0 x.Rows,G⟩) (Gi Rs O O O)) O (JLh (.agg [G0 y.Bay,E0 y.Rows]) (Gi Rs O O O) O ?_))
 obtain⟨r3,hr3,h⟩:=Ge h
 refine JLh (BL r3) (Gn O (G1b (Gc.mk x.Bay x.Rows.1) y r3 hr3) H8f ⟨O,O,O,O,G⟩) O (Yy (BL r3) O (JLo (.dptr [LT 1 G0 x.Rows]) [] O .sct G (fun hc=>Ga Jy O O O) O (JLo (LT 1 G0 x.Rows) [9] O .sct ⟨Ua,G⟩ (fun hc=>Gg Ho O O O) O (JLo (.dptr [E0 y.Rows]) [] O .sct G (fun hc=>Ga Jy O O O) O (JLo (E0 y.Rows) [11] O .sct ⟨Ua,G⟩ (fun hc=>Gg Ho O O O) O ?_)))))
 obtain⟨r4,hr4,h⟩:=Ge h
 refine JLo (BL r4) [10,12] O .sct ⟨Ua,Ua,G⟩ (fun hc=>Gn (args:=[LT 1 G0 x.Rows,E0 y.Rows]) O (Zj x.Rows y.Rows r4 (Gx hc hr4)) H63 ⟨O,O,O,O,G⟩) O (JLh (BL (r3&&r4)) (Hx O O O O) O (Yy (BL (r3&&r4)) O (G7 (hK2 (Gr (fin1 BL h))))))
end
end Go.Proofs.YtjkmmenifdklmaaGreat
