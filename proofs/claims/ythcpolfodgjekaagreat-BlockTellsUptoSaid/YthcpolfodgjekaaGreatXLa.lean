/-
 Models of functions of the program,and that they return what the models say.
-/
import Derived.Test.YthcpolfodgjekaaGreatIterJ
import Derived.Test.YthcpolfodgjekaaGreatIterJ
import Derived.Test.YthcpolfodgjekaaGreatIterJ
set_option maxRecDepth 100000
set_option maxHeartbeats 1000000
set_option linter.unusedVariables false
set_option linter.unusedSimpArgs false
namespace Go.Proofs.YthcpolfodgjekaaGreat
open Go.RowKit
noncomputable section
structure Gz where
 Bay:Int
 Row:Int
 Deck:Bool
 Tiers:Int
 Height:Int
 Kilos20:Int
 Kilos40:Int
 Lash:Int
 Plugs:Ln Int
 X:Int
 Y:Int
 Z:Int
 deriving Inhabited
def Gz.cs (x:Gz):List AV:=[G0 x.Bay,G0 x.Row,BL x.Deck,G0 x.Tiers,G0 x.Height,G0 x.Kilos20,G0 x.Kilos40,G0 x.Lash,LT 1 G0 x.Plugs,G0 x.X,G0 x.Y,G0 x.Z]
def Gz.av (x:Gz):AV:=.agg x.cs
def Gz.pl (x:Gz):G4:=⟨x.Bay,x.Row,x.Deck,x.Tiers,x.Height,x.Kilos20,x.Kilos40,x.Lash,Prod.fst x.Plugs,x.X,x.Y,x.Z⟩
def Gz.of (x:G4):Gz:=⟨x.Bay,x.Row,x.Deck,x.Tiers,x.Height,x.Kilos20,x.Kilos40,x.Lash,(fun e=>(e,[])) x.Plugs,x.X,x.Y,x.Z⟩
theorem Gz.cvl (x:Gz):J5d (Gz.cs x) (G4.cs x.pl):=⟨.same,.same,.same,.same,.same,.same,.same,.same,Cv.lst0 x.Plugs,.same,.same,.same,trivial⟩
structure H8 where
 Bay:Int
 Rows:Ln Int
 deriving Inhabited
def H8.cs (x:H8):List AV:=[G0 x.Bay,LT 1 G0 x.Rows]
def H8.av (x:H8):AV:=.agg x.cs
def H8.pl (x:H8):G9:=⟨x.Bay,Prod.fst x.Rows⟩
def H8.of (x:G9):H8:=⟨x.Bay,(fun e=>(e,[])) x.Rows⟩
theorem H8.cvl (x:H8):J5d (H8.cs x) (G9.cs x.pl):=⟨.same,Cv.lst0 x.Rows,trivial⟩
structure Hg where
 Kilos:Int
 X:Int
 Y:Int
 Z:Int
 Surface:Int
 Steps:Ln Int
 deriving Inhabited
def Hg.cs (x:Hg):List AV:=[G0 x.Kilos,G0 x.X,G0 x.Y,G0 x.Z,G0 x.Surface,LT 1 G0 x.Steps]
def Hg.av (x:Hg):AV:=.agg x.cs
def Hg.pl (x:Hg):Gh:=⟨x.Kilos,x.X,x.Y,x.Z,x.Surface,Prod.fst x.Steps⟩
def Hg.of (x:Gh):Hg:=⟨x.Kilos,x.X,x.Y,x.Z,x.Surface,(fun e=>(e,[])) x.Steps⟩
theorem Hg.cvl (x:Hg):J5d (Hg.cs x) (Gh.cs x.pl):=⟨.same,.same,.same,.same,.same,Cv.lst0 x.Steps,trivial⟩
structure Yd where
 Columns:Ln Gz
 Covers:Ln H8
 Light:Light
 Rows:Ln Row
 Frames:Ln Frame
 Tanks:Ln Hg
 G2:G2
 deriving Inhabited
def Yd.cs (x:Yd):List AV:=[LT 12 Gz.av x.Columns,LT 2 H8.av x.Covers,G0 x.Light.Kilos,G0 x.Light.X,G0 x.Light.Y,G0 x.Light.Z,LT 5 Row.av x.Rows,LT 5 Frame.av x.Frames,LT 6 Hg.av x.Tanks,G0 x.G2.Tolerance,G0 x.G2.Trim,G0 x.G2.List_,G0 x.G2.Stability]
def Yd.av (x:Yd):AV:=.agg x.cs
def Yd.pl (x:Yd):H2:=⟨(fun e=>e.1.map Gz.pl) x.Columns,(fun e=>e.1.map H8.pl) x.Covers,x.Light,Prod.fst x.Rows,Prod.fst x.Frames,(fun e=>e.1.map Hg.pl) x.Tanks,x.G2⟩
def Yd.of (x:H2):Yd:=⟨(fun e=>(e.map Gz.of,[])) x.Columns,(fun e=>(e.map H8.of,[])) x.Covers,x.Light,(fun e=>(e,[])) x.Rows,(fun e=>(e,[])) x.Frames,(fun e=>(e.map Hg.of,[])) x.Tanks,x.G2⟩
theorem Yd.cvl (x:Yd):J5d (Yd.cs x) (H2.cs x.pl):=⟨Cv.lstM (f:=Gz.av) (g:=G4.av) Gz.pl Gz.cvl x.Columns,Cv.lstM (f:=H8.av) (g:=G9.av) H8.pl H8.cvl x.Covers,.same,.same,.same,.same,Cv.lst0 x.Rows,Cv.lst0 x.Frames,Cv.lstM (f:=Hg.av) (g:=Gh.av) Hg.pl Hg.cvl x.Tanks,.same,.same,.same,.same,trivial⟩
structure Gg where
 ID:Int
 Number:ByteArray
 Size:Int
 High:Bool
 Kilos:Int
 Load:Int
 Discharge:Int
 Class:Int
 Reefer:Bool
 deriving DecidableEq,Inhabited
def Gg.cs (x:Gg):List AV:=[G0 x.ID,ST x.Number,U8 x.Size,BL x.High,G0 x.Kilos,G0 x.Load,G0 x.Discharge,U8 x.Class,BL x.Reefer]
def Gg.av (x:Gg):AV:=.agg x.cs
abbrev Ee (x:Gg):AV:=.dptr (Gg.cs x)
abbrev E3:=LS 9 Gg.av
structure Stowed where
 Gg:Int
 Slot:Slot
 deriving DecidableEq,Inhabited
def Stowed.cs (x:Stowed):List AV:=[G0 x.Gg,G0 x.Slot.G4,G0 x.Slot.Tier,U8 x.Slot.Half]
def Stowed.av (x:Stowed):AV:=.agg x.cs
abbrev Ec (x:Stowed):AV:=.dptr (Stowed.cs x)
abbrev E2:=LS 4 Stowed.av
namespace XLF
open XAF
theorem tq_108 (a b:Row):H73 Ej 4 108 [.int .i64 a.Draught,.int .i64 a.Kilos,.int .i64 a.Buoy,.int .i64 a.Metacentre,.int .i64 a.Hd8] [.int .i64 b.Draught,.int .i64 b.Kilos,.int .i64 b.Buoy,.int .i64 b.Metacentre,.int .i64 b.Hd8]=some (decide (a=b)):=by
 refine(show _=some ((a.Draught==b.Draught)&&((a.Kilos==b.Kilos)&&((a.Buoy==b.Buoy)&&((a.Metacentre==b.Metacentre)&&((a.Hd8==b.Hd8)&&true))))) by kernel_rfl).trans (congrArg some ?_)
 rw [Bool.eq_iff_iff]
 simp only [Bool.and_eq_true,beq_iff_eq,decide_eq_true_eq,Bool.and_true]
 constructor
 ·intro h; obtain⟨_,_,_,_,_⟩:=a; obtain⟨_,_,_,_,_⟩:=b; simp_all
 ·intro h; subst h; simp
theorem tq_111 (a b:Frame):H73 Ej 4 111 [.int .i64 a.X,.int .i64 a.Light,.int .i64 a.Share,.int .i64 a.Shear,.int .i64 a.Bend] [.int .i64 b.X,.int .i64 b.Light,.int .i64 b.Share,.int .i64 b.Shear,.int .i64 b.Bend]=some (decide (a=b)):=by
 refine(show _=some ((a.X==b.X)&&((a.Light==b.Light)&&((a.Share==b.Share)&&((a.Shear==b.Shear)&&((a.Bend==b.Bend)&&true))))) by kernel_rfl).trans (congrArg some ?_)
 rw [Bool.eq_iff_iff]
 simp only [Bool.and_eq_true,beq_iff_eq,decide_eq_true_eq,Bool.and_true]
 constructor
 ·intro h; obtain⟨_,_,_,_,_⟩:=a; obtain⟨_,_,_,_,_⟩:=b; simp_all
 ·intro h; subst h; simp
theorem tq_25 (a b:Light):H73 Ej 4 25 [.int .i64 a.Kilos,.int .i64 a.X,.int .i64 a.Y,.int .i64 a.Z] [.int .i64 b.Kilos,.int .i64 b.X,.int .i64 b.Y,.int .i64 b.Z]=some (decide (a=b)):=by
 refine(show _=some ((a.Kilos==b.Kilos)&&((a.X==b.X)&&((a.Y==b.Y)&&((a.Z==b.Z)&&true)))) by kernel_rfl).trans (congrArg some ?_)
 rw [Bool.eq_iff_iff]
 simp only [Bool.and_eq_true,beq_iff_eq,decide_eq_true_eq,Bool.and_true]
 constructor
 ·intro h; obtain⟨_,_,_,_⟩:=a; obtain⟨_,_,_,_⟩:=b; simp_all
 ·intro h; subst h; simp
theorem tq_30 (a b:G2):H73 Ej 4 30 [.int .i64 a.Tolerance,.int .i64 a.Trim,.int .i64 a.List_,.int .i64 a.Stability] [.int .i64 b.Tolerance,.int .i64 b.Trim,.int .i64 b.List_,.int .i64 b.Stability]=some (decide (a=b)):=by
 refine(show _=some ((a.Tolerance==b.Tolerance)&&((a.Trim==b.Trim)&&((a.List_==b.List_)&&((a.Stability==b.Stability)&&true)))) by kernel_rfl).trans (congrArg some ?_)
 rw [Bool.eq_iff_iff]
 simp only [Bool.and_eq_true,beq_iff_eq,decide_eq_true_eq,Bool.and_true]
 constructor
 ·intro h; obtain⟨_,_,_,_⟩:=a; obtain⟨_,_,_,_⟩:=b; simp_all
 ·intro h; subst h; simp
theorem tq_69 (a b:Gg):H73 Ej 4 69 [.int .i64 a.ID,.string a.Number,.int .u8 a.Size,.bool a.High,.int .i64 a.Kilos,.int .i64 a.Load,.int .i64 a.Discharge,.int .u8 a.Class,.bool a.Reefer] [.int .i64 b.ID,.string b.Number,.int .u8 b.Size,.bool b.High,.int .i64 b.Kilos,.int .i64 b.Load,.int .i64 b.Discharge,.int .u8 b.Class,.bool b.Reefer]=some (decide (a=b)):=by
 refine(show _=some ((a.ID==b.ID)&&((a.Number==b.Number)&&((a.Size==b.Size)&&((a.High==b.High)&&((a.Kilos==b.Kilos)&&((a.Load==b.Load)&&((a.Discharge==b.Discharge)&&((a.Class==b.Class)&&((a.Reefer==b.Reefer)&&true))))))))) by kernel_rfl).trans (congrArg some ?_)
 rw [Bool.eq_iff_iff]
 simp only [Bool.and_eq_true,ba_beq_iff,beq_iff_eq,decide_eq_true_eq,Bool.and_true]
 constructor
 ·intro h; obtain⟨_,_,_,_,_,_,_,_,_⟩:=a; obtain⟨_,_,_,_,_,_,_,_,_⟩:=b; simp_all
 ·intro h; subst h; simp
theorem tq_73 (a b:Stowed):H73 Ej 4 73 [.int .i64 a.Gg,.int .i64 a.Slot.G4,.int .i64 a.Slot.Tier,.int .u8 a.Slot.Half] [.int .i64 b.Gg,.int .i64 b.Slot.G4,.int .i64 b.Slot.Tier,.int .u8 b.Slot.Half]=some (decide (a=b)):=by
 refine(show _=some ((a.Gg==b.Gg)&&(((a.Slot.G4==b.Slot.G4)&&((a.Slot.Tier==b.Slot.Tier)&&((a.Slot.Half==b.Slot.Half)&&true)))&&true)) by kernel_rfl).trans (congrArg some ?_)
 rw [Bool.eq_iff_iff]
 simp only [Bool.and_eq_true,beq_iff_eq,decide_eq_true_eq,Bool.and_true]
 constructor
 ·intro h; obtain⟨_,⟨_,_,_⟩⟩:=a; obtain⟨_,⟨_,_,_⟩⟩:=b; simp_all
 ·intro h; subst h; simp
theorem Gde:Gd8 Ej 108 5=true:=by kernel_rfl
theorem Gdd:Gd8 Ej 111 5=true:=by kernel_rfl
theorem G21:Gd8 Ej 114 6=true:=by kernel_rfl
theorem Q37:Gd8 Ej 25 4=true:=by kernel_rfl
theorem Q36:Gd8 Ej 30 4=true:=by kernel_rfl
theorem Hh:Gd8 Ej 32 13=true:=by kernel_rfl
theorem G33:Gd8 Ej 69 9=true:=by kernel_rfl
theorem Z8:Gd8 Ej 73 4=true:=by kernel_rfl
theorem H91:G26 Ej 108=true:=by kernel_rfl
theorem H90:G26 Ej 111=true:=by kernel_rfl
theorem Q77:G26 Ej 25=true:=by kernel_rfl
theorem Q76:G26 Ej 30=true:=by kernel_rfl
theorem J95:G26 Ej 69=true:=by kernel_rfl
theorem J93:G26 Ej 73=true:=by kernel_rfl
theorem He7:Ja7 Ej 4=true:=by kernel_rfl
theorem Q75:Ha Ej 100=true:=by kernel_rfl
theorem Hc5:Ha Ej 101=true:=by kernel_rfl
theorem Hc3:Ha Ej 112=true:=by kernel_rfl
theorem Hc1:Ha Ej 142=true:=by kernel_rfl
theorem G07:Ha Ej 16=true:=by kernel_rfl
theorem Qac:Ha Ej 25=true:=by kernel_rfl
theorem Qab:Ha Ej 26=true:=by kernel_rfl
theorem Qaa:Ha Ej 27=true:=by kernel_rfl
theorem Qa9:Ha Ej 28=true:=by kernel_rfl
theorem Qa8:Ha Ej 29=true:=by kernel_rfl
theorem Je0:Ha Ej 30=true:=by kernel_rfl
theorem Jdf:Ha Ej 31=true:=by kernel_rfl
theorem Qa7:Ha Ej 43=true:=by kernel_rfl
theorem Qa6:Ha Ej 44=true:=by kernel_rfl
theorem Qa5:Ha Ej 45=true:=by kernel_rfl
theorem Qa4:Ha Ej 46=true:=by kernel_rfl
theorem Qa3:Ha Ej 47=true:=by kernel_rfl
theorem Qa2:Ha Ej 48=true:=by kernel_rfl
theorem Qa0:Ha Ej 54=true:=by kernel_rfl
theorem Jd9:Ha Ej 55=true:=by kernel_rfl
theorem Q9f:Ha Ej 56=true:=by kernel_rfl
theorem Jd8:Ha Ej 57=true:=by kernel_rfl
theorem Jd7:Ha Ej 58=true:=by kernel_rfl
theorem Jd6:Ha Ej 59=true:=by kernel_rfl
theorem Q9e:Ha Ej 60=true:=by kernel_rfl
theorem Jd5:Ha Ej 61=true:=by kernel_rfl
theorem G69:Ha Ej 62=true:=by kernel_rfl
theorem Q8e:Ha Ej 91=true:=by kernel_rfl
theorem Q8d:Ha Ej 92=true:=by kernel_rfl
theorem Q8c:Ha Ej 93=true:=by kernel_rfl
theorem Q8b:Ha Ej 94=true:=by kernel_rfl
theorem Q8a:Ha Ej 95=true:=by kernel_rfl
theorem Q89:Ha Ej 96=true:=by kernel_rfl
theorem J17:Ha Ej 97=true:=by kernel_rfl
theorem Q88:Ha Ej 98=true:=by kernel_rfl
theorem J16:Ha Ej 99=true:=by kernel_rfl
theorem Hc0:Z5 Ej 108 5 40=true:=by kernel_rfl
theorem Hbf:Z5 Ej 111 5 40=true:=by kernel_rfl
theorem Hbe:Z5 Ej 114 6 64=true:=by kernel_rfl
theorem Y2:Z5 Ej 3 1 8=true:=by kernel_rfl
theorem J15:Z5 Ej 64 12 112=true:=by kernel_rfl
theorem J14:Z5 Ej 66 2 32=true:=by kernel_rfl
theorem J13:Z5 Ej 69 9 64=true:=by kernel_rfl
theorem H21:Z5 Ej 73 4 32=true:=by kernel_rfl
theorem J12:Ej.eqGuardType Ej.depth 108=false:=by kernel_rfl
theorem J11:Ej.eqGuardType Ej.depth 111=false:=by kernel_rfl
theorem tf_eqg_25:Ej.eqGuardType Ej.depth 25=false:=by kernel_rfl
theorem tf_eqg_30:Ej.eqGuardType Ej.depth 30=false:=by kernel_rfl
theorem Q34:Ej.eqGuardType Ej.depth 69=false:=by kernel_rfl
theorem Q32:Ej.eqGuardType Ej.depth 73=false:=by kernel_rfl
theorem Hbd:Qd Ej 114 0 0=true:=by kernel_rfl
theorem Hbc:Qd Ej 114 1 1=true:=by kernel_rfl
theorem Hbb:Qd Ej 114 2 2=true:=by kernel_rfl
theorem Hba:Qd Ej 114 3 3=true:=by kernel_rfl
theorem Hb9:Qd Ej 114 4 4=true:=by kernel_rfl
theorem G5c:Qd Ej 114 5 5=true:=by kernel_rfl
theorem J02:Qd Ej 32 2 2=true:=by kernel_rfl
theorem G70:Qd Ej 32 3 6=true:=by kernel_rfl
theorem G6f:Qd Ej 32 4 7=true:=by kernel_rfl
theorem G6e:Qd Ej 32 5 8=true:=by kernel_rfl
theorem J01:Qd Ej 32 6 9=true:=by kernel_rfl
theorem Q30:placesOf Ej 108=some [(0,1),(1,1),(2,1),(3,1),(4,1)]:=by kernel_rfl
theorem Q2f:placesOf Ej 111=some [(0,1),(1,1),(2,1),(3,1),(4,1)]:=by kernel_rfl
theorem Q2e:placesOf Ej 114=some [(0,1),(1,1),(2,1),(3,1),(4,1),(5,1)]:=by kernel_rfl
theorem G92:placesOf Ej 64=some [(0,1),(1,1),(2,1),(3,1),(4,1),(5,1),(6,1),(7,1),(8,1),(9,1),(10,1),(11,1)]:=by kernel_rfl
theorem J37:placesOf Ej 66=some [(0,1),(1,1)]:=by kernel_rfl
theorem G0d:placesOf Ej 69=some [(0,1),(1,1),(2,1),(3,1),(4,1),(5,1),(6,1),(7,1),(8,1)]:=by kernel_rfl
theorem H8a:placesOf Ej 73=some [(0,1),(1,3)]:=by kernel_rfl
theorem Gc6:Yf Ej 26=true:=by kernel_rfl
theorem Gc5:Yf Ej 27=true:=by kernel_rfl
theorem Gc4:Yf Ej 28=true:=by kernel_rfl
theorem Q50:Ys Ej 108 5=true:=by kernel_rfl
theorem Q4f:Ys Ej 111 5=true:=by kernel_rfl
theorem Hb7:Ys Ej 114 6=true:=by kernel_rfl
theorem Q87:Ys Ej 22 1=true:=by kernel_rfl
theorem Q86:Ys Ej 23 1=true:=by kernel_rfl
theorem Q85:Ys Ej 26 1=true:=by kernel_rfl
theorem Q84:Ys Ej 27 1=true:=by kernel_rfl
theorem Q83:Ys Ej 28 1=true:=by kernel_rfl
theorem H88:Ys Ej 32 13=true:=by kernel_rfl
theorem J0f:Ys Ej 40 1=true:=by kernel_rfl
theorem G06:Ys Ej 69 9=true:=by kernel_rfl
theorem G36:Ys Ej 73 4=true:=by kernel_rfl
theorem Qc:sliceB Ej 26 108 5=true:=by kernel_rfl
theorem Qb:sliceB Ej 27 111 5=true:=by kernel_rfl
theorem Jw:sliceB Ej 28 114 6=true:=by kernel_rfl
theorem Jv:sliceB Ej 33 69 9=true:=by kernel_rfl
theorem H0:sliceB Ej 34 73 4=true:=by kernel_rfl
theorem J85:(Ej.info? 108).bind (fun i=>i.zero.map Value.cells)=some (List.toArray [E0,E0,E0,E0,E0]):=by kernel_rfl
theorem J84:(Ej.info? 111).bind (fun i=>i.zero.map Value.cells)=some (List.toArray [E0,E0,E0,E0,E0]):=by kernel_rfl
theorem Hb6:(Ej.info? 114).bind (fun i=>i.zero.map Value.cells)=some (List.toArray [E0,E0,E0,E0,E0,.slice none 0 0]):=by kernel_rfl
theorem J0d:(Ej.info? 32).bind (fun i=>i.zero.map Value.cells)=some (List.toArray [.slice none 0 0,.slice none 0 0,E0,E0,E0,E0,.slice none 0 0,.slice none 0 0,.slice none 0 0,E0,E0,E0,E0]):=by kernel_rfl
theorem G80:(Ej.info? 64).bind (fun i=>i.zero.map Value.cells)=some (List.toArray [E0,E0,.bool false,E0,E0,E0,E0,E0,.slice none 0 0,E0,E0,E0]):=by kernel_rfl
theorem H86:(Ej.info? 66).bind (fun i=>i.zero.map Value.cells)=some (List.toArray [E0,.slice none 0 0]):=by kernel_rfl
theorem G05:(Ej.info? 69).bind (fun i=>i.zero.map Value.cells)=some (List.toArray [E0,.string ByteArray.empty,.int .u8 0,.bool false,E0,E0,E0,.int .u8 0,.bool false]):=by kernel_rfl
theorem H1f:(Ej.info? 73).bind (fun i=>i.zero.map Value.cells)=some (List.toArray [E0,E0,E0,.int .u8 0]):=by kernel_rfl
theorem Q40:Zj Ej 108 5=true:=by kernel_rfl
theorem Q3f:Zj Ej 111 5=true:=by kernel_rfl
theorem H85:Zj Ej 114 6=true:=by kernel_rfl
theorem Q1:Zj Ej 3 1=true:=by kernel_rfl
theorem G2b:Zj Ej 69 9=true:=by kernel_rfl
theorem G13:Zj Ej 73 4=true:=by kernel_rfl
end XLF
open XAF
open XLF

def Jo (k:Int) (i:Int):Option Int:=
 G35 (k+7) fun v3=>
 G35 (1000003*v3) fun v4=>
 G35 (v4+i) fun v5=>
 some v5
theorem Qp (k:Int) (i:Int) (r:Int) (h:Jo k i=some r):Pure Ej 62 [G0 k,G0 i] (·=G0 r):=by
 unfold Jo at h
 refine Gx [.tmp 4] Tryz.func62 O O (Jr fun hK1=>(G57 (G0 0) O (G8 (hK1 (Jr fun hK2=>(G57 (G0 k) O ?_))))))
 obtain⟨v3,hv3,h⟩:=Qj h
 refine JLh (G0 v3) (Hu hv3 O O O) O ?_
 obtain⟨v4,hv4,h⟩:=Qj h
 refine JLh (G0 v4) (A_mul hv4 O O O) O (G57 (G0 i) O ?_)
 obtain⟨v5,hv5,h⟩:=Qj h
 refine JLh (G0 v5) (Hu hv5 O O O) O (G57 (G0 v5) O (G8 (hK2 (Gr (fin1 G0 h)))))

def R6 (l:List Int):Option (Ln Int):=
 G35 ((l.length:Int)+12) fun v3=>
 bnd (Gf1 v3) fun m4=>
 need (decide (8*m4≤281474976710656∧m4≤maxLen)) <|
 need (decide ((([]:List Int).length+l.length)*8≤140737488355328∧([]:List Int).length+l.length≤maxLen)) <|
 need (decide (12≤9223372036854775807)) <|
 upto (fun i19 (s19:(List Int)) nx19=>
  bnd (Jo 1 (i19:Int)) fun r23=>
  need (decide ((s19.length+[r23].length)*8≤140737488355328∧s19.length+[r23].length≤maxLen)) <|
  nx19 (s19++[r23]))
 (fun(s19:(List Int))=>
  bnd (G5d (l.length:Int) s19.length) fun m26=>
  some (s19.take m26,s19.drop m26)) (12:Int).toNat 0 (([]:List Int)++l)
theorem G40 (l:List Int) (r:(Ln Int)) (h:R6 l=some r):Pure Ej 112 [E1 l] (·=LT 1 G0 r):=by
 unfold R6 at h
 refine Gx [.tmp 2] Tryz.func112 O O (Jr fun hK1=>(JLh (E1 ([]:List Int)) (Hb 1 O O) O (G8 (hK1 (Jr fun hK2=>(G57 (E1 l) O (JLl Gq O O O fun hm6=>?_)))))))
 obtain⟨v3,hv3,h⟩:=Qj h
 refine JLh (G0 v3) (Hu hv3 O O O) O ?_
 obtain⟨m4,hm4,h⟩:=Ge h
 obtain⟨ha5,h⟩:=Hv h
 refine JLh (OW 1162 1 G0 ([]:List Int)) (Gc1 1162 O O O O Gq Y2 O (G71 hm4) ha5) O (G57 (OW 1162 1 G0 ([]:List Int)) O (G8 (hK2 (Jr fun hK6=>(G57 (OW 1162 1 G0 ([]:List Int)) O (G57 (E1 l) O ?_))))))
 obtain⟨ha7,h⟩:=Hv h
 refine JLh (OW 1162 1 G0 (([]:List Int)++l)) (Ge7 (f:=G0) (xs:=([]:List Int)) (ys:=l) O O O O Gq Y2 ha7 (fun _=>O) (.inl O)) O (G57 (OW 1162 1 G0 (([]:List Int)++l)) O (G8 (hK6 (Js fun hK8=>Jr fun hK9=>(G57 (G0 0) O (G8 (hK9 (Gp ?_))))))))
 obtain⟨hx19,h⟩:=Hv h
 obtain⟨b19,kx19,hb19,hkx19,h⟩:=G8e h
 refine He (fun i19 (s19:(List Int))=>upto b19 kx19 ((12:Int).toNat - i19) i19 s19=some r) (fun i19 s19=>[(0,E1 l),(3,OW 1162 1 G0 s19),(4,Ei i19)]) (fun i19 s19=>[(1162,.spare 3 1 s19.length s19.length)]) (fun i19=>(12:Int).toNat - i19) 0 (([]:List Int)++l) h ⟨(.sm O O),⟨⟨_,O,.same⟩,G⟩,O⟩ ?_
 clear h
 intro i19 s19 hi19 K19 e19
 refine Js fun hK20=>Jr fun hK21=>(G57 (Ei i19) O (JLh (BL (decide ((i19:Int) < 12))) (J1 O O O) O (G8 (hK21 (Gm O (fun hb=>?_) (fun hb=>?_))))))
 ·
  have hk19:=G5e hb
  obtain⟨nx19,hn19,h⟩:=G59 hi19 hk19
  replace h:=Hfc hb19 h
  refine Gn (hK20 (Js fun hK22=>Gp (G3 (G57 (OW 1162 1 G0 s19) O (G57 (Ei i19) O ?_)))))
  obtain⟨r23,hr23,h⟩:=Ge h
  refine JLh (G0 r23) (Gk O (Qp 1 (i19:Int) r23 hr23) G69 ⟨O,O,O,O,G⟩) O (JLh (E1 [r23]) (Hd (xs:=[G0 r23]) O ⟨O,O,G⟩ Gq Q1 O O O O) O ?_)
  obtain⟨ha24,h⟩:=Hv h
  refine JLh (OW 1162 1 G0 (s19++[r23])) (Qo (f:=G0) (xs:=s19) (ys:=[r23]) O O O O Gq Y2 ha24 (fun _=>O) (.inl O) O) O (G57 (OW 1162 1 G0 (s19++[r23])) O (G8 (hK22 (G3 (G57 (Ei i19) O (JLh (G0 ((i19+1:Nat):Int)) (Hu (Hc hk19 (G32 hx19)) O O O) O (G57 (G0 ((i19+1:Nat):Int)) O (G8 (e19 _ _ (i19+1) (s19++[r23]) (app1 hn19 h) (by omega) ⟨(.sm O O),⟨⟨_,rfl,.same⟩,G⟩,rfl⟩)))))))))
 ·
  have h:=app1 hkx19 (G5a hi19 (Yg hb))
  refine Hk (hK8 (Jr fun hK25=>(G57 (OW 1162 1 G0 s19) O (G57 (E1 l) O (JLl Gq O O O fun hm23=>?_)))))
  obtain⟨m26,hm26,h⟩:=Ge h
  refine JLh (LT 1 G0 (s19.take m26,s19.drop m26)) (Jae (f:=G0) (xs:=s19) O O O Gq (Z9 hm26)) O (G57 (LT 1 G0 (s19.take m26,s19.drop m26)) O (G8 (hK25 (Gr (fin1 (fun r:(Ln Int)=>(LT 1 G0 r:AV)) h)))))

def Yo (x:G4):Option Gz:=
 bnd (R6 x.Plugs) fun r3=>
 some (Gz.mk x.Bay x.Row x.Deck x.Tiers x.Height x.Kilos20 x.Kilos40 x.Lash r3 x.X x.Y x.Z)
theorem H13 (x:G4) (r:Gz) (h:Yo x=some r):Pure Ej 54 [.agg (G4.cs x)] (·=.agg (Gz.cs r)):=by
 unfold Yo at h
 refine Gx [.cell 2 64] Tryz.func54 O O (Jr fun hK1=>(JLh (.ptr 1087 0) (Ja (cs:=(G4.cs x)) 1087 O O O O O) O (JLh (.ptr 1088 0) (G1d 1088 [G0 0,G0 0,BL false,G0 0,G0 0,G0 0,G0 0,G0 0,E1 ([]:List Int),G0 0,G0 0,G0 0] [E0,E0,.bool false,E0,E0,E0,E0,E0,.slice none 0 0,E0,E0,E0] G80 ⟨.inl O,.inl O,.inl O,.inl O,.inl O,.inl O,.inl O,.inl O,.inr ⟨_,O,O⟩,.inl O,.inl O,.inl O,G⟩ O O) O (G8 (hK1 (Jr fun hK2=>(JLh (.ptr 1087 8) (Zw R9 O O) O (JLh (E1 x.Plugs) (Zi Hy O O O O) O ?_))))))))
 obtain⟨r3,hr3,h⟩:=Ge h
 refine JLh (LT 1 G0 r3) (Gk O (G40 x.Plugs r3 hr3) Hc3 ⟨O,O,G⟩) O (JLh (.ptr 1087 8) (Zw R9 O O) O (Jf (u:=.junk) (J2 (u:=LT 1 G0 r3) (ds:=[G0 x.Bay,G0 x.Row,BL x.Deck,G0 x.Tiers,G0 x.Height,G0 x.Kilos20,G0 x.Kilos40,G0 x.Lash,LT 1 G0 r3,G0 x.X,G0 x.Y,G0 x.Z]) J0f O O O O O O O O) (G8 (hK2 (Gu [(1,.dptr [G0 x.Bay,G0 x.Row,BL x.Deck,G0 x.Tiers,G0 x.Height,G0 x.Kilos20,G0 x.Kilos40,G0 x.Lash,LT 1 G0 r3,G0 x.X,G0 x.Y,G0 x.Z]),(2,.ptr 1088 0)] [(1088,.box 64 [G0 0,G0 0,BL false,G0 0,G0 0,G0 0,G0 0,G0 0,E1 ([]:List Int),G0 0,G0 0,G0 0])] 1087 rfl rfl rfl ⟨⟨_,rfl,.boxEq rfl rfl⟩,G⟩ rfl (by exact⟨.ptr,.conv (.same rfl),G⟩) ?_)))))
 refine Jr fun hK4=>(JLh (.agg [G0 x.Bay,G0 x.Row,BL x.Deck,G0 x.Tiers,G0 x.Height,G0 x.Kilos20,G0 x.Kilos40,G0 x.Lash,LT 1 G0 r3,G0 x.X,G0 x.Y,G0 x.Z]) (Gj Rq O O O) O (Jf (u:=.junk) (J2 (u:=.agg [G0 x.Bay,G0 x.Row,BL x.Deck,G0 x.Tiers,G0 x.Height,G0 x.Kilos20,G0 x.Kilos40,G0 x.Lash,LT 1 G0 r3,G0 x.X,G0 x.Y,G0 x.Z]) (ds:=[G0 x.Bay,G0 x.Row,BL x.Deck,G0 x.Tiers,G0 x.Height,G0 x.Kilos20,G0 x.Kilos40,G0 x.Lash,LT 1 G0 r3,G0 x.X,G0 x.Y,G0 x.Z]) Gb5 O O O O O O O O) (G8 (hK4 (Gr ?_)))))
 exact⟨[.agg [G0 x.Bay,G0 x.Row,BL x.Deck,G0 x.Tiers,G0 x.Height,G0 x.Kilos20,G0 x.Kilos40,G0 x.Lash,LT 1 G0 r3,G0 x.X,G0 x.Y,G0 x.Z]],[],G,O,⟨⟨_,⟨_,_,_,_,O,O,O,.inl ⟨Rq,O⟩⟩,.conv (.same O)⟩,G⟩,O,congrArg (fun r:Gz=>(.agg (Gz.cs r):AV)) (Option.some.inj h)⟩

def Qt (k:Int) (i:Int):Option G4:=
 bnd (Jo k i) fun r3=>
 some (G4.mk r3 0 false 0 0 0 0 0 [] 0 0 0)
theorem G7c (k:Int) (i:Int) (r:G4) (h:Qt k i=some r):Pure Ej 55 [G0 k,G0 i] (·=.agg (G4.cs r)):=by
 unfold Qt at h
 refine Gx [.cell 4 64] Tryz.func55 O O (Jr fun hK1=>(JLh (.ptr 1089 0) (G1d 1089 [G0 0,G0 0,BL false,G0 0,G0 0,G0 0,G0 0,G0 0,E1 ([]:List Int),G0 0,G0 0,G0 0] [E0,E0,.bool false,E0,E0,E0,E0,E0,.slice none 0 0,E0,E0,E0] G80 ⟨.inl O,.inl O,.inl O,.inl O,.inl O,.inl O,.inl O,.inl O,.inr ⟨_,O,O⟩,.inl O,.inl O,.inl O,G⟩ O O) O (G8 (hK1 (Jr fun hK2=>(G57 (G0 k) O (G57 (G0 i) O ?_)))))))
 obtain⟨r3,hr3,h⟩:=Ge h
 refine JLh (G0 r3) (Gk O (Qp k i r3 hr3) G69 ⟨O,O,O,O,G⟩) O (JLh (.agg [G0 r3,G0 0,BL false,G0 0,G0 0,G0 0,G0 0,G0 0,E1 ([]:List Int),G0 0,G0 0,G0 0]) (Jj (cs:=[G0 r3,G0 0,BL false,G0 0,G0 0,G0 0,G0 0,G0 0,E1 ([]:List Int),G0 0,G0 0,G0 0]) [(0,1),(1,1),(2,1),(3,1),(4,1),(5,1),(6,1),(7,1),(8,1),(9,1),(10,1),(11,1)] [G0 0,G0 0,BL false,G0 0,G0 0,G0 0,G0 0,G0 0,E1 ([]:List Int),G0 0,G0 0,G0 0] [E0,E0,.bool false,E0,E0,E0,E0,E0,.slice none 0 0,E0,E0,E0] G92 G80 ⟨.inl O,.inl O,.inl O,.inl O,.inl O,.inl O,.inl O,.inl O,.inr ⟨_,O,O⟩,.inl O,.inl O,.inl O,G⟩ O O) O (Jf (u:=.junk) (J2 (u:=.agg [G0 r3,G0 0,BL false,G0 0,G0 0,G0 0,G0 0,G0 0,E1 ([]:List Int),G0 0,G0 0,G0 0]) (ds:=[G0 r3,G0 0,BL false,G0 0,G0 0,G0 0,G0 0,G0 0,E1 ([]:List Int),G0 0,G0 0,G0 0]) Gb5 O O O O O O O O) (G8 (hK2 ?_))))
 refine Gr (⟨[.agg [G0 r3,G0 0,BL false,G0 0,G0 0,G0 0,G0 0,G0 0,E1 ([]:List Int),G0 0,G0 0,G0 0]],[],G,O,⟨⟨_,⟨_,_,_,_,O,O,O,.inl ⟨Rq,O⟩⟩,.conv (.same O)⟩,G⟩,O,congrArg (fun r:G4=>(.agg (G4.cs r):AV)) (Option.some.inj h)⟩)

def Y9 (l:List G4):Option (Ln Gz):=
 G35 ((l.length:Int)+12) fun v3=>
 bnd (Gf1 v3) fun m4=>
 need (decide (112*m4≤281474976710656∧m4≤maxLen)) <|
 each (fun y23 i23 (s23:(List Gz)) nx23=>
  bnd (Yo y23) fun r28=>
  need (decide ((s23.length+[r28].length)*112≤140737488355328∧s23.length+[r28].length≤maxLen)) <|
  nx23 (s23++[r28]))
 (fun(s23:(List Gz))=>
  need (decide (12≤9223372036854775807)) <|
  upto (fun i41 (s41:(List Gz)) nx41=>
   bnd (Qt 1 (i41:Int)) fun r45=>
   need (decide ((s41.length+[(Gz.mk r45.Bay r45.Row r45.Deck r45.Tiers r45.Height r45.Kilos20 r45.Kilos40 r45.Lash (r45.Plugs,([]:List Int)) r45.X r45.Y r45.Z)].length)*112≤140737488355328∧s41.length+[(Gz.mk r45.Bay r45.Row r45.Deck r45.Tiers r45.Height r45.Kilos20 r45.Kilos40 r45.Lash (r45.Plugs,([]:List Int)) r45.X r45.Y r45.Z)].length≤maxLen)) <|
   nx41 (s41++[(Gz.mk r45.Bay r45.Row r45.Deck r45.Tiers r45.Height r45.Kilos20 r45.Kilos40 r45.Lash (r45.Plugs,([]:List Int)) r45.X r45.Y r45.Z)]))
  (fun(s41:(List Gz))=>
   bnd (G5d (l.length:Int) s41.length) fun m48=>
   some (s41.take m48,s41.drop m48)) (12:Int).toNat 0 s23) l 0 []
theorem H05 (l:List G4) (r:(Ln Gz)) (h:Y9 l=some r):Pure Ej 25 [E4 l] (·=LT 12 Gz.av r):=by
 unfold Y9 at h
 refine Gx [.tmp 2] Tryz.func25 O O (Jr fun hK1=>(JLh (E4 ([]:List G4)) (Hb 12 O O) O (G8 (hK1 (Jr fun hK2=>(G57 (E4 l) O (JLl H5 O O O fun hm8=>?_)))))))
 obtain⟨v3,hv3,h⟩:=Qj h
 refine JLh (G0 v3) (Hu hv3 O O O) O ?_
 obtain⟨m4,hm4,h⟩:=Ge h
 obtain⟨ha5,h⟩:=Hv h
 refine JLh (OW 1041 12 Gz.av ([]:List Gz)) (Gc1 1041 O O O O H5 J15 O (G71 hm4) ha5) O (G57 (OW 1041 12 Gz.av ([]:List Gz)) O (G8 (hK2 (Js fun hK6=>Jr fun hK7=>(G57 (G0 0) O (G8 (hK7 (Gp ?_))))))))
 obtain⟨b23,kx23,hb23,hkx23,h⟩:=Hx h
 refine He (fun i23 (s23:(List Gz))=>each b23 kx23 (List.drop i23 l) i23 s23=some r) (fun i23 s23=>[(0,E4 l),(3,OW 1041 12 Gz.av s23),(4,Ei i23)]) (fun i23 s23=>[(1041,.spare 64 12 s23.length s23.length)]) (fun i23=>l.length - i23) 0 [] h ⟨(.sm O O),⟨⟨_,O,.same⟩,G⟩,O⟩ ?_
 clear h
 intro i23 s23 hi23 K23 e23
 refine Js fun hK24=>Jr fun hK25=>(G57 (Ei i23) O (G57 (E4 l) O (JLl H5 O O O fun hm13=>(JLh (BL (decide ((i23:Int) < (l.length:Int)))) (J1 O O O) O (G8 (hK25 (Gm O (fun hb=>?_) (fun hb=>?_))))))))
 ·
  have hk23:=Jc hb
  obtain⟨y23,nx23,hy23,hn23,h⟩:=Hm hi23 hk23
  replace h:=Rn hb23 h
  refine Gn (hK24 (Js fun hK26=>Gp (Jr fun hK27=>(G57 (E4 l) O (G57 (Ei i23) O (JLh (Ed y23) (Gw (f:=G4.av) (xs:=l) (y:=y23) O O O H5 hy23 O) O (JLh (.agg (G4.cs y23)) (Gj Rq O O O) O ?_)))))))
  obtain⟨r28,hr28,h⟩:=Ge h
  refine JLh (.agg (Gz.cs r28)) (Gk O (H13 y23 r28 hr28) Qa0 ⟨O,O,G⟩) O (JLh (.ptr 1040 0) (Ju 1040 12 G66 O O) O (Jf (u:=.junk) (J2 (u:=.agg (Gz.cs r28)) (ds:=(Gz.cs r28)) Gb5 O O O O O O O O) (G8 (hK27 (Gu [(0,E4 l),(3,OW 1041 12 Gz.av s23),(4,Ei i23),(5,.dptr (Gz.cs r28))] [(1041,.spare 64 12 s23.length s23.length)] 1040 rfl rfl rfl ⟨⟨_,rfl,.same⟩,G⟩ rfl (by repeat' (first | exact .ptr | constructor)) (G3 ?_))))))
  refine G57 (OW 1041 12 Gz.av s23) O (JLh (.agg (Gz.cs r28)) (Gj Rq O O O) O (JLh (LS 12 Gz.av [r28]) (Hd (xs:=[.agg (Gz.cs r28)]) O ⟨O,O,G⟩ H5 G66 O O O O) O ?_))
  obtain⟨ha29,h⟩:=Hv h
  refine JLh (OW 1041 12 Gz.av (s23++[r28])) (Qo (f:=Gz.av) (xs:=s23) (ys:=[r28]) O O O O H5 J15 ha29 (fun _=>O) (.inl O) O) O (G57 (OW 1041 12 Gz.av (s23++[r28])) O (G8 (hK26 (G3 (G57 (Ei i23) O (JLh (G0 ((i23+1:Nat):Int)) (Hu (Hc hk23 hm13) O O O) O (G57 (G0 ((i23+1:Nat):Int)) O (G8 (e23 _ _ (i23+1) (s23++[r28]) (app1 hn23 h) (by omega) ⟨(.sm O O),⟨⟨_,rfl,.same⟩,G⟩,rfl⟩)))))))))
 ·
  have h:=app1 hkx23 (Hn hi23 (H6 hb))
  refine Hk (hK6 (Js fun hK30=>Jr fun hK31=>(G57 (G0 0) O (G8 (hK31 (Gp ?_))))))
  obtain⟨hx41,h⟩:=Hv h
  obtain⟨b41,kx41,hb41,hkx41,h⟩:=G8e h
  refine He (fun i41 (s41:(List Gz))=>upto b41 kx41 ((12:Int).toNat - i41) i41 s41=some r) (fun i41 s41=>[(0,E4 l),(3,OW 1041 12 Gz.av s41),(6,Ei i41)]) (fun i41 s41=>[(1041,.spare 64 12 s41.length s41.length)]) (fun i41=>(12:Int).toNat - i41) 0 s23 h ⟨(.sm O O),⟨⟨_,O,.same⟩,G⟩,O⟩ ?_
  clear h
  intro i41 s41 hi41 K41 e41
  refine Js fun hK42=>Jr fun hK43=>(G57 (Ei i41) O (JLh (BL (decide ((i41:Int) < 12))) (J1 O O O) O (G8 (hK43 (Gm O (fun hb=>?_) (fun hb=>?_))))))
  ·
   have hk41:=G5e hb
   obtain⟨nx41,hn41,h⟩:=G59 hi41 hk41
   replace h:=Hfc hb41 h
   refine Gn (hK42 (Js fun hK44=>Gp (G3 (G57 (OW 1041 12 Gz.av s41) O (G57 (Ei i41) O ?_)))))
   obtain⟨r45,hr45,h⟩:=Ge h
   refine JLh (.agg [G0 r45.Bay,G0 r45.Row,BL r45.Deck,G0 r45.Tiers,G0 r45.Height,G0 r45.Kilos20,G0 r45.Kilos40,G0 r45.Lash,LT 1 G0 (r45.Plugs,([]:List Int)),G0 r45.X,G0 r45.Y,G0 r45.Z]) (H4.cv (Cv.aggL (cs:=(G4.cs r45)) ⟨.same,.same,.same,.same,.same,.same,.same,.same,Cv.of0 r45.Plugs,.same,.same,.same,G⟩) (Gk O (G7c 1 (i41:Int) r45 hr45) Jd9 ⟨O,O,O,O,G⟩)) O (JLh (LS 12 Gz.av ([(Gz.mk r45.Bay r45.Row r45.Deck r45.Tiers r45.Height r45.Kilos20 r45.Kilos40 r45.Lash (r45.Plugs,([]:List Int)) r45.X r45.Y r45.Z)])) (Hd (xs:=[.agg [G0 r45.Bay,G0 r45.Row,BL r45.Deck,G0 r45.Tiers,G0 r45.Height,G0 r45.Kilos20,G0 r45.Kilos40,G0 r45.Lash,LT 1 G0 (r45.Plugs,([]:List Int)),G0 r45.X,G0 r45.Y,G0 r45.Z]]) O ⟨O,O,G⟩ H5 G66 O O O O) O ?_)
   obtain⟨ha46,h⟩:=Hv h
   refine JLh (OW 1041 12 Gz.av (s41++[(Gz.mk r45.Bay r45.Row r45.Deck r45.Tiers r45.Height r45.Kilos20 r45.Kilos40 r45.Lash (r45.Plugs,([]:List Int)) r45.X r45.Y r45.Z)])) (Qo (f:=Gz.av) (xs:=s41) (ys:=[(Gz.mk r45.Bay r45.Row r45.Deck r45.Tiers r45.Height r45.Kilos20 r45.Kilos40 r45.Lash (r45.Plugs,([]:List Int)) r45.X r45.Y r45.Z)]) O O O O H5 J15 ha46 (fun _=>O) (.inl O) O) O (G57 (OW 1041 12 Gz.av (s41++[(Gz.mk r45.Bay r45.Row r45.Deck r45.Tiers r45.Height r45.Kilos20 r45.Kilos40 r45.Lash (r45.Plugs,([]:List Int)) r45.X r45.Y r45.Z)])) O (G8 (hK44 (G3 (G57 (Ei i41) O (JLh (G0 ((i41+1:Nat):Int)) (Hu (Hc hk41 (G32 hx41)) O O O) O (G57 (G0 ((i41+1:Nat):Int)) O (G8 ?_))))))))
   exact e41 _ _ (i41+1) (s41++[(Gz.mk r45.Bay r45.Row r45.Deck r45.Tiers r45.Height r45.Kilos20 r45.Kilos40 r45.Lash (r45.Plugs,([]:List Int)) r45.X r45.Y r45.Z)]) (app1 hn41 h) (by omega) ⟨(.sm O O),⟨⟨_,rfl,.same⟩,G⟩,rfl⟩
  ·
   have h:=app1 hkx41 (G5a hi41 (Yg hb))
   refine Hk (hK30 (Jr fun hK47=>(G57 (OW 1041 12 Gz.av s41) O (G57 (E4 l) O (JLl H5 O O O fun hm37=>?_)))))
   obtain⟨m48,hm48,h⟩:=Ge h
   refine JLh (LT 12 Gz.av (s41.take m48,s41.drop m48)) (Jae (f:=Gz.av) (xs:=s41) O O O H5 (Z9 hm48)) O (G57 (LT 12 Gz.av (s41.take m48,s41.drop m48)) O (G8 (hK47 (Gr (fin1 (fun r:(Ln Gz)=>(LT 12 Gz.av r:AV)) h)))))

def Yz (x:G9):Option H8:=
 bnd (R6 x.Rows) fun r3=>
 some (H8.mk x.Bay r3)
theorem H3c (x:G9) (r:H8) (h:Yz x=some r):Pure Ej 56 [.agg [G0 x.Bay,E1 x.Rows]] (·=.agg [G0 r.Bay,LT 1 G0 r.Rows]):=by
 unfold Yz at h
 refine Gx [.cell 2 66] Tryz.func56 O O (Jr fun hK1=>(JLh (.ptr 1090 0) (Ja (cs:=[G0 x.Bay,E1 x.Rows]) 1090 O O O O O) O (JLh (.ptr 1091 0) (G1d 1091 [G0 0,E1 ([]:List Int)] [E0,.slice none 0 0] H86 ⟨.inl O,.inr ⟨_,O,O⟩,G⟩ O O) O (G8 (hK1 (Jr fun hK2=>(JLh (.ptr 1090 1) (Zw Q8 O O) O (JLh (E1 x.Rows) (Zi Hy O O O O) O ?_))))))))
 obtain⟨r3,hr3,h⟩:=Ge h
 refine JLh (LT 1 G0 r3) (Gk O (G40 x.Rows r3 hr3) Hc3 ⟨O,O,G⟩) O (JLh (.ptr 1090 1) (Zw Q8 O O) O (Jf (u:=.junk) (J2 (u:=LT 1 G0 r3) (ds:=[G0 x.Bay,LT 1 G0 r3]) J0f O O O O O O O O) (G8 (hK2 (Gu [(1,.dptr [G0 x.Bay,LT 1 G0 r3]),(2,.ptr 1091 0)] [(1091,.box 66 [G0 0,E1 ([]:List Int)])] 1090 rfl rfl rfl ⟨⟨_,rfl,.boxEq rfl rfl⟩,G⟩ rfl (by exact⟨.ptr,.conv (.same rfl),G⟩) (Jr fun hK4=>(JLh (.agg [G0 x.Bay,LT 1 G0 r3]) (Gj Ye O O O) O (Jf (u:=.junk) (J2 (u:=.agg [G0 x.Bay,LT 1 G0 r3]) (ds:=[G0 x.Bay,LT 1 G0 r3]) Gb4 O O O O O O O O) (G8 (hK4 (Gr ?_)))))))))))
 exact⟨[.agg [G0 x.Bay,LT 1 G0 r3]],[],G,O,⟨⟨_,⟨_,_,_,_,O,O,O,.inl ⟨Ye,O⟩⟩,.conv (.same O)⟩,G⟩,O,congrArg (fun r:H8=>(.agg [G0 r.Bay,LT 1 G0 r.Rows]:AV)) (Option.some.inj h)⟩

def Qz (k:Int) (i:Int):Option G9:=
 bnd (Jo k i) fun r3=>
 some (G9.mk r3 [])
theorem G88 (k:Int) (i:Int) (r:G9) (h:Qz k i=some r):Pure Ej 57 [G0 k,G0 i] (·=.agg [G0 r.Bay,E1 r.Rows]):=by
 unfold Qz at h
 refine Gx [.cell 4 66] Tryz.func57 O O (Jr fun hK1=>(JLh (.ptr 1092 0) (G1d 1092 [G0 0,E1 ([]:List Int)] [E0,.slice none 0 0] H86 ⟨.inl O,.inr ⟨_,O,O⟩,G⟩ O O) O (G8 (hK1 (Jr fun hK2=>(G57 (G0 k) O (G57 (G0 i) O ?_)))))))
 obtain⟨r3,hr3,h⟩:=Ge h
 refine JLh (G0 r3) (Gk O (Qp k i r3 hr3) G69 ⟨O,O,O,O,G⟩) O (JLh (.agg [G0 r3,E1 ([]:List Int)]) (Jj (cs:=[G0 r3,E1 ([]:List Int)]) [(0,1),(1,1)] [G0 0,E1 ([]:List Int)] [E0,.slice none 0 0] J37 H86 ⟨.inl O,.inr ⟨_,O,O⟩,G⟩ O O) O (Jf (u:=.junk) (J2 (u:=.agg [G0 r3,E1 ([]:List Int)]) (ds:=[G0 r3,E1 ([]:List Int)]) Gb4 O O O O O O O O) (G8 (hK2 (Gr (⟨[.agg [G0 r3,E1 ([]:List Int)]],[],G,O,⟨⟨_,⟨_,_,_,_,O,O,O,.inl ⟨Ye,O⟩⟩,.conv (.same O)⟩,G⟩,O,congrArg (fun r:G9=>(.agg [G0 r.Bay,E1 r.Rows]:AV)) (Option.some.inj h)⟩))))))

def Yn (l:List G9):Option (Ln H8):=
 G35 ((l.length:Int)+12) fun v3=>
 bnd (Gf1 v3) fun m4=>
 need (decide (32*m4≤281474976710656∧m4≤maxLen)) <|
 each (fun y23 i23 (s23:(List H8)) nx23=>
  bnd (Yz y23) fun r28=>
  need (decide ((s23.length+[r28].length)*32≤140737488355328∧s23.length+[r28].length≤maxLen)) <|
  nx23 (s23++[r28]))
 (fun(s23:(List H8))=>
  need (decide (12≤9223372036854775807)) <|
  upto (fun i41 (s41:(List H8)) nx41=>
   bnd (Qz 1 (i41:Int)) fun r45=>
   need (decide ((s41.length+[(H8.mk r45.Bay (r45.Rows,([]:List Int)))].length)*32≤140737488355328∧s41.length+[(H8.mk r45.Bay (r45.Rows,([]:List Int)))].length≤maxLen)) <|
   nx41 (s41++[(H8.mk r45.Bay (r45.Rows,([]:List Int)))]))
  (fun(s41:(List H8))=>
   bnd (G5d (l.length:Int) s41.length) fun m48=>
   some (s41.take m48,s41.drop m48)) (12:Int).toNat 0 s23) l 0 []
theorem H12 (l:List G9) (r:(Ln H8)) (h:Yn l=some r):Pure Ej 26 [E5 l] (·=LT 2 H8.av r):=by
 unfold Yn at h
 refine Gx [.tmp 2] Tryz.func26 O O (Jr fun hK1=>(JLh (E5 ([]:List G9)) (Hb 2 O O) O (G8 (hK1 (Jr fun hK2=>(G57 (E5 l) O (JLl Hr O O O fun hm8=>?_)))))))
 obtain⟨v3,hv3,h⟩:=Qj h
 refine JLh (G0 v3) (Hu hv3 O O O) O ?_
 obtain⟨m4,hm4,h⟩:=Ge h
 obtain⟨ha5,h⟩:=Hv h
 refine JLh (OW 1043 2 H8.av ([]:List H8)) (Gc1 1043 O O O O Hr J14 O (G71 hm4) ha5) O (G57 (OW 1043 2 H8.av ([]:List H8)) O (G8 (hK2 (Js fun hK6=>Jr fun hK7=>(G57 (G0 0) O (G8 (hK7 (Gp ?_))))))))
 obtain⟨b23,kx23,hb23,hkx23,h⟩:=Hx h
 refine He (fun i23 (s23:(List H8))=>each b23 kx23 (List.drop i23 l) i23 s23=some r) (fun i23 s23=>[(0,E5 l),(3,OW 1043 2 H8.av s23),(4,Ei i23)]) (fun i23 s23=>[(1043,.spare 66 2 s23.length s23.length)]) (fun i23=>l.length - i23) 0 [] h ⟨(.sm O O),⟨⟨_,O,.same⟩,G⟩,O⟩ ?_
 clear h
 intro i23 s23 hi23 K23 e23
 refine Js fun hK24=>Jr fun hK25=>(G57 (Ei i23) O (G57 (E5 l) O (JLl Hr O O O fun hm13=>(JLh (BL (decide ((i23:Int) < (l.length:Int)))) (J1 O O O) O (G8 (hK25 (Gm O (fun hb=>?_) (fun hb=>?_))))))))
 ·
  have hk23:=Jc hb
  obtain⟨y23,nx23,hy23,hn23,h⟩:=Hm hi23 hk23
  replace h:=Rn hb23 h
  refine Gn (hK24 (Js fun hK26=>Gp (Jr fun hK27=>(G57 (E5 l) O (G57 (Ei i23) O (JLh (.dptr [G0 y23.Bay,E1 y23.Rows]) (Gw (f:=G9.av) (xs:=l) (y:=y23) O O O Hr hy23 O) O (JLh (.agg [G0 y23.Bay,E1 y23.Rows]) (Gj Ye O O O) O ?_)))))))
  obtain⟨r28,hr28,h⟩:=Ge h
  refine JLh (.agg [G0 r28.Bay,LT 1 G0 r28.Rows]) (Gk O (H3c y23 r28 hr28) Q9f ⟨O,O,G⟩) O (JLh (.ptr 1042 0) (Ju 1042 2 G65 O O) O (Jf (u:=.junk) (J2 (u:=.agg [G0 r28.Bay,LT 1 G0 r28.Rows]) (ds:=[G0 r28.Bay,LT 1 G0 r28.Rows]) Gb4 O O O O O O O O) (G8 (hK27 (Gu [(0,E5 l),(3,OW 1043 2 H8.av s23),(4,Ei i23),(5,.dptr [G0 r28.Bay,LT 1 G0 r28.Rows])] [(1043,.spare 66 2 s23.length s23.length)] 1042 rfl rfl rfl ⟨⟨_,rfl,.same⟩,G⟩ rfl (by repeat' (first | exact .ptr | constructor)) (G3 ?_))))))
  refine G57 (OW 1043 2 H8.av s23) O (JLh (.agg [G0 r28.Bay,LT 1 G0 r28.Rows]) (Gj Ye O O O) O (JLh (LS 2 H8.av [r28]) (Hd (xs:=[.agg [G0 r28.Bay,LT 1 G0 r28.Rows]]) O ⟨O,O,G⟩ Hr G65 O O O O) O ?_))
  obtain⟨ha29,h⟩:=Hv h
  refine JLh (OW 1043 2 H8.av (s23++[r28])) (Qo (f:=H8.av) (xs:=s23) (ys:=[r28]) O O O O Hr J14 ha29 (fun _=>O) (.inl O) O) O (G57 (OW 1043 2 H8.av (s23++[r28])) O (G8 (hK26 (G3 (G57 (Ei i23) O (JLh (G0 ((i23+1:Nat):Int)) (Hu (Hc hk23 hm13) O O O) O (G57 (G0 ((i23+1:Nat):Int)) O (G8 (e23 _ _ (i23+1) (s23++[r28]) (app1 hn23 h) (by omega) ⟨(.sm O O),⟨⟨_,rfl,.same⟩,G⟩,rfl⟩)))))))))
 ·
  have h:=app1 hkx23 (Hn hi23 (H6 hb))
  refine Hk (hK6 (Js fun hK30=>Jr fun hK31=>(G57 (G0 0) O (G8 (hK31 (Gp ?_))))))
  obtain⟨hx41,h⟩:=Hv h
  obtain⟨b41,kx41,hb41,hkx41,h⟩:=G8e h
  refine He (fun i41 (s41:(List H8))=>upto b41 kx41 ((12:Int).toNat - i41) i41 s41=some r) (fun i41 s41=>[(0,E5 l),(3,OW 1043 2 H8.av s41),(6,Ei i41)]) (fun i41 s41=>[(1043,.spare 66 2 s41.length s41.length)]) (fun i41=>(12:Int).toNat - i41) 0 s23 h ⟨(.sm O O),⟨⟨_,O,.same⟩,G⟩,O⟩ ?_
  clear h
  intro i41 s41 hi41 K41 e41
  refine Js fun hK42=>Jr fun hK43=>(G57 (Ei i41) O (JLh (BL (decide ((i41:Int) < 12))) (J1 O O O) O (G8 (hK43 (Gm O (fun hb=>?_) (fun hb=>?_))))))
  ·
   have hk41:=G5e hb
   obtain⟨nx41,hn41,h⟩:=G59 hi41 hk41
   replace h:=Hfc hb41 h
   refine Gn (hK42 (Js fun hK44=>Gp (G3 (G57 (OW 1043 2 H8.av s41) O (G57 (Ei i41) O ?_)))))
   obtain⟨r45,hr45,h⟩:=Ge h
   refine JLh (.agg [G0 r45.Bay,LT 1 G0 (r45.Rows,([]:List Int))]) (H4.cv (Cv.aggL (cs:=[G0 r45.Bay,E1 r45.Rows]) ⟨.same,Cv.of0 r45.Rows,G⟩) (Gk O (G88 1 (i41:Int) r45 hr45) Jd8 ⟨O,O,O,O,G⟩)) O (JLh (LS 2 H8.av ([(H8.mk r45.Bay (r45.Rows,([]:List Int)))])) (Hd (xs:=[.agg [G0 r45.Bay,LT 1 G0 (r45.Rows,([]:List Int))]]) O ⟨O,O,G⟩ Hr G65 O O O O) O ?_)
   obtain⟨ha46,h⟩:=Hv h
   refine JLh (OW 1043 2 H8.av (s41++[(H8.mk r45.Bay (r45.Rows,([]:List Int)))])) (Qo (f:=H8.av) (xs:=s41) (ys:=[(H8.mk r45.Bay (r45.Rows,([]:List Int)))]) O O O O Hr J14 ha46 (fun _=>O) (.inl O) O) O (G57 (OW 1043 2 H8.av (s41++[(H8.mk r45.Bay (r45.Rows,([]:List Int)))])) O (G8 (hK44 (G3 (G57 (Ei i41) O (JLh (G0 ((i41+1:Nat):Int)) (Hu (Hc hk41 (G32 hx41)) O O O) O (G57 (G0 ((i41+1:Nat):Int)) O (G8 (e41 _ _ (i41+1) (s41++[(H8.mk r45.Bay (r45.Rows,([]:List Int)))]) (app1 hn41 h) (by omega) ⟨(.sm O O),⟨⟨_,rfl,.same⟩,G⟩,rfl⟩)))))))))
  ·
   have h:=app1 hkx41 (G5a hi41 (Yg hb))
   refine Hk (hK30 (Jr fun hK47=>(G57 (OW 1043 2 H8.av s41) O (G57 (E5 l) O (JLl Hr O O O fun hm37=>?_)))))
   obtain⟨m48,hm48,h⟩:=Ge h
   refine JLh (LT 2 H8.av (s41.take m48,s41.drop m48)) (Jae (f:=H8.av) (xs:=s41) O O O Hr (Z9 hm48)) O (G57 (LT 2 H8.av (s41.take m48,s41.drop m48)) O (G8 (hK47 (Gr (fin1 (fun r:(Ln H8)=>(LT 2 H8.av r:AV)) h)))))

def Ri (k:Int) (i:Int):Option Row:=
 bnd (Jo k i) fun r3=>
 some (Row.mk 0 r3 0 0 0)
theorem Ga8 (k:Int) (i:Int) (r:Row) (h:Ri k i=some r):Pure Ej 58 [G0 k,G0 i] (·=.agg (Row.cs r)):=by
 unfold Ri at h
 refine Gx [.cell 4 108] Tryz.func58 O O (Jr fun hK1=>(JLh (.ptr 1093 0) (G1d 1093 [G0 0,G0 0,G0 0,G0 0,G0 0] [E0,E0,E0,E0,E0] J85 ⟨.inl O,.inl O,.inl O,.inl O,.inl O,G⟩ O O) O (G8 (hK1 (Jr fun hK2=>(G57 (G0 k) O (G57 (G0 i) O ?_)))))))
 obtain⟨r3,hr3,h⟩:=Ge h
 refine JLh (G0 r3) (Gk O (Qp k i r3 hr3) G69 ⟨O,O,O,O,G⟩) O (JLh (.agg [G0 0,G0 r3,G0 0,G0 0,G0 0]) (Jj (cs:=[G0 0,G0 r3,G0 0,G0 0,G0 0]) [(0,1),(1,1),(2,1),(3,1),(4,1)] [G0 0,G0 0,G0 0,G0 0,G0 0] [E0,E0,E0,E0,E0] Q30 J85 ⟨.inl O,.inl O,.inl O,.inl O,.inl O,G⟩ O O) O (Jf (u:=.junk) (J2 (u:=.agg [G0 0,G0 r3,G0 0,G0 0,G0 0]) (ds:=[G0 0,G0 r3,G0 0,G0 0,G0 0]) Q50 O O O O O O O O) (G8 (hK2 (Gr (⟨[.agg [G0 0,G0 r3,G0 0,G0 0,G0 0]],[],G,O,⟨⟨_,⟨_,_,_,_,O,O,O,.inl ⟨Gde,O⟩⟩,.conv (.same O)⟩,G⟩,O,congrArg (fun r:Row=>(.agg (Row.cs r):AV)) (Option.some.inj h)⟩))))))

def Zf (l:List Row):Option (Ln Row):=
 G35 ((l.length:Int)+12) fun v3=>
 bnd (Gf1 v3) fun m4=>
 need (decide (40*m4≤281474976710656∧m4≤maxLen)) <|
 need (decide ((([]:List Row).length+l.length)*40≤140737488355328∧([]:List Row).length+l.length≤maxLen)) <|
 need (decide (12≤9223372036854775807)) <|
 upto (fun i19 (s19:(List Row)) nx19=>
  bnd (Ri 1 (i19:Int)) fun r23=>
  need (decide ((s19.length+[r23].length)*40≤140737488355328∧s19.length+[r23].length≤maxLen)) <|
  nx19 (s19++[r23]))
 (fun(s19:(List Row))=>
  bnd (G5d (l.length:Int) s19.length) fun m26=>
  some (s19.take m26,s19.drop m26)) (12:Int).toNat 0 (([]:List Row)++l)
theorem H4e (l:List Row) (r:(Ln Row)) (h:Zf l=some r):Pure Ej 27 [E7 l] (·=LT 5 Row.av r):=by
 unfold Zf at h
 refine Gx [.tmp 2] Tryz.func27 O O (Jr fun hK1=>(JLh (E7 ([]:List Row)) (Hb 5 O O) O (G8 (hK1 (Jr fun hK2=>(G57 (E7 l) O (JLl Qc O O O fun hm6=>?_)))))))
 obtain⟨v3,hv3,h⟩:=Qj h
 refine JLh (G0 v3) (Hu hv3 O O O) O ?_
 obtain⟨m4,hm4,h⟩:=Ge h
 obtain⟨ha5,h⟩:=Hv h
 refine JLh (OW 1044 5 Row.av ([]:List Row)) (Gc1 1044 O O O O Qc Hc0 O (G71 hm4) ha5) O (G57 (OW 1044 5 Row.av ([]:List Row)) O (G8 (hK2 (Jr fun hK6=>(G57 (OW 1044 5 Row.av ([]:List Row)) O (G57 (E7 l) O ?_))))))
 obtain⟨ha7,h⟩:=Hv h
 refine JLh (OW 1044 5 Row.av (([]:List Row)++l)) (Ge7 (f:=Row.av) (xs:=([]:List Row)) (ys:=l) O O O O Qc Hc0 ha7 (fun _=>O) (.inl O)) O (G57 (OW 1044 5 Row.av (([]:List Row)++l)) O (G8 (hK6 (Js fun hK8=>Jr fun hK9=>(G57 (G0 0) O (G8 (hK9 (Gp ?_))))))))
 obtain⟨hx19,h⟩:=Hv h
 obtain⟨b19,kx19,hb19,hkx19,h⟩:=G8e h
 refine He (fun i19 (s19:(List Row))=>upto b19 kx19 ((12:Int).toNat - i19) i19 s19=some r) (fun i19 s19=>[(0,E7 l),(3,OW 1044 5 Row.av s19),(4,Ei i19)]) (fun i19 s19=>[(1044,.spare 108 5 s19.length s19.length)]) (fun i19=>(12:Int).toNat - i19) 0 (([]:List Row)++l) h ⟨(.sm O O),⟨⟨_,O,.same⟩,G⟩,O⟩ ?_
 clear h
 intro i19 s19 hi19 K19 e19
 refine Js fun hK20=>Jr fun hK21=>(G57 (Ei i19) O (JLh (BL (decide ((i19:Int) < 12))) (J1 O O O) O (G8 (hK21 (Gm O (fun hb=>?_) (fun hb=>?_))))))
 ·
  have hk19:=G5e hb
  obtain⟨nx19,hn19,h⟩:=G59 hi19 hk19
  replace h:=Hfc hb19 h
  refine Gn (hK20 (Js fun hK22=>Gp (G3 (G57 (OW 1044 5 Row.av s19) O (G57 (Ei i19) O ?_)))))
  obtain⟨r23,hr23,h⟩:=Ge h
  refine JLh (.agg (Row.cs r23)) (Gk O (Ga8 1 (i19:Int) r23 hr23) Jd7 ⟨O,O,O,O,G⟩) O (JLh (E7 [r23]) (Hd (xs:=[.agg (Row.cs r23)]) O ⟨O,O,G⟩ Qc Q40 O O O O) O ?_)
  obtain⟨ha24,h⟩:=Hv h
  refine JLh (OW 1044 5 Row.av (s19++[r23])) (Qo (f:=Row.av) (xs:=s19) (ys:=[r23]) O O O O Qc Hc0 ha24 (fun _=>O) (.inl O) O) O (G57 (OW 1044 5 Row.av (s19++[r23])) O (G8 (hK22 (G3 (G57 (Ei i19) O (JLh (G0 ((i19+1:Nat):Int)) (Hu (Hc hk19 (G32 hx19)) O O O) O (G57 (G0 ((i19+1:Nat):Int)) O (G8 (e19 _ _ (i19+1) (s19++[r23]) (app1 hn19 h) (by omega) ⟨(.sm O O),⟨⟨_,rfl,.same⟩,G⟩,rfl⟩)))))))))
 ·
  have h:=app1 hkx19 (G5a hi19 (Yg hb))
  refine Hk (hK8 (Jr fun hK25=>(G57 (OW 1044 5 Row.av s19) O (G57 (E7 l) O (JLl Qc O O O fun hm23=>?_)))))
  obtain⟨m26,hm26,h⟩:=Ge h
  refine JLh (LT 5 Row.av (s19.take m26,s19.drop m26)) (Jae (f:=Row.av) (xs:=s19) O O O Qc (Z9 hm26)) O (G57 (LT 5 Row.av (s19.take m26,s19.drop m26)) O (G8 (hK25 (Gr (fin1 (fun r:(Ln Row)=>(LT 5 Row.av r:AV)) h)))))

def Qy (k:Int) (i:Int):Option Frame:=
 bnd (Jo k i) fun r3=>
 some (Frame.mk r3 0 0 0 0)
theorem G87 (k:Int) (i:Int) (r:Frame) (h:Qy k i=some r):Pure Ej 59 [G0 k,G0 i] (·=.agg (Frame.cs r)):=by
 unfold Qy at h
 refine Gx [.cell 4 111] Tryz.func59 O O (Jr fun hK1=>(JLh (.ptr 1094 0) (G1d 1094 [G0 0,G0 0,G0 0,G0 0,G0 0] [E0,E0,E0,E0,E0] J84 ⟨.inl O,.inl O,.inl O,.inl O,.inl O,G⟩ O O) O (G8 (hK1 (Jr fun hK2=>(G57 (G0 k) O (G57 (G0 i) O ?_)))))))
 obtain⟨r3,hr3,h⟩:=Ge h
 refine JLh (G0 r3) (Gk O (Qp k i r3 hr3) G69 ⟨O,O,O,O,G⟩) O (JLh (.agg [G0 r3,G0 0,G0 0,G0 0,G0 0]) (Jj (cs:=[G0 r3,G0 0,G0 0,G0 0,G0 0]) [(0,1),(1,1),(2,1),(3,1),(4,1)] [G0 0,G0 0,G0 0,G0 0,G0 0] [E0,E0,E0,E0,E0] Q2f J84 ⟨.inl O,.inl O,.inl O,.inl O,.inl O,G⟩ O O) O (Jf (u:=.junk) (J2 (u:=.agg [G0 r3,G0 0,G0 0,G0 0,G0 0]) (ds:=[G0 r3,G0 0,G0 0,G0 0,G0 0]) Q4f O O O O O O O O) (G8 (hK2 (Gr (⟨[.agg [G0 r3,G0 0,G0 0,G0 0,G0 0]],[],G,O,⟨⟨_,⟨_,_,_,_,O,O,O,.inl ⟨Gdd,O⟩⟩,.conv (.same O)⟩,G⟩,O,congrArg (fun r:Frame=>(.agg (Frame.cs r):AV)) (Option.some.inj h)⟩))))))

def Ym (l:List Frame):Option (Ln Frame):=
 G35 ((l.length:Int)+12) fun v3=>
 bnd (Gf1 v3) fun m4=>
 need (decide (40*m4≤281474976710656∧m4≤maxLen)) <|
 need (decide ((([]:List Frame).length+l.length)*40≤140737488355328∧([]:List Frame).length+l.length≤maxLen)) <|
 need (decide (12≤9223372036854775807)) <|
 upto (fun i19 (s19:(List Frame)) nx19=>
  bnd (Qy 1 (i19:Int)) fun r23=>
  need (decide ((s19.length+[r23].length)*40≤140737488355328∧s19.length+[r23].length≤maxLen)) <|
  nx19 (s19++[r23]))
 (fun(s19:(List Frame))=>
  bnd (G5d (l.length:Int) s19.length) fun m26=>
  some (s19.take m26,s19.drop m26)) (12:Int).toNat 0 (([]:List Frame)++l)
theorem H11 (l:List Frame) (r:(Ln Frame)) (h:Ym l=some r):Pure Ej 28 [E6 l] (·=LT 5 Frame.av r):=by
 unfold Ym at h
 refine Gx [.tmp 2] Tryz.func28 O O (Jr fun hK1=>(JLh (E6 ([]:List Frame)) (Hb 5 O O) O (G8 (hK1 (Jr fun hK2=>(G57 (E6 l) O (JLl Qb O O O fun hm6=>?_)))))))
 obtain⟨v3,hv3,h⟩:=Qj h
 refine JLh (G0 v3) (Hu hv3 O O O) O ?_
 obtain⟨m4,hm4,h⟩:=Ge h
 obtain⟨ha5,h⟩:=Hv h
 refine JLh (OW 1045 5 Frame.av ([]:List Frame)) (Gc1 1045 O O O O Qb Hbf O (G71 hm4) ha5) O (G57 (OW 1045 5 Frame.av ([]:List Frame)) O (G8 (hK2 (Jr fun hK6=>(G57 (OW 1045 5 Frame.av ([]:List Frame)) O (G57 (E6 l) O ?_))))))
 obtain⟨ha7,h⟩:=Hv h
 refine JLh (OW 1045 5 Frame.av (([]:List Frame)++l)) (Ge7 (f:=Frame.av) (xs:=([]:List Frame)) (ys:=l) O O O O Qb Hbf ha7 (fun _=>O) (.inl O)) O (G57 (OW 1045 5 Frame.av (([]:List Frame)++l)) O (G8 (hK6 (Js fun hK8=>Jr fun hK9=>(G57 (G0 0) O (G8 (hK9 (Gp ?_))))))))
 obtain⟨hx19,h⟩:=Hv h
 obtain⟨b19,kx19,hb19,hkx19,h⟩:=G8e h
 refine He (fun i19 (s19:(List Frame))=>upto b19 kx19 ((12:Int).toNat - i19) i19 s19=some r) (fun i19 s19=>[(0,E6 l),(3,OW 1045 5 Frame.av s19),(4,Ei i19)]) (fun i19 s19=>[(1045,.spare 111 5 s19.length s19.length)]) (fun i19=>(12:Int).toNat - i19) 0 (([]:List Frame)++l) h ⟨(.sm O O),⟨⟨_,O,.same⟩,G⟩,O⟩ ?_
 clear h
 intro i19 s19 hi19 K19 e19
 refine Js fun hK20=>Jr fun hK21=>(G57 (Ei i19) O (JLh (BL (decide ((i19:Int) < 12))) (J1 O O O) O (G8 (hK21 (Gm O (fun hb=>?_) (fun hb=>?_))))))
 ·
  have hk19:=G5e hb
  obtain⟨nx19,hn19,h⟩:=G59 hi19 hk19
  replace h:=Hfc hb19 h
  refine Gn (hK20 (Js fun hK22=>Gp (G3 (G57 (OW 1045 5 Frame.av s19) O (G57 (Ei i19) O ?_)))))
  obtain⟨r23,hr23,h⟩:=Ge h
  refine JLh (.agg (Frame.cs r23)) (Gk O (G87 1 (i19:Int) r23 hr23) Jd6 ⟨O,O,O,O,G⟩) O (JLh (E6 [r23]) (Hd (xs:=[.agg (Frame.cs r23)]) O ⟨O,O,G⟩ Qb Q3f O O O O) O ?_)
  obtain⟨ha24,h⟩:=Hv h
  refine JLh (OW 1045 5 Frame.av (s19++[r23])) (Qo (f:=Frame.av) (xs:=s19) (ys:=[r23]) O O O O Qb Hbf ha24 (fun _=>O) (.inl O) O) O (G57 (OW 1045 5 Frame.av (s19++[r23])) O (G8 (hK22 (G3 (G57 (Ei i19) O (JLh (G0 ((i19+1:Nat):Int)) (Hu (Hc hk19 (G32 hx19)) O O O) O (G57 (G0 ((i19+1:Nat):Int)) O (G8 (e19 _ _ (i19+1) (s19++[r23]) (app1 hn19 h) (by omega) ⟨(.sm O O),⟨⟨_,rfl,.same⟩,G⟩,rfl⟩)))))))))
 ·
  have h:=app1 hkx19 (G5a hi19 (Yg hb))
  refine Hk (hK8 (Jr fun hK25=>(G57 (OW 1045 5 Frame.av s19) O (G57 (E6 l) O (JLl Qb O O O fun hm23=>?_)))))
  obtain⟨m26,hm26,h⟩:=Ge h
  refine JLh (LT 5 Frame.av (s19.take m26,s19.drop m26)) (Jae (f:=Frame.av) (xs:=s19) O O O Qb (Z9 hm26)) O (G57 (LT 5 Frame.av (s19.take m26,s19.drop m26)) O (G8 (hK25 (Gr (fin1 (fun r:(Ln Frame)=>(LT 5 Frame.av r:AV)) h)))))

def Zd (x:Gh):Option Hg:=
 bnd (R6 x.Steps) fun r3=>
 some (Hg.mk x.Kilos x.X x.Y x.Z x.Surface r3)
theorem H4c (x:Gh) (r:Hg) (h:Zd x=some r):Pure Ej 60 [.agg (Gh.cs x)] (·=.agg (Hg.cs r)):=by
 unfold Zd at h
 refine Gx [.cell 2 114] Tryz.func60 O O (Jr fun hK1=>(JLh (.ptr 1095 0) (Ja (cs:=[G0 x.Kilos,G0 x.X,G0 x.Y,G0 x.Z,G0 x.Surface,E1 x.Steps]) 1095 O O O O O) O (JLh (.ptr 1096 0) (G1d 1096 [G0 0,G0 0,G0 0,G0 0,G0 0,E1 ([]:List Int)] [E0,E0,E0,E0,E0,.slice none 0 0] Hb6 ⟨.inl O,.inl O,.inl O,.inl O,.inl O,.inr ⟨_,O,O⟩,G⟩ O O) O (G8 (hK1 (Jr fun hK2=>(JLh (.ptr 1095 5) (Zw G5c O O) O (JLh (E1 x.Steps) (Zi Hy O O O O) O ?_))))))))
 obtain⟨r3,hr3,h⟩:=Ge h
 refine JLh (LT 1 G0 r3) (Gk O (G40 x.Steps r3 hr3) Hc3 ⟨O,O,G⟩) O (JLh (.ptr 1095 5) (Zw G5c O O) O (Jf (u:=.junk) (J2 (u:=LT 1 G0 r3) (ds:=[G0 x.Kilos,G0 x.X,G0 x.Y,G0 x.Z,G0 x.Surface,LT 1 G0 r3]) J0f O O O O O O O O) (G8 (hK2 (Gu [(1,.dptr [G0 x.Kilos,G0 x.X,G0 x.Y,G0 x.Z,G0 x.Surface,LT 1 G0 r3]),(2,.ptr 1096 0)] [(1096,.box 114 [G0 0,G0 0,G0 0,G0 0,G0 0,E1 ([]:List Int)])] 1095 rfl rfl rfl ⟨⟨_,rfl,.boxEq rfl rfl⟩,G⟩ rfl (by exact⟨.ptr,.conv (.same rfl),G⟩) ?_)))))
 refine Jr fun hK4=>(JLh (.agg [G0 x.Kilos,G0 x.X,G0 x.Y,G0 x.Z,G0 x.Surface,LT 1 G0 r3]) (Gj G21 O O O) O (Jf (u:=.junk) (J2 (u:=.agg [G0 x.Kilos,G0 x.X,G0 x.Y,G0 x.Z,G0 x.Surface,LT 1 G0 r3]) (ds:=[G0 x.Kilos,G0 x.X,G0 x.Y,G0 x.Z,G0 x.Surface,LT 1 G0 r3]) Hb7 O O O O O O O O) (G8 (hK4 (Gr (⟨[.agg [G0 x.Kilos,G0 x.X,G0 x.Y,G0 x.Z,G0 x.Surface,LT 1 G0 r3]],[],G,O,⟨⟨_,⟨_,_,_,_,O,O,O,.inl ⟨G21,O⟩⟩,.conv (.same O)⟩,G⟩,O,congrArg (fun r:Hg=>(.agg (Hg.cs r):AV)) (Option.some.inj h)⟩))))))

def R5 (k:Int) (i:Int):Option Gh:=
 bnd (Jo k i) fun r3=>
 some (Gh.mk r3 0 0 0 0 [])
theorem G9f (k:Int) (i:Int) (r:Gh) (h:R5 k i=some r):Pure Ej 61 [G0 k,G0 i] (·=.agg (Gh.cs r)):=by
 unfold R5 at h
 refine Gx [.cell 4 114] Tryz.func61 O O (Jr fun hK1=>(JLh (.ptr 1097 0) (G1d 1097 [G0 0,G0 0,G0 0,G0 0,G0 0,E1 ([]:List Int)] [E0,E0,E0,E0,E0,.slice none 0 0] Hb6 ⟨.inl O,.inl O,.inl O,.inl O,.inl O,.inr ⟨_,O,O⟩,G⟩ O O) O (G8 (hK1 (Jr fun hK2=>(G57 (G0 k) O (G57 (G0 i) O ?_)))))))
 obtain⟨r3,hr3,h⟩:=Ge h
 refine JLh (G0 r3) (Gk O (Qp k i r3 hr3) G69 ⟨O,O,O,O,G⟩) O (JLh (.agg [G0 r3,G0 0,G0 0,G0 0,G0 0,E1 ([]:List Int)]) (Jj (cs:=[G0 r3,G0 0,G0 0,G0 0,G0 0,E1 ([]:List Int)]) [(0,1),(1,1),(2,1),(3,1),(4,1),(5,1)] [G0 0,G0 0,G0 0,G0 0,G0 0,E1 ([]:List Int)] [E0,E0,E0,E0,E0,.slice none 0 0] Q2e Hb6 ⟨.inl O,.inl O,.inl O,.inl O,.inl O,.inr ⟨_,O,O⟩,G⟩ O O) O (Jf (u:=.junk) (J2 (u:=.agg [G0 r3,G0 0,G0 0,G0 0,G0 0,E1 ([]:List Int)]) (ds:=[G0 r3,G0 0,G0 0,G0 0,G0 0,E1 ([]:List Int)]) Hb7 O O O O O O O O) (G8 (hK2 (Gr ?_)))))
 exact⟨[.agg [G0 r3,G0 0,G0 0,G0 0,G0 0,E1 ([]:List Int)]],[],G,O,⟨⟨_,⟨_,_,_,_,O,O,O,.inl ⟨G21,O⟩⟩,.conv (.same O)⟩,G⟩,O,congrArg (fun r:Gh=>(.agg (Gh.cs r):AV)) (Option.some.inj h)⟩

def Yy (l:List Gh):Option (Ln Hg):=
 G35 ((l.length:Int)+12) fun v3=>
 bnd (Gf1 v3) fun m4=>
 need (decide (64*m4≤281474976710656∧m4≤maxLen)) <|
 each (fun y23 i23 (s23:(List Hg)) nx23=>
  bnd (Zd y23) fun r28=>
  need (decide ((s23.length+[r28].length)*64≤140737488355328∧s23.length+[r28].length≤maxLen)) <|
  nx23 (s23++[r28]))
 (fun(s23:(List Hg))=>
  need (decide (12≤9223372036854775807)) <|
  upto (fun i41 (s41:(List Hg)) nx41=>
   bnd (R5 1 (i41:Int)) fun r45=>
   need (decide ((s41.length+[(Hg.mk r45.Kilos r45.X r45.Y r45.Z r45.Surface (r45.Steps,([]:List Int)))].length)*64≤140737488355328∧s41.length+[(Hg.mk r45.Kilos r45.X r45.Y r45.Z r45.Surface (r45.Steps,([]:List Int)))].length≤maxLen)) <|
   nx41 (s41++[(Hg.mk r45.Kilos r45.X r45.Y r45.Z r45.Surface (r45.Steps,([]:List Int)))]))
  (fun(s41:(List Hg))=>
   bnd (G5d (l.length:Int) s41.length) fun m48=>
   some (s41.take m48,s41.drop m48)) (12:Int).toNat 0 s23) l 0 []
theorem H3b (l:List Gh) (r:(Ln Hg)) (h:Yy l=some r):Pure Ej 29 [E8 l] (·=LT 6 Hg.av r):=by
 unfold Yy at h
 refine Gx [.tmp 2] Tryz.func29 O O (Jr fun hK1=>(JLh (E8 ([]:List Gh)) (Hb 6 O O) O (G8 (hK1 (Jr fun hK2=>(G57 (E8 l) O (JLl Jw O O O fun hm8=>?_)))))))
 obtain⟨v3,hv3,h⟩:=Qj h
 refine JLh (G0 v3) (Hu hv3 O O O) O ?_
 obtain⟨m4,hm4,h⟩:=Ge h
 obtain⟨ha5,h⟩:=Hv h
 refine JLh (OW 1047 6 Hg.av ([]:List Hg)) (Gc1 1047 O O O O Jw Hbe O (G71 hm4) ha5) O (G57 (OW 1047 6 Hg.av ([]:List Hg)) O (G8 (hK2 (Js fun hK6=>Jr fun hK7=>(G57 (G0 0) O (G8 (hK7 (Gp ?_))))))))
 obtain⟨b23,kx23,hb23,hkx23,h⟩:=Hx h
 refine He (fun i23 (s23:(List Hg))=>each b23 kx23 (List.drop i23 l) i23 s23=some r) (fun i23 s23=>[(0,E8 l),(3,OW 1047 6 Hg.av s23),(4,Ei i23)]) (fun i23 s23=>[(1047,.spare 114 6 s23.length s23.length)]) (fun i23=>l.length - i23) 0 [] h ⟨(.sm O O),⟨⟨_,O,.same⟩,G⟩,O⟩ ?_
 clear h
 intro i23 s23 hi23 K23 e23
 refine Js fun hK24=>Jr fun hK25=>(G57 (Ei i23) O (G57 (E8 l) O (JLl Jw O O O fun hm13=>(JLh (BL (decide ((i23:Int) < (l.length:Int)))) (J1 O O O) O (G8 (hK25 (Gm O (fun hb=>?_) (fun hb=>?_))))))))
 ·
  have hk23:=Jc hb
  obtain⟨y23,nx23,hy23,hn23,h⟩:=Hm hi23 hk23
  replace h:=Rn hb23 h
  refine Gn (hK24 (Js fun hK26=>Gp (Jr fun hK27=>(G57 (E8 l) O (G57 (Ei i23) O (JLh (Eh y23) (Gw (f:=Gh.av) (xs:=l) (y:=y23) O O O Jw hy23 O) O (JLh (.agg (Gh.cs y23)) (Gj G21 O O O) O ?_)))))))
  obtain⟨r28,hr28,h⟩:=Ge h
  refine JLh (.agg (Hg.cs r28)) (Gk O (H4c y23 r28 hr28) Q9e ⟨O,O,G⟩) O (JLh (.ptr 1046 0) (Ju 1046 6 H85 O O) O (Jf (u:=.junk) (J2 (u:=.agg (Hg.cs r28)) (ds:=[G0 r28.Kilos,G0 r28.X,G0 r28.Y,G0 r28.Z,G0 r28.Surface,LT 1 G0 r28.Steps]) Hb7 O O O O O O O O) (G8 (hK27 (Gu [(0,E8 l),(3,OW 1047 6 Hg.av s23),(4,Ei i23),(5,.dptr (Hg.cs r28))] [(1047,.spare 114 6 s23.length s23.length)] 1046 rfl rfl rfl ⟨⟨_,rfl,.same⟩,G⟩ rfl (by repeat' (first | exact .ptr | constructor)) (G3 (G57 (OW 1047 6 Hg.av s23) O (JLh (.agg (Hg.cs r28)) (Gj G21 O O O) O (JLh (LS 6 Hg.av [r28]) (Hd (xs:=[.agg (Hg.cs r28)]) O ⟨O,O,G⟩ Jw H85 O O O O) O ?_)))))))))
  obtain⟨ha29,h⟩:=Hv h
  refine JLh (OW 1047 6 Hg.av (s23++[r28])) (Qo (f:=Hg.av) (xs:=s23) (ys:=[r28]) O O O O Jw Hbe ha29 (fun _=>O) (.inl O) O) O (G57 (OW 1047 6 Hg.av (s23++[r28])) O (G8 (hK26 (G3 (G57 (Ei i23) O (JLh (G0 ((i23+1:Nat):Int)) (Hu (Hc hk23 hm13) O O O) O (G57 (G0 ((i23+1:Nat):Int)) O (G8 (e23 _ _ (i23+1) (s23++[r28]) (app1 hn23 h) (by omega) ⟨(.sm O O),⟨⟨_,rfl,.same⟩,G⟩,rfl⟩)))))))))
 ·
  have h:=app1 hkx23 (Hn hi23 (H6 hb))
  refine Hk (hK6 (Js fun hK30=>Jr fun hK31=>(G57 (G0 0) O (G8 (hK31 (Gp ?_))))))
  obtain⟨hx41,h⟩:=Hv h
  obtain⟨b41,kx41,hb41,hkx41,h⟩:=G8e h
  refine He (fun i41 (s41:(List Hg))=>upto b41 kx41 ((12:Int).toNat - i41) i41 s41=some r) (fun i41 s41=>[(0,E8 l),(3,OW 1047 6 Hg.av s41),(6,Ei i41)]) (fun i41 s41=>[(1047,.spare 114 6 s41.length s41.length)]) (fun i41=>(12:Int).toNat - i41) 0 s23 h ⟨(.sm O O),⟨⟨_,O,.same⟩,G⟩,O⟩ ?_
  clear h
  intro i41 s41 hi41 K41 e41
  refine Js fun hK42=>Jr fun hK43=>(G57 (Ei i41) O (JLh (BL (decide ((i41:Int) < 12))) (J1 O O O) O (G8 (hK43 (Gm O (fun hb=>?_) (fun hb=>?_))))))
  ·
   have hk41:=G5e hb
   obtain⟨nx41,hn41,h⟩:=G59 hi41 hk41
   replace h:=Hfc hb41 h
   refine Gn (hK42 (Js fun hK44=>Gp (G3 (G57 (OW 1047 6 Hg.av s41) O (G57 (Ei i41) O ?_)))))
   obtain⟨r45,hr45,h⟩:=Ge h
   refine JLh (.agg [G0 r45.Kilos,G0 r45.X,G0 r45.Y,G0 r45.Z,G0 r45.Surface,LT 1 G0 (r45.Steps,([]:List Int))]) (H4.cv (Cv.aggL (cs:=(Gh.cs r45)) ⟨.same,.same,.same,.same,.same,Cv.of0 r45.Steps,G⟩) (Gk O (G9f 1 (i41:Int) r45 hr45) Jd5 ⟨O,O,O,O,G⟩)) O (JLh (LS 6 Hg.av ([(Hg.mk r45.Kilos r45.X r45.Y r45.Z r45.Surface (r45.Steps,([]:List Int)))])) (Hd (xs:=[.agg [G0 r45.Kilos,G0 r45.X,G0 r45.Y,G0 r45.Z,G0 r45.Surface,LT 1 G0 (r45.Steps,([]:List Int))]]) O ⟨O,O,G⟩ Jw H85 O O O O) O ?_)
   obtain⟨ha46,h⟩:=Hv h
   refine JLh (OW 1047 6 Hg.av (s41++[(Hg.mk r45.Kilos r45.X r45.Y r45.Z r45.Surface (r45.Steps,([]:List Int)))])) (Qo (f:=Hg.av) (xs:=s41) (ys:=[(Hg.mk r45.Kilos r45.X r45.Y r45.Z r45.Surface (r45.Steps,([]:List Int)))]) O O O O Jw Hbe ha46 (fun _=>O) (.inl O) O) O (G57 (OW 1047 6 Hg.av (s41++[(Hg.mk r45.Kilos r45.X r45.Y r45.Z r45.Surface (r45.Steps,([]:List Int)))])) O (G8 (hK44 (G3 (G57 (Ei i41) O (JLh (G0 ((i41+1:Nat):Int)) (Hu (Hc hk41 (G32 hx41)) O O O) O (G57 (G0 ((i41+1:Nat):Int)) O (G8 (e41 _ _ (i41+1) (s41++[(Hg.mk r45.Kilos r45.X r45.Y r45.Z r45.Surface (r45.Steps,([]:List Int)))]) (app1 hn41 h) (by omega) ⟨(.sm O O),⟨⟨_,rfl,.same⟩,G⟩,rfl⟩)))))))))
  ·
   have h:=app1 hkx41 (G5a hi41 (Yg hb))
   refine Hk (hK30 (Jr fun hK47=>(G57 (OW 1047 6 Hg.av s41) O (G57 (E8 l) O (JLl Jw O O O fun hm37=>?_)))))
   obtain⟨m48,hm48,h⟩:=Ge h
   refine JLh (LT 6 Hg.av (s41.take m48,s41.drop m48)) (Jae (f:=Hg.av) (xs:=s41) O O O Jw (Z9 hm48)) O (G57 (LT 6 Hg.av (s41.take m48,s41.drop m48)) O (G8 (hK47 (Gr (fin1 (fun r:(Ln Hg)=>(LT 6 Hg.av r:AV)) h)))))

def Ze (x:H2):Option Yd:=
 bnd (Y9 x.Columns) fun r3=>
 bnd (Yn x.Covers) fun r5=>
 bnd (Zf x.Rows) fun r7=>
 bnd (Ym x.Frames) fun r9=>
 bnd (Yy x.Tanks) fun r11=>
 some (Yd.mk r3 r5 x.Light r7 r9 r11 x.G2)
abbrev En:List AV:=[E4 ([]:List G4),E5 ([]:List G9),G0 0,G0 0,G0 0,G0 0,E7 ([]:List Row),E6 ([]:List Frame),E8 ([]:List Gh),G0 0,G0 0,G0 0,G0 0]
theorem H4d (x:H2) (r:Yd) (h:Ze x=some r):Pure Ej 7 [.agg (H2.cs x)] (·=.agg (Yd.cs r)):=by
 unfold Ze at h
 refine Gx [.cell 2 32] Tryz.func7 O O ?_
 refine Jr fun hK1=>(JLh (.ptr 1007 0) (Ja (cs:=(H2.cs x)) 1007 O O O O O) O (JLh (.ptr 1008 0) (G1d 1008 En [.slice none 0 0,.slice none 0 0,E0,E0,E0,E0,.slice none 0 0,.slice none 0 0,.slice none 0 0,E0,E0,E0,E0] J0d ⟨.inr ⟨_,O,O⟩,.inr ⟨_,O,O⟩,.inl O,.inl O,.inl O,.inl O,.inr ⟨_,O,O⟩,.inr ⟨_,O,O⟩,.inr ⟨_,O,O⟩,.inl O,.inl O,.inl O,.inl O,G⟩ O O) O (G8 (hK1 ?_))))
 refine Jr fun hK2=>(JLh (.ptr 1007 0) (Zw Hj O O) O (JLh (E4 x.Columns) (Zi Ht O O O O) O ?_))
 obtain⟨r3,hr3,h⟩:=Ge h
 refine JLh (LT 12 Gz.av r3) (Gk O (H05 x.Columns r3 hr3) Qac ⟨O,O,G⟩) O (JLh (.ptr 1007 0) (Zw Hj O O) O (Jf (u:=.junk) (J2 (u:=LT 12 Gz.av r3) (ds:=[LT 12 Gz.av r3,E5 x.Covers,G0 x.Light.Kilos,G0 x.Light.X,G0 x.Light.Y,G0 x.Light.Z,E7 x.Rows,E6 x.Frames,E8 x.Tanks,G0 x.G2.Tolerance,G0 x.G2.Trim,G0 x.G2.List_,G0 x.G2.Stability]) Q87 O O O O O O O O) (G8 (hK2 (Jr fun hK4=>(JLh (.ptr 1007 1) (Zw Jk O O) O (JLh (E5 x.Covers) (Zi Q4 O O O O) O ?_)))))))
 obtain⟨r5,hr5,h⟩:=Ge h
 refine JLh (LT 2 H8.av r5) (Gk O (H12 x.Covers r5 hr5) Qab ⟨O,O,G⟩) O (JLh (.ptr 1007 1) (Zw Jk O O) O (Jf (u:=.junk) (J2 (u:=LT 2 H8.av r5) (ds:=[LT 12 Gz.av r3,LT 2 H8.av r5,G0 x.Light.Kilos,G0 x.Light.X,G0 x.Light.Y,G0 x.Light.Z,E7 x.Rows,E6 x.Frames,E8 x.Tanks,G0 x.G2.Tolerance,G0 x.G2.Trim,G0 x.G2.List_,G0 x.G2.Stability]) Q86 O O O O O O O O) (G8 (hK4 (Jr fun hK6=>(JLh (.ptr 1007 6) (Zw G70 O O) O (JLh (E7 x.Rows) (Zi Gc6 O O O O) O ?_)))))))
 obtain⟨r7,hr7,h⟩:=Ge h
 refine JLh (LT 5 Row.av r7) (Gk O (H4e x.Rows r7 hr7) Qaa ⟨O,O,G⟩) O (JLh (.ptr 1007 6) (Zw G70 O O) O (Jf (u:=.junk) (J2 (u:=LT 5 Row.av r7) (ds:=[LT 12 Gz.av r3,LT 2 H8.av r5,G0 x.Light.Kilos,G0 x.Light.X,G0 x.Light.Y,G0 x.Light.Z,LT 5 Row.av r7,E6 x.Frames,E8 x.Tanks,G0 x.G2.Tolerance,G0 x.G2.Trim,G0 x.G2.List_,G0 x.G2.Stability]) Q85 O O O O O O O O) (G8 (hK6 (Jr fun hK8=>(JLh (.ptr 1007 7) (Zw G6f O O) O (JLh (E6 x.Frames) (Zi Gc5 O O O O) O ?_)))))))
 obtain⟨r9,hr9,h⟩:=Ge h
 refine JLh (LT 5 Frame.av r9) (Gk O (H11 x.Frames r9 hr9) Qa9 ⟨O,O,G⟩) O (JLh (.ptr 1007 7) (Zw G6f O O) O (Jf (u:=.junk) (J2 (u:=LT 5 Frame.av r9) (ds:=[LT 12 Gz.av r3,LT 2 H8.av r5,G0 x.Light.Kilos,G0 x.Light.X,G0 x.Light.Y,G0 x.Light.Z,LT 5 Row.av r7,LT 5 Frame.av r9,E8 x.Tanks,G0 x.G2.Tolerance,G0 x.G2.Trim,G0 x.G2.List_,G0 x.G2.Stability]) Q84 O O O O O O O O) (G8 (hK8 (Jr fun hK10=>(JLh (.ptr 1007 8) (Zw G6e O O) O (JLh (E8 x.Tanks) (Zi Gc4 O O O O) O ?_)))))))
 obtain⟨r11,hr11,h⟩:=Ge h
 refine JLh (LT 6 Hg.av r11) (Gk O (H3b x.Tanks r11 hr11) Qa8 ⟨O,O,G⟩) O (JLh (.ptr 1007 8) (Zw G6e O O) O (Jf (u:=.junk) (J2 (u:=LT 6 Hg.av r11) (ds:=[LT 12 Gz.av r3,LT 2 H8.av r5,G0 x.Light.Kilos,G0 x.Light.X,G0 x.Light.Y,G0 x.Light.Z,LT 5 Row.av r7,LT 5 Frame.av r9,LT 6 Hg.av r11,G0 x.G2.Tolerance,G0 x.G2.Trim,G0 x.G2.List_,G0 x.G2.Stability]) Q83 O O O O O O O O) (G8 (hK10 ?_))))
 refine Gu [(1,.dptr [LT 12 Gz.av r3,LT 2 H8.av r5,G0 x.Light.Kilos,G0 x.Light.X,G0 x.Light.Y,G0 x.Light.Z,LT 5 Row.av r7,LT 5 Frame.av r9,LT 6 Hg.av r11,G0 x.G2.Tolerance,G0 x.G2.Trim,G0 x.G2.List_,G0 x.G2.Stability]),(2,.ptr 1008 0)] [(1008,.box 32 En)] 1007 rfl rfl rfl ⟨⟨_,rfl,.boxEq rfl rfl⟩,G⟩ rfl (by exact⟨.ptr,.conv (.same rfl),G⟩) ?_
 refine Jr fun hK12=>(JLh (.agg [LT 12 Gz.av r3,LT 2 H8.av r5,G0 x.Light.Kilos,G0 x.Light.X,G0 x.Light.Y,G0 x.Light.Z,LT 5 Row.av r7,LT 5 Frame.av r9,LT 6 Hg.av r11,G0 x.G2.Tolerance,G0 x.G2.Trim,G0 x.G2.List_,G0 x.G2.Stability]) (Gj Hh O O O) O (Jf (u:=.junk) (J2 (u:=.agg [LT 12 Gz.av r3,LT 2 H8.av r5,G0 x.Light.Kilos,G0 x.Light.X,G0 x.Light.Y,G0 x.Light.Z,LT 5 Row.av r7,LT 5 Frame.av r9,LT 6 Hg.av r11,G0 x.G2.Tolerance,G0 x.G2.Trim,G0 x.G2.List_,G0 x.G2.Stability]) (ds:=[LT 12 Gz.av r3,LT 2 H8.av r5,G0 x.Light.Kilos,G0 x.Light.X,G0 x.Light.Y,G0 x.Light.Z,LT 5 Row.av r7,LT 5 Frame.av r9,LT 6 Hg.av r11,G0 x.G2.Tolerance,G0 x.G2.Trim,G0 x.G2.List_,G0 x.G2.Stability]) H88 O O O O O O O O) (G8 (hK12 ?_))))
 refine Gr (⟨[.agg [LT 12 Gz.av r3,LT 2 H8.av r5,G0 x.Light.Kilos,G0 x.Light.X,G0 x.Light.Y,G0 x.Light.Z,LT 5 Row.av r7,LT 5 Frame.av r9,LT 6 Hg.av r11,G0 x.G2.Tolerance,G0 x.G2.Trim,G0 x.G2.List_,G0 x.G2.Stability]],[],G,O,⟨⟨_,⟨_,_,_,_,O,O,O,.inl ⟨Hh,O⟩⟩,.conv (.same O)⟩,G⟩,O,congrArg (fun r:Yd=>(.agg (Yd.cs r):AV)) (Option.some.inj h)⟩)

def J0 (a:List Int) (b:List Int):Option Bool:=
 bif decide ((a.length:Int)≠(b.length:Int)) then
 (some false)
 else
 (each (fun y24 i24 (s24:Unit) nx24=>
   Qr b (i24:Int) fun y29=>
   bif decide (y24≠y29) then
   (some false)
   else
   (nx24 ()))
  (fun(s24:Unit)=>
   some true) a 0 ())
theorem J9 (a:List Int) (b:List Int) (r:Bool) (h:J0 a b=some r):Pure Ej 16 [E1 a,E1 b] (·=BL r):=by
 unfold J0 at h
 refine Gx [.tmp 4] Tryz.func16 O O (Jr fun hK1=>(G57 (BL false) O (G8 (hK1 (Js fun hK2=>Jr fun hK3=>(G57 (E1 a) O (JLl Gq O O O fun hm7=>(G57 (E1 b) O (JLl Gq O O O fun hm9=>(JLh (BL (decide ((a.length:Int)≠(b.length:Int)))) (G30 O O O) O (G8 (hK3 (JCc O h (fun h hb=>?_) (fun h hb=>?_))))))))))))))
 ·
  refine Jr fun hK4=>(G57 (BL false) O (G8 (hK4 (Gr (fin1 BL h)))))
 ·
  refine Gn (hK2 (Js fun hK5=>Jr fun hK6=>(G57 (G0 0) O (G8 (hK6 (Gp ?_))))))
  obtain⟨b24,kx24,hb24,hkx24,h⟩:=Hx h
  refine He (fun i24 (s24:Unit)=>each b24 kx24 (List.drop i24 a) i24 s24=some r) (fun i24 s24=>[(0,E1 a),(1,E1 b),(5,Ei i24)]) (fun i24 s24=>[]) (fun i24=>a.length - i24) 0 () h ⟨(.sm O O),G,O⟩ ?_
  clear h
  intro i24 s24 hi24 K24 e24
  refine Js fun hK25=>Jr fun hK26=>(G57 (Ei i24) O (G57 (E1 a) O (JLl Gq O O O fun hm13=>(JLh (BL (decide ((i24:Int) < (a.length:Int)))) (J1 O O O) O (G8 (hK26 (Gm O (fun hb=>?_) (fun hb=>?_))))))))
  ·
   have hk24:=Jc hb
   obtain⟨y24,nx24,hy24,hn24,h⟩:=Hm hi24 hk24
   replace h:=Rn hb24 h
   refine Gn (hK25 (Js fun hK27=>Gp (Js fun hK28=>?_)))
   obtain⟨m30,y29,hm30,hy29,h⟩:=R2 h
   refine JC_d0 Jg (by kernel_rfl) (Dq (E1 a) (G5 O O) O (Dq (Ei i24) (G5 O O) O (Dq (.dptr [G0 y24]) (Gw (f:=G0) (xs:=a) (y:=y24) O O O Gq hy24 O) O (Dq (G0 y24) (Gf Gc O O O) O (Dq (E1 b) (G5 O O) O (Dq (Ei i24) (G5 O O) O (Dq (.dptr [G0 y29]) (Gw (f:=G0) (xs:=b) (y:=y29) O O O Gq hy29 hm30) O (Dq (G0 y29) (Gf Gc O O O) O (Dq (BL (decide (y24≠y29))) (G30 O O O) O (Dnil (hK28 (JCc O h (fun h hb=>?_) (fun h hb=>?_)))))))))))))
   ·
    refine Jr fun hK31=>(G57 (BL false) O (G8 (hK31 (Gr (fin1 BL h)))))
   ·
    refine Gn (hK27 (G3 (G57 (Ei i24) O (JLh (G0 ((i24+1:Nat):Int)) (Hu (Hc hk24 hm13) O O O) O (G57 (G0 ((i24+1:Nat):Int)) O (G8 (e24 _ _ (i24+1) () (app1 hn24 h) (by omega) ⟨(.sm O O),G,rfl⟩)))))))
  ·
   have h:=app1 hkx24 (Hn hi24 (H6 hb))
   refine Hk (hK5 (Jr fun hK32=>(G57 (BL true) O (G8 (hK32 (Gr (fin1 BL h)))))))

def Jq (a:G4) (b:G4):Option Bool:=
 bnd (bif ((((((((decide (a.Bay=b.Bay))&&(decide (a.Row=b.Row)))&&(a.Deck==b.Deck))&&(decide (a.Tiers=b.Tiers)))&&(decide (a.Height=b.Height)))&&(decide (a.Kilos20=b.Kilos20)))&&(decide (a.Kilos40=b.Kilos40)))&&(decide (a.Lash=b.Lash))) then J0 a.Plugs b.Plugs else some default) fun r3=>
 some ((((((((((((decide (a.Bay=b.Bay))&&(decide (a.Row=b.Row)))&&(a.Deck==b.Deck))&&(decide (a.Tiers=b.Tiers)))&&(decide (a.Height=b.Height)))&&(decide (a.Kilos20=b.Kilos20)))&&(decide (a.Kilos40=b.Kilos40)))&&(decide (a.Lash=b.Lash)))&&r3)&&(decide (a.X=b.X)))&&(decide (a.Y=b.Y)))&&(decide (a.Z=b.Z)))
theorem G29 (a:G4) (b:G4) (r:Bool) (h:Jq a b=some r):Pure Ej 97 [.agg (G4.cs a),.agg (G4.cs b)] (·=BL r):=by
 unfold Jq at h
 refine Gx [.tmp 4] Tryz.func97 O O (Jr fun hK1=>(JLh (.ptr 1138 0) (Ja (cs:=(G4.cs a)) 1138 O O O O O) O (JLh (.ptr 1139 0) (Ja (cs:=(G4.cs b)) 1139 O O O O O) O (G57 (BL false) O (G8 (hK1 (Gu [(2,Ed a),(3,.ptr 1139 0)] [(1139,.box 64 (G4.cs b))] 1138 rfl rfl rfl ⟨⟨_,rfl,.boxEq rfl rfl⟩,G⟩ rfl (by exact⟨.ptr,.conv (.same rfl),G⟩) ?_)))))))
 refine Gu [(2,Ed a),(3,Ed b)] [] 1139 rfl rfl rfl G rfl (by exact⟨.conv (.same rfl),.ptr,G⟩) ?_
 refine Jr fun hK2=>(JLh (Ed a) (Ga G0f O O O) O (JLh (G0 a.Bay) (Gf Gc O O O) O (JLh (Ed b) (Ga G0f O O O) O (JLh (G0 b.Bay) (Gf Gc O O O) O (JLh (BL (decide (a.Bay=b.Bay))) (Jx O O O) O (G57 (BL (decide (a.Bay=b.Bay))) O (JLo (.dptr ((G4.cs a).drop 1)) [] O .sct G (fun hc=>Ga G0e O O O) O (JLo (G0 a.Row) [11] O .sct ⟨Ua,G⟩ (fun hc=>Gf Gc O O O) O (JLo (.dptr ((G4.cs b).drop 1)) [] O .sct G (fun hc=>Ga G0e O O O) O (JLo (G0 b.Row) [13] O .sct ⟨Ua,G⟩ (fun hc=>Gf Gc O O O) O (JLo (BL (decide (a.Row=b.Row))) [12,14] O .sct ⟨Ua,Ua,G⟩ (fun hc=>Jx O O O) O (JLh (BL ((decide (a.Bay=b.Bay))&&(decide (a.Row=b.Row)))) (J5 O O O O) O (G57 (BL ((decide (a.Bay=b.Bay))&&(decide (a.Row=b.Row)))) O ?_)))))))))))))
 refine JLo (.dptr ((G4.cs a).drop 2)) [] O .sct G (fun hc=>Ga Yw O O O) O (JLo (BL a.Deck) [18] O .sct ⟨Ua,G⟩ (fun hc=>Gf Ra O O O) O (JLo (.dptr ((G4.cs b).drop 2)) [] O .sct G (fun hc=>Ga Yw O O O) O (JLo (BL b.Deck) [20] O .sct ⟨Ua,G⟩ (fun hc=>Gf Ra O O O) O (JLo (BL (a.Deck==b.Deck)) [19,21] O .sct ⟨Ua,Ua,G⟩ (fun hc=>J5c He7 O O O) O (JLh (BL (((decide (a.Bay=b.Bay))&&(decide (a.Row=b.Row)))&&(a.Deck==b.Deck))) (J5 O O O O) O (G57 (BL (((decide (a.Bay=b.Bay))&&(decide (a.Row=b.Row)))&&(a.Deck==b.Deck))) O (JLo (.dptr ((G4.cs a).drop 3)) [] O .sct G (fun hc=>Ga Zm O O O) O (JLo (G0 a.Tiers) [25] O .sct ⟨Ua,G⟩ (fun hc=>Gf Gc O O O) O (JLo (.dptr ((G4.cs b).drop 3)) [] O .sct G (fun hc=>Ga Zm O O O) O (JLo (G0 b.Tiers) [27] O .sct ⟨Ua,G⟩ (fun hc=>Gf Gc O O O) O (JLo (BL (decide (a.Tiers=b.Tiers))) [26,28] O .sct ⟨Ua,Ua,G⟩ (fun hc=>Jx O O O) O (JLh (BL ((((decide (a.Bay=b.Bay))&&(decide (a.Row=b.Row)))&&(a.Deck==b.Deck))&&(decide (a.Tiers=b.Tiers)))) (J5 O O O O) O (G57 (BL ((((decide (a.Bay=b.Bay))&&(decide (a.Row=b.Row)))&&(a.Deck==b.Deck))&&(decide (a.Tiers=b.Tiers)))) O ?_)))))))))))))
 refine JLo (.dptr ((G4.cs a).drop 4)) [] O .sct G (fun hc=>Ga G2d O O O) O (JLo (G0 a.Height) [32] O .sct ⟨Ua,G⟩ (fun hc=>Gf Gc O O O) O (JLo (.dptr ((G4.cs b).drop 4)) [] O .sct G (fun hc=>Ga G2d O O O) O (JLo (G0 b.Height) [34] O .sct ⟨Ua,G⟩ (fun hc=>Gf Gc O O O) O (JLo (BL (decide (a.Height=b.Height))) [33,35] O .sct ⟨Ua,Ua,G⟩ (fun hc=>Jx O O O) O (JLh (BL (((((decide (a.Bay=b.Bay))&&(decide (a.Row=b.Row)))&&(a.Deck==b.Deck))&&(decide (a.Tiers=b.Tiers)))&&(decide (a.Height=b.Height)))) (J5 O O O O) O (G57 (BL (((((decide (a.Bay=b.Bay))&&(decide (a.Row=b.Row)))&&(a.Deck==b.Deck))&&(decide (a.Tiers=b.Tiers)))&&(decide (a.Height=b.Height)))) O (JLo (.dptr ((G4.cs a).drop 5)) [] O .sct G (fun hc=>Ga Ged O O O) O (JLo (G0 a.Kilos20) [39] O .sct ⟨Ua,G⟩ (fun hc=>Gf Gc O O O) O (JLo (.dptr ((G4.cs b).drop 5)) [] O .sct G (fun hc=>Ga Ged O O O) O (JLo (G0 b.Kilos20) [41] O .sct ⟨Ua,G⟩ (fun hc=>Gf Gc O O O) O (JLo (BL (decide (a.Kilos20=b.Kilos20))) [40,42] O .sct ⟨Ua,Ua,G⟩ (fun hc=>Jx O O O) O (JLh (BL ((((((decide (a.Bay=b.Bay))&&(decide (a.Row=b.Row)))&&(a.Deck==b.Deck))&&(decide (a.Tiers=b.Tiers)))&&(decide (a.Height=b.Height)))&&(decide (a.Kilos20=b.Kilos20)))) (J5 O O O O) O (G57 (BL ((((((decide (a.Bay=b.Bay))&&(decide (a.Row=b.Row)))&&(a.Deck==b.Deck))&&(decide (a.Tiers=b.Tiers)))&&(decide (a.Height=b.Height)))&&(decide (a.Kilos20=b.Kilos20)))) O ?_)))))))))))))
 refine JLo (.dptr ((G4.cs a).drop 6)) [] O .sct G (fun hc=>Ga Gec O O O) O (JLo (G0 a.Kilos40) [46] O .sct ⟨Ua,G⟩ (fun hc=>Gf Gc O O O) O (JLo (.dptr ((G4.cs b).drop 6)) [] O .sct G (fun hc=>Ga Gec O O O) O (JLo (G0 b.Kilos40) [48] O .sct ⟨Ua,G⟩ (fun hc=>Gf Gc O O O) O (JLo (BL (decide (a.Kilos40=b.Kilos40))) [47,49] O .sct ⟨Ua,Ua,G⟩ (fun hc=>Jx O O O) O (JLh (BL (((((((decide (a.Bay=b.Bay))&&(decide (a.Row=b.Row)))&&(a.Deck==b.Deck))&&(decide (a.Tiers=b.Tiers)))&&(decide (a.Height=b.Height)))&&(decide (a.Kilos20=b.Kilos20)))&&(decide (a.Kilos40=b.Kilos40)))) (J5 O O O O) O (G57 (BL (((((((decide (a.Bay=b.Bay))&&(decide (a.Row=b.Row)))&&(a.Deck==b.Deck))&&(decide (a.Tiers=b.Tiers)))&&(decide (a.Height=b.Height)))&&(decide (a.Kilos20=b.Kilos20)))&&(decide (a.Kilos40=b.Kilos40)))) O (JLo (.dptr ((G4.cs a).drop 7)) [] O .sct G (fun hc=>Ga Geb O O O) O (JLo (G0 a.Lash) [53] O .sct ⟨Ua,G⟩ (fun hc=>Gf Gc O O O) O (JLo (.dptr ((G4.cs b).drop 7)) [] O .sct G (fun hc=>Ga Geb O O O) O (JLo (G0 b.Lash) [55] O .sct ⟨Ua,G⟩ (fun hc=>Gf Gc O O O) O (JLo (BL (decide (a.Lash=b.Lash))) [54,56] O .sct ⟨Ua,Ua,G⟩ (fun hc=>Jx O O O) O (JLh (BL ((((((((decide (a.Bay=b.Bay))&&(decide (a.Row=b.Row)))&&(a.Deck==b.Deck))&&(decide (a.Tiers=b.Tiers)))&&(decide (a.Height=b.Height)))&&(decide (a.Kilos20=b.Kilos20)))&&(decide (a.Kilos40=b.Kilos40)))&&(decide (a.Lash=b.Lash)))) (J5 O O O O) O (G57 (BL ((((((((decide (a.Bay=b.Bay))&&(decide (a.Row=b.Row)))&&(a.Deck==b.Deck))&&(decide (a.Tiers=b.Tiers)))&&(decide (a.Height=b.Height)))&&(decide (a.Kilos20=b.Kilos20)))&&(decide (a.Kilos40=b.Kilos40)))&&(decide (a.Lash=b.Lash)))) O ?_)))))))))))))
 refine JLo (.dptr ((G4.cs a).drop 8)) [] O .sct G (fun hc=>Ga R9 O O O) O (JLo (E1 a.Plugs) [60] O .sct ⟨Ua,G⟩ (fun hc=>Gf Hy O O O) O (JLo (.dptr ((G4.cs b).drop 8)) [] O .sct G (fun hc=>Ga R9 O O O) O (JLo (E1 b.Plugs) [62] O .sct ⟨Ua,G⟩ (fun hc=>Gf Hy O O O) O ?_)))
 obtain⟨r3,hr3,h⟩:=Ge h
 refine JLo (BL r3) [61,63] O .sct ⟨Ua,Ua,G⟩ (fun hc=>Gk (args:=[E1 a.Plugs,E1 b.Plugs]) O (J9 a.Plugs b.Plugs r3 (Gy hc hr3)) G07 ⟨O,O,O,O,G⟩) O (JLh (BL (((((((((decide (a.Bay=b.Bay))&&(decide (a.Row=b.Row)))&&(a.Deck==b.Deck))&&(decide (a.Tiers=b.Tiers)))&&(decide (a.Height=b.Height)))&&(decide (a.Kilos20=b.Kilos20)))&&(decide (a.Kilos40=b.Kilos40)))&&(decide (a.Lash=b.Lash)))&&r3)) (J5 O O O O) O (G57 (BL (((((((((decide (a.Bay=b.Bay))&&(decide (a.Row=b.Row)))&&(a.Deck==b.Deck))&&(decide (a.Tiers=b.Tiers)))&&(decide (a.Height=b.Height)))&&(decide (a.Kilos20=b.Kilos20)))&&(decide (a.Kilos40=b.Kilos40)))&&(decide (a.Lash=b.Lash)))&&r3)) O (JLo (.dptr [G0 a.X,G0 a.Y,G0 a.Z]) [] O .sct G (fun hc=>Ga Gea O O O) O (JLo (G0 a.X) [67] O .sct ⟨Ua,G⟩ (fun hc=>Gf Gc O O O) O (JLo (.dptr [G0 b.X,G0 b.Y,G0 b.Z]) [] O .sct G (fun hc=>Ga Gea O O O) O (JLo (G0 b.X) [69] O .sct ⟨Ua,G⟩ (fun hc=>Gf Gc O O O) O (JLo (BL (decide (a.X=b.X))) [68,70] O .sct ⟨Ua,Ua,G⟩ (fun hc=>Jx O O O) O (JLh (BL ((((((((((decide (a.Bay=b.Bay))&&(decide (a.Row=b.Row)))&&(a.Deck==b.Deck))&&(decide (a.Tiers=b.Tiers)))&&(decide (a.Height=b.Height)))&&(decide (a.Kilos20=b.Kilos20)))&&(decide (a.Kilos40=b.Kilos40)))&&(decide (a.Lash=b.Lash)))&&r3)&&(decide (a.X=b.X)))) (J5 O O O O) O (G57 (BL ((((((((((decide (a.Bay=b.Bay))&&(decide (a.Row=b.Row)))&&(a.Deck==b.Deck))&&(decide (a.Tiers=b.Tiers)))&&(decide (a.Height=b.Height)))&&(decide (a.Kilos20=b.Kilos20)))&&(decide (a.Kilos40=b.Kilos40)))&&(decide (a.Lash=b.Lash)))&&r3)&&(decide (a.X=b.X)))) O (JLo (.dptr [G0 a.Y,G0 a.Z]) [] O .sct G (fun hc=>Ga Gc8 O O O) O (JLo (G0 a.Y) [74] O .sct ⟨Ua,G⟩ (fun hc=>Gf Gc O O O) O (JLo (.dptr [G0 b.Y,G0 b.Z]) [] O .sct G (fun hc=>Ga Gc8 O O O) O (JLo (G0 b.Y) [76] O .sct ⟨Ua,G⟩ (fun hc=>Gf Gc O O O) O ?_)))))))))))))
 refine JLo (BL (decide (a.Y=b.Y))) [75,77] O .sct ⟨Ua,Ua,G⟩ (fun hc=>Jx O O O) O (JLh (BL (((((((((((decide (a.Bay=b.Bay))&&(decide (a.Row=b.Row)))&&(a.Deck==b.Deck))&&(decide (a.Tiers=b.Tiers)))&&(decide (a.Height=b.Height)))&&(decide (a.Kilos20=b.Kilos20)))&&(decide (a.Kilos40=b.Kilos40)))&&(decide (a.Lash=b.Lash)))&&r3)&&(decide (a.X=b.X)))&&(decide (a.Y=b.Y)))) (J5 O O O O) O (G57 (BL (((((((((((decide (a.Bay=b.Bay))&&(decide (a.Row=b.Row)))&&(a.Deck==b.Deck))&&(decide (a.Tiers=b.Tiers)))&&(decide (a.Height=b.Height)))&&(decide (a.Kilos20=b.Kilos20)))&&(decide (a.Kilos40=b.Kilos40)))&&(decide (a.Lash=b.Lash)))&&r3)&&(decide (a.X=b.X)))&&(decide (a.Y=b.Y)))) O (JLo (.dptr [G0 a.Z]) [] O .sct G (fun hc=>Ga Gc7 O O O) O (JLo (G0 a.Z) [81] O .sct ⟨Ua,G⟩ (fun hc=>Gf Gc O O O) O (JLo (.dptr [G0 b.Z]) [] O .sct G (fun hc=>Ga Gc7 O O O) O (JLo (G0 b.Z) [83] O .sct ⟨Ua,G⟩ (fun hc=>Gf Gc O O O) O (JLo (BL (decide (a.Z=b.Z))) [82,84] O .sct ⟨Ua,Ua,G⟩ (fun hc=>Jx O O O) O (JLh (BL ((((((((((((decide (a.Bay=b.Bay))&&(decide (a.Row=b.Row)))&&(a.Deck==b.Deck))&&(decide (a.Tiers=b.Tiers)))&&(decide (a.Height=b.Height)))&&(decide (a.Kilos20=b.Kilos20)))&&(decide (a.Kilos40=b.Kilos40)))&&(decide (a.Lash=b.Lash)))&&r3)&&(decide (a.X=b.X)))&&(decide (a.Y=b.Y)))&&(decide (a.Z=b.Z)))) (J5 O O O O) O (G57 (BL ((((((((((((decide (a.Bay=b.Bay))&&(decide (a.Row=b.Row)))&&(a.Deck==b.Deck))&&(decide (a.Tiers=b.Tiers)))&&(decide (a.Height=b.Height)))&&(decide (a.Kilos20=b.Kilos20)))&&(decide (a.Kilos40=b.Kilos40)))&&(decide (a.Lash=b.Lash)))&&r3)&&(decide (a.X=b.X)))&&(decide (a.Y=b.Y)))&&(decide (a.Z=b.Z)))) O (G8 (hK2 ?_)))))))))))
 refine Gr (fin1 BL h)

def Y7 (a:List G4) (b:List G4):Option Bool:=
 bif decide ((a.length:Int)≠(b.length:Int)) then
 (some false)
 else
 (each (fun y26 i26 (s26:Unit) nx26=>
   Qr b (i26:Int) fun y31=>
   bnd (Jq y26 y31) fun r33=>
   bif (!r33) then
   (some false)
   else
   (nx26 ()))
  (fun(s26:Unit)=>
   some true) a 0 ())
theorem H03 (a:List G4) (b:List G4) (r:Bool) (h:Y7 a b=some r):Pure Ej 91 [E4 a,E4 b] (·=BL r):=by
 unfold Y7 at h
 refine Gx [.tmp 4] Tryz.func91 O O (Jr fun hK1=>(G57 (BL false) O (G8 (hK1 (Js fun hK2=>Jr fun hK3=>(G57 (E4 a) O (JLl H5 O O O fun hm7=>(G57 (E4 b) O (JLl H5 O O O fun hm9=>(JLh (BL (decide ((a.length:Int)≠(b.length:Int)))) (G30 O O O) O (G8 (hK3 (JCc O h (fun h hb=>?_) (fun h hb=>?_))))))))))))))
 ·
  refine Jr fun hK4=>(G57 (BL false) O (G8 (hK4 (Gr (fin1 BL h)))))
 ·
  refine Gn (hK2 (Js fun hK5=>Jr fun hK6=>(G57 (G0 0) O (G8 (hK6 (Gp ?_))))))
  obtain⟨b26,kx26,hb26,hkx26,h⟩:=Hx h
  refine He (fun i26 (s26:Unit)=>each b26 kx26 (List.drop i26 a) i26 s26=some r) (fun i26 s26=>[(0,E4 a),(1,E4 b),(5,Ei i26)]) (fun i26 s26=>[]) (fun i26=>a.length - i26) 0 () h ⟨(.sm O O),G,O⟩ ?_
  clear h
  intro i26 s26 hi26 K26 e26
  refine Js fun hK27=>Jr fun hK28=>(G57 (Ei i26) O (G57 (E4 a) O (JLl H5 O O O fun hm13=>(JLh (BL (decide ((i26:Int) < (a.length:Int)))) (J1 O O O) O (G8 (hK28 (Gm O (fun hb=>?_) (fun hb=>?_))))))))
  ·
   have hk26:=Jc hb
   obtain⟨y26,nx26,hy26,hn26,h⟩:=Hm hi26 hk26
   replace h:=Rn hb26 h
   refine Gn (hK27 (Js fun hK29=>Gp (Js fun hK30=>?_)))
   obtain⟨m32,y31,hm32,hy31,h⟩:=R2 h
   obtain⟨r33,hr33,h⟩:=Ge h
   refine JC_d0 Jg (by kernel_rfl) (Dq (E4 a) (G5 O O) O (Dq (Ei i26) (G5 O O) O (Dq (Ed y26) (Gw (f:=G4.av) (xs:=a) (y:=y26) O O O H5 hy26 O) O (Dq (.agg (G4.cs y26)) (Gj Rq O O O) O (Dq (E4 b) (G5 O O) O (Dq (Ei i26) (G5 O O) O (Dq (Ed y31) (Gw (f:=G4.av) (xs:=b) (y:=y31) O O O H5 hy31 hm32) O (Dq (.agg (G4.cs y31)) (Gj Rq O O O) O (Dq (BL r33) (Gk (args:=[.agg (G4.cs y26),.agg (G4.cs y31)]) O (G29 y26 y31 r33 hr33) J17 ⟨O,O,O,O,G⟩) O (Dq (BL (!r33)) (Qh (b:=r33) O O) O (Dnil (hK30 (JCc O h (fun h hb=>?_) (fun h hb=>?_))))))))))))))
   ·
    refine Jr fun hK34=>(G57 (BL false) O (G8 (hK34 (Gr (fin1 BL h)))))
   ·
    refine Gn (hK29 (G3 (G57 (Ei i26) O (JLh (G0 ((i26+1:Nat):Int)) (Hu (Hc hk26 hm13) O O O) O (G57 (G0 ((i26+1:Nat):Int)) O (G8 (e26 _ _ (i26+1) () (app1 hn26 h) (by omega) ⟨(.sm O O),G,rfl⟩)))))))
  ·
   have h:=app1 hkx26 (Hn hi26 (H6 hb))
   refine Hk (hK5 (Jr fun hK35=>(G57 (BL true) O (G8 (hK35 (Gr (fin1 BL h)))))))

def Jz (a:G9) (b:G9):Option Bool:=
 bnd (bif decide (a.Bay=b.Bay) then J0 a.Rows b.Rows else some default) fun r3=>
 some ((decide (a.Bay=b.Bay))&&r3)
theorem G38 (a:G9) (b:G9) (r:Bool) (h:Jz a b=some r):Pure Ej 99 [.agg [G0 a.Bay,E1 a.Rows],.agg [G0 b.Bay,E1 b.Rows]] (·=BL r):=by
 unfold Jz at h
 refine Gx [.tmp 4] Tryz.func99 O O (Jr fun hK1=>(JLh (.ptr 1142 0) (Ja (cs:=[G0 a.Bay,E1 a.Rows]) 1142 O O O O O) O (JLh (.ptr 1143 0) (Ja (cs:=[G0 b.Bay,E1 b.Rows]) 1143 O O O O O) O (G57 (BL false) O (G8 (hK1 (Gu [(2,.dptr [G0 a.Bay,E1 a.Rows]),(3,.ptr 1143 0)] [(1143,.box 66 [G0 b.Bay,E1 b.Rows])] 1142 rfl rfl rfl ⟨⟨_,rfl,.boxEq rfl rfl⟩,G⟩ rfl (by exact⟨.ptr,.conv (.same rfl),G⟩) (Gu [(2,.dptr [G0 a.Bay,E1 a.Rows]),(3,.dptr [G0 b.Bay,E1 b.Rows])] [] 1143 rfl rfl rfl G rfl (by exact⟨.conv (.same rfl),.ptr,G⟩) ?_))))))))
 refine Jr fun hK2=>(JLh (.dptr [G0 a.Bay,E1 a.Rows]) (Ga Zk O O O) O (JLh (G0 a.Bay) (Gf Gc O O O) O (JLh (.dptr [G0 b.Bay,E1 b.Rows]) (Ga Zk O O O) O (JLh (G0 b.Bay) (Gf Gc O O O) O (JLh (BL (decide (a.Bay=b.Bay))) (Jx O O O) O (G57 (BL (decide (a.Bay=b.Bay))) O (JLo (.dptr [E1 a.Rows]) [] O .sct G (fun hc=>Ga Q8 O O O) O (JLo (E1 a.Rows) [11] O .sct ⟨Ua,G⟩ (fun hc=>Gf Hy O O O) O (JLo (.dptr [E1 b.Rows]) [] O .sct G (fun hc=>Ga Q8 O O O) O (JLo (E1 b.Rows) [13] O .sct ⟨Ua,G⟩ (fun hc=>Gf Hy O O O) O ?_))))))))))
 obtain⟨r3,hr3,h⟩:=Ge h
 refine JLo (BL r3) [12,14] O .sct ⟨Ua,Ua,G⟩ (fun hc=>Gk (args:=[E1 a.Rows,E1 b.Rows]) O (J9 a.Rows b.Rows r3 (Gy hc hr3)) G07 ⟨O,O,O,O,G⟩) O (JLh (BL ((decide (a.Bay=b.Bay))&&r3)) (J5 O O O O) O (G57 (BL ((decide (a.Bay=b.Bay))&&r3)) O (G8 (hK2 (Gr (fin1 BL h))))))

def Yk (a:List G9) (b:List G9):Option Bool:=
 bif decide ((a.length:Int)≠(b.length:Int)) then
 (some false)
 else
 (each (fun y26 i26 (s26:Unit) nx26=>
   Qr b (i26:Int) fun y31=>
   bnd (Jz y26 y31) fun r33=>
   bif (!r33) then
   (some false)
   else
   (nx26 ()))
  (fun(s26:Unit)=>
   some true) a 0 ())
theorem H10 (a:List G9) (b:List G9) (r:Bool) (h:Yk a b=some r):Pure Ej 92 [E5 a,E5 b] (·=BL r):=by
 unfold Yk at h
 refine Gx [.tmp 4] Tryz.func92 O O (Jr fun hK1=>(G57 (BL false) O (G8 (hK1 (Js fun hK2=>Jr fun hK3=>(G57 (E5 a) O (JLl Hr O O O fun hm7=>(G57 (E5 b) O (JLl Hr O O O fun hm9=>(JLh (BL (decide ((a.length:Int)≠(b.length:Int)))) (G30 O O O) O (G8 (hK3 (JCc O h (fun h hb=>?_) (fun h hb=>?_))))))))))))))
 ·
  refine Jr fun hK4=>(G57 (BL false) O (G8 (hK4 (Gr (fin1 BL h)))))
 ·
  refine Gn (hK2 (Js fun hK5=>Jr fun hK6=>(G57 (G0 0) O (G8 (hK6 (Gp ?_))))))
  obtain⟨b26,kx26,hb26,hkx26,h⟩:=Hx h
  refine He (fun i26 (s26:Unit)=>each b26 kx26 (List.drop i26 a) i26 s26=some r) (fun i26 s26=>[(0,E5 a),(1,E5 b),(5,Ei i26)]) (fun i26 s26=>[]) (fun i26=>a.length - i26) 0 () h ⟨(.sm O O),G,O⟩ ?_
  clear h
  intro i26 s26 hi26 K26 e26
  refine Js fun hK27=>Jr fun hK28=>(G57 (Ei i26) O (G57 (E5 a) O (JLl Hr O O O fun hm13=>(JLh (BL (decide ((i26:Int) < (a.length:Int)))) (J1 O O O) O (G8 (hK28 (Gm O (fun hb=>?_) (fun hb=>?_))))))))
  ·
   have hk26:=Jc hb
   obtain⟨y26,nx26,hy26,hn26,h⟩:=Hm hi26 hk26
   replace h:=Rn hb26 h
   refine Gn (hK27 (Js fun hK29=>Gp (Js fun hK30=>?_)))
   obtain⟨m32,y31,hm32,hy31,h⟩:=R2 h
   obtain⟨r33,hr33,h⟩:=Ge h
   refine JC_d0 Jg (by kernel_rfl) (Dq (E5 a) (G5 O O) O (Dq (Ei i26) (G5 O O) O (Dq (.dptr [G0 y26.Bay,E1 y26.Rows]) (Gw (f:=G9.av) (xs:=a) (y:=y26) O O O Hr hy26 O) O (Dq (.agg [G0 y26.Bay,E1 y26.Rows]) (Gj Ye O O O) O (Dq (E5 b) (G5 O O) O (Dq (Ei i26) (G5 O O) O (Dq (.dptr [G0 y31.Bay,E1 y31.Rows]) (Gw (f:=G9.av) (xs:=b) (y:=y31) O O O Hr hy31 hm32) O (Dq (.agg [G0 y31.Bay,E1 y31.Rows]) (Gj Ye O O O) O (Dq (BL r33) (Gk (args:=[.agg [G0 y26.Bay,E1 y26.Rows],.agg [G0 y31.Bay,E1 y31.Rows]]) O (G38 y26 y31 r33 hr33) J16 ⟨O,O,O,O,G⟩) O (Dq (BL (!r33)) (Qh (b:=r33) O O) O (Dnil (hK30 (JCc O h (fun h hb=>?_) (fun h hb=>?_))))))))))))))
   ·
    refine Jr fun hK34=>(G57 (BL false) O (G8 (hK34 (Gr (fin1 BL h)))))
   ·
    refine Gn (hK29 (G3 (G57 (Ei i26) O (JLh (G0 ((i26+1:Nat):Int)) (Hu (Hc hk26 hm13) O O O) O (G57 (G0 ((i26+1:Nat):Int)) O (G8 (e26 _ _ (i26+1) () (app1 hn26 h) (by omega) ⟨(.sm O O),G,rfl⟩)))))))
  ·
   have h:=app1 hkx26 (Hn hi26 (H6 hb))
   refine Hk (hK5 (Jr fun hK35=>(G57 (BL true) O (G8 (hK35 (Gr (fin1 BL h)))))))

def Zc (a:List Row) (b:List Row):Option Bool:=
 bif decide ((a.length:Int)≠(b.length:Int)) then
 (some false)
 else
 (each (fun y24 i24 (s24:Unit) nx24=>
   Qr b (i24:Int) fun y29=>
   bif (!decide (y24=y29)) then
   (some false)
   else
   (nx24 ()))
  (fun(s24:Unit)=>
   some true) a 0 ())
theorem H4b (a:List Row) (b:List Row) (r:Bool) (h:Zc a b=some r):Pure Ej 93 [E7 a,E7 b] (·=BL r):=by
 unfold Zc at h
 refine Gx [.tmp 4] Tryz.func93 O O (Jr fun hK1=>(G57 (BL false) O (G8 (hK1 (Js fun hK2=>Jr fun hK3=>(G57 (E7 a) O (JLl Qc O O O fun hm7=>(G57 (E7 b) O (JLl Qc O O O fun hm9=>(JLh (BL (decide ((a.length:Int)≠(b.length:Int)))) (G30 O O O) O (G8 (hK3 (JCc O h (fun h hb=>?_) (fun h hb=>?_))))))))))))))
 ·
  refine Jr fun hK4=>(G57 (BL false) O (G8 (hK4 (Gr (fin1 BL h)))))
 ·
  refine Gn (hK2 (Js fun hK5=>Jr fun hK6=>(G57 (G0 0) O (G8 (hK6 (Gp ?_))))))
  obtain⟨b24,kx24,hb24,hkx24,h⟩:=Hx h
  refine He (fun i24 (s24:Unit)=>each b24 kx24 (List.drop i24 a) i24 s24=some r) (fun i24 s24=>[(0,E7 a),(1,E7 b),(5,Ei i24)]) (fun i24 s24=>[]) (fun i24=>a.length - i24) 0 () h ⟨(.sm O O),G,O⟩ ?_
  clear h
  intro i24 s24 hi24 K24 e24
  refine Js fun hK25=>Jr fun hK26=>(G57 (Ei i24) O (G57 (E7 a) O (JLl Qc O O O fun hm13=>(JLh (BL (decide ((i24:Int) < (a.length:Int)))) (J1 O O O) O (G8 (hK26 (Gm O (fun hb=>?_) (fun hb=>?_))))))))
  ·
   have hk24:=Jc hb
   obtain⟨y24,nx24,hy24,hn24,h⟩:=Hm hi24 hk24
   replace h:=Rn hb24 h
   refine Gn (hK25 (Js fun hK27=>Gp (Js fun hK28=>?_)))
   obtain⟨m30,y29,hm30,hy29,h⟩:=R2 h
   refine JC_d0 Jg (by kernel_rfl) (Dq (E7 a) (G5 O O) O (Dq (Ei i24) (G5 O O) O (Dq (.dptr (Row.cs y24)) (Gw (f:=Row.av) (xs:=a) (y:=y24) O O O Qc hy24 O) O (Dq (.agg (Row.cs y24)) (Gj Gde O O O) O (Dq (E7 b) (G5 O O) O (Dq (Ei i24) (G5 O O) O (Dq (.dptr (Row.cs y29)) (Gw (f:=Row.av) (xs:=b) (y:=y29) O O O Qc hy29 hm30) O (Dq (.agg (Row.cs y29)) (Gj Gde O O O) O (Dq (BL (!decide (y24=y29))) (Q44 (vs:=[.int .i64 y24.Draught,.int .i64 y24.Kilos,.int .i64 y24.Buoy,.int .i64 y24.Metacentre,.int .i64 y24.Hd8]) (us:=[.int .i64 y29.Draught,.int .i64 y29.Kilos,.int .i64 y29.Buoy,.int .i64 y29.Metacentre,.int .i64 y29.Hd8]) 4 O (tq_108 y24 y29) H91 J12 O O O) O (Dnil (hK28 ?_)))))))))))
   refine JCc O h ?_ ?_<;>intro h hb
   ·
    refine Jr fun hK31=>(G57 (BL false) O (G8 (hK31 (Gr (fin1 BL h)))))
   ·
    refine Gn (hK27 (G3 (G57 (Ei i24) O (JLh (G0 ((i24+1:Nat):Int)) (Hu (Hc hk24 hm13) O O O) O (G57 (G0 ((i24+1:Nat):Int)) O (G8 (e24 _ _ (i24+1) () (app1 hn24 h) (by omega) ⟨(.sm O O),G,rfl⟩)))))))
  ·
   have h:=app1 hkx24 (Hn hi24 (H6 hb))
   refine Hk (hK5 (Jr fun hK32=>(G57 (BL true) O (G8 (hK32 (Gr (fin1 BL h)))))))

def Yj (a:List Frame) (b:List Frame):Option Bool:=
 bif decide ((a.length:Int)≠(b.length:Int)) then
 (some false)
 else
 (each (fun y24 i24 (s24:Unit) nx24=>
   Qr b (i24:Int) fun y29=>
   bif (!decide (y24=y29)) then
   (some false)
   else
   (nx24 ()))
  (fun(s24:Unit)=>
   some true) a 0 ())
theorem H0f (a:List Frame) (b:List Frame) (r:Bool) (h:Yj a b=some r):Pure Ej 94 [E6 a,E6 b] (·=BL r):=by
 unfold Yj at h
 refine Gx [.tmp 4] Tryz.func94 O O (Jr fun hK1=>(G57 (BL false) O (G8 (hK1 (Js fun hK2=>Jr fun hK3=>(G57 (E6 a) O (JLl Qb O O O fun hm7=>(G57 (E6 b) O (JLl Qb O O O fun hm9=>(JLh (BL (decide ((a.length:Int)≠(b.length:Int)))) (G30 O O O) O (G8 (hK3 (JCc O h (fun h hb=>?_) (fun h hb=>?_))))))))))))))
 ·
  refine Jr fun hK4=>(G57 (BL false) O (G8 (hK4 (Gr (fin1 BL h)))))
 ·
  refine Gn (hK2 (Js fun hK5=>Jr fun hK6=>(G57 (G0 0) O (G8 (hK6 (Gp ?_))))))
  obtain⟨b24,kx24,hb24,hkx24,h⟩:=Hx h
  refine He (fun i24 (s24:Unit)=>each b24 kx24 (List.drop i24 a) i24 s24=some r) (fun i24 s24=>[(0,E6 a),(1,E6 b),(5,Ei i24)]) (fun i24 s24=>[]) (fun i24=>a.length - i24) 0 () h ⟨(.sm O O),G,O⟩ ?_
  clear h
  intro i24 s24 hi24 K24 e24
  refine Js fun hK25=>Jr fun hK26=>(G57 (Ei i24) O (G57 (E6 a) O (JLl Qb O O O fun hm13=>(JLh (BL (decide ((i24:Int) < (a.length:Int)))) (J1 O O O) O (G8 (hK26 (Gm O (fun hb=>?_) (fun hb=>?_))))))))
  ·
   have hk24:=Jc hb
   obtain⟨y24,nx24,hy24,hn24,h⟩:=Hm hi24 hk24
   replace h:=Rn hb24 h
   refine Gn (hK25 (Js fun hK27=>Gp (Js fun hK28=>?_)))
   obtain⟨m30,y29,hm30,hy29,h⟩:=R2 h
   refine JC_d0 Jg (by kernel_rfl) (Dq (E6 a) (G5 O O) O (Dq (Ei i24) (G5 O O) O (Dq (.dptr (Frame.cs y24)) (Gw (f:=Frame.av) (xs:=a) (y:=y24) O O O Qb hy24 O) O (Dq (.agg (Frame.cs y24)) (Gj Gdd O O O) O (Dq (E6 b) (G5 O O) O (Dq (Ei i24) (G5 O O) O (Dq (.dptr (Frame.cs y29)) (Gw (f:=Frame.av) (xs:=b) (y:=y29) O O O Qb hy29 hm30) O (Dq (.agg (Frame.cs y29)) (Gj Gdd O O O) O (Dq (BL (!decide (y24=y29))) (Q44 (vs:=[.int .i64 y24.X,.int .i64 y24.Light,.int .i64 y24.Share,.int .i64 y24.Shear,.int .i64 y24.Bend]) (us:=[.int .i64 y29.X,.int .i64 y29.Light,.int .i64 y29.Share,.int .i64 y29.Shear,.int .i64 y29.Bend]) 4 O (tq_111 y24 y29) H90 J11 O O O) O (Dnil (hK28 (JCc O h (fun h hb=>?_) (fun h hb=>?_)))))))))))))
   ·
    refine Jr fun hK31=>(G57 (BL false) O (G8 (hK31 (Gr (fin1 BL h)))))
   ·
    refine Gn (hK27 (G3 (G57 (Ei i24) O (JLh (G0 ((i24+1:Nat):Int)) (Hu (Hc hk24 hm13) O O O) O (G57 (G0 ((i24+1:Nat):Int)) O (G8 (e24 _ _ (i24+1) () (app1 hn24 h) (by omega) ⟨(.sm O O),G,rfl⟩)))))))
  ·
   have h:=app1 hkx24 (Hn hi24 (H6 hb))
   refine Hk (hK5 (Jr fun hK32=>(G57 (BL true) O (G8 (hK32 (Gr (fin1 BL h)))))))

def Q2 (a:Gh) (b:Gh):Option Bool:=
 bnd (bif (((((decide (a.Kilos=b.Kilos))&&(decide (a.X=b.X)))&&(decide (a.Y=b.Y)))&&(decide (a.Z=b.Z)))&&(decide (a.Surface=b.Surface))) then J0 a.Steps b.Steps else some default) fun r3=>
 some ((((((decide (a.Kilos=b.Kilos))&&(decide (a.X=b.X)))&&(decide (a.Y=b.Y)))&&(decide (a.Z=b.Z)))&&(decide (a.Surface=b.Surface)))&&r3)
theorem G3f (a:Gh) (b:Gh) (r:Bool) (h:Q2 a b=some r):Pure Ej 101 [.agg (Gh.cs a),.agg (Gh.cs b)] (·=BL r):=by
 unfold Q2 at h
 refine Gx [.tmp 4] Tryz.func101 O O (Jr fun hK1=>(JLh (.ptr 1146 0) (Ja (cs:=[G0 a.Kilos,G0 a.X,G0 a.Y,G0 a.Z,G0 a.Surface,E1 a.Steps]) 1146 O O O O O) O (JLh (.ptr 1147 0) (Ja (cs:=[G0 b.Kilos,G0 b.X,G0 b.Y,G0 b.Z,G0 b.Surface,E1 b.Steps]) 1147 O O O O O) O (G57 (BL false) O (G8 (hK1 (Gu [(2,Eh a),(3,.ptr 1147 0)] [(1147,.box 114 [G0 b.Kilos,G0 b.X,G0 b.Y,G0 b.Z,G0 b.Surface,E1 b.Steps])] 1146 rfl rfl rfl ⟨⟨_,rfl,.boxEq rfl rfl⟩,G⟩ rfl (by exact⟨.ptr,.conv (.same rfl),G⟩) (Gu [(2,Eh a),(3,Eh b)] [] 1147 rfl rfl rfl G rfl (by exact⟨.conv (.same rfl),.ptr,G⟩) ?_))))))))
 refine Jr fun hK2=>(JLh (Eh a) (Ga Hbd O O O) O (JLh (G0 a.Kilos) (Gf Gc O O O) O (JLh (Eh b) (Ga Hbd O O O) O (JLh (G0 b.Kilos) (Gf Gc O O O) O (JLh (BL (decide (a.Kilos=b.Kilos))) (Jx O O O) O (G57 (BL (decide (a.Kilos=b.Kilos))) O (JLo (.dptr ((Gh.cs a).drop 1)) [] O .sct G (fun hc=>Ga Hbc O O O) O (JLo (G0 a.X) [11] O .sct ⟨Ua,G⟩ (fun hc=>Gf Gc O O O) O (JLo (.dptr ((Gh.cs b).drop 1)) [] O .sct G (fun hc=>Ga Hbc O O O) O (JLo (G0 b.X) [13] O .sct ⟨Ua,G⟩ (fun hc=>Gf Gc O O O) O (JLo (BL (decide (a.X=b.X))) [12,14] O .sct ⟨Ua,Ua,G⟩ (fun hc=>Jx O O O) O (JLh (BL ((decide (a.Kilos=b.Kilos))&&(decide (a.X=b.X)))) (J5 O O O O) O (G57 (BL ((decide (a.Kilos=b.Kilos))&&(decide (a.X=b.X)))) O ?_)))))))))))))
 refine JLo (.dptr ((Gh.cs a).drop 2)) [] O .sct G (fun hc=>Ga Hbb O O O) O (JLo (G0 a.Y) [18] O .sct ⟨Ua,G⟩ (fun hc=>Gf Gc O O O) O (JLo (.dptr ((Gh.cs b).drop 2)) [] O .sct G (fun hc=>Ga Hbb O O O) O (JLo (G0 b.Y) [20] O .sct ⟨Ua,G⟩ (fun hc=>Gf Gc O O O) O (JLo (BL (decide (a.Y=b.Y))) [19,21] O .sct ⟨Ua,Ua,G⟩ (fun hc=>Jx O O O) O (JLh (BL (((decide (a.Kilos=b.Kilos))&&(decide (a.X=b.X)))&&(decide (a.Y=b.Y)))) (J5 O O O O) O (G57 (BL (((decide (a.Kilos=b.Kilos))&&(decide (a.X=b.X)))&&(decide (a.Y=b.Y)))) O (JLo (.dptr ((Gh.cs a).drop 3)) [] O .sct G (fun hc=>Ga Hba O O O) O (JLo (G0 a.Z) [25] O .sct ⟨Ua,G⟩ (fun hc=>Gf Gc O O O) O (JLo (.dptr ((Gh.cs b).drop 3)) [] O .sct G (fun hc=>Ga Hba O O O) O (JLo (G0 b.Z) [27] O .sct ⟨Ua,G⟩ (fun hc=>Gf Gc O O O) O (JLo (BL (decide (a.Z=b.Z))) [26,28] O .sct ⟨Ua,Ua,G⟩ (fun hc=>Jx O O O) O (JLh (BL ((((decide (a.Kilos=b.Kilos))&&(decide (a.X=b.X)))&&(decide (a.Y=b.Y)))&&(decide (a.Z=b.Z)))) (J5 O O O O) O (G57 (BL ((((decide (a.Kilos=b.Kilos))&&(decide (a.X=b.X)))&&(decide (a.Y=b.Y)))&&(decide (a.Z=b.Z)))) O ?_)))))))))))))
 refine JLo (.dptr [G0 a.Surface,E1 a.Steps]) [] O .sct G (fun hc=>Ga Hb9 O O O) O (JLo (G0 a.Surface) [32] O .sct ⟨Ua,G⟩ (fun hc=>Gf Gc O O O) O (JLo (.dptr [G0 b.Surface,E1 b.Steps]) [] O .sct G (fun hc=>Ga Hb9 O O O) O (JLo (G0 b.Surface) [34] O .sct ⟨Ua,G⟩ (fun hc=>Gf Gc O O O) O (JLo (BL (decide (a.Surface=b.Surface))) [33,35] O .sct ⟨Ua,Ua,G⟩ (fun hc=>Jx O O O) O (JLh (BL (((((decide (a.Kilos=b.Kilos))&&(decide (a.X=b.X)))&&(decide (a.Y=b.Y)))&&(decide (a.Z=b.Z)))&&(decide (a.Surface=b.Surface)))) (J5 O O O O) O (G57 (BL (((((decide (a.Kilos=b.Kilos))&&(decide (a.X=b.X)))&&(decide (a.Y=b.Y)))&&(decide (a.Z=b.Z)))&&(decide (a.Surface=b.Surface)))) O (JLo (.dptr [E1 a.Steps]) [] O .sct G (fun hc=>Ga G5c O O O) O (JLo (E1 a.Steps) [39] O .sct ⟨Ua,G⟩ (fun hc=>Gf Hy O O O) O (JLo (.dptr [E1 b.Steps]) [] O .sct G (fun hc=>Ga G5c O O O) O (JLo (E1 b.Steps) [41] O .sct ⟨Ua,G⟩ (fun hc=>Gf Hy O O O) O ?_))))))))))
 obtain⟨r3,hr3,h⟩:=Ge h
 refine JLo (BL r3) [40,42] O .sct ⟨Ua,Ua,G⟩ (fun hc=>Gk (args:=[E1 a.Steps,E1 b.Steps]) O (J9 a.Steps b.Steps r3 (Gy hc hr3)) G07 ⟨O,O,O,O,G⟩) O (JLh (BL ((((((decide (a.Kilos=b.Kilos))&&(decide (a.X=b.X)))&&(decide (a.Y=b.Y)))&&(decide (a.Z=b.Z)))&&(decide (a.Surface=b.Surface)))&&r3)) (J5 O O O O) O (G57 (BL ((((((decide (a.Kilos=b.Kilos))&&(decide (a.X=b.X)))&&(decide (a.Y=b.Y)))&&(decide (a.Z=b.Z)))&&(decide (a.Surface=b.Surface)))&&r3)) O (G8 (hK2 (Gr (fin1 BL h))))))

def Yx (a:List Gh) (b:List Gh):Option Bool:=
 bif decide ((a.length:Int)≠(b.length:Int)) then
 (some false)
 else
 (each (fun y26 i26 (s26:Unit) nx26=>
   Qr b (i26:Int) fun y31=>
   bnd (Q2 y26 y31) fun r33=>
   bif (!r33) then
   (some false)
   else
   (nx26 ()))
  (fun(s26:Unit)=>
   some true) a 0 ())
theorem H39 (a:List Gh) (b:List Gh) (r:Bool) (h:Yx a b=some r):Pure Ej 95 [E8 a,E8 b] (·=BL r):=by
 unfold Yx at h
 refine Gx [.tmp 4] Tryz.func95 O O (Jr fun hK1=>(G57 (BL false) O (G8 (hK1 (Js fun hK2=>Jr fun hK3=>(G57 (E8 a) O (JLl Jw O O O fun hm7=>(G57 (E8 b) O (JLl Jw O O O fun hm9=>(JLh (BL (decide ((a.length:Int)≠(b.length:Int)))) (G30 O O O) O (G8 (hK3 (JCc O h (fun h hb=>?_) (fun h hb=>?_))))))))))))))
 ·
  refine Jr fun hK4=>(G57 (BL false) O (G8 (hK4 (Gr (fin1 BL h)))))
 ·
  refine Gn (hK2 (Js fun hK5=>Jr fun hK6=>(G57 (G0 0) O (G8 (hK6 (Gp ?_))))))
  obtain⟨b26,kx26,hb26,hkx26,h⟩:=Hx h
  refine He (fun i26 (s26:Unit)=>each b26 kx26 (List.drop i26 a) i26 s26=some r) (fun i26 s26=>[(0,E8 a),(1,E8 b),(5,Ei i26)]) (fun i26 s26=>[]) (fun i26=>a.length - i26) 0 () h ⟨(.sm O O),G,O⟩ ?_
  clear h
  intro i26 s26 hi26 K26 e26
  refine Js fun hK27=>Jr fun hK28=>(G57 (Ei i26) O (G57 (E8 a) O (JLl Jw O O O fun hm13=>(JLh (BL (decide ((i26:Int) < (a.length:Int)))) (J1 O O O) O (G8 (hK28 (Gm O (fun hb=>?_) (fun hb=>?_))))))))
  ·
   have hk26:=Jc hb
   obtain⟨y26,nx26,hy26,hn26,h⟩:=Hm hi26 hk26
   replace h:=Rn hb26 h
   refine Gn (hK27 (Js fun hK29=>Gp (Js fun hK30=>?_)))
   obtain⟨m32,y31,hm32,hy31,h⟩:=R2 h
   obtain⟨r33,hr33,h⟩:=Ge h
   refine JC_d0 Jg (by kernel_rfl) (Dq (E8 a) (G5 O O) O (Dq (Ei i26) (G5 O O) O (Dq (Eh y26) (Gw (f:=Gh.av) (xs:=a) (y:=y26) O O O Jw hy26 O) O (Dq (.agg (Gh.cs y26)) (Gj G21 O O O) O (Dq (E8 b) (G5 O O) O (Dq (Ei i26) (G5 O O) O (Dq (Eh y31) (Gw (f:=Gh.av) (xs:=b) (y:=y31) O O O Jw hy31 hm32) O (Dq (.agg (Gh.cs y31)) (Gj G21 O O O) O (Dq (BL r33) (Gk (args:=[.agg (Gh.cs y26),.agg (Gh.cs y31)]) O (G3f y26 y31 r33 hr33) Hc5 ⟨O,O,O,O,G⟩) O (Dq (BL (!r33)) (Qh (b:=r33) O O) O (Dnil (hK30 (JCc O h (fun h hb=>?_) (fun h hb=>?_))))))))))))))
   ·
    refine Jr fun hK34=>(G57 (BL false) O (G8 (hK34 (Gr (fin1 BL h)))))
   ·
    refine Gn (hK29 (G3 (G57 (Ei i26) O (JLh (G0 ((i26+1:Nat):Int)) (Hu (Hc hk26 hm13) O O O) O (G57 (G0 ((i26+1:Nat):Int)) O (G8 (e26 _ _ (i26+1) () (app1 hn26 h) (by omega) ⟨(.sm O O),G,rfl⟩)))))))
  ·
   have h:=app1 hkx26 (Hn hi26 (H6 hb))
   refine Hk (hK5 (Jr fun hK35=>(G57 (BL true) O (G8 (hK35 (Gr (fin1 BL h)))))))

def Zb (a:H2) (b:H2):Option Bool:=
 bnd (Y7 a.Columns b.Columns) fun r3=>
 bnd (bif r3 then Yk a.Covers b.Covers else some default) fun r4=>
 bnd (bif ((r3&&r4)&&(decide (a.Light=b.Light))) then Zc a.Rows b.Rows else some default) fun r5=>
 bnd (bif (((r3&&r4)&&(decide (a.Light=b.Light)))&&r5) then Yj a.Frames b.Frames else some default) fun r6=>
 bnd (bif ((((r3&&r4)&&(decide (a.Light=b.Light)))&&r5)&&r6) then Yx a.Tanks b.Tanks else some default) fun r7=>
 some ((((((r3&&r4)&&(decide (a.Light=b.Light)))&&r5)&&r6)&&r7)&&(decide (a.G2=b.G2)))
theorem H4a (a:H2) (b:H2) (r:Bool) (h:Zb a b=some r):Pure Ej 43 [.agg (H2.cs a),.agg (H2.cs b)] (·=BL r):=by
 unfold Zb at h
 refine Gx [.tmp 4] Tryz.func43 O O (Jr fun hK1=>(JLh (.ptr 1078 0) (Ja (cs:=(H2.cs a)) 1078 O O O O O) O (JLh (.ptr 1079 0) (Ja (cs:=(H2.cs b)) 1079 O O O O O) O (G57 (BL false) O (G8 (hK1 ?_))))))
 refine Gu [(2,Eb a),(3,.ptr 1079 0)] [(1079,.box 32 (H2.cs b))] 1078 rfl rfl rfl ⟨⟨_,rfl,.boxEq rfl rfl⟩,G⟩ rfl (by exact⟨.ptr,.conv (.same rfl),G⟩) (Gu [(2,Eb a),(3,Eb b)] [] 1079 rfl rfl rfl G rfl (by exact⟨.conv (.same rfl),.ptr,G⟩) (Jr fun hK2=>(JLh (Eb a) (Ga Hj O O O) O (JLh (E4 a.Columns) (Gf Ht O O O) O (JLh (Eb b) (Ga Hj O O O) O (JLh (E4 b.Columns) (Gf Ht O O O) O ?_))))))
 obtain⟨r3,hr3,h⟩:=Ge h
 refine JLh (BL r3) (Gk O (H03 a.Columns b.Columns r3 hr3) Q8e ⟨O,O,O,O,G⟩) O (G57 (BL r3) O (JLo (.dptr ((H2.cs a).drop 1)) [] O .sct G (fun hc=>Ga Jk O O O) O (JLo (E5 a.Covers) [11] O .sct ⟨Ua,G⟩ (fun hc=>Gf Q4 O O O) O (JLo (.dptr ((H2.cs b).drop 1)) [] O .sct G (fun hc=>Ga Jk O O O) O (JLo (E5 b.Covers) [13] O .sct ⟨Ua,G⟩ (fun hc=>Gf Q4 O O O) O ?_)))))
 obtain⟨r4,hr4,h⟩:=Ge h
 refine JLo (BL r4) [12,14] O .sct ⟨Ua,Ua,G⟩ (fun hc=>Gk (args:=[E5 a.Covers,E5 b.Covers]) O (H10 a.Covers b.Covers r4 (Gy hc hr4)) Q8d ⟨O,O,O,O,G⟩) O (JLh (BL (r3&&r4)) (J5 O O O O) O (G57 (BL (r3&&r4)) O (JLo (.dptr ((H2.cs a).drop 2)) [] O .sct G (fun hc=>Ga J02 O O O) O (JLo (.agg (Light.cs a.Light)) [18] O .sct ⟨Ua,G⟩ (fun hc=>Gj Q37 O O O) O (JLo (.dptr ((H2.cs b).drop 2)) [] O .sct G (fun hc=>Ga J02 O O O) O (JLo (.agg (Light.cs b.Light)) [20] O .sct ⟨Ua,G⟩ (fun hc=>Gj Q37 O O O) O (JLo (BL (decide (a.Light=b.Light))) [19,21] O .sct ⟨Ua,Ua,G⟩ (fun hc=>Gd5 (vs:=[.int .i64 a.Light.Kilos,.int .i64 a.Light.X,.int .i64 a.Light.Y,.int .i64 a.Light.Z]) (us:=[.int .i64 b.Light.Kilos,.int .i64 b.Light.X,.int .i64 b.Light.Y,.int .i64 b.Light.Z]) 4 O (tq_25 a.Light b.Light) Q77 tf_eqg_25 O O O) O (JLh (BL ((r3&&r4)&&(decide (a.Light=b.Light)))) (J5 O O O O) O (G57 (BL ((r3&&r4)&&(decide (a.Light=b.Light)))) O (JLo (.dptr ((H2.cs a).drop 6)) [] O .sct G (fun hc=>Ga G70 O O O) O (JLo (E7 a.Rows) [25] O .sct ⟨Ua,G⟩ (fun hc=>Gf Gc6 O O O) O (JLo (.dptr ((H2.cs b).drop 6)) [] O .sct G (fun hc=>Ga G70 O O O) O (JLo (E7 b.Rows) [27] O .sct ⟨Ua,G⟩ (fun hc=>Gf Gc6 O O O) O ?_)))))))))))))
 obtain⟨r5,hr5,h⟩:=Ge h
 refine JLo (BL r5) [26,28] O .sct ⟨Ua,Ua,G⟩ (fun hc=>Gk (args:=[E7 a.Rows,E7 b.Rows]) O (H4b a.Rows b.Rows r5 (Gy hc hr5)) Q8c ⟨O,O,O,O,G⟩) O (JLh (BL (((r3&&r4)&&(decide (a.Light=b.Light)))&&r5)) (J5 O O O O) O (G57 (BL (((r3&&r4)&&(decide (a.Light=b.Light)))&&r5)) O (JLo (.dptr ((H2.cs a).drop 7)) [] O .sct G (fun hc=>Ga G6f O O O) O (JLo (E6 a.Frames) [32] O .sct ⟨Ua,G⟩ (fun hc=>Gf Gc5 O O O) O (JLo (.dptr ((H2.cs b).drop 7)) [] O .sct G (fun hc=>Ga G6f O O O) O (JLo (E6 b.Frames) [34] O .sct ⟨Ua,G⟩ (fun hc=>Gf Gc5 O O O) O ?_))))))
 obtain⟨r6,hr6,h⟩:=Ge h
 refine JLo (BL r6) [33,35] O .sct ⟨Ua,Ua,G⟩ (fun hc=>Gk (args:=[E6 a.Frames,E6 b.Frames]) O (H0f a.Frames b.Frames r6 (Gy hc hr6)) Q8b ⟨O,O,O,O,G⟩) O (JLh (BL ((((r3&&r4)&&(decide (a.Light=b.Light)))&&r5)&&r6)) (J5 O O O O) O (G57 (BL ((((r3&&r4)&&(decide (a.Light=b.Light)))&&r5)&&r6)) O (JLo (.dptr ((H2.cs a).drop 8)) [] O .sct G (fun hc=>Ga G6e O O O) O (JLo (E8 a.Tanks) [39] O .sct ⟨Ua,G⟩ (fun hc=>Gf Gc4 O O O) O (JLo (.dptr ((H2.cs b).drop 8)) [] O .sct G (fun hc=>Ga G6e O O O) O (JLo (E8 b.Tanks) [41] O .sct ⟨Ua,G⟩ (fun hc=>Gf Gc4 O O O) O ?_))))))
 obtain⟨r7,hr7,h⟩:=Ge h
 refine JLo (BL r7) [40,42] O .sct ⟨Ua,Ua,G⟩ (fun hc=>Gk (args:=[E8 a.Tanks,E8 b.Tanks]) O (H39 a.Tanks b.Tanks r7 (Gy hc hr7)) Q8a ⟨O,O,O,O,G⟩) O (JLh (BL (((((r3&&r4)&&(decide (a.Light=b.Light)))&&r5)&&r6)&&r7)) (J5 O O O O) O (G57 (BL (((((r3&&r4)&&(decide (a.Light=b.Light)))&&r5)&&r6)&&r7)) O (JLo (.dptr ((H2.cs a).drop 9)) [] O .sct G (fun hc=>Ga J01 O O O) O (JLo (.agg ((H2.cs a).drop 9)) [46] O .sct ⟨Ua,G⟩ (fun hc=>Gj Q36 O O O) O (JLo (.dptr ((H2.cs b).drop 9)) [] O .sct G (fun hc=>Ga J01 O O O) O (JLo (.agg ((H2.cs b).drop 9)) [48] O .sct ⟨Ua,G⟩ (fun hc=>Gj Q36 O O O) O (JLo (BL (decide (a.G2=b.G2))) [47,49] O .sct ⟨Ua,Ua,G⟩ (fun hc=>Gd5 (vs:=[.int .i64 a.G2.Tolerance,.int .i64 a.G2.Trim,.int .i64 a.G2.List_,.int .i64 a.G2.Stability]) (us:=[.int .i64 b.G2.Tolerance,.int .i64 b.G2.Trim,.int .i64 b.G2.List_,.int .i64 b.G2.Stability]) 4 O (tq_30 a.G2 b.G2) Q76 tf_eqg_30 O O O) O (JLh (BL ((((((r3&&r4)&&(decide (a.Light=b.Light)))&&r5)&&r6)&&r7)&&(decide (a.G2=b.G2)))) (J5 O O O O) O (G57 (BL ((((((r3&&r4)&&(decide (a.Light=b.Light)))&&r5)&&r6)&&r7)&&(decide (a.G2=b.G2)))) O (G8 (hK2 ?_)))))))))))
 refine Gr (fin1 BL h)

def Je (out:Ln Int) (l:List Int):Option Bool:=
 bif decide ((out.1.length:Int)≠(l.length:Int)) then
 (some false)
 else
 (G35 ((l.length:Int)+12) fun v6=>
  bnd (G5d v6 (out.1++out.2).length) fun m7=>
  each (fun y29 i29 (s29:Unit) nx29=>
   bnd (bif decide ((i29:Int) < (l.length:Int)) then Qr l (i29:Int) some else some default) fun y34=>
   bnd (bif ((!((decide ((i29:Int) < (l.length:Int)))&&(!(decide (y29=y34)))))&&(decide ((l.length:Int)≤(i29:Int)))) then G35 ((i29:Int) - (l.length:Int)) some else some 0) fun v35=>
   bnd (bif ((!((decide ((i29:Int) < (l.length:Int)))&&(!(decide (y29=y34)))))&&(decide ((l.length:Int)≤(i29:Int)))) then Jo 1 v35 else some default) fun r36=>
   bif (((decide ((i29:Int) < (l.length:Int)))&&(!(decide (y29=y34))))||((decide ((l.length:Int)≤(i29:Int)))&&(!(decide (y29=r36))))) then
   (some false)
   else
   (nx29 ()))
  (fun(s29:Unit)=>
   some true) ((out.1++out.2).take m7) 0 ())
theorem G41 (out:Ln Int) (l:List Int) (r:Bool) (h:Je out l=some r):Pure Ej 142 [LT 1 G0 out,E1 l] (·=BL r):=by
 unfold Je at h
 refine Gx [.tmp 4] Tryz.func142 O O (Jr fun hK1=>(G57 (BL false) O (G8 (hK1 (Js fun hK2=>Jr fun hK3=>(G57 (LT 1 G0 out) O (JLl Gq O O O fun hm8=>(G57 (E1 l) O (JLl Gq O O O fun hm10=>(JLh (BL (decide ((out.1.length:Int)≠(l.length:Int)))) (G30 O O O) O (G8 (hK3 (JCc O h (fun h hb=>?_) (fun h hb=>?_))))))))))))))
 ·
  refine Jr fun hK4=>(G57 (BL false) O (G8 (hK4 (Gr (fin1 BL h)))))
 ·
  refine Gn (hK2 (Jr fun hK5=>(G57 (LT 1 G0 out) O (G57 (E1 l) O (JLl Gq O O O fun hm14=>?_)))))
  obtain⟨v6,hv6,h⟩:=Qj h
  refine JLh (G0 v6) (Hu hv6 O O O) O ?_
  obtain⟨m7,hm7,h⟩:=Ge h
  refine JLh (E1 ((out.1++out.2).take m7)) (H64 (f:=G0) (e:=out) O O O Gq (Z9 hm7)) O (G57 (E1 ((out.1++out.2).take m7)) O (G8 (hK5 (Js fun hK8=>Jr fun hK9=>(G57 (G0 0) O (G8 (hK9 (Gp ?_))))))))
  obtain⟨b29,kx29,hb29,hkx29,h⟩:=Hx h
  refine He (fun i29 (s29:Unit)=>each b29 kx29 (List.drop i29 ((out.1++out.2).take m7)) i29 s29=some r) (fun i29 s29=>[(1,E1 l),(5,E1 ((out.1++out.2).take m7)),(6,Ei i29)]) (fun i29 s29=>[]) (fun i29=>((out.1++out.2).take m7).length - i29) 0 () h ⟨(.sm O O),G,O⟩ ?_
  clear h
  intro i29 s29 hi29 K29 e29
  refine Js fun hK30=>Jr fun hK31=>(G57 (Ei i29) O (G57 (E1 ((out.1++out.2).take m7)) O (JLl Gq O O O fun hm19=>(JLh (BL (decide ((i29:Int) < (((out.1++out.2).take m7).length:Int)))) (J1 O O O) O (G8 (hK31 (Gm O (fun hb=>?_) (fun hb=>?_))))))))
  ·
   have hk29:=Jc hb
   obtain⟨y29,nx29,hy29,hn29,h⟩:=Hm hi29 hk29
   replace h:=Rn hb29 h
   refine Gn (hK30 (Js fun hK32=>Gp (Js fun hK33=>?_)))
   obtain⟨y34,hy34,h⟩:=Ge h
   obtain⟨v35,hv35,h⟩:=Ge h
   obtain⟨r36,hr36,h⟩:=Ge h
   refine JC_d0 Jg (by kernel_rfl) (Dq (Ei i29) (G5 O O) O (Dq (E1 l) (G5 O O) O (Dq (Ei l.length) (Qw (f:=G0) (xs:=l) Gq O O) O (Dq (BL (decide ((i29:Int) < (l.length:Int)))) (J1 O O O) O (Dq (BL (decide ((i29:Int) < (l.length:Int)))) (G5 O O) O (Do (E1 ((out.1++out.2).take m7)) [] O .sct G (fun hc=>G5 O O) O (Do (Ei i29) [] O .sct G (fun hc=>G5 O O) O (Do (.dptr [G0 y29]) [28,29] O .sct ⟨Ua,Ua,G⟩ (fun hc=>Gw (f:=G0) (xs:=((out.1++out.2).take m7)) (y:=y29) O O O Gq hy29 O) O (Do (G0 y29) [30] O .sct ⟨Ua,G⟩ (fun hc=>Gf Gc O O O) O (Do (E1 l) [] O .sct G (fun hc=>G5 O O) O (Do (Ei i29) [] O .sct G (fun hc=>G5 O O) O (Do (.dptr [G0 y34]) [32,33] O .sct ⟨Ua,Ua,G⟩ (fun hc=>(match Qa (Gy hc hy34) with | ⟨_,hm_,hy_⟩=>Gw (f:=G0) (xs:=l) (y:=y34) O O O Gq hy_ hm_)) O (Do (G0 y34) [34] O .sct ⟨Ua,G⟩ (fun hc=>Gf Gc O O O) O ?_)))))))))))))
   refine Do (BL (decide (y29=y34))) [31,35] O .sct ⟨Ua,Ua,G⟩ (fun hc=>Jx O O O) O (Do (BL (!(decide (y29=y34)))) [36] O .sct ⟨Ua,G⟩ (fun hc=>Qh (b:=decide (y29=y34)) O O) O (Dq (BL ((decide ((i29:Int) < (l.length:Int)))&&(!(decide (y29=y34))))) (J5 O O O O) O (Dq (BL ((decide ((i29:Int) < (l.length:Int)))&&(!(decide (y29=y34))))) (G5 O O) O (Do (Ei i29) [] O .scf G (fun hc=>G5 O O) O (Do (E1 l) [] O .scf G (fun hc=>G5 O O) O (Do (Ei l.length) [41] O .scf ⟨Ua,G⟩ (fun hc=>Qw (f:=G0) (xs:=l) Gq O O) O (Do (BL (decide ((l.length:Int)≤(i29:Int)))) [40,42] O .scf ⟨Ua,Ua,G⟩ (fun hc=>G31 O O O) O (Do (BL (decide ((l.length:Int)≤(i29:Int)))) [43] O .scf ⟨Ua,G⟩ (fun hc=>G5 O O) O (Do (E1 ((out.1++out.2).take m7)) [] O .optt G (fun hc=>G5 O O) O (Do (Ei i29) [] O .optt G (fun hc=>G5 O O) O (Do (.dptr [G0 y29]) [45,46] O .optt ⟨Ua,Ua,G⟩ (fun hc=>Gw (f:=G0) (xs:=((out.1++out.2).take m7)) (y:=y29) O O O Gq hy29 O) O (Do (G0 y29) [47] O .optt ⟨Ua,G⟩ (fun hc=>Gf Gc O O O) O (Do (Ei i29) [] O .optt G (fun hc=>G5 O O) O ?_)))))))))))))
   refine Do (E1 l) [] O .optt G (fun hc=>G5 O O) O (Do (Ei l.length) [50] O .optt ⟨Ua,G⟩ (fun hc=>Qw (f:=G0) (xs:=l) Gq O O) O (Do (G0 v35) [49,51] O .optt ⟨Ua,Ua,G⟩ (fun hc=>Gd4 (G25 (Gy hc hv35)) O O O) O (Do (G0 r36) [52] O .optt ⟨Ua,G⟩ (fun hc=>Gk (args:=[G0 1,G0 v35]) O (Qp 1 v35 r36 (Gy hc hr36)) G69 ⟨O,O,O,O,G⟩) O (Do (BL (decide (y29=r36))) [48,53] O .optt ⟨Ua,Ua,G⟩ (fun hc=>Jx O O O) O (Do (BL (!(decide (y29=r36)))) [54] O .optt ⟨Ua,G⟩ (fun hc=>Qh (b:=decide (y29=r36)) O O) O (Dg (.opt (!((decide ((i29:Int) < (l.length:Int)))&&(!(decide (y29=y34))))) (BL ((decide ((l.length:Int)≤(i29:Int)))&&(!(decide (y29=r36)))))) (Gi [(44,BL (decide ((l.length:Int)≤(i29:Int)))),(55,_)] O O O .scf ⟨.all id,.part,G⟩ (fun hc=>J5 O O O O) O) O (Dq (BL (((decide ((i29:Int) < (l.length:Int)))&&(!(decide (y29=y34))))||((decide ((l.length:Int)≤(i29:Int)))&&(!(decide (y29=r36)))))) (Yc O O O O) O (Dnil ?_))))))))
   refine hK33 (JCc O h (fun h hb=>?_) (fun h hb=>?_))
   ·
    refine Jr fun hK37=>(G57 (BL false) O (G8 (hK37 (Gr (fin1 BL h)))))
   ·
    refine Gn (hK32 (G3 (G57 (Ei i29) O (JLh (G0 ((i29+1:Nat):Int)) (Hu (Hc hk29 hm19) O O O) O (G57 (G0 ((i29+1:Nat):Int)) O (G8 (e29 _ _ (i29+1) () (app1 hn29 h) (by omega) ⟨(.sm O O),G,rfl⟩)))))))
  ·
   have h:=app1 hkx29 (Hn hi29 (H6 hb))
   refine Hk (hK8 (Jr fun hK38=>(G57 (BL true) O (G8 (hK38 (Gr (fin1 BL h)))))))

def Rg (x:Gz) (y:G4):Option Bool:=
 bnd (Jq (G4.mk x.Bay x.Row x.Deck x.Tiers x.Height x.Kilos20 x.Kilos40 x.Lash x.Plugs.1 x.X x.Y x.Z) y) fun r3=>
 bnd (bif r3 then Je x.Plugs y.Plugs else some default) fun r4=>
 some (r3&&r4)
theorem H16 (x:Gz) (y:G4) (r:Bool) (h:Rg x y=some r):Pure Ej 96 [.agg (Gz.cs x),.agg (G4.cs y)] (·=BL r):=by
 unfold Rg at h
 refine Gx [.tmp 4] Tryz.func96 O O (Jr fun hK1=>(JLh (.ptr 1136 0) (Ja (cs:=(Gz.cs x)) 1136 O O O O O) O (JLh (.ptr 1137 0) (Ja (cs:=(G4.cs y)) 1137 O O O O O) O (G57 (BL false) O (G8 (hK1 (Gu [(2,.dptr (Gz.cs x)),(3,.ptr 1137 0)] [(1137,.box 64 (G4.cs y))] 1136 rfl rfl rfl ⟨⟨_,rfl,.boxEq rfl rfl⟩,G⟩ rfl (by exact⟨.ptr,.conv (.same rfl),G⟩) ?_)))))))
 refine Gu [(2,.dptr (Gz.cs x)),(3,Ed y)] [] 1137 rfl rfl rfl G rfl (by exact⟨.conv (.same rfl),.ptr,G⟩) (Jr fun hK2=>(JLh (.agg [G0 x.Bay,G0 x.Row,BL x.Deck,G0 x.Tiers,G0 x.Height,G0 x.Kilos20,G0 x.Kilos40,G0 x.Lash,E1 x.Plugs.1,G0 x.X,G0 x.Y,G0 x.Z]) (H4.cv (Cv.aggL (cs:=(Gz.cs x)) ⟨.same,.same,.same,.same,.same,.same,.same,.same,Cv.lst0 x.Plugs,.same,.same,.same,G⟩) (Gj Rq O O O)) O (JLh (.agg (G4.cs y)) (Gj Rq O O O) O ?_)))
 obtain⟨r3,hr3,h⟩:=Ge h
 refine JLh (BL r3) (Gk O (G29 (G4.mk x.Bay x.Row x.Deck x.Tiers x.Height x.Kilos20 x.Kilos40 x.Lash x.Plugs.1 x.X x.Y x.Z) y r3 hr3) J17 ⟨O,O,O,O,G⟩) O (G57 (BL r3) O (JLo (.dptr ((Gz.cs x).drop 8)) [] O .sct G (fun hc=>Ga R9 O O O) O (JLo (LT 1 G0 x.Plugs) [9] O .sct ⟨Ua,G⟩ (fun hc=>Gf Hy O O O) O (JLo (.dptr ((G4.cs y).drop 8)) [] O .sct G (fun hc=>Ga R9 O O O) O (JLo (E1 y.Plugs) [11] O .sct ⟨Ua,G⟩ (fun hc=>Gf Hy O O O) O ?_)))))
 obtain⟨r4,hr4,h⟩:=Ge h
 refine JLo (BL r4) [10,12] O .sct ⟨Ua,Ua,G⟩ (fun hc=>Gk (args:=[LT 1 G0 x.Plugs,E1 y.Plugs]) O (G41 x.Plugs y.Plugs r4 (Gy hc hr4)) Hc1 ⟨O,O,O,O,G⟩) O (JLh (BL (r3&&r4)) (J5 O O O O) O (G57 (BL (r3&&r4)) O (G8 (hK2 (Gr (fin1 BL h))))))

def R7 (out:Ln Gz) (l:List G4):Option Bool:=
 bif decide ((out.1.length:Int)≠(l.length:Int)) then
 (some false)
 else
 (G35 ((l.length:Int)+12) fun v6=>
  bnd (G5d v6 (out.1++out.2).length) fun m7=>
  each (fun y33 i33 (s33:Unit) nx33=>
   bnd (bif decide ((i33:Int) < (l.length:Int)) then Qr l (i33:Int) some else some default) fun y38=>
   bnd (bif decide ((i33:Int) < (l.length:Int)) then Rg y33 y38 else some default) fun r39=>
   bnd (bif ((!((decide ((i33:Int) < (l.length:Int)))&&(!r39)))&&(decide ((l.length:Int)≤(i33:Int)))) then G35 ((i33:Int) - (l.length:Int)) some else some 0) fun v40=>
   bnd (bif ((!((decide ((i33:Int) < (l.length:Int)))&&(!r39)))&&(decide ((l.length:Int)≤(i33:Int)))) then Qt 1 v40 else some default) fun r41=>
   bnd (bif ((!((decide ((i33:Int) < (l.length:Int)))&&(!r39)))&&(decide ((l.length:Int)≤(i33:Int)))) then Jq (G4.mk y33.Bay y33.Row y33.Deck y33.Tiers y33.Height y33.Kilos20 y33.Kilos40 y33.Lash y33.Plugs.1 y33.X y33.Y y33.Z) r41 else some default) fun r42=>
   bif (((decide ((i33:Int) < (l.length:Int)))&&(!r39))||((decide ((l.length:Int)≤(i33:Int)))&&(!r42))) then
   (some false)
   else
   (nx33 ()))
  (fun(s33:Unit)=>
   some true) ((out.1++out.2).take m7) 0 ())
theorem H07 (out:Ln Gz) (l:List G4) (r:Bool) (h:R7 out l=some r):Pure Ej 44 [LT 12 Gz.av out,E4 l] (·=BL r):=by
 unfold R7 at h
 refine Gx [.tmp 4] Tryz.func44 O O (Jr fun hK1=>(G57 (BL false) O (G8 (hK1 (Js fun hK2=>Jr fun hK3=>(G57 (LT 12 Gz.av out) O (JLl H5 O O O fun hm8=>(G57 (E4 l) O (JLl H5 O O O fun hm10=>(JLh (BL (decide ((out.1.length:Int)≠(l.length:Int)))) (G30 O O O) O (G8 (hK3 (JCc O h (fun h hb=>?_) (fun h hb=>?_))))))))))))))
 ·
  refine Jr fun hK4=>(G57 (BL false) O (G8 (hK4 (Gr (fin1 BL h)))))
 ·
  refine Gn (hK2 (Jr fun hK5=>(G57 (LT 12 Gz.av out) O (G57 (E4 l) O (JLl H5 O O O fun hm14=>?_)))))
  obtain⟨v6,hv6,h⟩:=Qj h
  refine JLh (G0 v6) (Hu hv6 O O O) O ?_
  obtain⟨m7,hm7,h⟩:=Ge h
  refine JLh (LS 12 Gz.av ((out.1++out.2).take m7)) (H64 (f:=Gz.av) (e:=out) O O O H5 (Z9 hm7)) O (G57 (LS 12 Gz.av ((out.1++out.2).take m7)) O (G8 (hK5 (Js fun hK8=>Jr fun hK9=>(G57 (G0 0) O (G8 (hK9 (Gp ?_))))))))
  obtain⟨b33,kx33,hb33,hkx33,h⟩:=Hx h
  refine He (fun i33 (s33:Unit)=>each b33 kx33 (List.drop i33 ((out.1++out.2).take m7)) i33 s33=some r) (fun i33 s33=>[(1,E4 l),(5,LS 12 Gz.av ((out.1++out.2).take m7)),(6,Ei i33)]) (fun i33 s33=>[]) (fun i33=>((out.1++out.2).take m7).length - i33) 0 () h ⟨(.sm O O),G,O⟩ ?_
  clear h
  intro i33 s33 hi33 K33 e33
  refine Js fun hK34=>Jr fun hK35=>(G57 (Ei i33) O (G57 (LS 12 Gz.av ((out.1++out.2).take m7)) O (JLl H5 O O O fun hm19=>(JLh (BL (decide ((i33:Int) < (((out.1++out.2).take m7).length:Int)))) (J1 O O O) O (G8 (hK35 (Gm O (fun hb=>?_) (fun hb=>?_))))))))
  ·
   have hk33:=Jc hb
   obtain⟨y33,nx33,hy33,hn33,h⟩:=Hm hi33 hk33
   replace h:=Rn hb33 h
   refine Gn (hK34 (Js fun hK36=>Gp (Js fun hK37=>?_)))
   obtain⟨y38,hy38,h⟩:=Ge h
   obtain⟨r39,hr39,h⟩:=Ge h
   obtain⟨v40,hv40,h⟩:=Ge h
   obtain⟨r41,hr41,h⟩:=Ge h
   obtain⟨r42,hr42,h⟩:=Ge h
   refine JC_d0 Jg (by kernel_rfl) (Dq (Ei i33) (G5 O O) O (Dq (E4 l) (G5 O O) O (Dq (Ei l.length) (Qw (f:=G4.av) (xs:=l) H5 O O) O (Dq (BL (decide ((i33:Int) < (l.length:Int)))) (J1 O O O) O (Dq (BL (decide ((i33:Int) < (l.length:Int)))) (G5 O O) O (Do (LS 12 Gz.av ((out.1++out.2).take m7)) [] O .sct G (fun hc=>G5 O O) O (Do (Ei i33) [] O .sct G (fun hc=>G5 O O) O (Do (.dptr (Gz.cs y33)) [28,29] O .sct ⟨Ua,Ua,G⟩ (fun hc=>Gw (f:=Gz.av) (xs:=((out.1++out.2).take m7)) (y:=y33) O O O H5 hy33 O) O (Do (.agg (Gz.cs y33)) [30] O .sct ⟨Ua,G⟩ (fun hc=>Gj Rq O O O) O (Do (E4 l) [] O .sct G (fun hc=>G5 O O) O (Do (Ei i33) [] O .sct G (fun hc=>G5 O O) O (Do (Ed y38) [32,33] O .sct ⟨Ua,Ua,G⟩ (fun hc=>(match Qa (Gy hc hy38) with | ⟨_,hm_,hy_⟩=>Gw (f:=G4.av) (xs:=l) (y:=y38) O O O H5 hy_ hm_)) O (Do (.agg (G4.cs y38)) [34] O .sct ⟨Ua,G⟩ (fun hc=>Gj Rq O O O) O ?_)))))))))))))
   refine Do (BL r39) [31,35] O .sct ⟨Ua,Ua,G⟩ (fun hc=>Gk (args:=[.agg (Gz.cs y33),.agg (G4.cs y38)]) O (H16 y33 y38 r39 (Gy hc hr39)) Q89 ⟨O,O,O,O,G⟩) O (Do (BL (!r39)) [36] O .sct ⟨Ua,G⟩ (fun hc=>Qh (b:=r39) O O) O (Dq (BL ((decide ((i33:Int) < (l.length:Int)))&&(!r39))) (J5 O O O O) O (Dq (BL ((decide ((i33:Int) < (l.length:Int)))&&(!r39))) (G5 O O) O (Do (Ei i33) [] O .scf G (fun hc=>G5 O O) O (Do (E4 l) [] O .scf G (fun hc=>G5 O O) O (Do (Ei l.length) [41] O .scf ⟨Ua,G⟩ (fun hc=>Qw (f:=G4.av) (xs:=l) H5 O O) O (Do (BL (decide ((l.length:Int)≤(i33:Int)))) [40,42] O .scf ⟨Ua,Ua,G⟩ (fun hc=>G31 O O O) O (Do (BL (decide ((l.length:Int)≤(i33:Int)))) [43] O .scf ⟨Ua,G⟩ (fun hc=>G5 O O) O (Do (LS 12 Gz.av ((out.1++out.2).take m7)) [] O .optt G (fun hc=>G5 O O) O (Do (Ei i33) [] O .optt G (fun hc=>G5 O O) O (Do (.dptr (Gz.cs y33)) [45,46] O .optt ⟨Ua,Ua,G⟩ (fun hc=>Gw (f:=Gz.av) (xs:=((out.1++out.2).take m7)) (y:=y33) O O O H5 hy33 O) O (Do (.agg [G0 y33.Bay,G0 y33.Row,BL y33.Deck,G0 y33.Tiers,G0 y33.Height,G0 y33.Kilos20,G0 y33.Kilos40,G0 y33.Lash,E1 y33.Plugs.1,G0 y33.X,G0 y33.Y,G0 y33.Z]) [47] O .optt ⟨Ua,G⟩ (fun hc=>H4.cv (Cv.aggL (cs:=(Gz.cs y33)) ⟨.same,.same,.same,.same,.same,.same,.same,.same,Cv.lst0 y33.Plugs,.same,.same,.same,G⟩) (Gj Rq O O O)) O (Do (Ei i33) [] O .optt G (fun hc=>G5 O O) O ?_)))))))))))))
   refine Do (E4 l) [] O .optt G (fun hc=>G5 O O) O (Do (Ei l.length) [50] O .optt ⟨Ua,G⟩ (fun hc=>Qw (f:=G4.av) (xs:=l) H5 O O) O (Do (G0 v40) [49,51] O .optt ⟨Ua,Ua,G⟩ (fun hc=>Gd4 (G25 (Gy hc hv40)) O O O) O (Do (.agg (G4.cs r41)) [52] O .optt ⟨Ua,G⟩ (fun hc=>Gk (args:=[G0 1,G0 v40]) O (G7c 1 v40 r41 (Gy hc hr41)) Jd9 ⟨O,O,O,O,G⟩) O (Do (BL r42) [48,53] O .optt ⟨Ua,Ua,G⟩ (fun hc=>Gk (args:=[.agg [G0 y33.Bay,G0 y33.Row,BL y33.Deck,G0 y33.Tiers,G0 y33.Height,G0 y33.Kilos20,G0 y33.Kilos40,G0 y33.Lash,E1 y33.Plugs.1,G0 y33.X,G0 y33.Y,G0 y33.Z],.agg (G4.cs r41)]) O (G29 (G4.mk y33.Bay y33.Row y33.Deck y33.Tiers y33.Height y33.Kilos20 y33.Kilos40 y33.Lash y33.Plugs.1 y33.X y33.Y y33.Z) r41 r42 (Gy hc hr42)) J17 ⟨O,O,O,O,G⟩) O (Do (BL (!r42)) [54] O .optt ⟨Ua,G⟩ (fun hc=>Qh (b:=r42) O O) O (Dg (.opt (!((decide ((i33:Int) < (l.length:Int)))&&(!r39))) (BL ((decide ((l.length:Int)≤(i33:Int)))&&(!r42)))) (Gi [(44,BL (decide ((l.length:Int)≤(i33:Int)))),(55,_)] O O O .scf ⟨.all id,.part,G⟩ (fun hc=>J5 O O O O) O) O (Dq (BL (((decide ((i33:Int) < (l.length:Int)))&&(!r39))||((decide ((l.length:Int)≤(i33:Int)))&&(!r42)))) (Yc O O O O) O (Dnil ?_))))))))
   refine hK37 (JCc O h (fun h hb=>?_) (fun h hb=>?_))
   ·
    refine Jr fun hK43=>(G57 (BL false) O (G8 (hK43 (Gr (fin1 BL h)))))
   ·
    refine Gn (hK36 (G3 (G57 (Ei i33) O (JLh (G0 ((i33+1:Nat):Int)) (Hu (Hc hk33 hm19) O O O) O (G57 (G0 ((i33+1:Nat):Int)) O (G8 (e33 _ _ (i33+1) () (app1 hn33 h) (by omega) ⟨(.sm O O),G,rfl⟩)))))))
  ·
   have h:=app1 hkx33 (Hn hi33 (H6 hb))
   refine Hk (hK8 (Jr fun hK44=>(G57 (BL true) O (G8 (hK44 (Gr (fin1 BL h)))))))

def Ru (x:H8) (y:G9):Option Bool:=
 bnd (Jz (G9.mk x.Bay x.Rows.1) y) fun r3=>
 bnd (bif r3 then Je x.Rows y.Rows else some default) fun r4=>
 some (r3&&r4)
theorem H3f (x:H8) (y:G9) (r:Bool) (h:Ru x y=some r):Pure Ej 98 [.agg [G0 x.Bay,LT 1 G0 x.Rows],.agg [G0 y.Bay,E1 y.Rows]] (·=BL r):=by
 unfold Ru at h
 refine Gx [.tmp 4] Tryz.func98 O O (Jr fun hK1=>(JLh (.ptr 1140 0) (Ja (cs:=[G0 x.Bay,LT 1 G0 x.Rows]) 1140 O O O O O) O (JLh (.ptr 1141 0) (Ja (cs:=[G0 y.Bay,E1 y.Rows]) 1141 O O O O O) O (G57 (BL false) O (G8 (hK1 (Gu [(2,.dptr [G0 x.Bay,LT 1 G0 x.Rows]),(3,.ptr 1141 0)] [(1141,.box 66 [G0 y.Bay,E1 y.Rows])] 1140 rfl rfl rfl ⟨⟨_,rfl,.boxEq rfl rfl⟩,G⟩ rfl (by exact⟨.ptr,.conv (.same rfl),G⟩) (Gu [(2,.dptr [G0 x.Bay,LT 1 G0 x.Rows]),(3,.dptr [G0 y.Bay,E1 y.Rows])] [] 1141 rfl rfl rfl G rfl (by exact⟨.conv (.same rfl),.ptr,G⟩) ?_))))))))
 refine Jr fun hK2=>(JLh (.agg [G0 x.Bay,E1 x.Rows.1]) (H4.cv (Cv.aggL (cs:=[G0 x.Bay,LT 1 G0 x.Rows]) ⟨.same,Cv.lst0 x.Rows,G⟩) (Gj Ye O O O)) O (JLh (.agg [G0 y.Bay,E1 y.Rows]) (Gj Ye O O O) O ?_))
 obtain⟨r3,hr3,h⟩:=Ge h
 refine JLh (BL r3) (Gk O (G38 (G9.mk x.Bay x.Rows.1) y r3 hr3) J16 ⟨O,O,O,O,G⟩) O (G57 (BL r3) O (JLo (.dptr [LT 1 G0 x.Rows]) [] O .sct G (fun hc=>Ga Q8 O O O) O (JLo (LT 1 G0 x.Rows) [9] O .sct ⟨Ua,G⟩ (fun hc=>Gf Hy O O O) O (JLo (.dptr [E1 y.Rows]) [] O .sct G (fun hc=>Ga Q8 O O O) O (JLo (E1 y.Rows) [11] O .sct ⟨Ua,G⟩ (fun hc=>Gf Hy O O O) O ?_)))))
 obtain⟨r4,hr4,h⟩:=Ge h
 refine JLo (BL r4) [10,12] O .sct ⟨Ua,Ua,G⟩ (fun hc=>Gk (args:=[LT 1 G0 x.Rows,E1 y.Rows]) O (G41 x.Rows y.Rows r4 (Gy hc hr4)) Hc1 ⟨O,O,O,O,G⟩) O (JLh (BL (r3&&r4)) (J5 O O O O) O (G57 (BL (r3&&r4)) O (G8 (hK2 (Gr (fin1 BL h))))))
end
end Go.Proofs.YthcpolfodgjekaaGreat
