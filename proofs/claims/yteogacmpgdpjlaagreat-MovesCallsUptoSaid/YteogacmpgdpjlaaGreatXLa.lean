/-
 Models of functions of the program,and that they return what the models say.
-/
import Derived.Test.YteogacmpgdpjlaaGreatSpecK
import Derived.Test.YteogacmpgdpjlaaGreatSpecK
set_option maxRecDepth 100000
namespace Go.Proofs.YteogacmpgdpjlaaGreat
open Go.RowKit
noncomputable section
structure H1 where
 Bay:Int
 Row:Int
 Deck:Bool
 Tiers:Int
 Height:Int
 Kilos20:Int
 Kilos40:Int
 Lash:Int
 Plugs:Ln Int
 X:Int
 Y:Int
 Z:Int
 deriving Inhabited
def H1.cs (x:H1):List AV:=[G0 x.Bay,G0 x.Row,BL x.Deck,G0 x.Tiers,G0 x.Height,G0 x.Kilos20,G0 x.Kilos40,G0 x.Lash,LT 1 G0 x.Plugs,G0 x.X,G0 x.Y,G0 x.Z]
def H1.av (x:H1):AV:=.agg x.cs
def H1.pl (x:H1):G4:=⟨x.Bay,x.Row,x.Deck,x.Tiers,x.Height,x.Kilos20,x.Kilos40,x.Lash,Prod.fst x.Plugs,x.X,x.Y,x.Z⟩
def H1.of (x:G4):H1:=⟨x.Bay,x.Row,x.Deck,x.Tiers,x.Height,x.Kilos20,x.Kilos40,x.Lash,(fun e=>(e,[])) x.Plugs,x.X,x.Y,x.Z⟩
theorem H1.cvl (x:H1):J9d (H1.cs x) (G4.cs x.pl):=⟨.same,.same,.same,.same,.same,.same,.same,.same,Cv.lst0 x.Plugs,.same,.same,.same,trivial⟩
structure Hf where
 Bay:Int
 Rows:Ln Int
 deriving Inhabited
def Hf.cs (x:Hf):List AV:=[G0 x.Bay,LT 1 G0 x.Rows]
def Hf.av (x:Hf):AV:=.agg x.cs
def Hf.pl (x:Hf):Ge:=⟨x.Bay,Prod.fst x.Rows⟩
def Hf.of (x:Ge):Hf:=⟨x.Bay,(fun e=>(e,[])) x.Rows⟩
theorem Hf.cvl (x:Hf):J9d (Hf.cs x) (Ge.cs x.pl):=⟨.same,Cv.lst0 x.Rows,trivial⟩
structure Hq where
 Kilos:Int
 X:Int
 Y:Int
 Z:Int
 Surface:Int
 Steps:Ln Int
 deriving Inhabited
def Hq.cs (x:Hq):List AV:=[G0 x.Kilos,G0 x.X,G0 x.Y,G0 x.Z,G0 x.Surface,LT 1 G0 x.Steps]
def Hq.av (x:Hq):AV:=.agg x.cs
def Hq.pl (x:Hq):Gp:=⟨x.Kilos,x.X,x.Y,x.Z,x.Surface,Prod.fst x.Steps⟩
def Hq.of (x:Gp):Hq:=⟨x.Kilos,x.X,x.Y,x.Z,x.Surface,(fun e=>(e,[])) x.Steps⟩
theorem Hq.cvl (x:Hq):J9d (Hq.cs x) (Gp.cs x.pl):=⟨.same,.same,.same,.same,.same,Cv.lst0 x.Steps,trivial⟩
structure Rb where
 Columns:Ln H1
 Covers:Ln Hf
 Light:Light
 Rows:Ln Row
 Frames:Ln Frame
 Tanks:Ln Hq
 G3:G3
 deriving Inhabited
def Rb.cs (x:Rb):List AV:=[LT 12 H1.av x.Columns,LT 2 Hf.av x.Covers,G0 x.Light.Kilos,G0 x.Light.X,G0 x.Light.Y,G0 x.Light.Z,LT 5 Row.av x.Rows,LT 5 Frame.av x.Frames,LT 6 Hq.av x.Tanks,G0 x.G3.Tolerance,G0 x.G3.Trim,G0 x.G3.List_,G0 x.G3.Stability]
def Rb.av (x:Rb):AV:=.agg x.cs
def Rb.pl (x:Rb):H8:=⟨(fun e=>e.1.map H1.pl) x.Columns,(fun e=>e.1.map Hf.pl) x.Covers,x.Light,Prod.fst x.Rows,Prod.fst x.Frames,(fun e=>e.1.map Hq.pl) x.Tanks,x.G3⟩
def Rb.of (x:H8):Rb:=⟨(fun e=>(e.map H1.of,[])) x.Columns,(fun e=>(e.map Hf.of,[])) x.Covers,x.Light,(fun e=>(e,[])) x.Rows,(fun e=>(e,[])) x.Frames,(fun e=>(e.map Hq.of,[])) x.Tanks,x.G3⟩
theorem Rb.cvl (x:Rb):J9d (Rb.cs x) (H8.cs x.pl):=⟨Cv.lstM (f:=H1.av) (g:=G4.av) H1.pl H1.cvl x.Columns,Cv.lstM (f:=Hf.av) (g:=Ge.av) Hf.pl Hf.cvl x.Covers,.same,.same,.same,.same,Cv.lst0 x.Rows,Cv.lst0 x.Frames,Cv.lstM (f:=Hq.av) (g:=Gp.av) Hq.pl Hq.cvl x.Tanks,.same,.same,.same,.same,trivial⟩
structure H2 where
 ID:Int
 Number:ByteArray
 Size:Int
 High:Bool
 Kilos:Int
 Load:Int
 Discharge:Int
 Class:Int
 Reefer:Bool
 deriving DecidableEq,Inhabited
def H2.cs (x:H2):List AV:=[G0 x.ID,ST x.Number,U8 x.Size,BL x.High,G0 x.Kilos,G0 x.Load,G0 x.Discharge,U8 x.Class,BL x.Reefer]
def H2.av (x:H2):AV:=.agg x.cs
abbrev Eh (x:H2):AV:=.dptr (H2.cs x)
abbrev E3:=LS 9 H2.av
structure Slot where
 G4:Int
 Tier:Int
 Half:Int
 deriving DecidableEq,Inhabited
def Slot.cs (x:Slot):List AV:=[G0 x.G4,G0 x.Tier,U8 x.Half]
def Slot.av (x:Slot):AV:=.agg x.cs
abbrev Ei (x:Slot):AV:=.dptr (Slot.cs x)
abbrev E9:=LS 3 Slot.av
structure G6 where
 H2:Int
 Slot:Slot
 deriving DecidableEq,Inhabited
def G6.cs (x:G6):List AV:=[G0 x.H2,G0 x.Slot.G4,G0 x.Slot.Tier,U8 x.Slot.Half]
def G6.av (x:G6):AV:=.agg x.cs
abbrev Ee (x:G6):AV:=.dptr (G6.cs x)
abbrev E0:=LS 4 G6.av
structure Move where
 Kind:Int
 H2:Int
 Slot:Slot
 Ge:Int
 deriving DecidableEq,Inhabited
def Move.cs (x:Move):List AV:=[U8 x.Kind,G0 x.H2,G0 x.Slot.G4,G0 x.Slot.Tier,U8 x.Slot.Half,G0 x.Ge]
def Move.av (x:Move):AV:=.agg x.cs
abbrev Eg (x:Move):AV:=.dptr (Move.cs x)
abbrev E2:=LS 6 Move.av
namespace XLF
open XAF
theorem tq_104 (a b:Row):H61 En 4 104 [.int .i64 a.Draught,.int .i64 a.Kilos,.int .i64 a.Buoy,.int .i64 a.Metacentre,.int .i64 a.J1d] [.int .i64 b.Draught,.int .i64 b.Kilos,.int .i64 b.Buoy,.int .i64 b.Metacentre,.int .i64 b.J1d]=some (decide (a=b)):=by
 refine(show _=some ((a.Draught==b.Draught)&&((a.Kilos==b.Kilos)&&((a.Buoy==b.Buoy)&&((a.Metacentre==b.Metacentre)&&((a.J1d==b.J1d)&&true))))) by kernel_rfl).trans (congrArg some ?_)
 rw [Bool.eq_iff_iff]
 simp only [Bool.and_eq_true,beq_iff_eq,decide_eq_true_eq,Bool.and_true]
 constructor
 ·intro h; obtain⟨_,_,_,_,_⟩:=a; obtain⟨_,_,_,_,_⟩:=b; simp_all
 ·intro h; subst h; simp
theorem tq_107 (a b:Frame):H61 En 4 107 [.int .i64 a.X,.int .i64 a.Light,.int .i64 a.Share,.int .i64 a.Shear,.int .i64 a.Bend] [.int .i64 b.X,.int .i64 b.Light,.int .i64 b.Share,.int .i64 b.Shear,.int .i64 b.Bend]=some (decide (a=b)):=by
 refine(show _=some ((a.X==b.X)&&((a.Light==b.Light)&&((a.Share==b.Share)&&((a.Shear==b.Shear)&&((a.Bend==b.Bend)&&true))))) by kernel_rfl).trans (congrArg some ?_)
 rw [Bool.eq_iff_iff]
 simp only [Bool.and_eq_true,beq_iff_eq,decide_eq_true_eq,Bool.and_true]
 constructor
 ·intro h; obtain⟨_,_,_,_,_⟩:=a; obtain⟨_,_,_,_,_⟩:=b; simp_all
 ·intro h; subst h; simp
theorem tq_25 (a b:Light):H61 En 4 25 [.int .i64 a.Kilos,.int .i64 a.X,.int .i64 a.Y,.int .i64 a.Z] [.int .i64 b.Kilos,.int .i64 b.X,.int .i64 b.Y,.int .i64 b.Z]=some (decide (a=b)):=by
 refine(show _=some ((a.Kilos==b.Kilos)&&((a.X==b.X)&&((a.Y==b.Y)&&((a.Z==b.Z)&&true)))) by kernel_rfl).trans (congrArg some ?_)
 rw [Bool.eq_iff_iff]
 simp only [Bool.and_eq_true,beq_iff_eq,decide_eq_true_eq,Bool.and_true]
 constructor
 ·intro h; obtain⟨_,_,_,_⟩:=a; obtain⟨_,_,_,_⟩:=b; simp_all
 ·intro h; subst h; simp
theorem tq_30 (a b:G3):H61 En 4 30 [.int .i64 a.Tolerance,.int .i64 a.Trim,.int .i64 a.List_,.int .i64 a.Stability] [.int .i64 b.Tolerance,.int .i64 b.Trim,.int .i64 b.List_,.int .i64 b.Stability]=some (decide (a=b)):=by
 refine(show _=some ((a.Tolerance==b.Tolerance)&&((a.Trim==b.Trim)&&((a.List_==b.List_)&&((a.Stability==b.Stability)&&true)))) by kernel_rfl).trans (congrArg some ?_)
 rw [Bool.eq_iff_iff]
 simp only [Bool.and_eq_true,beq_iff_eq,decide_eq_true_eq,Bool.and_true]
 constructor
 ·intro h; obtain⟨_,_,_,_⟩:=a; obtain⟨_,_,_,_⟩:=b; simp_all
 ·intro h; subst h; simp
theorem tq_58 (a b:H2):H61 En 4 58 [.int .i64 a.ID,.string a.Number,.int .u8 a.Size,.bool a.High,.int .i64 a.Kilos,.int .i64 a.Load,.int .i64 a.Discharge,.int .u8 a.Class,.bool a.Reefer] [.int .i64 b.ID,.string b.Number,.int .u8 b.Size,.bool b.High,.int .i64 b.Kilos,.int .i64 b.Load,.int .i64 b.Discharge,.int .u8 b.Class,.bool b.Reefer]=some (decide (a=b)):=by
 refine(show _=some ((a.ID==b.ID)&&((a.Number==b.Number)&&((a.Size==b.Size)&&((a.High==b.High)&&((a.Kilos==b.Kilos)&&((a.Load==b.Load)&&((a.Discharge==b.Discharge)&&((a.Class==b.Class)&&((a.Reefer==b.Reefer)&&true))))))))) by kernel_rfl).trans (congrArg some ?_)
 rw [Bool.eq_iff_iff]
 simp only [Bool.and_eq_true,ba_beq_iff,beq_iff_eq,decide_eq_true_eq,Bool.and_true]
 constructor
 ·intro h; obtain⟨_,_,_,_,_,_,_,_,_⟩:=a; obtain⟨_,_,_,_,_,_,_,_,_⟩:=b; simp_all
 ·intro h; subst h; simp
theorem tq_62 (a b:G6):H61 En 4 62 [.int .i64 a.H2,.int .i64 a.Slot.G4,.int .i64 a.Slot.Tier,.int .u8 a.Slot.Half] [.int .i64 b.H2,.int .i64 b.Slot.G4,.int .i64 b.Slot.Tier,.int .u8 b.Slot.Half]=some (decide (a=b)):=by
 refine(show _=some ((a.H2==b.H2)&&(((a.Slot.G4==b.Slot.G4)&&((a.Slot.Tier==b.Slot.Tier)&&((a.Slot.Half==b.Slot.Half)&&true)))&&true)) by kernel_rfl).trans (congrArg some ?_)
 rw [Bool.eq_iff_iff]
 simp only [Bool.and_eq_true,beq_iff_eq,decide_eq_true_eq,Bool.and_true]
 constructor
 ·intro h; obtain⟨_,⟨_,_,_⟩⟩:=a; obtain⟨_,⟨_,_,_⟩⟩:=b; simp_all
 ·intro h; subst h; simp
theorem tq_69 (a b:Move):H61 En 4 69 [.int .u8 a.Kind,.int .i64 a.H2,.int .i64 a.Slot.G4,.int .i64 a.Slot.Tier,.int .u8 a.Slot.Half,.int .i64 a.Ge] [.int .u8 b.Kind,.int .i64 b.H2,.int .i64 b.Slot.G4,.int .i64 b.Slot.Tier,.int .u8 b.Slot.Half,.int .i64 b.Ge]=some (decide (a=b)):=by
 refine(show _=some ((a.Kind==b.Kind)&&((a.H2==b.H2)&&(((a.Slot.G4==b.Slot.G4)&&((a.Slot.Tier==b.Slot.Tier)&&((a.Slot.Half==b.Slot.Half)&&true)))&&((a.Ge==b.Ge)&&true)))) by kernel_rfl).trans (congrArg some ?_)
 rw [Bool.eq_iff_iff]
 simp only [Bool.and_eq_true,beq_iff_eq,decide_eq_true_eq,Bool.and_true]
 constructor
 ·intro h; obtain⟨_,_,⟨_,_,_⟩,_⟩:=a; obtain⟨_,_,⟨_,_,_⟩,_⟩:=b; simp_all
 ·intro h; subst h; simp
theorem H0c:Gf9 En 104 5=true:=by kernel_rfl
theorem H0b:Gf9 En 107 5=true:=by kernel_rfl
theorem G3c:Gf9 En 110 6=true:=by kernel_rfl
theorem Q73:Gf9 En 25 4=true:=by kernel_rfl
theorem Q72:Gf9 En 30 4=true:=by kernel_rfl
theorem J1:Gf9 En 32 13=true:=by kernel_rfl
theorem G5b:Gf9 En 58 9=true:=by kernel_rfl
theorem Qv:Gf9 En 62 4=true:=by kernel_rfl
theorem Gb1:Gf9 En 69 6=true:=by kernel_rfl
theorem Hd6:G30 En 104=true:=by kernel_rfl
theorem Hd5:G30 En 107=true:=by kernel_rfl
theorem Qb5:G30 En 25=true:=by kernel_rfl
theorem Qb4:G30 En 30=true:=by kernel_rfl
theorem Jcc:G30 En 58=true:=by kernel_rfl
theorem Jcb:G30 En 62=true:=by kernel_rfl
theorem J0a:G30 En 69=true:=by kernel_rfl
theorem Ge1:Je3 En 4=true:=by kernel_rfl
theorem Qab:Hb En 112=true:=by kernel_rfl
theorem Qaa:Hb En 113=true:=by kernel_rfl
theorem Qa9:Hb En 114=true:=by kernel_rfl
theorem Qa8:Hb En 115=true:=by kernel_rfl
theorem Qa7:Hb En 116=true:=by kernel_rfl
theorem Qa6:Hb En 117=true:=by kernel_rfl
theorem J07:Hb En 118=true:=by kernel_rfl
theorem Qa5:Hb En 119=true:=by kernel_rfl
theorem J06:Hb En 120=true:=by kernel_rfl
theorem Qa4:Hb En 121=true:=by kernel_rfl
theorem J05:Hb En 122=true:=by kernel_rfl
theorem J03:Hb En 149=true:=by kernel_rfl
theorem J02:Hb En 150=true:=by kernel_rfl
theorem Qf7:Hb En 20=true:=by kernel_rfl
theorem Qf6:Hb En 21=true:=by kernel_rfl
theorem Qf5:Hb En 22=true:=by kernel_rfl
theorem Qf4:Hb En 23=true:=by kernel_rfl
theorem Qf3:Hb En 24=true:=by kernel_rfl
theorem Q26:Hb En 25=true:=by kernel_rfl
theorem Q25:Hb En 26=true:=by kernel_rfl
theorem Qe7:Hb En 43=true:=by kernel_rfl
theorem Q22:Hb En 44=true:=by kernel_rfl
theorem Qe6:Hb En 45=true:=by kernel_rfl
theorem Q21:Hb En 46=true:=by kernel_rfl
theorem Q20:Hb En 47=true:=by kernel_rfl
theorem Q1f:Hb En 48=true:=by kernel_rfl
theorem Qe5:Hb En 49=true:=by kernel_rfl
theorem Q1e:Hb En 50=true:=by kernel_rfl
theorem G68:Hb En 51=true:=by kernel_rfl
theorem Q15:Hb En 67=true:=by kernel_rfl
theorem Qdf:Hb En 70=true:=by kernel_rfl
theorem Qde:Hb En 71=true:=by kernel_rfl
theorem Qdd:Hb En 72=true:=by kernel_rfl
theorem Qdc:Hb En 73=true:=by kernel_rfl
theorem Qdb:Hb En 74=true:=by kernel_rfl
theorem Qda:Hb En 75=true:=by kernel_rfl
theorem J5b:Hb En 79=true:=by kernel_rfl
theorem J01:G19 En 104 5 40=true:=by kernel_rfl
theorem J00:G19 En 107 5 40=true:=by kernel_rfl
theorem Hff:G19 En 110 6 64=true:=by kernel_rfl
theorem Ge0:G19 En 3 1 8=true:=by kernel_rfl
theorem J56:G19 En 53 12 112=true:=by kernel_rfl
theorem J55:G19 En 55 2 32=true:=by kernel_rfl
theorem J54:G19 En 58 9 64=true:=by kernel_rfl
theorem H52:G19 En 62 4 32=true:=by kernel_rfl
theorem G22:G19 En 69 6 48=true:=by kernel_rfl
theorem J53:En.eqGuardType En.depth 104=false:=by kernel_rfl
theorem J52:En.eqGuardType En.depth 107=false:=by kernel_rfl
theorem tf_eqg_25:En.eqGuardType En.depth 25=false:=by kernel_rfl
theorem tf_eqg_30:En.eqGuardType En.depth 30=false:=by kernel_rfl
theorem Q6e:En.eqGuardType En.depth 58=false:=by kernel_rfl
theorem Q6d:En.eqGuardType En.depth 62=false:=by kernel_rfl
theorem Ja1:En.eqGuardType En.depth 69=false:=by kernel_rfl
theorem Hfe:Qa En 110 0 0=true:=by kernel_rfl
theorem Hfd:Qa En 110 1 1=true:=by kernel_rfl
theorem Hfc:Qa En 110 2 2=true:=by kernel_rfl
theorem Hfb:Qa En 110 3 3=true:=by kernel_rfl
theorem Hfa:Qa En 110 4 4=true:=by kernel_rfl
theorem G70:Qa En 110 5 5=true:=by kernel_rfl
theorem J48:Qa En 32 2 2=true:=by kernel_rfl
theorem G94:Qa En 32 3 6=true:=by kernel_rfl
theorem G93:Qa En 32 4 7=true:=by kernel_rfl
theorem G92:Qa En 32 5 8=true:=by kernel_rfl
theorem J47:Qa En 32 6 9=true:=by kernel_rfl
theorem Q6b:placesOf En 104=some [(0,1),(1,1),(2,1),(3,1),(4,1)]:=by kernel_rfl
theorem Q6a:placesOf En 107=some [(0,1),(1,1),(2,1),(3,1),(4,1)]:=by kernel_rfl
theorem Q69:placesOf En 110=some [(0,1),(1,1),(2,1),(3,1),(4,1),(5,1)]:=by kernel_rfl
theorem Gb0:placesOf En 53=some [(0,1),(1,1),(2,1),(3,1),(4,1),(5,1),(6,1),(7,1),(8,1),(9,1),(10,1),(11,1)]:=by kernel_rfl
theorem J75:placesOf En 55=some [(0,1),(1,1)]:=by kernel_rfl
theorem Gf0:placesOf En 58=some [(0,1),(1,1),(2,1),(3,1),(4,1),(5,1),(6,1),(7,1),(8,1)]:=by kernel_rfl
theorem J74:placesOf En 62=some [(0,1),(1,3)]:=by kernel_rfl
theorem G25:placesOf En 69=some [(0,1),(1,1),(2,3),(5,1)]:=by kernel_rfl
theorem Gef:Ym En 26=true:=by kernel_rfl
theorem Gee:Ym En 27=true:=by kernel_rfl
theorem Ged:Ym En 28=true:=by kernel_rfl
theorem Q8a:Yp En 104 5=true:=by kernel_rfl
theorem Q89:Yp En 107 5=true:=by kernel_rfl
theorem Hf7:Yp En 110 6=true:=by kernel_rfl
theorem Qc7:Yp En 22 1=true:=by kernel_rfl
theorem Qc6:Yp En 23 1=true:=by kernel_rfl
theorem Qc5:Yp En 26 1=true:=by kernel_rfl
theorem Qc4:Yp En 27 1=true:=by kernel_rfl
theorem Qc3:Yp En 28 1=true:=by kernel_rfl
theorem Hd0:Yp En 32 13=true:=by kernel_rfl
theorem Hcf:Yp En 51 1=true:=by kernel_rfl
theorem G7c:Yp En 58 9=true:=by kernel_rfl
theorem Z4:Yp En 62 4=true:=by kernel_rfl
theorem J51:Yp En 69 6=true:=by kernel_rfl
theorem Qf:sliceB En 26 104 5=true:=by kernel_rfl
theorem Qe:sliceB En 27 107 5=true:=by kernel_rfl
theorem Q5:sliceB En 28 110 6=true:=by kernel_rfl
theorem Jy:sliceB En 33 58 9=true:=by kernel_rfl
theorem Gz:sliceB En 34 62 4=true:=by kernel_rfl
theorem Hr:sliceB En 40 69 6=true:=by kernel_rfl
theorem Jc0:(En.info? 104).bind (fun i=>i.zero.map Value.cells)=some (List.toArray [.int .i64 0,.int .i64 0,.int .i64 0,.int .i64 0,.int .i64 0]):=by kernel_rfl
theorem Jbf:(En.info? 107).bind (fun i=>i.zero.map Value.cells)=some (List.toArray [.int .i64 0,.int .i64 0,.int .i64 0,.int .i64 0,.int .i64 0]):=by kernel_rfl
theorem Hf6:(En.info? 110).bind (fun i=>i.zero.map Value.cells)=some (List.toArray [.int .i64 0,.int .i64 0,.int .i64 0,.int .i64 0,.int .i64 0,.slice none 0 0]):=by kernel_rfl
theorem J4f:(En.info? 32).bind (fun i=>i.zero.map Value.cells)=some (List.toArray [.slice none 0 0,.slice none 0 0,.int .i64 0,.int .i64 0,.int .i64 0,.int .i64 0,.slice none 0 0,.slice none 0 0,.slice none 0 0,.int .i64 0,.int .i64 0,.int .i64 0,.int .i64 0]):=by kernel_rfl
theorem G9f:(En.info? 53).bind (fun i=>i.zero.map Value.cells)=some (List.toArray [.int .i64 0,.int .i64 0,.bool false,.int .i64 0,.int .i64 0,.int .i64 0,.int .i64 0,.int .i64 0,.slice none 0 0,.int .i64 0,.int .i64 0,.int .i64 0]):=by kernel_rfl
theorem Hcd:(En.info? 55).bind (fun i=>i.zero.map Value.cells)=some (List.toArray [.int .i64 0,.slice none 0 0]):=by kernel_rfl
theorem G9e:(En.info? 58).bind (fun i=>i.zero.map Value.cells)=some (List.toArray [.int .i64 0,.string ByteArray.empty,.int .u8 0,.bool false,.int .i64 0,.int .i64 0,.int .i64 0,.int .u8 0,.bool false]):=by kernel_rfl
theorem Hcb:(En.info? 62).bind (fun i=>i.zero.map Value.cells)=some (List.toArray [.int .i64 0,.int .i64 0,.int .i64 0,.int .u8 0]):=by kernel_rfl
theorem G4f:(En.info? 69).bind (fun i=>i.zero.map Value.cells)=some (List.toArray [.int .u8 0,.int .i64 0,.int .i64 0,.int .i64 0,.int .u8 0,.int .i64 0]):=by kernel_rfl
theorem Q7c:Yo En 104 5=true:=by kernel_rfl
theorem Q7b:Yo En 107 5=true:=by kernel_rfl
theorem Hc9:Yo En 110 6=true:=by kernel_rfl
theorem G67:Yo En 3 1=true:=by kernel_rfl
theorem Gdf:Yo En 58 9=true:=by kernel_rfl
theorem Rv:Yo En 62 4=true:=by kernel_rfl
theorem G7a:Yo En 69 6=true:=by kernel_rfl
end XLF
open XAF
open XLF

def Jw (k:Int) (i:Int):Option Int:=
 Yn (k+7) fun v3=>
 Yn (1000003*v3) fun v4=>
 Yn (v4+i) fun v5=>
 some v5
theorem Qn (k:Int) (i:Int) (r:Int) (h:Jw k i=some r):Pure En 51 [G0 k,G0 i] (·=G0 r):=by
 unfold Jw at h
 refine H0 [.tmp 4] Tryz.func51 O O (Jr fun hK1=>(JLm (G0 0) O (G8 (hK1 (Jr fun hK2=>(JLm (G0 k) O ?_))))))
 obtain⟨v3,hv3,h⟩:=Jh h
 refine JLh (G0 v3) (Hx hv3 O O O) O ?_
 obtain⟨v4,hv4,h⟩:=Jh h
 refine JLh (G0 v4) (A_mul hv4 O O O) O (JLm (G0 i) O ?_)
 obtain⟨v5,hv5,h⟩:=Jh h
 refine JLh (G0 v5) (Hx hv5 O O O) O (JLm (G0 v5) O (G8 (hK2 (Gt (fin1 G0 h)))))

def Rj (l:List Int):Option (Ln Int):=
 Yn ((l.length:Int)+12) fun v3=>
 bnd (H3a v3) fun m4=>
 need (decide (8*m4≤281474976710656∧m4≤maxLen)) <|
 need (decide ((([]:List Int).length+l.length)*8≤140737488355328∧([]:List Int).length+l.length≤maxLen)) <|
 need (decide (12≤9223372036854775807)) <|
 upto (fun i19 (s19:(List Int)) nx19=>
  bnd (Jw 1 (i19:Int)) fun r23=>
  need (decide ((s19.length+[r23].length)*8≤140737488355328∧s19.length+[r23].length≤maxLen)) <|
  nx19 (s19++[r23]))
 (fun(s19:(List Int))=>
  bnd (G61 (l.length:Int) s19.length) fun m26=>
  some (s19.take m26,s19.drop m26)) (12:Int).toNat 0 (([]:List Int)++l)
theorem G59 (l:List Int) (r:(Ln Int)) (h:Rj l=some r):Pure En 79 [E1 l] (·=LT 1 G0 r):=by
 unfold Rj at h
 refine H0 [.tmp 2] Tryz.func79 O O (Jr fun hK1=>(JLh (E1 ([]:List Int)) (Q2 1 O O) O (G8 (hK1 (Jr fun hK2=>(JLm (E1 l) O (JLl H4 O O O fun hm6=>?_)))))))
 obtain⟨v3,hv3,h⟩:=Jh h
 refine JLh (G0 v3) (Hx hv3 O O O) O ?_
 obtain⟨m4,hm4,h⟩:=Gf h
 obtain⟨ha5,h⟩:=Hz h
 refine JLh (OW 1115 1 G0 ([]:List Int)) (Gb9 1115 O O O O H4 Ge0 O (G71 hm4) ha5) O (JLm (OW 1115 1 G0 ([]:List Int)) O (G8 (hK2 (Jr fun hK6=>(JLm (OW 1115 1 G0 ([]:List Int)) O (JLm (E1 l) O ?_))))))
 obtain⟨ha7,h⟩:=Hz h
 refine JLh (OW 1115 1 G0 (([]:List Int)++l)) (G5c (f:=G0) (xs:=([]:List Int)) (ys:=l) O O O O H4 Ge0 ha7 (fun _=>O) (.inl O)) O (JLm (OW 1115 1 G0 (([]:List Int)++l)) O (G8 (hK6 (Js fun hK8=>Jr fun hK9=>(JLm (G0 0) O (G8 (hK9 (Gk ?_))))))))
 obtain⟨hx19,h⟩:=Hz h
 obtain⟨b19,kx19,hb19,hkx19,h⟩:=G44 h
 refine H6 (fun i19 (s19:(List Int))=>upto b19 kx19 ((12:Int).toNat - i19) i19 s19=some r) (fun i19 s19=>[(0,E1 l),(3,OW 1115 1 G0 s19),(4,Em i19)]) (fun i19 s19=>[(1115,.spare 3 1 s19.length s19.length)]) (fun i19=>(12:Int).toNat - i19) 0 (([]:List Int)++l) h ⟨⟨.same O,.same O,.same O,G⟩,⟨⟨_,O,.same⟩,G⟩,O⟩ ?_
 clear h
 intro i19 s19 hi19 K19 e19
 refine Js fun hK20=>Jr fun hK21=>(JLm (Em i19) O (JLh (BL (decide ((i19:Int) < 12))) (Hy O O O) O (G8 (hK21 (Gj O (fun hb=>?_) (fun hb=>?_))))))
 ·
  have hk19:=G0b hb
  obtain⟨nx19,hn19,h⟩:=G07 hi19 hk19
  replace h:=H9f hb19 h
  refine Gm (hK20 (Js fun hK22=>Gk (G2 (JLm (OW 1115 1 G0 s19) O (JLm (Em i19) O ?_)))))
  obtain⟨r23,hr23,h⟩:=Gf h
  refine JLh (G0 r23) (Gq O (Qn 1 (i19:Int) r23 hr23) G68 ⟨O,O,O,O,G⟩) O (JLh (E1 [r23]) (Hv (xs:=[G0 r23]) O ⟨O,O,G⟩ H4 G67 O O O O) O ?_)
  obtain⟨ha24,h⟩:=Hz h
  refine JLh (OW 1115 1 G0 (s19++[r23])) (Y0 (f:=G0) (xs:=s19) (ys:=[r23]) O O O O H4 Ge0 ha24 (fun _=>O) (.inl O) O) O (JLm (OW 1115 1 G0 (s19++[r23])) O (G8 (hK22 (G2 (JLm (Em i19) O (JLh (G0 ((i19+1:Nat):Int)) (Hx (Hc hk19 (Yt hx19)) O O O) O (JLm (G0 ((i19+1:Nat):Int)) O (G8 (e19 _ _ (i19+1) (s19++[r23]) (app1 hn19 h) (by omega) ⟨⟨.same rfl,.same rfl,.same rfl,G⟩,⟨⟨_,rfl,.same⟩,G⟩,rfl⟩)))))))))
 ·
  have h:=app1 hkx19 (G08 hi19 (Qr hb))
  refine Hd (hK8 (Jr fun hK25=>(JLm (OW 1115 1 G0 s19) O (JLm (E1 l) O (JLl H4 O O O fun hm23=>?_)))))
  obtain⟨m26,hm26,h⟩:=Gf h
  refine JLh (LT 1 G0 (s19.take m26,s19.drop m26)) (J9c (f:=G0) (xs:=s19) O O O H4 (Yv hm26)) O (JLm (LT 1 G0 (s19.take m26,s19.drop m26)) O (G8 (hK25 (Gt (fin1 (fun r:(Ln Int)=>(LT 1 G0 r:AV)) h)))))

def Z2 (x:G4):Option H1:=
 bnd (Rj x.Plugs) fun r3=>
 some (H1.mk x.Bay x.Row x.Deck x.Tiers x.Height x.Kilos20 x.Kilos40 x.Lash r3 x.X x.Y x.Z)
theorem H47 (x:G4) (r:H1) (h:Z2 x=some r):Pure En 43 [.agg (G4.cs x)] (·=.agg (H1.cs r)):=by
 unfold Z2 at h
 refine H0 [.cell 2 53] Tryz.func43 O O (Jr fun hK1=>(JLh (.ptr 1066 0) (Jq (cs:=(G4.cs x)) 1066 O O O O O) O (JLh (.ptr 1067 0) (G15 1067 [G0 0,G0 0,BL false,G0 0,G0 0,G0 0,G0 0,G0 0,E1 ([]:List Int),G0 0,G0 0,G0 0] [.int .i64 0,.int .i64 0,.bool false,.int .i64 0,.int .i64 0,.int .i64 0,.int .i64 0,.int .i64 0,.slice none 0 0,.int .i64 0,.int .i64 0,.int .i64 0] G9f ⟨.inl O,.inl O,.inl O,.inl O,.inl O,.inl O,.inl O,.inl O,.inr ⟨_,O,O⟩,.inl O,.inl O,.inl O,G⟩ O O) O (G8 (hK1 (Jr fun hK2=>(JLh (.ptr 1066 8) (Qp Rq O O) O (JLh (E1 x.Plugs) (Z7 J2 O O O O) O ?_))))))))
 obtain⟨r3,hr3,h⟩:=Gf h
 refine JLh (LT 1 G0 r3) (Gq O (G59 x.Plugs r3 hr3) J5b ⟨O,O,G⟩) O (JLh (.ptr 1066 8) (Qp Rq O O) O (Ja (u:=.junk) (J0 (u:=LT 1 G0 r3) (ds:=[G0 x.Bay,G0 x.Row,BL x.Deck,G0 x.Tiers,G0 x.Height,G0 x.Kilos20,G0 x.Kilos40,G0 x.Lash,LT 1 G0 r3,G0 x.X,G0 x.Y,G0 x.Z]) Hcf O O O O O O O O) (G8 (hK2 (Gx [(1,.dptr [G0 x.Bay,G0 x.Row,BL x.Deck,G0 x.Tiers,G0 x.Height,G0 x.Kilos20,G0 x.Kilos40,G0 x.Lash,LT 1 G0 r3,G0 x.X,G0 x.Y,G0 x.Z]),(2,.ptr 1067 0)] [(1067,.box 53 [G0 0,G0 0,BL false,G0 0,G0 0,G0 0,G0 0,G0 0,E1 ([]:List Int),G0 0,G0 0,G0 0])] 1066 rfl rfl rfl ⟨⟨_,rfl,.boxEq rfl rfl⟩,G⟩ rfl (by exact⟨.ptr,.conv (.same rfl),G⟩) ?_)))))
 refine Jr fun hK4=>(JLh (.agg [G0 x.Bay,G0 x.Row,BL x.Deck,G0 x.Tiers,G0 x.Height,G0 x.Kilos20,G0 x.Kilos40,G0 x.Lash,LT 1 G0 r3,G0 x.X,G0 x.Y,G0 x.Z]) (Gi Yc O O O) O (Ja (u:=.junk) (J0 (u:=.agg [G0 x.Bay,G0 x.Row,BL x.Deck,G0 x.Tiers,G0 x.Height,G0 x.Kilos20,G0 x.Kilos40,G0 x.Lash,LT 1 G0 r3,G0 x.X,G0 x.Y,G0 x.Z]) (ds:=[G0 x.Bay,G0 x.Row,BL x.Deck,G0 x.Tiers,G0 x.Height,G0 x.Kilos20,G0 x.Kilos40,G0 x.Lash,LT 1 G0 r3,G0 x.X,G0 x.Y,G0 x.Z]) Ga0 O O O O O O O O) (G8 (hK4 (Gt ?_)))))
 exact⟨[.agg [G0 x.Bay,G0 x.Row,BL x.Deck,G0 x.Tiers,G0 x.Height,G0 x.Kilos20,G0 x.Kilos40,G0 x.Lash,LT 1 G0 r3,G0 x.X,G0 x.Y,G0 x.Z]],[],G,O,⟨⟨_,⟨_,_,_,_,O,O,O,.inl ⟨Yc,O⟩⟩,.conv (.same O)⟩,G⟩,O,congrArg (fun r:H1=>(.agg (H1.cs r):AV)) (Option.some.inj h)⟩

def R4 (k:Int) (i:Int):Option G4:=
 bnd (Jw k i) fun r3=>
 some (G4.mk r3 0 false 0 0 0 0 0 [] 0 0 0)
theorem G9b (k:Int) (i:Int) (r:G4) (h:R4 k i=some r):Pure En 44 [G0 k,G0 i] (·=.agg (G4.cs r)):=by
 unfold R4 at h
 refine H0 [.cell 4 53] Tryz.func44 O O (Jr fun hK1=>(JLh (.ptr 1068 0) (G15 1068 [G0 0,G0 0,BL false,G0 0,G0 0,G0 0,G0 0,G0 0,E1 ([]:List Int),G0 0,G0 0,G0 0] [.int .i64 0,.int .i64 0,.bool false,.int .i64 0,.int .i64 0,.int .i64 0,.int .i64 0,.int .i64 0,.slice none 0 0,.int .i64 0,.int .i64 0,.int .i64 0] G9f ⟨.inl O,.inl O,.inl O,.inl O,.inl O,.inl O,.inl O,.inl O,.inr ⟨_,O,O⟩,.inl O,.inl O,.inl O,G⟩ O O) O (G8 (hK1 (Jr fun hK2=>(JLm (G0 k) O (JLm (G0 i) O ?_)))))))
 obtain⟨r3,hr3,h⟩:=Gf h
 refine JLh (G0 r3) (Gq O (Qn k i r3 hr3) G68 ⟨O,O,O,O,G⟩) O (JLh (.agg [G0 r3,G0 0,BL false,G0 0,G0 0,G0 0,G0 0,G0 0,E1 ([]:List Int),G0 0,G0 0,G0 0]) (Ji (cs:=[G0 r3,G0 0,BL false,G0 0,G0 0,G0 0,G0 0,G0 0,E1 ([]:List Int),G0 0,G0 0,G0 0]) [(0,1),(1,1),(2,1),(3,1),(4,1),(5,1),(6,1),(7,1),(8,1),(9,1),(10,1),(11,1)] [G0 0,G0 0,BL false,G0 0,G0 0,G0 0,G0 0,G0 0,E1 ([]:List Int),G0 0,G0 0,G0 0] [.int .i64 0,.int .i64 0,.bool false,.int .i64 0,.int .i64 0,.int .i64 0,.int .i64 0,.int .i64 0,.slice none 0 0,.int .i64 0,.int .i64 0,.int .i64 0] Gb0 G9f ⟨.inl O,.inl O,.inl O,.inl O,.inl O,.inl O,.inl O,.inl O,.inr ⟨_,O,O⟩,.inl O,.inl O,.inl O,G⟩ O O) O (Ja (u:=.junk) (J0 (u:=.agg [G0 r3,G0 0,BL false,G0 0,G0 0,G0 0,G0 0,G0 0,E1 ([]:List Int),G0 0,G0 0,G0 0]) (ds:=[G0 r3,G0 0,BL false,G0 0,G0 0,G0 0,G0 0,G0 0,E1 ([]:List Int),G0 0,G0 0,G0 0]) Ga0 O O O O O O O O) (G8 (hK2 ?_))))
 refine Gt (⟨[.agg [G0 r3,G0 0,BL false,G0 0,G0 0,G0 0,G0 0,G0 0,E1 ([]:List Int),G0 0,G0 0,G0 0]],[],G,O,⟨⟨_,⟨_,_,_,_,O,O,O,.inl ⟨Yc,O⟩⟩,.conv (.same O)⟩,G⟩,O,congrArg (fun r:G4=>(.agg (G4.cs r):AV)) (Option.some.inj h)⟩)

def Yr (l:List G4):Option (Ln H1):=
 Yn ((l.length:Int)+12) fun v3=>
 bnd (H3a v3) fun m4=>
 need (decide (112*m4≤281474976710656∧m4≤maxLen)) <|
 each (fun y23 i23 (s23:(List H1)) nx23=>
  bnd (Z2 y23) fun r28=>
  need (decide ((s23.length+[r28].length)*112≤140737488355328∧s23.length+[r28].length≤maxLen)) <|
  nx23 (s23++[r28]))
 (fun(s23:(List H1))=>
  need (decide (12≤9223372036854775807)) <|
  upto (fun i41 (s41:(List H1)) nx41=>
   bnd (R4 1 (i41:Int)) fun r45=>
   need (decide ((s41.length+[(H1.mk r45.Bay r45.Row r45.Deck r45.Tiers r45.Height r45.Kilos20 r45.Kilos40 r45.Lash (r45.Plugs,([]:List Int)) r45.X r45.Y r45.Z)].length)*112≤140737488355328∧s41.length+[(H1.mk r45.Bay r45.Row r45.Deck r45.Tiers r45.Height r45.Kilos20 r45.Kilos40 r45.Lash (r45.Plugs,([]:List Int)) r45.X r45.Y r45.Z)].length≤maxLen)) <|
   nx41 (s41++[(H1.mk r45.Bay r45.Row r45.Deck r45.Tiers r45.Height r45.Kilos20 r45.Kilos40 r45.Lash (r45.Plugs,([]:List Int)) r45.X r45.Y r45.Z)]))
  (fun(s41:(List H1))=>
   bnd (G61 (l.length:Int) s41.length) fun m48=>
   some (s41.take m48,s41.drop m48)) (12:Int).toNat 0 s23) l 0 []
theorem H37 (l:List G4) (r:(Ln H1)) (h:Yr l=some r):Pure En 20 [E5 l] (·=LT 12 H1.av r):=by
 unfold Yr at h
 refine H0 [.tmp 2] Tryz.func20 O O (Jr fun hK1=>(JLh (E5 ([]:List G4)) (Q2 12 O O) O (G8 (hK1 (Jr fun hK2=>(JLm (E5 l) O (JLl H7 O O O fun hm8=>?_)))))))
 obtain⟨v3,hv3,h⟩:=Jh h
 refine JLh (G0 v3) (Hx hv3 O O O) O ?_
 obtain⟨m4,hm4,h⟩:=Gf h
 obtain⟨ha5,h⟩:=Hz h
 refine JLh (OW 1030 12 H1.av ([]:List H1)) (Gb9 1030 O O O O H7 J56 O (G71 hm4) ha5) O (JLm (OW 1030 12 H1.av ([]:List H1)) O (G8 (hK2 (Js fun hK6=>Jr fun hK7=>(JLm (G0 0) O (G8 (hK7 (Gk ?_))))))))
 obtain⟨b23,kx23,hb23,hkx23,h⟩:=J4 h
 refine H6 (fun i23 (s23:(List H1))=>each b23 kx23 (List.drop i23 l) i23 s23=some r) (fun i23 s23=>[(0,E5 l),(3,OW 1030 12 H1.av s23),(4,Em i23)]) (fun i23 s23=>[(1030,.spare 53 12 s23.length s23.length)]) (fun i23=>l.length - i23) 0 [] h ⟨⟨.same O,.same O,.same O,G⟩,⟨⟨_,O,.same⟩,G⟩,O⟩ ?_
 clear h
 intro i23 s23 hi23 K23 e23
 refine Js fun hK24=>Jr fun hK25=>(JLm (Em i23) O (JLm (E5 l) O (JLl H7 O O O fun hm13=>(JLh (BL (decide ((i23:Int) < (l.length:Int)))) (Hy O O O) O (G8 (hK25 (Gj O (fun hb=>?_) (fun hb=>?_))))))))
 ·
  have hk23:=Je hb
  obtain⟨y23,nx23,hy23,hn23,h⟩:=Hs hi23 hk23
  replace h:=Y8 hb23 h
  refine Gm (hK24 (Js fun hK26=>Gk (Jr fun hK27=>(JLm (E5 l) O (JLm (Em i23) O (JLh (Ef y23) (Gs (f:=G4.av) (xs:=l) (y:=y23) O O O H7 hy23 O) O (JLh (.agg (G4.cs y23)) (Gi Yc O O O) O ?_)))))))
  obtain⟨r28,hr28,h⟩:=Gf h
  refine JLh (.agg (H1.cs r28)) (Gq O (H47 y23 r28 hr28) Qe7 ⟨O,O,G⟩) O (JLh (.ptr 1029 0) (Ju 1029 12 G5e O O) O (Ja (u:=.junk) (J0 (u:=.agg (H1.cs r28)) (ds:=(H1.cs r28)) Ga0 O O O O O O O O) (G8 (hK27 (Gx [(0,E5 l),(3,OW 1030 12 H1.av s23),(4,Em i23),(5,.dptr (H1.cs r28))] [(1030,.spare 53 12 s23.length s23.length)] 1029 rfl rfl rfl ⟨⟨_,rfl,.same⟩,G⟩ rfl (by repeat' (first | exact .ptr | constructor)) (G2 ?_))))))
  refine JLm (OW 1030 12 H1.av s23) O (JLh (.agg (H1.cs r28)) (Gi Yc O O O) O (JLh (LS 12 H1.av [r28]) (Hv (xs:=[.agg (H1.cs r28)]) O ⟨O,O,G⟩ H7 G5e O O O O) O ?_))
  obtain⟨ha29,h⟩:=Hz h
  refine JLh (OW 1030 12 H1.av (s23++[r28])) (Y0 (f:=H1.av) (xs:=s23) (ys:=[r28]) O O O O H7 J56 ha29 (fun _=>O) (.inl O) O) O (JLm (OW 1030 12 H1.av (s23++[r28])) O (G8 (hK26 (G2 (JLm (Em i23) O (JLh (G0 ((i23+1:Nat):Int)) (Hx (Hc hk23 hm13) O O O) O (JLm (G0 ((i23+1:Nat):Int)) O (G8 (e23 _ _ (i23+1) (s23++[r28]) (app1 hn23 h) (by omega) ⟨⟨.same rfl,.same rfl,.same rfl,G⟩,⟨⟨_,rfl,.same⟩,G⟩,rfl⟩)))))))))
 ·
  have h:=app1 hkx23 (Ht hi23 (H9 hb))
  refine Hd (hK6 (Js fun hK30=>Jr fun hK31=>(JLm (G0 0) O (G8 (hK31 (Gk ?_))))))
  obtain⟨hx41,h⟩:=Hz h
  obtain⟨b41,kx41,hb41,hkx41,h⟩:=G44 h
  refine H6 (fun i41 (s41:(List H1))=>upto b41 kx41 ((12:Int).toNat - i41) i41 s41=some r) (fun i41 s41=>[(0,E5 l),(3,OW 1030 12 H1.av s41),(6,Em i41)]) (fun i41 s41=>[(1030,.spare 53 12 s41.length s41.length)]) (fun i41=>(12:Int).toNat - i41) 0 s23 h ⟨⟨.same O,.same O,.same O,G⟩,⟨⟨_,O,.same⟩,G⟩,O⟩ ?_
  clear h
  intro i41 s41 hi41 K41 e41
  refine Js fun hK42=>Jr fun hK43=>(JLm (Em i41) O (JLh (BL (decide ((i41:Int) < 12))) (Hy O O O) O (G8 (hK43 (Gj O (fun hb=>?_) (fun hb=>?_))))))
  ·
   have hk41:=G0b hb
   obtain⟨nx41,hn41,h⟩:=G07 hi41 hk41
   replace h:=H9f hb41 h
   refine Gm (hK42 (Js fun hK44=>Gk (G2 (JLm (OW 1030 12 H1.av s41) O (JLm (Em i41) O ?_)))))
   obtain⟨r45,hr45,h⟩:=Gf h
   refine JLh (.agg [G0 r45.Bay,G0 r45.Row,BL r45.Deck,G0 r45.Tiers,G0 r45.Height,G0 r45.Kilos20,G0 r45.Kilos40,G0 r45.Lash,LT 1 G0 (r45.Plugs,([]:List Int)),G0 r45.X,G0 r45.Y,G0 r45.Z]) (Ha.cv (Cv.aggL (cs:=(G4.cs r45)) ⟨.same,.same,.same,.same,.same,.same,.same,.same,Cv.of0 r45.Plugs,.same,.same,.same,G⟩) (Gq O (G9b 1 (i41:Int) r45 hr45) Q22 ⟨O,O,O,O,G⟩)) O (JLh (LS 12 H1.av ([(H1.mk r45.Bay r45.Row r45.Deck r45.Tiers r45.Height r45.Kilos20 r45.Kilos40 r45.Lash (r45.Plugs,([]:List Int)) r45.X r45.Y r45.Z)])) (Hv (xs:=[.agg [G0 r45.Bay,G0 r45.Row,BL r45.Deck,G0 r45.Tiers,G0 r45.Height,G0 r45.Kilos20,G0 r45.Kilos40,G0 r45.Lash,LT 1 G0 (r45.Plugs,([]:List Int)),G0 r45.X,G0 r45.Y,G0 r45.Z]]) O ⟨O,O,G⟩ H7 G5e O O O O) O ?_)
   obtain⟨ha46,h⟩:=Hz h
   refine JLh (OW 1030 12 H1.av (s41++[(H1.mk r45.Bay r45.Row r45.Deck r45.Tiers r45.Height r45.Kilos20 r45.Kilos40 r45.Lash (r45.Plugs,([]:List Int)) r45.X r45.Y r45.Z)])) (Y0 (f:=H1.av) (xs:=s41) (ys:=[(H1.mk r45.Bay r45.Row r45.Deck r45.Tiers r45.Height r45.Kilos20 r45.Kilos40 r45.Lash (r45.Plugs,([]:List Int)) r45.X r45.Y r45.Z)]) O O O O H7 J56 ha46 (fun _=>O) (.inl O) O) O (JLm (OW 1030 12 H1.av (s41++[(H1.mk r45.Bay r45.Row r45.Deck r45.Tiers r45.Height r45.Kilos20 r45.Kilos40 r45.Lash (r45.Plugs,([]:List Int)) r45.X r45.Y r45.Z)])) O (G8 (hK44 (G2 (JLm (Em i41) O (JLh (G0 ((i41+1:Nat):Int)) (Hx (Hc hk41 (Yt hx41)) O O O) O (JLm (G0 ((i41+1:Nat):Int)) O (G8 ?_))))))))
   exact e41 _ _ (i41+1) (s41++[(H1.mk r45.Bay r45.Row r45.Deck r45.Tiers r45.Height r45.Kilos20 r45.Kilos40 r45.Lash (r45.Plugs,([]:List Int)) r45.X r45.Y r45.Z)]) (app1 hn41 h) (by omega) ⟨⟨.same rfl,.same rfl,.same rfl,G⟩,⟨⟨_,rfl,.same⟩,G⟩,rfl⟩
  ·
   have h:=app1 hkx41 (G08 hi41 (Qr hb))
   refine Hd (hK30 (Jr fun hK47=>(JLm (OW 1030 12 H1.av s41) O (JLm (E5 l) O (JLl H7 O O O fun hm37=>?_)))))
   obtain⟨m48,hm48,h⟩:=Gf h
   refine JLh (LT 12 H1.av (s41.take m48,s41.drop m48)) (J9c (f:=H1.av) (xs:=s41) O O O H7 (Yv hm48)) O (JLm (LT 12 H1.av (s41.take m48,s41.drop m48)) O (G8 (hK47 (Gt (fin1 (fun r:(Ln H1)=>(LT 12 H1.av r:AV)) h)))))

def Zn (x:Ge):Option Hf:=
 bnd (Rj x.Rows) fun r3=>
 some (Hf.mk x.Bay r3)
theorem H70 (x:Ge) (r:Hf) (h:Zn x=some r):Pure En 45 [.agg [G0 x.Bay,E1 x.Rows]] (·=.agg [G0 r.Bay,LT 1 G0 r.Rows]):=by
 unfold Zn at h
 refine H0 [.cell 2 55] Tryz.func45 O O (Jr fun hK1=>(JLh (.ptr 1069 0) (Jq (cs:=[G0 x.Bay,E1 x.Rows]) 1069 O O O O O) O (JLh (.ptr 1070 0) (G15 1070 [G0 0,E1 ([]:List Int)] [.int .i64 0,.slice none 0 0] Hcd ⟨.inl O,.inr ⟨_,O,O⟩,G⟩ O O) O (G8 (hK1 (Jr fun hK2=>(JLh (.ptr 1069 1) (Qp Qd O O) O (JLh (E1 x.Rows) (Z7 J2 O O O O) O ?_))))))))
 obtain⟨r3,hr3,h⟩:=Gf h
 refine JLh (LT 1 G0 r3) (Gq O (G59 x.Rows r3 hr3) J5b ⟨O,O,G⟩) O (JLh (.ptr 1069 1) (Qp Qd O O) O (Ja (u:=.junk) (J0 (u:=LT 1 G0 r3) (ds:=[G0 x.Bay,LT 1 G0 r3]) Hcf O O O O O O O O) (G8 (hK2 (Gx [(1,.dptr [G0 x.Bay,LT 1 G0 r3]),(2,.ptr 1070 0)] [(1070,.box 55 [G0 0,E1 ([]:List Int)])] 1069 rfl rfl rfl ⟨⟨_,rfl,.boxEq rfl rfl⟩,G⟩ rfl (by exact⟨.ptr,.conv (.same rfl),G⟩) (Jr fun hK4=>(JLh (.agg [G0 x.Bay,LT 1 G0 r3]) (Gi Z8 O O O) O (Ja (u:=.junk) (J0 (u:=.agg [G0 x.Bay,LT 1 G0 r3]) (ds:=[G0 x.Bay,LT 1 G0 r3]) Gd9 O O O O O O O O) (G8 (hK4 (Gt ?_)))))))))))
 exact⟨[.agg [G0 x.Bay,LT 1 G0 r3]],[],G,O,⟨⟨_,⟨_,_,_,_,O,O,O,.inl ⟨Z8,O⟩⟩,.conv (.same O)⟩,G⟩,O,congrArg (fun r:Hf=>(.agg [G0 r.Bay,LT 1 G0 r.Rows]:AV)) (Option.some.inj h)⟩

def R8 (k:Int) (i:Int):Option Ge:=
 bnd (Jw k i) fun r3=>
 some (Ge.mk r3 [])
theorem Ga8 (k:Int) (i:Int) (r:Ge) (h:R8 k i=some r):Pure En 46 [G0 k,G0 i] (·=.agg [G0 r.Bay,E1 r.Rows]):=by
 unfold R8 at h
 refine H0 [.cell 4 55] Tryz.func46 O O (Jr fun hK1=>(JLh (.ptr 1071 0) (G15 1071 [G0 0,E1 ([]:List Int)] [.int .i64 0,.slice none 0 0] Hcd ⟨.inl O,.inr ⟨_,O,O⟩,G⟩ O O) O (G8 (hK1 (Jr fun hK2=>(JLm (G0 k) O (JLm (G0 i) O ?_)))))))
 obtain⟨r3,hr3,h⟩:=Gf h
 refine JLh (G0 r3) (Gq O (Qn k i r3 hr3) G68 ⟨O,O,O,O,G⟩) O (JLh (.agg [G0 r3,E1 ([]:List Int)]) (Ji (cs:=[G0 r3,E1 ([]:List Int)]) [(0,1),(1,1)] [G0 0,E1 ([]:List Int)] [.int .i64 0,.slice none 0 0] J75 Hcd ⟨.inl O,.inr ⟨_,O,O⟩,G⟩ O O) O (Ja (u:=.junk) (J0 (u:=.agg [G0 r3,E1 ([]:List Int)]) (ds:=[G0 r3,E1 ([]:List Int)]) Gd9 O O O O O O O O) (G8 (hK2 (Gt (⟨[.agg [G0 r3,E1 ([]:List Int)]],[],G,O,⟨⟨_,⟨_,_,_,_,O,O,O,.inl ⟨Z8,O⟩⟩,.conv (.same O)⟩,G⟩,O,congrArg (fun r:Ge=>(.agg [G0 r.Bay,E1 r.Rows]:AV)) (Option.some.inj h)⟩))))))

def Z1 (l:List Ge):Option (Ln Hf):=
 Yn ((l.length:Int)+12) fun v3=>
 bnd (H3a v3) fun m4=>
 need (decide (32*m4≤281474976710656∧m4≤maxLen)) <|
 each (fun y23 i23 (s23:(List Hf)) nx23=>
  bnd (Zn y23) fun r28=>
  need (decide ((s23.length+[r28].length)*32≤140737488355328∧s23.length+[r28].length≤maxLen)) <|
  nx23 (s23++[r28]))
 (fun(s23:(List Hf))=>
  need (decide (12≤9223372036854775807)) <|
  upto (fun i41 (s41:(List Hf)) nx41=>
   bnd (R8 1 (i41:Int)) fun r45=>
   need (decide ((s41.length+[(Hf.mk r45.Bay (r45.Rows,([]:List Int)))].length)*32≤140737488355328∧s41.length+[(Hf.mk r45.Bay (r45.Rows,([]:List Int)))].length≤maxLen)) <|
   nx41 (s41++[(Hf.mk r45.Bay (r45.Rows,([]:List Int)))]))
  (fun(s41:(List Hf))=>
   bnd (G61 (l.length:Int) s41.length) fun m48=>
   some (s41.take m48,s41.drop m48)) (12:Int).toNat 0 s23) l 0 []
theorem H46 (l:List Ge) (r:(Ln Hf)) (h:Z1 l=some r):Pure En 21 [E4 l] (·=LT 2 Hf.av r):=by
 unfold Z1 at h
 refine H0 [.tmp 2] Tryz.func21 O O (Jr fun hK1=>(JLh (E4 ([]:List Ge)) (Q2 2 O O) O (G8 (hK1 (Jr fun hK2=>(JLm (E4 l) O (JLl Hu O O O fun hm8=>?_)))))))
 obtain⟨v3,hv3,h⟩:=Jh h
 refine JLh (G0 v3) (Hx hv3 O O O) O ?_
 obtain⟨m4,hm4,h⟩:=Gf h
 obtain⟨ha5,h⟩:=Hz h
 refine JLh (OW 1032 2 Hf.av ([]:List Hf)) (Gb9 1032 O O O O Hu J55 O (G71 hm4) ha5) O (JLm (OW 1032 2 Hf.av ([]:List Hf)) O (G8 (hK2 (Js fun hK6=>Jr fun hK7=>(JLm (G0 0) O (G8 (hK7 (Gk ?_))))))))
 obtain⟨b23,kx23,hb23,hkx23,h⟩:=J4 h
 refine H6 (fun i23 (s23:(List Hf))=>each b23 kx23 (List.drop i23 l) i23 s23=some r) (fun i23 s23=>[(0,E4 l),(3,OW 1032 2 Hf.av s23),(4,Em i23)]) (fun i23 s23=>[(1032,.spare 55 2 s23.length s23.length)]) (fun i23=>l.length - i23) 0 [] h ⟨⟨.same O,.same O,.same O,G⟩,⟨⟨_,O,.same⟩,G⟩,O⟩ ?_
 clear h
 intro i23 s23 hi23 K23 e23
 refine Js fun hK24=>Jr fun hK25=>(JLm (Em i23) O (JLm (E4 l) O (JLl Hu O O O fun hm13=>(JLh (BL (decide ((i23:Int) < (l.length:Int)))) (Hy O O O) O (G8 (hK25 (Gj O (fun hb=>?_) (fun hb=>?_))))))))
 ·
  have hk23:=Je hb
  obtain⟨y23,nx23,hy23,hn23,h⟩:=Hs hi23 hk23
  replace h:=Y8 hb23 h
  refine Gm (hK24 (Js fun hK26=>Gk (Jr fun hK27=>(JLm (E4 l) O (JLm (Em i23) O (JLh (.dptr [G0 y23.Bay,E1 y23.Rows]) (Gs (f:=Ge.av) (xs:=l) (y:=y23) O O O Hu hy23 O) O (JLh (.agg [G0 y23.Bay,E1 y23.Rows]) (Gi Z8 O O O) O ?_)))))))
  obtain⟨r28,hr28,h⟩:=Gf h
  refine JLh (.agg [G0 r28.Bay,LT 1 G0 r28.Rows]) (Gq O (H70 y23 r28 hr28) Qe6 ⟨O,O,G⟩) O (JLh (.ptr 1031 0) (Ju 1031 2 G7b O O) O (Ja (u:=.junk) (J0 (u:=.agg [G0 r28.Bay,LT 1 G0 r28.Rows]) (ds:=[G0 r28.Bay,LT 1 G0 r28.Rows]) Gd9 O O O O O O O O) (G8 (hK27 (Gx [(0,E4 l),(3,OW 1032 2 Hf.av s23),(4,Em i23),(5,.dptr [G0 r28.Bay,LT 1 G0 r28.Rows])] [(1032,.spare 55 2 s23.length s23.length)] 1031 rfl rfl rfl ⟨⟨_,rfl,.same⟩,G⟩ rfl (by repeat' (first | exact .ptr | constructor)) (G2 ?_))))))
  refine JLm (OW 1032 2 Hf.av s23) O (JLh (.agg [G0 r28.Bay,LT 1 G0 r28.Rows]) (Gi Z8 O O O) O (JLh (LS 2 Hf.av [r28]) (Hv (xs:=[.agg [G0 r28.Bay,LT 1 G0 r28.Rows]]) O ⟨O,O,G⟩ Hu G7b O O O O) O ?_))
  obtain⟨ha29,h⟩:=Hz h
  refine JLh (OW 1032 2 Hf.av (s23++[r28])) (Y0 (f:=Hf.av) (xs:=s23) (ys:=[r28]) O O O O Hu J55 ha29 (fun _=>O) (.inl O) O) O (JLm (OW 1032 2 Hf.av (s23++[r28])) O (G8 (hK26 (G2 (JLm (Em i23) O (JLh (G0 ((i23+1:Nat):Int)) (Hx (Hc hk23 hm13) O O O) O (JLm (G0 ((i23+1:Nat):Int)) O (G8 (e23 _ _ (i23+1) (s23++[r28]) (app1 hn23 h) (by omega) ⟨⟨.same rfl,.same rfl,.same rfl,G⟩,⟨⟨_,rfl,.same⟩,G⟩,rfl⟩)))))))))
 ·
  have h:=app1 hkx23 (Ht hi23 (H9 hb))
  refine Hd (hK6 (Js fun hK30=>Jr fun hK31=>(JLm (G0 0) O (G8 (hK31 (Gk ?_))))))
  obtain⟨hx41,h⟩:=Hz h
  obtain⟨b41,kx41,hb41,hkx41,h⟩:=G44 h
  refine H6 (fun i41 (s41:(List Hf))=>upto b41 kx41 ((12:Int).toNat - i41) i41 s41=some r) (fun i41 s41=>[(0,E4 l),(3,OW 1032 2 Hf.av s41),(6,Em i41)]) (fun i41 s41=>[(1032,.spare 55 2 s41.length s41.length)]) (fun i41=>(12:Int).toNat - i41) 0 s23 h ⟨⟨.same O,.same O,.same O,G⟩,⟨⟨_,O,.same⟩,G⟩,O⟩ ?_
  clear h
  intro i41 s41 hi41 K41 e41
  refine Js fun hK42=>Jr fun hK43=>(JLm (Em i41) O (JLh (BL (decide ((i41:Int) < 12))) (Hy O O O) O (G8 (hK43 (Gj O (fun hb=>?_) (fun hb=>?_))))))
  ·
   have hk41:=G0b hb
   obtain⟨nx41,hn41,h⟩:=G07 hi41 hk41
   replace h:=H9f hb41 h
   refine Gm (hK42 (Js fun hK44=>Gk (G2 (JLm (OW 1032 2 Hf.av s41) O (JLm (Em i41) O ?_)))))
   obtain⟨r45,hr45,h⟩:=Gf h
   refine JLh (.agg [G0 r45.Bay,LT 1 G0 (r45.Rows,([]:List Int))]) (Ha.cv (Cv.aggL (cs:=[G0 r45.Bay,E1 r45.Rows]) ⟨.same,Cv.of0 r45.Rows,G⟩) (Gq O (Ga8 1 (i41:Int) r45 hr45) Q21 ⟨O,O,O,O,G⟩)) O (JLh (LS 2 Hf.av ([(Hf.mk r45.Bay (r45.Rows,([]:List Int)))])) (Hv (xs:=[.agg [G0 r45.Bay,LT 1 G0 (r45.Rows,([]:List Int))]]) O ⟨O,O,G⟩ Hu G7b O O O O) O ?_)
   obtain⟨ha46,h⟩:=Hz h
   refine JLh (OW 1032 2 Hf.av (s41++[(Hf.mk r45.Bay (r45.Rows,([]:List Int)))])) (Y0 (f:=Hf.av) (xs:=s41) (ys:=[(Hf.mk r45.Bay (r45.Rows,([]:List Int)))]) O O O O Hu J55 ha46 (fun _=>O) (.inl O) O) O (JLm (OW 1032 2 Hf.av (s41++[(Hf.mk r45.Bay (r45.Rows,([]:List Int)))])) O (G8 (hK44 (G2 (JLm (Em i41) O (JLh (G0 ((i41+1:Nat):Int)) (Hx (Hc hk41 (Yt hx41)) O O O) O (JLm (G0 ((i41+1:Nat):Int)) O (G8 (e41 _ _ (i41+1) (s41++[(Hf.mk r45.Bay (r45.Rows,([]:List Int)))]) (app1 hn41 h) (by omega) ⟨⟨.same rfl,.same rfl,.same rfl,G⟩,⟨⟨_,rfl,.same⟩,G⟩,rfl⟩)))))))))
  ·
   have h:=app1 hkx41 (G08 hi41 (Qr hb))
   refine Hd (hK30 (Jr fun hK47=>(JLm (OW 1032 2 Hf.av s41) O (JLm (E4 l) O (JLl Hu O O O fun hm37=>?_)))))
   obtain⟨m48,hm48,h⟩:=Gf h
   refine JLh (LT 2 Hf.av (s41.take m48,s41.drop m48)) (J9c (f:=Hf.av) (xs:=s41) O O O Hu (Yv hm48)) O (JLm (LT 2 Hf.av (s41.take m48,s41.drop m48)) O (G8 (hK47 (Gt (fin1 (fun r:(Ln Hf)=>(LT 2 Hf.av r:AV)) h)))))

def Y5 (k:Int) (i:Int):Option Row:=
 bnd (Jw k i) fun r3=>
 some (Row.mk 0 r3 0 0 0)
theorem Gcc (k:Int) (i:Int) (r:Row) (h:Y5 k i=some r):Pure En 47 [G0 k,G0 i] (·=.agg (Row.cs r)):=by
 unfold Y5 at h
 refine H0 [.cell 4 104] Tryz.func47 O O (Jr fun hK1=>(JLh (.ptr 1072 0) (G15 1072 [G0 0,G0 0,G0 0,G0 0,G0 0] [.int .i64 0,.int .i64 0,.int .i64 0,.int .i64 0,.int .i64 0] Jc0 ⟨.inl O,.inl O,.inl O,.inl O,.inl O,G⟩ O O) O (G8 (hK1 (Jr fun hK2=>(JLm (G0 k) O (JLm (G0 i) O ?_)))))))
 obtain⟨r3,hr3,h⟩:=Gf h
 refine JLh (G0 r3) (Gq O (Qn k i r3 hr3) G68 ⟨O,O,O,O,G⟩) O (JLh (.agg [G0 0,G0 r3,G0 0,G0 0,G0 0]) (Ji (cs:=[G0 0,G0 r3,G0 0,G0 0,G0 0]) [(0,1),(1,1),(2,1),(3,1),(4,1)] [G0 0,G0 0,G0 0,G0 0,G0 0] [.int .i64 0,.int .i64 0,.int .i64 0,.int .i64 0,.int .i64 0] Q6b Jc0 ⟨.inl O,.inl O,.inl O,.inl O,.inl O,G⟩ O O) O (Ja (u:=.junk) (J0 (u:=.agg [G0 0,G0 r3,G0 0,G0 0,G0 0]) (ds:=[G0 0,G0 r3,G0 0,G0 0,G0 0]) Q8a O O O O O O O O) (G8 (hK2 (Gt (⟨[.agg [G0 0,G0 r3,G0 0,G0 0,G0 0]],[],G,O,⟨⟨_,⟨_,_,_,_,O,O,O,.inl ⟨H0c,O⟩⟩,.conv (.same O)⟩,G⟩,O,congrArg (fun r:Row=>(.agg (Row.cs r):AV)) (Option.some.inj h)⟩))))))

def G01 (l:List Row):Option (Ln Row):=
 Yn ((l.length:Int)+12) fun v3=>
 bnd (H3a v3) fun m4=>
 need (decide (40*m4≤281474976710656∧m4≤maxLen)) <|
 need (decide ((([]:List Row).length+l.length)*40≤140737488355328∧([]:List Row).length+l.length≤maxLen)) <|
 need (decide (12≤9223372036854775807)) <|
 upto (fun i19 (s19:(List Row)) nx19=>
  bnd (Y5 1 (i19:Int)) fun r23=>
  need (decide ((s19.length+[r23].length)*40≤140737488355328∧s19.length+[r23].length≤maxLen)) <|
  nx19 (s19++[r23]))
 (fun(s19:(List Row))=>
  bnd (G61 (l.length:Int) s19.length) fun m26=>
  some (s19.take m26,s19.drop m26)) (12:Int).toNat 0 (([]:List Row)++l)
theorem H83 (l:List Row) (r:(Ln Row)) (h:G01 l=some r):Pure En 22 [E7 l] (·=LT 5 Row.av r):=by
 unfold G01 at h
 refine H0 [.tmp 2] Tryz.func22 O O (Jr fun hK1=>(JLh (E7 ([]:List Row)) (Q2 5 O O) O (G8 (hK1 (Jr fun hK2=>(JLm (E7 l) O (JLl Qf O O O fun hm6=>?_)))))))
 obtain⟨v3,hv3,h⟩:=Jh h
 refine JLh (G0 v3) (Hx hv3 O O O) O ?_
 obtain⟨m4,hm4,h⟩:=Gf h
 obtain⟨ha5,h⟩:=Hz h
 refine JLh (OW 1033 5 Row.av ([]:List Row)) (Gb9 1033 O O O O Qf J01 O (G71 hm4) ha5) O (JLm (OW 1033 5 Row.av ([]:List Row)) O (G8 (hK2 (Jr fun hK6=>(JLm (OW 1033 5 Row.av ([]:List Row)) O (JLm (E7 l) O ?_))))))
 obtain⟨ha7,h⟩:=Hz h
 refine JLh (OW 1033 5 Row.av (([]:List Row)++l)) (G5c (f:=Row.av) (xs:=([]:List Row)) (ys:=l) O O O O Qf J01 ha7 (fun _=>O) (.inl O)) O (JLm (OW 1033 5 Row.av (([]:List Row)++l)) O (G8 (hK6 (Js fun hK8=>Jr fun hK9=>(JLm (G0 0) O (G8 (hK9 (Gk ?_))))))))
 obtain⟨hx19,h⟩:=Hz h
 obtain⟨b19,kx19,hb19,hkx19,h⟩:=G44 h
 refine H6 (fun i19 (s19:(List Row))=>upto b19 kx19 ((12:Int).toNat - i19) i19 s19=some r) (fun i19 s19=>[(0,E7 l),(3,OW 1033 5 Row.av s19),(4,Em i19)]) (fun i19 s19=>[(1033,.spare 104 5 s19.length s19.length)]) (fun i19=>(12:Int).toNat - i19) 0 (([]:List Row)++l) h ⟨⟨.same O,.same O,.same O,G⟩,⟨⟨_,O,.same⟩,G⟩,O⟩ ?_
 clear h
 intro i19 s19 hi19 K19 e19
 refine Js fun hK20=>Jr fun hK21=>(JLm (Em i19) O (JLh (BL (decide ((i19:Int) < 12))) (Hy O O O) O (G8 (hK21 (Gj O (fun hb=>?_) (fun hb=>?_))))))
 ·
  have hk19:=G0b hb
  obtain⟨nx19,hn19,h⟩:=G07 hi19 hk19
  replace h:=H9f hb19 h
  refine Gm (hK20 (Js fun hK22=>Gk (G2 (JLm (OW 1033 5 Row.av s19) O (JLm (Em i19) O ?_)))))
  obtain⟨r23,hr23,h⟩:=Gf h
  refine JLh (.agg (Row.cs r23)) (Gq O (Gcc 1 (i19:Int) r23 hr23) Q20 ⟨O,O,O,O,G⟩) O (JLh (E7 [r23]) (Hv (xs:=[.agg (Row.cs r23)]) O ⟨O,O,G⟩ Qf Q7c O O O O) O ?_)
  obtain⟨ha24,h⟩:=Hz h
  refine JLh (OW 1033 5 Row.av (s19++[r23])) (Y0 (f:=Row.av) (xs:=s19) (ys:=[r23]) O O O O Qf J01 ha24 (fun _=>O) (.inl O) O) O (JLm (OW 1033 5 Row.av (s19++[r23])) O (G8 (hK22 (G2 (JLm (Em i19) O (JLh (G0 ((i19+1:Nat):Int)) (Hx (Hc hk19 (Yt hx19)) O O O) O (JLm (G0 ((i19+1:Nat):Int)) O (G8 (e19 _ _ (i19+1) (s19++[r23]) (app1 hn19 h) (by omega) ⟨⟨.same rfl,.same rfl,.same rfl,G⟩,⟨⟨_,rfl,.same⟩,G⟩,rfl⟩)))))))))
 ·
  have h:=app1 hkx19 (G08 hi19 (Qr hb))
  refine Hd (hK8 (Jr fun hK25=>(JLm (OW 1033 5 Row.av s19) O (JLm (E7 l) O (JLl Qf O O O fun hm23=>?_)))))
  obtain⟨m26,hm26,h⟩:=Gf h
  refine JLh (LT 5 Row.av (s19.take m26,s19.drop m26)) (J9c (f:=Row.av) (xs:=s19) O O O Qf (Yv hm26)) O (JLm (LT 5 Row.av (s19.take m26,s19.drop m26)) O (G8 (hK25 (Gt (fin1 (fun r:(Ln Row)=>(LT 5 Row.av r:AV)) h)))))

def R7 (k:Int) (i:Int):Option Frame:=
 bnd (Jw k i) fun r3=>
 some (Frame.mk r3 0 0 0 0)
theorem Ga7 (k:Int) (i:Int) (r:Frame) (h:R7 k i=some r):Pure En 48 [G0 k,G0 i] (·=.agg (Frame.cs r)):=by
 unfold R7 at h
 refine H0 [.cell 4 107] Tryz.func48 O O (Jr fun hK1=>(JLh (.ptr 1073 0) (G15 1073 [G0 0,G0 0,G0 0,G0 0,G0 0] [.int .i64 0,.int .i64 0,.int .i64 0,.int .i64 0,.int .i64 0] Jbf ⟨.inl O,.inl O,.inl O,.inl O,.inl O,G⟩ O O) O (G8 (hK1 (Jr fun hK2=>(JLm (G0 k) O (JLm (G0 i) O ?_)))))))
 obtain⟨r3,hr3,h⟩:=Gf h
 refine JLh (G0 r3) (Gq O (Qn k i r3 hr3) G68 ⟨O,O,O,O,G⟩) O (JLh (.agg [G0 r3,G0 0,G0 0,G0 0,G0 0]) (Ji (cs:=[G0 r3,G0 0,G0 0,G0 0,G0 0]) [(0,1),(1,1),(2,1),(3,1),(4,1)] [G0 0,G0 0,G0 0,G0 0,G0 0] [.int .i64 0,.int .i64 0,.int .i64 0,.int .i64 0,.int .i64 0] Q6a Jbf ⟨.inl O,.inl O,.inl O,.inl O,.inl O,G⟩ O O) O (Ja (u:=.junk) (J0 (u:=.agg [G0 r3,G0 0,G0 0,G0 0,G0 0]) (ds:=[G0 r3,G0 0,G0 0,G0 0,G0 0]) Q89 O O O O O O O O) (G8 (hK2 (Gt (⟨[.agg [G0 r3,G0 0,G0 0,G0 0,G0 0]],[],G,O,⟨⟨_,⟨_,_,_,_,O,O,O,.inl ⟨H0b,O⟩⟩,.conv (.same O)⟩,G⟩,O,congrArg (fun r:Frame=>(.agg (Frame.cs r):AV)) (Option.some.inj h)⟩))))))

def Z0 (l:List Frame):Option (Ln Frame):=
 Yn ((l.length:Int)+12) fun v3=>
 bnd (H3a v3) fun m4=>
 need (decide (40*m4≤281474976710656∧m4≤maxLen)) <|
 need (decide ((([]:List Frame).length+l.length)*40≤140737488355328∧([]:List Frame).length+l.length≤maxLen)) <|
 need (decide (12≤9223372036854775807)) <|
 upto (fun i19 (s19:(List Frame)) nx19=>
  bnd (R7 1 (i19:Int)) fun r23=>
  need (decide ((s19.length+[r23].length)*40≤140737488355328∧s19.length+[r23].length≤maxLen)) <|
  nx19 (s19++[r23]))
 (fun(s19:(List Frame))=>
  bnd (G61 (l.length:Int) s19.length) fun m26=>
  some (s19.take m26,s19.drop m26)) (12:Int).toNat 0 (([]:List Frame)++l)
theorem H45 (l:List Frame) (r:(Ln Frame)) (h:Z0 l=some r):Pure En 23 [E6 l] (·=LT 5 Frame.av r):=by
 unfold Z0 at h
 refine H0 [.tmp 2] Tryz.func23 O O (Jr fun hK1=>(JLh (E6 ([]:List Frame)) (Q2 5 O O) O (G8 (hK1 (Jr fun hK2=>(JLm (E6 l) O (JLl Qe O O O fun hm6=>?_)))))))
 obtain⟨v3,hv3,h⟩:=Jh h
 refine JLh (G0 v3) (Hx hv3 O O O) O ?_
 obtain⟨m4,hm4,h⟩:=Gf h
 obtain⟨ha5,h⟩:=Hz h
 refine JLh (OW 1034 5 Frame.av ([]:List Frame)) (Gb9 1034 O O O O Qe J00 O (G71 hm4) ha5) O (JLm (OW 1034 5 Frame.av ([]:List Frame)) O (G8 (hK2 (Jr fun hK6=>(JLm (OW 1034 5 Frame.av ([]:List Frame)) O (JLm (E6 l) O ?_))))))
 obtain⟨ha7,h⟩:=Hz h
 refine JLh (OW 1034 5 Frame.av (([]:List Frame)++l)) (G5c (f:=Frame.av) (xs:=([]:List Frame)) (ys:=l) O O O O Qe J00 ha7 (fun _=>O) (.inl O)) O (JLm (OW 1034 5 Frame.av (([]:List Frame)++l)) O (G8 (hK6 (Js fun hK8=>Jr fun hK9=>(JLm (G0 0) O (G8 (hK9 (Gk ?_))))))))
 obtain⟨hx19,h⟩:=Hz h
 obtain⟨b19,kx19,hb19,hkx19,h⟩:=G44 h
 refine H6 (fun i19 (s19:(List Frame))=>upto b19 kx19 ((12:Int).toNat - i19) i19 s19=some r) (fun i19 s19=>[(0,E6 l),(3,OW 1034 5 Frame.av s19),(4,Em i19)]) (fun i19 s19=>[(1034,.spare 107 5 s19.length s19.length)]) (fun i19=>(12:Int).toNat - i19) 0 (([]:List Frame)++l) h ⟨⟨.same O,.same O,.same O,G⟩,⟨⟨_,O,.same⟩,G⟩,O⟩ ?_
 clear h
 intro i19 s19 hi19 K19 e19
 refine Js fun hK20=>Jr fun hK21=>(JLm (Em i19) O (JLh (BL (decide ((i19:Int) < 12))) (Hy O O O) O (G8 (hK21 (Gj O (fun hb=>?_) (fun hb=>?_))))))
 ·
  have hk19:=G0b hb
  obtain⟨nx19,hn19,h⟩:=G07 hi19 hk19
  replace h:=H9f hb19 h
  refine Gm (hK20 (Js fun hK22=>Gk (G2 (JLm (OW 1034 5 Frame.av s19) O (JLm (Em i19) O ?_)))))
  obtain⟨r23,hr23,h⟩:=Gf h
  refine JLh (.agg (Frame.cs r23)) (Gq O (Ga7 1 (i19:Int) r23 hr23) Q1f ⟨O,O,O,O,G⟩) O (JLh (E6 [r23]) (Hv (xs:=[.agg (Frame.cs r23)]) O ⟨O,O,G⟩ Qe Q7b O O O O) O ?_)
  obtain⟨ha24,h⟩:=Hz h
  refine JLh (OW 1034 5 Frame.av (s19++[r23])) (Y0 (f:=Frame.av) (xs:=s19) (ys:=[r23]) O O O O Qe J00 ha24 (fun _=>O) (.inl O) O) O (JLm (OW 1034 5 Frame.av (s19++[r23])) O (G8 (hK22 (G2 (JLm (Em i19) O (JLh (G0 ((i19+1:Nat):Int)) (Hx (Hc hk19 (Yt hx19)) O O O) O (JLm (G0 ((i19+1:Nat):Int)) O (G8 (e19 _ _ (i19+1) (s19++[r23]) (app1 hn19 h) (by omega) ⟨⟨.same rfl,.same rfl,.same rfl,G⟩,⟨⟨_,rfl,.same⟩,G⟩,rfl⟩)))))))))
 ·
  have h:=app1 hkx19 (G08 hi19 (Qr hb))
  refine Hd (hK8 (Jr fun hK25=>(JLm (OW 1034 5 Frame.av s19) O (JLm (E6 l) O (JLl Qe O O O fun hm23=>?_)))))
  obtain⟨m26,hm26,h⟩:=Gf h
  refine JLh (LT 5 Frame.av (s19.take m26,s19.drop m26)) (J9c (f:=Frame.av) (xs:=s19) O O O Qe (Yv hm26)) O (JLm (LT 5 Frame.av (s19.take m26,s19.drop m26)) O (G8 (hK25 (Gt (fin1 (fun r:(Ln Frame)=>(LT 5 Frame.av r:AV)) h)))))

def Zz (x:Gp):Option Hq:=
 bnd (Rj x.Steps) fun r3=>
 some (Hq.mk x.Kilos x.X x.Y x.Z x.Surface r3)
theorem H81 (x:Gp) (r:Hq) (h:Zz x=some r):Pure En 49 [.agg (Gp.cs x)] (·=.agg (Hq.cs r)):=by
 unfold Zz at h
 refine H0 [.cell 2 110] Tryz.func49 O O (Jr fun hK1=>(JLh (.ptr 1074 0) (Jq (cs:=[G0 x.Kilos,G0 x.X,G0 x.Y,G0 x.Z,G0 x.Surface,E1 x.Steps]) 1074 O O O O O) O (JLh (.ptr 1075 0) (G15 1075 [G0 0,G0 0,G0 0,G0 0,G0 0,E1 ([]:List Int)] [.int .i64 0,.int .i64 0,.int .i64 0,.int .i64 0,.int .i64 0,.slice none 0 0] Hf6 ⟨.inl O,.inl O,.inl O,.inl O,.inl O,.inr ⟨_,O,O⟩,G⟩ O O) O (G8 (hK1 (Jr fun hK2=>(JLh (.ptr 1074 5) (Qp G70 O O) O (JLh (E1 x.Steps) (Z7 J2 O O O O) O ?_))))))))
 obtain⟨r3,hr3,h⟩:=Gf h
 refine JLh (LT 1 G0 r3) (Gq O (G59 x.Steps r3 hr3) J5b ⟨O,O,G⟩) O (JLh (.ptr 1074 5) (Qp G70 O O) O (Ja (u:=.junk) (J0 (u:=LT 1 G0 r3) (ds:=[G0 x.Kilos,G0 x.X,G0 x.Y,G0 x.Z,G0 x.Surface,LT 1 G0 r3]) Hcf O O O O O O O O) (G8 (hK2 (Gx [(1,.dptr [G0 x.Kilos,G0 x.X,G0 x.Y,G0 x.Z,G0 x.Surface,LT 1 G0 r3]),(2,.ptr 1075 0)] [(1075,.box 110 [G0 0,G0 0,G0 0,G0 0,G0 0,E1 ([]:List Int)])] 1074 rfl rfl rfl ⟨⟨_,rfl,.boxEq rfl rfl⟩,G⟩ rfl (by exact⟨.ptr,.conv (.same rfl),G⟩) ?_)))))
 refine Jr fun hK4=>(JLh (.agg [G0 x.Kilos,G0 x.X,G0 x.Y,G0 x.Z,G0 x.Surface,LT 1 G0 r3]) (Gi G3c O O O) O (Ja (u:=.junk) (J0 (u:=.agg [G0 x.Kilos,G0 x.X,G0 x.Y,G0 x.Z,G0 x.Surface,LT 1 G0 r3]) (ds:=[G0 x.Kilos,G0 x.X,G0 x.Y,G0 x.Z,G0 x.Surface,LT 1 G0 r3]) Hf7 O O O O O O O O) (G8 (hK4 (Gt (⟨[.agg [G0 x.Kilos,G0 x.X,G0 x.Y,G0 x.Z,G0 x.Surface,LT 1 G0 r3]],[],G,O,⟨⟨_,⟨_,_,_,_,O,O,O,.inl ⟨G3c,O⟩⟩,.conv (.same O)⟩,G⟩,O,congrArg (fun r:Hq=>(.agg (Hq.cs r):AV)) (Option.some.inj h)⟩))))))

def Rf (k:Int) (i:Int):Option Gp:=
 bnd (Jw k i) fun r3=>
 some (Gp.mk r3 0 0 0 0 [])
theorem Gbe (k:Int) (i:Int) (r:Gp) (h:Rf k i=some r):Pure En 50 [G0 k,G0 i] (·=.agg (Gp.cs r)):=by
 unfold Rf at h
 refine H0 [.cell 4 110] Tryz.func50 O O (Jr fun hK1=>(JLh (.ptr 1076 0) (G15 1076 [G0 0,G0 0,G0 0,G0 0,G0 0,E1 ([]:List Int)] [.int .i64 0,.int .i64 0,.int .i64 0,.int .i64 0,.int .i64 0,.slice none 0 0] Hf6 ⟨.inl O,.inl O,.inl O,.inl O,.inl O,.inr ⟨_,O,O⟩,G⟩ O O) O (G8 (hK1 (Jr fun hK2=>(JLm (G0 k) O (JLm (G0 i) O ?_)))))))
 obtain⟨r3,hr3,h⟩:=Gf h
 refine JLh (G0 r3) (Gq O (Qn k i r3 hr3) G68 ⟨O,O,O,O,G⟩) O (JLh (.agg [G0 r3,G0 0,G0 0,G0 0,G0 0,E1 ([]:List Int)]) (Ji (cs:=[G0 r3,G0 0,G0 0,G0 0,G0 0,E1 ([]:List Int)]) [(0,1),(1,1),(2,1),(3,1),(4,1),(5,1)] [G0 0,G0 0,G0 0,G0 0,G0 0,E1 ([]:List Int)] [.int .i64 0,.int .i64 0,.int .i64 0,.int .i64 0,.int .i64 0,.slice none 0 0] Q69 Hf6 ⟨.inl O,.inl O,.inl O,.inl O,.inl O,.inr ⟨_,O,O⟩,G⟩ O O) O (Ja (u:=.junk) (J0 (u:=.agg [G0 r3,G0 0,G0 0,G0 0,G0 0,E1 ([]:List Int)]) (ds:=[G0 r3,G0 0,G0 0,G0 0,G0 0,E1 ([]:List Int)]) Hf7 O O O O O O O O) (G8 (hK2 (Gt ?_)))))
 exact⟨[.agg [G0 r3,G0 0,G0 0,G0 0,G0 0,E1 ([]:List Int)]],[],G,O,⟨⟨_,⟨_,_,_,_,O,O,O,.inl ⟨G3c,O⟩⟩,.conv (.same O)⟩,G⟩,O,congrArg (fun r:Gp=>(.agg (Gp.cs r):AV)) (Option.some.inj h)⟩

def Zk (l:List Gp):Option (Ln Hq):=
 Yn ((l.length:Int)+12) fun v3=>
 bnd (H3a v3) fun m4=>
 need (decide (64*m4≤281474976710656∧m4≤maxLen)) <|
 each (fun y23 i23 (s23:(List Hq)) nx23=>
  bnd (Zz y23) fun r28=>
  need (decide ((s23.length+[r28].length)*64≤140737488355328∧s23.length+[r28].length≤maxLen)) <|
  nx23 (s23++[r28]))
 (fun(s23:(List Hq))=>
  need (decide (12≤9223372036854775807)) <|
  upto (fun i41 (s41:(List Hq)) nx41=>
   bnd (Rf 1 (i41:Int)) fun r45=>
   need (decide ((s41.length+[(Hq.mk r45.Kilos r45.X r45.Y r45.Z r45.Surface (r45.Steps,([]:List Int)))].length)*64≤140737488355328∧s41.length+[(Hq.mk r45.Kilos r45.X r45.Y r45.Z r45.Surface (r45.Steps,([]:List Int)))].length≤maxLen)) <|
   nx41 (s41++[(Hq.mk r45.Kilos r45.X r45.Y r45.Z r45.Surface (r45.Steps,([]:List Int)))]))
  (fun(s41:(List Hq))=>
   bnd (G61 (l.length:Int) s41.length) fun m48=>
   some (s41.take m48,s41.drop m48)) (12:Int).toNat 0 s23) l 0 []
theorem H6e (l:List Gp) (r:(Ln Hq)) (h:Zk l=some r):Pure En 24 [E8 l] (·=LT 6 Hq.av r):=by
 unfold Zk at h
 refine H0 [.tmp 2] Tryz.func24 O O (Jr fun hK1=>(JLh (E8 ([]:List Gp)) (Q2 6 O O) O (G8 (hK1 (Jr fun hK2=>(JLm (E8 l) O (JLl Q5 O O O fun hm8=>?_)))))))
 obtain⟨v3,hv3,h⟩:=Jh h
 refine JLh (G0 v3) (Hx hv3 O O O) O ?_
 obtain⟨m4,hm4,h⟩:=Gf h
 obtain⟨ha5,h⟩:=Hz h
 refine JLh (OW 1036 6 Hq.av ([]:List Hq)) (Gb9 1036 O O O O Q5 Hff O (G71 hm4) ha5) O (JLm (OW 1036 6 Hq.av ([]:List Hq)) O (G8 (hK2 (Js fun hK6=>Jr fun hK7=>(JLm (G0 0) O (G8 (hK7 (Gk ?_))))))))
 obtain⟨b23,kx23,hb23,hkx23,h⟩:=J4 h
 refine H6 (fun i23 (s23:(List Hq))=>each b23 kx23 (List.drop i23 l) i23 s23=some r) (fun i23 s23=>[(0,E8 l),(3,OW 1036 6 Hq.av s23),(4,Em i23)]) (fun i23 s23=>[(1036,.spare 110 6 s23.length s23.length)]) (fun i23=>l.length - i23) 0 [] h ⟨⟨.same O,.same O,.same O,G⟩,⟨⟨_,O,.same⟩,G⟩,O⟩ ?_
 clear h
 intro i23 s23 hi23 K23 e23
 refine Js fun hK24=>Jr fun hK25=>(JLm (Em i23) O (JLm (E8 l) O (JLl Q5 O O O fun hm13=>(JLh (BL (decide ((i23:Int) < (l.length:Int)))) (Hy O O O) O (G8 (hK25 (Gj O (fun hb=>?_) (fun hb=>?_))))))))
 ·
  have hk23:=Je hb
  obtain⟨y23,nx23,hy23,hn23,h⟩:=Hs hi23 hk23
  replace h:=Y8 hb23 h
  refine Gm (hK24 (Js fun hK26=>Gk (Jr fun hK27=>(JLm (E8 l) O (JLm (Em i23) O (JLh (Ej y23) (Gs (f:=Gp.av) (xs:=l) (y:=y23) O O O Q5 hy23 O) O (JLh (.agg (Gp.cs y23)) (Gi G3c O O O) O ?_)))))))
  obtain⟨r28,hr28,h⟩:=Gf h
  refine JLh (.agg (Hq.cs r28)) (Gq O (H81 y23 r28 hr28) Qe5 ⟨O,O,G⟩) O (JLh (.ptr 1035 0) (Ju 1035 6 Hc9 O O) O (Ja (u:=.junk) (J0 (u:=.agg (Hq.cs r28)) (ds:=[G0 r28.Kilos,G0 r28.X,G0 r28.Y,G0 r28.Z,G0 r28.Surface,LT 1 G0 r28.Steps]) Hf7 O O O O O O O O) (G8 (hK27 (Gx [(0,E8 l),(3,OW 1036 6 Hq.av s23),(4,Em i23),(5,.dptr (Hq.cs r28))] [(1036,.spare 110 6 s23.length s23.length)] 1035 rfl rfl rfl ⟨⟨_,rfl,.same⟩,G⟩ rfl (by repeat' (first | exact .ptr | constructor)) (G2 (JLm (OW 1036 6 Hq.av s23) O (JLh (.agg (Hq.cs r28)) (Gi G3c O O O) O (JLh (LS 6 Hq.av [r28]) (Hv (xs:=[.agg (Hq.cs r28)]) O ⟨O,O,G⟩ Q5 Hc9 O O O O) O ?_)))))))))
  obtain⟨ha29,h⟩:=Hz h
  refine JLh (OW 1036 6 Hq.av (s23++[r28])) (Y0 (f:=Hq.av) (xs:=s23) (ys:=[r28]) O O O O Q5 Hff ha29 (fun _=>O) (.inl O) O) O (JLm (OW 1036 6 Hq.av (s23++[r28])) O (G8 (hK26 (G2 (JLm (Em i23) O (JLh (G0 ((i23+1:Nat):Int)) (Hx (Hc hk23 hm13) O O O) O (JLm (G0 ((i23+1:Nat):Int)) O (G8 (e23 _ _ (i23+1) (s23++[r28]) (app1 hn23 h) (by omega) ⟨⟨.same rfl,.same rfl,.same rfl,G⟩,⟨⟨_,rfl,.same⟩,G⟩,rfl⟩)))))))))
 ·
  have h:=app1 hkx23 (Ht hi23 (H9 hb))
  refine Hd (hK6 (Js fun hK30=>Jr fun hK31=>(JLm (G0 0) O (G8 (hK31 (Gk ?_))))))
  obtain⟨hx41,h⟩:=Hz h
  obtain⟨b41,kx41,hb41,hkx41,h⟩:=G44 h
  refine H6 (fun i41 (s41:(List Hq))=>upto b41 kx41 ((12:Int).toNat - i41) i41 s41=some r) (fun i41 s41=>[(0,E8 l),(3,OW 1036 6 Hq.av s41),(6,Em i41)]) (fun i41 s41=>[(1036,.spare 110 6 s41.length s41.length)]) (fun i41=>(12:Int).toNat - i41) 0 s23 h ⟨⟨.same O,.same O,.same O,G⟩,⟨⟨_,O,.same⟩,G⟩,O⟩ ?_
  clear h
  intro i41 s41 hi41 K41 e41
  refine Js fun hK42=>Jr fun hK43=>(JLm (Em i41) O (JLh (BL (decide ((i41:Int) < 12))) (Hy O O O) O (G8 (hK43 (Gj O (fun hb=>?_) (fun hb=>?_))))))
  ·
   have hk41:=G0b hb
   obtain⟨nx41,hn41,h⟩:=G07 hi41 hk41
   replace h:=H9f hb41 h
   refine Gm (hK42 (Js fun hK44=>Gk (G2 (JLm (OW 1036 6 Hq.av s41) O (JLm (Em i41) O ?_)))))
   obtain⟨r45,hr45,h⟩:=Gf h
   refine JLh (.agg [G0 r45.Kilos,G0 r45.X,G0 r45.Y,G0 r45.Z,G0 r45.Surface,LT 1 G0 (r45.Steps,([]:List Int))]) (Ha.cv (Cv.aggL (cs:=(Gp.cs r45)) ⟨.same,.same,.same,.same,.same,Cv.of0 r45.Steps,G⟩) (Gq O (Gbe 1 (i41:Int) r45 hr45) Q1e ⟨O,O,O,O,G⟩)) O (JLh (LS 6 Hq.av ([(Hq.mk r45.Kilos r45.X r45.Y r45.Z r45.Surface (r45.Steps,([]:List Int)))])) (Hv (xs:=[.agg [G0 r45.Kilos,G0 r45.X,G0 r45.Y,G0 r45.Z,G0 r45.Surface,LT 1 G0 (r45.Steps,([]:List Int))]]) O ⟨O,O,G⟩ Q5 Hc9 O O O O) O ?_)
   obtain⟨ha46,h⟩:=Hz h
   refine JLh (OW 1036 6 Hq.av (s41++[(Hq.mk r45.Kilos r45.X r45.Y r45.Z r45.Surface (r45.Steps,([]:List Int)))])) (Y0 (f:=Hq.av) (xs:=s41) (ys:=[(Hq.mk r45.Kilos r45.X r45.Y r45.Z r45.Surface (r45.Steps,([]:List Int)))]) O O O O Q5 Hff ha46 (fun _=>O) (.inl O) O) O (JLm (OW 1036 6 Hq.av (s41++[(Hq.mk r45.Kilos r45.X r45.Y r45.Z r45.Surface (r45.Steps,([]:List Int)))])) O (G8 (hK44 (G2 (JLm (Em i41) O (JLh (G0 ((i41+1:Nat):Int)) (Hx (Hc hk41 (Yt hx41)) O O O) O (JLm (G0 ((i41+1:Nat):Int)) O (G8 (e41 _ _ (i41+1) (s41++[(Hq.mk r45.Kilos r45.X r45.Y r45.Z r45.Surface (r45.Steps,([]:List Int)))]) (app1 hn41 h) (by omega) ⟨⟨.same rfl,.same rfl,.same rfl,G⟩,⟨⟨_,rfl,.same⟩,G⟩,rfl⟩)))))))))
  ·
   have h:=app1 hkx41 (G08 hi41 (Qr hb))
   refine Hd (hK30 (Jr fun hK47=>(JLm (OW 1036 6 Hq.av s41) O (JLm (E8 l) O (JLl Q5 O O O fun hm37=>?_)))))
   obtain⟨m48,hm48,h⟩:=Gf h
   refine JLh (LT 6 Hq.av (s41.take m48,s41.drop m48)) (J9c (f:=Hq.av) (xs:=s41) O O O Q5 (Yv hm48)) O (JLm (LT 6 Hq.av (s41.take m48,s41.drop m48)) O (G8 (hK47 (Gt (fin1 (fun r:(Ln Hq)=>(LT 6 Hq.av r:AV)) h)))))

def G00 (x:H8):Option Rb:=
 bnd (Yr x.Columns) fun r3=>
 bnd (Z1 x.Covers) fun r5=>
 bnd (G01 x.Rows) fun r7=>
 bnd (Z0 x.Frames) fun r9=>
 bnd (Zk x.Tanks) fun r11=>
 some (Rb.mk r3 r5 x.Light r7 r9 r11 x.G3)
theorem H82 (x:H8) (r:Rb) (h:G00 x=some r):Pure En 6 [.agg (H8.cs x)] (·=.agg (Rb.cs r)):=by
 unfold G00 at h
 refine H0 [.cell 2 32] Tryz.func6 O O ?_
 refine Jr fun hK1=>(JLh (.ptr 1009 0) (Jq (cs:=(H8.cs x)) 1009 O O O O O) O (JLh (.ptr 1010 0) (G15 1010 [E5 ([]:List G4),E4 ([]:List Ge),G0 0,G0 0,G0 0,G0 0,E7 ([]:List Row),E6 ([]:List Frame),E8 ([]:List Gp),G0 0,G0 0,G0 0,G0 0] [.slice none 0 0,.slice none 0 0,.int .i64 0,.int .i64 0,.int .i64 0,.int .i64 0,.slice none 0 0,.slice none 0 0,.slice none 0 0,.int .i64 0,.int .i64 0,.int .i64 0,.int .i64 0] J4f ⟨.inr ⟨_,O,O⟩,.inr ⟨_,O,O⟩,.inl O,.inl O,.inl O,.inl O,.inr ⟨_,O,O⟩,.inr ⟨_,O,O⟩,.inr ⟨_,O,O⟩,.inl O,.inl O,.inl O,.inl O,G⟩ O O) O (G8 (hK1 ?_))))
 refine Jr fun hK2=>(JLh (.ptr 1009 0) (Qp Hi O O) O (JLh (E5 x.Columns) (Z7 Ho O O O O) O ?_))
 obtain⟨r3,hr3,h⟩:=Gf h
 refine JLh (LT 12 H1.av r3) (Gq O (H37 x.Columns r3 hr3) Qf7 ⟨O,O,G⟩) O (JLh (.ptr 1009 0) (Qp Hi O O) O (Ja (u:=.junk) (J0 (u:=LT 12 H1.av r3) (ds:=[LT 12 H1.av r3,E4 x.Covers,G0 x.Light.Kilos,G0 x.Light.X,G0 x.Light.Y,G0 x.Light.Z,E7 x.Rows,E6 x.Frames,E8 x.Tanks,G0 x.G3.Tolerance,G0 x.G3.Trim,G0 x.G3.List_,G0 x.G3.Stability]) Qc7 O O O O O O O O) (G8 (hK2 (Jr fun hK4=>(JLh (.ptr 1009 1) (Qp Jp O O) O (JLh (E4 x.Covers) (Z7 Q4 O O O O) O ?_)))))))
 obtain⟨r5,hr5,h⟩:=Gf h
 refine JLh (LT 2 Hf.av r5) (Gq O (H46 x.Covers r5 hr5) Qf6 ⟨O,O,G⟩) O (JLh (.ptr 1009 1) (Qp Jp O O) O (Ja (u:=.junk) (J0 (u:=LT 2 Hf.av r5) (ds:=[LT 12 H1.av r3,LT 2 Hf.av r5,G0 x.Light.Kilos,G0 x.Light.X,G0 x.Light.Y,G0 x.Light.Z,E7 x.Rows,E6 x.Frames,E8 x.Tanks,G0 x.G3.Tolerance,G0 x.G3.Trim,G0 x.G3.List_,G0 x.G3.Stability]) Qc6 O O O O O O O O) (G8 (hK4 (Jr fun hK6=>(JLh (.ptr 1009 6) (Qp G94 O O) O (JLh (E7 x.Rows) (Z7 Gef O O O O) O ?_)))))))
 obtain⟨r7,hr7,h⟩:=Gf h
 refine JLh (LT 5 Row.av r7) (Gq O (H83 x.Rows r7 hr7) Qf5 ⟨O,O,G⟩) O (JLh (.ptr 1009 6) (Qp G94 O O) O (Ja (u:=.junk) (J0 (u:=LT 5 Row.av r7) (ds:=[LT 12 H1.av r3,LT 2 Hf.av r5,G0 x.Light.Kilos,G0 x.Light.X,G0 x.Light.Y,G0 x.Light.Z,LT 5 Row.av r7,E6 x.Frames,E8 x.Tanks,G0 x.G3.Tolerance,G0 x.G3.Trim,G0 x.G3.List_,G0 x.G3.Stability]) Qc5 O O O O O O O O) (G8 (hK6 (Jr fun hK8=>(JLh (.ptr 1009 7) (Qp G93 O O) O (JLh (E6 x.Frames) (Z7 Gee O O O O) O ?_)))))))
 obtain⟨r9,hr9,h⟩:=Gf h
 refine JLh (LT 5 Frame.av r9) (Gq O (H45 x.Frames r9 hr9) Qf4 ⟨O,O,G⟩) O (JLh (.ptr 1009 7) (Qp G93 O O) O (Ja (u:=.junk) (J0 (u:=LT 5 Frame.av r9) (ds:=[LT 12 H1.av r3,LT 2 Hf.av r5,G0 x.Light.Kilos,G0 x.Light.X,G0 x.Light.Y,G0 x.Light.Z,LT 5 Row.av r7,LT 5 Frame.av r9,E8 x.Tanks,G0 x.G3.Tolerance,G0 x.G3.Trim,G0 x.G3.List_,G0 x.G3.Stability]) Qc4 O O O O O O O O) (G8 (hK8 (Jr fun hK10=>(JLh (.ptr 1009 8) (Qp G92 O O) O (JLh (E8 x.Tanks) (Z7 Ged O O O O) O ?_)))))))
 obtain⟨r11,hr11,h⟩:=Gf h
 refine JLh (LT 6 Hq.av r11) (Gq O (H6e x.Tanks r11 hr11) Qf3 ⟨O,O,G⟩) O (JLh (.ptr 1009 8) (Qp G92 O O) O (Ja (u:=.junk) (J0 (u:=LT 6 Hq.av r11) (ds:=[LT 12 H1.av r3,LT 2 Hf.av r5,G0 x.Light.Kilos,G0 x.Light.X,G0 x.Light.Y,G0 x.Light.Z,LT 5 Row.av r7,LT 5 Frame.av r9,LT 6 Hq.av r11,G0 x.G3.Tolerance,G0 x.G3.Trim,G0 x.G3.List_,G0 x.G3.Stability]) Qc3 O O O O O O O O) (G8 (hK10 ?_))))
 refine Gx [(1,.dptr [LT 12 H1.av r3,LT 2 Hf.av r5,G0 x.Light.Kilos,G0 x.Light.X,G0 x.Light.Y,G0 x.Light.Z,LT 5 Row.av r7,LT 5 Frame.av r9,LT 6 Hq.av r11,G0 x.G3.Tolerance,G0 x.G3.Trim,G0 x.G3.List_,G0 x.G3.Stability]),(2,.ptr 1010 0)] [(1010,.box 32 [E5 ([]:List G4),E4 ([]:List Ge),G0 0,G0 0,G0 0,G0 0,E7 ([]:List Row),E6 ([]:List Frame),E8 ([]:List Gp),G0 0,G0 0,G0 0,G0 0])] 1009 rfl rfl rfl ⟨⟨_,rfl,.boxEq rfl rfl⟩,G⟩ rfl (by exact⟨.ptr,.conv (.same rfl),G⟩) ?_
 refine Jr fun hK12=>(JLh (.agg [LT 12 H1.av r3,LT 2 Hf.av r5,G0 x.Light.Kilos,G0 x.Light.X,G0 x.Light.Y,G0 x.Light.Z,LT 5 Row.av r7,LT 5 Frame.av r9,LT 6 Hq.av r11,G0 x.G3.Tolerance,G0 x.G3.Trim,G0 x.G3.List_,G0 x.G3.Stability]) (Gi J1 O O O) O (Ja (u:=.junk) (J0 (u:=.agg [LT 12 H1.av r3,LT 2 Hf.av r5,G0 x.Light.Kilos,G0 x.Light.X,G0 x.Light.Y,G0 x.Light.Z,LT 5 Row.av r7,LT 5 Frame.av r9,LT 6 Hq.av r11,G0 x.G3.Tolerance,G0 x.G3.Trim,G0 x.G3.List_,G0 x.G3.Stability]) (ds:=[LT 12 H1.av r3,LT 2 Hf.av r5,G0 x.Light.Kilos,G0 x.Light.X,G0 x.Light.Y,G0 x.Light.Z,LT 5 Row.av r7,LT 5 Frame.av r9,LT 6 Hq.av r11,G0 x.G3.Tolerance,G0 x.G3.Trim,G0 x.G3.List_,G0 x.G3.Stability]) Hd0 O O O O O O O O) (G8 (hK12 ?_))))
 refine Gt (⟨[.agg [LT 12 H1.av r3,LT 2 Hf.av r5,G0 x.Light.Kilos,G0 x.Light.X,G0 x.Light.Y,G0 x.Light.Z,LT 5 Row.av r7,LT 5 Frame.av r9,LT 6 Hq.av r11,G0 x.G3.Tolerance,G0 x.G3.Trim,G0 x.G3.List_,G0 x.G3.Stability]],[],G,O,⟨⟨_,⟨_,_,_,_,O,O,O,.inl ⟨J1,O⟩⟩,.conv (.same O)⟩,G⟩,O,congrArg (fun r:Rb=>(.agg (Rb.cs r):AV)) (Option.some.inj h)⟩)

def Rh (a:List Int) (b:List Int):Option Bool:=
 bif decide ((a.length:Int)≠(b.length:Int)) then
 (some false)
 else
 (each (fun y24 i24 (s24:Unit) nx24=>
   Jc b (i24:Int) fun y29=>
   bif decide (y24≠y29) then
   (some false)
   else
   (nx24 ()))
  (fun(s24:Unit)=>
   some true) a 0 ())
theorem G58 (a:List Int) (b:List Int) (r:Bool) (h:Rh a b=some r):Pure En 150 [E1 a,E1 b] (·=BL r):=by
 unfold Rh at h
 refine H0 [.tmp 4] Tryz.func150 O O (Jr fun hK1=>(JLm (BL false) O (G8 (hK1 (Js fun hK2=>Jr fun hK3=>(JLm (E1 a) O (JLl H4 O O O fun hm7=>(JLm (E1 b) O (JLl H4 O O O fun hm9=>(JLh (BL (decide ((a.length:Int)≠(b.length:Int)))) (G56 O O O) O (G8 (hK3 (JCc O h (fun h hb=>?_) (fun h hb=>?_))))))))))))))
 ·
  refine Jr fun hK4=>(JLm (BL false) O (G8 (hK4 (Gt (fin1 BL h)))))
 ·
  refine Gm (hK2 (Js fun hK5=>Jr fun hK6=>(JLm (G0 0) O (G8 (hK6 (Gk ?_))))))
  obtain⟨b24,kx24,hb24,hkx24,h⟩:=J4 h
  refine H6 (fun i24 (s24:Unit)=>each b24 kx24 (List.drop i24 a) i24 s24=some r) (fun i24 s24=>[(0,E1 a),(1,E1 b),(5,Em i24)]) (fun i24 s24=>[]) (fun i24=>a.length - i24) 0 () h ⟨⟨.same O,.same O,.same O,G⟩,G,O⟩ ?_
  clear h
  intro i24 s24 hi24 K24 e24
  refine Js fun hK25=>Jr fun hK26=>(JLm (Em i24) O (JLm (E1 a) O (JLl H4 O O O fun hm13=>(JLh (BL (decide ((i24:Int) < (a.length:Int)))) (Hy O O O) O (G8 (hK26 (Gj O (fun hb=>?_) (fun hb=>?_))))))))
  ·
   have hk24:=Je hb
   obtain⟨y24,nx24,hy24,hn24,h⟩:=Hs hi24 hk24
   replace h:=Y8 hb24 h
   refine Gm (hK25 (Js fun hK27=>Gk (Js fun hK28=>?_)))
   obtain⟨m30,y29,hm30,hy29,h⟩:=R1 h
   refine JC_d0 Jb (by kernel_rfl) (Dq (E1 a) (G5 O O) O (Dq (Em i24) (G5 O O) O (Dq (.dptr [G0 y24]) (Gs (f:=G0) (xs:=a) (y:=y24) O O O H4 hy24 O) O (Dq (G0 y24) (Gh Gc O O O) O (Dq (E1 b) (G5 O O) O (Dq (Em i24) (G5 O O) O (Dq (.dptr [G0 y29]) (Gs (f:=G0) (xs:=b) (y:=y29) O O O H4 hy29 hm30) O (Dq (G0 y29) (Gh Gc O O O) O (Dq (BL (decide (y24≠y29))) (G56 O O O) O (Dnil (hK28 (JCc O h (fun h hb=>?_) (fun h hb=>?_)))))))))))))
   ·
    refine Jr fun hK31=>(JLm (BL false) O (G8 (hK31 (Gt (fin1 BL h)))))
   ·
    refine Gm (hK27 (G2 (JLm (Em i24) O (JLh (G0 ((i24+1:Nat):Int)) (Hx (Hc hk24 hm13) O O O) O (JLm (G0 ((i24+1:Nat):Int)) O (G8 (e24 _ _ (i24+1) () (app1 hn24 h) (by omega) ⟨⟨.same rfl,.same rfl,.same rfl,G⟩,G,rfl⟩)))))))
  ·
   have h:=app1 hkx24 (Ht hi24 (H9 hb))
   refine Hd (hK5 (Jr fun hK32=>(JLm (BL true) O (G8 (hK32 (Gt (fin1 BL h)))))))

def Q0 (a:G4) (b:G4):Option Bool:=
 bnd (bif ((((((((decide (a.Bay=b.Bay))&&(decide (a.Row=b.Row)))&&(a.Deck==b.Deck))&&(decide (a.Tiers=b.Tiers)))&&(decide (a.Height=b.Height)))&&(decide (a.Kilos20=b.Kilos20)))&&(decide (a.Kilos40=b.Kilos40)))&&(decide (a.Lash=b.Lash))) then Rh a.Plugs b.Plugs else some default) fun r3=>
 some ((((((((((((decide (a.Bay=b.Bay))&&(decide (a.Row=b.Row)))&&(a.Deck==b.Deck))&&(decide (a.Tiers=b.Tiers)))&&(decide (a.Height=b.Height)))&&(decide (a.Kilos20=b.Kilos20)))&&(decide (a.Kilos40=b.Kilos40)))&&(decide (a.Lash=b.Lash)))&&r3)&&(decide (a.X=b.X)))&&(decide (a.Y=b.Y)))&&(decide (a.Z=b.Z)))
theorem G48 (a:G4) (b:G4) (r:Bool) (h:Q0 a b=some r):Pure En 118 [.agg (G4.cs a),.agg (G4.cs b)] (·=BL r):=by
 unfold Q0 at h
 refine H0 [.tmp 4] Tryz.func118 O O (Jr fun hK1=>(JLh (.ptr 1162 0) (Jq (cs:=(G4.cs a)) 1162 O O O O O) O (JLh (.ptr 1163 0) (Jq (cs:=(G4.cs b)) 1163 O O O O O) O (JLm (BL false) O (G8 (hK1 (Gx [(2,Ef a),(3,.ptr 1163 0)] [(1163,.box 53 (G4.cs b))] 1162 rfl rfl rfl ⟨⟨_,rfl,.boxEq rfl rfl⟩,G⟩ rfl (by exact⟨.ptr,.conv (.same rfl),G⟩) ?_)))))))
 refine Gx [(2,Ef a),(3,Ef b)] [] 1163 rfl rfl rfl G rfl (by exact⟨.conv (.same rfl),.ptr,G⟩) ?_
 refine Jr fun hK2=>(JLh (Ef a) (Ga Rr O O O) O (JLh (G0 a.Bay) (Gh Gc O O O) O (JLh (Ef b) (Ga Rr O O O) O (JLh (G0 b.Bay) (Gh Gc O O O) O (JLh (BL (decide (a.Bay=b.Bay))) (Jk O O O) O (JLm (BL (decide (a.Bay=b.Bay))) O (JLo (.dptr ((G4.cs a).drop 1)) [] O .sct G (fun hc=>Ga G27 O O O) O (JLo (G0 a.Row) [11] O .sct ⟨Ua,G⟩ (fun hc=>Gh Gc O O O) O (JLo (.dptr ((G4.cs b).drop 1)) [] O .sct G (fun hc=>Ga G27 O O O) O (JLo (G0 b.Row) [13] O .sct ⟨Ua,G⟩ (fun hc=>Gh Gc O O O) O (JLo (BL (decide (a.Row=b.Row))) [12,14] O .sct ⟨Ua,Ua,G⟩ (fun hc=>Jk O O O) O (JLh (BL ((decide (a.Bay=b.Bay))&&(decide (a.Row=b.Row)))) (J3 O O O O) O (JLm (BL ((decide (a.Bay=b.Bay))&&(decide (a.Row=b.Row)))) O ?_)))))))))))))
 refine JLo (.dptr ((G4.cs a).drop 2)) [] O .sct G (fun hc=>Ga Yb O O O) O (JLo (BL a.Deck) [18] O .sct ⟨Ua,G⟩ (fun hc=>Gh R5 O O O) O (JLo (.dptr ((G4.cs b).drop 2)) [] O .sct G (fun hc=>Ga Yb O O O) O (JLo (BL b.Deck) [20] O .sct ⟨Ua,G⟩ (fun hc=>Gh R5 O O O) O (JLo (BL (a.Deck==b.Deck)) [19,21] O .sct ⟨Ua,Ua,G⟩ (fun hc=>J2a Ge1 O O O) O (JLh (BL (((decide (a.Bay=b.Bay))&&(decide (a.Row=b.Row)))&&(a.Deck==b.Deck))) (J3 O O O O) O (JLm (BL (((decide (a.Bay=b.Bay))&&(decide (a.Row=b.Row)))&&(a.Deck==b.Deck))) O (JLo (.dptr ((G4.cs a).drop 3)) [] O .sct G (fun hc=>Ga G26 O O O) O (JLo (G0 a.Tiers) [25] O .sct ⟨Ua,G⟩ (fun hc=>Gh Gc O O O) O (JLo (.dptr ((G4.cs b).drop 3)) [] O .sct G (fun hc=>Ga G26 O O O) O (JLo (G0 b.Tiers) [27] O .sct ⟨Ua,G⟩ (fun hc=>Gh Gc O O O) O (JLo (BL (decide (a.Tiers=b.Tiers))) [26,28] O .sct ⟨Ua,Ua,G⟩ (fun hc=>Jk O O O) O (JLh (BL ((((decide (a.Bay=b.Bay))&&(decide (a.Row=b.Row)))&&(a.Deck==b.Deck))&&(decide (a.Tiers=b.Tiers)))) (J3 O O O O) O (JLm (BL ((((decide (a.Bay=b.Bay))&&(decide (a.Row=b.Row)))&&(a.Deck==b.Deck))&&(decide (a.Tiers=b.Tiers)))) O ?_)))))))))))))
 refine JLo (.dptr ((G4.cs a).drop 4)) [] O .sct G (fun hc=>Ga G49 O O O) O (JLo (G0 a.Height) [32] O .sct ⟨Ua,G⟩ (fun hc=>Gh Gc O O O) O (JLo (.dptr ((G4.cs b).drop 4)) [] O .sct G (fun hc=>Ga G49 O O O) O (JLo (G0 b.Height) [34] O .sct ⟨Ua,G⟩ (fun hc=>Gh Gc O O O) O (JLo (BL (decide (a.Height=b.Height))) [33,35] O .sct ⟨Ua,Ua,G⟩ (fun hc=>Jk O O O) O (JLh (BL (((((decide (a.Bay=b.Bay))&&(decide (a.Row=b.Row)))&&(a.Deck==b.Deck))&&(decide (a.Tiers=b.Tiers)))&&(decide (a.Height=b.Height)))) (J3 O O O O) O (JLm (BL (((((decide (a.Bay=b.Bay))&&(decide (a.Row=b.Row)))&&(a.Deck==b.Deck))&&(decide (a.Tiers=b.Tiers)))&&(decide (a.Height=b.Height)))) O (JLo (.dptr ((G4.cs a).drop 5)) [] O .sct G (fun hc=>Ga H1a O O O) O (JLo (G0 a.Kilos20) [39] O .sct ⟨Ua,G⟩ (fun hc=>Gh Gc O O O) O (JLo (.dptr ((G4.cs b).drop 5)) [] O .sct G (fun hc=>Ga H1a O O O) O (JLo (G0 b.Kilos20) [41] O .sct ⟨Ua,G⟩ (fun hc=>Gh Gc O O O) O (JLo (BL (decide (a.Kilos20=b.Kilos20))) [40,42] O .sct ⟨Ua,Ua,G⟩ (fun hc=>Jk O O O) O (JLh (BL ((((((decide (a.Bay=b.Bay))&&(decide (a.Row=b.Row)))&&(a.Deck==b.Deck))&&(decide (a.Tiers=b.Tiers)))&&(decide (a.Height=b.Height)))&&(decide (a.Kilos20=b.Kilos20)))) (J3 O O O O) O (JLm (BL ((((((decide (a.Bay=b.Bay))&&(decide (a.Row=b.Row)))&&(a.Deck==b.Deck))&&(decide (a.Tiers=b.Tiers)))&&(decide (a.Height=b.Height)))&&(decide (a.Kilos20=b.Kilos20)))) O ?_)))))))))))))
 refine JLo (.dptr ((G4.cs a).drop 6)) [] O .sct G (fun hc=>Ga H19 O O O) O (JLo (G0 a.Kilos40) [46] O .sct ⟨Ua,G⟩ (fun hc=>Gh Gc O O O) O (JLo (.dptr ((G4.cs b).drop 6)) [] O .sct G (fun hc=>Ga H19 O O O) O (JLo (G0 b.Kilos40) [48] O .sct ⟨Ua,G⟩ (fun hc=>Gh Gc O O O) O (JLo (BL (decide (a.Kilos40=b.Kilos40))) [47,49] O .sct ⟨Ua,Ua,G⟩ (fun hc=>Jk O O O) O (JLh (BL (((((((decide (a.Bay=b.Bay))&&(decide (a.Row=b.Row)))&&(a.Deck==b.Deck))&&(decide (a.Tiers=b.Tiers)))&&(decide (a.Height=b.Height)))&&(decide (a.Kilos20=b.Kilos20)))&&(decide (a.Kilos40=b.Kilos40)))) (J3 O O O O) O (JLm (BL (((((((decide (a.Bay=b.Bay))&&(decide (a.Row=b.Row)))&&(a.Deck==b.Deck))&&(decide (a.Tiers=b.Tiers)))&&(decide (a.Height=b.Height)))&&(decide (a.Kilos20=b.Kilos20)))&&(decide (a.Kilos40=b.Kilos40)))) O (JLo (.dptr ((G4.cs a).drop 7)) [] O .sct G (fun hc=>Ga H18 O O O) O (JLo (G0 a.Lash) [53] O .sct ⟨Ua,G⟩ (fun hc=>Gh Gc O O O) O (JLo (.dptr ((G4.cs b).drop 7)) [] O .sct G (fun hc=>Ga H18 O O O) O (JLo (G0 b.Lash) [55] O .sct ⟨Ua,G⟩ (fun hc=>Gh Gc O O O) O (JLo (BL (decide (a.Lash=b.Lash))) [54,56] O .sct ⟨Ua,Ua,G⟩ (fun hc=>Jk O O O) O (JLh (BL ((((((((decide (a.Bay=b.Bay))&&(decide (a.Row=b.Row)))&&(a.Deck==b.Deck))&&(decide (a.Tiers=b.Tiers)))&&(decide (a.Height=b.Height)))&&(decide (a.Kilos20=b.Kilos20)))&&(decide (a.Kilos40=b.Kilos40)))&&(decide (a.Lash=b.Lash)))) (J3 O O O O) O (JLm (BL ((((((((decide (a.Bay=b.Bay))&&(decide (a.Row=b.Row)))&&(a.Deck==b.Deck))&&(decide (a.Tiers=b.Tiers)))&&(decide (a.Height=b.Height)))&&(decide (a.Kilos20=b.Kilos20)))&&(decide (a.Kilos40=b.Kilos40)))&&(decide (a.Lash=b.Lash)))) O ?_)))))))))))))
 refine JLo (.dptr ((G4.cs a).drop 8)) [] O .sct G (fun hc=>Ga Rq O O O) O (JLo (E1 a.Plugs) [60] O .sct ⟨Ua,G⟩ (fun hc=>Gh J2 O O O) O (JLo (.dptr ((G4.cs b).drop 8)) [] O .sct G (fun hc=>Ga Rq O O O) O (JLo (E1 b.Plugs) [62] O .sct ⟨Ua,G⟩ (fun hc=>Gh J2 O O O) O ?_)))
 obtain⟨r3,hr3,h⟩:=Gf h
 refine JLo (BL r3) [61,63] O .sct ⟨Ua,Ua,G⟩ (fun hc=>Gq (args:=[E1 a.Plugs,E1 b.Plugs]) O (G58 a.Plugs b.Plugs r3 (Gv hc hr3)) J02 ⟨O,O,O,O,G⟩) O (JLh (BL (((((((((decide (a.Bay=b.Bay))&&(decide (a.Row=b.Row)))&&(a.Deck==b.Deck))&&(decide (a.Tiers=b.Tiers)))&&(decide (a.Height=b.Height)))&&(decide (a.Kilos20=b.Kilos20)))&&(decide (a.Kilos40=b.Kilos40)))&&(decide (a.Lash=b.Lash)))&&r3)) (J3 O O O O) O (JLm (BL (((((((((decide (a.Bay=b.Bay))&&(decide (a.Row=b.Row)))&&(a.Deck==b.Deck))&&(decide (a.Tiers=b.Tiers)))&&(decide (a.Height=b.Height)))&&(decide (a.Kilos20=b.Kilos20)))&&(decide (a.Kilos40=b.Kilos40)))&&(decide (a.Lash=b.Lash)))&&r3)) O (JLo (.dptr [G0 a.X,G0 a.Y,G0 a.Z]) [] O .sct G (fun hc=>Ga H17 O O O) O (JLo (G0 a.X) [67] O .sct ⟨Ua,G⟩ (fun hc=>Gh Gc O O O) O (JLo (.dptr [G0 b.X,G0 b.Y,G0 b.Z]) [] O .sct G (fun hc=>Ga H17 O O O) O (JLo (G0 b.X) [69] O .sct ⟨Ua,G⟩ (fun hc=>Gh Gc O O O) O (JLo (BL (decide (a.X=b.X))) [68,70] O .sct ⟨Ua,Ua,G⟩ (fun hc=>Jk O O O) O (JLh (BL ((((((((((decide (a.Bay=b.Bay))&&(decide (a.Row=b.Row)))&&(a.Deck==b.Deck))&&(decide (a.Tiers=b.Tiers)))&&(decide (a.Height=b.Height)))&&(decide (a.Kilos20=b.Kilos20)))&&(decide (a.Kilos40=b.Kilos40)))&&(decide (a.Lash=b.Lash)))&&r3)&&(decide (a.X=b.X)))) (J3 O O O O) O (JLm (BL ((((((((((decide (a.Bay=b.Bay))&&(decide (a.Row=b.Row)))&&(a.Deck==b.Deck))&&(decide (a.Tiers=b.Tiers)))&&(decide (a.Height=b.Height)))&&(decide (a.Kilos20=b.Kilos20)))&&(decide (a.Kilos40=b.Kilos40)))&&(decide (a.Lash=b.Lash)))&&r3)&&(decide (a.X=b.X)))) O (JLo (.dptr [G0 a.Y,G0 a.Z]) [] O .sct G (fun hc=>Ga Gf2 O O O) O (JLo (G0 a.Y) [74] O .sct ⟨Ua,G⟩ (fun hc=>Gh Gc O O O) O (JLo (.dptr [G0 b.Y,G0 b.Z]) [] O .sct G (fun hc=>Ga Gf2 O O O) O (JLo (G0 b.Y) [76] O .sct ⟨Ua,G⟩ (fun hc=>Gh Gc O O O) O ?_)))))))))))))
 refine JLo (BL (decide (a.Y=b.Y))) [75,77] O .sct ⟨Ua,Ua,G⟩ (fun hc=>Jk O O O) O (JLh (BL (((((((((((decide (a.Bay=b.Bay))&&(decide (a.Row=b.Row)))&&(a.Deck==b.Deck))&&(decide (a.Tiers=b.Tiers)))&&(decide (a.Height=b.Height)))&&(decide (a.Kilos20=b.Kilos20)))&&(decide (a.Kilos40=b.Kilos40)))&&(decide (a.Lash=b.Lash)))&&r3)&&(decide (a.X=b.X)))&&(decide (a.Y=b.Y)))) (J3 O O O O) O (JLm (BL (((((((((((decide (a.Bay=b.Bay))&&(decide (a.Row=b.Row)))&&(a.Deck==b.Deck))&&(decide (a.Tiers=b.Tiers)))&&(decide (a.Height=b.Height)))&&(decide (a.Kilos20=b.Kilos20)))&&(decide (a.Kilos40=b.Kilos40)))&&(decide (a.Lash=b.Lash)))&&r3)&&(decide (a.X=b.X)))&&(decide (a.Y=b.Y)))) O (JLo (.dptr [G0 a.Z]) [] O .sct G (fun hc=>Ga Gf1 O O O) O (JLo (G0 a.Z) [81] O .sct ⟨Ua,G⟩ (fun hc=>Gh Gc O O O) O (JLo (.dptr [G0 b.Z]) [] O .sct G (fun hc=>Ga Gf1 O O O) O (JLo (G0 b.Z) [83] O .sct ⟨Ua,G⟩ (fun hc=>Gh Gc O O O) O (JLo (BL (decide (a.Z=b.Z))) [82,84] O .sct ⟨Ua,Ua,G⟩ (fun hc=>Jk O O O) O (JLh (BL ((((((((((((decide (a.Bay=b.Bay))&&(decide (a.Row=b.Row)))&&(a.Deck==b.Deck))&&(decide (a.Tiers=b.Tiers)))&&(decide (a.Height=b.Height)))&&(decide (a.Kilos20=b.Kilos20)))&&(decide (a.Kilos40=b.Kilos40)))&&(decide (a.Lash=b.Lash)))&&r3)&&(decide (a.X=b.X)))&&(decide (a.Y=b.Y)))&&(decide (a.Z=b.Z)))) (J3 O O O O) O (JLm (BL ((((((((((((decide (a.Bay=b.Bay))&&(decide (a.Row=b.Row)))&&(a.Deck==b.Deck))&&(decide (a.Tiers=b.Tiers)))&&(decide (a.Height=b.Height)))&&(decide (a.Kilos20=b.Kilos20)))&&(decide (a.Kilos40=b.Kilos40)))&&(decide (a.Lash=b.Lash)))&&r3)&&(decide (a.X=b.X)))&&(decide (a.Y=b.Y)))&&(decide (a.Z=b.Z)))) O (G8 (hK2 ?_)))))))))))
 refine Gt (fin1 BL h)

def Yq (a:List G4) (b:List G4):Option Bool:=
 bif decide ((a.length:Int)≠(b.length:Int)) then
 (some false)
 else
 (each (fun y26 i26 (s26:Unit) nx26=>
   Jc b (i26:Int) fun y31=>
   bnd (Q0 y26 y31) fun r33=>
   bif (!r33) then
   (some false)
   else
   (nx26 ()))
  (fun(s26:Unit)=>
   some true) a 0 ())
theorem H36 (a:List G4) (b:List G4) (r:Bool) (h:Yq a b=some r):Pure En 112 [E5 a,E5 b] (·=BL r):=by
 unfold Yq at h
 refine H0 [.tmp 4] Tryz.func112 O O (Jr fun hK1=>(JLm (BL false) O (G8 (hK1 (Js fun hK2=>Jr fun hK3=>(JLm (E5 a) O (JLl H7 O O O fun hm7=>(JLm (E5 b) O (JLl H7 O O O fun hm9=>(JLh (BL (decide ((a.length:Int)≠(b.length:Int)))) (G56 O O O) O (G8 (hK3 (JCc O h (fun h hb=>?_) (fun h hb=>?_))))))))))))))
 ·
  refine Jr fun hK4=>(JLm (BL false) O (G8 (hK4 (Gt (fin1 BL h)))))
 ·
  refine Gm (hK2 (Js fun hK5=>Jr fun hK6=>(JLm (G0 0) O (G8 (hK6 (Gk ?_))))))
  obtain⟨b26,kx26,hb26,hkx26,h⟩:=J4 h
  refine H6 (fun i26 (s26:Unit)=>each b26 kx26 (List.drop i26 a) i26 s26=some r) (fun i26 s26=>[(0,E5 a),(1,E5 b),(5,Em i26)]) (fun i26 s26=>[]) (fun i26=>a.length - i26) 0 () h ⟨⟨.same O,.same O,.same O,G⟩,G,O⟩ ?_
  clear h
  intro i26 s26 hi26 K26 e26
  refine Js fun hK27=>Jr fun hK28=>(JLm (Em i26) O (JLm (E5 a) O (JLl H7 O O O fun hm13=>(JLh (BL (decide ((i26:Int) < (a.length:Int)))) (Hy O O O) O (G8 (hK28 (Gj O (fun hb=>?_) (fun hb=>?_))))))))
  ·
   have hk26:=Je hb
   obtain⟨y26,nx26,hy26,hn26,h⟩:=Hs hi26 hk26
   replace h:=Y8 hb26 h
   refine Gm (hK27 (Js fun hK29=>Gk (Js fun hK30=>?_)))
   obtain⟨m32,y31,hm32,hy31,h⟩:=R1 h
   obtain⟨r33,hr33,h⟩:=Gf h
   refine JC_d0 Jb (by kernel_rfl) (Dq (E5 a) (G5 O O) O (Dq (Em i26) (G5 O O) O (Dq (Ef y26) (Gs (f:=G4.av) (xs:=a) (y:=y26) O O O H7 hy26 O) O (Dq (.agg (G4.cs y26)) (Gi Yc O O O) O (Dq (E5 b) (G5 O O) O (Dq (Em i26) (G5 O O) O (Dq (Ef y31) (Gs (f:=G4.av) (xs:=b) (y:=y31) O O O H7 hy31 hm32) O (Dq (.agg (G4.cs y31)) (Gi Yc O O O) O (Dq (BL r33) (Gq (args:=[.agg (G4.cs y26),.agg (G4.cs y31)]) O (G48 y26 y31 r33 hr33) J07 ⟨O,O,O,O,G⟩) O (Dq (BL (!r33)) (R9 (b:=r33) O O) O (Dnil (hK30 (JCc O h (fun h hb=>?_) (fun h hb=>?_))))))))))))))
   ·
    refine Jr fun hK34=>(JLm (BL false) O (G8 (hK34 (Gt (fin1 BL h)))))
   ·
    refine Gm (hK29 (G2 (JLm (Em i26) O (JLh (G0 ((i26+1:Nat):Int)) (Hx (Hc hk26 hm13) O O O) O (JLm (G0 ((i26+1:Nat):Int)) O (G8 (e26 _ _ (i26+1) () (app1 hn26 h) (by omega) ⟨⟨.same rfl,.same rfl,.same rfl,G⟩,G,rfl⟩)))))))
  ·
   have h:=app1 hkx26 (Ht hi26 (H9 hb))
   refine Hd (hK5 (Jr fun hK35=>(JLm (BL true) O (G8 (hK35 (Gt (fin1 BL h)))))))

def Q8 (a:Ge) (b:Ge):Option Bool:=
 bnd (bif decide (a.Bay=b.Bay) then Rh a.Rows b.Rows else some default) fun r3=>
 some ((decide (a.Bay=b.Bay))&&r3)
theorem G52 (a:Ge) (b:Ge) (r:Bool) (h:Q8 a b=some r):Pure En 120 [.agg [G0 a.Bay,E1 a.Rows],.agg [G0 b.Bay,E1 b.Rows]] (·=BL r):=by
 unfold Q8 at h
 refine H0 [.tmp 4] Tryz.func120 O O (Jr fun hK1=>(JLh (.ptr 1166 0) (Jq (cs:=[G0 a.Bay,E1 a.Rows]) 1166 O O O O O) O (JLh (.ptr 1167 0) (Jq (cs:=[G0 b.Bay,E1 b.Rows]) 1167 O O O O O) O (JLm (BL false) O (G8 (hK1 (Gx [(2,.dptr [G0 a.Bay,E1 a.Rows]),(3,.ptr 1167 0)] [(1167,.box 55 [G0 b.Bay,E1 b.Rows])] 1166 rfl rfl rfl ⟨⟨_,rfl,.boxEq rfl rfl⟩,G⟩ rfl (by exact⟨.ptr,.conv (.same rfl),G⟩) (Gx [(2,.dptr [G0 a.Bay,E1 a.Rows]),(3,.dptr [G0 b.Bay,E1 b.Rows])] [] 1167 rfl rfl rfl G rfl (by exact⟨.conv (.same rfl),.ptr,G⟩) ?_))))))))
 refine Jr fun hK2=>(JLh (.dptr [G0 a.Bay,E1 a.Rows]) (Ga Ya O O O) O (JLh (G0 a.Bay) (Gh Gc O O O) O (JLh (.dptr [G0 b.Bay,E1 b.Rows]) (Ga Ya O O O) O (JLh (G0 b.Bay) (Gh Gc O O O) O (JLh (BL (decide (a.Bay=b.Bay))) (Jk O O O) O (JLm (BL (decide (a.Bay=b.Bay))) O (JLo (.dptr [E1 a.Rows]) [] O .sct G (fun hc=>Ga Qd O O O) O (JLo (E1 a.Rows) [11] O .sct ⟨Ua,G⟩ (fun hc=>Gh J2 O O O) O (JLo (.dptr [E1 b.Rows]) [] O .sct G (fun hc=>Ga Qd O O O) O (JLo (E1 b.Rows) [13] O .sct ⟨Ua,G⟩ (fun hc=>Gh J2 O O O) O ?_))))))))))
 obtain⟨r3,hr3,h⟩:=Gf h
 refine JLo (BL r3) [12,14] O .sct ⟨Ua,Ua,G⟩ (fun hc=>Gq (args:=[E1 a.Rows,E1 b.Rows]) O (G58 a.Rows b.Rows r3 (Gv hc hr3)) J02 ⟨O,O,O,O,G⟩) O (JLh (BL ((decide (a.Bay=b.Bay))&&r3)) (J3 O O O O) O (JLm (BL ((decide (a.Bay=b.Bay))&&r3)) O (G8 (hK2 (Gt (fin1 BL h))))))

def Yz (a:List Ge) (b:List Ge):Option Bool:=
 bif decide ((a.length:Int)≠(b.length:Int)) then
 (some false)
 else
 (each (fun y26 i26 (s26:Unit) nx26=>
   Jc b (i26:Int) fun y31=>
   bnd (Q8 y26 y31) fun r33=>
   bif (!r33) then
   (some false)
   else
   (nx26 ()))
  (fun(s26:Unit)=>
   some true) a 0 ())
theorem H44 (a:List Ge) (b:List Ge) (r:Bool) (h:Yz a b=some r):Pure En 113 [E4 a,E4 b] (·=BL r):=by
 unfold Yz at h
 refine H0 [.tmp 4] Tryz.func113 O O (Jr fun hK1=>(JLm (BL false) O (G8 (hK1 (Js fun hK2=>Jr fun hK3=>(JLm (E4 a) O (JLl Hu O O O fun hm7=>(JLm (E4 b) O (JLl Hu O O O fun hm9=>(JLh (BL (decide ((a.length:Int)≠(b.length:Int)))) (G56 O O O) O (G8 (hK3 (JCc O h (fun h hb=>?_) (fun h hb=>?_))))))))))))))
 ·
  refine Jr fun hK4=>(JLm (BL false) O (G8 (hK4 (Gt (fin1 BL h)))))
 ·
  refine Gm (hK2 (Js fun hK5=>Jr fun hK6=>(JLm (G0 0) O (G8 (hK6 (Gk ?_))))))
  obtain⟨b26,kx26,hb26,hkx26,h⟩:=J4 h
  refine H6 (fun i26 (s26:Unit)=>each b26 kx26 (List.drop i26 a) i26 s26=some r) (fun i26 s26=>[(0,E4 a),(1,E4 b),(5,Em i26)]) (fun i26 s26=>[]) (fun i26=>a.length - i26) 0 () h ⟨⟨.same O,.same O,.same O,G⟩,G,O⟩ ?_
  clear h
  intro i26 s26 hi26 K26 e26
  refine Js fun hK27=>Jr fun hK28=>(JLm (Em i26) O (JLm (E4 a) O (JLl Hu O O O fun hm13=>(JLh (BL (decide ((i26:Int) < (a.length:Int)))) (Hy O O O) O (G8 (hK28 (Gj O (fun hb=>?_) (fun hb=>?_))))))))
  ·
   have hk26:=Je hb
   obtain⟨y26,nx26,hy26,hn26,h⟩:=Hs hi26 hk26
   replace h:=Y8 hb26 h
   refine Gm (hK27 (Js fun hK29=>Gk (Js fun hK30=>?_)))
   obtain⟨m32,y31,hm32,hy31,h⟩:=R1 h
   obtain⟨r33,hr33,h⟩:=Gf h
   refine JC_d0 Jb (by kernel_rfl) (Dq (E4 a) (G5 O O) O (Dq (Em i26) (G5 O O) O (Dq (.dptr [G0 y26.Bay,E1 y26.Rows]) (Gs (f:=Ge.av) (xs:=a) (y:=y26) O O O Hu hy26 O) O (Dq (.agg [G0 y26.Bay,E1 y26.Rows]) (Gi Z8 O O O) O (Dq (E4 b) (G5 O O) O (Dq (Em i26) (G5 O O) O (Dq (.dptr [G0 y31.Bay,E1 y31.Rows]) (Gs (f:=Ge.av) (xs:=b) (y:=y31) O O O Hu hy31 hm32) O (Dq (.agg [G0 y31.Bay,E1 y31.Rows]) (Gi Z8 O O O) O (Dq (BL r33) (Gq (args:=[.agg [G0 y26.Bay,E1 y26.Rows],.agg [G0 y31.Bay,E1 y31.Rows]]) O (G52 y26 y31 r33 hr33) J06 ⟨O,O,O,O,G⟩) O (Dq (BL (!r33)) (R9 (b:=r33) O O) O (Dnil (hK30 (JCc O h (fun h hb=>?_) (fun h hb=>?_))))))))))))))
   ·
    refine Jr fun hK34=>(JLm (BL false) O (G8 (hK34 (Gt (fin1 BL h)))))
   ·
    refine Gm (hK29 (G2 (JLm (Em i26) O (JLh (G0 ((i26+1:Nat):Int)) (Hx (Hc hk26 hm13) O O O) O (JLm (G0 ((i26+1:Nat):Int)) O (G8 (e26 _ _ (i26+1) () (app1 hn26 h) (by omega) ⟨⟨.same rfl,.same rfl,.same rfl,G⟩,G,rfl⟩)))))))
  ·
   have h:=app1 hkx26 (Ht hi26 (H9 hb))
   refine Hd (hK5 (Jr fun hK35=>(JLm (BL true) O (G8 (hK35 (Gt (fin1 BL h)))))))

def Zy (a:List Row) (b:List Row):Option Bool:=
 bif decide ((a.length:Int)≠(b.length:Int)) then
 (some false)
 else
 (each (fun y24 i24 (s24:Unit) nx24=>
   Jc b (i24:Int) fun y29=>
   bif (!decide (y24=y29)) then
   (some false)
   else
   (nx24 ()))
  (fun(s24:Unit)=>
   some true) a 0 ())
theorem H80 (a:List Row) (b:List Row) (r:Bool) (h:Zy a b=some r):Pure En 114 [E7 a,E7 b] (·=BL r):=by
 unfold Zy at h
 refine H0 [.tmp 4] Tryz.func114 O O (Jr fun hK1=>(JLm (BL false) O (G8 (hK1 (Js fun hK2=>Jr fun hK3=>(JLm (E7 a) O (JLl Qf O O O fun hm7=>(JLm (E7 b) O (JLl Qf O O O fun hm9=>(JLh (BL (decide ((a.length:Int)≠(b.length:Int)))) (G56 O O O) O (G8 (hK3 (JCc O h (fun h hb=>?_) (fun h hb=>?_))))))))))))))
 ·
  refine Jr fun hK4=>(JLm (BL false) O (G8 (hK4 (Gt (fin1 BL h)))))
 ·
  refine Gm (hK2 (Js fun hK5=>Jr fun hK6=>(JLm (G0 0) O (G8 (hK6 (Gk ?_))))))
  obtain⟨b24,kx24,hb24,hkx24,h⟩:=J4 h
  refine H6 (fun i24 (s24:Unit)=>each b24 kx24 (List.drop i24 a) i24 s24=some r) (fun i24 s24=>[(0,E7 a),(1,E7 b),(5,Em i24)]) (fun i24 s24=>[]) (fun i24=>a.length - i24) 0 () h ⟨⟨.same O,.same O,.same O,G⟩,G,O⟩ ?_
  clear h
  intro i24 s24 hi24 K24 e24
  refine Js fun hK25=>Jr fun hK26=>(JLm (Em i24) O (JLm (E7 a) O (JLl Qf O O O fun hm13=>(JLh (BL (decide ((i24:Int) < (a.length:Int)))) (Hy O O O) O (G8 (hK26 (Gj O (fun hb=>?_) (fun hb=>?_))))))))
  ·
   have hk24:=Je hb
   obtain⟨y24,nx24,hy24,hn24,h⟩:=Hs hi24 hk24
   replace h:=Y8 hb24 h
   refine Gm (hK25 (Js fun hK27=>Gk (Js fun hK28=>?_)))
   obtain⟨m30,y29,hm30,hy29,h⟩:=R1 h
   refine JC_d0 Jb (by kernel_rfl) (Dq (E7 a) (G5 O O) O (Dq (Em i24) (G5 O O) O (Dq (.dptr (Row.cs y24)) (Gs (f:=Row.av) (xs:=a) (y:=y24) O O O Qf hy24 O) O (Dq (.agg (Row.cs y24)) (Gi H0c O O O) O (Dq (E7 b) (G5 O O) O (Dq (Em i24) (G5 O O) O (Dq (.dptr (Row.cs y29)) (Gs (f:=Row.av) (xs:=b) (y:=y29) O O O Qf hy29 hm30) O (Dq (.agg (Row.cs y29)) (Gi H0c O O O) O (Dq (BL (!decide (y24=y29))) (J3d (vs:=[.int .i64 y24.Draught,.int .i64 y24.Kilos,.int .i64 y24.Buoy,.int .i64 y24.Metacentre,.int .i64 y24.J1d]) (us:=[.int .i64 y29.Draught,.int .i64 y29.Kilos,.int .i64 y29.Buoy,.int .i64 y29.Metacentre,.int .i64 y29.J1d]) 4 O (tq_104 y24 y29) Hd6 J53 O O O) O (Dnil (hK28 ?_)))))))))))
   refine JCc O h (fun h hb=>?_) (fun h hb=>?_)
   ·
    refine Jr fun hK31=>(JLm (BL false) O (G8 (hK31 (Gt (fin1 BL h)))))
   ·
    refine Gm (hK27 (G2 (JLm (Em i24) O (JLh (G0 ((i24+1:Nat):Int)) (Hx (Hc hk24 hm13) O O O) O (JLm (G0 ((i24+1:Nat):Int)) O (G8 (e24 _ _ (i24+1) () (app1 hn24 h) (by omega) ⟨⟨.same rfl,.same rfl,.same rfl,G⟩,G,rfl⟩)))))))
  ·
   have h:=app1 hkx24 (Ht hi24 (H9 hb))
   refine Hd (hK5 (Jr fun hK32=>(JLm (BL true) O (G8 (hK32 (Gt (fin1 BL h)))))))

def Yy (a:List Frame) (b:List Frame):Option Bool:=
 bif decide ((a.length:Int)≠(b.length:Int)) then
 (some false)
 else
 (each (fun y24 i24 (s24:Unit) nx24=>
   Jc b (i24:Int) fun y29=>
   bif (!decide (y24=y29)) then
   (some false)
   else
   (nx24 ()))
  (fun(s24:Unit)=>
   some true) a 0 ())
theorem H43 (a:List Frame) (b:List Frame) (r:Bool) (h:Yy a b=some r):Pure En 115 [E6 a,E6 b] (·=BL r):=by
 unfold Yy at h
 refine H0 [.tmp 4] Tryz.func115 O O (Jr fun hK1=>(JLm (BL false) O (G8 (hK1 (Js fun hK2=>Jr fun hK3=>(JLm (E6 a) O (JLl Qe O O O fun hm7=>(JLm (E6 b) O (JLl Qe O O O fun hm9=>(JLh (BL (decide ((a.length:Int)≠(b.length:Int)))) (G56 O O O) O (G8 (hK3 (JCc O h (fun h hb=>?_) (fun h hb=>?_))))))))))))))
 ·
  refine Jr fun hK4=>(JLm (BL false) O (G8 (hK4 (Gt (fin1 BL h)))))
 ·
  refine Gm (hK2 (Js fun hK5=>Jr fun hK6=>(JLm (G0 0) O (G8 (hK6 (Gk ?_))))))
  obtain⟨b24,kx24,hb24,hkx24,h⟩:=J4 h
  refine H6 (fun i24 (s24:Unit)=>each b24 kx24 (List.drop i24 a) i24 s24=some r) (fun i24 s24=>[(0,E6 a),(1,E6 b),(5,Em i24)]) (fun i24 s24=>[]) (fun i24=>a.length - i24) 0 () h ⟨⟨.same O,.same O,.same O,G⟩,G,O⟩ ?_
  clear h
  intro i24 s24 hi24 K24 e24
  refine Js fun hK25=>Jr fun hK26=>(JLm (Em i24) O (JLm (E6 a) O (JLl Qe O O O fun hm13=>(JLh (BL (decide ((i24:Int) < (a.length:Int)))) (Hy O O O) O (G8 (hK26 (Gj O (fun hb=>?_) (fun hb=>?_))))))))
  ·
   have hk24:=Je hb
   obtain⟨y24,nx24,hy24,hn24,h⟩:=Hs hi24 hk24
   replace h:=Y8 hb24 h
   refine Gm (hK25 (Js fun hK27=>Gk (Js fun hK28=>?_)))
   obtain⟨m30,y29,hm30,hy29,h⟩:=R1 h
   refine JC_d0 Jb (by kernel_rfl) (Dq (E6 a) (G5 O O) O (Dq (Em i24) (G5 O O) O (Dq (.dptr (Frame.cs y24)) (Gs (f:=Frame.av) (xs:=a) (y:=y24) O O O Qe hy24 O) O (Dq (.agg (Frame.cs y24)) (Gi H0b O O O) O (Dq (E6 b) (G5 O O) O (Dq (Em i24) (G5 O O) O (Dq (.dptr (Frame.cs y29)) (Gs (f:=Frame.av) (xs:=b) (y:=y29) O O O Qe hy29 hm30) O (Dq (.agg (Frame.cs y29)) (Gi H0b O O O) O (Dq (BL (!decide (y24=y29))) (J3d (vs:=[.int .i64 y24.X,.int .i64 y24.Light,.int .i64 y24.Share,.int .i64 y24.Shear,.int .i64 y24.Bend]) (us:=[.int .i64 y29.X,.int .i64 y29.Light,.int .i64 y29.Share,.int .i64 y29.Shear,.int .i64 y29.Bend]) 4 O (tq_107 y24 y29) Hd5 J52 O O O) O (Dnil (hK28 (JCc O h (fun h hb=>?_) (fun h hb=>?_)))))))))))))
   ·
    refine Jr fun hK31=>(JLm (BL false) O (G8 (hK31 (Gt (fin1 BL h)))))
   ·
    refine Gm (hK27 (G2 (JLm (Em i24) O (JLh (G0 ((i24+1:Nat):Int)) (Hx (Hc hk24 hm13) O O O) O (JLm (G0 ((i24+1:Nat):Int)) O (G8 (e24 _ _ (i24+1) () (app1 hn24 h) (by omega) ⟨⟨.same rfl,.same rfl,.same rfl,G⟩,G,rfl⟩)))))))
  ·
   have h:=app1 hkx24 (Ht hi24 (H9 hb))
   refine Hd (hK5 (Jr fun hK32=>(JLm (BL true) O (G8 (hK32 (Gt (fin1 BL h)))))))

def Q9 (a:Gp) (b:Gp):Option Bool:=
 bnd (bif (((((decide (a.Kilos=b.Kilos))&&(decide (a.X=b.X)))&&(decide (a.Y=b.Y)))&&(decide (a.Z=b.Z)))&&(decide (a.Surface=b.Surface))) then Rh a.Steps b.Steps else some default) fun r3=>
 some ((((((decide (a.Kilos=b.Kilos))&&(decide (a.X=b.X)))&&(decide (a.Y=b.Y)))&&(decide (a.Z=b.Z)))&&(decide (a.Surface=b.Surface)))&&r3)
theorem G57 (a:Gp) (b:Gp) (r:Bool) (h:Q9 a b=some r):Pure En 122 [.agg (Gp.cs a),.agg (Gp.cs b)] (·=BL r):=by
 unfold Q9 at h
 refine H0 [.tmp 4] Tryz.func122 O O (Jr fun hK1=>(JLh (.ptr 1170 0) (Jq (cs:=[G0 a.Kilos,G0 a.X,G0 a.Y,G0 a.Z,G0 a.Surface,E1 a.Steps]) 1170 O O O O O) O (JLh (.ptr 1171 0) (Jq (cs:=[G0 b.Kilos,G0 b.X,G0 b.Y,G0 b.Z,G0 b.Surface,E1 b.Steps]) 1171 O O O O O) O (JLm (BL false) O (G8 (hK1 (Gx [(2,Ej a),(3,.ptr 1171 0)] [(1171,.box 110 [G0 b.Kilos,G0 b.X,G0 b.Y,G0 b.Z,G0 b.Surface,E1 b.Steps])] 1170 rfl rfl rfl ⟨⟨_,rfl,.boxEq rfl rfl⟩,G⟩ rfl (by exact⟨.ptr,.conv (.same rfl),G⟩) (Gx [(2,Ej a),(3,Ej b)] [] 1171 rfl rfl rfl G rfl (by exact⟨.conv (.same rfl),.ptr,G⟩) ?_))))))))
 refine Jr fun hK2=>(JLh (Ej a) (Ga Hfe O O O) O (JLh (G0 a.Kilos) (Gh Gc O O O) O (JLh (Ej b) (Ga Hfe O O O) O (JLh (G0 b.Kilos) (Gh Gc O O O) O (JLh (BL (decide (a.Kilos=b.Kilos))) (Jk O O O) O (JLm (BL (decide (a.Kilos=b.Kilos))) O (JLo (.dptr ((Gp.cs a).drop 1)) [] O .sct G (fun hc=>Ga Hfd O O O) O (JLo (G0 a.X) [11] O .sct ⟨Ua,G⟩ (fun hc=>Gh Gc O O O) O (JLo (.dptr ((Gp.cs b).drop 1)) [] O .sct G (fun hc=>Ga Hfd O O O) O (JLo (G0 b.X) [13] O .sct ⟨Ua,G⟩ (fun hc=>Gh Gc O O O) O (JLo (BL (decide (a.X=b.X))) [12,14] O .sct ⟨Ua,Ua,G⟩ (fun hc=>Jk O O O) O (JLh (BL ((decide (a.Kilos=b.Kilos))&&(decide (a.X=b.X)))) (J3 O O O O) O (JLm (BL ((decide (a.Kilos=b.Kilos))&&(decide (a.X=b.X)))) O ?_)))))))))))))
 refine JLo (.dptr ((Gp.cs a).drop 2)) [] O .sct G (fun hc=>Ga Hfc O O O) O (JLo (G0 a.Y) [18] O .sct ⟨Ua,G⟩ (fun hc=>Gh Gc O O O) O (JLo (.dptr ((Gp.cs b).drop 2)) [] O .sct G (fun hc=>Ga Hfc O O O) O (JLo (G0 b.Y) [20] O .sct ⟨Ua,G⟩ (fun hc=>Gh Gc O O O) O (JLo (BL (decide (a.Y=b.Y))) [19,21] O .sct ⟨Ua,Ua,G⟩ (fun hc=>Jk O O O) O (JLh (BL (((decide (a.Kilos=b.Kilos))&&(decide (a.X=b.X)))&&(decide (a.Y=b.Y)))) (J3 O O O O) O (JLm (BL (((decide (a.Kilos=b.Kilos))&&(decide (a.X=b.X)))&&(decide (a.Y=b.Y)))) O (JLo (.dptr ((Gp.cs a).drop 3)) [] O .sct G (fun hc=>Ga Hfb O O O) O (JLo (G0 a.Z) [25] O .sct ⟨Ua,G⟩ (fun hc=>Gh Gc O O O) O (JLo (.dptr ((Gp.cs b).drop 3)) [] O .sct G (fun hc=>Ga Hfb O O O) O (JLo (G0 b.Z) [27] O .sct ⟨Ua,G⟩ (fun hc=>Gh Gc O O O) O (JLo (BL (decide (a.Z=b.Z))) [26,28] O .sct ⟨Ua,Ua,G⟩ (fun hc=>Jk O O O) O (JLh (BL ((((decide (a.Kilos=b.Kilos))&&(decide (a.X=b.X)))&&(decide (a.Y=b.Y)))&&(decide (a.Z=b.Z)))) (J3 O O O O) O (JLm (BL ((((decide (a.Kilos=b.Kilos))&&(decide (a.X=b.X)))&&(decide (a.Y=b.Y)))&&(decide (a.Z=b.Z)))) O ?_)))))))))))))
 refine JLo (.dptr [G0 a.Surface,E1 a.Steps]) [] O .sct G (fun hc=>Ga Hfa O O O) O (JLo (G0 a.Surface) [32] O .sct ⟨Ua,G⟩ (fun hc=>Gh Gc O O O) O (JLo (.dptr [G0 b.Surface,E1 b.Steps]) [] O .sct G (fun hc=>Ga Hfa O O O) O (JLo (G0 b.Surface) [34] O .sct ⟨Ua,G⟩ (fun hc=>Gh Gc O O O) O (JLo (BL (decide (a.Surface=b.Surface))) [33,35] O .sct ⟨Ua,Ua,G⟩ (fun hc=>Jk O O O) O (JLh (BL (((((decide (a.Kilos=b.Kilos))&&(decide (a.X=b.X)))&&(decide (a.Y=b.Y)))&&(decide (a.Z=b.Z)))&&(decide (a.Surface=b.Surface)))) (J3 O O O O) O (JLm (BL (((((decide (a.Kilos=b.Kilos))&&(decide (a.X=b.X)))&&(decide (a.Y=b.Y)))&&(decide (a.Z=b.Z)))&&(decide (a.Surface=b.Surface)))) O (JLo (.dptr [E1 a.Steps]) [] O .sct G (fun hc=>Ga G70 O O O) O (JLo (E1 a.Steps) [39] O .sct ⟨Ua,G⟩ (fun hc=>Gh J2 O O O) O (JLo (.dptr [E1 b.Steps]) [] O .sct G (fun hc=>Ga G70 O O O) O (JLo (E1 b.Steps) [41] O .sct ⟨Ua,G⟩ (fun hc=>Gh J2 O O O) O ?_))))))))))
 obtain⟨r3,hr3,h⟩:=Gf h
 refine JLo (BL r3) [40,42] O .sct ⟨Ua,Ua,G⟩ (fun hc=>Gq (args:=[E1 a.Steps,E1 b.Steps]) O (G58 a.Steps b.Steps r3 (Gv hc hr3)) J02 ⟨O,O,O,O,G⟩) O (JLh (BL ((((((decide (a.Kilos=b.Kilos))&&(decide (a.X=b.X)))&&(decide (a.Y=b.Y)))&&(decide (a.Z=b.Z)))&&(decide (a.Surface=b.Surface)))&&r3)) (J3 O O O O) O (JLm (BL ((((((decide (a.Kilos=b.Kilos))&&(decide (a.X=b.X)))&&(decide (a.Y=b.Y)))&&(decide (a.Z=b.Z)))&&(decide (a.Surface=b.Surface)))&&r3)) O (G8 (hK2 (Gt (fin1 BL h))))))

def Zj (a:List Gp) (b:List Gp):Option Bool:=
 bif decide ((a.length:Int)≠(b.length:Int)) then
 (some false)
 else
 (each (fun y26 i26 (s26:Unit) nx26=>
   Jc b (i26:Int) fun y31=>
   bnd (Q9 y26 y31) fun r33=>
   bif (!r33) then
   (some false)
   else
   (nx26 ()))
  (fun(s26:Unit)=>
   some true) a 0 ())
theorem H6d (a:List Gp) (b:List Gp) (r:Bool) (h:Zj a b=some r):Pure En 116 [E8 a,E8 b] (·=BL r):=by
 unfold Zj at h
 refine H0 [.tmp 4] Tryz.func116 O O (Jr fun hK1=>(JLm (BL false) O (G8 (hK1 (Js fun hK2=>Jr fun hK3=>(JLm (E8 a) O (JLl Q5 O O O fun hm7=>(JLm (E8 b) O (JLl Q5 O O O fun hm9=>(JLh (BL (decide ((a.length:Int)≠(b.length:Int)))) (G56 O O O) O (G8 (hK3 (JCc O h (fun h hb=>?_) (fun h hb=>?_))))))))))))))
 ·
  refine Jr fun hK4=>(JLm (BL false) O (G8 (hK4 (Gt (fin1 BL h)))))
 ·
  refine Gm (hK2 (Js fun hK5=>Jr fun hK6=>(JLm (G0 0) O (G8 (hK6 (Gk ?_))))))
  obtain⟨b26,kx26,hb26,hkx26,h⟩:=J4 h
  refine H6 (fun i26 (s26:Unit)=>each b26 kx26 (List.drop i26 a) i26 s26=some r) (fun i26 s26=>[(0,E8 a),(1,E8 b),(5,Em i26)]) (fun i26 s26=>[]) (fun i26=>a.length - i26) 0 () h ⟨⟨.same O,.same O,.same O,G⟩,G,O⟩ ?_
  clear h
  intro i26 s26 hi26 K26 e26
  refine Js fun hK27=>Jr fun hK28=>(JLm (Em i26) O (JLm (E8 a) O (JLl Q5 O O O fun hm13=>(JLh (BL (decide ((i26:Int) < (a.length:Int)))) (Hy O O O) O (G8 (hK28 (Gj O (fun hb=>?_) (fun hb=>?_))))))))
  ·
   have hk26:=Je hb
   obtain⟨y26,nx26,hy26,hn26,h⟩:=Hs hi26 hk26
   replace h:=Y8 hb26 h
   refine Gm (hK27 (Js fun hK29=>Gk (Js fun hK30=>?_)))
   obtain⟨m32,y31,hm32,hy31,h⟩:=R1 h
   obtain⟨r33,hr33,h⟩:=Gf h
   refine JC_d0 Jb (by kernel_rfl) (Dq (E8 a) (G5 O O) O (Dq (Em i26) (G5 O O) O (Dq (Ej y26) (Gs (f:=Gp.av) (xs:=a) (y:=y26) O O O Q5 hy26 O) O (Dq (.agg (Gp.cs y26)) (Gi G3c O O O) O (Dq (E8 b) (G5 O O) O (Dq (Em i26) (G5 O O) O (Dq (Ej y31) (Gs (f:=Gp.av) (xs:=b) (y:=y31) O O O Q5 hy31 hm32) O (Dq (.agg (Gp.cs y31)) (Gi G3c O O O) O (Dq (BL r33) (Gq (args:=[.agg (Gp.cs y26),.agg (Gp.cs y31)]) O (G57 y26 y31 r33 hr33) J05 ⟨O,O,O,O,G⟩) O (Dq (BL (!r33)) (R9 (b:=r33) O O) O (Dnil (hK30 (JCc O h (fun h hb=>?_) (fun h hb=>?_))))))))))))))
   ·
    refine Jr fun hK34=>(JLm (BL false) O (G8 (hK34 (Gt (fin1 BL h)))))
   ·
    refine Gm (hK29 (G2 (JLm (Em i26) O (JLh (G0 ((i26+1:Nat):Int)) (Hx (Hc hk26 hm13) O O O) O (JLm (G0 ((i26+1:Nat):Int)) O (G8 (e26 _ _ (i26+1) () (app1 hn26 h) (by omega) ⟨⟨.same rfl,.same rfl,.same rfl,G⟩,G,rfl⟩)))))))
  ·
   have h:=app1 hkx26 (Ht hi26 (H9 hb))
   refine Hd (hK5 (Jr fun hK35=>(JLm (BL true) O (G8 (hK35 (Gt (fin1 BL h)))))))

def Zx (a:H8) (b:H8):Option Bool:=
 bnd (Yq a.Columns b.Columns) fun r3=>
 bnd (bif r3 then Yz a.Covers b.Covers else some default) fun r4=>
 bnd (bif ((r3&&r4)&&(decide (a.Light=b.Light))) then Zy a.Rows b.Rows else some default) fun r5=>
 bnd (bif (((r3&&r4)&&(decide (a.Light=b.Light)))&&r5) then Yy a.Frames b.Frames else some default) fun r6=>
 bnd (bif ((((r3&&r4)&&(decide (a.Light=b.Light)))&&r5)&&r6) then Zj a.Tanks b.Tanks else some default) fun r7=>
 some ((((((r3&&r4)&&(decide (a.Light=b.Light)))&&r5)&&r6)&&r7)&&(decide (a.G3=b.G3)))
theorem H7f (a:H8) (b:H8) (r:Bool) (h:Zx a b=some r):Pure En 70 [.agg (H8.cs a),.agg (H8.cs b)] (·=BL r):=by
 unfold Zx at h
 refine H0 [.tmp 4] Tryz.func70 O O (Jr fun hK1=>(JLh (.ptr 1112 0) (Jq (cs:=(H8.cs a)) 1112 O O O O O) O (JLh (.ptr 1113 0) (Jq (cs:=(H8.cs b)) 1113 O O O O O) O (JLm (BL false) O (G8 (hK1 ?_))))))
 refine Gx [(2,Ed a),(3,.ptr 1113 0)] [(1113,.box 32 (H8.cs b))] 1112 rfl rfl rfl ⟨⟨_,rfl,.boxEq rfl rfl⟩,G⟩ rfl (by exact⟨.ptr,.conv (.same rfl),G⟩) (Gx [(2,Ed a),(3,Ed b)] [] 1113 rfl rfl rfl G rfl (by exact⟨.conv (.same rfl),.ptr,G⟩) (Jr fun hK2=>(JLh (Ed a) (Ga Hi O O O) O (JLh (E5 a.Columns) (Gh Ho O O O) O (JLh (Ed b) (Ga Hi O O O) O (JLh (E5 b.Columns) (Gh Ho O O O) O ?_))))))
 obtain⟨r3,hr3,h⟩:=Gf h
 refine JLh (BL r3) (Gq O (H36 a.Columns b.Columns r3 hr3) Qab ⟨O,O,O,O,G⟩) O (JLm (BL r3) O (JLo (.dptr ((H8.cs a).drop 1)) [] O .sct G (fun hc=>Ga Jp O O O) O (JLo (E4 a.Covers) [11] O .sct ⟨Ua,G⟩ (fun hc=>Gh Q4 O O O) O (JLo (.dptr ((H8.cs b).drop 1)) [] O .sct G (fun hc=>Ga Jp O O O) O (JLo (E4 b.Covers) [13] O .sct ⟨Ua,G⟩ (fun hc=>Gh Q4 O O O) O ?_)))))
 obtain⟨r4,hr4,h⟩:=Gf h
 refine JLo (BL r4) [12,14] O .sct ⟨Ua,Ua,G⟩ (fun hc=>Gq (args:=[E4 a.Covers,E4 b.Covers]) O (H44 a.Covers b.Covers r4 (Gv hc hr4)) Qaa ⟨O,O,O,O,G⟩) O (JLh (BL (r3&&r4)) (J3 O O O O) O (JLm (BL (r3&&r4)) O (JLo (.dptr ((H8.cs a).drop 2)) [] O .sct G (fun hc=>Ga J48 O O O) O (JLo (.agg (Light.cs a.Light)) [18] O .sct ⟨Ua,G⟩ (fun hc=>Gi Q73 O O O) O (JLo (.dptr ((H8.cs b).drop 2)) [] O .sct G (fun hc=>Ga J48 O O O) O (JLo (.agg (Light.cs b.Light)) [20] O .sct ⟨Ua,G⟩ (fun hc=>Gi Q73 O O O) O (JLo (BL (decide (a.Light=b.Light))) [19,21] O .sct ⟨Ua,Ua,G⟩ (fun hc=>G81 (vs:=[.int .i64 a.Light.Kilos,.int .i64 a.Light.X,.int .i64 a.Light.Y,.int .i64 a.Light.Z]) (us:=[.int .i64 b.Light.Kilos,.int .i64 b.Light.X,.int .i64 b.Light.Y,.int .i64 b.Light.Z]) 4 O (tq_25 a.Light b.Light) Qb5 tf_eqg_25 O O O) O (JLh (BL ((r3&&r4)&&(decide (a.Light=b.Light)))) (J3 O O O O) O (JLm (BL ((r3&&r4)&&(decide (a.Light=b.Light)))) O (JLo (.dptr ((H8.cs a).drop 6)) [] O .sct G (fun hc=>Ga G94 O O O) O (JLo (E7 a.Rows) [25] O .sct ⟨Ua,G⟩ (fun hc=>Gh Gef O O O) O (JLo (.dptr ((H8.cs b).drop 6)) [] O .sct G (fun hc=>Ga G94 O O O) O (JLo (E7 b.Rows) [27] O .sct ⟨Ua,G⟩ (fun hc=>Gh Gef O O O) O ?_)))))))))))))
 obtain⟨r5,hr5,h⟩:=Gf h
 refine JLo (BL r5) [26,28] O .sct ⟨Ua,Ua,G⟩ (fun hc=>Gq (args:=[E7 a.Rows,E7 b.Rows]) O (H80 a.Rows b.Rows r5 (Gv hc hr5)) Qa9 ⟨O,O,O,O,G⟩) O (JLh (BL (((r3&&r4)&&(decide (a.Light=b.Light)))&&r5)) (J3 O O O O) O (JLm (BL (((r3&&r4)&&(decide (a.Light=b.Light)))&&r5)) O (JLo (.dptr ((H8.cs a).drop 7)) [] O .sct G (fun hc=>Ga G93 O O O) O (JLo (E6 a.Frames) [32] O .sct ⟨Ua,G⟩ (fun hc=>Gh Gee O O O) O (JLo (.dptr ((H8.cs b).drop 7)) [] O .sct G (fun hc=>Ga G93 O O O) O (JLo (E6 b.Frames) [34] O .sct ⟨Ua,G⟩ (fun hc=>Gh Gee O O O) O ?_))))))
 obtain⟨r6,hr6,h⟩:=Gf h
 refine JLo (BL r6) [33,35] O .sct ⟨Ua,Ua,G⟩ (fun hc=>Gq (args:=[E6 a.Frames,E6 b.Frames]) O (H43 a.Frames b.Frames r6 (Gv hc hr6)) Qa8 ⟨O,O,O,O,G⟩) O (JLh (BL ((((r3&&r4)&&(decide (a.Light=b.Light)))&&r5)&&r6)) (J3 O O O O) O (JLm (BL ((((r3&&r4)&&(decide (a.Light=b.Light)))&&r5)&&r6)) O (JLo (.dptr ((H8.cs a).drop 8)) [] O .sct G (fun hc=>Ga G92 O O O) O (JLo (E8 a.Tanks) [39] O .sct ⟨Ua,G⟩ (fun hc=>Gh Ged O O O) O (JLo (.dptr ((H8.cs b).drop 8)) [] O .sct G (fun hc=>Ga G92 O O O) O (JLo (E8 b.Tanks) [41] O .sct ⟨Ua,G⟩ (fun hc=>Gh Ged O O O) O ?_))))))
 obtain⟨r7,hr7,h⟩:=Gf h
 refine JLo (BL r7) [40,42] O .sct ⟨Ua,Ua,G⟩ (fun hc=>Gq (args:=[E8 a.Tanks,E8 b.Tanks]) O (H6d a.Tanks b.Tanks r7 (Gv hc hr7)) Qa7 ⟨O,O,O,O,G⟩) O (JLh (BL (((((r3&&r4)&&(decide (a.Light=b.Light)))&&r5)&&r6)&&r7)) (J3 O O O O) O (JLm (BL (((((r3&&r4)&&(decide (a.Light=b.Light)))&&r5)&&r6)&&r7)) O (JLo (.dptr ((H8.cs a).drop 9)) [] O .sct G (fun hc=>Ga J47 O O O) O (JLo (.agg ((H8.cs a).drop 9)) [46] O .sct ⟨Ua,G⟩ (fun hc=>Gi Q72 O O O) O (JLo (.dptr ((H8.cs b).drop 9)) [] O .sct G (fun hc=>Ga J47 O O O) O (JLo (.agg ((H8.cs b).drop 9)) [48] O .sct ⟨Ua,G⟩ (fun hc=>Gi Q72 O O O) O (JLo (BL (decide (a.G3=b.G3))) [47,49] O .sct ⟨Ua,Ua,G⟩ (fun hc=>G81 (vs:=[.int .i64 a.G3.Tolerance,.int .i64 a.G3.Trim,.int .i64 a.G3.List_,.int .i64 a.G3.Stability]) (us:=[.int .i64 b.G3.Tolerance,.int .i64 b.G3.Trim,.int .i64 b.G3.List_,.int .i64 b.G3.Stability]) 4 O (tq_30 a.G3 b.G3) Qb4 tf_eqg_30 O O O) O (JLh (BL ((((((r3&&r4)&&(decide (a.Light=b.Light)))&&r5)&&r6)&&r7)&&(decide (a.G3=b.G3)))) (J3 O O O O) O (JLm (BL ((((((r3&&r4)&&(decide (a.Light=b.Light)))&&r5)&&r6)&&r7)&&(decide (a.G3=b.G3)))) O (G8 (hK2 ?_)))))))))))
 refine Gt (fin1 BL h)

def Jj (out:Ln Int) (l:List Int):Option Bool:=
 bif decide ((out.1.length:Int)≠(l.length:Int)) then
 (some false)
 else
 (Yn ((l.length:Int)+12) fun v6=>
  bnd (G61 v6 (out.1++out.2).length) fun m7=>
  each (fun y29 i29 (s29:Unit) nx29=>
   bnd (bif decide ((i29:Int) < (l.length:Int)) then Jc l (i29:Int) some else some default) fun y34=>
   bnd (bif ((!((decide ((i29:Int) < (l.length:Int)))&&(!(decide (y29=y34)))))&&(decide ((l.length:Int)≤(i29:Int)))) then Yn ((i29:Int) - (l.length:Int)) some else some 0) fun v35=>
   bnd (bif ((!((decide ((i29:Int) < (l.length:Int)))&&(!(decide (y29=y34)))))&&(decide ((l.length:Int)≤(i29:Int)))) then Jw 1 v35 else some default) fun r36=>
   bif (((decide ((i29:Int) < (l.length:Int)))&&(!(decide (y29=y34))))||((decide ((l.length:Int)≤(i29:Int)))&&(!(decide (y29=r36))))) then
   (some false)
   else
   (nx29 ()))
  (fun(s29:Unit)=>
   some true) ((out.1++out.2).take m7) 0 ())
theorem G5a (out:Ln Int) (l:List Int) (r:Bool) (h:Jj out l=some r):Pure En 149 [LT 1 G0 out,E1 l] (·=BL r):=by
 unfold Jj at h
 refine H0 [.tmp 4] Tryz.func149 O O (Jr fun hK1=>(JLm (BL false) O (G8 (hK1 (Js fun hK2=>Jr fun hK3=>(JLm (LT 1 G0 out) O (JLl H4 O O O fun hm8=>(JLm (E1 l) O (JLl H4 O O O fun hm10=>(JLh (BL (decide ((out.1.length:Int)≠(l.length:Int)))) (G56 O O O) O (G8 (hK3 (JCc O h (fun h hb=>?_) (fun h hb=>?_))))))))))))))
 ·
  refine Jr fun hK4=>(JLm (BL false) O (G8 (hK4 (Gt (fin1 BL h)))))
 ·
  refine Gm (hK2 (Jr fun hK5=>(JLm (LT 1 G0 out) O (JLm (E1 l) O (JLl H4 O O O fun hm14=>?_)))))
  obtain⟨v6,hv6,h⟩:=Jh h
  refine JLh (G0 v6) (Hx hv6 O O O) O ?_
  obtain⟨m7,hm7,h⟩:=Gf h
  refine JLh (E1 ((out.1++out.2).take m7)) (H4f (f:=G0) (e:=out) O O O H4 (Yv hm7)) O (JLm (E1 ((out.1++out.2).take m7)) O (G8 (hK5 (Js fun hK8=>Jr fun hK9=>(JLm (G0 0) O (G8 (hK9 (Gk ?_))))))))
  obtain⟨b29,kx29,hb29,hkx29,h⟩:=J4 h
  refine H6 (fun i29 (s29:Unit)=>each b29 kx29 (List.drop i29 ((out.1++out.2).take m7)) i29 s29=some r) (fun i29 s29=>[(1,E1 l),(5,E1 ((out.1++out.2).take m7)),(6,Em i29)]) (fun i29 s29=>[]) (fun i29=>((out.1++out.2).take m7).length - i29) 0 () h ⟨⟨.same O,.same O,.same O,G⟩,G,O⟩ ?_
  clear h
  intro i29 s29 hi29 K29 e29
  refine Js fun hK30=>Jr fun hK31=>(JLm (Em i29) O (JLm (E1 ((out.1++out.2).take m7)) O (JLl H4 O O O fun hm19=>(JLh (BL (decide ((i29:Int) < (((out.1++out.2).take m7).length:Int)))) (Hy O O O) O (G8 (hK31 (Gj O (fun hb=>?_) (fun hb=>?_))))))))
  ·
   have hk29:=Je hb
   obtain⟨y29,nx29,hy29,hn29,h⟩:=Hs hi29 hk29
   replace h:=Y8 hb29 h
   refine Gm (hK30 (Js fun hK32=>Gk (Js fun hK33=>?_)))
   obtain⟨y34,hy34,h⟩:=Gf h
   obtain⟨v35,hv35,h⟩:=Gf h
   obtain⟨r36,hr36,h⟩:=Gf h
   refine JC_d0 Jb (by kernel_rfl) (Dq (Em i29) (G5 O O) O (Dq (E1 l) (G5 O O) O (Dq (Em l.length) (Qx (f:=G0) (xs:=l) H4 O O) O (Dq (BL (decide ((i29:Int) < (l.length:Int)))) (Hy O O O) O (Dq (BL (decide ((i29:Int) < (l.length:Int)))) (G5 O O) O (Do (E1 ((out.1++out.2).take m7)) [] O .sct G (fun hc=>G5 O O) O (Do (Em i29) [] O .sct G (fun hc=>G5 O O) O (Do (.dptr [G0 y29]) [28,29] O .sct ⟨Ua,Ua,G⟩ (fun hc=>Gs (f:=G0) (xs:=((out.1++out.2).take m7)) (y:=y29) O O O H4 hy29 O) O (Do (G0 y29) [30] O .sct ⟨Ua,G⟩ (fun hc=>Gh Gc O O O) O (Do (E1 l) [] O .sct G (fun hc=>G5 O O) O (Do (Em i29) [] O .sct G (fun hc=>G5 O O) O (Do (.dptr [G0 y34]) [32,33] O .sct ⟨Ua,Ua,G⟩ (fun hc=>(match Jm (Gv hc hy34) with | ⟨_,hm_,hy_⟩=>Gs (f:=G0) (xs:=l) (y:=y34) O O O H4 hy_ hm_)) O (Do (G0 y34) [34] O .sct ⟨Ua,G⟩ (fun hc=>Gh Gc O O O) O ?_)))))))))))))
   refine Do (BL (decide (y29=y34))) [31,35] O .sct ⟨Ua,Ua,G⟩ (fun hc=>Jk O O O) O (Do (BL (!(decide (y29=y34)))) [36] O .sct ⟨Ua,G⟩ (fun hc=>R9 (b:=decide (y29=y34)) O O) O (Dq (BL ((decide ((i29:Int) < (l.length:Int)))&&(!(decide (y29=y34))))) (J3 O O O O) O (Dq (BL ((decide ((i29:Int) < (l.length:Int)))&&(!(decide (y29=y34))))) (G5 O O) O (Do (Em i29) [] O .scf G (fun hc=>G5 O O) O (Do (E1 l) [] O .scf G (fun hc=>G5 O O) O (Do (Em l.length) [41] O .scf ⟨Ua,G⟩ (fun hc=>Qx (f:=G0) (xs:=l) H4 O O) O (Do (BL (decide ((l.length:Int)≤(i29:Int)))) [40,42] O .scf ⟨Ua,Ua,G⟩ (fun hc=>G06 O O O) O (Do (BL (decide ((l.length:Int)≤(i29:Int)))) [43] O .scf ⟨Ua,G⟩ (fun hc=>G5 O O) O (Do (E1 ((out.1++out.2).take m7)) [] O .optt G (fun hc=>G5 O O) O (Do (Em i29) [] O .optt G (fun hc=>G5 O O) O (Do (.dptr [G0 y29]) [45,46] O .optt ⟨Ua,Ua,G⟩ (fun hc=>Gs (f:=G0) (xs:=((out.1++out.2).take m7)) (y:=y29) O O O H4 hy29 O) O (Do (G0 y29) [47] O .optt ⟨Ua,G⟩ (fun hc=>Gh Gc O O O) O (Do (Em i29) [] O .optt G (fun hc=>G5 O O) O ?_)))))))))))))
   refine Do (E1 l) [] O .optt G (fun hc=>G5 O O) O (Do (Em l.length) [50] O .optt ⟨Ua,G⟩ (fun hc=>Qx (f:=G0) (xs:=l) H4 O O) O (Do (G0 v35) [49,51] O .optt ⟨Ua,Ua,G⟩ (fun hc=>G6d (G1c (Gv hc hv35)) O O O) O (Do (G0 r36) [52] O .optt ⟨Ua,G⟩ (fun hc=>Gq (args:=[G0 1,G0 v35]) O (Qn 1 v35 r36 (Gv hc hr36)) G68 ⟨O,O,O,O,G⟩) O (Do (BL (decide (y29=r36))) [48,53] O .optt ⟨Ua,Ua,G⟩ (fun hc=>Jk O O O) O (Do (BL (!(decide (y29=r36)))) [54] O .optt ⟨Ua,G⟩ (fun hc=>R9 (b:=decide (y29=r36)) O O) O (Dg (.opt (!((decide ((i29:Int) < (l.length:Int)))&&(!(decide (y29=y34))))) (BL ((decide ((l.length:Int)≤(i29:Int)))&&(!(decide (y29=r36)))))) (Gg [(44,BL (decide ((l.length:Int)≤(i29:Int)))),(55,_)] O O O .scf ⟨.all id,.part,G⟩ (fun hc=>J3 O O O O) O) O (Dq (BL (((decide ((i29:Int) < (l.length:Int)))&&(!(decide (y29=y34))))||((decide ((l.length:Int)≤(i29:Int)))&&(!(decide (y29=r36)))))) (Y7 O O O O) O (Dnil ?_))))))))
   refine hK33 (JCc O h (fun h hb=>?_) (fun h hb=>?_))
   ·
    refine Jr fun hK37=>(JLm (BL false) O (G8 (hK37 (Gt (fin1 BL h)))))
   ·
    refine Gm (hK32 (G2 (JLm (Em i29) O (JLh (G0 ((i29+1:Nat):Int)) (Hx (Hc hk29 hm19) O O O) O (JLm (G0 ((i29+1:Nat):Int)) O (G8 (e29 _ _ (i29+1) () (app1 hn29 h) (by omega) ⟨⟨.same rfl,.same rfl,.same rfl,G⟩,G,rfl⟩)))))))
  ·
   have h:=app1 hkx29 (Ht hi29 (H9 hb))
   refine Hd (hK8 (Jr fun hK38=>(JLm (BL true) O (G8 (hK38 (Gt (fin1 BL h)))))))

def Rz (x:H1) (y:G4):Option Bool:=
 bnd (Q0 (G4.mk x.Bay x.Row x.Deck x.Tiers x.Height x.Kilos20 x.Kilos40 x.Lash x.Plugs.1 x.X x.Y x.Z) y) fun r3=>
 bnd (bif r3 then Jj x.Plugs y.Plugs else some default) fun r4=>
 some (r3&&r4)
theorem H4a (x:H1) (y:G4) (r:Bool) (h:Rz x y=some r):Pure En 117 [.agg (H1.cs x),.agg (G4.cs y)] (·=BL r):=by
 unfold Rz at h
 refine H0 [.tmp 4] Tryz.func117 O O (Jr fun hK1=>(JLh (.ptr 1160 0) (Jq (cs:=(H1.cs x)) 1160 O O O O O) O (JLh (.ptr 1161 0) (Jq (cs:=(G4.cs y)) 1161 O O O O O) O (JLm (BL false) O (G8 (hK1 (Gx [(2,.dptr (H1.cs x)),(3,.ptr 1161 0)] [(1161,.box 53 (G4.cs y))] 1160 rfl rfl rfl ⟨⟨_,rfl,.boxEq rfl rfl⟩,G⟩ rfl (by exact⟨.ptr,.conv (.same rfl),G⟩) ?_)))))))
 refine Gx [(2,.dptr (H1.cs x)),(3,Ef y)] [] 1161 rfl rfl rfl G rfl (by exact⟨.conv (.same rfl),.ptr,G⟩) (Jr fun hK2=>(JLh (.agg [G0 x.Bay,G0 x.Row,BL x.Deck,G0 x.Tiers,G0 x.Height,G0 x.Kilos20,G0 x.Kilos40,G0 x.Lash,E1 x.Plugs.1,G0 x.X,G0 x.Y,G0 x.Z]) (Ha.cv (Cv.aggL (cs:=(H1.cs x)) ⟨.same,.same,.same,.same,.same,.same,.same,.same,Cv.lst0 x.Plugs,.same,.same,.same,G⟩) (Gi Yc O O O)) O (JLh (.agg (G4.cs y)) (Gi Yc O O O) O ?_)))
 obtain⟨r3,hr3,h⟩:=Gf h
 refine JLh (BL r3) (Gq O (G48 (G4.mk x.Bay x.Row x.Deck x.Tiers x.Height x.Kilos20 x.Kilos40 x.Lash x.Plugs.1 x.X x.Y x.Z) y r3 hr3) J07 ⟨O,O,O,O,G⟩) O (JLm (BL r3) O (JLo (.dptr ((H1.cs x).drop 8)) [] O .sct G (fun hc=>Ga Rq O O O) O (JLo (LT 1 G0 x.Plugs) [9] O .sct ⟨Ua,G⟩ (fun hc=>Gh J2 O O O) O (JLo (.dptr ((G4.cs y).drop 8)) [] O .sct G (fun hc=>Ga Rq O O O) O (JLo (E1 y.Plugs) [11] O .sct ⟨Ua,G⟩ (fun hc=>Gh J2 O O O) O ?_)))))
 obtain⟨r4,hr4,h⟩:=Gf h
 refine JLo (BL r4) [10,12] O .sct ⟨Ua,Ua,G⟩ (fun hc=>Gq (args:=[LT 1 G0 x.Plugs,E1 y.Plugs]) O (G5a x.Plugs y.Plugs r4 (Gv hc hr4)) J03 ⟨O,O,O,O,G⟩) O (JLh (BL (r3&&r4)) (J3 O O O O) O (JLm (BL (r3&&r4)) O (G8 (hK2 (Gt (fin1 BL h))))))

def Rm (out:Ln H1) (l:List G4):Option Bool:=
 bif decide ((out.1.length:Int)≠(l.length:Int)) then
 (some false)
 else
 (Yn ((l.length:Int)+12) fun v6=>
  bnd (G61 v6 (out.1++out.2).length) fun m7=>
  each (fun y33 i33 (s33:Unit) nx33=>
   bnd (bif decide ((i33:Int) < (l.length:Int)) then Jc l (i33:Int) some else some default) fun y38=>
   bnd (bif decide ((i33:Int) < (l.length:Int)) then Rz y33 y38 else some default) fun r39=>
   bnd (bif ((!((decide ((i33:Int) < (l.length:Int)))&&(!r39)))&&(decide ((l.length:Int)≤(i33:Int)))) then Yn ((i33:Int) - (l.length:Int)) some else some 0) fun v40=>
   bnd (bif ((!((decide ((i33:Int) < (l.length:Int)))&&(!r39)))&&(decide ((l.length:Int)≤(i33:Int)))) then R4 1 v40 else some default) fun r41=>
   bnd (bif ((!((decide ((i33:Int) < (l.length:Int)))&&(!r39)))&&(decide ((l.length:Int)≤(i33:Int)))) then Q0 (G4.mk y33.Bay y33.Row y33.Deck y33.Tiers y33.Height y33.Kilos20 y33.Kilos40 y33.Lash y33.Plugs.1 y33.X y33.Y y33.Z) r41 else some default) fun r42=>
   bif (((decide ((i33:Int) < (l.length:Int)))&&(!r39))||((decide ((l.length:Int)≤(i33:Int)))&&(!r42))) then
   (some false)
   else
   (nx33 ()))
  (fun(s33:Unit)=>
   some true) ((out.1++out.2).take m7) 0 ())
theorem H38 (out:Ln H1) (l:List G4) (r:Bool) (h:Rm out l=some r):Pure En 71 [LT 12 H1.av out,E5 l] (·=BL r):=by
 unfold Rm at h
 refine H0 [.tmp 4] Tryz.func71 O O (Jr fun hK1=>(JLm (BL false) O (G8 (hK1 (Js fun hK2=>Jr fun hK3=>(JLm (LT 12 H1.av out) O (JLl H7 O O O fun hm8=>(JLm (E5 l) O (JLl H7 O O O fun hm10=>(JLh (BL (decide ((out.1.length:Int)≠(l.length:Int)))) (G56 O O O) O (G8 (hK3 (JCc O h (fun h hb=>?_) (fun h hb=>?_))))))))))))))
 ·
  refine Jr fun hK4=>(JLm (BL false) O (G8 (hK4 (Gt (fin1 BL h)))))
 ·
  refine Gm (hK2 (Jr fun hK5=>(JLm (LT 12 H1.av out) O (JLm (E5 l) O (JLl H7 O O O fun hm14=>?_)))))
  obtain⟨v6,hv6,h⟩:=Jh h
  refine JLh (G0 v6) (Hx hv6 O O O) O ?_
  obtain⟨m7,hm7,h⟩:=Gf h
  refine JLh (LS 12 H1.av ((out.1++out.2).take m7)) (H4f (f:=H1.av) (e:=out) O O O H7 (Yv hm7)) O (JLm (LS 12 H1.av ((out.1++out.2).take m7)) O (G8 (hK5 (Js fun hK8=>Jr fun hK9=>(JLm (G0 0) O (G8 (hK9 (Gk ?_))))))))
  obtain⟨b33,kx33,hb33,hkx33,h⟩:=J4 h
  refine H6 (fun i33 (s33:Unit)=>each b33 kx33 (List.drop i33 ((out.1++out.2).take m7)) i33 s33=some r) (fun i33 s33=>[(1,E5 l),(5,LS 12 H1.av ((out.1++out.2).take m7)),(6,Em i33)]) (fun i33 s33=>[]) (fun i33=>((out.1++out.2).take m7).length - i33) 0 () h ⟨⟨.same O,.same O,.same O,G⟩,G,O⟩ ?_
  clear h
  intro i33 s33 hi33 K33 e33
  refine Js fun hK34=>Jr fun hK35=>(JLm (Em i33) O (JLm (LS 12 H1.av ((out.1++out.2).take m7)) O (JLl H7 O O O fun hm19=>(JLh (BL (decide ((i33:Int) < (((out.1++out.2).take m7).length:Int)))) (Hy O O O) O (G8 (hK35 (Gj O (fun hb=>?_) (fun hb=>?_))))))))
  ·
   have hk33:=Je hb
   obtain⟨y33,nx33,hy33,hn33,h⟩:=Hs hi33 hk33
   replace h:=Y8 hb33 h
   refine Gm (hK34 (Js fun hK36=>Gk (Js fun hK37=>?_)))
   obtain⟨y38,hy38,h⟩:=Gf h
   obtain⟨r39,hr39,h⟩:=Gf h
   obtain⟨v40,hv40,h⟩:=Gf h
   obtain⟨r41,hr41,h⟩:=Gf h
   obtain⟨r42,hr42,h⟩:=Gf h
   refine JC_d0 Jb (by kernel_rfl) (Dq (Em i33) (G5 O O) O (Dq (E5 l) (G5 O O) O (Dq (Em l.length) (Qx (f:=G4.av) (xs:=l) H7 O O) O (Dq (BL (decide ((i33:Int) < (l.length:Int)))) (Hy O O O) O (Dq (BL (decide ((i33:Int) < (l.length:Int)))) (G5 O O) O (Do (LS 12 H1.av ((out.1++out.2).take m7)) [] O .sct G (fun hc=>G5 O O) O (Do (Em i33) [] O .sct G (fun hc=>G5 O O) O (Do (.dptr (H1.cs y33)) [28,29] O .sct ⟨Ua,Ua,G⟩ (fun hc=>Gs (f:=H1.av) (xs:=((out.1++out.2).take m7)) (y:=y33) O O O H7 hy33 O) O (Do (.agg (H1.cs y33)) [30] O .sct ⟨Ua,G⟩ (fun hc=>Gi Yc O O O) O (Do (E5 l) [] O .sct G (fun hc=>G5 O O) O (Do (Em i33) [] O .sct G (fun hc=>G5 O O) O (Do (Ef y38) [32,33] O .sct ⟨Ua,Ua,G⟩ (fun hc=>(match Jm (Gv hc hy38) with | ⟨_,hm_,hy_⟩=>Gs (f:=G4.av) (xs:=l) (y:=y38) O O O H7 hy_ hm_)) O (Do (.agg (G4.cs y38)) [34] O .sct ⟨Ua,G⟩ (fun hc=>Gi Yc O O O) O ?_)))))))))))))
   refine Do (BL r39) [31,35] O .sct ⟨Ua,Ua,G⟩ (fun hc=>Gq (args:=[.agg (H1.cs y33),.agg (G4.cs y38)]) O (H4a y33 y38 r39 (Gv hc hr39)) Qa6 ⟨O,O,O,O,G⟩) O (Do (BL (!r39)) [36] O .sct ⟨Ua,G⟩ (fun hc=>R9 (b:=r39) O O) O (Dq (BL ((decide ((i33:Int) < (l.length:Int)))&&(!r39))) (J3 O O O O) O (Dq (BL ((decide ((i33:Int) < (l.length:Int)))&&(!r39))) (G5 O O) O (Do (Em i33) [] O .scf G (fun hc=>G5 O O) O (Do (E5 l) [] O .scf G (fun hc=>G5 O O) O (Do (Em l.length) [41] O .scf ⟨Ua,G⟩ (fun hc=>Qx (f:=G4.av) (xs:=l) H7 O O) O (Do (BL (decide ((l.length:Int)≤(i33:Int)))) [40,42] O .scf ⟨Ua,Ua,G⟩ (fun hc=>G06 O O O) O (Do (BL (decide ((l.length:Int)≤(i33:Int)))) [43] O .scf ⟨Ua,G⟩ (fun hc=>G5 O O) O (Do (LS 12 H1.av ((out.1++out.2).take m7)) [] O .optt G (fun hc=>G5 O O) O (Do (Em i33) [] O .optt G (fun hc=>G5 O O) O (Do (.dptr (H1.cs y33)) [45,46] O .optt ⟨Ua,Ua,G⟩ (fun hc=>Gs (f:=H1.av) (xs:=((out.1++out.2).take m7)) (y:=y33) O O O H7 hy33 O) O (Do (.agg [G0 y33.Bay,G0 y33.Row,BL y33.Deck,G0 y33.Tiers,G0 y33.Height,G0 y33.Kilos20,G0 y33.Kilos40,G0 y33.Lash,E1 y33.Plugs.1,G0 y33.X,G0 y33.Y,G0 y33.Z]) [47] O .optt ⟨Ua,G⟩ (fun hc=>Ha.cv (Cv.aggL (cs:=(H1.cs y33)) ⟨.same,.same,.same,.same,.same,.same,.same,.same,Cv.lst0 y33.Plugs,.same,.same,.same,G⟩) (Gi Yc O O O)) O (Do (Em i33) [] O .optt G (fun hc=>G5 O O) O ?_)))))))))))))
   refine Do (E5 l) [] O .optt G (fun hc=>G5 O O) O (Do (Em l.length) [50] O .optt ⟨Ua,G⟩ (fun hc=>Qx (f:=G4.av) (xs:=l) H7 O O) O (Do (G0 v40) [49,51] O .optt ⟨Ua,Ua,G⟩ (fun hc=>G6d (G1c (Gv hc hv40)) O O O) O (Do (.agg (G4.cs r41)) [52] O .optt ⟨Ua,G⟩ (fun hc=>Gq (args:=[G0 1,G0 v40]) O (G9b 1 v40 r41 (Gv hc hr41)) Q22 ⟨O,O,O,O,G⟩) O (Do (BL r42) [48,53] O .optt ⟨Ua,Ua,G⟩ (fun hc=>Gq (args:=[.agg [G0 y33.Bay,G0 y33.Row,BL y33.Deck,G0 y33.Tiers,G0 y33.Height,G0 y33.Kilos20,G0 y33.Kilos40,G0 y33.Lash,E1 y33.Plugs.1,G0 y33.X,G0 y33.Y,G0 y33.Z],.agg (G4.cs r41)]) O (G48 (G4.mk y33.Bay y33.Row y33.Deck y33.Tiers y33.Height y33.Kilos20 y33.Kilos40 y33.Lash y33.Plugs.1 y33.X y33.Y y33.Z) r41 r42 (Gv hc hr42)) J07 ⟨O,O,O,O,G⟩) O (Do (BL (!r42)) [54] O .optt ⟨Ua,G⟩ (fun hc=>R9 (b:=r42) O O) O (Dg (.opt (!((decide ((i33:Int) < (l.length:Int)))&&(!r39))) (BL ((decide ((l.length:Int)≤(i33:Int)))&&(!r42)))) (Gg [(44,BL (decide ((l.length:Int)≤(i33:Int)))),(55,_)] O O O .scf ⟨.all id,.part,G⟩ (fun hc=>J3 O O O O) O) O (Dq (BL (((decide ((i33:Int) < (l.length:Int)))&&(!r39))||((decide ((l.length:Int)≤(i33:Int)))&&(!r42)))) (Y7 O O O O) O (Dnil ?_))))))))
   refine hK37 (JCc O h (fun h hb=>?_) (fun h hb=>?_))
   ·
    refine Jr fun hK43=>(JLm (BL false) O (G8 (hK43 (Gt (fin1 BL h)))))
   ·
    refine Gm (hK36 (G2 (JLm (Em i33) O (JLh (G0 ((i33+1:Nat):Int)) (Hx (Hc hk33 hm19) O O O) O (JLm (G0 ((i33+1:Nat):Int)) O (G8 (e33 _ _ (i33+1) () (app1 hn33 h) (by omega) ⟨⟨.same rfl,.same rfl,.same rfl,G⟩,G,rfl⟩)))))))
  ·
   have h:=app1 hkx33 (Ht hi33 (H9 hb))
   refine Hd (hK8 (Jr fun hK44=>(JLm (BL true) O (G8 (hK44 (Gt (fin1 BL h)))))))

def Yf (x:Hf) (y:Ge):Option Bool:=
 bnd (Q8 (Ge.mk x.Bay x.Rows.1) y) fun r3=>
 bnd (bif r3 then Jj x.Rows y.Rows else some default) fun r4=>
 some (r3&&r4)
theorem H74 (x:Hf) (y:Ge) (r:Bool) (h:Yf x y=some r):Pure En 119 [.agg [G0 x.Bay,LT 1 G0 x.Rows],.agg [G0 y.Bay,E1 y.Rows]] (·=BL r):=by
 unfold Yf at h
 refine H0 [.tmp 4] Tryz.func119 O O (Jr fun hK1=>(JLh (.ptr 1164 0) (Jq (cs:=[G0 x.Bay,LT 1 G0 x.Rows]) 1164 O O O O O) O (JLh (.ptr 1165 0) (Jq (cs:=[G0 y.Bay,E1 y.Rows]) 1165 O O O O O) O (JLm (BL false) O (G8 (hK1 (Gx [(2,.dptr [G0 x.Bay,LT 1 G0 x.Rows]),(3,.ptr 1165 0)] [(1165,.box 55 [G0 y.Bay,E1 y.Rows])] 1164 rfl rfl rfl ⟨⟨_,rfl,.boxEq rfl rfl⟩,G⟩ rfl (by exact⟨.ptr,.conv (.same rfl),G⟩) (Gx [(2,.dptr [G0 x.Bay,LT 1 G0 x.Rows]),(3,.dptr [G0 y.Bay,E1 y.Rows])] [] 1165 rfl rfl rfl G rfl (by exact⟨.conv (.same rfl),.ptr,G⟩) ?_))))))))
 refine Jr fun hK2=>(JLh (.agg [G0 x.Bay,E1 x.Rows.1]) (Ha.cv (Cv.aggL (cs:=[G0 x.Bay,LT 1 G0 x.Rows]) ⟨.same,Cv.lst0 x.Rows,G⟩) (Gi Z8 O O O)) O (JLh (.agg [G0 y.Bay,E1 y.Rows]) (Gi Z8 O O O) O ?_))
 obtain⟨r3,hr3,h⟩:=Gf h
 refine JLh (BL r3) (Gq O (G52 (Ge.mk x.Bay x.Rows.1) y r3 hr3) J06 ⟨O,O,O,O,G⟩) O (JLm (BL r3) O (JLo (.dptr [LT 1 G0 x.Rows]) [] O .sct G (fun hc=>Ga Qd O O O) O (JLo (LT 1 G0 x.Rows) [9] O .sct ⟨Ua,G⟩ (fun hc=>Gh J2 O O O) O (JLo (.dptr [E1 y.Rows]) [] O .sct G (fun hc=>Ga Qd O O O) O (JLo (E1 y.Rows) [11] O .sct ⟨Ua,G⟩ (fun hc=>Gh J2 O O O) O ?_)))))
 obtain⟨r4,hr4,h⟩:=Gf h
 refine JLo (BL r4) [10,12] O .sct ⟨Ua,Ua,G⟩ (fun hc=>Gq (args:=[LT 1 G0 x.Rows,E1 y.Rows]) O (G5a x.Rows y.Rows r4 (Gv hc hr4)) J03 ⟨O,O,O,O,G⟩) O (JLh (BL (r3&&r4)) (J3 O O O O) O (JLm (BL (r3&&r4)) O (G8 (hK2 (Gt (fin1 BL h))))))
end
end Go.Proofs.YteogacmpgdpjlaaGreat
