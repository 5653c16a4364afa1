/-
 Models of functions of the program,and that they return what the models say.
-/
import Derived.Test.YthcpolfodgjekaaGreatIterJ
import Derived.Test.YthcpolfodgjekaaGreatIterJ
import Derived.Test.YthcpolfodgjekaaGreatIterJ
set_option maxRecDepth 100000
set_option maxHeartbeats 1000000
set_option linter.unusedVariables false
set_option linter.unusedSimpArgs false
namespace Go.Proofs.YthcpolfodgjekaaGreat
open Go.RowKit
noncomputable section
structure Gz where
 Bay:Int
 Row:Int
 Deck:Bool
 Tiers:Int
 Height:Int
 Kilos20:Int
 Kilos40:Int
 Lash:Int
 Plugs:Ln Int
 X:Int
 Y:Int
 Z:Int
 deriving Inhabited
def Gz.cs (x:Gz):List AV:=[I64 x.Bay,I64 x.Row,BL x.Deck,I64 x.Tiers,I64 x.Height,I64 x.Kilos20,I64 x.Kilos40,I64 x.Lash,LT 1 I64 x.Plugs,I64 x.X,I64 x.Y,I64 x.Z]
def Gz.av (x:Gz):AV:=.agg x.cs
def Gz.pl (x:Gz):G3:=⟨x.Bay,x.Row,x.Deck,x.Tiers,x.Height,x.Kilos20,x.Kilos40,x.Lash,Prod.fst x.Plugs,x.X,x.Y,x.Z⟩
def Gz.of (x:G3):Gz:=⟨x.Bay,x.Row,x.Deck,x.Tiers,x.Height,x.Kilos20,x.Kilos40,x.Lash,(fun e=>(e,[])) x.Plugs,x.X,x.Y,x.Z⟩
theorem Gz.cvl (x:Gz):CvL (Gz.cs x) (G3.cs x.pl):=⟨.same,.same,.same,.same,.same,.same,.same,.same,Cv.lst0 x.Plugs,.same,.same,.same,trivial⟩
structure H9 where
 Bay:Int
 Rows:Ln Int
 deriving Inhabited
def H9.cs (x:H9):List AV:=[I64 x.Bay,LT 1 I64 x.Rows]
def H9.av (x:H9):AV:=.agg x.cs
def H9.pl (x:H9):G8:=⟨x.Bay,Prod.fst x.Rows⟩
def H9.of (x:G8):H9:=⟨x.Bay,(fun e=>(e,[])) x.Rows⟩
theorem H9.cvl (x:H9):CvL (H9.cs x) (G8.cs x.pl):=⟨.same,Cv.lst0 x.Rows,trivial⟩
structure Hm where
 Kilos:Int
 X:Int
 Y:Int
 Z:Int
 Surface:Int
 Steps:Ln Int
 deriving Inhabited
def Hm.cs (x:Hm):List AV:=[I64 x.Kilos,I64 x.X,I64 x.Y,I64 x.Z,I64 x.Surface,LT 1 I64 x.Steps]
def Hm.av (x:Hm):AV:=.agg x.cs
def Hm.pl (x:Hm):Gf:=⟨x.Kilos,x.X,x.Y,x.Z,x.Surface,Prod.fst x.Steps⟩
def Hm.of (x:Gf):Hm:=⟨x.Kilos,x.X,x.Y,x.Z,x.Surface,(fun e=>(e,[])) x.Steps⟩
theorem Hm.cvl (x:Hm):CvL (Hm.cs x) (Gf.cs x.pl):=⟨.same,.same,.same,.same,.same,Cv.lst0 x.Steps,trivial⟩
structure Rq where
 Columns:Ln Gz
 Covers:Ln H9
 Light:Light
 Rows:Ln Row
 Frames:Ln Frame
 Tanks:Ln Hm
 G1:G1
 deriving Inhabited
def Rq.cs (x:Rq):List AV:=[LT 12 Gz.av x.Columns,LT 2 H9.av x.Covers,I64 x.Light.Kilos,I64 x.Light.X,I64 x.Light.Y,I64 x.Light.Z,LT 5 Row.av x.Rows,LT 5 Frame.av x.Frames,LT 6 Hm.av x.Tanks,I64 x.G1.Tolerance,I64 x.G1.Trim,I64 x.G1.List_,I64 x.G1.Stability]
structure Box where
 ID:Int
 Number:ByteArray
 Size:Int
 High:Bool
 Kilos:Int
 Load:Int
 Discharge:Int
 Class:Int
 Reefer:Bool
 deriving DecidableEq,Inhabited
def Box.cs (x:Box):List AV:=[I64 x.ID,ST x.Number,U8 x.Size,BL x.High,I64 x.Kilos,I64 x.Load,I64 x.Discharge,U8 x.Class,BL x.Reefer]
def Box.av (x:Box):AV:=.agg x.cs
abbrev Ee (x:Box):AV:=.dptr (Box.cs x)
abbrev E3:=LS 9 Box.av
structure Stowed where
 Box:Int
 Slot:Slot
 deriving DecidableEq,Inhabited
def Stowed.cs (x:Stowed):List AV:=[I64 x.Box,I64 x.Slot.G3,I64 x.Slot.Tier,U8 x.Slot.Half]
def Stowed.av (x:Stowed):AV:=.agg x.cs
abbrev Ec (x:Stowed):AV:=.dptr (Stowed.cs x)
abbrev E2:=LS 4 Stowed.av
namespace XLF
open XAF
theorem R4f (a b:Row):Ha1 Ej 4 108 [.int .i64 a.Draught,.int .i64 a.Kilos,.int .i64 a.Buoy,.int .i64 a.Metacentre,.int .i64 a.J04] [.int .i64 b.Draught,.int .i64 b.Kilos,.int .i64 b.Buoy,.int .i64 b.Metacentre,.int .i64 b.J04]=some (decide (a=b)):=by
 refine(show _=some ((a.Draught==b.Draught)&&((a.Kilos==b.Kilos)&&((a.Buoy==b.Buoy)&&((a.Metacentre==b.Metacentre)&&((a.J04==b.J04)&&true))))) by kernel_rfl).trans (congrArg some ?_)
 rw [Bool.eq_iff_iff]
 simp only [Kq,beq_iff_eq,Kr,Bool.and_true]
 constructor
 ·intro h; obtain⟨_,_,_,_,_⟩:=a; obtain⟨_,_,_,_,_⟩:=b; simp_all
 ·intro h; subst h; simp
theorem R4e (a b:Frame):Ha1 Ej 4 111 [.int .i64 a.X,.int .i64 a.Light,.int .i64 a.Share,.int .i64 a.Shear,.int .i64 a.Bend] [.int .i64 b.X,.int .i64 b.Light,.int .i64 b.Share,.int .i64 b.Shear,.int .i64 b.Bend]=some (decide (a=b)):=by
 refine(show _=some ((a.X==b.X)&&((a.Light==b.Light)&&((a.Share==b.Share)&&((a.Shear==b.Shear)&&((a.Bend==b.Bend)&&true))))) by kernel_rfl).trans (congrArg some ?_)
 rw [Bool.eq_iff_iff]
 simp only [Kq,beq_iff_eq,Kr,Bool.and_true]
 constructor
 ·intro h; obtain⟨_,_,_,_,_⟩:=a; obtain⟨_,_,_,_,_⟩:=b; simp_all
 ·intro h; subst h; simp
theorem Yaa (a b:Light):Ha1 Ej 4 25 [.int .i64 a.Kilos,.int .i64 a.X,.int .i64 a.Y,.int .i64 a.Z] [.int .i64 b.Kilos,.int .i64 b.X,.int .i64 b.Y,.int .i64 b.Z]=some (decide (a=b)):=by
 refine(show _=some ((a.Kilos==b.Kilos)&&((a.X==b.X)&&((a.Y==b.Y)&&((a.Z==b.Z)&&true)))) by kernel_rfl).trans (congrArg some ?_)
 rw [Bool.eq_iff_iff]
 simp only [Kq,beq_iff_eq,Kr,Bool.and_true]
 constructor
 ·intro h; obtain⟨_,_,_,_⟩:=a; obtain⟨_,_,_,_⟩:=b; simp_all
 ·intro h; subst h; simp
theorem Ya9 (a b:G1):Ha1 Ej 4 30 [.int .i64 a.Tolerance,.int .i64 a.Trim,.int .i64 a.List_,.int .i64 a.Stability] [.int .i64 b.Tolerance,.int .i64 b.Trim,.int .i64 b.List_,.int .i64 b.Stability]=some (decide (a=b)):=by
 refine(show _=some ((a.Tolerance==b.Tolerance)&&((a.Trim==b.Trim)&&((a.List_==b.List_)&&((a.Stability==b.Stability)&&true)))) by kernel_rfl).trans (congrArg some ?_)
 rw [Bool.eq_iff_iff]
 simp only [Kq,beq_iff_eq,Kr,Bool.and_true]
 constructor
 ·intro h; obtain⟨_,_,_,_⟩:=a; obtain⟨_,_,_,_⟩:=b; simp_all
 ·intro h; subst h; simp
theorem Y74 (a b:Box):Ha1 Ej 4 69 [.int .i64 a.ID,.string a.Number,.int .u8 a.Size,.bool a.High,.int .i64 a.Kilos,.int .i64 a.Load,.int .i64 a.Discharge,.int .u8 a.Class,.bool a.Reefer] [.int .i64 b.ID,.string b.Number,.int .u8 b.Size,.bool b.High,.int .i64 b.Kilos,.int .i64 b.Load,.int .i64 b.Discharge,.int .u8 b.Class,.bool b.Reefer]=some (decide (a=b)):=by
 refine(show _=some ((a.ID==b.ID)&&((a.Number==b.Number)&&((a.Size==b.Size)&&((a.High==b.High)&&((a.Kilos==b.Kilos)&&((a.Load==b.Load)&&((a.Discharge==b.Discharge)&&((a.Class==b.Class)&&((a.Reefer==b.Reefer)&&true))))))))) by kernel_rfl).trans (congrArg some ?_)
 rw [Bool.eq_iff_iff]
 simp only [Kq,R97,beq_iff_eq,Kr,Bool.and_true]
 constructor
 ·intro h; obtain⟨_,_,_,_,_,_,_,_,_⟩:=a; obtain⟨_,_,_,_,_,_,_,_,_⟩:=b; simp_all
 ·intro h; subst h; simp
theorem Y72 (a b:Stowed):Ha1 Ej 4 73 [.int .i64 a.Box,.int .i64 a.Slot.G3,.int .i64 a.Slot.Tier,.int .u8 a.Slot.Half] [.int .i64 b.Box,.int .i64 b.Slot.G3,.int .i64 b.Slot.Tier,.int .u8 b.Slot.Half]=some (decide (a=b)):=by
 refine(show _=some ((a.Box==b.Box)&&(((a.Slot.G3==b.Slot.G3)&&((a.Slot.Tier==b.Slot.Tier)&&((a.Slot.Half==b.Slot.Half)&&true)))&&true)) by kernel_rfl).trans (congrArg some ?_)
 rw [Bool.eq_iff_iff]
 simp only [Kq,beq_iff_eq,Kr,Bool.and_true]
 constructor
 ·intro h; obtain⟨_,⟨_,_,_⟩⟩:=a; obtain⟨_,⟨_,_,_⟩⟩:=b; simp_all
 ·intro h; subst h; simp
theorem H07:Gff Ej 108 5=true:=by kernel_rfl
theorem H06:Gff Ej 111 5=true:=by kernel_rfl
theorem G3b:Gff Ej 114 6=true:=by kernel_rfl
theorem Q8e:Gff Ej 25 4=true:=by kernel_rfl
theorem Q8d:Gff Ej 30 4=true:=by kernel_rfl
theorem H7:Gff Ej 32 13=true:=by kernel_rfl
theorem G48:Gff Ej 69 9=true:=by kernel_rfl
theorem Ru:Gff Ej 73 4=true:=by kernel_rfl
theorem Hba:G3f Ej 108=true:=by kernel_rfl
theorem Hb9:G3f Ej 111=true:=by kernel_rfl
theorem R13:G3f Ej 25=true:=by kernel_rfl
theorem R12:G3f Ej 30=true:=by kernel_rfl
theorem Jc5:G3f Ej 69=true:=by kernel_rfl
theorem Jc3:G3f Ej 73=true:=by kernel_rfl
theorem J12:Jd9 Ej 4=true:=by kernel_rfl
theorem R11:Hf Ej 100=true:=by kernel_rfl
theorem Hf0:Hf Ej 101=true:=by kernel_rfl
theorem Hee:Hf Ej 112=true:=by kernel_rfl
theorem Hec:Hf Ej 142=true:=by kernel_rfl
theorem G1f:Hf Ej 16=true:=by kernel_rfl
theorem R77:Hf Ej 25=true:=by kernel_rfl
theorem R76:Hf Ej 26=true:=by kernel_rfl
theorem R75:Hf Ej 27=true:=by kernel_rfl
theorem R74:Hf Ej 28=true:=by kernel_rfl
theorem R73:Hf Ej 29=true:=by kernel_rfl
theorem Q15:Hf Ej 30=true:=by kernel_rfl
theorem Q14:Hf Ej 31=true:=by kernel_rfl
theorem R72:Hf Ej 43=true:=by kernel_rfl
theorem R71:Hf Ej 44=true:=by kernel_rfl
theorem R70:Hf Ej 45=true:=by kernel_rfl
theorem R6f:Hf Ej 46=true:=by kernel_rfl
theorem R6e:Hf Ej 47=true:=by kernel_rfl
theorem R6d:Hf Ej 48=true:=by kernel_rfl
theorem R69:Hf Ej 54=true:=by kernel_rfl
theorem Q0f:Hf Ej 55=true:=by kernel_rfl
theorem R68:Hf Ej 56=true:=by kernel_rfl
theorem Q0e:Hf Ej 57=true:=by kernel_rfl
theorem Q0d:Hf Ej 58=true:=by kernel_rfl
theorem Q0c:Hf Ej 59=true:=by kernel_rfl
theorem R67:Hf Ej 60=true:=by kernel_rfl
theorem Q0b:Hf Ej 61=true:=by kernel_rfl
theorem G7a:Hf Ej 62=true:=by kernel_rfl
theorem R5d:Hf Ej 91=true:=by kernel_rfl
theorem R5c:Hf Ej 92=true:=by kernel_rfl
theorem R5b:Hf Ej 93=true:=by kernel_rfl
theorem R5a:Hf Ej 94=true:=by kernel_rfl
theorem R59:Hf Ej 95=true:=by kernel_rfl
theorem R58:Hf Ej 96=true:=by kernel_rfl
theorem J43:Hf Ej 97=true:=by kernel_rfl
theorem R57:Hf Ej 98=true:=by kernel_rfl
theorem J42:Hf Ej 99=true:=by kernel_rfl
theorem Hea:Zr Ej 108 5 40=true:=by kernel_rfl
theorem He9:Zr Ej 111 5 40=true:=by kernel_rfl
theorem He8:Zr Ej 114 6 64=true:=by kernel_rfl
theorem Rt:Zr Ej 3 1 8=true:=by kernel_rfl
theorem J41:Zr Ej 64 12 112=true:=by kernel_rfl
theorem J40:Zr Ej 66 2 32=true:=by kernel_rfl
theorem J3f:Zr Ej 69 9 64=true:=by kernel_rfl
theorem G96:Zr Ej 73 4 32=true:=by kernel_rfl
theorem J3e:Ej.eqGuardType Ej.depth 108=false:=by kernel_rfl
theorem J3d:Ej.eqGuardType Ej.depth 111=false:=by kernel_rfl
theorem Rda:Ej.eqGuardType Ej.depth 25=false:=by kernel_rfl
theorem Rd9:Ej.eqGuardType Ej.depth 30=false:=by kernel_rfl
theorem Q88:Ej.eqGuardType Ej.depth 69=false:=by kernel_rfl
theorem Q86:Ej.eqGuardType Ej.depth 73=false:=by kernel_rfl
theorem He7:Qi Ej 114 0 0=true:=by kernel_rfl
theorem He6:Qi Ej 114 1 1=true:=by kernel_rfl
theorem He5:Qi Ej 114 2 2=true:=by kernel_rfl
theorem He4:Qi Ej 114 3 3=true:=by kernel_rfl
theorem He3:Qi Ej 114 4 4=true:=by kernel_rfl
theorem G6f:Qi Ej 114 5 5=true:=by kernel_rfl
theorem J2f:Qi Ej 32 2 2=true:=by kernel_rfl
theorem G84:Qi Ej 32 3 6=true:=by kernel_rfl
theorem G83:Qi Ej 32 4 7=true:=by kernel_rfl
theorem G82:Qi Ej 32 5 8=true:=by kernel_rfl
theorem J2e:Qi Ej 32 6 9=true:=by kernel_rfl
theorem Q77:placesOf Ej 108=some [(0,1),(1,1),(2,1),(3,1),(4,1)]:=by kernel_rfl
theorem Q76:placesOf Ej 111=some [(0,1),(1,1),(2,1),(3,1),(4,1)]:=by kernel_rfl
theorem Q75:placesOf Ej 114=some [(0,1),(1,1),(2,1),(3,1),(4,1),(5,1)]:=by kernel_rfl
theorem Gac:placesOf Ej 64=some [(0,1),(1,1),(2,1),(3,1),(4,1),(5,1),(6,1),(7,1),(8,1),(9,1),(10,1),(11,1)]:=by kernel_rfl
theorem J64:placesOf Ej 66=some [(0,1),(1,1)]:=by kernel_rfl
theorem G24:placesOf Ej 69=some [(0,1),(1,1),(2,1),(3,1),(4,1),(5,1),(6,1),(7,1),(8,1)]:=by kernel_rfl
theorem H39:placesOf Ej 73=some [(0,1),(1,3)]:=by kernel_rfl
theorem Gea:Z1 Ej 26=true:=by kernel_rfl
theorem Ge9:Z1 Ej 27=true:=by kernel_rfl
theorem Ge8:Z1 Ej 28=true:=by kernel_rfl
theorem Qeb:Zf Ej 108 5=true:=by kernel_rfl
theorem Qea:Zf Ej 111 5=true:=by kernel_rfl
theorem He0:Zf Ej 114 6=true:=by kernel_rfl
theorem R56:Zf Ej 22 1=true:=by kernel_rfl
theorem R55:Zf Ej 23 1=true:=by kernel_rfl
theorem R54:Zf Ej 26 1=true:=by kernel_rfl
theorem R53:Zf Ej 27 1=true:=by kernel_rfl
theorem R52:Zf Ej 28 1=true:=by kernel_rfl
theorem H51:Zf Ej 32 13=true:=by kernel_rfl
theorem J3b:Zf Ej 40 1=true:=by kernel_rfl
theorem Zs:Zf Ej 69 9=true:=by kernel_rfl
theorem G4a:Zf Ej 73 4=true:=by kernel_rfl
theorem Qh:sliceB Ej 26 108 5=true:=by kernel_rfl
theorem Qg:sliceB Ej 27 111 5=true:=by kernel_rfl
theorem Q2:sliceB Ej 28 114 6=true:=by kernel_rfl
theorem Q1:sliceB Ej 33 69 9=true:=by kernel_rfl
theorem Gx:sliceB Ej 34 73 4=true:=by kernel_rfl
theorem Jb4:(Ej.info? 108).bind (fun i=>i.zero.map Value.cells)=some (List.toArray [E0,E0,E0,E0,E0]):=by kernel_rfl
theorem Jb3:(Ej.info? 111).bind (fun i=>i.zero.map Value.cells)=some (List.toArray [E0,E0,E0,E0,E0]):=by kernel_rfl
theorem Hdf:(Ej.info? 114).bind (fun i=>i.zero.map Value.cells)=some (List.toArray [E0,E0,E0,E0,E0,.slice none 0 0]):=by kernel_rfl
theorem J39:(Ej.info? 32).bind (fun i=>i.zero.map Value.cells)=some (List.toArray [.slice none 0 0,.slice none 0 0,E0,E0,E0,E0,.slice none 0 0,.slice none 0 0,.slice none 0 0,E0,E0,E0,E0]):=by kernel_rfl
theorem G94:(Ej.info? 64).bind (fun i=>i.zero.map Value.cells)=some (List.toArray [E0,E0,.bool false,E0,E0,E0,E0,E0,.slice none 0 0,E0,E0,E0]):=by kernel_rfl
theorem Hb4:(Ej.info? 66).bind (fun i=>i.zero.map Value.cells)=some (List.toArray [E0,.slice none 0 0]):=by kernel_rfl
theorem G1e:(Ej.info? 69).bind (fun i=>i.zero.map Value.cells)=some (List.toArray [E0,.string ByteArray.empty,.int .u8 0,.bool false,E0,E0,E0,.int .u8 0,.bool false]):=by kernel_rfl
theorem H01:(Ej.info? 73).bind (fun i=>i.zero.map Value.cells)=some (List.toArray [E0,E0,E0,.int .u8 0]):=by kernel_rfl
theorem Qbd:G05 Ej 108 5=true:=by kernel_rfl
theorem Qbc:G05 Ej 111 5=true:=by kernel_rfl
theorem Hb3:G05 Ej 114 6=true:=by kernel_rfl
theorem Jz:G05 Ej 3 1=true:=by kernel_rfl
theorem G16:G05 Ej 69 9=true:=by kernel_rfl
theorem Ze:G05 Ej 73 4=true:=by kernel_rfl
end XLF
open XAF
open XLF

def Jw (k:Int) (i:Int):Option Int:=
 chk (k+7) fun v3=>
 chk (1000003*v3) fun v4=>
 chk (v4+i) fun v5=>
 some v5
theorem Qu (k:Int) (i:Int) (r:Int) (h:Jw k i=some r):Pure Ej 62 [I64 k,I64 i] (·=I64 r):=by
 unfold Jw at h
 refine Gy [.tmp 4] Tryz.func62 O O (Jr fun hK1=>(JLm (I64 0) O (G7 (hK1 (Jr fun hK2=>(JLm (I64 k) O ?_))))))
 obtain⟨v3,hv3,h⟩:=Qk h
 refine JLh (I64 v3) (Ht hv3 O O O) O ?_
 obtain⟨v4,hv4,h⟩:=Qk h
 refine JLh (I64 v4) (Yca hv4 O O O) O (JLm (I64 i) O ?_)
 obtain⟨v5,hv5,h⟩:=Qk h
 refine JLh (I64 v5) (Ht hv5 O O O) O (JLm (I64 v5) O (G7 (hK2 (Gq (fin1 I64 h)))))

def Rh (l:List Int):Option (Ln Int):=
 chk ((l.length:Int)+12) fun v3=>
 bnd (Gd7 v3) fun m4=>
 need (decide (8*m4≤281474976710656∧m4≤maxLen)) <|
 need (decide ((([]:List Int).length+l.length)*8≤140737488355328∧([]:List Int).length+l.length≤maxLen)) <|
 need (decide (12≤9223372036854775807)) <|
 upto (fun i19 (s19:(List Int)) nx19=>
  bnd (Jw 1 (i19:Int)) fun r23=>
  need (decide ((s19.length+[r23].length)*8≤140737488355328∧s19.length+[r23].length≤maxLen)) <|
  nx19 (s19++[r23]))
 (fun(s19:(List Int))=>
  bnd (G70 (l.length:Int) s19.length) fun m26=>
  some (s19.take m26,s19.drop m26)) (12:Int).toNat 0 (([]:List Int)++l)
theorem G54 (l:List Int) (r:(Ln Int)) (h:Rh l=some r):Pure Ej 112 [E1 l] (·=LT 1 I64 r):=by
 unfold Rh at h
 refine Gy [.tmp 2] Tryz.func112 O O (Jr fun hK1=>(JLh (E1 ([]:List Int)) (H2 1 O O) O (G7 (hK1 (Jr fun hK2=>(JLm (E1 l) O (JLl Gn O O O fun hm6=>?_)))))))
 obtain⟨v3,hv3,h⟩:=Qk h
 refine JLh (I64 v3) (Ht hv3 O O O) O ?_
 obtain⟨m4,hm4,h⟩:=Gd h
 obtain⟨ha5,h⟩:=Hp h
 refine JLh (OW 1179 1 I64 ([]:List Int)) (Ge5 1179 O O O O Gn Rt O (G56 hm4) ha5) O (JLm (OW 1179 1 I64 ([]:List Int)) O (G7 (hK2 (Jr fun hK6=>(JLm (OW 1179 1 I64 ([]:List Int)) O (JLm (E1 l) O ?_))))))
 obtain⟨ha7,h⟩:=Hp h
 refine JLh (OW 1179 1 I64 (([]:List Int)++l)) (H12 (f:=I64) (xs:=([]:List Int)) (ys:=l) O O O O Gn Rt ha7 (fun _=>O) (.inl O)) O (JLm (OW 1179 1 I64 (([]:List Int)++l)) O (G7 (hK6 (Js fun hK8=>Jr fun hK9=>(JLm (I64 0) O (G7 (hK9 (Gp ?_))))))))
 obtain⟨hx19,h⟩:=Hp h
 obtain⟨b19,kx19,hb19,hkx19,h⟩:=G8a h
 refine Hc (fun i19 (s19:(List Int))=>upto b19 kx19 ((12:Int).toNat - i19) i19 s19=some r) (fun i19 s19=>[(0,E1 l),(3,OW 1179 1 I64 s19),(4,Ei i19)]) (fun i19 s19=>[(1179,.spare 3 1 s19.length s19.length)]) (fun i19=>(12:Int).toNat - i19) 0 (([]:List Int)++l) h ⟨(.sm O O),⟨⟨_,O,.same⟩,G⟩,O⟩ ?_
 clear h
 intro i19 s19 hi19 K19 e19
 refine Js fun hK20=>Jr fun hK21=>(JLm (Ei i19) O (JLh (BL (decide ((i19:Int) < 12))) (Hy O O O) O (G7 (hK21 (Gj O (fun hb=>?_) (fun hb=>?_))))))
 ·
  have hk19:=G5d hb
  obtain⟨nx19,hn19,h⟩:=G58 hi19 hk19
  replace h:=J02 hb19 h
  refine Gm (hK20 (Js fun hK22=>Gp (G2 (JLm (OW 1179 1 I64 s19) O (JLm (Ei i19) O ?_)))))
  obtain⟨r23,hr23,h⟩:=Gd h
  refine JLh (I64 r23) (Gi O (Qu 1 (i19:Int) r23 hr23) G7a ⟨O,O,O,O,G⟩) O (JLh (E1 [r23]) (Ha (xs:=[I64 r23]) O ⟨O,O,G⟩ Gn Jz O O O O) O ?_)
  obtain⟨ha24,h⟩:=Hp h
  refine JLh (OW 1179 1 I64 (s19++[r23])) (Q8 (f:=I64) (xs:=s19) (ys:=[r23]) O O O O Gn Rt ha24 (fun _=>O) (.inl O) O) O (JLm (OW 1179 1 I64 (s19++[r23])) O (G7 (hK22 (G2 (JLm (Ei i19) O (JLh (I64 ((i19+1:Nat):Int)) (Ht (Hb hk19 (G36 hx19)) O O O) O (JLm (I64 ((i19+1:Nat):Int)) O (G7 (e19 _ _ (i19+1) (s19++[r23]) (app1 hn19 h) (by omega) ⟨(.sm O O),⟨⟨_,rfl,.same⟩,G⟩,rfl⟩)))))))))
 ·
  have h:=app1 hkx19 (G59 hi19 (Yi hb))
  refine Hi (hK8 (Jr fun hK25=>(JLm (OW 1179 1 I64 s19) O (JLm (E1 l) O (JLl Gn O O O fun hm23=>?_)))))
  obtain⟨m26,hm26,h⟩:=Gd h
  refine JLh (LT 1 I64 (s19.take m26,s19.drop m26)) (Jdf (f:=I64) (xs:=s19) O O O Gn (Zv hm26)) O (JLm (LT 1 I64 (s19.take m26,s19.drop m26)) O (G7 (hK25 (Gq (fin1 (fun r:(Ln Int)=>(LT 1 I64 r:AV)) h)))))

def Z8 (x:G3):Option Gz:=
 bnd (Rh x.Plugs) fun r3=>
 some (Gz.mk x.Bay x.Row x.Deck x.Tiers x.Height x.Kilos20 x.Kilos40 x.Lash r3 x.X x.Y x.Z)
theorem H42 (x:G3) (r:Gz) (h:Z8 x=some r):Pure Ej 54 [.agg (G3.cs x)] (·=.agg (Gz.cs r)):=by
 unfold Z8 at h
 refine Gy [.cell 2 64] Tryz.func54 O O (Jr fun hK1=>(JLh (.ptr 1098 0) (J7 (cs:=(G3.cs x)) 1098 O O O O O) O (JLh (.ptr 1099 0) (G34 1099 [I64 0,I64 0,BL false,I64 0,I64 0,I64 0,I64 0,I64 0,E1 ([]:List Int),I64 0,I64 0,I64 0] [E0,E0,.bool false,E0,E0,E0,E0,E0,.slice none 0 0,E0,E0,E0] G94 ⟨.inl O,.inl O,.inl O,.inl O,.inl O,.inl O,.inl O,.inl O,.inr ⟨_,O,O⟩,.inl O,.inl O,.inl O,G⟩ O O) O (G7 (hK1 (Jr fun hK2=>(JLh (.ptr 1098 8) (G14 Rn O O) O (JLh (E1 x.Plugs) (G04 J1 O O O O) O ?_))))))))
 obtain⟨r3,hr3,h⟩:=Gd h
 refine JLh (LT 1 I64 r3) (Gi O (G54 x.Plugs r3 hr3) Hee ⟨O,O,G⟩) O (JLh (.ptr 1098 8) (G14 Rn O O) O (Je (u:=.junk) (J5 (u:=LT 1 I64 r3) (ds:=[I64 x.Bay,I64 x.Row,BL x.Deck,I64 x.Tiers,I64 x.Height,I64 x.Kilos20,I64 x.Kilos40,I64 x.Lash,LT 1 I64 r3,I64 x.X,I64 x.Y,I64 x.Z]) J3b O O O O O O O O) (G7 (hK2 (Gr [(1,.dptr [I64 x.Bay,I64 x.Row,BL x.Deck,I64 x.Tiers,I64 x.Height,I64 x.Kilos20,I64 x.Kilos40,I64 x.Lash,LT 1 I64 r3,I64 x.X,I64 x.Y,I64 x.Z]),(2,.ptr 1099 0)] [(1099,.box 64 [I64 0,I64 0,BL false,I64 0,I64 0,I64 0,I64 0,I64 0,E1 ([]:List Int),I64 0,I64 0,I64 0])] 1098 rfl rfl rfl ⟨⟨_,rfl,.boxEq rfl rfl⟩,G⟩ rfl (by exact⟨.ptr,.conv (.same rfl),G⟩) ?_)))))
 refine Jr fun hK4=>(JLh (.agg [I64 x.Bay,I64 x.Row,BL x.Deck,I64 x.Tiers,I64 x.Height,I64 x.Kilos20,I64 x.Kilos40,I64 x.Lash,LT 1 I64 r3,I64 x.X,I64 x.Y,I64 x.Z]) (Gg Y6 O O O) O (Je (u:=.junk) (J5 (u:=.agg [I64 x.Bay,I64 x.Row,BL x.Deck,I64 x.Tiers,I64 x.Height,I64 x.Kilos20,I64 x.Kilos40,I64 x.Lash,LT 1 I64 r3,I64 x.X,I64 x.Y,I64 x.Z]) (ds:=[I64 x.Bay,I64 x.Row,BL x.Deck,I64 x.Tiers,I64 x.Height,I64 x.Kilos20,I64 x.Kilos40,I64 x.Lash,LT 1 I64 r3,I64 x.X,I64 x.Y,I64 x.Z]) Gd3 O O O O O O O O) (G7 (hK4 (Gq ?_)))))
 exact⟨[.agg [I64 x.Bay,I64 x.Row,BL x.Deck,I64 x.Tiers,I64 x.Height,I64 x.Kilos20,I64 x.Kilos40,I64 x.Lash,LT 1 I64 r3,I64 x.X,I64 x.Y,I64 x.Z]],[],G,O,⟨⟨_,⟨_,_,_,_,O,O,O,.inl ⟨Y6,O⟩⟩,.conv (.same O)⟩,G⟩,O,congrArg (fun r:Gz=>(.agg (Gz.cs r):AV)) (Kj h)⟩

def Qy (k:Int) (i:Int):Option G3:=
 bnd (Jw k i) fun r3=>
 some (G3.mk r3 0 false 0 0 0 0 0 [] 0 0 0)
theorem G90 (k:Int) (i:Int) (r:G3) (h:Qy k i=some r):Pure Ej 55 [I64 k,I64 i] (·=.agg (G3.cs r)):=by
 unfold Qy at h
 refine Gy [.cell 4 64] Tryz.func55 O O (Jr fun hK1=>(JLh (.ptr 1100 0) (G34 1100 [I64 0,I64 0,BL false,I64 0,I64 0,I64 0,I64 0,I64 0,E1 ([]:List Int),I64 0,I64 0,I64 0] [E0,E0,.bool false,E0,E0,E0,E0,E0,.slice none 0 0,E0,E0,E0] G94 ⟨.inl O,.inl O,.inl O,.inl O,.inl O,.inl O,.inl O,.inl O,.inr ⟨_,O,O⟩,.inl O,.inl O,.inl O,G⟩ O O) O (G7 (hK1 (Jr fun hK2=>(JLm (I64 k) O (JLm (I64 i) O ?_)))))))
 obtain⟨r3,hr3,h⟩:=Gd h
 refine JLh (I64 r3) (Gi O (Qu k i r3 hr3) G7a ⟨O,O,O,O,G⟩) O (JLh (.agg [I64 r3,I64 0,BL false,I64 0,I64 0,I64 0,I64 0,I64 0,E1 ([]:List Int),I64 0,I64 0,I64 0]) (Jk (cs:=[I64 r3,I64 0,BL false,I64 0,I64 0,I64 0,I64 0,I64 0,E1 ([]:List Int),I64 0,I64 0,I64 0]) [(0,1),(1,1),(2,1),(3,1),(4,1),(5,1),(6,1),(7,1),(8,1),(9,1),(10,1),(11,1)] [I64 0,I64 0,BL false,I64 0,I64 0,I64 0,I64 0,I64 0,E1 ([]:List Int),I64 0,I64 0,I64 0] [E0,E0,.bool false,E0,E0,E0,E0,E0,.slice none 0 0,E0,E0,E0] Gac G94 ⟨.inl O,.inl O,.inl O,.inl O,.inl O,.inl O,.inl O,.inl O,.inr ⟨_,O,O⟩,.inl O,.inl O,.inl O,G⟩ O O) O (Je (u:=.junk) (J5 (u:=.agg [I64 r3,I64 0,BL false,I64 0,I64 0,I64 0,I64 0,I64 0,E1 ([]:List Int),I64 0,I64 0,I64 0]) (ds:=[I64 r3,I64 0,BL false,I64 0,I64 0,I64 0,I64 0,I64 0,E1 ([]:List Int),I64 0,I64 0,I64 0]) Gd3 O O O O O O O O) (G7 (hK2 ?_))))
 refine Gq (⟨[.agg [I64 r3,I64 0,BL false,I64 0,I64 0,I64 0,I64 0,I64 0,E1 ([]:List Int),I64 0,I64 0,I64 0]],[],G,O,⟨⟨_,⟨_,_,_,_,O,O,O,.inl ⟨Y6,O⟩⟩,.conv (.same O)⟩,G⟩,O,congrArg (fun r:G3=>(.agg (G3.cs r):AV)) (Kj h)⟩)

def Yw (l:List G3):Option (Ln Gz):=
 chk ((l.length:Int)+12) fun v3=>
 bnd (Gd7 v3) fun m4=>
 need (decide (112*m4≤281474976710656∧m4≤maxLen)) <|
 each (fun y23 i23 (s23:(List Gz)) nx23=>
  bnd (Z8 y23) fun r28=>
  need (decide ((s23.length+[r28].length)*112≤140737488355328∧s23.length+[r28].length≤maxLen)) <|
  nx23 (s23++[r28]))
 (fun(s23:(List Gz))=>
  need (decide (12≤9223372036854775807)) <|
  upto (fun i41 (s41:(List Gz)) nx41=>
   bnd (Qy 1 (i41:Int)) fun r45=>
   need (decide ((s41.length+[(Gz.mk r45.Bay r45.Row r45.Deck r45.Tiers r45.Height r45.Kilos20 r45.Kilos40 r45.Lash (r45.Plugs,([]:List Int)) r45.X r45.Y r45.Z)].length)*112≤140737488355328∧s41.length+[(Gz.mk r45.Bay r45.Row r45.Deck r45.Tiers r45.Height r45.Kilos20 r45.Kilos40 r45.Lash (r45.Plugs,([]:List Int)) r45.X r45.Y r45.Z)].length≤maxLen)) <|
   nx41 (s41++[(Gz.mk r45.Bay r45.Row r45.Deck r45.Tiers r45.Height r45.Kilos20 r45.Kilos40 r45.Lash (r45.Plugs,([]:List Int)) r45.X r45.Y r45.Z)]))
  (fun(s41:(List Gz))=>
   bnd (G70 (l.length:Int) s41.length) fun m48=>
   some (s41.take m48,s41.drop m48)) (12:Int).toNat 0 s23) l 0 []
theorem H33 (l:List G3) (r:(Ln Gz)) (h:Yw l=some r):Pure Ej 25 [E5 l] (·=LT 12 Gz.av r):=by
 unfold Yw at h
 refine Gy [.tmp 2] Tryz.func25 O O (Jr fun hK1=>(JLh (E5 ([]:List G3)) (H2 12 O O) O (G7 (hK1 (Jr fun hK2=>(JLm (E5 l) O (JLl H6 O O O fun hm8=>?_)))))))
 obtain⟨v3,hv3,h⟩:=Qk h
 refine JLh (I64 v3) (Ht hv3 O O O) O ?_
 obtain⟨m4,hm4,h⟩:=Gd h
 obtain⟨ha5,h⟩:=Hp h
 refine JLh (OW 1047 12 Gz.av ([]:List Gz)) (Ge5 1047 O O O O H6 J41 O (G56 hm4) ha5) O (JLm (OW 1047 12 Gz.av ([]:List Gz)) O (G7 (hK2 (Js fun hK6=>Jr fun hK7=>(JLm (I64 0) O (G7 (hK7 (Gp ?_))))))))
 obtain⟨b23,kx23,hb23,hkx23,h⟩:=Hv h
 refine Hc (fun i23 (s23:(List Gz))=>each b23 kx23 (List.drop i23 l) i23 s23=some r) (fun i23 s23=>[(0,E5 l),(3,OW 1047 12 Gz.av s23),(4,Ei i23)]) (fun i23 s23=>[(1047,.spare 64 12 s23.length s23.length)]) (fun i23=>l.length - i23) 0 [] h ⟨(.sm O O),⟨⟨_,O,.same⟩,G⟩,O⟩ ?_
 clear h
 intro i23 s23 hi23 K23 e23
 refine Js fun hK24=>Jr fun hK25=>(JLm (Ei i23) O (JLm (E5 l) O (JLl H6 O O O fun hm13=>(JLh (BL (decide ((i23:Int) < (l.length:Int)))) (Hy O O O) O (G7 (hK25 (Gj O (fun hb=>?_) (fun hb=>?_))))))))
 ·
  have hk23:=J8 hb
  obtain⟨y23,nx23,hy23,hn23,h⟩:=Hj hi23 hk23
  replace h:=R8 hb23 h
  refine Gm (hK24 (Js fun hK26=>Gp (Jr fun hK27=>(JLm (E5 l) O (JLm (Ei i23) O (JLh (Ed y23) (Gv (f:=G3.av) (xs:=l) (y:=y23) O O O H6 hy23 O) O (JLh (.agg (G3.cs y23)) (Gg Y6 O O O) O ?_)))))))
  obtain⟨r28,hr28,h⟩:=Gd h
  refine JLh (.agg (Gz.cs r28)) (Gi O (H42 y23 r28 hr28) R69 ⟨O,O,G⟩) O (JLh (.ptr 1046 0) (Jn 1046 12 G76 O O) O (Je (u:=.junk) (J5 (u:=.agg (Gz.cs r28)) (ds:=(Gz.cs r28)) Gd3 O O O O O O O O) (G7 (hK27 (Gr [(0,E5 l),(3,OW 1047 12 Gz.av s23),(4,Ei i23),(5,.dptr (Gz.cs r28))] [(1047,.spare 64 12 s23.length s23.length)] 1046 rfl rfl rfl ⟨⟨_,rfl,.same⟩,G⟩ rfl (by repeat' (first | exact .ptr | constructor)) (G2 ?_))))))
  refine JLm (OW 1047 12 Gz.av s23) O (JLh (.agg (Gz.cs r28)) (Gg Y6 O O O) O (JLh (LS 12 Gz.av [r28]) (Ha (xs:=[.agg (Gz.cs r28)]) O ⟨O,O,G⟩ H6 G76 O O O O) O ?_))
  obtain⟨ha29,h⟩:=Hp h
  refine JLh (OW 1047 12 Gz.av (s23++[r28])) (Q8 (f:=Gz.av) (xs:=s23) (ys:=[r28]) O O O O H6 J41 ha29 (fun _=>O) (.inl O) O) O (JLm (OW 1047 12 Gz.av (s23++[r28])) O (G7 (hK26 (G2 (JLm (Ei i23) O (JLh (I64 ((i23+1:Nat):Int)) (Ht (Hb hk23 hm13) O O O) O (JLm (I64 ((i23+1:Nat):Int)) O (G7 (e23 _ _ (i23+1) (s23++[r28]) (app1 hn23 h) (by omega) ⟨(.sm O O),⟨⟨_,rfl,.same⟩,G⟩,rfl⟩)))))))))
 ·
  have h:=app1 hkx23 (Hk hi23 (H3 hb))
  refine Hi (hK6 (Js fun hK30=>Jr fun hK31=>(JLm (I64 0) O (G7 (hK31 (Gp ?_))))))
  obtain⟨hx41,h⟩:=Hp h
  obtain⟨b41,kx41,hb41,hkx41,h⟩:=G8a h
  refine Hc (fun i41 (s41:(List Gz))=>upto b41 kx41 ((12:Int).toNat - i41) i41 s41=some r) (fun i41 s41=>[(0,E5 l),(3,OW 1047 12 Gz.av s41),(6,Ei i41)]) (fun i41 s41=>[(1047,.spare 64 12 s41.length s41.length)]) (fun i41=>(12:Int).toNat - i41) 0 s23 h ⟨(.sm O O),⟨⟨_,O,.same⟩,G⟩,O⟩ ?_
  clear h
  intro i41 s41 hi41 K41 e41
  refine Js fun hK42=>Jr fun hK43=>(JLm (Ei i41) O (JLh (BL (decide ((i41:Int) < 12))) (Hy O O O) O (G7 (hK43 (Gj O (fun hb=>?_) (fun hb=>?_))))))
  ·
   have hk41:=G5d hb
   obtain⟨nx41,hn41,h⟩:=G58 hi41 hk41
   replace h:=J02 hb41 h
   refine Gm (hK42 (Js fun hK44=>Gp (G2 (JLm (OW 1047 12 Gz.av s41) O (JLm (Ei i41) O ?_)))))
   obtain⟨r45,hr45,h⟩:=Gd h
   refine JLh (.agg [I64 r45.Bay,I64 r45.Row,BL r45.Deck,I64 r45.Tiers,I64 r45.Height,I64 r45.Kilos20,I64 r45.Kilos40,I64 r45.Lash,LT 1 I64 (r45.Plugs,([]:List Int)),I64 r45.X,I64 r45.Y,I64 r45.Z]) (H5.cv (Cv.aggL (cs:=(G3.cs r45)) ⟨.same,.same,.same,.same,.same,.same,.same,.same,Cv.of0 r45.Plugs,.same,.same,.same,G⟩) (Gi O (G90 1 (i41:Int) r45 hr45) Q0f ⟨O,O,O,O,G⟩)) O (JLh (LS 12 Gz.av ([(Gz.mk r45.Bay r45.Row r45.Deck r45.Tiers r45.Height r45.Kilos20 r45.Kilos40 r45.Lash (r45.Plugs,([]:List Int)) r45.X r45.Y r45.Z)])) (Ha (xs:=[.agg [I64 r45.Bay,I64 r45.Row,BL r45.Deck,I64 r45.Tiers,I64 r45.Height,I64 r45.Kilos20,I64 r45.Kilos40,I64 r45.Lash,LT 1 I64 (r45.Plugs,([]:List Int)),I64 r45.X,I64 r45.Y,I64 r45.Z]]) O ⟨O,O,G⟩ H6 G76 O O O O) O ?_)
   obtain⟨ha46,h⟩:=Hp h
   refine JLh (OW 1047 12 Gz.av (s41++[(Gz.mk r45.Bay r45.Row r45.Deck r45.Tiers r45.Height r45.Kilos20 r45.Kilos40 r45.Lash (r45.Plugs,([]:List Int)) r45.X r45.Y r45.Z)])) (Q8 (f:=Gz.av) (xs:=s41) (ys:=[(Gz.mk r45.Bay r45.Row r45.Deck r45.Tiers r45.Height r45.Kilos20 r45.Kilos40 r45.Lash (r45.Plugs,([]:List Int)) r45.X r45.Y r45.Z)]) O O O O H6 J41 ha46 (fun _=>O) (.inl O) O) O (JLm (OW 1047 12 Gz.av (s41++[(Gz.mk r45.Bay r45.Row r45.Deck r45.Tiers r45.Height r45.Kilos20 r45.Kilos40 r45.Lash (r45.Plugs,([]:List Int)) r45.X r45.Y r45.Z)])) O (G7 (hK44 (G2 (JLm (Ei i41) O (JLh (I64 ((i41+1:Nat):Int)) (Ht (Hb hk41 (G36 hx41)) O O O) O (JLm (I64 ((i41+1:Nat):Int)) O (G7 ?_))))))))
   exact e41 _ _ (i41+1) (s41++[(Gz.mk r45.Bay r45.Row r45.Deck r45.Tiers r45.Height r45.Kilos20 r45.Kilos40 r45.Lash (r45.Plugs,([]:List Int)) r45.X r45.Y r45.Z)]) (app1 hn41 h) (by omega) ⟨(.sm O O),⟨⟨_,rfl,.same⟩,G⟩,rfl⟩
  ·
   have h:=app1 hkx41 (G59 hi41 (Yi hb))
   refine Hi (hK30 (Jr fun hK47=>(JLm (OW 1047 12 Gz.av s41) O (JLm (E5 l) O (JLl H6 O O O fun hm37=>?_)))))
   obtain⟨m48,hm48,h⟩:=Gd h
   refine JLh (LT 12 Gz.av (s41.take m48,s41.drop m48)) (Jdf (f:=Gz.av) (xs:=s41) O O O H6 (Zv hm48)) O (JLm (LT 12 Gz.av (s41.take m48,s41.drop m48)) O (G7 (hK47 (Gq (fin1 (fun r:(Ln Gz)=>(LT 12 Gz.av r:AV)) h)))))

def Zq (x:G8):Option H9:=
 bnd (Rh x.Rows) fun r3=>
 some (H9.mk x.Bay r3)
theorem H6f (x:G8) (r:H9) (h:Zq x=some r):Pure Ej 56 [.agg [I64 x.Bay,E1 x.Rows]] (·=.agg [I64 r.Bay,LT 1 I64 r.Rows]):=by
 unfold Zq at h
 refine Gy [.cell 2 66] Tryz.func56 O O (Jr fun hK1=>(JLh (.ptr 1101 0) (J7 (cs:=[I64 x.Bay,E1 x.Rows]) 1101 O O O O O) O (JLh (.ptr 1102 0) (G34 1102 [I64 0,E1 ([]:List Int)] [E0,.slice none 0 0] Hb4 ⟨.inl O,.inr ⟨_,O,O⟩,G⟩ O O) O (G7 (hK1 (Jr fun hK2=>(JLh (.ptr 1101 1) (G14 Qf O O) O (JLh (E1 x.Rows) (G04 J1 O O O O) O ?_))))))))
 obtain⟨r3,hr3,h⟩:=Gd h
 refine JLh (LT 1 I64 r3) (Gi O (G54 x.Rows r3 hr3) Hee ⟨O,O,G⟩) O (JLh (.ptr 1101 1) (G14 Qf O O) O (Je (u:=.junk) (J5 (u:=LT 1 I64 r3) (ds:=[I64 x.Bay,LT 1 I64 r3]) J3b O O O O O O O O) (G7 (hK2 (Gr [(1,.dptr [I64 x.Bay,LT 1 I64 r3]),(2,.ptr 1102 0)] [(1102,.box 66 [I64 0,E1 ([]:List Int)])] 1101 rfl rfl rfl ⟨⟨_,rfl,.boxEq rfl rfl⟩,G⟩ rfl (by exact⟨.ptr,.conv (.same rfl),G⟩) (Jr fun hK4=>(JLh (.agg [I64 x.Bay,LT 1 I64 r3]) (Gg Z0 O O O) O (Je (u:=.junk) (J5 (u:=.agg [I64 x.Bay,LT 1 I64 r3]) (ds:=[I64 x.Bay,LT 1 I64 r3]) Gd2 O O O O O O O O) (G7 (hK4 (Gq ?_)))))))))))
 exact⟨[.agg [I64 x.Bay,LT 1 I64 r3]],[],G,O,⟨⟨_,⟨_,_,_,_,O,O,O,.inl ⟨Z0,O⟩⟩,.conv (.same O)⟩,G⟩,O,congrArg (fun r:H9=>(.agg [I64 r.Bay,LT 1 I64 r.Rows]:AV)) (Kj h)⟩

def R5 (k:Int) (i:Int):Option G8:=
 bnd (Jw k i) fun r3=>
 some (G8.mk r3 [])
theorem G9f (k:Int) (i:Int) (r:G8) (h:R5 k i=some r):Pure Ej 57 [I64 k,I64 i] (·=.agg [I64 r.Bay,E1 r.Rows]):=by
 unfold R5 at h
 refine Gy [.cell 4 66] Tryz.func57 O O (Jr fun hK1=>(JLh (.ptr 1103 0) (G34 1103 [I64 0,E1 ([]:List Int)] [E0,.slice none 0 0] Hb4 ⟨.inl O,.inr ⟨_,O,O⟩,G⟩ O O) O (G7 (hK1 (Jr fun hK2=>(JLm (I64 k) O (JLm (I64 i) O ?_)))))))
 obtain⟨r3,hr3,h⟩:=Gd h
 refine JLh (I64 r3) (Gi O (Qu k i r3 hr3) G7a ⟨O,O,O,O,G⟩) O (JLh (.agg [I64 r3,E1 ([]:List Int)]) (Jk (cs:=[I64 r3,E1 ([]:List Int)]) [(0,1),(1,1)] [I64 0,E1 ([]:List Int)] [E0,.slice none 0 0] J64 Hb4 ⟨.inl O,.inr ⟨_,O,O⟩,G⟩ O O) O (Je (u:=.junk) (J5 (u:=.agg [I64 r3,E1 ([]:List Int)]) (ds:=[I64 r3,E1 ([]:List Int)]) Gd2 O O O O O O O O) (G7 (hK2 (Gq (⟨[.agg [I64 r3,E1 ([]:List Int)]],[],G,O,⟨⟨_,⟨_,_,_,_,O,O,O,.inl ⟨Z0,O⟩⟩,.conv (.same O)⟩,G⟩,O,congrArg (fun r:G8=>(.agg [I64 r.Bay,E1 r.Rows]:AV)) (Kj h)⟩))))))

def Z7 (l:List G8):Option (Ln H9):=
 chk ((l.length:Int)+12) fun v3=>
 bnd (Gd7 v3) fun m4=>
 need (decide (32*m4≤281474976710656∧m4≤maxLen)) <|
 each (fun y23 i23 (s23:(List H9)) nx23=>
  bnd (Zq y23) fun r28=>
  need (decide ((s23.length+[r28].length)*32≤140737488355328∧s23.length+[r28].length≤maxLen)) <|
  nx23 (s23++[r28]))
 (fun(s23:(List H9))=>
  need (decide (12≤9223372036854775807)) <|
  upto (fun i41 (s41:(List H9)) nx41=>
   bnd (R5 1 (i41:Int)) fun r45=>
   need (decide ((s41.length+[(H9.mk r45.Bay (r45.Rows,([]:List Int)))].length)*32≤140737488355328∧s41.length+[(H9.mk r45.Bay (r45.Rows,([]:List Int)))].length≤maxLen)) <|
   nx41 (s41++[(H9.mk r45.Bay (r45.Rows,([]:List Int)))]))
  (fun(s41:(List H9))=>
   bnd (G70 (l.length:Int) s41.length) fun m48=>
   some (s41.take m48,s41.drop m48)) (12:Int).toNat 0 s23) l 0 []
theorem H41 (l:List G8) (r:(Ln H9)) (h:Z7 l=some r):Pure Ej 26 [E6 l] (·=LT 2 H9.av r):=by
 unfold Z7 at h
 refine Gy [.tmp 2] Tryz.func26 O O (Jr fun hK1=>(JLh (E6 ([]:List G8)) (H2 2 O O) O (G7 (hK1 (Jr fun hK2=>(JLm (E6 l) O (JLl Hq O O O fun hm8=>?_)))))))
 obtain⟨v3,hv3,h⟩:=Qk h
 refine JLh (I64 v3) (Ht hv3 O O O) O ?_
 obtain⟨m4,hm4,h⟩:=Gd h
 obtain⟨ha5,h⟩:=Hp h
 refine JLh (OW 1049 2 H9.av ([]:List H9)) (Ge5 1049 O O O O Hq J40 O (G56 hm4) ha5) O (JLm (OW 1049 2 H9.av ([]:List H9)) O (G7 (hK2 (Js fun hK6=>Jr fun hK7=>(JLm (I64 0) O (G7 (hK7 (Gp ?_))))))))
 obtain⟨b23,kx23,hb23,hkx23,h⟩:=Hv h
 refine Hc (fun i23 (s23:(List H9))=>each b23 kx23 (List.drop i23 l) i23 s23=some r) (fun i23 s23=>[(0,E6 l),(3,OW 1049 2 H9.av s23),(4,Ei i23)]) (fun i23 s23=>[(1049,.spare 66 2 s23.length s23.length)]) (fun i23=>l.length - i23) 0 [] h ⟨(.sm O O),⟨⟨_,O,.same⟩,G⟩,O⟩ ?_
 clear h
 intro i23 s23 hi23 K23 e23
 refine Js fun hK24=>Jr fun hK25=>(JLm (Ei i23) O (JLm (E6 l) O (JLl Hq O O O fun hm13=>(JLh (BL (decide ((i23:Int) < (l.length:Int)))) (Hy O O O) O (G7 (hK25 (Gj O (fun hb=>?_) (fun hb=>?_))))))))
 ·
  have hk23:=J8 hb
  obtain⟨y23,nx23,hy23,hn23,h⟩:=Hj hi23 hk23
  replace h:=R8 hb23 h
  refine Gm (hK24 (Js fun hK26=>Gp (Jr fun hK27=>(JLm (E6 l) O (JLm (Ei i23) O (JLh (.dptr [I64 y23.Bay,E1 y23.Rows]) (Gv (f:=G8.av) (xs:=l) (y:=y23) O O O Hq hy23 O) O (JLh (.agg [I64 y23.Bay,E1 y23.Rows]) (Gg Z0 O O O) O ?_)))))))
  obtain⟨r28,hr28,h⟩:=Gd h
  refine JLh (.agg [I64 r28.Bay,LT 1 I64 r28.Rows]) (Gi O (H6f y23 r28 hr28) R68 ⟨O,O,G⟩) O (JLh (.ptr 1048 0) (Jn 1048 2 G75 O O) O (Je (u:=.junk) (J5 (u:=.agg [I64 r28.Bay,LT 1 I64 r28.Rows]) (ds:=[I64 r28.Bay,LT 1 I64 r28.Rows]) Gd2 O O O O O O O O) (G7 (hK27 (Gr [(0,E6 l),(3,OW 1049 2 H9.av s23),(4,Ei i23),(5,.dptr [I64 r28.Bay,LT 1 I64 r28.Rows])] [(1049,.spare 66 2 s23.length s23.length)] 1048 rfl rfl rfl ⟨⟨_,rfl,.same⟩,G⟩ rfl (by repeat' (first | exact .ptr | constructor)) (G2 ?_))))))
  refine JLm (OW 1049 2 H9.av s23) O (JLh (.agg [I64 r28.Bay,LT 1 I64 r28.Rows]) (Gg Z0 O O O) O (JLh (LS 2 H9.av [r28]) (Ha (xs:=[.agg [I64 r28.Bay,LT 1 I64 r28.Rows]]) O ⟨O,O,G⟩ Hq G75 O O O O) O ?_))
  obtain⟨ha29,h⟩:=Hp h
  refine JLh (OW 1049 2 H9.av (s23++[r28])) (Q8 (f:=H9.av) (xs:=s23) (ys:=[r28]) O O O O Hq J40 ha29 (fun _=>O) (.inl O) O) O (JLm (OW 1049 2 H9.av (s23++[r28])) O (G7 (hK26 (G2 (JLm (Ei i23) O (JLh (I64 ((i23+1:Nat):Int)) (Ht (Hb hk23 hm13) O O O) O (JLm (I64 ((i23+1:Nat):Int)) O (G7 (e23 _ _ (i23+1) (s23++[r28]) (app1 hn23 h) (by omega) ⟨(.sm O O),⟨⟨_,rfl,.same⟩,G⟩,rfl⟩)))))))))
 ·
  have h:=app1 hkx23 (Hk hi23 (H3 hb))
  refine Hi (hK6 (Js fun hK30=>Jr fun hK31=>(JLm (I64 0) O (G7 (hK31 (Gp ?_))))))
  obtain⟨hx41,h⟩:=Hp h
  obtain⟨b41,kx41,hb41,hkx41,h⟩:=G8a h
  refine Hc (fun i41 (s41:(List H9))=>upto b41 kx41 ((12:Int).toNat - i41) i41 s41=some r) (fun i41 s41=>[(0,E6 l),(3,OW 1049 2 H9.av s41),(6,Ei i41)]) (fun i41 s41=>[(1049,.spare 66 2 s41.length s41.length)]) (fun i41=>(12:Int).toNat - i41) 0 s23 h ⟨(.sm O O),⟨⟨_,O,.same⟩,G⟩,O⟩ ?_
  clear h
  intro i41 s41 hi41 K41 e41
  refine Js fun hK42=>Jr fun hK43=>(JLm (Ei i41) O (JLh (BL (decide ((i41:Int) < 12))) (Hy O O O) O (G7 (hK43 (Gj O (fun hb=>?_) (fun hb=>?_))))))
  ·
   have hk41:=G5d hb
   obtain⟨nx41,hn41,h⟩:=G58 hi41 hk41
   replace h:=J02 hb41 h
   refine Gm (hK42 (Js fun hK44=>Gp (G2 (JLm (OW 1049 2 H9.av s41) O (JLm (Ei i41) O ?_)))))
   obtain⟨r45,hr45,h⟩:=Gd h
   refine JLh (.agg [I64 r45.Bay,LT 1 I64 (r45.Rows,([]:List Int))]) (H5.cv (Cv.aggL (cs:=[I64 r45.Bay,E1 r45.Rows]) ⟨.same,Cv.of0 r45.Rows,G⟩) (Gi O (G9f 1 (i41:Int) r45 hr45) Q0e ⟨O,O,O,O,G⟩)) O (JLh (LS 2 H9.av ([(H9.mk r45.Bay (r45.Rows,([]:List Int)))])) (Ha (xs:=[.agg [I64 r45.Bay,LT 1 I64 (r45.Rows,([]:List Int))]]) O ⟨O,O,G⟩ Hq G75 O O O O) O ?_)
   obtain⟨ha46,h⟩:=Hp h
   refine JLh (OW 1049 2 H9.av (s41++[(H9.mk r45.Bay (r45.Rows,([]:List Int)))])) (Q8 (f:=H9.av) (xs:=s41) (ys:=[(H9.mk r45.Bay (r45.Rows,([]:List Int)))]) O O O O Hq J40 ha46 (fun _=>O) (.inl O) O) O (JLm (OW 1049 2 H9.av (s41++[(H9.mk r45.Bay (r45.Rows,([]:List Int)))])) O (G7 (hK44 (G2 (JLm (Ei i41) O (JLh (I64 ((i41+1:Nat):Int)) (Ht (Hb hk41 (G36 hx41)) O O O) O (JLm (I64 ((i41+1:Nat):Int)) O (G7 (e41 _ _ (i41+1) (s41++[(H9.mk r45.Bay (r45.Rows,([]:List Int)))]) (app1 hn41 h) (by omega) ⟨(.sm O O),⟨⟨_,rfl,.same⟩,G⟩,rfl⟩)))))))))
  ·
   have h:=app1 hkx41 (G59 hi41 (Yi hb))
   refine Hi (hK30 (Jr fun hK47=>(JLm (OW 1049 2 H9.av s41) O (JLm (E6 l) O (JLl Hq O O O fun hm37=>?_)))))
   obtain⟨m48,hm48,h⟩:=Gd h
   refine JLh (LT 2 H9.av (s41.take m48,s41.drop m48)) (Jdf (f:=H9.av) (xs:=s41) O O O Hq (Zv hm48)) O (JLm (LT 2 H9.av (s41.take m48,s41.drop m48)) O (G7 (hK47 (Gq (fin1 (fun r:(Ln H9)=>(LT 2 H9.av r:AV)) h)))))

def Y1 (k:Int) (i:Int):Option Row:=
 bnd (Jw k i) fun r3=>
 some (Row.mk 0 r3 0 0 0)
theorem Gc5 (k:Int) (i:Int) (r:Row) (h:Y1 k i=some r):Pure Ej 58 [I64 k,I64 i] (·=.agg (Row.cs r)):=by
 unfold Y1 at h
 refine Gy [.cell 4 108] Tryz.func58 O O (Jr fun hK1=>(JLh (.ptr 1104 0) (G34 1104 [I64 0,I64 0,I64 0,I64 0,I64 0] [E0,E0,E0,E0,E0] Jb4 ⟨.inl O,.inl O,.inl O,.inl O,.inl O,G⟩ O O) O (G7 (hK1 (Jr fun hK2=>(JLm (I64 k) O (JLm (I64 i) O ?_)))))))
 obtain⟨r3,hr3,h⟩:=Gd h
 refine JLh (I64 r3) (Gi O (Qu k i r3 hr3) G7a ⟨O,O,O,O,G⟩) O (JLh (.agg [I64 0,I64 r3,I64 0,I64 0,I64 0]) (Jk (cs:=[I64 0,I64 r3,I64 0,I64 0,I64 0]) [(0,1),(1,1),(2,1),(3,1),(4,1)] [I64 0,I64 0,I64 0,I64 0,I64 0] [E0,E0,E0,E0,E0] Q77 Jb4 ⟨.inl O,.inl O,.inl O,.inl O,.inl O,G⟩ O O) O (Je (u:=.junk) (J5 (u:=.agg [I64 0,I64 r3,I64 0,I64 0,I64 0]) (ds:=[I64 0,I64 r3,I64 0,I64 0,I64 0]) Qeb O O O O O O O O) (G7 (hK2 (Gq (⟨[.agg [I64 0,I64 r3,I64 0,I64 0,I64 0]],[],G,O,⟨⟨_,⟨_,_,_,_,O,O,O,.inl ⟨H07,O⟩⟩,.conv (.same O)⟩,G⟩,O,congrArg (fun r:Row=>(.agg (Row.cs r):AV)) (Kj h)⟩))))))

def G02 (l:List Row):Option (Ln Row):=
 chk ((l.length:Int)+12) fun v3=>
 bnd (Gd7 v3) fun m4=>
 need (decide (40*m4≤281474976710656∧m4≤maxLen)) <|
 need (decide ((([]:List Row).length+l.length)*40≤140737488355328∧([]:List Row).length+l.length≤maxLen)) <|
 need (decide (12≤9223372036854775807)) <|
 upto (fun i19 (s19:(List Row)) nx19=>
  bnd (Y1 1 (i19:Int)) fun r23=>
  need (decide ((s19.length+[r23].length)*40≤140737488355328∧s19.length+[r23].length≤maxLen)) <|
  nx19 (s19++[r23]))
 (fun(s19:(List Row))=>
  bnd (G70 (l.length:Int) s19.length) fun m26=>
  some (s19.take m26,s19.drop m26)) (12:Int).toNat 0 (([]:List Row)++l)
theorem H7e (l:List Row) (r:(Ln Row)) (h:G02 l=some r):Pure Ej 27 [E8 l] (·=LT 5 Row.av r):=by
 unfold G02 at h
 refine Gy [.tmp 2] Tryz.func27 O O (Jr fun hK1=>(JLh (E8 ([]:List Row)) (H2 5 O O) O (G7 (hK1 (Jr fun hK2=>(JLm (E8 l) O (JLl Qh O O O fun hm6=>?_)))))))
 obtain⟨v3,hv3,h⟩:=Qk h
 refine JLh (I64 v3) (Ht hv3 O O O) O ?_
 obtain⟨m4,hm4,h⟩:=Gd h
 obtain⟨ha5,h⟩:=Hp h
 refine JLh (OW 1050 5 Row.av ([]:List Row)) (Ge5 1050 O O O O Qh Hea O (G56 hm4) ha5) O (JLm (OW 1050 5 Row.av ([]:List Row)) O (G7 (hK2 (Jr fun hK6=>(JLm (OW 1050 5 Row.av ([]:List Row)) O (JLm (E8 l) O ?_))))))
 obtain⟨ha7,h⟩:=Hp h
 refine JLh (OW 1050 5 Row.av (([]:List Row)++l)) (H12 (f:=Row.av) (xs:=([]:List Row)) (ys:=l) O O O O Qh Hea ha7 (fun _=>O) (.inl O)) O (JLm (OW 1050 5 Row.av (([]:List Row)++l)) O (G7 (hK6 (Js fun hK8=>Jr fun hK9=>(JLm (I64 0) O (G7 (hK9 (Gp ?_))))))))
 obtain⟨hx19,h⟩:=Hp h
 obtain⟨b19,kx19,hb19,hkx19,h⟩:=G8a h
 refine Hc (fun i19 (s19:(List Row))=>upto b19 kx19 ((12:Int).toNat - i19) i19 s19=some r) (fun i19 s19=>[(0,E8 l),(3,OW 1050 5 Row.av s19),(4,Ei i19)]) (fun i19 s19=>[(1050,.spare 108 5 s19.length s19.length)]) (fun i19=>(12:Int).toNat - i19) 0 (([]:List Row)++l) h ⟨(.sm O O),⟨⟨_,O,.same⟩,G⟩,O⟩ ?_
 clear h
 intro i19 s19 hi19 K19 e19
 refine Js fun hK20=>Jr fun hK21=>(JLm (Ei i19) O (JLh (BL (decide ((i19:Int) < 12))) (Hy O O O) O (G7 (hK21 (Gj O (fun hb=>?_) (fun hb=>?_))))))
 ·
  have hk19:=G5d hb
  obtain⟨nx19,hn19,h⟩:=G58 hi19 hk19
  replace h:=J02 hb19 h
  refine Gm (hK20 (Js fun hK22=>Gp (G2 (JLm (OW 1050 5 Row.av s19) O (JLm (Ei i19) O ?_)))))
  obtain⟨r23,hr23,h⟩:=Gd h
  refine JLh (.agg (Row.cs r23)) (Gi O (Gc5 1 (i19:Int) r23 hr23) Q0d ⟨O,O,O,O,G⟩) O (JLh (E8 [r23]) (Ha (xs:=[.agg (Row.cs r23)]) O ⟨O,O,G⟩ Qh Qbd O O O O) O ?_)
  obtain⟨ha24,h⟩:=Hp h
  refine JLh (OW 1050 5 Row.av (s19++[r23])) (Q8 (f:=Row.av) (xs:=s19) (ys:=[r23]) O O O O Qh Hea ha24 (fun _=>O) (.inl O) O) O (JLm (OW 1050 5 Row.av (s19++[r23])) O (G7 (hK22 (G2 (JLm (Ei i19) O (JLh (I64 ((i19+1:Nat):Int)) (Ht (Hb hk19 (G36 hx19)) O O O) O (JLm (I64 ((i19+1:Nat):Int)) O (G7 (e19 _ _ (i19+1) (s19++[r23]) (app1 hn19 h) (by omega) ⟨(.sm O O),⟨⟨_,rfl,.same⟩,G⟩,rfl⟩)))))))))
 ·
  have h:=app1 hkx19 (G59 hi19 (Yi hb))
  refine Hi (hK8 (Jr fun hK25=>(JLm (OW 1050 5 Row.av s19) O (JLm (E8 l) O (JLl Qh O O O fun hm23=>?_)))))
  obtain⟨m26,hm26,h⟩:=Gd h
  refine JLh (LT 5 Row.av (s19.take m26,s19.drop m26)) (Jdf (f:=Row.av) (xs:=s19) O O O Qh (Zv hm26)) O (JLm (LT 5 Row.av (s19.take m26,s19.drop m26)) O (G7 (hK25 (Gq (fin1 (fun r:(Ln Row)=>(LT 5 Row.av r:AV)) h)))))

def R4 (k:Int) (i:Int):Option Frame:=
 bnd (Jw k i) fun r3=>
 some (Frame.mk r3 0 0 0 0)
theorem G9e (k:Int) (i:Int) (r:Frame) (h:R4 k i=some r):Pure Ej 59 [I64 k,I64 i] (·=.agg (Frame.cs r)):=by
 unfold R4 at h
 refine Gy [.cell 4 111] Tryz.func59 O O (Jr fun hK1=>(JLh (.ptr 1105 0) (G34 1105 [I64 0,I64 0,I64 0,I64 0,I64 0] [E0,E0,E0,E0,E0] Jb3 ⟨.inl O,.inl O,.inl O,.inl O,.inl O,G⟩ O O) O (G7 (hK1 (Jr fun hK2=>(JLm (I64 k) O (JLm (I64 i) O ?_)))))))
 obtain⟨r3,hr3,h⟩:=Gd h
 refine JLh (I64 r3) (Gi O (Qu k i r3 hr3) G7a ⟨O,O,O,O,G⟩) O (JLh (.agg [I64 r3,I64 0,I64 0,I64 0,I64 0]) (Jk (cs:=[I64 r3,I64 0,I64 0,I64 0,I64 0]) [(0,1),(1,1),(2,1),(3,1),(4,1)] [I64 0,I64 0,I64 0,I64 0,I64 0] [E0,E0,E0,E0,E0] Q76 Jb3 ⟨.inl O,.inl O,.inl O,.inl O,.inl O,G⟩ O O) O (Je (u:=.junk) (J5 (u:=.agg [I64 r3,I64 0,I64 0,I64 0,I64 0]) (ds:=[I64 r3,I64 0,I64 0,I64 0,I64 0]) Qea O O O O O O O O) (G7 (hK2 (Gq (⟨[.agg [I64 r3,I64 0,I64 0,I64 0,I64 0]],[],G,O,⟨⟨_,⟨_,_,_,_,O,O,O,.inl ⟨H06,O⟩⟩,.conv (.same O)⟩,G⟩,O,congrArg (fun r:Frame=>(.agg (Frame.cs r):AV)) (Kj h)⟩))))))

def Z6 (l:List Frame):Option (Ln Frame):=
 chk ((l.length:Int)+12) fun v3=>
 bnd (Gd7 v3) fun m4=>
 need (decide (40*m4≤281474976710656∧m4≤maxLen)) <|
 need (decide ((([]:List Frame).length+l.length)*40≤140737488355328∧([]:List Frame).length+l.length≤maxLen)) <|
 need (decide (12≤9223372036854775807)) <|
 upto (fun i19 (s19:(List Frame)) nx19=>
  bnd (R4 1 (i19:Int)) fun r23=>
  need (decide ((s19.length+[r23].length)*40≤140737488355328∧s19.length+[r23].length≤maxLen)) <|
  nx19 (s19++[r23]))
 (fun(s19:(List Frame))=>
  bnd (G70 (l.length:Int) s19.length) fun m26=>
  some (s19.take m26,s19.drop m26)) (12:Int).toNat 0 (([]:List Frame)++l)
theorem H40 (l:List Frame) (r:(Ln Frame)) (h:Z6 l=some r):Pure Ej 28 [E7 l] (·=LT 5 Frame.av r):=by
 unfold Z6 at h
 refine Gy [.tmp 2] Tryz.func28 O O (Jr fun hK1=>(JLh (E7 ([]:List Frame)) (H2 5 O O) O (G7 (hK1 (Jr fun hK2=>(JLm (E7 l) O (JLl Qg O O O fun hm6=>?_)))))))
 obtain⟨v3,hv3,h⟩:=Qk h
 refine JLh (I64 v3) (Ht hv3 O O O) O ?_
 obtain⟨m4,hm4,h⟩:=Gd h
 obtain⟨ha5,h⟩:=Hp h
 refine JLh (OW 1051 5 Frame.av ([]:List Frame)) (Ge5 1051 O O O O Qg He9 O (G56 hm4) ha5) O (JLm (OW 1051 5 Frame.av ([]:List Frame)) O (G7 (hK2 (Jr fun hK6=>(JLm (OW 1051 5 Frame.av ([]:List Frame)) O (JLm (E7 l) O ?_))))))
 obtain⟨ha7,h⟩:=Hp h
 refine JLh (OW 1051 5 Frame.av (([]:List Frame)++l)) (H12 (f:=Frame.av) (xs:=([]:List Frame)) (ys:=l) O O O O Qg He9 ha7 (fun _=>O) (.inl O)) O (JLm (OW 1051 5 Frame.av (([]:List Frame)++l)) O (G7 (hK6 (Js fun hK8=>Jr fun hK9=>(JLm (I64 0) O (G7 (hK9 (Gp ?_))))))))
 obtain⟨hx19,h⟩:=Hp h
 obtain⟨b19,kx19,hb19,hkx19,h⟩:=G8a h
 refine Hc (fun i19 (s19:(List Frame))=>upto b19 kx19 ((12:Int).toNat - i19) i19 s19=some r) (fun i19 s19=>[(0,E7 l),(3,OW 1051 5 Frame.av s19),(4,Ei i19)]) (fun i19 s19=>[(1051,.spare 111 5 s19.length s19.length)]) (fun i19=>(12:Int).toNat - i19) 0 (([]:List Frame)++l) h ⟨(.sm O O),⟨⟨_,O,.same⟩,G⟩,O⟩ ?_
 clear h
 intro i19 s19 hi19 K19 e19
 refine Js fun hK20=>Jr fun hK21=>(JLm (Ei i19) O (JLh (BL (decide ((i19:Int) < 12))) (Hy O O O) O (G7 (hK21 (Gj O (fun hb=>?_) (fun hb=>?_))))))
 ·
  have hk19:=G5d hb
  obtain⟨nx19,hn19,h⟩:=G58 hi19 hk19
  replace h:=J02 hb19 h
  refine Gm (hK20 (Js fun hK22=>Gp (G2 (JLm (OW 1051 5 Frame.av s19) O (JLm (Ei i19) O ?_)))))
  obtain⟨r23,hr23,h⟩:=Gd h
  refine JLh (.agg (Frame.cs r23)) (Gi O (G9e 1 (i19:Int) r23 hr23) Q0c ⟨O,O,O,O,G⟩) O (JLh (E7 [r23]) (Ha (xs:=[.agg (Frame.cs r23)]) O ⟨O,O,G⟩ Qg Qbc O O O O) O ?_)
  obtain⟨ha24,h⟩:=Hp h
  refine JLh (OW 1051 5 Frame.av (s19++[r23])) (Q8 (f:=Frame.av) (xs:=s19) (ys:=[r23]) O O O O Qg He9 ha24 (fun _=>O) (.inl O) O) O (JLm (OW 1051 5 Frame.av (s19++[r23])) O (G7 (hK22 (G2 (JLm (Ei i19) O (JLh (I64 ((i19+1:Nat):Int)) (Ht (Hb hk19 (G36 hx19)) O O O) O (JLm (I64 ((i19+1:Nat):Int)) O (G7 (e19 _ _ (i19+1) (s19++[r23]) (app1 hn19 h) (by omega) ⟨(.sm O O),⟨⟨_,rfl,.same⟩,G⟩,rfl⟩)))))))))
 ·
  have h:=app1 hkx19 (G59 hi19 (Yi hb))
  refine Hi (hK8 (Jr fun hK25=>(JLm (OW 1051 5 Frame.av s19) O (JLm (E7 l) O (JLl Qg O O O fun hm23=>?_)))))
  obtain⟨m26,hm26,h⟩:=Gd h
  refine JLh (LT 5 Frame.av (s19.take m26,s19.drop m26)) (Jdf (f:=Frame.av) (xs:=s19) O O O Qg (Zv hm26)) O (JLm (LT 5 Frame.av (s19.take m26,s19.drop m26)) O (G7 (hK25 (Gq (fin1 (fun r:(Ln Frame)=>(LT 5 Frame.av r:AV)) h)))))

def G01 (x:Gf):Option Hm:=
 bnd (Rh x.Steps) fun r3=>
 some (Hm.mk x.Kilos x.X x.Y x.Z x.Surface r3)
theorem H7d (x:Gf) (r:Hm) (h:G01 x=some r):Pure Ej 60 [.agg (Gf.cs x)] (·=.agg (Hm.cs r)):=by
 unfold G01 at h
 refine Gy [.cell 2 114] Tryz.func60 O O (Jr fun hK1=>(JLh (.ptr 1106 0) (J7 (cs:=[I64 x.Kilos,I64 x.X,I64 x.Y,I64 x.Z,I64 x.Surface,E1 x.Steps]) 1106 O O O O O) O (JLh (.ptr 1107 0) (G34 1107 [I64 0,I64 0,I64 0,I64 0,I64 0,E1 ([]:List Int)] [E0,E0,E0,E0,E0,.slice none 0 0] Hdf ⟨.inl O,.inl O,.inl O,.inl O,.inl O,.inr ⟨_,O,O⟩,G⟩ O O) O (G7 (hK1 (Jr fun hK2=>(JLh (.ptr 1106 5) (G14 G6f O O) O (JLh (E1 x.Steps) (G04 J1 O O O O) O ?_))))))))
 obtain⟨r3,hr3,h⟩:=Gd h
 refine JLh (LT 1 I64 r3) (Gi O (G54 x.Steps r3 hr3) Hee ⟨O,O,G⟩) O (JLh (.ptr 1106 5) (G14 G6f O O) O (Je (u:=.junk) (J5 (u:=LT 1 I64 r3) (ds:=[I64 x.Kilos,I64 x.X,I64 x.Y,I64 x.Z,I64 x.Surface,LT 1 I64 r3]) J3b O O O O O O O O) (G7 (hK2 (Gr [(1,.dptr [I64 x.Kilos,I64 x.X,I64 x.Y,I64 x.Z,I64 x.Surface,LT 1 I64 r3]),(2,.ptr 1107 0)] [(1107,.box 114 [I64 0,I64 0,I64 0,I64 0,I64 0,E1 ([]:List Int)])] 1106 rfl rfl rfl ⟨⟨_,rfl,.boxEq rfl rfl⟩,G⟩ rfl (by exact⟨.ptr,.conv (.same rfl),G⟩) ?_)))))
 refine Jr fun hK4=>(JLh (.agg [I64 x.Kilos,I64 x.X,I64 x.Y,I64 x.Z,I64 x.Surface,LT 1 I64 r3]) (Gg G3b O O O) O (Je (u:=.junk) (J5 (u:=.agg [I64 x.Kilos,I64 x.X,I64 x.Y,I64 x.Z,I64 x.Surface,LT 1 I64 r3]) (ds:=[I64 x.Kilos,I64 x.X,I64 x.Y,I64 x.Z,I64 x.Surface,LT 1 I64 r3]) He0 O O O O O O O O) (G7 (hK4 (Gq (⟨[.agg [I64 x.Kilos,I64 x.X,I64 x.Y,I64 x.Z,I64 x.Surface,LT 1 I64 r3]],[],G,O,⟨⟨_,⟨_,_,_,_,O,O,O,.inl ⟨G3b,O⟩⟩,.conv (.same O)⟩,G⟩,O,congrArg (fun r:Hm=>(.agg (Hm.cs r):AV)) (Kj h)⟩))))))

def Rf (k:Int) (i:Int):Option Gf:=
 bnd (Jw k i) fun r3=>
 some (Gf.mk r3 0 0 0 0 [])
theorem Gb9 (k:Int) (i:Int) (r:Gf) (h:Rf k i=some r):Pure Ej 61 [I64 k,I64 i] (·=.agg (Gf.cs r)):=by
 unfold Rf at h
 refine Gy [.cell 4 114] Tryz.func61 O O (Jr fun hK1=>(JLh (.ptr 1108 0) (G34 1108 [I64 0,I64 0,I64 0,I64 0,I64 0,E1 ([]:List Int)] [E0,E0,E0,E0,E0,.slice none 0 0] Hdf ⟨.inl O,.inl O,.inl O,.inl O,.inl O,.inr ⟨_,O,O⟩,G⟩ O O) O (G7 (hK1 (Jr fun hK2=>(JLm (I64 k) O (JLm (I64 i) O ?_)))))))
 obtain⟨r3,hr3,h⟩:=Gd h
 refine JLh (I64 r3) (Gi O (Qu k i r3 hr3) G7a ⟨O,O,O,O,G⟩) O (JLh (.agg [I64 r3,I64 0,I64 0,I64 0,I64 0,E1 ([]:List Int)]) (Jk (cs:=[I64 r3,I64 0,I64 0,I64 0,I64 0,E1 ([]:List Int)]) [(0,1),(1,1),(2,1),(3,1),(4,1),(5,1)] [I64 0,I64 0,I64 0,I64 0,I64 0,E1 ([]:List Int)] [E0,E0,E0,E0,E0,.slice none 0 0] Q75 Hdf ⟨.inl O,.inl O,.inl O,.inl O,.inl O,.inr ⟨_,O,O⟩,G⟩ O O) O (Je (u:=.junk) (J5 (u:=.agg [I64 r3,I64 0,I64 0,I64 0,I64 0,E1 ([]:List Int)]) (ds:=[I64 r3,I64 0,I64 0,I64 0,I64 0,E1 ([]:List Int)]) He0 O O O O O O O O) (G7 (hK2 (Gq ?_)))))
 exact⟨[.agg [I64 r3,I64 0,I64 0,I64 0,I64 0,E1 ([]:List Int)]],[],G,O,⟨⟨_,⟨_,_,_,_,O,O,O,.inl ⟨G3b,O⟩⟩,.conv (.same O)⟩,G⟩,O,congrArg (fun r:Gf=>(.agg (Gf.cs r):AV)) (Kj h)⟩

def Zp (l:List Gf):Option (Ln Hm):=
 chk ((l.length:Int)+12) fun v3=>
 bnd (Gd7 v3) fun m4=>
 need (decide (64*m4≤281474976710656∧m4≤maxLen)) <|
 each (fun y23 i23 (s23:(List Hm)) nx23=>
  bnd (G01 y23) fun r28=>
  need (decide ((s23.length+[r28].length)*64≤140737488355328∧s23.length+[r28].length≤maxLen)) <|
  nx23 (s23++[r28]))
 (fun(s23:(List Hm))=>
  need (decide (12≤9223372036854775807)) <|
  upto (fun i41 (s41:(List Hm)) nx41=>
   bnd (Rf 1 (i41:Int)) fun r45=>
   need (decide ((s41.length+[(Hm.mk r45.Kilos r45.X r45.Y r45.Z r45.Surface (r45.Steps,([]:List Int)))].length)*64≤140737488355328∧s41.length+[(Hm.mk r45.Kilos r45.X r45.Y r45.Z r45.Surface (r45.Steps,([]:List Int)))].length≤maxLen)) <|
   nx41 (s41++[(Hm.mk r45.Kilos r45.X r45.Y r45.Z r45.Surface (r45.Steps,([]:List Int)))]))
  (fun(s41:(List Hm))=>
   bnd (G70 (l.length:Int) s41.length) fun m48=>
   some (s41.take m48,s41.drop m48)) (12:Int).toNat 0 s23) l 0 []
theorem H6e (l:List Gf) (r:(Ln Hm)) (h:Zp l=some r):Pure Ej 29 [E9 l] (·=LT 6 Hm.av r):=by
 unfold Zp at h
 refine Gy [.tmp 2] Tryz.func29 O O (Jr fun hK1=>(JLh (E9 ([]:List Gf)) (H2 6 O O) O (G7 (hK1 (Jr fun hK2=>(JLm (E9 l) O (JLl Q2 O O O fun hm8=>?_)))))))
 obtain⟨v3,hv3,h⟩:=Qk h
 refine JLh (I64 v3) (Ht hv3 O O O) O ?_
 obtain⟨m4,hm4,h⟩:=Gd h
 obtain⟨ha5,h⟩:=Hp h
 refine JLh (OW 1053 6 Hm.av ([]:List Hm)) (Ge5 1053 O O O O Q2 He8 O (G56 hm4) ha5) O (JLm (OW 1053 6 Hm.av ([]:List Hm)) O (G7 (hK2 (Js fun hK6=>Jr fun hK7=>(JLm (I64 0) O (G7 (hK7 (Gp ?_))))))))
 obtain⟨b23,kx23,hb23,hkx23,h⟩:=Hv h
 refine Hc (fun i23 (s23:(List Hm))=>each b23 kx23 (List.drop i23 l) i23 s23=some r) (fun i23 s23=>[(0,E9 l),(3,OW 1053 6 Hm.av s23),(4,Ei i23)]) (fun i23 s23=>[(1053,.spare 114 6 s23.length s23.length)]) (fun i23=>l.length - i23) 0 [] h ⟨(.sm O O),⟨⟨_,O,.same⟩,G⟩,O⟩ ?_
 clear h
 intro i23 s23 hi23 K23 e23
 refine Js fun hK24=>Jr fun hK25=>(JLm (Ei i23) O (JLm (E9 l) O (JLl Q2 O O O fun hm13=>(JLh (BL (decide ((i23:Int) < (l.length:Int)))) (Hy O O O) O (G7 (hK25 (Gj O (fun hb=>?_) (fun hb=>?_))))))))
 ·
  have hk23:=J8 hb
  obtain⟨y23,nx23,hy23,hn23,h⟩:=Hj hi23 hk23
  replace h:=R8 hb23 h
  refine Gm (hK24 (Js fun hK26=>Gp (Jr fun hK27=>(JLm (E9 l) O (JLm (Ei i23) O (JLh (Eh y23) (Gv (f:=Gf.av) (xs:=l) (y:=y23) O O O Q2 hy23 O) O (JLh (.agg (Gf.cs y23)) (Gg G3b O O O) O ?_)))))))
  obtain⟨r28,hr28,h⟩:=Gd h
  refine JLh (.agg (Hm.cs r28)) (Gi O (H7d y23 r28 hr28) R67 ⟨O,O,G⟩) O (JLh (.ptr 1052 0) (Jn 1052 6 Hb3 O O) O (Je (u:=.junk) (J5 (u:=.agg (Hm.cs r28)) (ds:=[I64 r28.Kilos,I64 r28.X,I64 r28.Y,I64 r28.Z,I64 r28.Surface,LT 1 I64 r28.Steps]) He0 O O O O O O O O) (G7 (hK27 (Gr [(0,E9 l),(3,OW 1053 6 Hm.av s23),(4,Ei i23),(5,.dptr (Hm.cs r28))] [(1053,.spare 114 6 s23.length s23.length)] 1052 rfl rfl rfl ⟨⟨_,rfl,.same⟩,G⟩ rfl (by repeat' (first | exact .ptr | constructor)) (G2 (JLm (OW 1053 6 Hm.av s23) O (JLh (.agg (Hm.cs r28)) (Gg G3b O O O) O (JLh (LS 6 Hm.av [r28]) (Ha (xs:=[.agg (Hm.cs r28)]) O ⟨O,O,G⟩ Q2 Hb3 O O O O) O ?_)))))))))
  obtain⟨ha29,h⟩:=Hp h
  refine JLh (OW 1053 6 Hm.av (s23++[r28])) (Q8 (f:=Hm.av) (xs:=s23) (ys:=[r28]) O O O O Q2 He8 ha29 (fun _=>O) (.inl O) O) O (JLm (OW 1053 6 Hm.av (s23++[r28])) O (G7 (hK26 (G2 (JLm (Ei i23) O (JLh (I64 ((i23+1:Nat):Int)) (Ht (Hb hk23 hm13) O O O) O (JLm (I64 ((i23+1:Nat):Int)) O (G7 (e23 _ _ (i23+1) (s23++[r28]) (app1 hn23 h) (by omega) ⟨(.sm O O),⟨⟨_,rfl,.same⟩,G⟩,rfl⟩)))))))))
 ·
  have h:=app1 hkx23 (Hk hi23 (H3 hb))
  refine Hi (hK6 (Js fun hK30=>Jr fun hK31=>(JLm (I64 0) O (G7 (hK31 (Gp ?_))))))
  obtain⟨hx41,h⟩:=Hp h
  obtain⟨b41,kx41,hb41,hkx41,h⟩:=G8a h
  refine Hc (fun i41 (s41:(List Hm))=>upto b41 kx41 ((12:Int).toNat - i41) i41 s41=some r) (fun i41 s41=>[(0,E9 l),(3,OW 1053 6 Hm.av s41),(6,Ei i41)]) (fun i41 s41=>[(1053,.spare 114 6 s41.length s41.length)]) (fun i41=>(12:Int).toNat - i41) 0 s23 h ⟨(.sm O O),⟨⟨_,O,.same⟩,G⟩,O⟩ ?_
  clear h
  intro i41 s41 hi41 K41 e41
  refine Js fun hK42=>Jr fun hK43=>(JLm (Ei i41) O (JLh (BL (decide ((i41:Int) < 12))) (Hy O O O) O (G7 (hK43 (Gj O (fun hb=>?_) (fun hb=>?_))))))
  ·
   have hk41:=G5d hb
   obtain⟨nx41,hn41,h⟩:=G58 hi41 hk41
   replace h:=J02 hb41 h
   refine Gm (hK42 (Js fun hK44=>Gp (G2 (JLm (OW 1053 6 Hm.av s41) O (JLm (Ei i41) O ?_)))))
   obtain⟨r45,hr45,h⟩:=Gd h
   refine JLh (.agg [I64 r45.Kilos,I64 r45.X,I64 r45.Y,I64 r45.Z,I64 r45.Surface,LT 1 I64 (r45.Steps,([]:List Int))]) (H5.cv (Cv.aggL (cs:=(Gf.cs r45)) ⟨.same,.same,.same,.same,.same,Cv.of0 r45.Steps,G⟩) (Gi O (Gb9 1 (i41:Int) r45 hr45) Q0b ⟨O,O,O,O,G⟩)) O (JLh (LS 6 Hm.av ([(Hm.mk r45.Kilos r45.X r45.Y r45.Z r45.Surface (r45.Steps,([]:List Int)))])) (Ha (xs:=[.agg [I64 r45.Kilos,I64 r45.X,I64 r45.Y,I64 r45.Z,I64 r45.Surface,LT 1 I64 (r45.Steps,([]:List Int))]]) O ⟨O,O,G⟩ Q2 Hb3 O O O O) O ?_)
   obtain⟨ha46,h⟩:=Hp h
   refine JLh (OW 1053 6 Hm.av (s41++[(Hm.mk r45.Kilos r45.X r45.Y r45.Z r45.Surface (r45.Steps,([]:List Int)))])) (Q8 (f:=Hm.av) (xs:=s41) (ys:=[(Hm.mk r45.Kilos r45.X r45.Y r45.Z r45.Surface (r45.Steps,([]:List Int)))]) O O O O Q2 He8 ha46 (fun _=>O) (.inl O) O) O (JLm (OW 1053 6 Hm.av (s41++[(Hm.mk r45.Kilos r45.X r45.Y r45.Z r45.Surface (r45.Steps,([]:List Int)))])) O (G7 (hK44 (G2 (JLm (Ei i41) O (JLh (I64 ((i41+1:Nat):Int)) (Ht (Hb hk41 (G36 hx41)) O O O) O (JLm (I64 ((i41+1:Nat):Int)) O (G7 (e41 _ _ (i41+1) (s41++[(Hm.mk r45.Kilos r45.X r45.Y r45.Z r45.Surface (r45.Steps,([]:List Int)))]) (app1 hn41 h) (by omega) ⟨(.sm O O),⟨⟨_,rfl,.same⟩,G⟩,rfl⟩)))))))))
  ·
   have h:=app1 hkx41 (G59 hi41 (Yi hb))
   refine Hi (hK30 (Jr fun hK47=>(JLm (OW 1053 6 Hm.av s41) O (JLm (E9 l) O (JLl Q2 O O O fun hm37=>?_)))))
   obtain⟨m48,hm48,h⟩:=Gd h
   refine JLh (LT 6 Hm.av (s41.take m48,s41.drop m48)) (Jdf (f:=Hm.av) (xs:=s41) O O O Q2 (Zv hm48)) O (JLm (LT 6 Hm.av (s41.take m48,s41.drop m48)) O (G7 (hK47 (Gq (fin1 (fun r:(Ln Hm)=>(LT 6 Hm.av r:AV)) h)))))

def Yo (x:H0):Option Rq:=
 bnd (Yw x.Columns) fun r3=>
 bnd (Z7 x.Covers) fun r5=>
 bnd (G02 x.Rows) fun r7=>
 bnd (Z6 x.Frames) fun r9=>
 bnd (Zp x.Tanks) fun r11=>
 some (Rq.mk r3 r5 x.Light r7 r9 r11 x.G1)
abbrev En:List AV:=[E5 ([]:List G3),E6 ([]:List G8),I64 0,I64 0,I64 0,I64 0,E8 ([]:List Row),E7 ([]:List Frame),E9 ([]:List Gf),I64 0,I64 0,I64 0,I64 0]
theorem Gba (x:H0) (r:Rq) (h:Yo x=some r):Pure Ej 7 [.agg (H0.cs x)] (·=.agg (Rq.cs r)):=by
 unfold Yo at h
 refine Gy [.cell 2 32] Tryz.func7 O O ?_
 refine Jr fun hK1=>(JLh (.ptr 1009 0) (J7 (cs:=(H0.cs x)) 1009 O O O O O) O (JLh (.ptr 1010 0) (G34 1010 En [.slice none 0 0,.slice none 0 0,E0,E0,E0,E0,.slice none 0 0,.slice none 0 0,.slice none 0 0,E0,E0,E0,E0] J39 ⟨.inr ⟨_,O,O⟩,.inr ⟨_,O,O⟩,.inl O,.inl O,.inl O,.inl O,.inr ⟨_,O,O⟩,.inr ⟨_,O,O⟩,.inr ⟨_,O,O⟩,.inl O,.inl O,.inl O,.inl O,G⟩ O O) O (G7 (hK1 ?_))))
 refine Jr fun hK2=>(JLh (.ptr 1009 0) (G14 Hh O O) O (JLh (E5 x.Columns) (G04 Ho O O O O) O ?_))
 obtain⟨r3,hr3,h⟩:=Gd h
 refine JLh (LT 12 Gz.av r3) (Gi O (H33 x.Columns r3 hr3) R77 ⟨O,O,G⟩) O (JLh (.ptr 1009 0) (G14 Hh O O) O (Je (u:=.junk) (J5 (u:=LT 12 Gz.av r3) (ds:=[LT 12 Gz.av r3,E6 x.Covers,I64 x.Light.Kilos,I64 x.Light.X,I64 x.Light.Y,I64 x.Light.Z,E8 x.Rows,E7 x.Frames,E9 x.Tanks,I64 x.G1.Tolerance,I64 x.G1.Trim,I64 x.G1.List_,I64 x.G1.Stability]) R56 O O O O O O O O) (G7 (hK2 (Jr fun hK4=>(JLh (.ptr 1009 1) (G14 Jg O O) O (JLh (E6 x.Covers) (G04 Jv O O O O) O ?_)))))))
 obtain⟨r5,hr5,h⟩:=Gd h
 refine JLh (LT 2 H9.av r5) (Gi O (H41 x.Covers r5 hr5) R76 ⟨O,O,G⟩) O (JLh (.ptr 1009 1) (G14 Jg O O) O (Je (u:=.junk) (J5 (u:=LT 2 H9.av r5) (ds:=[LT 12 Gz.av r3,LT 2 H9.av r5,I64 x.Light.Kilos,I64 x.Light.X,I64 x.Light.Y,I64 x.Light.Z,E8 x.Rows,E7 x.Frames,E9 x.Tanks,I64 x.G1.Tolerance,I64 x.G1.Trim,I64 x.G1.List_,I64 x.G1.Stability]) R55 O O O O O O O O) (G7 (hK4 (Jr fun hK6=>(JLh (.ptr 1009 6) (G14 G84 O O) O (JLh (E8 x.Rows) (G04 Gea O O O O) O ?_)))))))
 obtain⟨r7,hr7,h⟩:=Gd h
 refine JLh (LT 5 Row.av r7) (Gi O (H7e x.Rows r7 hr7) R75 ⟨O,O,G⟩) O (JLh (.ptr 1009 6) (G14 G84 O O) O (Je (u:=.junk) (J5 (u:=LT 5 Row.av r7) (ds:=[LT 12 Gz.av r3,LT 2 H9.av r5,I64 x.Light.Kilos,I64 x.Light.X,I64 x.Light.Y,I64 x.Light.Z,LT 5 Row.av r7,E7 x.Frames,E9 x.Tanks,I64 x.G1.Tolerance,I64 x.G1.Trim,I64 x.G1.List_,I64 x.G1.Stability]) R54 O O O O O O O O) (G7 (hK6 (Jr fun hK8=>(JLh (.ptr 1009 7) (G14 G83 O O) O (JLh (E7 x.Frames) (G04 Ge9 O O O O) O ?_)))))))
 obtain⟨r9,hr9,h⟩:=Gd h
 refine JLh (LT 5 Frame.av r9) (Gi O (H40 x.Frames r9 hr9) R74 ⟨O,O,G⟩) O (JLh (.ptr 1009 7) (G14 G83 O O) O (Je (u:=.junk) (J5 (u:=LT 5 Frame.av r9) (ds:=[LT 12 Gz.av r3,LT 2 H9.av r5,I64 x.Light.Kilos,I64 x.Light.X,I64 x.Light.Y,I64 x.Light.Z,LT 5 Row.av r7,LT 5 Frame.av r9,E9 x.Tanks,I64 x.G1.Tolerance,I64 x.G1.Trim,I64 x.G1.List_,I64 x.G1.Stability]) R53 O O O O O O O O) (G7 (hK8 (Jr fun hK10=>(JLh (.ptr 1009 8) (G14 G82 O O) O (JLh (E9 x.Tanks) (G04 Ge8 O O O O) O ?_)))))))
 obtain⟨r11,hr11,h⟩:=Gd h
 refine JLh (LT 6 Hm.av r11) (Gi O (H6e x.Tanks r11 hr11) R73 ⟨O,O,G⟩) O (JLh (.ptr 1009 8) (G14 G82 O O) O (Je (u:=.junk) (J5 (u:=LT 6 Hm.av r11) (ds:=[LT 12 Gz.av r3,LT 2 H9.av r5,I64 x.Light.Kilos,I64 x.Light.X,I64 x.Light.Y,I64 x.Light.Z,LT 5 Row.av r7,LT 5 Frame.av r9,LT 6 Hm.av r11,I64 x.G1.Tolerance,I64 x.G1.Trim,I64 x.G1.List_,I64 x.G1.Stability]) R52 O O O O O O O O) (G7 (hK10 ?_))))
 refine Gr [(1,.dptr [LT 12 Gz.av r3,LT 2 H9.av r5,I64 x.Light.Kilos,I64 x.Light.X,I64 x.Light.Y,I64 x.Light.Z,LT 5 Row.av r7,LT 5 Frame.av r9,LT 6 Hm.av r11,I64 x.G1.Tolerance,I64 x.G1.Trim,I64 x.G1.List_,I64 x.G1.Stability]),(2,.ptr 1010 0)] [(1010,.box 32 En)] 1009 rfl rfl rfl ⟨⟨_,rfl,.boxEq rfl rfl⟩,G⟩ rfl (by exact⟨.ptr,.conv (.same rfl),G⟩) ?_
 refine Jr fun hK12=>(JLh (.agg [LT 12 Gz.av r3,LT 2 H9.av r5,I64 x.Light.Kilos,I64 x.Light.X,I64 x.Light.Y,I64 x.Light.Z,LT 5 Row.av r7,LT 5 Frame.av r9,LT 6 Hm.av r11,I64 x.G1.Tolerance,I64 x.G1.Trim,I64 x.G1.List_,I64 x.G1.Stability]) (Gg H7 O O O) O (Je (u:=.junk) (J5 (u:=.agg [LT 12 Gz.av r3,LT 2 H9.av r5,I64 x.Light.Kilos,I64 x.Light.X,I64 x.Light.Y,I64 x.Light.Z,LT 5 Row.av r7,LT 5 Frame.av r9,LT 6 Hm.av r11,I64 x.G1.Tolerance,I64 x.G1.Trim,I64 x.G1.List_,I64 x.G1.Stability]) (ds:=[LT 12 Gz.av r3,LT 2 H9.av r5,I64 x.Light.Kilos,I64 x.Light.X,I64 x.Light.Y,I64 x.Light.Z,LT 5 Row.av r7,LT 5 Frame.av r9,LT 6 Hm.av r11,I64 x.G1.Tolerance,I64 x.G1.Trim,I64 x.G1.List_,I64 x.G1.Stability]) H51 O O O O O O O O) (G7 (hK12 ?_))))
 refine Gq (⟨[.agg [LT 12 Gz.av r3,LT 2 H9.av r5,I64 x.Light.Kilos,I64 x.Light.X,I64 x.Light.Y,I64 x.Light.Z,LT 5 Row.av r7,LT 5 Frame.av r9,LT 6 Hm.av r11,I64 x.G1.Tolerance,I64 x.G1.Trim,I64 x.G1.List_,I64 x.G1.Stability]],[],G,O,⟨⟨_,⟨_,_,_,_,O,O,O,.inl ⟨H7,O⟩⟩,.conv (.same O)⟩,G⟩,O,congrArg (fun r:Rq=>(.agg (Rq.cs r):AV)) (Kj h)⟩)

def J3 (a:List Int) (b:List Int):Option Bool:=
 bif decide ((a.length:Int)≠(b.length:Int)) then
 (some false)
 else
 (each (fun y24 i24 (s24:Unit) nx24=>
   Qm b (i24:Int) fun y29=>
   bif decide (y24≠y29) then
   (some false)
   else
   (nx24 ()))
  (fun(s24:Unit)=>
   some true) a 0 ())
theorem Jd (a:List Int) (b:List Int) (r:Bool) (h:J3 a b=some r):Pure Ej 16 [E1 a,E1 b] (·=BL r):=by
 unfold J3 at h
 refine Gy [.tmp 4] Tryz.func16 O O (Jr fun hK1=>(JLm (BL false) O (G7 (hK1 (Js fun hK2=>Jr fun hK3=>(JLm (E1 a) O (JLl Gn O O O fun hm7=>(JLm (E1 b) O (JLl Gn O O O fun hm9=>(JLh (BL (decide ((a.length:Int)≠(b.length:Int)))) (G1d O O O) O (G7 (hK3 (JCc O h (fun h hb=>?_) (fun h hb=>?_))))))))))))))
 ·
  refine Jr fun hK4=>(JLm (BL false) O (G7 (hK4 (Gq (fin1 BL h)))))
 ·
  refine Gm (hK2 (Js fun hK5=>Jr fun hK6=>(JLm (I64 0) O (G7 (hK6 (Gp ?_))))))
  obtain⟨b24,kx24,hb24,hkx24,h⟩:=Hv h
  refine Hc (fun i24 (s24:Unit)=>each b24 kx24 (List.drop i24 a) i24 s24=some r) (fun i24 s24=>[(0,E1 a),(1,E1 b),(5,Ei i24)]) (fun i24 s24=>[]) (fun i24=>a.length - i24) 0 () h ⟨(.sm O O),G,O⟩ ?_
  clear h
  intro i24 s24 hi24 K24 e24
  refine Js fun hK25=>Jr fun hK26=>(JLm (Ei i24) O (JLm (E1 a) O (JLl Gn O O O fun hm13=>(JLh (BL (decide ((i24:Int) < (a.length:Int)))) (Hy O O O) O (G7 (hK26 (Gj O (fun hb=>?_) (fun hb=>?_))))))))
  ·
   have hk24:=J8 hb
   obtain⟨y24,nx24,hy24,hn24,h⟩:=Hj hi24 hk24
   replace h:=R8 hb24 h
   refine Gm (hK25 (Js fun hK27=>Gp (Js fun hK28=>?_)))
   obtain⟨m30,y29,hm30,hy29,h⟩:=Rb h
   refine JC_d0 Jb (by kernel_rfl) (Dq (E1 a) (G4 O O) O (Dq (Ei i24) (G4 O O) O (Dq (.dptr [I64 y24]) (Gv (f:=I64) (xs:=a) (y:=y24) O O O Gn hy24 O) O (Dq (I64 y24) (Ge Gb O O O) O (Dq (E1 b) (G4 O O) O (Dq (Ei i24) (G4 O O) O (Dq (.dptr [I64 y29]) (Gv (f:=I64) (xs:=b) (y:=y29) O O O Gn hy29 hm30) O (Dq (I64 y29) (Ge Gb O O O) O (Dq (BL (decide (y24≠y29))) (G1d O O O) O (Dnil (hK28 (JCc O h (fun h hb=>?_) (fun h hb=>?_)))))))))))))
   ·
    refine Jr fun hK31=>(JLm (BL false) O (G7 (hK31 (Gq (fin1 BL h)))))
   ·
    refine Gm (hK27 (G2 (JLm (Ei i24) O (JLh (I64 ((i24+1:Nat):Int)) (Ht (Hb hk24 hm13) O O O) O (JLm (I64 ((i24+1:Nat):Int)) O (G7 (e24 _ _ (i24+1) () (app1 hn24 h) (by omega) ⟨(.sm O O),G,rfl⟩)))))))
  ·
   have h:=app1 hkx24 (Hk hi24 (H3 hb))
   refine Hi (hK5 (Jr fun hK32=>(JLm (BL true) O (G7 (hK32 (Gq (fin1 BL h)))))))

def Jy (a:G3) (b:G3):Option Bool:=
 bnd (bif ((((((((decide (a.Bay=b.Bay))&&(decide (a.Row=b.Row)))&&(a.Deck==b.Deck))&&(decide (a.Tiers=b.Tiers)))&&(decide (a.Height=b.Height)))&&(decide (a.Kilos20=b.Kilos20)))&&(decide (a.Kilos40=b.Kilos40)))&&(decide (a.Lash=b.Lash))) then J3 a.Plugs b.Plugs else some default) fun r3=>
 some ((((((((((((decide (a.Bay=b.Bay))&&(decide (a.Row=b.Row)))&&(a.Deck==b.Deck))&&(decide (a.Tiers=b.Tiers)))&&(decide (a.Height=b.Height)))&&(decide (a.Kilos20=b.Kilos20)))&&(decide (a.Kilos40=b.Kilos40)))&&(decide (a.Lash=b.Lash)))&&r3)&&(decide (a.X=b.X)))&&(decide (a.Y=b.Y)))&&(decide (a.Z=b.Z)))
theorem G44 (a:G3) (b:G3) (r:Bool) (h:Jy a b=some r):Pure Ej 97 [.agg (G3.cs a),.agg (G3.cs b)] (·=BL r):=by
 unfold Jy at h
 refine Gy [.tmp 4] Tryz.func97 O O (Jr fun hK1=>(JLh (.ptr 1149 0) (J7 (cs:=(G3.cs a)) 1149 O O O O O) O (JLh (.ptr 1150 0) (J7 (cs:=(G3.cs b)) 1150 O O O O O) O (JLm (BL false) O (G7 (hK1 (Gr [(2,Ed a),(3,.ptr 1150 0)] [(1150,.box 64 (G3.cs b))] 1149 rfl rfl rfl ⟨⟨_,rfl,.boxEq rfl rfl⟩,G⟩ rfl (by exact⟨.ptr,.conv (.same rfl),G⟩) ?_)))))))
 refine Gr [(2,Ed a),(3,Ed b)] [] 1150 rfl rfl rfl G rfl (by exact⟨.conv (.same rfl),.ptr,G⟩) ?_
 refine Jr fun hK2=>(JLh (Ed a) (Ga G26 O O O) O (JLh (I64 a.Bay) (Ge Gb O O O) O (JLh (Ed b) (Ga G26 O O O) O (JLh (I64 b.Bay) (Ge Gb O O O) O (JLh (BL (decide (a.Bay=b.Bay))) (Ju O O O) O (JLm (BL (decide (a.Bay=b.Bay))) O (JLo (.dptr ((G3.cs a).drop 1)) [] O .sct G (fun hc=>Ga G25 O O O) O (JLo (I64 a.Row) [11] O .sct ⟨Ua,G⟩ (fun hc=>Ge Gb O O O) O (JLo (.dptr ((G3.cs b).drop 1)) [] O .sct G (fun hc=>Ga G25 O O O) O (JLo (I64 b.Row) [13] O .sct ⟨Ua,G⟩ (fun hc=>Ge Gb O O O) O (JLo (BL (decide (a.Row=b.Row))) [12,14] O .sct ⟨Ua,Ua,G⟩ (fun hc=>Ju O O O) O (JLh (BL ((decide (a.Bay=b.Bay))&&(decide (a.Row=b.Row)))) (J4 O O O O) O (JLm (BL ((decide (a.Bay=b.Bay))&&(decide (a.Row=b.Row)))) O ?_)))))))))))))
 refine JLo (.dptr ((G3.cs a).drop 2)) [] O .sct G (fun hc=>Ga Ro O O O) O (JLo (BL a.Deck) [18] O .sct ⟨Ua,G⟩ (fun hc=>Ge Qv O O O) O (JLo (.dptr ((G3.cs b).drop 2)) [] O .sct G (fun hc=>Ga Ro O O O) O (JLo (BL b.Deck) [20] O .sct ⟨Ua,G⟩ (fun hc=>Ge Qv O O O) O (JLo (BL (a.Deck==b.Deck)) [19,21] O .sct ⟨Ua,Ua,G⟩ (fun hc=>J8d J12 O O O) O (JLh (BL (((decide (a.Bay=b.Bay))&&(decide (a.Row=b.Row)))&&(a.Deck==b.Deck))) (J4 O O O O) O (JLm (BL (((decide (a.Bay=b.Bay))&&(decide (a.Row=b.Row)))&&(a.Deck==b.Deck))) O (JLo (.dptr ((G3.cs a).drop 3)) [] O .sct G (fun hc=>Ga Zn O O O) O (JLo (I64 a.Tiers) [25] O .sct ⟨Ua,G⟩ (fun hc=>Ge Gb O O O) O (JLo (.dptr ((G3.cs b).drop 3)) [] O .sct G (fun hc=>Ga Zn O O O) O (JLo (I64 b.Tiers) [27] O .sct ⟨Ua,G⟩ (fun hc=>Ge Gb O O O) O (JLo (BL (decide (a.Tiers=b.Tiers))) [26,28] O .sct ⟨Ua,Ua,G⟩ (fun hc=>Ju O O O) O (JLh (BL ((((decide (a.Bay=b.Bay))&&(decide (a.Row=b.Row)))&&(a.Deck==b.Deck))&&(decide (a.Tiers=b.Tiers)))) (J4 O O O O) O (JLm (BL ((((decide (a.Bay=b.Bay))&&(decide (a.Row=b.Row)))&&(a.Deck==b.Deck))&&(decide (a.Tiers=b.Tiers)))) O ?_)))))))))))))
 refine JLo (.dptr ((G3.cs a).drop 4)) [] O .sct G (fun hc=>Ga G45 O O O) O (JLo (I64 a.Height) [32] O .sct ⟨Ua,G⟩ (fun hc=>Ge Gb O O O) O (JLo (.dptr ((G3.cs b).drop 4)) [] O .sct G (fun hc=>Ga G45 O O O) O (JLo (I64 b.Height) [34] O .sct ⟨Ua,G⟩ (fun hc=>Ge Gb O O O) O (JLo (BL (decide (a.Height=b.Height))) [33,35] O .sct ⟨Ua,Ua,G⟩ (fun hc=>Ju O O O) O (JLh (BL (((((decide (a.Bay=b.Bay))&&(decide (a.Row=b.Row)))&&(a.Deck==b.Deck))&&(decide (a.Tiers=b.Tiers)))&&(decide (a.Height=b.Height)))) (J4 O O O O) O (JLm (BL (((((decide (a.Bay=b.Bay))&&(decide (a.Row=b.Row)))&&(a.Deck==b.Deck))&&(decide (a.Tiers=b.Tiers)))&&(decide (a.Height=b.Height)))) O (JLo (.dptr ((G3.cs a).drop 5)) [] O .sct G (fun hc=>Ga H18 O O O) O (JLo (I64 a.Kilos20) [39] O .sct ⟨Ua,G⟩ (fun hc=>Ge Gb O O O) O (JLo (.dptr ((G3.cs b).drop 5)) [] O .sct G (fun hc=>Ga H18 O O O) O (JLo (I64 b.Kilos20) [41] O .sct ⟨Ua,G⟩ (fun hc=>Ge Gb O O O) O (JLo (BL (decide (a.Kilos20=b.Kilos20))) [40,42] O .sct ⟨Ua,Ua,G⟩ (fun hc=>Ju O O O) O (JLh (BL ((((((decide (a.Bay=b.Bay))&&(decide (a.Row=b.Row)))&&(a.Deck==b.Deck))&&(decide (a.Tiers=b.Tiers)))&&(decide (a.Height=b.Height)))&&(decide (a.Kilos20=b.Kilos20)))) (J4 O O O O) O (JLm (BL ((((((decide (a.Bay=b.Bay))&&(decide (a.Row=b.Row)))&&(a.Deck==b.Deck))&&(decide (a.Tiers=b.Tiers)))&&(decide (a.Height=b.Height)))&&(decide (a.Kilos20=b.Kilos20)))) O ?_)))))))))))))
 refine JLo (.dptr ((G3.cs a).drop 6)) [] O .sct G (fun hc=>Ga H17 O O O) O (JLo (I64 a.Kilos40) [46] O .sct ⟨Ua,G⟩ (fun hc=>Ge Gb O O O) O (JLo (.dptr ((G3.cs b).drop 6)) [] O .sct G (fun hc=>Ga H17 O O O) O (JLo (I64 b.Kilos40) [48] O .sct ⟨Ua,G⟩ (fun hc=>Ge Gb O O O) O (JLo (BL (decide (a.Kilos40=b.Kilos40))) [47,49] O .sct ⟨Ua,Ua,G⟩ (fun hc=>Ju O O O) O (JLh (BL (((((((decide (a.Bay=b.Bay))&&(decide (a.Row=b.Row)))&&(a.Deck==b.Deck))&&(decide (a.Tiers=b.Tiers)))&&(decide (a.Height=b.Height)))&&(decide (a.Kilos20=b.Kilos20)))&&(decide (a.Kilos40=b.Kilos40)))) (J4 O O O O) O (JLm (BL (((((((decide (a.Bay=b.Bay))&&(decide (a.Row=b.Row)))&&(a.Deck==b.Deck))&&(decide (a.Tiers=b.Tiers)))&&(decide (a.Height=b.Height)))&&(decide (a.Kilos20=b.Kilos20)))&&(decide (a.Kilos40=b.Kilos40)))) O (JLo (.dptr ((G3.cs a).drop 7)) [] O .sct G (fun hc=>Ga H16 O O O) O (JLo (I64 a.Lash) [53] O .sct ⟨Ua,G⟩ (fun hc=>Ge Gb O O O) O (JLo (.dptr ((G3.cs b).drop 7)) [] O .sct G (fun hc=>Ga H16 O O O) O (JLo (I64 b.Lash) [55] O .sct ⟨Ua,G⟩ (fun hc=>Ge Gb O O O) O (JLo (BL (decide (a.Lash=b.Lash))) [54,56] O .sct ⟨Ua,Ua,G⟩ (fun hc=>Ju O O O) O (JLh (BL ((((((((decide (a.Bay=b.Bay))&&(decide (a.Row=b.Row)))&&(a.Deck==b.Deck))&&(decide (a.Tiers=b.Tiers)))&&(decide (a.Height=b.Height)))&&(decide (a.Kilos20=b.Kilos20)))&&(decide (a.Kilos40=b.Kilos40)))&&(decide (a.Lash=b.Lash)))) (J4 O O O O) O (JLm (BL ((((((((decide (a.Bay=b.Bay))&&(decide (a.Row=b.Row)))&&(a.Deck==b.Deck))&&(decide (a.Tiers=b.Tiers)))&&(decide (a.Height=b.Height)))&&(decide (a.Kilos20=b.Kilos20)))&&(decide (a.Kilos40=b.Kilos40)))&&(decide (a.Lash=b.Lash)))) O ?_)))))))))))))
 refine JLo (.dptr ((G3.cs a).drop 8)) [] O .sct G (fun hc=>Ga Rn O O O) O (JLo (E1 a.Plugs) [60] O .sct ⟨Ua,G⟩ (fun hc=>Ge J1 O O O) O (JLo (.dptr ((G3.cs b).drop 8)) [] O .sct G (fun hc=>Ga Rn O O O) O (JLo (E1 b.Plugs) [62] O .sct ⟨Ua,G⟩ (fun hc=>Ge J1 O O O) O ?_)))
 obtain⟨r3,hr3,h⟩:=Gd h
 refine JLo (BL r3) [61,63] O .sct ⟨Ua,Ua,G⟩ (fun hc=>Gi (args:=[E1 a.Plugs,E1 b.Plugs]) O (Jd a.Plugs b.Plugs r3 (Gw hc hr3)) G1f ⟨O,O,O,O,G⟩) O (JLh (BL (((((((((decide (a.Bay=b.Bay))&&(decide (a.Row=b.Row)))&&(a.Deck==b.Deck))&&(decide (a.Tiers=b.Tiers)))&&(decide (a.Height=b.Height)))&&(decide (a.Kilos20=b.Kilos20)))&&(decide (a.Kilos40=b.Kilos40)))&&(decide (a.Lash=b.Lash)))&&r3)) (J4 O O O O) O (JLm (BL (((((((((decide (a.Bay=b.Bay))&&(decide (a.Row=b.Row)))&&(a.Deck==b.Deck))&&(decide (a.Tiers=b.Tiers)))&&(decide (a.Height=b.Height)))&&(decide (a.Kilos20=b.Kilos20)))&&(decide (a.Kilos40=b.Kilos40)))&&(decide (a.Lash=b.Lash)))&&r3)) O (JLo (.dptr [I64 a.X,I64 a.Y,I64 a.Z]) [] O .sct G (fun hc=>Ga H15 O O O) O (JLo (I64 a.X) [67] O .sct ⟨Ua,G⟩ (fun hc=>Ge Gb O O O) O (JLo (.dptr [I64 b.X,I64 b.Y,I64 b.Z]) [] O .sct G (fun hc=>Ga H15 O O O) O (JLo (I64 b.X) [69] O .sct ⟨Ua,G⟩ (fun hc=>Ge Gb O O O) O (JLo (BL (decide (a.X=b.X))) [68,70] O .sct ⟨Ua,Ua,G⟩ (fun hc=>Ju O O O) O (JLh (BL ((((((((((decide (a.Bay=b.Bay))&&(decide (a.Row=b.Row)))&&(a.Deck==b.Deck))&&(decide (a.Tiers=b.Tiers)))&&(decide (a.Height=b.Height)))&&(decide (a.Kilos20=b.Kilos20)))&&(decide (a.Kilos40=b.Kilos40)))&&(decide (a.Lash=b.Lash)))&&r3)&&(decide (a.X=b.X)))) (J4 O O O O) O (JLm (BL ((((((((((decide (a.Bay=b.Bay))&&(decide (a.Row=b.Row)))&&(a.Deck==b.Deck))&&(decide (a.Tiers=b.Tiers)))&&(decide (a.Height=b.Height)))&&(decide (a.Kilos20=b.Kilos20)))&&(decide (a.Kilos40=b.Kilos40)))&&(decide (a.Lash=b.Lash)))&&r3)&&(decide (a.X=b.X)))) O (JLo (.dptr [I64 a.Y,I64 a.Z]) [] O .sct G (fun hc=>Ga Gec O O O) O (JLo (I64 a.Y) [74] O .sct ⟨Ua,G⟩ (fun hc=>Ge Gb O O O) O (JLo (.dptr [I64 b.Y,I64 b.Z]) [] O .sct G (fun hc=>Ga Gec O O O) O (JLo (I64 b.Y) [76] O .sct ⟨Ua,G⟩ (fun hc=>Ge Gb O O O) O ?_)))))))))))))
 refine JLo (BL (decide (a.Y=b.Y))) [75,77] O .sct ⟨Ua,Ua,G⟩ (fun hc=>Ju O O O) O (JLh (BL (((((((((((decide (a.Bay=b.Bay))&&(decide (a.Row=b.Row)))&&(a.Deck==b.Deck))&&(decide (a.Tiers=b.Tiers)))&&(decide (a.Height=b.Height)))&&(decide (a.Kilos20=b.Kilos20)))&&(decide (a.Kilos40=b.Kilos40)))&&(decide (a.Lash=b.Lash)))&&r3)&&(decide (a.X=b.X)))&&(decide (a.Y=b.Y)))) (J4 O O O O) O (JLm (BL (((((((((((decide (a.Bay=b.Bay))&&(decide (a.Row=b.Row)))&&(a.Deck==b.Deck))&&(decide (a.Tiers=b.Tiers)))&&(decide (a.Height=b.Height)))&&(decide (a.Kilos20=b.Kilos20)))&&(decide (a.Kilos40=b.Kilos40)))&&(decide (a.Lash=b.Lash)))&&r3)&&(decide (a.X=b.X)))&&(decide (a.Y=b.Y)))) O (JLo (.dptr [I64 a.Z]) [] O .sct G (fun hc=>Ga Geb O O O) O (JLo (I64 a.Z) [81] O .sct ⟨Ua,G⟩ (fun hc=>Ge Gb O O O) O (JLo (.dptr [I64 b.Z]) [] O .sct G (fun hc=>Ga Geb O O O) O (JLo (I64 b.Z) [83] O .sct ⟨Ua,G⟩ (fun hc=>Ge Gb O O O) O (JLo (BL (decide (a.Z=b.Z))) [82,84] O .sct ⟨Ua,Ua,G⟩ (fun hc=>Ju O O O) O (JLh (BL ((((((((((((decide (a.Bay=b.Bay))&&(decide (a.Row=b.Row)))&&(a.Deck==b.Deck))&&(decide (a.Tiers=b.Tiers)))&&(decide (a.Height=b.Height)))&&(decide (a.Kilos20=b.Kilos20)))&&(decide (a.Kilos40=b.Kilos40)))&&(decide (a.Lash=b.Lash)))&&r3)&&(decide (a.X=b.X)))&&(decide (a.Y=b.Y)))&&(decide (a.Z=b.Z)))) (J4 O O O O) O (JLm (BL ((((((((((((decide (a.Bay=b.Bay))&&(decide (a.Row=b.Row)))&&(a.Deck==b.Deck))&&(decide (a.Tiers=b.Tiers)))&&(decide (a.Height=b.Height)))&&(decide (a.Kilos20=b.Kilos20)))&&(decide (a.Kilos40=b.Kilos40)))&&(decide (a.Lash=b.Lash)))&&r3)&&(decide (a.X=b.X)))&&(decide (a.Y=b.Y)))&&(decide (a.Z=b.Z)))) O (G7 (hK2 ?_)))))))))))
 refine Gq (fin1 BL h)

def Yv (a:List G3) (b:List G3):Option Bool:=
 bif decide ((a.length:Int)≠(b.length:Int)) then
 (some false)
 else
 (each (fun y26 i26 (s26:Unit) nx26=>
   Qm b (i26:Int) fun y31=>
   bnd (Jy y26 y31) fun r33=>
   bif (!r33) then
   (some false)
   else
   (nx26 ()))
  (fun(s26:Unit)=>
   some true) a 0 ())
theorem H32 (a:List G3) (b:List G3) (r:Bool) (h:Yv a b=some r):Pure Ej 91 [E5 a,E5 b] (·=BL r):=by
 unfold Yv at h
 refine Gy [.tmp 4] Tryz.func91 O O (Jr fun hK1=>(JLm (BL false) O (G7 (hK1 (Js fun hK2=>Jr fun hK3=>(JLm (E5 a) O (JLl H6 O O O fun hm7=>(JLm (E5 b) O (JLl H6 O O O fun hm9=>(JLh (BL (decide ((a.length:Int)≠(b.length:Int)))) (G1d O O O) O (G7 (hK3 (JCc O h (fun h hb=>?_) (fun h hb=>?_))))))))))))))
 ·
  refine Jr fun hK4=>(JLm (BL false) O (G7 (hK4 (Gq (fin1 BL h)))))
 ·
  refine Gm (hK2 (Js fun hK5=>Jr fun hK6=>(JLm (I64 0) O (G7 (hK6 (Gp ?_))))))
  obtain⟨b26,kx26,hb26,hkx26,h⟩:=Hv h
  refine Hc (fun i26 (s26:Unit)=>each b26 kx26 (List.drop i26 a) i26 s26=some r) (fun i26 s26=>[(0,E5 a),(1,E5 b),(5,Ei i26)]) (fun i26 s26=>[]) (fun i26=>a.length - i26) 0 () h ⟨(.sm O O),G,O⟩ ?_
  clear h
  intro i26 s26 hi26 K26 e26
  refine Js fun hK27=>Jr fun hK28=>(JLm (Ei i26) O (JLm (E5 a) O (JLl H6 O O O fun hm13=>(JLh (BL (decide ((i26:Int) < (a.length:Int)))) (Hy O O O) O (G7 (hK28 (Gj O (fun hb=>?_) (fun hb=>?_))))))))
  ·
   have hk26:=J8 hb
   obtain⟨y26,nx26,hy26,hn26,h⟩:=Hj hi26 hk26
   replace h:=R8 hb26 h
   refine Gm (hK27 (Js fun hK29=>Gp (Js fun hK30=>?_)))
   obtain⟨m32,y31,hm32,hy31,h⟩:=Rb h
   obtain⟨r33,hr33,h⟩:=Gd h
   refine JC_d0 Jb (by kernel_rfl) (Dq (E5 a) (G4 O O) O (Dq (Ei i26) (G4 O O) O (Dq (Ed y26) (Gv (f:=G3.av) (xs:=a) (y:=y26) O O O H6 hy26 O) O (Dq (.agg (G3.cs y26)) (Gg Y6 O O O) O (Dq (E5 b) (G4 O O) O (Dq (Ei i26) (G4 O O) O (Dq (Ed y31) (Gv (f:=G3.av) (xs:=b) (y:=y31) O O O H6 hy31 hm32) O (Dq (.agg (G3.cs y31)) (Gg Y6 O O O) O (Dq (BL r33) (Gi (args:=[.agg (G3.cs y26),.agg (G3.cs y31)]) O (G44 y26 y31 r33 hr33) J43 ⟨O,O,O,O,G⟩) O (Dq (BL (!r33)) (Q3 (b:=r33) O O) O (Dnil (hK30 (JCc O h (fun h hb=>?_) (fun h hb=>?_))))))))))))))
   ·
    refine Jr fun hK34=>(JLm (BL false) O (G7 (hK34 (Gq (fin1 BL h)))))
   ·
    refine Gm (hK29 (G2 (JLm (Ei i26) O (JLh (I64 ((i26+1:Nat):Int)) (Ht (Hb hk26 hm13) O O O) O (JLm (I64 ((i26+1:Nat):Int)) O (G7 (e26 _ _ (i26+1) () (app1 hn26 h) (by omega) ⟨(.sm O O),G,rfl⟩)))))))
  ·
   have h:=app1 hkx26 (Hk hi26 (H3 hb))
   refine Hi (hK5 (Jr fun hK35=>(JLm (BL true) O (G7 (hK35 (Gq (fin1 BL h)))))))

def Q6 (a:G8) (b:G8):Option Bool:=
 bnd (bif decide (a.Bay=b.Bay) then J3 a.Rows b.Rows else some default) fun r3=>
 some ((decide (a.Bay=b.Bay))&&r3)
theorem G4d (a:G8) (b:G8) (r:Bool) (h:Q6 a b=some r):Pure Ej 99 [.agg [I64 a.Bay,E1 a.Rows],.agg [I64 b.Bay,E1 b.Rows]] (·=BL r):=by
 unfold Q6 at h
 refine Gy [.tmp 4] Tryz.func99 O O (Jr fun hK1=>(JLh (.ptr 1153 0) (J7 (cs:=[I64 a.Bay,E1 a.Rows]) 1153 O O O O O) O (JLh (.ptr 1154 0) (J7 (cs:=[I64 b.Bay,E1 b.Rows]) 1154 O O O O O) O (JLm (BL false) O (G7 (hK1 (Gr [(2,.dptr [I64 a.Bay,E1 a.Rows]),(3,.ptr 1154 0)] [(1154,.box 66 [I64 b.Bay,E1 b.Rows])] 1153 rfl rfl rfl ⟨⟨_,rfl,.boxEq rfl rfl⟩,G⟩ rfl (by exact⟨.ptr,.conv (.same rfl),G⟩) (Gr [(2,.dptr [I64 a.Bay,E1 a.Rows]),(3,.dptr [I64 b.Bay,E1 b.Rows])] [] 1154 rfl rfl rfl G rfl (by exact⟨.conv (.same rfl),.ptr,G⟩) ?_))))))))
 refine Jr fun hK2=>(JLh (.dptr [I64 a.Bay,E1 a.Rows]) (Ga G06 O O O) O (JLh (I64 a.Bay) (Ge Gb O O O) O (JLh (.dptr [I64 b.Bay,E1 b.Rows]) (Ga G06 O O O) O (JLh (I64 b.Bay) (Ge Gb O O O) O (JLh (BL (decide (a.Bay=b.Bay))) (Ju O O O) O (JLm (BL (decide (a.Bay=b.Bay))) O (JLo (.dptr [E1 a.Rows]) [] O .sct G (fun hc=>Ga Qf O O O) O (JLo (E1 a.Rows) [11] O .sct ⟨Ua,G⟩ (fun hc=>Ge J1 O O O) O (JLo (.dptr [E1 b.Rows]) [] O .sct G (fun hc=>Ga Qf O O O) O (JLo (E1 b.Rows) [13] O .sct ⟨Ua,G⟩ (fun hc=>Ge J1 O O O) O ?_))))))))))
 obtain⟨r3,hr3,h⟩:=Gd h
 refine JLo (BL r3) [12,14] O .sct ⟨Ua,Ua,G⟩ (fun hc=>Gi (args:=[E1 a.Rows,E1 b.Rows]) O (Jd a.Rows b.Rows r3 (Gw hc hr3)) G1f ⟨O,O,O,O,G⟩) O (JLh (BL ((decide (a.Bay=b.Bay))&&r3)) (J4 O O O O) O (JLm (BL ((decide (a.Bay=b.Bay))&&r3)) O (G7 (hK2 (Gq (fin1 BL h))))))

def Z5 (a:List G8) (b:List G8):Option Bool:=
 bif decide ((a.length:Int)≠(b.length:Int)) then
 (some false)
 else
 (each (fun y26 i26 (s26:Unit) nx26=>
   Qm b (i26:Int) fun y31=>
   bnd (Q6 y26 y31) fun r33=>
   bif (!r33) then
   (some false)
   else
   (nx26 ()))
  (fun(s26:Unit)=>
   some true) a 0 ())
theorem H3f (a:List G8) (b:List G8) (r:Bool) (h:Z5 a b=some r):Pure Ej 92 [E6 a,E6 b] (·=BL r):=by
 unfold Z5 at h
 refine Gy [.tmp 4] Tryz.func92 O O (Jr fun hK1=>(JLm (BL false) O (G7 (hK1 (Js fun hK2=>Jr fun hK3=>(JLm (E6 a) O (JLl Hq O O O fun hm7=>(JLm (E6 b) O (JLl Hq O O O fun hm9=>(JLh (BL (decide ((a.length:Int)≠(b.length:Int)))) (G1d O O O) O (G7 (hK3 (JCc O h (fun h hb=>?_) (fun h hb=>?_))))))))))))))
 ·
  refine Jr fun hK4=>(JLm (BL false) O (G7 (hK4 (Gq (fin1 BL h)))))
 ·
  refine Gm (hK2 (Js fun hK5=>Jr fun hK6=>(JLm (I64 0) O (G7 (hK6 (Gp ?_))))))
  obtain⟨b26,kx26,hb26,hkx26,h⟩:=Hv h
  refine Hc (fun i26 (s26:Unit)=>each b26 kx26 (List.drop i26 a) i26 s26=some r) (fun i26 s26=>[(0,E6 a),(1,E6 b),(5,Ei i26)]) (fun i26 s26=>[]) (fun i26=>a.length - i26) 0 () h ⟨(.sm O O),G,O⟩ ?_
  clear h
  intro i26 s26 hi26 K26 e26
  refine Js fun hK27=>Jr fun hK28=>(JLm (Ei i26) O (JLm (E6 a) O (JLl Hq O O O fun hm13=>(JLh (BL (decide ((i26:Int) < (a.length:Int)))) (Hy O O O) O (G7 (hK28 (Gj O (fun hb=>?_) (fun hb=>?_))))))))
  ·
   have hk26:=J8 hb
   obtain⟨y26,nx26,hy26,hn26,h⟩:=Hj hi26 hk26
   replace h:=R8 hb26 h
   refine Gm (hK27 (Js fun hK29=>Gp (Js fun hK30=>?_)))
   obtain⟨m32,y31,hm32,hy31,h⟩:=Rb h
   obtain⟨r33,hr33,h⟩:=Gd h
   refine JC_d0 Jb (by kernel_rfl) (Dq (E6 a) (G4 O O) O (Dq (Ei i26) (G4 O O) O (Dq (.dptr [I64 y26.Bay,E1 y26.Rows]) (Gv (f:=G8.av) (xs:=a) (y:=y26) O O O Hq hy26 O) O (Dq (.agg [I64 y26.Bay,E1 y26.Rows]) (Gg Z0 O O O) O (Dq (E6 b) (G4 O O) O (Dq (Ei i26) (G4 O O) O (Dq (.dptr [I64 y31.Bay,E1 y31.Rows]) (Gv (f:=G8.av) (xs:=b) (y:=y31) O O O Hq hy31 hm32) O (Dq (.agg [I64 y31.Bay,E1 y31.Rows]) (Gg Z0 O O O) O (Dq (BL r33) (Gi (args:=[.agg [I64 y26.Bay,E1 y26.Rows],.agg [I64 y31.Bay,E1 y31.Rows]]) O (G4d y26 y31 r33 hr33) J42 ⟨O,O,O,O,G⟩) O (Dq (BL (!r33)) (Q3 (b:=r33) O O) O (Dnil (hK30 (JCc O h (fun h hb=>?_) (fun h hb=>?_))))))))))))))
   ·
    refine Jr fun hK34=>(JLm (BL false) O (G7 (hK34 (Gq (fin1 BL h)))))
   ·
    refine Gm (hK29 (G2 (JLm (Ei i26) O (JLh (I64 ((i26+1:Nat):Int)) (Ht (Hb hk26 hm13) O O O) O (JLm (I64 ((i26+1:Nat):Int)) O (G7 (e26 _ _ (i26+1) () (app1 hn26 h) (by omega) ⟨(.sm O O),G,rfl⟩)))))))
  ·
   have h:=app1 hkx26 (Hk hi26 (H3 hb))
   refine Hi (hK5 (Jr fun hK35=>(JLm (BL true) O (G7 (hK35 (Gq (fin1 BL h)))))))

def G00 (a:List Row) (b:List Row):Option Bool:=
 bif decide ((a.length:Int)≠(b.length:Int)) then
 (some false)
 else
 (each (fun y24 i24 (s24:Unit) nx24=>
   Qm b (i24:Int) fun y29=>
   bif (!decide (y24=y29)) then
   (some false)
   else
   (nx24 ()))
  (fun(s24:Unit)=>
   some true) a 0 ())
theorem H7c (a:List Row) (b:List Row) (r:Bool) (h:G00 a b=some r):Pure Ej 93 [E8 a,E8 b] (·=BL r):=by
 unfold G00 at h
 refine Gy [.tmp 4] Tryz.func93 O O (Jr fun hK1=>(JLm (BL false) O (G7 (hK1 (Js fun hK2=>Jr fun hK3=>(JLm (E8 a) O (JLl Qh O O O fun hm7=>(JLm (E8 b) O (JLl Qh O O O fun hm9=>(JLh (BL (decide ((a.length:Int)≠(b.length:Int)))) (G1d O O O) O (G7 (hK3 (JCc O h (fun h hb=>?_) (fun h hb=>?_))))))))))))))
 ·
  refine Jr fun hK4=>(JLm (BL false) O (G7 (hK4 (Gq (fin1 BL h)))))
 ·
  refine Gm (hK2 (Js fun hK5=>Jr fun hK6=>(JLm (I64 0) O (G7 (hK6 (Gp ?_))))))
  obtain⟨b24,kx24,hb24,hkx24,h⟩:=Hv h
  refine Hc (fun i24 (s24:Unit)=>each b24 kx24 (List.drop i24 a) i24 s24=some r) (fun i24 s24=>[(0,E8 a),(1,E8 b),(5,Ei i24)]) (fun i24 s24=>[]) (fun i24=>a.length - i24) 0 () h ⟨(.sm O O),G,O⟩ ?_
  clear h
  intro i24 s24 hi24 K24 e24
  refine Js fun hK25=>Jr fun hK26=>(JLm (Ei i24) O (JLm (E8 a) O (JLl Qh O O O fun hm13=>(JLh (BL (decide ((i24:Int) < (a.length:Int)))) (Hy O O O) O (G7 (hK26 (Gj O (fun hb=>?_) (fun hb=>?_))))))))
  ·
   have hk24:=J8 hb
   obtain⟨y24,nx24,hy24,hn24,h⟩:=Hj hi24 hk24
   replace h:=R8 hb24 h
   refine Gm (hK25 (Js fun hK27=>Gp (Js fun hK28=>?_)))
   obtain⟨m30,y29,hm30,hy29,h⟩:=Rb h
   refine JC_d0 Jb (by kernel_rfl) (Dq (E8 a) (G4 O O) O (Dq (Ei i24) (G4 O O) O (Dq (.dptr (Row.cs y24)) (Gv (f:=Row.av) (xs:=a) (y:=y24) O O O Qh hy24 O) O (Dq (.agg (Row.cs y24)) (Gg H07 O O O) O (Dq (E8 b) (G4 O O) O (Dq (Ei i24) (G4 O O) O (Dq (.dptr (Row.cs y29)) (Gv (f:=Row.av) (xs:=b) (y:=y29) O O O Qh hy29 hm30) O (Dq (.agg (Row.cs y29)) (Gg H07 O O O) O (Dq (BL (!decide (y24=y29))) (Qdd (vs:=[.int .i64 y24.Draught,.int .i64 y24.Kilos,.int .i64 y24.Buoy,.int .i64 y24.Metacentre,.int .i64 y24.J04]) (us:=[.int .i64 y29.Draught,.int .i64 y29.Kilos,.int .i64 y29.Buoy,.int .i64 y29.Metacentre,.int .i64 y29.J04]) 4 O (R4f y24 y29) Hba J3e O O O) O (Dnil (hK28 ?_)))))))))))
   refine JCc O h ?_ ?_<;>intro h hb
   ·
    refine Jr fun hK31=>(JLm (BL false) O (G7 (hK31 (Gq (fin1 BL h)))))
   ·
    refine Gm (hK27 (G2 (JLm (Ei i24) O (JLh (I64 ((i24+1:Nat):Int)) (Ht (Hb hk24 hm13) O O O) O (JLm (I64 ((i24+1:Nat):Int)) O (G7 (e24 _ _ (i24+1) () (app1 hn24 h) (by omega) ⟨(.sm O O),G,rfl⟩)))))))
  ·
   have h:=app1 hkx24 (Hk hi24 (H3 hb))
   refine Hi (hK5 (Jr fun hK32=>(JLm (BL true) O (G7 (hK32 (Gq (fin1 BL h)))))))

def Z4 (a:List Frame) (b:List Frame):Option Bool:=
 bif decide ((a.length:Int)≠(b.length:Int)) then
 (some false)
 else
 (each (fun y24 i24 (s24:Unit) nx24=>
   Qm b (i24:Int) fun y29=>
   bif (!decide (y24=y29)) then
   (some false)
   else
   (nx24 ()))
  (fun(s24:Unit)=>
   some true) a 0 ())
theorem H3e (a:List Frame) (b:List Frame) (r:Bool) (h:Z4 a b=some r):Pure Ej 94 [E7 a,E7 b] (·=BL r):=by
 unfold Z4 at h
 refine Gy [.tmp 4] Tryz.func94 O O (Jr fun hK1=>(JLm (BL false) O (G7 (hK1 (Js fun hK2=>Jr fun hK3=>(JLm (E7 a) O (JLl Qg O O O fun hm7=>(JLm (E7 b) O (JLl Qg O O O fun hm9=>(JLh (BL (decide ((a.length:Int)≠(b.length:Int)))) (G1d O O O) O (G7 (hK3 (JCc O h (fun h hb=>?_) (fun h hb=>?_))))))))))))))
 ·
  refine Jr fun hK4=>(JLm (BL false) O (G7 (hK4 (Gq (fin1 BL h)))))
 ·
  refine Gm (hK2 (Js fun hK5=>Jr fun hK6=>(JLm (I64 0) O (G7 (hK6 (Gp ?_))))))
  obtain⟨b24,kx24,hb24,hkx24,h⟩:=Hv h
  refine Hc (fun i24 (s24:Unit)=>each b24 kx24 (List.drop i24 a) i24 s24=some r) (fun i24 s24=>[(0,E7 a),(1,E7 b),(5,Ei i24)]) (fun i24 s24=>[]) (fun i24=>a.length - i24) 0 () h ⟨(.sm O O),G,O⟩ ?_
  clear h
  intro i24 s24 hi24 K24 e24
  refine Js fun hK25=>Jr fun hK26=>(JLm (Ei i24) O (JLm (E7 a) O (JLl Qg O O O fun hm13=>(JLh (BL (decide ((i24:Int) < (a.length:Int)))) (Hy O O O) O (G7 (hK26 (Gj O (fun hb=>?_) (fun hb=>?_))))))))
  ·
   have hk24:=J8 hb
   obtain⟨y24,nx24,hy24,hn24,h⟩:=Hj hi24 hk24
   replace h:=R8 hb24 h
   refine Gm (hK25 (Js fun hK27=>Gp (Js fun hK28=>?_)))
   obtain⟨m30,y29,hm30,hy29,h⟩:=Rb h
   refine JC_d0 Jb (by kernel_rfl) (Dq (E7 a) (G4 O O) O (Dq (Ei i24) (G4 O O) O (Dq (.dptr (Frame.cs y24)) (Gv (f:=Frame.av) (xs:=a) (y:=y24) O O O Qg hy24 O) O (Dq (.agg (Frame.cs y24)) (Gg H06 O O O) O (Dq (E7 b) (G4 O O) O (Dq (Ei i24) (G4 O O) O (Dq (.dptr (Frame.cs y29)) (Gv (f:=Frame.av) (xs:=b) (y:=y29) O O O Qg hy29 hm30) O (Dq (.agg (Frame.cs y29)) (Gg H06 O O O) O (Dq (BL (!decide (y24=y29))) (Qdd (vs:=[.int .i64 y24.X,.int .i64 y24.Light,.int .i64 y24.Share,.int .i64 y24.Shear,.int .i64 y24.Bend]) (us:=[.int .i64 y29.X,.int .i64 y29.Light,.int .i64 y29.Share,.int .i64 y29.Shear,.int .i64 y29.Bend]) 4 O (R4e y24 y29) Hb9 J3d O O O) O (Dnil (hK28 (JCc O h (fun h hb=>?_) (fun h hb=>?_)))))))))))))
   ·
    refine Jr fun hK31=>(JLm (BL false) O (G7 (hK31 (Gq (fin1 BL h)))))
   ·
    refine Gm (hK27 (G2 (JLm (Ei i24) O (JLh (I64 ((i24+1:Nat):Int)) (Ht (Hb hk24 hm13) O O O) O (JLm (I64 ((i24+1:Nat):Int)) O (G7 (e24 _ _ (i24+1) () (app1 hn24 h) (by omega) ⟨(.sm O O),G,rfl⟩)))))))
  ·
   have h:=app1 hkx24 (Hk hi24 (H3 hb))
   refine Hi (hK5 (Jr fun hK32=>(JLm (BL true) O (G7 (hK32 (Gq (fin1 BL h)))))))

def Qb (a:Gf) (b:Gf):Option Bool:=
 bnd (bif (((((decide (a.Kilos=b.Kilos))&&(decide (a.X=b.X)))&&(decide (a.Y=b.Y)))&&(decide (a.Z=b.Z)))&&(decide (a.Surface=b.Surface))) then J3 a.Steps b.Steps else some default) fun r3=>
 some ((((((decide (a.Kilos=b.Kilos))&&(decide (a.X=b.X)))&&(decide (a.Y=b.Y)))&&(decide (a.Z=b.Z)))&&(decide (a.Surface=b.Surface)))&&r3)
theorem G53 (a:Gf) (b:Gf) (r:Bool) (h:Qb a b=some r):Pure Ej 101 [.agg (Gf.cs a),.agg (Gf.cs b)] (·=BL r):=by
 unfold Qb at h
 refine Gy [.tmp 4] Tryz.func101 O O (Jr fun hK1=>(JLh (.ptr 1157 0) (J7 (cs:=[I64 a.Kilos,I64 a.X,I64 a.Y,I64 a.Z,I64 a.Surface,E1 a.Steps]) 1157 O O O O O) O (JLh (.ptr 1158 0) (J7 (cs:=[I64 b.Kilos,I64 b.X,I64 b.Y,I64 b.Z,I64 b.Surface,E1 b.Steps]) 1158 O O O O O) O (JLm (BL false) O (G7 (hK1 (Gr [(2,Eh a),(3,.ptr 1158 0)] [(1158,.box 114 [I64 b.Kilos,I64 b.X,I64 b.Y,I64 b.Z,I64 b.Surface,E1 b.Steps])] 1157 rfl rfl rfl ⟨⟨_,rfl,.boxEq rfl rfl⟩,G⟩ rfl (by exact⟨.ptr,.conv (.same rfl),G⟩) (Gr [(2,Eh a),(3,Eh b)] [] 1158 rfl rfl rfl G rfl (by exact⟨.conv (.same rfl),.ptr,G⟩) ?_))))))))
 refine Jr fun hK2=>(JLh (Eh a) (Ga He7 O O O) O (JLh (I64 a.Kilos) (Ge Gb O O O) O (JLh (Eh b) (Ga He7 O O O) O (JLh (I64 b.Kilos) (Ge Gb O O O) O (JLh (BL (decide (a.Kilos=b.Kilos))) (Ju O O O) O (JLm (BL (decide (a.Kilos=b.Kilos))) O (JLo (.dptr ((Gf.cs a).drop 1)) [] O .sct G (fun hc=>Ga He6 O O O) O (JLo (I64 a.X) [11] O .sct ⟨Ua,G⟩ (fun hc=>Ge Gb O O O) O (JLo (.dptr ((Gf.cs b).drop 1)) [] O .sct G (fun hc=>Ga He6 O O O) O (JLo (I64 b.X) [13] O .sct ⟨Ua,G⟩ (fun hc=>Ge Gb O O O) O (JLo (BL (decide (a.X=b.X))) [12,14] O .sct ⟨Ua,Ua,G⟩ (fun hc=>Ju O O O) O (JLh (BL ((decide (a.Kilos=b.Kilos))&&(decide (a.X=b.X)))) (J4 O O O O) O (JLm (BL ((decide (a.Kilos=b.Kilos))&&(decide (a.X=b.X)))) O ?_)))))))))))))
 refine JLo (.dptr ((Gf.cs a).drop 2)) [] O .sct G (fun hc=>Ga He5 O O O) O (JLo (I64 a.Y) [18] O .sct ⟨Ua,G⟩ (fun hc=>Ge Gb O O O) O (JLo (.dptr ((Gf.cs b).drop 2)) [] O .sct G (fun hc=>Ga He5 O O O) O (JLo (I64 b.Y) [20] O .sct ⟨Ua,G⟩ (fun hc=>Ge Gb O O O) O (JLo (BL (decide (a.Y=b.Y))) [19,21] O .sct ⟨Ua,Ua,G⟩ (fun hc=>Ju O O O) O (JLh (BL (((decide (a.Kilos=b.Kilos))&&(decide (a.X=b.X)))&&(decide (a.Y=b.Y)))) (J4 O O O O) O (JLm (BL (((decide (a.Kilos=b.Kilos))&&(decide (a.X=b.X)))&&(decide (a.Y=b.Y)))) O (JLo (.dptr ((Gf.cs a).drop 3)) [] O .sct G (fun hc=>Ga He4 O O O) O (JLo (I64 a.Z) [25] O .sct ⟨Ua,G⟩ (fun hc=>Ge Gb O O O) O (JLo (.dptr ((Gf.cs b).drop 3)) [] O .sct G (fun hc=>Ga He4 O O O) O (JLo (I64 b.Z) [27] O .sct ⟨Ua,G⟩ (fun hc=>Ge Gb O O O) O (JLo (BL (decide (a.Z=b.Z))) [26,28] O .sct ⟨Ua,Ua,G⟩ (fun hc=>Ju O O O) O (JLh (BL ((((decide (a.Kilos=b.Kilos))&&(decide (a.X=b.X)))&&(decide (a.Y=b.Y)))&&(decide (a.Z=b.Z)))) (J4 O O O O) O (JLm (BL ((((decide (a.Kilos=b.Kilos))&&(decide (a.X=b.X)))&&(decide (a.Y=b.Y)))&&(decide (a.Z=b.Z)))) O ?_)))))))))))))
 refine JLo (.dptr [I64 a.Surface,E1 a.Steps]) [] O .sct G (fun hc=>Ga He3 O O O) O (JLo (I64 a.Surface) [32] O .sct ⟨Ua,G⟩ (fun hc=>Ge Gb O O O) O (JLo (.dptr [I64 b.Surface,E1 b.Steps]) [] O .sct G (fun hc=>Ga He3 O O O) O (JLo (I64 b.Surface) [34] O .sct ⟨Ua,G⟩ (fun hc=>Ge Gb O O O) O (JLo (BL (decide (a.Surface=b.Surface))) [33,35] O .sct ⟨Ua,Ua,G⟩ (fun hc=>Ju O O O) O (JLh (BL (((((decide (a.Kilos=b.Kilos))&&(decide (a.X=b.X)))&&(decide (a.Y=b.Y)))&&(decide (a.Z=b.Z)))&&(decide (a.Surface=b.Surface)))) (J4 O O O O) O (JLm (BL (((((decide (a.Kilos=b.Kilos))&&(decide (a.X=b.X)))&&(decide (a.Y=b.Y)))&&(decide (a.Z=b.Z)))&&(decide (a.Surface=b.Surface)))) O (JLo (.dptr [E1 a.Steps]) [] O .sct G (fun hc=>Ga G6f O O O) O (JLo (E1 a.Steps) [39] O .sct ⟨Ua,G⟩ (fun hc=>Ge J1 O O O) O (JLo (.dptr [E1 b.Steps]) [] O .sct G (fun hc=>Ga G6f O O O) O (JLo (E1 b.Steps) [41] O .sct ⟨Ua,G⟩ (fun hc=>Ge J1 O O O) O ?_))))))))))
 obtain⟨r3,hr3,h⟩:=Gd h
 refine JLo (BL r3) [40,42] O .sct ⟨Ua,Ua,G⟩ (fun hc=>Gi (args:=[E1 a.Steps,E1 b.Steps]) O (Jd a.Steps b.Steps r3 (Gw hc hr3)) G1f ⟨O,O,O,O,G⟩) O (JLh (BL ((((((decide (a.Kilos=b.Kilos))&&(decide (a.X=b.X)))&&(decide (a.Y=b.Y)))&&(decide (a.Z=b.Z)))&&(decide (a.Surface=b.Surface)))&&r3)) (J4 O O O O) O (JLm (BL ((((((decide (a.Kilos=b.Kilos))&&(decide (a.X=b.X)))&&(decide (a.Y=b.Y)))&&(decide (a.Z=b.Z)))&&(decide (a.Surface=b.Surface)))&&r3)) O (G7 (hK2 (Gq (fin1 BL h))))))

def Zo (a:List Gf) (b:List Gf):Option Bool:=
 bif decide ((a.length:Int)≠(b.length:Int)) then
 (some false)
 else
 (each (fun y26 i26 (s26:Unit) nx26=>
   Qm b (i26:Int) fun y31=>
   bnd (Qb y26 y31) fun r33=>
   bif (!r33) then
   (some false)
   else
   (nx26 ()))
  (fun(s26:Unit)=>
   some true) a 0 ())
theorem H6d (a:List Gf) (b:List Gf) (r:Bool) (h:Zo a b=some r):Pure Ej 95 [E9 a,E9 b] (·=BL r):=by
 unfold Zo at h
 refine Gy [.tmp 4] Tryz.func95 O O (Jr fun hK1=>(JLm (BL false) O (G7 (hK1 (Js fun hK2=>Jr fun hK3=>(JLm (E9 a) O (JLl Q2 O O O fun hm7=>(JLm (E9 b) O (JLl Q2 O O O fun hm9=>(JLh (BL (decide ((a.length:Int)≠(b.length:Int)))) (G1d O O O) O (G7 (hK3 (JCc O h (fun h hb=>?_) (fun h hb=>?_))))))))))))))
 ·
  refine Jr fun hK4=>(JLm (BL false) O (G7 (hK4 (Gq (fin1 BL h)))))
 ·
  refine Gm (hK2 (Js fun hK5=>Jr fun hK6=>(JLm (I64 0) O (G7 (hK6 (Gp ?_))))))
  obtain⟨b26,kx26,hb26,hkx26,h⟩:=Hv h
  refine Hc (fun i26 (s26:Unit)=>each b26 kx26 (List.drop i26 a) i26 s26=some r) (fun i26 s26=>[(0,E9 a),(1,E9 b),(5,Ei i26)]) (fun i26 s26=>[]) (fun i26=>a.length - i26) 0 () h ⟨(.sm O O),G,O⟩ ?_
  clear h
  intro i26 s26 hi26 K26 e26
  refine Js fun hK27=>Jr fun hK28=>(JLm (Ei i26) O (JLm (E9 a) O (JLl Q2 O O O fun hm13=>(JLh (BL (decide ((i26:Int) < (a.length:Int)))) (Hy O O O) O (G7 (hK28 (Gj O (fun hb=>?_) (fun hb=>?_))))))))
  ·
   have hk26:=J8 hb
   obtain⟨y26,nx26,hy26,hn26,h⟩:=Hj hi26 hk26
   replace h:=R8 hb26 h
   refine Gm (hK27 (Js fun hK29=>Gp (Js fun hK30=>?_)))
   obtain⟨m32,y31,hm32,hy31,h⟩:=Rb h
   obtain⟨r33,hr33,h⟩:=Gd h
   refine JC_d0 Jb (by kernel_rfl) (Dq (E9 a) (G4 O O) O (Dq (Ei i26) (G4 O O) O (Dq (Eh y26) (Gv (f:=Gf.av) (xs:=a) (y:=y26) O O O Q2 hy26 O) O (Dq (.agg (Gf.cs y26)) (Gg G3b O O O) O (Dq (E9 b) (G4 O O) O (Dq (Ei i26) (G4 O O) O (Dq (Eh y31) (Gv (f:=Gf.av) (xs:=b) (y:=y31) O O O Q2 hy31 hm32) O (Dq (.agg (Gf.cs y31)) (Gg G3b O O O) O (Dq (BL r33) (Gi (args:=[.agg (Gf.cs y26),.agg (Gf.cs y31)]) O (G53 y26 y31 r33 hr33) Hf0 ⟨O,O,O,O,G⟩) O (Dq (BL (!r33)) (Q3 (b:=r33) O O) O (Dnil (hK30 (JCc O h (fun h hb=>?_) (fun h hb=>?_))))))))))))))
   ·
    refine Jr fun hK34=>(JLm (BL false) O (G7 (hK34 (Gq (fin1 BL h)))))
   ·
    refine Gm (hK29 (G2 (JLm (Ei i26) O (JLh (I64 ((i26+1:Nat):Int)) (Ht (Hb hk26 hm13) O O O) O (JLm (I64 ((i26+1:Nat):Int)) O (G7 (e26 _ _ (i26+1) () (app1 hn26 h) (by omega) ⟨(.sm O O),G,rfl⟩)))))))
  ·
   have h:=app1 hkx26 (Hk hi26 (H3 hb))
   refine Hi (hK5 (Jr fun hK35=>(JLm (BL true) O (G7 (hK35 (Gq (fin1 BL h)))))))

def Zz (a:H0) (b:H0):Option Bool:=
 bnd (Yv a.Columns b.Columns) fun r3=>
 bnd (bif r3 then Z5 a.Covers b.Covers else some default) fun r4=>
 bnd (bif ((r3&&r4)&&(decide (a.Light=b.Light))) then G00 a.Rows b.Rows else some default) fun r5=>
 bnd (bif (((r3&&r4)&&(decide (a.Light=b.Light)))&&r5) then Z4 a.Frames b.Frames else some default) fun r6=>
 bnd (bif ((((r3&&r4)&&(decide (a.Light=b.Light)))&&r5)&&r6) then Zo a.Tanks b.Tanks else some default) fun r7=>
 some ((((((r3&&r4)&&(decide (a.Light=b.Light)))&&r5)&&r6)&&r7)&&(decide (a.G1=b.G1)))
theorem H7b (a:H0) (b:H0) (r:Bool) (h:Zz a b=some r):Pure Ej 43 [.agg (H0.cs a),.agg (H0.cs b)] (·=BL r):=by
 unfold Zz at h
 refine Gy [.tmp 4] Tryz.func43 O O (Jr fun hK1=>(JLh (.ptr 1084 0) (J7 (cs:=(H0.cs a)) 1084 O O O O O) O (JLh (.ptr 1085 0) (J7 (cs:=(H0.cs b)) 1085 O O O O O) O (JLm (BL false) O (G7 (hK1 ?_))))))
 refine Gr [(2,Eb a),(3,.ptr 1085 0)] [(1085,.box 32 (H0.cs b))] 1084 rfl rfl rfl ⟨⟨_,rfl,.boxEq rfl rfl⟩,G⟩ rfl (by exact⟨.ptr,.conv (.same rfl),G⟩) (Gr [(2,Eb a),(3,Eb b)] [] 1085 rfl rfl rfl G rfl (by exact⟨.conv (.same rfl),.ptr,G⟩) (Jr fun hK2=>(JLh (Eb a) (Ga Hh O O O) O (JLh (E5 a.Columns) (Ge Ho O O O) O (JLh (Eb b) (Ga Hh O O O) O (JLh (E5 b.Columns) (Ge Ho O O O) O ?_))))))
 obtain⟨r3,hr3,h⟩:=Gd h
 refine JLh (BL r3) (Gi O (H32 a.Columns b.Columns r3 hr3) R5d ⟨O,O,O,O,G⟩) O (JLm (BL r3) O (JLo (.dptr ((H0.cs a).drop 1)) [] O .sct G (fun hc=>Ga Jg O O O) O (JLo (E6 a.Covers) [11] O .sct ⟨Ua,G⟩ (fun hc=>Ge Jv O O O) O (JLo (.dptr ((H0.cs b).drop 1)) [] O .sct G (fun hc=>Ga Jg O O O) O (JLo (E6 b.Covers) [13] O .sct ⟨Ua,G⟩ (fun hc=>Ge Jv O O O) O ?_)))))
 obtain⟨r4,hr4,h⟩:=Gd h
 refine JLo (BL r4) [12,14] O .sct ⟨Ua,Ua,G⟩ (fun hc=>Gi (args:=[E6 a.Covers,E6 b.Covers]) O (H3f a.Covers b.Covers r4 (Gw hc hr4)) R5c ⟨O,O,O,O,G⟩) O (JLh (BL (r3&&r4)) (J4 O O O O) O (JLm (BL (r3&&r4)) O (JLo (.dptr ((H0.cs a).drop 2)) [] O .sct G (fun hc=>Ga J2f O O O) O (JLo (.agg (Light.cs a.Light)) [18] O .sct ⟨Ua,G⟩ (fun hc=>Gg Q8e O O O) O (JLo (.dptr ((H0.cs b).drop 2)) [] O .sct G (fun hc=>Ga J2f O O O) O (JLo (.agg (Light.cs b.Light)) [20] O .sct ⟨Ua,G⟩ (fun hc=>Gg Q8e O O O) O (JLo (BL (decide (a.Light=b.Light))) [19,21] O .sct ⟨Ua,Ua,G⟩ (fun hc=>Gfd (vs:=[.int .i64 a.Light.Kilos,.int .i64 a.Light.X,.int .i64 a.Light.Y,.int .i64 a.Light.Z]) (us:=[.int .i64 b.Light.Kilos,.int .i64 b.Light.X,.int .i64 b.Light.Y,.int .i64 b.Light.Z]) 4 O (Yaa a.Light b.Light) R13 Rda O O O) O (JLh (BL ((r3&&r4)&&(decide (a.Light=b.Light)))) (J4 O O O O) O (JLm (BL ((r3&&r4)&&(decide (a.Light=b.Light)))) O (JLo (.dptr ((H0.cs a).drop 6)) [] O .sct G (fun hc=>Ga G84 O O O) O (JLo (E8 a.Rows) [25] O .sct ⟨Ua,G⟩ (fun hc=>Ge Gea O O O) O (JLo (.dptr ((H0.cs b).drop 6)) [] O .sct G (fun hc=>Ga G84 O O O) O (JLo (E8 b.Rows) [27] O .sct ⟨Ua,G⟩ (fun hc=>Ge Gea O O O) O ?_)))))))))))))
 obtain⟨r5,hr5,h⟩:=Gd h
 refine JLo (BL r5) [26,28] O .sct ⟨Ua,Ua,G⟩ (fun hc=>Gi (args:=[E8 a.Rows,E8 b.Rows]) O (H7c a.Rows b.Rows r5 (Gw hc hr5)) R5b ⟨O,O,O,O,G⟩) O (JLh (BL (((r3&&r4)&&(decide (a.Light=b.Light)))&&r5)) (J4 O O O O) O (JLm (BL (((r3&&r4)&&(decide (a.Light=b.Light)))&&r5)) O (JLo (.dptr ((H0.cs a).drop 7)) [] O .sct G (fun hc=>Ga G83 O O O) O (JLo (E7 a.Frames) [32] O .sct ⟨Ua,G⟩ (fun hc=>Ge Ge9 O O O) O (JLo (.dptr ((H0.cs b).drop 7)) [] O .sct G (fun hc=>Ga G83 O O O) O (JLo (E7 b.Frames) [34] O .sct ⟨Ua,G⟩ (fun hc=>Ge Ge9 O O O) O ?_))))))
 obtain⟨r6,hr6,h⟩:=Gd h
 refine JLo (BL r6) [33,35] O .sct ⟨Ua,Ua,G⟩ (fun hc=>Gi (args:=[E7 a.Frames,E7 b.Frames]) O (H3e a.Frames b.Frames r6 (Gw hc hr6)) R5a ⟨O,O,O,O,G⟩) O (JLh (BL ((((r3&&r4)&&(decide (a.Light=b.Light)))&&r5)&&r6)) (J4 O O O O) O (JLm (BL ((((r3&&r4)&&(decide (a.Light=b.Light)))&&r5)&&r6)) O (JLo (.dptr ((H0.cs a).drop 8)) [] O .sct G (fun hc=>Ga G82 O O O) O (JLo (E9 a.Tanks) [39] O .sct ⟨Ua,G⟩ (fun hc=>Ge Ge8 O O O) O (JLo (.dptr ((H0.cs b).drop 8)) [] O .sct G (fun hc=>Ga G82 O O O) O (JLo (E9 b.Tanks) [41] O .sct ⟨Ua,G⟩ (fun hc=>Ge Ge8 O O O) O ?_))))))
 obtain⟨r7,hr7,h⟩:=Gd h
 refine JLo (BL r7) [40,42] O .sct ⟨Ua,Ua,G⟩ (fun hc=>Gi (args:=[E9 a.Tanks,E9 b.Tanks]) O (H6d a.Tanks b.Tanks r7 (Gw hc hr7)) R59 ⟨O,O,O,O,G⟩) O (JLh (BL (((((r3&&r4)&&(decide (a.Light=b.Light)))&&r5)&&r6)&&r7)) (J4 O O O O) O (JLm (BL (((((r3&&r4)&&(decide (a.Light=b.Light)))&&r5)&&r6)&&r7)) O (JLo (.dptr ((H0.cs a).drop 9)) [] O .sct G (fun hc=>Ga J2e O O O) O (JLo (.agg ((H0.cs a).drop 9)) [46] O .sct ⟨Ua,G⟩ (fun hc=>Gg Q8d O O O) O (JLo (.dptr ((H0.cs b).drop 9)) [] O .sct G (fun hc=>Ga J2e O O O) O (JLo (.agg ((H0.cs b).drop 9)) [48] O .sct ⟨Ua,G⟩ (fun hc=>Gg Q8d O O O) O (JLo (BL (decide (a.G1=b.G1))) [47,49] O .sct ⟨Ua,Ua,G⟩ (fun hc=>Gfd (vs:=[.int .i64 a.G1.Tolerance,.int .i64 a.G1.Trim,.int .i64 a.G1.List_,.int .i64 a.G1.Stability]) (us:=[.int .i64 b.G1.Tolerance,.int .i64 b.G1.Trim,.int .i64 b.G1.List_,.int .i64 b.G1.Stability]) 4 O (Ya9 a.G1 b.G1) R12 Rd9 O O O) O (JLh (BL ((((((r3&&r4)&&(decide (a.Light=b.Light)))&&r5)&&r6)&&r7)&&(decide (a.G1=b.G1)))) (J4 O O O O) O (JLm (BL ((((((r3&&r4)&&(decide (a.Light=b.Light)))&&r5)&&r6)&&r7)&&(decide (a.G1=b.G1)))) O (G7 (hK2 ?_)))))))))))
 refine Gq (fin1 BL h)

def Ji (out:Ln Int) (l:List Int):Option Bool:=
 bif decide ((out.1.length:Int)≠(l.length:Int)) then
 (some false)
 else
 (chk ((l.length:Int)+12) fun v6=>
  bnd (G70 v6 (out.1++out.2).length) fun m7=>
  each (fun y29 i29 (s29:Unit) nx29=>
   bnd (bif decide ((i29:Int) < (l.length:Int)) then Qm l (i29:Int) some else some default) fun y34=>
   bnd (bif ((!((decide ((i29:Int) < (l.length:Int)))&&(!(decide (y29=y34)))))&&(decide ((l.length:Int)≤(i29:Int)))) then chk ((i29:Int) - (l.length:Int)) some else some 0) fun v35=>
   bnd (bif ((!((decide ((i29:Int) < (l.length:Int)))&&(!(decide (y29=y34)))))&&(decide ((l.length:Int)≤(i29:Int)))) then Jw 1 v35 else some default) fun r36=>
   bif (((decide ((i29:Int) < (l.length:Int)))&&(!(decide (y29=y34))))||((decide ((l.length:Int)≤(i29:Int)))&&(!(decide (y29=r36))))) then
   (some false)
   else
   (nx29 ()))
  (fun(s29:Unit)=>
   some true) ((out.1++out.2).take m7) 0 ())
theorem G55 (out:Ln Int) (l:List Int) (r:Bool) (h:Ji out l=some r):Pure Ej 142 [LT 1 I64 out,E1 l] (·=BL r):=by
 unfold Ji at h
 refine Gy [.tmp 4] Tryz.func142 O O (Jr fun hK1=>(JLm (BL false) O (G7 (hK1 (Js fun hK2=>Jr fun hK3=>(JLm (LT 1 I64 out) O (JLl Gn O O O fun hm8=>(JLm (E1 l) O (JLl Gn O O O fun hm10=>(JLh (BL (decide ((out.1.length:Int)≠(l.length:Int)))) (G1d O O O) O (G7 (hK3 (JCc O h (fun h hb=>?_) (fun h hb=>?_))))))))))))))
 ·
  refine Jr fun hK4=>(JLm (BL false) O (G7 (hK4 (Gq (fin1 BL h)))))
 ·
  refine Gm (hK2 (Jr fun hK5=>(JLm (LT 1 I64 out) O (JLm (E1 l) O (JLl Gn O O O fun hm14=>?_)))))
  obtain⟨v6,hv6,h⟩:=Qk h
  refine JLh (I64 v6) (Ht hv6 O O O) O ?_
  obtain⟨m7,hm7,h⟩:=Gd h
  refine JLh (E1 ((out.1++out.2).take m7)) (H93 (f:=I64) (e:=out) O O O Gn (Zv hm7)) O (JLm (E1 ((out.1++out.2).take m7)) O (G7 (hK5 (Js fun hK8=>Jr fun hK9=>(JLm (I64 0) O (G7 (hK9 (Gp ?_))))))))
  obtain⟨b29,kx29,hb29,hkx29,h⟩:=Hv h
  refine Hc (fun i29 (s29:Unit)=>each b29 kx29 (List.drop i29 ((out.1++out.2).take m7)) i29 s29=some r) (fun i29 s29=>[(1,E1 l),(5,E1 ((out.1++out.2).take m7)),(6,Ei i29)]) (fun i29 s29=>[]) (fun i29=>((out.1++out.2).take m7).length - i29) 0 () h ⟨(.sm O O),G,O⟩ ?_
  clear h
  intro i29 s29 hi29 K29 e29
  refine Js fun hK30=>Jr fun hK31=>(JLm (Ei i29) O (JLm (E1 ((out.1++out.2).take m7)) O (JLl Gn O O O fun hm19=>(JLh (BL (decide ((i29:Int) < (((out.1++out.2).take m7).length:Int)))) (Hy O O O) O (G7 (hK31 (Gj O (fun hb=>?_) (fun hb=>?_))))))))
  ·
   have hk29:=J8 hb
   obtain⟨y29,nx29,hy29,hn29,h⟩:=Hj hi29 hk29
   replace h:=R8 hb29 h
   refine Gm (hK30 (Js fun hK32=>Gp (Js fun hK33=>?_)))
   obtain⟨y34,hy34,h⟩:=Gd h
   obtain⟨v35,hv35,h⟩:=Gd h
   obtain⟨r36,hr36,h⟩:=Gd h
   refine JC_d0 Jb (by kernel_rfl) (Dq (Ei i29) (G4 O O) O (Dq (E1 l) (G4 O O) O (Dq (Ei l.length) (Qs (f:=I64) (xs:=l) Gn O O) O (Dq (BL (decide ((i29:Int) < (l.length:Int)))) (Hy O O O) O (Dq (BL (decide ((i29:Int) < (l.length:Int)))) (G4 O O) O (Do (E1 ((out.1++out.2).take m7)) [] O .sct G (fun hc=>G4 O O) O (Do (Ei i29) [] O .sct G (fun hc=>G4 O O) O (Do (.dptr [I64 y29]) [28,29] O .sct ⟨Ua,Ua,G⟩ (fun hc=>Gv (f:=I64) (xs:=((out.1++out.2).take m7)) (y:=y29) O O O Gn hy29 O) O (Do (I64 y29) [30] O .sct ⟨Ua,G⟩ (fun hc=>Ge Gb O O O) O (Do (E1 l) [] O .sct G (fun hc=>G4 O O) O (Do (Ei i29) [] O .sct G (fun hc=>G4 O O) O (Do (.dptr [I64 y34]) [32,33] O .sct ⟨Ua,Ua,G⟩ (fun hc=>(match Q0 (Gw hc hy34) with | ⟨_,hm_,hy_⟩=>Gv (f:=I64) (xs:=l) (y:=y34) O O O Gn hy_ hm_)) O (Do (I64 y34) [34] O .sct ⟨Ua,G⟩ (fun hc=>Ge Gb O O O) O ?_)))))))))))))
   refine Do (BL (decide (y29=y34))) [31,35] O .sct ⟨Ua,Ua,G⟩ (fun hc=>Ju O O O) O (Do (BL (!(decide (y29=y34)))) [36] O .sct ⟨Ua,G⟩ (fun hc=>Q3 (b:=decide (y29=y34)) O O) O (Dq (BL ((decide ((i29:Int) < (l.length:Int)))&&(!(decide (y29=y34))))) (J4 O O O O) O (Dq (BL ((decide ((i29:Int) < (l.length:Int)))&&(!(decide (y29=y34))))) (G4 O O) O (Do (Ei i29) [] O .scf G (fun hc=>G4 O O) O (Do (E1 l) [] O .scf G (fun hc=>G4 O O) O (Do (Ei l.length) [41] O .scf ⟨Ua,G⟩ (fun hc=>Qs (f:=I64) (xs:=l) Gn O O) O (Do (BL (decide ((l.length:Int)≤(i29:Int)))) [40,42] O .scf ⟨Ua,Ua,G⟩ (fun hc=>G13 O O O) O (Do (BL (decide ((l.length:Int)≤(i29:Int)))) [43] O .scf ⟨Ua,G⟩ (fun hc=>G4 O O) O (Do (E1 ((out.1++out.2).take m7)) [] O .optt G (fun hc=>G4 O O) O (Do (Ei i29) [] O .optt G (fun hc=>G4 O O) O (Do (.dptr [I64 y29]) [45,46] O .optt ⟨Ua,Ua,G⟩ (fun hc=>Gv (f:=I64) (xs:=((out.1++out.2).take m7)) (y:=y29) O O O Gn hy29 O) O (Do (I64 y29) [47] O .optt ⟨Ua,G⟩ (fun hc=>Ge Gb O O O) O (Do (Ei i29) [] O .optt G (fun hc=>G4 O O) O ?_)))))))))))))
   refine Do (E1 l) [] O .optt G (fun hc=>G4 O O) O (Do (Ei l.length) [50] O .optt ⟨Ua,G⟩ (fun hc=>Qs (f:=I64) (xs:=l) Gn O O) O (Do (I64 v35) [49,51] O .optt ⟨Ua,Ua,G⟩ (fun hc=>Ge4 (G2d (Gw hc hv35)) O O O) O (Do (I64 r36) [52] O .optt ⟨Ua,G⟩ (fun hc=>Gi (args:=[I64 1,I64 v35]) O (Qu 1 v35 r36 (Gw hc hr36)) G7a ⟨O,O,O,O,G⟩) O (Do (BL (decide (y29=r36))) [48,53] O .optt ⟨Ua,Ua,G⟩ (fun hc=>Ju O O O) O (Do (BL (!(decide (y29=r36)))) [54] O .optt ⟨Ua,G⟩ (fun hc=>Q3 (b:=decide (y29=r36)) O O) O (Dg (.opt (!((decide ((i29:Int) < (l.length:Int)))&&(!(decide (y29=y34))))) (BL ((decide ((l.length:Int)≤(i29:Int)))&&(!(decide (y29=r36)))))) (Gh [(44,BL (decide ((l.length:Int)≤(i29:Int)))),(55,_)] O O O .scf ⟨.all id,.part,G⟩ (fun hc=>J4 O O O O) O) O (Dq (BL (((decide ((i29:Int) < (l.length:Int)))&&(!(decide (y29=y34))))||((decide ((l.length:Int)≤(i29:Int)))&&(!(decide (y29=r36)))))) (Rs O O O O) O (Dnil ?_))))))))
   refine hK33 (JCc O h (fun h hb=>?_) (fun h hb=>?_))
   ·
    refine Jr fun hK37=>(JLm (BL false) O (G7 (hK37 (Gq (fin1 BL h)))))
   ·
    refine Gm (hK32 (G2 (JLm (Ei i29) O (JLh (I64 ((i29+1:Nat):Int)) (Ht (Hb hk29 hm19) O O O) O (JLm (I64 ((i29+1:Nat):Int)) O (G7 (e29 _ _ (i29+1) () (app1 hn29 h) (by omega) ⟨(.sm O O),G,rfl⟩)))))))
  ·
   have h:=app1 hkx29 (Hk hi29 (H3 hb))
   refine Hi (hK8 (Jr fun hK38=>(JLm (BL true) O (G7 (hK38 (Gq (fin1 BL h)))))))

def Rx (x:Gz) (y:G3):Option Bool:=
 bnd (Jy (G3.mk x.Bay x.Row x.Deck x.Tiers x.Height x.Kilos20 x.Kilos40 x.Lash x.Plugs.1 x.X x.Y x.Z) y) fun r3=>
 bnd (bif r3 then Ji x.Plugs y.Plugs else some default) fun r4=>
 some (r3&&r4)
theorem H45 (x:Gz) (y:G3) (r:Bool) (h:Rx x y=some r):Pure Ej 96 [.agg (Gz.cs x),.agg (G3.cs y)] (·=BL r):=by
 unfold Rx at h
 refine Gy [.tmp 4] Tryz.func96 O O (Jr fun hK1=>(JLh (.ptr 1147 0) (J7 (cs:=(Gz.cs x)) 1147 O O O O O) O (JLh (.ptr 1148 0) (J7 (cs:=(G3.cs y)) 1148 O O O O O) O (JLm (BL false) O (G7 (hK1 (Gr [(2,.dptr (Gz.cs x)),(3,.ptr 1148 0)] [(1148,.box 64 (G3.cs y))] 1147 rfl rfl rfl ⟨⟨_,rfl,.boxEq rfl rfl⟩,G⟩ rfl (by exact⟨.ptr,.conv (.same rfl),G⟩) ?_)))))))
 refine Gr [(2,.dptr (Gz.cs x)),(3,Ed y)] [] 1148 rfl rfl rfl G rfl (by exact⟨.conv (.same rfl),.ptr,G⟩) (Jr fun hK2=>(JLh (.agg [I64 x.Bay,I64 x.Row,BL x.Deck,I64 x.Tiers,I64 x.Height,I64 x.Kilos20,I64 x.Kilos40,I64 x.Lash,E1 x.Plugs.1,I64 x.X,I64 x.Y,I64 x.Z]) (H5.cv (Cv.aggL (cs:=(Gz.cs x)) ⟨.same,.same,.same,.same,.same,.same,.same,.same,Cv.lst0 x.Plugs,.same,.same,.same,G⟩) (Gg Y6 O O O)) O (JLh (.agg (G3.cs y)) (Gg Y6 O O O) O ?_)))
 obtain⟨r3,hr3,h⟩:=Gd h
 refine JLh (BL r3) (Gi O (G44 (G3.mk x.Bay x.Row x.Deck x.Tiers x.Height x.Kilos20 x.Kilos40 x.Lash x.Plugs.1 x.X x.Y x.Z) y r3 hr3) J43 ⟨O,O,O,O,G⟩) O (JLm (BL r3) O (JLo (.dptr ((Gz.cs x).drop 8)) [] O .sct G (fun hc=>Ga Rn O O O) O (JLo (LT 1 I64 x.Plugs) [9] O .sct ⟨Ua,G⟩ (fun hc=>Ge J1 O O O) O (JLo (.dptr ((G3.cs y).drop 8)) [] O .sct G (fun hc=>Ga Rn O O O) O (JLo (E1 y.Plugs) [11] O .sct ⟨Ua,G⟩ (fun hc=>Ge J1 O O O) O ?_)))))
 obtain⟨r4,hr4,h⟩:=Gd h
 refine JLo (BL r4) [10,12] O .sct ⟨Ua,Ua,G⟩ (fun hc=>Gi (args:=[LT 1 I64 x.Plugs,E1 y.Plugs]) O (G55 x.Plugs y.Plugs r4 (Gw hc hr4)) Hec ⟨O,O,O,O,G⟩) O (JLh (BL (r3&&r4)) (J4 O O O O) O (JLm (BL (r3&&r4)) O (G7 (hK2 (Gq (fin1 BL h))))))

def Rj (out:Ln Gz) (l:List G3):Option Bool:=
 bif decide ((out.1.length:Int)≠(l.length:Int)) then
 (some false)
 else
 (chk ((l.length:Int)+12) fun v6=>
  bnd (G70 v6 (out.1++out.2).length) fun m7=>
  each (fun y33 i33 (s33:Unit) nx33=>
   bnd (bif decide ((i33:Int) < (l.length:Int)) then Qm l (i33:Int) some else some default) fun y38=>
   bnd (bif decide ((i33:Int) < (l.length:Int)) then Rx y33 y38 else some default) fun r39=>
   bnd (bif ((!((decide ((i33:Int) < (l.length:Int)))&&(!r39)))&&(decide ((l.length:Int)≤(i33:Int)))) then chk ((i33:Int) - (l.length:Int)) some else some 0) fun v40=>
   bnd (bif ((!((decide ((i33:Int) < (l.length:Int)))&&(!r39)))&&(decide ((l.length:Int)≤(i33:Int)))) then Qy 1 v40 else some default) fun r41=>
   bnd (bif ((!((decide ((i33:Int) < (l.length:Int)))&&(!r39)))&&(decide ((l.length:Int)≤(i33:Int)))) then Jy (G3.mk y33.Bay y33.Row y33.Deck y33.Tiers y33.Height y33.Kilos20 y33.Kilos40 y33.Lash y33.Plugs.1 y33.X y33.Y y33.Z) r41 else some default) fun r42=>
   bif (((decide ((i33:Int) < (l.length:Int)))&&(!r39))||((decide ((l.length:Int)≤(i33:Int)))&&(!r42))) then
   (some false)
   else
   (nx33 ()))
  (fun(s33:Unit)=>
   some true) ((out.1++out.2).take m7) 0 ())
theorem H34 (out:Ln Gz) (l:List G3) (r:Bool) (h:Rj out l=some r):Pure Ej 44 [LT 12 Gz.av out,E5 l] (·=BL r):=by
 unfold Rj at h
 refine Gy [.tmp 4] Tryz.func44 O O (Jr fun hK1=>(JLm (BL false) O (G7 (hK1 (Js fun hK2=>Jr fun hK3=>(JLm (LT 12 Gz.av out) O (JLl H6 O O O fun hm8=>(JLm (E5 l) O (JLl H6 O O O fun hm10=>(JLh (BL (decide ((out.1.length:Int)≠(l.length:Int)))) (G1d O O O) O (G7 (hK3 (JCc O h (fun h hb=>?_) (fun h hb=>?_))))))))))))))
 ·
  refine Jr fun hK4=>(JLm (BL false) O (G7 (hK4 (Gq (fin1 BL h)))))
 ·
  refine Gm (hK2 (Jr fun hK5=>(JLm (LT 12 Gz.av out) O (JLm (E5 l) O (JLl H6 O O O fun hm14=>?_)))))
  obtain⟨v6,hv6,h⟩:=Qk h
  refine JLh (I64 v6) (Ht hv6 O O O) O ?_
  obtain⟨m7,hm7,h⟩:=Gd h
  refine JLh (LS 12 Gz.av ((out.1++out.2).take m7)) (H93 (f:=Gz.av) (e:=out) O O O H6 (Zv hm7)) O (JLm (LS 12 Gz.av ((out.1++out.2).take m7)) O (G7 (hK5 (Js fun hK8=>Jr fun hK9=>(JLm (I64 0) O (G7 (hK9 (Gp ?_))))))))
  obtain⟨b33,kx33,hb33,hkx33,h⟩:=Hv h
  refine Hc (fun i33 (s33:Unit)=>each b33 kx33 (List.drop i33 ((out.1++out.2).take m7)) i33 s33=some r) (fun i33 s33=>[(1,E5 l),(5,LS 12 Gz.av ((out.1++out.2).take m7)),(6,Ei i33)]) (fun i33 s33=>[]) (fun i33=>((out.1++out.2).take m7).length - i33) 0 () h ⟨(.sm O O),G,O⟩ ?_
  clear h
  intro i33 s33 hi33 K33 e33
  refine Js fun hK34=>Jr fun hK35=>(JLm (Ei i33) O (JLm (LS 12 Gz.av ((out.1++out.2).take m7)) O (JLl H6 O O O fun hm19=>(JLh (BL (decide ((i33:Int) < (((out.1++out.2).take m7).length:Int)))) (Hy O O O) O (G7 (hK35 (Gj O (fun hb=>?_) (fun hb=>?_))))))))
  ·
   have hk33:=J8 hb
   obtain⟨y33,nx33,hy33,hn33,h⟩:=Hj hi33 hk33
   replace h:=R8 hb33 h
   refine Gm (hK34 (Js fun hK36=>Gp (Js fun hK37=>?_)))
   obtain⟨y38,hy38,h⟩:=Gd h
   obtain⟨r39,hr39,h⟩:=Gd h
   obtain⟨v40,hv40,h⟩:=Gd h
   obtain⟨r41,hr41,h⟩:=Gd h
   obtain⟨r42,hr42,h⟩:=Gd h
   refine JC_d0 Jb (by kernel_rfl) (Dq (Ei i33) (G4 O O) O (Dq (E5 l) (G4 O O) O (Dq (Ei l.length) (Qs (f:=G3.av) (xs:=l) H6 O O) O (Dq (BL (decide ((i33:Int) < (l.length:Int)))) (Hy O O O) O (Dq (BL (decide ((i33:Int) < (l.length:Int)))) (G4 O O) O (Do (LS 12 Gz.av ((out.1++out.2).take m7)) [] O .sct G (fun hc=>G4 O O) O (Do (Ei i33) [] O .sct G (fun hc=>G4 O O) O (Do (.dptr (Gz.cs y33)) [28,29] O .sct ⟨Ua,Ua,G⟩ (fun hc=>Gv (f:=Gz.av) (xs:=((out.1++out.2).take m7)) (y:=y33) O O O H6 hy33 O) O (Do (.agg (Gz.cs y33)) [30] O .sct ⟨Ua,G⟩ (fun hc=>Gg Y6 O O O) O (Do (E5 l) [] O .sct G (fun hc=>G4 O O) O (Do (Ei i33) [] O .sct G (fun hc=>G4 O O) O (Do (Ed y38) [32,33] O .sct ⟨Ua,Ua,G⟩ (fun hc=>(match Q0 (Gw hc hy38) with | ⟨_,hm_,hy_⟩=>Gv (f:=G3.av) (xs:=l) (y:=y38) O O O H6 hy_ hm_)) O (Do (.agg (G3.cs y38)) [34] O .sct ⟨Ua,G⟩ (fun hc=>Gg Y6 O O O) O ?_)))))))))))))
   refine Do (BL r39) [31,35] O .sct ⟨Ua,Ua,G⟩ (fun hc=>Gi (args:=[.agg (Gz.cs y33),.agg (G3.cs y38)]) O (H45 y33 y38 r39 (Gw hc hr39)) R58 ⟨O,O,O,O,G⟩) O (Do (BL (!r39)) [36] O .sct ⟨Ua,G⟩ (fun hc=>Q3 (b:=r39) O O) O (Dq (BL ((decide ((i33:Int) < (l.length:Int)))&&(!r39))) (J4 O O O O) O (Dq (BL ((decide ((i33:Int) < (l.length:Int)))&&(!r39))) (G4 O O) O (Do (Ei i33) [] O .scf G (fun hc=>G4 O O) O (Do (E5 l) [] O .scf G (fun hc=>G4 O O) O (Do (Ei l.length) [41] O .scf ⟨Ua,G⟩ (fun hc=>Qs (f:=G3.av) (xs:=l) H6 O O) O (Do (BL (decide ((l.length:Int)≤(i33:Int)))) [40,42] O .scf ⟨Ua,Ua,G⟩ (fun hc=>G13 O O O) O (Do (BL (decide ((l.length:Int)≤(i33:Int)))) [43] O .scf ⟨Ua,G⟩ (fun hc=>G4 O O) O (Do (LS 12 Gz.av ((out.1++out.2).take m7)) [] O .optt G (fun hc=>G4 O O) O (Do (Ei i33) [] O .optt G (fun hc=>G4 O O) O (Do (.dptr (Gz.cs y33)) [45,46] O .optt ⟨Ua,Ua,G⟩ (fun hc=>Gv (f:=Gz.av) (xs:=((out.1++out.2).take m7)) (y:=y33) O O O H6 hy33 O) O (Do (.agg [I64 y33.Bay,I64 y33.Row,BL y33.Deck,I64 y33.Tiers,I64 y33.Height,I64 y33.Kilos20,I64 y33.Kilos40,I64 y33.Lash,E1 y33.Plugs.1,I64 y33.X,I64 y33.Y,I64 y33.Z]) [47] O .optt ⟨Ua,G⟩ (fun hc=>H5.cv (Cv.aggL (cs:=(Gz.cs y33)) ⟨.same,.same,.same,.same,.same,.same,.same,.same,Cv.lst0 y33.Plugs,.same,.same,.same,G⟩) (Gg Y6 O O O)) O (Do (Ei i33) [] O .optt G (fun hc=>G4 O O) O ?_)))))))))))))
   refine Do (E5 l) [] O .optt G (fun hc=>G4 O O) O (Do (Ei l.length) [50] O .optt ⟨Ua,G⟩ (fun hc=>Qs (f:=G3.av) (xs:=l) H6 O O) O (Do (I64 v40) [49,51] O .optt ⟨Ua,Ua,G⟩ (fun hc=>Ge4 (G2d (Gw hc hv40)) O O O) O (Do (.agg (G3.cs r41)) [52] O .optt ⟨Ua,G⟩ (fun hc=>Gi (args:=[I64 1,I64 v40]) O (G90 1 v40 r41 (Gw hc hr41)) Q0f ⟨O,O,O,O,G⟩) O (Do (BL r42) [48,53] O .optt ⟨Ua,Ua,G⟩ (fun hc=>Gi (args:=[.agg [I64 y33.Bay,I64 y33.Row,BL y33.Deck,I64 y33.Tiers,I64 y33.Height,I64 y33.Kilos20,I64 y33.Kilos40,I64 y33.Lash,E1 y33.Plugs.1,I64 y33.X,I64 y33.Y,I64 y33.Z],.agg (G3.cs r41)]) O (G44 (G3.mk y33.Bay y33.Row y33.Deck y33.Tiers y33.Height y33.Kilos20 y33.Kilos40 y33.Lash y33.Plugs.1 y33.X y33.Y y33.Z) r41 r42 (Gw hc hr42)) J43 ⟨O,O,O,O,G⟩) O (Do (BL (!r42)) [54] O .optt ⟨Ua,G⟩ (fun hc=>Q3 (b:=r42) O O) O (Dg (.opt (!((decide ((i33:Int) < (l.length:Int)))&&(!r39))) (BL ((decide ((l.length:Int)≤(i33:Int)))&&(!r42)))) (Gh [(44,BL (decide ((l.length:Int)≤(i33:Int)))),(55,_)] O O O .scf ⟨.all id,.part,G⟩ (fun hc=>J4 O O O O) O) O (Dq (BL (((decide ((i33:Int) < (l.length:Int)))&&(!r39))||((decide ((l.length:Int)≤(i33:Int)))&&(!r42)))) (Rs O O O O) O (Dnil ?_))))))))
   refine hK37 (JCc O h (fun h hb=>?_) (fun h hb=>?_))
   ·
    refine Jr fun hK43=>(JLm (BL false) O (G7 (hK43 (Gq (fin1 BL h)))))
   ·
    refine Gm (hK36 (G2 (JLm (Ei i33) O (JLh (I64 ((i33+1:Nat):Int)) (Ht (Hb hk33 hm19) O O O) O (JLm (I64 ((i33+1:Nat):Int)) O (G7 (e33 _ _ (i33+1) () (app1 hn33 h) (by omega) ⟨(.sm O O),G,rfl⟩)))))))
  ·
   have h:=app1 hkx33 (Hk hi33 (H3 hb))
   refine Hi (hK8 (Jr fun hK44=>(JLm (BL true) O (G7 (hK44 (Gq (fin1 BL h)))))))

def Yb (x:H9) (y:G8):Option Bool:=
 bnd (Q6 (G8.mk x.Bay x.Rows.1) y) fun r3=>
 bnd (bif r3 then Ji x.Rows y.Rows else some default) fun r4=>
 some (r3&&r4)
theorem H71 (x:H9) (y:G8) (r:Bool) (h:Yb x y=some r):Pure Ej 98 [.agg [I64 x.Bay,LT 1 I64 x.Rows],.agg [I64 y.Bay,E1 y.Rows]] (·=BL r):=by
 unfold Yb at h
 refine Gy [.tmp 4] Tryz.func98 O O (Jr fun hK1=>(JLh (.ptr 1151 0) (J7 (cs:=[I64 x.Bay,LT 1 I64 x.Rows]) 1151 O O O O O) O (JLh (.ptr 1152 0) (J7 (cs:=[I64 y.Bay,E1 y.Rows]) 1152 O O O O O) O (JLm (BL false) O (G7 (hK1 (Gr [(2,.dptr [I64 x.Bay,LT 1 I64 x.Rows]),(3,.ptr 1152 0)] [(1152,.box 66 [I64 y.Bay,E1 y.Rows])] 1151 rfl rfl rfl ⟨⟨_,rfl,.boxEq rfl rfl⟩,G⟩ rfl (by exact⟨.ptr,.conv (.same rfl),G⟩) (Gr [(2,.dptr [I64 x.Bay,LT 1 I64 x.Rows]),(3,.dptr [I64 y.Bay,E1 y.Rows])] [] 1152 rfl rfl rfl G rfl (by exact⟨.conv (.same rfl),.ptr,G⟩) ?_))))))))
 refine Jr fun hK2=>(JLh (.agg [I64 x.Bay,E1 x.Rows.1]) (H5.cv (Cv.aggL (cs:=[I64 x.Bay,LT 1 I64 x.Rows]) ⟨.same,Cv.lst0 x.Rows,G⟩) (Gg Z0 O O O)) O (JLh (.agg [I64 y.Bay,E1 y.Rows]) (Gg Z0 O O O) O ?_))
 obtain⟨r3,hr3,h⟩:=Gd h
 refine JLh (BL r3) (Gi O (G4d (G8.mk x.Bay x.Rows.1) y r3 hr3) J42 ⟨O,O,O,O,G⟩) O (JLm (BL r3) O (JLo (.dptr [LT 1 I64 x.Rows]) [] O .sct G (fun hc=>Ga Qf O O O) O (JLo (LT 1 I64 x.Rows) [9] O .sct ⟨Ua,G⟩ (fun hc=>Ge J1 O O O) O (JLo (.dptr [E1 y.Rows]) [] O .sct G (fun hc=>Ga Qf O O O) O (JLo (E1 y.Rows) [11] O .sct ⟨Ua,G⟩ (fun hc=>Ge J1 O O O) O ?_)))))
 obtain⟨r4,hr4,h⟩:=Gd h
 refine JLo (BL r4) [10,12] O .sct ⟨Ua,Ua,G⟩ (fun hc=>Gi (args:=[LT 1 I64 x.Rows,E1 y.Rows]) O (G55 x.Rows y.Rows r4 (Gw hc hr4)) Hec ⟨O,O,O,O,G⟩) O (JLh (BL (r3&&r4)) (J4 O O O O) O (JLm (BL (r3&&r4)) O (G7 (hK2 (Gq (fin1 BL h))))))
end
end Go.Proofs.YthcpolfodgjekaaGreat
