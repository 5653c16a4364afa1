/-
 Models of functions of the program,and that they return what the models say.
-/
import Derived.Test.YtfkilljboodoaaaGreatSpecG
set_option maxRecDepth 100000
set_option linter.unusedVariables false
set_option linter.unusedSimpArgs false
namespace Go.Proofs.YtfkilljboodoaaaGreat
open Go.RowKit
noncomputable section
structure Gu where
 Bay:Int
 Row:Int
 Deck:Bool
 Tiers:Int
 Height:Int
 Kilos20:Int
 Kilos40:Int
 Lash:Int
 Plugs:Ln Int
 X:Int
 Y:Int
 Z:Int
 deriving Inhabited
def Gu.cs (x:Gu):List AV:=[G1 x.Bay,G1 x.Row,BL x.Deck,G1 x.Tiers,G1 x.Height,G1 x.Kilos20,G1 x.Kilos40,G1 x.Lash,LT 1 G1 x.Plugs,G1 x.X,G1 x.Y,G1 x.Z]
def Gu.av (x:Gu):AV:=.agg x.cs
abbrev Ea:=LS 12 Gu.av
def Gu.pl (x:Gu):Ga:=⟨x.Bay,x.Row,x.Deck,x.Tiers,x.Height,x.Kilos20,x.Kilos40,x.Lash,Prod.fst x.Plugs,x.X,x.Y,x.Z⟩
def Gu.of (x:Ga):Gu:=⟨x.Bay,x.Row,x.Deck,x.Tiers,x.Height,x.Kilos20,x.Kilos40,x.Lash,(fun e=>(e,[])) x.Plugs,x.X,x.Y,x.Z⟩
theorem Gu.cvl (x:Gu):Hfb (Gu.cs x) (Ga.cs x.pl):=⟨.same,.same,.same,.same,.same,.same,.same,.same,Cv.lst0 x.Plugs,.same,.same,.same,trivial⟩
structure H5 where
 Bay:Int
 Rows:Ln Int
 deriving Inhabited
def H5.cs (x:H5):List AV:=[G1 x.Bay,LT 1 G1 x.Rows]
def H5.av (x:H5):AV:=.agg x.cs
abbrev Eb:=LS 2 H5.av
def H5.pl (x:H5):Gm:=⟨x.Bay,Prod.fst x.Rows⟩
def H5.of (x:Gm):H5:=⟨x.Bay,(fun e=>(e,[])) x.Rows⟩
theorem H5.cvl (x:H5):Hfb (H5.cs x) (Gm.cs x.pl):=⟨.same,Cv.lst0 x.Rows,trivial⟩
structure Hd where
 Kilos:Int
 X:Int
 Y:Int
 Z:Int
 Surface:Int
 Steps:Ln Int
 deriving Inhabited
def Hd.cs (x:Hd):List AV:=[G1 x.Kilos,G1 x.X,G1 x.Y,G1 x.Z,G1 x.Surface,LT 1 G1 x.Steps]
def Hd.av (x:Hd):AV:=.agg x.cs
abbrev Ec:=LS 6 Hd.av
def Hd.pl (x:Hd):Gw:=⟨x.Kilos,x.X,x.Y,x.Z,x.Surface,Prod.fst x.Steps⟩
def Hd.of (x:Gw):Hd:=⟨x.Kilos,x.X,x.Y,x.Z,x.Surface,(fun e=>(e,[])) x.Steps⟩
theorem Hd.cvl (x:Hd):Hfb (Hd.cs x) (Gw.cs x.pl):=⟨.same,.same,.same,.same,.same,Cv.lst0 x.Steps,trivial⟩
structure Ry where
 Columns:Ln Gu
 Covers:Ln H5
 Light:Light
 Rows:Ln Row
 Frames:Ln Frame
 Tanks:Ln Hd
 G7:G7
 deriving Inhabited
def Ry.cs (x:Ry):List AV:=[LT 12 Gu.av x.Columns,LT 2 H5.av x.Covers,G1 x.Light.Kilos,G1 x.Light.X,G1 x.Light.Y,G1 x.Light.Z,LT 5 Row.av x.Rows,LT 5 Frame.av x.Frames,LT 6 Hd.av x.Tanks,G1 x.G7.Tolerance,G1 x.G7.Trim,G1 x.G7.List_,G1 x.G7.Stability]
def Ry.av (x:Ry):AV:=.agg x.cs
abbrev Em (x:Ry):AV:=.dptr (Ry.cs x)
def Ry.pl (x:Ry):J0:=⟨(fun e=>e.1.map Gu.pl) x.Columns,(fun e=>e.1.map H5.pl) x.Covers,x.Light,Prod.fst x.Rows,Prod.fst x.Frames,(fun e=>e.1.map Hd.pl) x.Tanks,x.G7⟩
def Ry.of (x:J0):Ry:=⟨(fun e=>(e.map Gu.of,[])) x.Columns,(fun e=>(e.map H5.of,[])) x.Covers,x.Light,(fun e=>(e,[])) x.Rows,(fun e=>(e,[])) x.Frames,(fun e=>(e.map Hd.of,[])) x.Tanks,x.G7⟩
theorem Ry.cvl (x:Ry):Hfb (Ry.cs x) (J0.cs x.pl):=⟨Cv.lstM (f:=Gu.av) (g:=Ga.av) Gu.pl Gu.cvl x.Columns,Cv.lstM (f:=H5.av) (g:=Gm.av) H5.pl H5.cvl x.Covers,.same,.same,.same,.same,Cv.lst0 x.Rows,Cv.lst0 x.Frames,Cv.lstM (f:=Hd.av) (g:=Gw.av) Hd.pl Hd.cvl x.Tanks,.same,.same,.same,.same,trivial⟩
namespace XLF
open XAF
theorem tq_117 (a b:H4):H4f Tryz.prog 4 117 [.int .i64 a.ID,.string a.Number,.int .u8 a.Size,.bool a.High,.int .i64 a.Kilos,.int .i64 a.Load,.int .i64 a.Discharge,.int .u8 a.Class,.bool a.Reefer] [.int .i64 b.ID,.string b.Number,.int .u8 b.Size,.bool b.High,.int .i64 b.Kilos,.int .i64 b.Load,.int .i64 b.Discharge,.int .u8 b.Class,.bool b.Reefer]=some (decide (a=b)):=by
 refine(show _=some ((a.ID==b.ID)&&((a.Number==b.Number)&&((a.Size==b.Size)&&((a.High==b.High)&&((a.Kilos==b.Kilos)&&((a.Load==b.Load)&&((a.Discharge==b.Discharge)&&((a.Class==b.Class)&&((a.Reefer==b.Reefer)&&true))))))))) by kernel_rfl).trans (congrArg some ?_)
 rw [Bool.eq_iff_iff]
 simp only [Bool.and_eq_true,ba_beq_iff,beq_iff_eq,decide_eq_true_eq,Bool.and_true]
 constructor
 ·intro h; obtain⟨_,_,_,_,_,_,_,_,_⟩:=a; obtain⟨_,_,_,_,_,_,_,_,_⟩:=b; simp_all
 ·intro h; subst h; simp
theorem tq_228 (a b:Row):H4f Tryz.prog 4 228 [.int .i64 a.Draught,.int .i64 a.Kilos,.int .i64 a.Buoy,.int .i64 a.Metacentre,.int .i64 a.Ha9] [.int .i64 b.Draught,.int .i64 b.Kilos,.int .i64 b.Buoy,.int .i64 b.Metacentre,.int .i64 b.Ha9]=some (decide (a=b)):=by
 refine(show _=some ((a.Draught==b.Draught)&&((a.Kilos==b.Kilos)&&((a.Buoy==b.Buoy)&&((a.Metacentre==b.Metacentre)&&((a.Ha9==b.Ha9)&&true))))) by kernel_rfl).trans (congrArg some ?_)
 rw [Bool.eq_iff_iff]
 simp only [Bool.and_eq_true,beq_iff_eq,decide_eq_true_eq,Bool.and_true]
 constructor
 ·intro h; obtain⟨_,_,_,_,_⟩:=a; obtain⟨_,_,_,_,_⟩:=b; simp_all
 ·intro h; subst h; simp
theorem tq_231 (a b:Frame):H4f Tryz.prog 4 231 [.int .i64 a.X,.int .i64 a.Light,.int .i64 a.Share,.int .i64 a.Shear,.int .i64 a.Bend] [.int .i64 b.X,.int .i64 b.Light,.int .i64 b.Share,.int .i64 b.Shear,.int .i64 b.Bend]=some (decide (a=b)):=by
 refine(show _=some ((a.X==b.X)&&((a.Light==b.Light)&&((a.Share==b.Share)&&((a.Shear==b.Shear)&&((a.Bend==b.Bend)&&true))))) by kernel_rfl).trans (congrArg some ?_)
 rw [Bool.eq_iff_iff]
 simp only [Bool.and_eq_true,beq_iff_eq,decide_eq_true_eq,Bool.and_true]
 constructor
 ·intro h; obtain⟨_,_,_,_,_⟩:=a; obtain⟨_,_,_,_,_⟩:=b; simp_all
 ·intro h; subst h; simp
theorem tq_25 (a b:Light):H4f Tryz.prog 4 25 [.int .i64 a.Kilos,.int .i64 a.X,.int .i64 a.Y,.int .i64 a.Z] [.int .i64 b.Kilos,.int .i64 b.X,.int .i64 b.Y,.int .i64 b.Z]=some (decide (a=b)):=by
 refine(show _=some ((a.Kilos==b.Kilos)&&((a.X==b.X)&&((a.Y==b.Y)&&((a.Z==b.Z)&&true)))) by kernel_rfl).trans (congrArg some ?_)
 rw [Bool.eq_iff_iff]
 simp only [Bool.and_eq_true,beq_iff_eq,decide_eq_true_eq,Bool.and_true]
 constructor
 ·intro h; obtain⟨_,_,_,_⟩:=a; obtain⟨_,_,_,_⟩:=b; simp_all
 ·intro h; subst h; simp
theorem tq_30 (a b:G7):H4f Tryz.prog 4 30 [.int .i64 a.Tolerance,.int .i64 a.Trim,.int .i64 a.List_,.int .i64 a.Stability] [.int .i64 b.Tolerance,.int .i64 b.Trim,.int .i64 b.List_,.int .i64 b.Stability]=some (decide (a=b)):=by
 refine(show _=some ((a.Tolerance==b.Tolerance)&&((a.Trim==b.Trim)&&((a.List_==b.List_)&&((a.Stability==b.Stability)&&true)))) by kernel_rfl).trans (congrArg some ?_)
 rw [Bool.eq_iff_iff]
 simp only [Bool.and_eq_true,beq_iff_eq,decide_eq_true_eq,Bool.and_true]
 constructor
 ·intro h; obtain⟨_,_,_,_⟩:=a; obtain⟨_,_,_,_⟩:=b; simp_all
 ·intro h; subst h; simp
theorem Gbe:Gc2 Tryz.prog 228 5=true:=by kernel_rfl
theorem Gbd:Gc2 Tryz.prog 231 5=true:=by kernel_rfl
theorem G0c:Gc2 Tryz.prog 234 6=true:=by kernel_rfl
theorem Jb5:Gc2 Tryz.prog 25 4=true:=by kernel_rfl
theorem Jb4:Gc2 Tryz.prog 30 4=true:=by kernel_rfl
theorem Jd:Gc2 Tryz.prog 32 13=true:=by kernel_rfl
theorem Hda:G11 Tryz.prog 117=true:=by kernel_rfl
theorem H63:G11 Tryz.prog 228=true:=by kernel_rfl
theorem H62:G11 Tryz.prog 231=true:=by kernel_rfl
theorem Jea:G11 Tryz.prog 25=true:=by kernel_rfl
theorem Je9:G11 Tryz.prog 30=true:=by kernel_rfl
theorem G9a:G11 Tryz.prog 72=true:=by kernel_rfl
theorem Hfe:J47 Tryz.prog 4=true:=by kernel_rfl
theorem Je7:Hn Tryz.prog 100=true:=by kernel_rfl
theorem J35:Hn Tryz.prog 101=true:=by kernel_rfl
theorem Je5:Hn Tryz.prog 116=true:=by kernel_rfl
theorem Jde:Hn Tryz.prog 138=true:=by kernel_rfl
theorem J2b:Hn Tryz.prog 139=true:=by kernel_rfl
theorem Jdd:Hn Tryz.prog 140=true:=by kernel_rfl
theorem J2a:Hn Tryz.prog 141=true:=by kernel_rfl
theorem J29:Hn Tryz.prog 142=true:=by kernel_rfl
theorem J28:Hn Tryz.prog 143=true:=by kernel_rfl
theorem Jdc:Hn Tryz.prog 144=true:=by kernel_rfl
theorem J27:Hn Tryz.prog 145=true:=by kernel_rfl
theorem G31:Hn Tryz.prog 146=true:=by kernel_rfl
theorem H98:Hn Tryz.prog 148=true:=by kernel_rfl
theorem Jd8:Hn Tryz.prog 175=true:=by kernel_rfl
theorem Jd7:Hn Tryz.prog 176=true:=by kernel_rfl
theorem Jd6:Hn Tryz.prog 177=true:=by kernel_rfl
theorem Jd5:Hn Tryz.prog 178=true:=by kernel_rfl
theorem Jd4:Hn Tryz.prog 179=true:=by kernel_rfl
theorem Jd3:Hn Tryz.prog 180=true:=by kernel_rfl
theorem H97:Hn Tryz.prog 181=true:=by kernel_rfl
theorem Jd2:Hn Tryz.prog 182=true:=by kernel_rfl
theorem H96:Hn Tryz.prog 183=true:=by kernel_rfl
theorem Jd1:Hn Tryz.prog 184=true:=by kernel_rfl
theorem H95:Hn Tryz.prog 185=true:=by kernel_rfl
theorem H94:Hn Tryz.prog 189=true:=by kernel_rfl
theorem Hc8:Hn Tryz.prog 19=true:=by kernel_rfl
theorem H93:Hn Tryz.prog 213=true:=by kernel_rfl
theorem Q02:Hn Tryz.prog 63=true:=by kernel_rfl
theorem Q01:Hn Tryz.prog 64=true:=by kernel_rfl
theorem Q00:Hn Tryz.prog 65=true:=by kernel_rfl
theorem Jff:Hn Tryz.prog 66=true:=by kernel_rfl
theorem Jfe:Hn Tryz.prog 67=true:=by kernel_rfl
theorem J75:Hn Tryz.prog 68=true:=by kernel_rfl
theorem Jfd:Hn Tryz.prog 83=true:=by kernel_rfl
theorem Jfc:Hn Tryz.prog 84=true:=by kernel_rfl
theorem Jfb:Hn Tryz.prog 85=true:=by kernel_rfl
theorem Jfa:Hn Tryz.prog 86=true:=by kernel_rfl
theorem Jf9:Hn Tryz.prog 87=true:=by kernel_rfl
theorem Jf8:Hn Tryz.prog 88=true:=by kernel_rfl
theorem J72:Hn Tryz.prog 99=true:=by kernel_rfl
theorem H30:Zp Tryz.prog 112 12 112=true:=by kernel_rfl
theorem H92:Zp Tryz.prog 114 2 32=true:=by kernel_rfl
theorem H91:Zp Tryz.prog 117 9 64=true:=by kernel_rfl
theorem H90:Zp Tryz.prog 228 5 40=true:=by kernel_rfl
theorem H8f:Zp Tryz.prog 231 5 40=true:=by kernel_rfl
theorem H8e:Zp Tryz.prog 234 6 64=true:=by kernel_rfl
theorem G08:Zp Tryz.prog 3 1 8=true:=by kernel_rfl
theorem Gfc:Zp Tryz.prog 72 2 16=true:=by kernel_rfl
theorem H60:Zp Tryz.prog 88 1 24=true:=by kernel_rfl
theorem J70:Tryz.prog.eqGuardType Tryz.prog.depth 117=false:=by kernel_rfl
theorem Hc7:Tryz.prog.eqGuardType Tryz.prog.depth 228=false:=by kernel_rfl
theorem Hc6:Tryz.prog.eqGuardType Tryz.prog.depth 231=false:=by kernel_rfl
theorem tf_eqg_25:Tryz.prog.eqGuardType Tryz.prog.depth 25=false:=by kernel_rfl
theorem tf_eqg_30:Tryz.prog.eqGuardType Tryz.prog.depth 30=false:=by kernel_rfl
theorem Gf4:Tryz.prog.eqGuardType Tryz.prog.depth 72=false:=by kernel_rfl
theorem H8c:Q1 Tryz.prog 234 0 0=true:=by kernel_rfl
theorem H8b:Q1 Tryz.prog 234 1 1=true:=by kernel_rfl
theorem H8a:Q1 Tryz.prog 234 2 2=true:=by kernel_rfl
theorem H89:Q1 Tryz.prog 234 3 3=true:=by kernel_rfl
theorem H88:Q1 Tryz.prog 234 4 4=true:=by kernel_rfl
theorem G3f:Q1 Tryz.prog 234 5 5=true:=by kernel_rfl
theorem Hc3:Q1 Tryz.prog 32 2 2=true:=by kernel_rfl
theorem G56:Q1 Tryz.prog 32 3 6=true:=by kernel_rfl
theorem G55:Q1 Tryz.prog 32 4 7=true:=by kernel_rfl
theorem G54:Q1 Tryz.prog 32 5 8=true:=by kernel_rfl
theorem Hc2:Q1 Tryz.prog 32 6 9=true:=by kernel_rfl
theorem Hc0:placesOf Tryz.prog 112=some [(0,1),(1,1),(2,1),(3,1),(4,1),(5,1),(6,1),(7,1),(8,1),(9,1),(10,1),(11,1)]:=by kernel_rfl
theorem Jb3:placesOf Tryz.prog 114=some [(0,1),(1,1)]:=by kernel_rfl
theorem G36:placesOf Tryz.prog 117=some [(0,1),(1,1),(2,1),(3,1),(4,1),(5,1),(6,1),(7,1),(8,1)]:=by kernel_rfl
theorem Jb2:placesOf Tryz.prog 228=some [(0,1),(1,1),(2,1),(3,1),(4,1)]:=by kernel_rfl
theorem Jb1:placesOf Tryz.prog 231=some [(0,1),(1,1),(2,1),(3,1),(4,1)]:=by kernel_rfl
theorem Jb0:placesOf Tryz.prog 234=some [(0,1),(1,1),(2,1),(3,1),(4,1),(5,1)]:=by kernel_rfl
theorem Ga5:Z6 Tryz.prog 26=true:=by kernel_rfl
theorem Ga4:Z6 Tryz.prog 27=true:=by kernel_rfl
theorem Ga3:Z6 Tryz.prog 28=true:=by kernel_rfl
theorem Rv:Z6 Tryz.prog 88=true:=by kernel_rfl
theorem J6d:Zb Tryz.prog 22 1=true:=by kernel_rfl
theorem Jc5:Zb Tryz.prog 228 5=true:=by kernel_rfl
theorem Jf6:Zb Tryz.prog 23 1=true:=by kernel_rfl
theorem Jc4:Zb Tryz.prog 231 5=true:=by kernel_rfl
theorem H86:Zb Tryz.prog 234 6=true:=by kernel_rfl
theorem Jf5:Zb Tryz.prog 26 1=true:=by kernel_rfl
theorem Jf4:Zb Tryz.prog 27 1=true:=by kernel_rfl
theorem Jf3:Zb Tryz.prog 28 1=true:=by kernel_rfl
theorem Hc5:Zb Tryz.prog 32 13=true:=by kernel_rfl
theorem Gfb:Zb Tryz.prog 51 1=true:=by kernel_rfl
theorem Jy:sliceB Tryz.prog 26 228 5=true:=by kernel_rfl
theorem Jx:sliceB Tryz.prog 27 231 5=true:=by kernel_rfl
theorem Ji:sliceB Tryz.prog 28 234 6=true:=by kernel_rfl
theorem J1:sliceB Tryz.prog 70 88 1=true:=by kernel_rfl
theorem Ha:sliceB Tryz.prog 88 72 2=true:=by kernel_rfl
theorem H2f:(Tryz.prog.info? 112).bind (fun i=>i.zero.map Value.cells)=some (List.toArray [.int .i64 0,.int .i64 0,.bool false,.int .i64 0,.int .i64 0,.int .i64 0,.int .i64 0,.int .i64 0,.slice none 0 0,.int .i64 0,.int .i64 0,.int .i64 0]):=by kernel_rfl
theorem H85:(Tryz.prog.info? 114).bind (fun i=>i.zero.map Value.cells)=some (List.toArray [.int .i64 0,.slice none 0 0]):=by kernel_rfl
theorem G46:(Tryz.prog.info? 117).bind (fun i=>i.zero.map Value.cells)=some (List.toArray [.int .i64 0,.string ByteArray.empty,.int .u8 0,.bool false,.int .i64 0,.int .i64 0,.int .i64 0,.int .u8 0,.bool false]):=by kernel_rfl
theorem J1f:(Tryz.prog.info? 228).bind (fun i=>i.zero.map Value.cells)=some (List.toArray [.int .i64 0,.int .i64 0,.int .i64 0,.int .i64 0,.int .i64 0]):=by kernel_rfl
theorem J1e:(Tryz.prog.info? 231).bind (fun i=>i.zero.map Value.cells)=some (List.toArray [.int .i64 0,.int .i64 0,.int .i64 0,.int .i64 0,.int .i64 0]):=by kernel_rfl
theorem H84:(Tryz.prog.info? 234).bind (fun i=>i.zero.map Value.cells)=some (List.toArray [.int .i64 0,.int .i64 0,.int .i64 0,.int .i64 0,.int .i64 0,.slice none 0 0]):=by kernel_rfl
theorem Hc4:(Tryz.prog.info? 32).bind (fun i=>i.zero.map Value.cells)=some (List.toArray [.slice none 0 0,.slice none 0 0,.int .i64 0,.int .i64 0,.int .i64 0,.int .i64 0,.slice none 0 0,.slice none 0 0,.slice none 0 0,.int .i64 0,.int .i64 0,.int .i64 0,.int .i64 0]):=by kernel_rfl
theorem Jba:Zd Tryz.prog 228 5=true:=by kernel_rfl
theorem Jb9:Zd Tryz.prog 231 5=true:=by kernel_rfl
theorem H5c:Zd Tryz.prog 234 6=true:=by kernel_rfl
theorem H2e:Zd Tryz.prog 88 1=true:=by kernel_rfl
end XLF
open XAF
open XLF

def Jf (k:Int) (i:Int):Option Int:=
 Rm (k+7) fun v3=>
 Rm (1000003*v3) fun v4=>
 Rm (v4+i) fun v5=>
 some v5
theorem Qf (k:Int) (i:Int) (r:Int) (h:Jf k i=some r):Pure Tryz.prog 146 [G1 k,G1 i] (·=G1 r):=by
 unfold Jf at h
 refine H1 [.tmp 4] Tryz.func146 G G (G5 fun K1 hK1=>G3 (JLh (G1 0) (G8 G G) G (G9 (hK1 _ _ (G5 fun K2 hK2=>G3 (JLh (G1 k) (G4 G G) G ?_))))))
 obtain⟨v3,hv3,h⟩:=Hf h
 refine JLh (G1 v3) (Hj hv3 G G G) G ?_
 obtain⟨v4,hv4,h⟩:=Hf h
 refine JLh (G1 v4) (G77 hv4 G G G) G (JLh (G1 i) (G4 G G) G ?_)
 obtain⟨v5,hv5,h⟩:=Hf h
 refine JLh (G1 v5) (Hj hv5 G G G) G (JLh (G1 v5) (G8 G G) G (G9 (hK2 _ _ (Gx (⟨[G1 v5],[],ø,G,⟨⟨_,G,.conv (.same G)⟩,ø⟩,G,congrArg (fun r:Int=>(G1 r:AV)) (Option.some.inj h)⟩)))))

def R6 (l:List Int):Option (Ln Int):=
 Rm ((l.length:Int)+12) fun v3=>
 bnd (G9b v3) fun m4=>
 need (decide (8*m4≤281474976710656∧m4≤maxLen)) <|
 need (decide ((([]:List Int).length+l.length)*8≤140737488355328∧([]:List Int).length+l.length≤maxLen)) <|
 need (decide (12≤9223372036854775807)) <|
 upto (fun i19 (s19:(List Int)) nx19=>
  bnd (Jf 1 (i19:Int)) fun r23=>
  need (decide ((s19.length+[r23].length)*8≤140737488355328∧s19.length+[r23].length≤maxLen)) <|
  nx19 (s19++[r23]))
 (fun(s19:(List Int))=>
  bnd (G10 (l.length:Int) s19.length) fun m26=>
  some (s19.take m26,s19.drop m26)) (12:Int).toNat 0 (([]:List Int)++l)
theorem G2b (l:List Int) (r:(Ln Int)) (h:R6 l=some r):Pure Tryz.prog 148 [E0 l] (·=LT 1 G1 r):=by
 unfold R6 at h
 refine H1 [.tmp 2] Tryz.func148 G G (G5 fun K1 hK1=>G3 (JLh (E0 ([]:List Int)) (Rs 1 G G) G (G9 (hK1 _ _ (G5 fun K2 hK2=>G3 (JLh (E0 l) (G4 G G) G (H0 (f:=G1) (xs:=l) Gt G G (fun hm6=>?_) G G G)))))))
 obtain⟨v3,hv3,h⟩:=Hf h
 refine JLh (G1 v3) (Hj hv3 G G G) G ?_
 obtain⟨m4,hm4,h⟩:=Gf h
 obtain⟨ha5,h⟩:=Hr h
 refine JLh (OW 1113 1 G1 ([]:List Int)) (G72 1113 G G G G Gt G08 G (Jt hm4) ha5) G (JLh (OW 1113 1 G1 ([]:List Int)) (G8 G G) G (G9 (hK2 _ _ (G5 fun K6 hK6=>G3 (JLh (OW 1113 1 G1 ([]:List Int)) (G4 G G) G (JLh (E0 l) (G4 G G) G ?_))))))
 obtain⟨ha7,h⟩:=Hr h
 refine JLh (OW 1113 1 G1 (([]:List Int)++l)) (Gf9 (f:=G1) (xs:=([]:List Int)) (ys:=l) G G G G Gt G08 ha7 (fun _=>G) (.inl G)) G (JLh (OW 1113 1 G1 (([]:List Int)++l)) (G8 G G) G (G9 (hK6 _ _ (G5 (fun K8 hK8=>G5 fun K9 hK9=>G3 (JLh (G1 0) (G8 G G) G (G9 (hK9 _ _ (Gn ?_)))))))))
 obtain⟨hx19,h⟩:=Hr h
 obtain⟨b19,kx19,hb19,hkx19,h⟩:=G59 h
 refine H7 (fun i19 (s19:(List Int))=>upto b19 kx19 ((12:Int).toNat - i19) i19 s19=some r) (fun i19 s19=>[(0,E0 l),(3,OW 1113 1 G1 s19),(4,En i19)]) (fun i19 s19=>[(1113,.spare 3 1 s19.length s19.length)]) (fun i19=>(12:Int).toNat - i19) 0 (([]:List Int)++l) h ⟨⟨.same G,.same G,.same G,ø⟩,⟨⟨_,G,.same⟩,ø⟩,G⟩ ?_
 clear h
 intro i19 s19 hi19 K19 e19
 refine G5 (fun K20 hK20=>G5 fun K21 hK21=>G3 (JLh (En i19) (G4 G G) G (JLh (BL (decide ((i19:Int) < 12))) (Hx G G G) G (G9 (hK21 _ _ (Gp G (fun hb=>?_) (fun hb=>?_)))))))
 ·
  have hk19:=G33 hb
  obtain⟨nx19,hn19,h⟩:=G2f hi19 hk19
  replace h:=H82 hb19 h
  refine Gq (hK20 _ _ (G5 (fun K22 hK22=>Gn (G3 (JLh (OW 1113 1 G1 s19) (G4 G G) G (JLh (En i19) (G4 G G) G ?_))))))
  obtain⟨r23,hr23,h⟩:=Gf h
  refine JLh (G1 r23) (Gs (args:=[G1 1,En i19]) G (Qf 1 (i19:Int) r23 hr23) G31 ⟨G,G,G,G,ø⟩) G (JLh (E0 [r23]) (Hs (xs:=[G1 r23]) G ⟨G,G,ø⟩ Gt G92 G G G G) G ?_)
  obtain⟨ha24,h⟩:=Hr h
  refine JLh (OW 1113 1 G1 (s19++[r23])) (Qx (f:=G1) (xs:=s19) (ys:=[r23]) G G G G Gt G08 ha24 (fun _=>G) (.inl G) G) G (JLh (OW 1113 1 G1 (s19++[r23])) (G8 G G) G (G9 (hK22 _ _ (G3 (JLh (En i19) (G4 G G) G (JLh (G1 ((i19+1:Nat):Int)) (Hj (Hi hk19 (G07 hx19)) G G G) G (JLh (G1 ((i19+1:Nat):Int)) (G8 G G) G (G9 (e19 _ _ (i19+1) (s19++[r23]) (app1 hn19 h) (by omega) ⟨⟨.same rfl,.same rfl,.same rfl,ø⟩,⟨⟨_,rfl,.same⟩,ø⟩,rfl⟩)))))))))
 ·
  have h:=app1 hkx19 (G30 hi19 (Rx hb))
  refine Hc (hK8 _ _ (G5 fun K25 hK25=>G3 (JLh (OW 1113 1 G1 s19) (G4 G G) G (JLh (E0 l) (G4 G G) G (H0 (f:=G1) (xs:=l) Gt G G (fun hm23=>?_) G G G)))))
  obtain⟨m26,hm26,h⟩:=Gf h
  refine JLh (LT 1 G1 (s19.take m26,s19.drop m26)) (Hfa (f:=G1) (xs:=s19) G G G Gt (Qn hm26)) G (JLh (LT 1 G1 (s19.take m26,s19.drop m26)) (G8 G G) G (G9 (hK25 _ _ (Gx (⟨[LT 1 G1 (s19.take m26,s19.drop m26)],[],ø,G,⟨⟨_,G,.conv (.same G)⟩,ø⟩,G,congrArg (fun r:(Ln Int)=>(LT 1 G1 r:AV)) (Option.some.inj h)⟩)))))

def Yh (x:Ga):Option Gu:=
 bnd (R6 x.Plugs) fun r3=>
 some (Gu.mk x.Bay x.Row x.Deck x.Tiers x.Height x.Kilos20 x.Kilos40 x.Lash r3 x.X x.Y x.Z)
theorem Ged (x:Ga) (r:Gu) (h:Yh x=some r):Pure Tryz.prog 138 [.agg (Ga.cs x)] (·=.agg (Gu.cs r)):=by
 unfold Yh at h
 refine H1 [.cell 2 112] Tryz.func138 G G (G5 fun K1 hK1=>G3 (JLh (.ptr 1102 0) (Qi (u:=.agg (Ga.cs x)) (cs:=(Ga.cs x)) 1102 G G G G G) G (JLh (.ptr 1103 0) (G15 1103 [G1 0,G1 0,BL false,G1 0,G1 0,G1 0,G1 0,G1 0,E0 ([]:List Int),G1 0,G1 0,G1 0] [.int .i64 0,.int .i64 0,.bool false,.int .i64 0,.int .i64 0,.int .i64 0,.int .i64 0,.int .i64 0,.slice none 0 0,.int .i64 0,.int .i64 0,.int .i64 0] H2f ⟨.inl G,.inl G,.inl G,.inl G,.inl G,.inl G,.inl G,.inl G,.inr ⟨_,G,G⟩,.inl G,.inl G,.inl G,ø⟩ G G) G (G9 (hK1 _ _ ?_)))))
 refine G5 fun K2 hK2=>G3 (JLh (.ptr 1102 8) (Qr Qo G G) G (JLh (E0 x.Plugs) (G35 Hv G G G G) G ?_))
 obtain⟨r3,hr3,h⟩:=Gf h
 refine JLh (LT 1 G1 r3) (Gs (args:=[E0 x.Plugs]) G (G2b x.Plugs r3 hr3) H98 ⟨G,G,ø⟩) G (JLh (.ptr 1102 8) (Qr Qo G G) G (Jb (u:=.junk) (J4 (u:=LT 1 G1 r3) (ds:=[G1 x.Bay,G1 x.Row,BL x.Deck,G1 x.Tiers,G1 x.Height,G1 x.Kilos20,G1 x.Kilos40,G1 x.Lash,LT 1 G1 r3,G1 x.X,G1 x.Y,G1 x.Z]) Gfb G G G G G G G G) (G9 (hK2 _ _ (Gz [(1,.dptr [G1 x.Bay,G1 x.Row,BL x.Deck,G1 x.Tiers,G1 x.Height,G1 x.Kilos20,G1 x.Kilos40,G1 x.Lash,LT 1 G1 r3,G1 x.X,G1 x.Y,G1 x.Z]),(2,.ptr 1103 0)] [(1103,.box 112 [G1 0,G1 0,BL false,G1 0,G1 0,G1 0,G1 0,G1 0,E0 ([]:List Int),G1 0,G1 0,G1 0])] 1102 rfl rfl rfl ⟨⟨_,rfl,.boxEq rfl rfl⟩,ø⟩ rfl (by exact⟨.ptr,.conv (.same rfl),ø⟩) ?_)))))
 refine G5 fun K4 hK4=>G3 (JLh (.agg [G1 x.Bay,G1 x.Row,BL x.Deck,G1 x.Tiers,G1 x.Height,G1 x.Kilos20,G1 x.Kilos40,G1 x.Lash,LT 1 G1 r3,G1 x.X,G1 x.Y,G1 x.Z]) (Gi Y6 G G G) G (Jb (u:=.junk) (J4 (u:=.agg [G1 x.Bay,G1 x.Row,BL x.Deck,G1 x.Tiers,G1 x.Height,G1 x.Kilos20,G1 x.Kilos40,G1 x.Lash,LT 1 G1 r3,G1 x.X,G1 x.Y,G1 x.Z]) (ds:=[G1 x.Bay,G1 x.Row,BL x.Deck,G1 x.Tiers,G1 x.Height,G1 x.Kilos20,G1 x.Kilos40,G1 x.Lash,LT 1 G1 r3,G1 x.X,G1 x.Y,G1 x.Z]) G99 G G G G G G G G) (G9 (hK4 _ _ (Gx ?_)))))
 exact⟨[.agg [G1 x.Bay,G1 x.Row,BL x.Deck,G1 x.Tiers,G1 x.Height,G1 x.Kilos20,G1 x.Kilos40,G1 x.Lash,LT 1 G1 r3,G1 x.X,G1 x.Y,G1 x.Z]],[],ø,G,⟨⟨_,⟨_,_,_,_,G,G,G,.inl ⟨Y6,G⟩⟩,.conv (.same G)⟩,ø⟩,G,congrArg (fun r:Gu=>(.agg (Gu.cs r):AV)) (Option.some.inj h)⟩

def Qk (k:Int) (i:Int):Option Ga:=
 bnd (Jf k i) fun r3=>
 some (Ga.mk r3 0 false 0 0 0 0 0 [] 0 0 0)
theorem G5b (k:Int) (i:Int) (r:Ga) (h:Qk k i=some r):Pure Tryz.prog 139 [G1 k,G1 i] (·=.agg (Ga.cs r)):=by
 unfold Qk at h
 refine H1 [.cell 4 112] Tryz.func139 G G (G5 fun K1 hK1=>G3 (JLh (.ptr 1104 0) (G15 1104 [G1 0,G1 0,BL false,G1 0,G1 0,G1 0,G1 0,G1 0,E0 ([]:List Int),G1 0,G1 0,G1 0] [.int .i64 0,.int .i64 0,.bool false,.int .i64 0,.int .i64 0,.int .i64 0,.int .i64 0,.int .i64 0,.slice none 0 0,.int .i64 0,.int .i64 0,.int .i64 0] H2f ⟨.inl G,.inl G,.inl G,.inl G,.inl G,.inl G,.inl G,.inl G,.inr ⟨_,G,G⟩,.inl G,.inl G,.inl G,ø⟩ G G) G (G9 (hK1 _ _ (G5 fun K2 hK2=>G3 (JLh (G1 k) (G4 G G) G (JLh (G1 i) (G4 G G) G ?_)))))))
 obtain⟨r3,hr3,h⟩:=Gf h
 refine JLh (G1 r3) (Gs (args:=[G1 k,G1 i]) G (Qf k i r3 hr3) G31 ⟨G,G,G,G,ø⟩) G (JLh (.agg [G1 r3,G1 0,BL false,G1 0,G1 0,G1 0,G1 0,G1 0,E0 ([]:List Int),G1 0,G1 0,G1 0]) (Q0 (cs:=[G1 r3,G1 0,BL false,G1 0,G1 0,G1 0,G1 0,G1 0,E0 ([]:List Int),G1 0,G1 0,G1 0]) [(0,1),(1,1),(2,1),(3,1),(4,1),(5,1),(6,1),(7,1),(8,1),(9,1),(10,1),(11,1)] [G1 0,G1 0,BL false,G1 0,G1 0,G1 0,G1 0,G1 0,E0 ([]:List Int),G1 0,G1 0,G1 0] [.int .i64 0,.int .i64 0,.bool false,.int .i64 0,.int .i64 0,.int .i64 0,.int .i64 0,.int .i64 0,.slice none 0 0,.int .i64 0,.int .i64 0,.int .i64 0] Hc0 H2f ⟨.inl G,.inl G,.inl G,.inl G,.inl G,.inl G,.inl G,.inl G,.inr ⟨_,G,G⟩,.inl G,.inl G,.inl G,ø⟩ G G) G (Jb (u:=.junk) (J4 (u:=.agg [G1 r3,G1 0,BL false,G1 0,G1 0,G1 0,G1 0,G1 0,E0 ([]:List Int),G1 0,G1 0,G1 0]) (ds:=[G1 r3,G1 0,BL false,G1 0,G1 0,G1 0,G1 0,G1 0,E0 ([]:List Int),G1 0,G1 0,G1 0]) G99 G G G G G G G G) (G9 (hK2 _ _ ?_))))
 refine Gx (⟨[.agg [G1 r3,G1 0,BL false,G1 0,G1 0,G1 0,G1 0,G1 0,E0 ([]:List Int),G1 0,G1 0,G1 0]],[],ø,G,⟨⟨_,⟨_,_,_,_,G,G,G,.inl ⟨Y6,G⟩⟩,.conv (.same G)⟩,ø⟩,G,congrArg (fun r:Ga=>(.agg (Ga.cs r):AV)) (Option.some.inj h)⟩)

def Y8 (l:List Ga):Option (Ln Gu):=
 Rm ((l.length:Int)+12) fun v3=>
 bnd (G9b v3) fun m4=>
 need (decide (112*m4≤281474976710656∧m4≤maxLen)) <|
 each (fun y23 i23 (s23:(List Gu)) nx23=>
  bnd (Yh y23) fun r28=>
  need (decide ((s23.length+[r28].length)*112≤140737488355328∧s23.length+[r28].length≤maxLen)) <|
  nx23 (s23++[r28]))
 (fun(s23:(List Gu))=>
  need (decide (12≤9223372036854775807)) <|
  upto (fun i41 (s41:(List Gu)) nx41=>
   bnd (Qk 1 (i41:Int)) fun r45=>
   need (decide ((s41.length+[(Gu.mk r45.Bay r45.Row r45.Deck r45.Tiers r45.Height r45.Kilos20 r45.Kilos40 r45.Lash (r45.Plugs,([]:List Int)) r45.X r45.Y r45.Z)].length)*112≤140737488355328∧s41.length+[(Gu.mk r45.Bay r45.Row r45.Deck r45.Tiers r45.Height r45.Kilos20 r45.Kilos40 r45.Lash (r45.Plugs,([]:List Int)) r45.X r45.Y r45.Z)].length≤maxLen)) <|
   nx41 (s41++[(Gu.mk r45.Bay r45.Row r45.Deck r45.Tiers r45.Height r45.Kilos20 r45.Kilos40 r45.Lash (r45.Plugs,([]:List Int)) r45.X r45.Y r45.Z)]))
  (fun(s41:(List Gu))=>
   bnd (G10 (l.length:Int) s41.length) fun m48=>
   some (s41.take m48,s41.drop m48)) (12:Int).toNat 0 s23) l 0 []
theorem Gdb (l:List Ga) (r:(Ln Gu)) (h:Y8 l=some r):Pure Tryz.prog 63 [E5 l] (·=LT 12 Gu.av r):=by
 unfold Y8 at h
 refine H1 [.tmp 2] Tryz.func63 G G (G5 fun K1 hK1=>G3 (JLh (E5 ([]:List Ga)) (Rs 12 G G) G (G9 (hK1 _ _ (G5 fun K2 hK2=>G3 (JLh (E5 l) (G4 G G) G (H0 (f:=Ga.av) (xs:=l) Hb G G (fun hm8=>?_) G G G)))))))
 obtain⟨v3,hv3,h⟩:=Hf h
 refine JLh (G1 v3) (Hj hv3 G G G) G ?_
 obtain⟨m4,hm4,h⟩:=Gf h
 obtain⟨ha5,h⟩:=Hr h
 refine JLh (OW 1050 12 Gu.av ([]:List Gu)) (G72 1050 G G G G Hb H30 G (Jt hm4) ha5) G (JLh (OW 1050 12 Gu.av ([]:List Gu)) (G8 G G) G (G9 (hK2 _ _ (G5 (fun K6 hK6=>G5 fun K7 hK7=>G3 (JLh (G1 0) (G8 G G) G (G9 (hK7 _ _ (Gn ?_)))))))))
 obtain⟨b23,kx23,hb23,hkx23,h⟩:=J9 h
 refine H7 (fun i23 (s23:(List Gu))=>each b23 kx23 (List.drop i23 l) i23 s23=some r) (fun i23 s23=>[(0,E5 l),(3,OW 1050 12 Gu.av s23),(4,En i23)]) (fun i23 s23=>[(1050,.spare 112 12 s23.length s23.length)]) (fun i23=>l.length - i23) 0 [] h ⟨⟨.same G,.same G,.same G,ø⟩,⟨⟨_,G,.same⟩,ø⟩,G⟩ ?_
 clear h
 intro i23 s23 hi23 K23 e23
 refine G5 (fun K24 hK24=>G5 fun K25 hK25=>G3 (JLh (En i23) (G4 G G) G (JLh (E5 l) (G4 G G) G (H0 (f:=Ga.av) (xs:=l) Hb G G (fun hm13=>?_) G G G))))
 refine JLh (BL (decide ((i23:Int) < (l.length:Int)))) (Hx G G G) G (G9 (hK25 _ _ (Gp G (fun hb=>?_) (fun hb=>?_))))
 ·
  have hk23:=Jm hb
  obtain⟨y23,nx23,hy23,hn23,h⟩:=Hy hi23 hk23
  replace h:=Zn hb23 h
  refine Gq (hK24 _ _ (G5 (fun K26 hK26=>Gn (G5 fun K27 hK27=>G3 (JLh (E5 l) (G4 G G) G (JLh (En i23) (G4 G G) G (JLh (Ef y23) (Gv (f:=Ga.av) (xs:=l) (y:=y23) G G G Hb hy23 G) G (JLh (.agg (Ga.cs y23)) (Gi Y6 G G G) G ?_))))))))
  obtain⟨r28,hr28,h⟩:=Gf h
  refine JLh (.agg (Gu.cs r28)) (Gs (args:=[.agg (Ga.cs y23)]) G (Ged y23 r28 hr28) Jde ⟨G,G,ø⟩) G (JLh (.ptr 1049 0) (Jn 1049 12 G4a G G) G (Jb (u:=.junk) (J4 (u:=.agg (Gu.cs r28)) (ds:=(Gu.cs r28)) G99 G G G G G G G G) (G9 (hK27 _ _ (Gz [(0,E5 l),(3,OW 1050 12 Gu.av s23),(4,En i23),(5,.dptr (Gu.cs r28))] [(1050,.spare 112 12 s23.length s23.length)] 1049 rfl rfl rfl ⟨⟨_,rfl,.same⟩,ø⟩ rfl (by repeat' (first | exact .ptr | constructor)) (G3 ?_))))))
  refine JLh (OW 1050 12 Gu.av s23) (G4 G G) G (JLh (.agg (Gu.cs r28)) (Gi Y6 G G G) G (JLh (Ea [r28]) (Hs (xs:=[.agg (Gu.cs r28)]) G ⟨G,G,ø⟩ Hb G4a G G G G) G ?_))
  obtain⟨ha29,h⟩:=Hr h
  refine JLh (OW 1050 12 Gu.av (s23++[r28])) (Qx (f:=Gu.av) (xs:=s23) (ys:=[r28]) G G G G Hb H30 ha29 (fun _=>G) (.inl G) G) G (JLh (OW 1050 12 Gu.av (s23++[r28])) (G8 G G) G (G9 (hK26 _ _ (G3 (JLh (En i23) (G4 G G) G (JLh (G1 ((i23+1:Nat):Int)) (Hj (Hi hk23 hm13) G G G) G (JLh (G1 ((i23+1:Nat):Int)) (G8 G G) G (G9 (e23 _ _ (i23+1) (s23++[r28]) (app1 hn23 h) (by omega) ⟨⟨.same rfl,.same rfl,.same rfl,ø⟩,⟨⟨_,rfl,.same⟩,ø⟩,rfl⟩)))))))))
 ·
  have h:=app1 hkx23 (Hz hi23 (Hg hb))
  refine Hc (hK6 _ _ (G5 (fun K30 hK30=>G5 fun K31 hK31=>G3 (JLh (G1 0) (G8 G G) G (G9 (hK31 _ _ (Gn ?_)))))))
  obtain⟨hx41,h⟩:=Hr h
  obtain⟨b41,kx41,hb41,hkx41,h⟩:=G59 h
  refine H7 (fun i41 (s41:(List Gu))=>upto b41 kx41 ((12:Int).toNat - i41) i41 s41=some r) (fun i41 s41=>[(0,E5 l),(3,OW 1050 12 Gu.av s41),(6,En i41)]) (fun i41 s41=>[(1050,.spare 112 12 s41.length s41.length)]) (fun i41=>(12:Int).toNat - i41) 0 s23 h ⟨⟨.same G,.same G,.same G,ø⟩,⟨⟨_,G,.same⟩,ø⟩,G⟩ ?_
  clear h
  intro i41 s41 hi41 K41 e41
  refine G5 (fun K42 hK42=>G5 fun K43 hK43=>G3 (JLh (En i41) (G4 G G) G (JLh (BL (decide ((i41:Int) < 12))) (Hx G G G) G (G9 (hK43 _ _ (Gp G (fun hb=>?_) (fun hb=>?_)))))))
  ·
   have hk41:=G33 hb
   obtain⟨nx41,hn41,h⟩:=G2f hi41 hk41
   replace h:=H82 hb41 h
   refine Gq (hK42 _ _ (G5 (fun K44 hK44=>Gn (G3 (JLh (OW 1050 12 Gu.av s41) (G4 G G) G (JLh (En i41) (G4 G G) G ?_))))))
   obtain⟨r45,hr45,h⟩:=Gf h
   refine JLh (.agg [G1 r45.Bay,G1 r45.Row,BL r45.Deck,G1 r45.Tiers,G1 r45.Height,G1 r45.Kilos20,G1 r45.Kilos40,G1 r45.Lash,LT 1 G1 (r45.Plugs,([]:List Int)),G1 r45.X,G1 r45.Y,G1 r45.Z]) (H2.cv (Cv.aggL (cs:=(Ga.cs r45)) ⟨.same,.same,.same,.same,.same,.same,.same,.same,Cv.of0 r45.Plugs,.same,.same,.same,ø⟩) (Gs (args:=[G1 1,En i41]) G (G5b 1 (i41:Int) r45 hr45) J2b ⟨G,G,G,G,ø⟩)) G (JLh (Ea ([(Gu.mk r45.Bay r45.Row r45.Deck r45.Tiers r45.Height r45.Kilos20 r45.Kilos40 r45.Lash (r45.Plugs,([]:List Int)) r45.X r45.Y r45.Z)])) (Hs (xs:=[.agg [G1 r45.Bay,G1 r45.Row,BL r45.Deck,G1 r45.Tiers,G1 r45.Height,G1 r45.Kilos20,G1 r45.Kilos40,G1 r45.Lash,LT 1 G1 (r45.Plugs,([]:List Int)),G1 r45.X,G1 r45.Y,G1 r45.Z]]) G ⟨G,G,ø⟩ Hb G4a G G G G) G ?_)
   obtain⟨ha46,h⟩:=Hr h
   refine JLh (OW 1050 12 Gu.av (s41++[(Gu.mk r45.Bay r45.Row r45.Deck r45.Tiers r45.Height r45.Kilos20 r45.Kilos40 r45.Lash (r45.Plugs,([]:List Int)) r45.X r45.Y r45.Z)])) (Qx (f:=Gu.av) (xs:=s41) (ys:=[(Gu.mk r45.Bay r45.Row r45.Deck r45.Tiers r45.Height r45.Kilos20 r45.Kilos40 r45.Lash (r45.Plugs,([]:List Int)) r45.X r45.Y r45.Z)]) G G G G Hb H30 ha46 (fun _=>G) (.inl G) G) G (JLh (OW 1050 12 Gu.av (s41++[(Gu.mk r45.Bay r45.Row r45.Deck r45.Tiers r45.Height r45.Kilos20 r45.Kilos40 r45.Lash (r45.Plugs,([]:List Int)) r45.X r45.Y r45.Z)])) (G8 G G) G (G9 (hK44 _ _ (G3 (JLh (En i41) (G4 G G) G (JLh (G1 ((i41+1:Nat):Int)) (Hj (Hi hk41 (G07 hx41)) G G G) G (JLh (G1 ((i41+1:Nat):Int)) (G8 G G) G (G9 ?_))))))))
   exact e41 _ _ (i41+1) (s41++[(Gu.mk r45.Bay r45.Row r45.Deck r45.Tiers r45.Height r45.Kilos20 r45.Kilos40 r45.Lash (r45.Plugs,([]:List Int)) r45.X r45.Y r45.Z)]) (app1 hn41 h) (by omega) ⟨⟨.same rfl,.same rfl,.same rfl,ø⟩,⟨⟨_,rfl,.same⟩,ø⟩,rfl⟩
  ·
   have h:=app1 hkx41 (G30 hi41 (Rx hb))
   refine Hc (hK30 _ _ (G5 fun K47 hK47=>G3 (JLh (OW 1050 12 Gu.av s41) (G4 G G) G (JLh (E5 l) (G4 G G) G (H0 (f:=Ga.av) (xs:=l) Hb G G (fun hm37=>?_) G G G)))))
   obtain⟨m48,hm48,h⟩:=Gf h
   refine JLh (LT 12 Gu.av (s41.take m48,s41.drop m48)) (Hfa (f:=Gu.av) (xs:=s41) G G G Hb (Qn hm48)) G (JLh (LT 12 Gu.av (s41.take m48,s41.drop m48)) (G8 G G) G (G9 (hK47 _ _ (Gx (⟨[LT 12 Gu.av (s41.take m48,s41.drop m48)],[],ø,G,⟨⟨_,G,.conv (.same G)⟩,ø⟩,G,congrArg (fun r:(Ln Gu)=>(LT 12 Gu.av r:AV)) (Option.some.inj h)⟩)))))

def Yq (x:Gm):Option H5:=
 bnd (R6 x.Rows) fun r3=>
 some (H5.mk x.Bay r3)
theorem H13 (x:Gm) (r:H5) (h:Yq x=some r):Pure Tryz.prog 140 [.agg [G1 x.Bay,E0 x.Rows]] (·=.agg [G1 r.Bay,LT 1 G1 r.Rows]):=by
 unfold Yq at h
 refine H1 [.cell 2 114] Tryz.func140 G G (G5 fun K1 hK1=>G3 (JLh (.ptr 1105 0) (Qi (u:=.agg [G1 x.Bay,E0 x.Rows]) (cs:=[G1 x.Bay,E0 x.Rows]) 1105 G G G G G) G (JLh (.ptr 1106 0) (G15 1106 [G1 0,E0 ([]:List Int)] [.int .i64 0,.slice none 0 0] H85 ⟨.inl G,.inr ⟨_,G,G⟩,ø⟩ G G) G (G9 (hK1 _ _ (G5 fun K2 hK2=>G3 (JLh (.ptr 1105 1) (Qr Jz G G) G (JLh (E0 x.Rows) (G35 Hv G G G G) G ?_))))))))
 obtain⟨r3,hr3,h⟩:=Gf h
 refine JLh (LT 1 G1 r3) (Gs (args:=[E0 x.Rows]) G (G2b x.Rows r3 hr3) H98 ⟨G,G,ø⟩) G (JLh (.ptr 1105 1) (Qr Jz G G) G (Jb (u:=.junk) (J4 (u:=LT 1 G1 r3) (ds:=[G1 x.Bay,LT 1 G1 r3]) Gfb G G G G G G G G) (G9 (hK2 _ _ (Gz [(1,.dptr [G1 x.Bay,LT 1 G1 r3]),(2,.ptr 1106 0)] [(1106,.box 114 [G1 0,E0 ([]:List Int)])] 1105 rfl rfl rfl ⟨⟨_,rfl,.boxEq rfl rfl⟩,ø⟩ rfl (by exact⟨.ptr,.conv (.same rfl),ø⟩) (G5 fun K4 hK4=>G3 (JLh (.agg [G1 x.Bay,LT 1 G1 r3]) (Gi Yv G G G) G (Jb (u:=.junk) (J4 (u:=.agg [G1 x.Bay,LT 1 G1 r3]) (ds:=[G1 x.Bay,LT 1 G1 r3]) G98 G G G G G G G G) (G9 (hK4 _ _ (Gx ?_)))))))))))
 exact⟨[.agg [G1 x.Bay,LT 1 G1 r3]],[],ø,G,⟨⟨_,⟨_,_,_,_,G,G,G,.inl ⟨Yv,G⟩⟩,.conv (.same G)⟩,ø⟩,G,congrArg (fun r:H5=>(.agg [G1 r.Bay,LT 1 G1 r.Rows]:AV)) (Option.some.inj h)⟩

def Qv (k:Int) (i:Int):Option Gm:=
 bnd (Jf k i) fun r3=>
 some (Gm.mk r3 [])
theorem G65 (k:Int) (i:Int) (r:Gm) (h:Qv k i=some r):Pure Tryz.prog 141 [G1 k,G1 i] (·=.agg [G1 r.Bay,E0 r.Rows]):=by
 unfold Qv at h
 refine H1 [.cell 4 114] Tryz.func141 G G (G5 fun K1 hK1=>G3 (JLh (.ptr 1107 0) (G15 1107 [G1 0,E0 ([]:List Int)] [.int .i64 0,.slice none 0 0] H85 ⟨.inl G,.inr ⟨_,G,G⟩,ø⟩ G G) G (G9 (hK1 _ _ (G5 fun K2 hK2=>G3 (JLh (G1 k) (G4 G G) G (JLh (G1 i) (G4 G G) G ?_)))))))
 obtain⟨r3,hr3,h⟩:=Gf h
 refine JLh (G1 r3) (Gs (args:=[G1 k,G1 i]) G (Qf k i r3 hr3) G31 ⟨G,G,G,G,ø⟩) G (JLh (.agg [G1 r3,E0 ([]:List Int)]) (Q0 (cs:=[G1 r3,E0 ([]:List Int)]) [(0,1),(1,1)] [G1 0,E0 ([]:List Int)] [.int .i64 0,.slice none 0 0] Jb3 H85 ⟨.inl G,.inr ⟨_,G,G⟩,ø⟩ G G) G (Jb (u:=.junk) (J4 (u:=.agg [G1 r3,E0 ([]:List Int)]) (ds:=[G1 r3,E0 ([]:List Int)]) G98 G G G G G G G G) (G9 (hK2 _ _ (Gx (⟨[.agg [G1 r3,E0 ([]:List Int)]],[],ø,G,⟨⟨_,⟨_,_,_,_,G,G,G,.inl ⟨Yv,G⟩⟩,.conv (.same G)⟩,ø⟩,G,congrArg (fun r:Gm=>(.agg [G1 r.Bay,E0 r.Rows]:AV)) (Option.some.inj h)⟩))))))

def Yg (l:List Gm):Option (Ln H5):=
 Rm ((l.length:Int)+12) fun v3=>
 bnd (G9b v3) fun m4=>
 need (decide (32*m4≤281474976710656∧m4≤maxLen)) <|
 each (fun y23 i23 (s23:(List H5)) nx23=>
  bnd (Yq y23) fun r28=>
  need (decide ((s23.length+[r28].length)*32≤140737488355328∧s23.length+[r28].length≤maxLen)) <|
  nx23 (s23++[r28]))
 (fun(s23:(List H5))=>
  need (decide (12≤9223372036854775807)) <|
  upto (fun i41 (s41:(List H5)) nx41=>
   bnd (Qv 1 (i41:Int)) fun r45=>
   need (decide ((s41.length+[(H5.mk r45.Bay (r45.Rows,([]:List Int)))].length)*32≤140737488355328∧s41.length+[(H5.mk r45.Bay (r45.Rows,([]:List Int)))].length≤maxLen)) <|
   nx41 (s41++[(H5.mk r45.Bay (r45.Rows,([]:List Int)))]))
  (fun(s41:(List H5))=>
   bnd (G10 (l.length:Int) s41.length) fun m48=>
   some (s41.take m48,s41.drop m48)) (12:Int).toNat 0 s23) l 0 []
theorem Gec (l:List Gm) (r:(Ln H5)) (h:Yg l=some r):Pure Tryz.prog 64 [E4 l] (·=LT 2 H5.av r):=by
 unfold Yg at h
 refine H1 [.tmp 2] Tryz.func64 G G (G5 fun K1 hK1=>G3 (JLh (E4 ([]:List Gm)) (Rs 2 G G) G (G9 (hK1 _ _ (G5 fun K2 hK2=>G3 (JLh (E4 l) (G4 G G) G (H0 (f:=Gm.av) (xs:=l) J2 G G (fun hm8=>?_) G G G)))))))
 obtain⟨v3,hv3,h⟩:=Hf h
 refine JLh (G1 v3) (Hj hv3 G G G) G ?_
 obtain⟨m4,hm4,h⟩:=Gf h
 obtain⟨ha5,h⟩:=Hr h
 refine JLh (OW 1052 2 H5.av ([]:List H5)) (G72 1052 G G G G J2 H92 G (Jt hm4) ha5) G (JLh (OW 1052 2 H5.av ([]:List H5)) (G8 G G) G (G9 (hK2 _ _ (G5 (fun K6 hK6=>G5 fun K7 hK7=>G3 (JLh (G1 0) (G8 G G) G (G9 (hK7 _ _ (Gn ?_)))))))))
 obtain⟨b23,kx23,hb23,hkx23,h⟩:=J9 h
 refine H7 (fun i23 (s23:(List H5))=>each b23 kx23 (List.drop i23 l) i23 s23=some r) (fun i23 s23=>[(0,E4 l),(3,OW 1052 2 H5.av s23),(4,En i23)]) (fun i23 s23=>[(1052,.spare 114 2 s23.length s23.length)]) (fun i23=>l.length - i23) 0 [] h ⟨⟨.same G,.same G,.same G,ø⟩,⟨⟨_,G,.same⟩,ø⟩,G⟩ ?_
 clear h
 intro i23 s23 hi23 K23 e23
 refine G5 (fun K24 hK24=>G5 fun K25 hK25=>G3 (JLh (En i23) (G4 G G) G (JLh (E4 l) (G4 G G) G (H0 (f:=Gm.av) (xs:=l) J2 G G (fun hm13=>?_) G G G))))
 refine JLh (BL (decide ((i23:Int) < (l.length:Int)))) (Hx G G G) G (G9 (hK25 _ _ (Gp G (fun hb=>?_) (fun hb=>?_))))
 ·
  have hk23:=Jm hb
  obtain⟨y23,nx23,hy23,hn23,h⟩:=Hy hi23 hk23
  replace h:=Zn hb23 h
  refine Gq (hK24 _ _ (G5 (fun K26 hK26=>Gn (G5 fun K27 hK27=>G3 (JLh (E4 l) (G4 G G) G (JLh (En i23) (G4 G G) G (JLh (.dptr [G1 y23.Bay,E0 y23.Rows]) (Gv (f:=Gm.av) (xs:=l) (y:=y23) G G G J2 hy23 G) G (JLh (.agg [G1 y23.Bay,E0 y23.Rows]) (Gi Yv G G G) G ?_))))))))
  obtain⟨r28,hr28,h⟩:=Gf h
  refine JLh (.agg [G1 r28.Bay,LT 1 G1 r28.Rows]) (Gs (args:=[.agg [G1 y23.Bay,E0 y23.Rows]]) G (H13 y23 r28 hr28) Jdd ⟨G,G,ø⟩) G (JLh (.ptr 1051 0) (Jn 1051 2 G67 G G) G (Jb (u:=.junk) (J4 (u:=.agg [G1 r28.Bay,LT 1 G1 r28.Rows]) (ds:=[G1 r28.Bay,LT 1 G1 r28.Rows]) G98 G G G G G G G G) (G9 (hK27 _ _ (Gz [(0,E4 l),(3,OW 1052 2 H5.av s23),(4,En i23),(5,.dptr [G1 r28.Bay,LT 1 G1 r28.Rows])] [(1052,.spare 114 2 s23.length s23.length)] 1051 rfl rfl rfl ⟨⟨_,rfl,.same⟩,ø⟩ rfl (by repeat' (first | exact .ptr | constructor)) (G3 ?_))))))
  refine JLh (OW 1052 2 H5.av s23) (G4 G G) G (JLh (.agg [G1 r28.Bay,LT 1 G1 r28.Rows]) (Gi Yv G G G) G (JLh (Eb [r28]) (Hs (xs:=[.agg [G1 r28.Bay,LT 1 G1 r28.Rows]]) G ⟨G,G,ø⟩ J2 G67 G G G G) G ?_))
  obtain⟨ha29,h⟩:=Hr h
  refine JLh (OW 1052 2 H5.av (s23++[r28])) (Qx (f:=H5.av) (xs:=s23) (ys:=[r28]) G G G G J2 H92 ha29 (fun _=>G) (.inl G) G) G (JLh (OW 1052 2 H5.av (s23++[r28])) (G8 G G) G (G9 (hK26 _ _ (G3 (JLh (En i23) (G4 G G) G (JLh (G1 ((i23+1:Nat):Int)) (Hj (Hi hk23 hm13) G G G) G (JLh (G1 ((i23+1:Nat):Int)) (G8 G G) G (G9 (e23 _ _ (i23+1) (s23++[r28]) (app1 hn23 h) (by omega) ⟨⟨.same rfl,.same rfl,.same rfl,ø⟩,⟨⟨_,rfl,.same⟩,ø⟩,rfl⟩)))))))))
 ·
  have h:=app1 hkx23 (Hz hi23 (Hg hb))
  refine Hc (hK6 _ _ (G5 (fun K30 hK30=>G5 fun K31 hK31=>G3 (JLh (G1 0) (G8 G G) G (G9 (hK31 _ _ (Gn ?_)))))))
  obtain⟨hx41,h⟩:=Hr h
  obtain⟨b41,kx41,hb41,hkx41,h⟩:=G59 h
  refine H7 (fun i41 (s41:(List H5))=>upto b41 kx41 ((12:Int).toNat - i41) i41 s41=some r) (fun i41 s41=>[(0,E4 l),(3,OW 1052 2 H5.av s41),(6,En i41)]) (fun i41 s41=>[(1052,.spare 114 2 s41.length s41.length)]) (fun i41=>(12:Int).toNat - i41) 0 s23 h ⟨⟨.same G,.same G,.same G,ø⟩,⟨⟨_,G,.same⟩,ø⟩,G⟩ ?_
  clear h
  intro i41 s41 hi41 K41 e41
  refine G5 (fun K42 hK42=>G5 fun K43 hK43=>G3 (JLh (En i41) (G4 G G) G (JLh (BL (decide ((i41:Int) < 12))) (Hx G G G) G (G9 (hK43 _ _ (Gp G (fun hb=>?_) (fun hb=>?_)))))))
  ·
   have hk41:=G33 hb
   obtain⟨nx41,hn41,h⟩:=G2f hi41 hk41
   replace h:=H82 hb41 h
   refine Gq (hK42 _ _ (G5 (fun K44 hK44=>Gn (G3 (JLh (OW 1052 2 H5.av s41) (G4 G G) G (JLh (En i41) (G4 G G) G ?_))))))
   obtain⟨r45,hr45,h⟩:=Gf h
   refine JLh (.agg [G1 r45.Bay,LT 1 G1 (r45.Rows,([]:List Int))]) (H2.cv (Cv.aggL (cs:=[G1 r45.Bay,E0 r45.Rows]) ⟨.same,Cv.of0 r45.Rows,ø⟩) (Gs (args:=[G1 1,En i41]) G (G65 1 (i41:Int) r45 hr45) J2a ⟨G,G,G,G,ø⟩)) G (JLh (Eb ([(H5.mk r45.Bay (r45.Rows,([]:List Int)))])) (Hs (xs:=[.agg [G1 r45.Bay,LT 1 G1 (r45.Rows,([]:List Int))]]) G ⟨G,G,ø⟩ J2 G67 G G G G) G ?_)
   obtain⟨ha46,h⟩:=Hr h
   refine JLh (OW 1052 2 H5.av (s41++[(H5.mk r45.Bay (r45.Rows,([]:List Int)))])) (Qx (f:=H5.av) (xs:=s41) (ys:=[(H5.mk r45.Bay (r45.Rows,([]:List Int)))]) G G G G J2 H92 ha46 (fun _=>G) (.inl G) G) G (JLh (OW 1052 2 H5.av (s41++[(H5.mk r45.Bay (r45.Rows,([]:List Int)))])) (G8 G G) G (G9 (hK44 _ _ (G3 (JLh (En i41) (G4 G G) G (JLh (G1 ((i41+1:Nat):Int)) (Hj (Hi hk41 (G07 hx41)) G G G) G (JLh (G1 ((i41+1:Nat):Int)) (G8 G G) G (G9 (e41 _ _ (i41+1) (s41++[(H5.mk r45.Bay (r45.Rows,([]:List Int)))]) (app1 hn41 h) (by omega) ⟨⟨.same rfl,.same rfl,.same rfl,ø⟩,⟨⟨_,rfl,.same⟩,ø⟩,rfl⟩)))))))))
  ·
   have h:=app1 hkx41 (G30 hi41 (Rx hb))
   refine Hc (hK30 _ _ (G5 fun K47 hK47=>G3 (JLh (OW 1052 2 H5.av s41) (G4 G G) G (JLh (E4 l) (G4 G G) G (H0 (f:=Gm.av) (xs:=l) J2 G G (fun hm37=>?_) G G G)))))
   obtain⟨m48,hm48,h⟩:=Gf h
   refine JLh (LT 2 H5.av (s41.take m48,s41.drop m48)) (Hfa (f:=H5.av) (xs:=s41) G G G J2 (Qn hm48)) G (JLh (LT 2 H5.av (s41.take m48,s41.drop m48)) (G8 G G) G (G9 (hK47 _ _ (Gx (⟨[LT 2 H5.av (s41.take m48,s41.drop m48)],[],ø,G,⟨⟨_,G,.conv (.same G)⟩,ø⟩,G,congrArg (fun r:(Ln H5)=>(LT 2 H5.av r:AV)) (Option.some.inj h)⟩)))))

def Rj (k:Int) (i:Int):Option Row:=
 bnd (Jf k i) fun r3=>
 some (Row.mk 0 r3 0 0 0)
theorem G83 (k:Int) (i:Int) (r:Row) (h:Rj k i=some r):Pure Tryz.prog 142 [G1 k,G1 i] (·=.agg (Row.cs r)):=by
 unfold Rj at h
 refine H1 [.cell 4 228] Tryz.func142 G G (G5 fun K1 hK1=>G3 (JLh (.ptr 1108 0) (G15 1108 [G1 0,G1 0,G1 0,G1 0,G1 0] [.int .i64 0,.int .i64 0,.int .i64 0,.int .i64 0,.int .i64 0] J1f ⟨.inl G,.inl G,.inl G,.inl G,.inl G,ø⟩ G G) G (G9 (hK1 _ _ (G5 fun K2 hK2=>G3 (JLh (G1 k) (G4 G G) G (JLh (G1 i) (G4 G G) G ?_)))))))
 obtain⟨r3,hr3,h⟩:=Gf h
 refine JLh (G1 r3) (Gs (args:=[G1 k,G1 i]) G (Qf k i r3 hr3) G31 ⟨G,G,G,G,ø⟩) G (JLh (.agg [G1 0,G1 r3,G1 0,G1 0,G1 0]) (Q0 (cs:=[G1 0,G1 r3,G1 0,G1 0,G1 0]) [(0,1),(1,1),(2,1),(3,1),(4,1)] [G1 0,G1 0,G1 0,G1 0,G1 0] [.int .i64 0,.int .i64 0,.int .i64 0,.int .i64 0,.int .i64 0] Jb2 J1f ⟨.inl G,.inl G,.inl G,.inl G,.inl G,ø⟩ G G) G (Jb (u:=.junk) (J4 (u:=.agg [G1 0,G1 r3,G1 0,G1 0,G1 0]) (ds:=[G1 0,G1 r3,G1 0,G1 0,G1 0]) Jc5 G G G G G G G G) (G9 (hK2 _ _ (Gx (⟨[.agg [G1 0,G1 r3,G1 0,G1 0,G1 0]],[],ø,G,⟨⟨_,⟨_,_,_,_,G,G,G,.inl ⟨Gbe,G⟩⟩,.conv (.same G)⟩,ø⟩,G,congrArg (fun r:Row=>(.agg (Row.cs r):AV)) (Option.some.inj h)⟩))))))

def Z2 (l:List Row):Option (Ln Row):=
 Rm ((l.length:Int)+12) fun v3=>
 bnd (G9b v3) fun m4=>
 need (decide (40*m4≤281474976710656∧m4≤maxLen)) <|
 need (decide ((([]:List Row).length+l.length)*40≤140737488355328∧([]:List Row).length+l.length≤maxLen)) <|
 need (decide (12≤9223372036854775807)) <|
 upto (fun i19 (s19:(List Row)) nx19=>
  bnd (Rj 1 (i19:Int)) fun r23=>
  need (decide ((s19.length+[r23].length)*40≤140737488355328∧s19.length+[r23].length≤maxLen)) <|
  nx19 (s19++[r23]))
 (fun(s19:(List Row))=>
  bnd (G10 (l.length:Int) s19.length) fun m26=>
  some (s19.take m26,s19.drop m26)) (12:Int).toNat 0 (([]:List Row)++l)
theorem H26 (l:List Row) (r:(Ln Row)) (h:Z2 l=some r):Pure Tryz.prog 65 [E7 l] (·=LT 5 Row.av r):=by
 unfold Z2 at h
 refine H1 [.tmp 2] Tryz.func65 G G (G5 fun K1 hK1=>G3 (JLh (E7 ([]:List Row)) (Rs 5 G G) G (G9 (hK1 _ _ (G5 fun K2 hK2=>G3 (JLh (E7 l) (G4 G G) G (H0 (f:=Row.av) (xs:=l) Jy G G (fun hm6=>?_) G G G)))))))
 obtain⟨v3,hv3,h⟩:=Hf h
 refine JLh (G1 v3) (Hj hv3 G G G) G ?_
 obtain⟨m4,hm4,h⟩:=Gf h
 obtain⟨ha5,h⟩:=Hr h
 refine JLh (OW 1053 5 Row.av ([]:List Row)) (G72 1053 G G G G Jy H90 G (Jt hm4) ha5) G (JLh (OW 1053 5 Row.av ([]:List Row)) (G8 G G) G (G9 (hK2 _ _ (G5 fun K6 hK6=>G3 (JLh (OW 1053 5 Row.av ([]:List Row)) (G4 G G) G (JLh (E7 l) (G4 G G) G ?_))))))
 obtain⟨ha7,h⟩:=Hr h
 refine JLh (OW 1053 5 Row.av (([]:List Row)++l)) (Gf9 (f:=Row.av) (xs:=([]:List Row)) (ys:=l) G G G G Jy H90 ha7 (fun _=>G) (.inl G)) G (JLh (OW 1053 5 Row.av (([]:List Row)++l)) (G8 G G) G (G9 (hK6 _ _ (G5 (fun K8 hK8=>G5 fun K9 hK9=>G3 (JLh (G1 0) (G8 G G) G (G9 (hK9 _ _ (Gn ?_)))))))))
 obtain⟨hx19,h⟩:=Hr h
 obtain⟨b19,kx19,hb19,hkx19,h⟩:=G59 h
 refine H7 (fun i19 (s19:(List Row))=>upto b19 kx19 ((12:Int).toNat - i19) i19 s19=some r) (fun i19 s19=>[(0,E7 l),(3,OW 1053 5 Row.av s19),(4,En i19)]) (fun i19 s19=>[(1053,.spare 228 5 s19.length s19.length)]) (fun i19=>(12:Int).toNat - i19) 0 (([]:List Row)++l) h ⟨⟨.same G,.same G,.same G,ø⟩,⟨⟨_,G,.same⟩,ø⟩,G⟩ ?_
 clear h
 intro i19 s19 hi19 K19 e19
 refine G5 (fun K20 hK20=>G5 fun K21 hK21=>G3 (JLh (En i19) (G4 G G) G (JLh (BL (decide ((i19:Int) < 12))) (Hx G G G) G (G9 (hK21 _ _ (Gp G (fun hb=>?_) (fun hb=>?_)))))))
 ·
  have hk19:=G33 hb
  obtain⟨nx19,hn19,h⟩:=G2f hi19 hk19
  replace h:=H82 hb19 h
  refine Gq (hK20 _ _ (G5 (fun K22 hK22=>Gn (G3 (JLh (OW 1053 5 Row.av s19) (G4 G G) G (JLh (En i19) (G4 G G) G ?_))))))
  obtain⟨r23,hr23,h⟩:=Gf h
  refine JLh (.agg (Row.cs r23)) (Gs (args:=[G1 1,En i19]) G (G83 1 (i19:Int) r23 hr23) J29 ⟨G,G,G,G,ø⟩) G (JLh (E7 [r23]) (Hs (xs:=[.agg (Row.cs r23)]) G ⟨G,G,ø⟩ Jy Jba G G G G) G ?_)
  obtain⟨ha24,h⟩:=Hr h
  refine JLh (OW 1053 5 Row.av (s19++[r23])) (Qx (f:=Row.av) (xs:=s19) (ys:=[r23]) G G G G Jy H90 ha24 (fun _=>G) (.inl G) G) G (JLh (OW 1053 5 Row.av (s19++[r23])) (G8 G G) G (G9 (hK22 _ _ (G3 (JLh (En i19) (G4 G G) G (JLh (G1 ((i19+1:Nat):Int)) (Hj (Hi hk19 (G07 hx19)) G G G) G (JLh (G1 ((i19+1:Nat):Int)) (G8 G G) G (G9 (e19 _ _ (i19+1) (s19++[r23]) (app1 hn19 h) (by omega) ⟨⟨.same rfl,.same rfl,.same rfl,ø⟩,⟨⟨_,rfl,.same⟩,ø⟩,rfl⟩)))))))))
 ·
  have h:=app1 hkx19 (G30 hi19 (Rx hb))
  refine Hc (hK8 _ _ (G5 fun K25 hK25=>G3 (JLh (OW 1053 5 Row.av s19) (G4 G G) G (JLh (E7 l) (G4 G G) G (H0 (f:=Row.av) (xs:=l) Jy G G (fun hm23=>?_) G G G)))))
  obtain⟨m26,hm26,h⟩:=Gf h
  refine JLh (LT 5 Row.av (s19.take m26,s19.drop m26)) (Hfa (f:=Row.av) (xs:=s19) G G G Jy (Qn hm26)) G (JLh (LT 5 Row.av (s19.take m26,s19.drop m26)) (G8 G G) G (G9 (hK25 _ _ (Gx (⟨[LT 5 Row.av (s19.take m26,s19.drop m26)],[],ø,G,⟨⟨_,G,.conv (.same G)⟩,ø⟩,G,congrArg (fun r:(Ln Row)=>(LT 5 Row.av r:AV)) (Option.some.inj h)⟩)))))

def Qu (k:Int) (i:Int):Option Frame:=
 bnd (Jf k i) fun r3=>
 some (Frame.mk r3 0 0 0 0)
theorem G64 (k:Int) (i:Int) (r:Frame) (h:Qu k i=some r):Pure Tryz.prog 143 [G1 k,G1 i] (·=.agg (Frame.cs r)):=by
 unfold Qu at h
 refine H1 [.cell 4 231] Tryz.func143 G G (G5 fun K1 hK1=>G3 (JLh (.ptr 1109 0) (G15 1109 [G1 0,G1 0,G1 0,G1 0,G1 0] [.int .i64 0,.int .i64 0,.int .i64 0,.int .i64 0,.int .i64 0] J1e ⟨.inl G,.inl G,.inl G,.inl G,.inl G,ø⟩ G G) G (G9 (hK1 _ _ (G5 fun K2 hK2=>G3 (JLh (G1 k) (G4 G G) G (JLh (G1 i) (G4 G G) G ?_)))))))
 obtain⟨r3,hr3,h⟩:=Gf h
 refine JLh (G1 r3) (Gs (args:=[G1 k,G1 i]) G (Qf k i r3 hr3) G31 ⟨G,G,G,G,ø⟩) G (JLh (.agg [G1 r3,G1 0,G1 0,G1 0,G1 0]) (Q0 (cs:=[G1 r3,G1 0,G1 0,G1 0,G1 0]) [(0,1),(1,1),(2,1),(3,1),(4,1)] [G1 0,G1 0,G1 0,G1 0,G1 0] [.int .i64 0,.int .i64 0,.int .i64 0,.int .i64 0,.int .i64 0] Jb1 J1e ⟨.inl G,.inl G,.inl G,.inl G,.inl G,ø⟩ G G) G (Jb (u:=.junk) (J4 (u:=.agg [G1 r3,G1 0,G1 0,G1 0,G1 0]) (ds:=[G1 r3,G1 0,G1 0,G1 0,G1 0]) Jc4 G G G G G G G G) (G9 (hK2 _ _ (Gx (⟨[.agg [G1 r3,G1 0,G1 0,G1 0,G1 0]],[],ø,G,⟨⟨_,⟨_,_,_,_,G,G,G,.inl ⟨Gbd,G⟩⟩,.conv (.same G)⟩,ø⟩,G,congrArg (fun r:Frame=>(.agg (Frame.cs r):AV)) (Option.some.inj h)⟩))))))

def Yf (l:List Frame):Option (Ln Frame):=
 Rm ((l.length:Int)+12) fun v3=>
 bnd (G9b v3) fun m4=>
 need (decide (40*m4≤281474976710656∧m4≤maxLen)) <|
 need (decide ((([]:List Frame).length+l.length)*40≤140737488355328∧([]:List Frame).length+l.length≤maxLen)) <|
 need (decide (12≤9223372036854775807)) <|
 upto (fun i19 (s19:(List Frame)) nx19=>
  bnd (Qu 1 (i19:Int)) fun r23=>
  need (decide ((s19.length+[r23].length)*40≤140737488355328∧s19.length+[r23].length≤maxLen)) <|
  nx19 (s19++[r23]))
 (fun(s19:(List Frame))=>
  bnd (G10 (l.length:Int) s19.length) fun m26=>
  some (s19.take m26,s19.drop m26)) (12:Int).toNat 0 (([]:List Frame)++l)
theorem Geb (l:List Frame) (r:(Ln Frame)) (h:Yf l=some r):Pure Tryz.prog 66 [E6 l] (·=LT 5 Frame.av r):=by
 unfold Yf at h
 refine H1 [.tmp 2] Tryz.func66 G G (G5 fun K1 hK1=>G3 (JLh (E6 ([]:List Frame)) (Rs 5 G G) G (G9 (hK1 _ _ (G5 fun K2 hK2=>G3 (JLh (E6 l) (G4 G G) G (H0 (f:=Frame.av) (xs:=l) Jx G G (fun hm6=>?_) G G G)))))))
 obtain⟨v3,hv3,h⟩:=Hf h
 refine JLh (G1 v3) (Hj hv3 G G G) G ?_
 obtain⟨m4,hm4,h⟩:=Gf h
 obtain⟨ha5,h⟩:=Hr h
 refine JLh (OW 1054 5 Frame.av ([]:List Frame)) (G72 1054 G G G G Jx H8f G (Jt hm4) ha5) G (JLh (OW 1054 5 Frame.av ([]:List Frame)) (G8 G G) G (G9 (hK2 _ _ (G5 fun K6 hK6=>G3 (JLh (OW 1054 5 Frame.av ([]:List Frame)) (G4 G G) G (JLh (E6 l) (G4 G G) G ?_))))))
 obtain⟨ha7,h⟩:=Hr h
 refine JLh (OW 1054 5 Frame.av (([]:List Frame)++l)) (Gf9 (f:=Frame.av) (xs:=([]:List Frame)) (ys:=l) G G G G Jx H8f ha7 (fun _=>G) (.inl G)) G (JLh (OW 1054 5 Frame.av (([]:List Frame)++l)) (G8 G G) G (G9 (hK6 _ _ (G5 (fun K8 hK8=>G5 fun K9 hK9=>G3 (JLh (G1 0) (G8 G G) G (G9 (hK9 _ _ (Gn ?_)))))))))
 obtain⟨hx19,h⟩:=Hr h
 obtain⟨b19,kx19,hb19,hkx19,h⟩:=G59 h
 refine H7 (fun i19 (s19:(List Frame))=>upto b19 kx19 ((12:Int).toNat - i19) i19 s19=some r) (fun i19 s19=>[(0,E6 l),(3,OW 1054 5 Frame.av s19),(4,En i19)]) (fun i19 s19=>[(1054,.spare 231 5 s19.length s19.length)]) (fun i19=>(12:Int).toNat - i19) 0 (([]:List Frame)++l) h ⟨⟨.same G,.same G,.same G,ø⟩,⟨⟨_,G,.same⟩,ø⟩,G⟩ ?_
 clear h
 intro i19 s19 hi19 K19 e19
 refine G5 (fun K20 hK20=>G5 fun K21 hK21=>G3 (JLh (En i19) (G4 G G) G (JLh (BL (decide ((i19:Int) < 12))) (Hx G G G) G (G9 (hK21 _ _ (Gp G (fun hb=>?_) (fun hb=>?_)))))))
 ·
  have hk19:=G33 hb
  obtain⟨nx19,hn19,h⟩:=G2f hi19 hk19
  replace h:=H82 hb19 h
  refine Gq (hK20 _ _ (G5 (fun K22 hK22=>Gn (G3 (JLh (OW 1054 5 Frame.av s19) (G4 G G) G (JLh (En i19) (G4 G G) G ?_))))))
  obtain⟨r23,hr23,h⟩:=Gf h
  refine JLh (.agg (Frame.cs r23)) (Gs (args:=[G1 1,En i19]) G (G64 1 (i19:Int) r23 hr23) J28 ⟨G,G,G,G,ø⟩) G (JLh (E6 [r23]) (Hs (xs:=[.agg (Frame.cs r23)]) G ⟨G,G,ø⟩ Jx Jb9 G G G G) G ?_)
  obtain⟨ha24,h⟩:=Hr h
  refine JLh (OW 1054 5 Frame.av (s19++[r23])) (Qx (f:=Frame.av) (xs:=s19) (ys:=[r23]) G G G G Jx H8f ha24 (fun _=>G) (.inl G) G) G (JLh (OW 1054 5 Frame.av (s19++[r23])) (G8 G G) G (G9 (hK22 _ _ (G3 (JLh (En i19) (G4 G G) G (JLh (G1 ((i19+1:Nat):Int)) (Hj (Hi hk19 (G07 hx19)) G G G) G (JLh (G1 ((i19+1:Nat):Int)) (G8 G G) G (G9 (e19 _ _ (i19+1) (s19++[r23]) (app1 hn19 h) (by omega) ⟨⟨.same rfl,.same rfl,.same rfl,ø⟩,⟨⟨_,rfl,.same⟩,ø⟩,rfl⟩)))))))))
 ·
  have h:=app1 hkx19 (G30 hi19 (Rx hb))
  refine Hc (hK8 _ _ (G5 fun K25 hK25=>G3 (JLh (OW 1054 5 Frame.av s19) (G4 G G) G (JLh (E6 l) (G4 G G) G (H0 (f:=Frame.av) (xs:=l) Jx G G (fun hm23=>?_) G G G)))))
  obtain⟨m26,hm26,h⟩:=Gf h
  refine JLh (LT 5 Frame.av (s19.take m26,s19.drop m26)) (Hfa (f:=Frame.av) (xs:=s19) G G G Jx (Qn hm26)) G (JLh (LT 5 Frame.av (s19.take m26,s19.drop m26)) (G8 G G) G (G9 (hK25 _ _ (Gx (⟨[LT 5 Frame.av (s19.take m26,s19.drop m26)],[],ø,G,⟨⟨_,G,.conv (.same G)⟩,ø⟩,G,congrArg (fun r:(Ln Frame)=>(LT 5 Frame.av r:AV)) (Option.some.inj h)⟩)))))

def Z0 (x:Gw):Option Hd:=
 bnd (R6 x.Steps) fun r3=>
 some (Hd.mk x.Kilos x.X x.Y x.Z x.Surface r3)
theorem H24 (x:Gw) (r:Hd) (h:Z0 x=some r):Pure Tryz.prog 144 [.agg (Gw.cs x)] (·=.agg (Hd.cs r)):=by
 unfold Z0 at h
 refine H1 [.cell 2 234] Tryz.func144 G G (G5 fun K1 hK1=>G3 (JLh (.ptr 1110 0) (Qi (u:=.agg (Gw.cs x)) (cs:=[G1 x.Kilos,G1 x.X,G1 x.Y,G1 x.Z,G1 x.Surface,E0 x.Steps]) 1110 G G G G G) G (JLh (.ptr 1111 0) (G15 1111 [G1 0,G1 0,G1 0,G1 0,G1 0,E0 ([]:List Int)] [.int .i64 0,.int .i64 0,.int .i64 0,.int .i64 0,.int .i64 0,.slice none 0 0] H84 ⟨.inl G,.inl G,.inl G,.inl G,.inl G,.inr ⟨_,G,G⟩,ø⟩ G G) G (G9 (hK1 _ _ (G5 fun K2 hK2=>G3 (JLh (.ptr 1110 5) (Qr G3f G G) G (JLh (E0 x.Steps) (G35 Hv G G G G) G ?_))))))))
 obtain⟨r3,hr3,h⟩:=Gf h
 refine JLh (LT 1 G1 r3) (Gs (args:=[E0 x.Steps]) G (G2b x.Steps r3 hr3) H98 ⟨G,G,ø⟩) G (JLh (.ptr 1110 5) (Qr G3f G G) G (Jb (u:=.junk) (J4 (u:=LT 1 G1 r3) (ds:=[G1 x.Kilos,G1 x.X,G1 x.Y,G1 x.Z,G1 x.Surface,LT 1 G1 r3]) Gfb G G G G G G G G) (G9 (hK2 _ _ (Gz [(1,.dptr [G1 x.Kilos,G1 x.X,G1 x.Y,G1 x.Z,G1 x.Surface,LT 1 G1 r3]),(2,.ptr 1111 0)] [(1111,.box 234 [G1 0,G1 0,G1 0,G1 0,G1 0,E0 ([]:List Int)])] 1110 rfl rfl rfl ⟨⟨_,rfl,.boxEq rfl rfl⟩,ø⟩ rfl (by exact⟨.ptr,.conv (.same rfl),ø⟩) ?_)))))
 refine G5 fun K4 hK4=>G3 (JLh (.agg [G1 x.Kilos,G1 x.X,G1 x.Y,G1 x.Z,G1 x.Surface,LT 1 G1 r3]) (Gi G0c G G G) G (Jb (u:=.junk) (J4 (u:=.agg [G1 x.Kilos,G1 x.X,G1 x.Y,G1 x.Z,G1 x.Surface,LT 1 G1 r3]) (ds:=[G1 x.Kilos,G1 x.X,G1 x.Y,G1 x.Z,G1 x.Surface,LT 1 G1 r3]) H86 G G G G G G G G) (G9 (hK4 _ _ (Gx (⟨[.agg [G1 x.Kilos,G1 x.X,G1 x.Y,G1 x.Z,G1 x.Surface,LT 1 G1 r3]],[],ø,G,⟨⟨_,⟨_,_,_,_,G,G,G,.inl ⟨G0c,G⟩⟩,.conv (.same G)⟩,ø⟩,G,congrArg (fun r:Hd=>(.agg (Hd.cs r):AV)) (Option.some.inj h)⟩))))))

def R4 (k:Int) (i:Int):Option Gw:=
 bnd (Jf k i) fun r3=>
 some (Gw.mk r3 0 0 0 0 [])
theorem G76 (k:Int) (i:Int) (r:Gw) (h:R4 k i=some r):Pure Tryz.prog 145 [G1 k,G1 i] (·=.agg (Gw.cs r)):=by
 unfold R4 at h
 refine H1 [.cell 4 234] Tryz.func145 G G (G5 fun K1 hK1=>G3 (JLh (.ptr 1112 0) (G15 1112 [G1 0,G1 0,G1 0,G1 0,G1 0,E0 ([]:List Int)] [.int .i64 0,.int .i64 0,.int .i64 0,.int .i64 0,.int .i64 0,.slice none 0 0] H84 ⟨.inl G,.inl G,.inl G,.inl G,.inl G,.inr ⟨_,G,G⟩,ø⟩ G G) G (G9 (hK1 _ _ (G5 fun K2 hK2=>G3 (JLh (G1 k) (G4 G G) G (JLh (G1 i) (G4 G G) G ?_)))))))
 obtain⟨r3,hr3,h⟩:=Gf h
 refine JLh (G1 r3) (Gs (args:=[G1 k,G1 i]) G (Qf k i r3 hr3) G31 ⟨G,G,G,G,ø⟩) G (JLh (.agg [G1 r3,G1 0,G1 0,G1 0,G1 0,E0 ([]:List Int)]) (Q0 (cs:=[G1 r3,G1 0,G1 0,G1 0,G1 0,E0 ([]:List Int)]) [(0,1),(1,1),(2,1),(3,1),(4,1),(5,1)] [G1 0,G1 0,G1 0,G1 0,G1 0,E0 ([]:List Int)] [.int .i64 0,.int .i64 0,.int .i64 0,.int .i64 0,.int .i64 0,.slice none 0 0] Jb0 H84 ⟨.inl G,.inl G,.inl G,.inl G,.inl G,.inr ⟨_,G,G⟩,ø⟩ G G) G (Jb (u:=.junk) (J4 (u:=.agg [G1 r3,G1 0,G1 0,G1 0,G1 0,E0 ([]:List Int)]) (ds:=[G1 r3,G1 0,G1 0,G1 0,G1 0,E0 ([]:List Int)]) H86 G G G G G G G G) (G9 (hK2 _ _ (Gx ?_)))))
 exact⟨[.agg [G1 r3,G1 0,G1 0,G1 0,G1 0,E0 ([]:List Int)]],[],ø,G,⟨⟨_,⟨_,_,_,_,G,G,G,.inl ⟨G0c,G⟩⟩,.conv (.same G)⟩,ø⟩,G,congrArg (fun r:Gw=>(.agg (Gw.cs r):AV)) (Option.some.inj h)⟩

def Yp (l:List Gw):Option (Ln Hd):=
 Rm ((l.length:Int)+12) fun v3=>
 bnd (G9b v3) fun m4=>
 need (decide (64*m4≤281474976710656∧m4≤maxLen)) <|
 each (fun y23 i23 (s23:(List Hd)) nx23=>
  bnd (Z0 y23) fun r28=>
  need (decide ((s23.length+[r28].length)*64≤140737488355328∧s23.length+[r28].length≤maxLen)) <|
  nx23 (s23++[r28]))
 (fun(s23:(List Hd))=>
  need (decide (12≤9223372036854775807)) <|
  upto (fun i41 (s41:(List Hd)) nx41=>
   bnd (R4 1 (i41:Int)) fun r45=>
   need (decide ((s41.length+[(Hd.mk r45.Kilos r45.X r45.Y r45.Z r45.Surface (r45.Steps,([]:List Int)))].length)*64≤140737488355328∧s41.length+[(Hd.mk r45.Kilos r45.X r45.Y r45.Z r45.Surface (r45.Steps,([]:List Int)))].length≤maxLen)) <|
   nx41 (s41++[(Hd.mk r45.Kilos r45.X r45.Y r45.Z r45.Surface (r45.Steps,([]:List Int)))]))
  (fun(s41:(List Hd))=>
   bnd (G10 (l.length:Int) s41.length) fun m48=>
   some (s41.take m48,s41.drop m48)) (12:Int).toNat 0 s23) l 0 []
theorem H12 (l:List Gw) (r:(Ln Hd)) (h:Yp l=some r):Pure Tryz.prog 67 [E8 l] (·=LT 6 Hd.av r):=by
 unfold Yp at h
 refine H1 [.tmp 2] Tryz.func67 G G (G5 fun K1 hK1=>G3 (JLh (E8 ([]:List Gw)) (Rs 6 G G) G (G9 (hK1 _ _ (G5 fun K2 hK2=>G3 (JLh (E8 l) (G4 G G) G (H0 (f:=Gw.av) (xs:=l) Ji G G (fun hm8=>?_) G G G)))))))
 obtain⟨v3,hv3,h⟩:=Hf h
 refine JLh (G1 v3) (Hj hv3 G G G) G ?_
 obtain⟨m4,hm4,h⟩:=Gf h
 obtain⟨ha5,h⟩:=Hr h
 refine JLh (OW 1056 6 Hd.av ([]:List Hd)) (G72 1056 G G G G Ji H8e G (Jt hm4) ha5) G (JLh (OW 1056 6 Hd.av ([]:List Hd)) (G8 G G) G (G9 (hK2 _ _ (G5 (fun K6 hK6=>G5 fun K7 hK7=>G3 (JLh (G1 0) (G8 G G) G (G9 (hK7 _ _ (Gn ?_)))))))))
 obtain⟨b23,kx23,hb23,hkx23,h⟩:=J9 h
 refine H7 (fun i23 (s23:(List Hd))=>each b23 kx23 (List.drop i23 l) i23 s23=some r) (fun i23 s23=>[(0,E8 l),(3,OW 1056 6 Hd.av s23),(4,En i23)]) (fun i23 s23=>[(1056,.spare 234 6 s23.length s23.length)]) (fun i23=>l.length - i23) 0 [] h ⟨⟨.same G,.same G,.same G,ø⟩,⟨⟨_,G,.same⟩,ø⟩,G⟩ ?_
 clear h
 intro i23 s23 hi23 K23 e23
 refine G5 (fun K24 hK24=>G5 fun K25 hK25=>G3 (JLh (En i23) (G4 G G) G (JLh (E8 l) (G4 G G) G (H0 (f:=Gw.av) (xs:=l) Ji G G (fun hm13=>?_) G G G))))
 refine JLh (BL (decide ((i23:Int) < (l.length:Int)))) (Hx G G G) G (G9 (hK25 _ _ (Gp G (fun hb=>?_) (fun hb=>?_))))
 ·
  have hk23:=Jm hb
  obtain⟨y23,nx23,hy23,hn23,h⟩:=Hy hi23 hk23
  replace h:=Zn hb23 h
  refine Gq (hK24 _ _ (G5 (fun K26 hK26=>Gn (G5 fun K27 hK27=>G3 (JLh (E8 l) (G4 G G) G (JLh (En i23) (G4 G G) G (JLh (Eh y23) (Gv (f:=Gw.av) (xs:=l) (y:=y23) G G G Ji hy23 G) G (JLh (.agg (Gw.cs y23)) (Gi G0c G G G) G ?_))))))))
  obtain⟨r28,hr28,h⟩:=Gf h
  refine JLh (.agg (Hd.cs r28)) (Gs (args:=[.agg (Gw.cs y23)]) G (H24 y23 r28 hr28) Jdc ⟨G,G,ø⟩) G (JLh (.ptr 1055 0) (Jn 1055 6 H5c G G) G (Jb (u:=.junk) (J4 (u:=.agg (Hd.cs r28)) (ds:=[G1 r28.Kilos,G1 r28.X,G1 r28.Y,G1 r28.Z,G1 r28.Surface,LT 1 G1 r28.Steps]) H86 G G G G G G G G) (G9 (hK27 _ _ (Gz [(0,E8 l),(3,OW 1056 6 Hd.av s23),(4,En i23),(5,.dptr (Hd.cs r28))] [(1056,.spare 234 6 s23.length s23.length)] 1055 rfl rfl rfl ⟨⟨_,rfl,.same⟩,ø⟩ rfl (by repeat' (first | exact .ptr | constructor)) (G3 ?_))))))
  refine JLh (OW 1056 6 Hd.av s23) (G4 G G) G (JLh (.agg (Hd.cs r28)) (Gi G0c G G G) G (JLh (Ec [r28]) (Hs (xs:=[.agg (Hd.cs r28)]) G ⟨G,G,ø⟩ Ji H5c G G G G) G ?_))
  obtain⟨ha29,h⟩:=Hr h
  refine JLh (OW 1056 6 Hd.av (s23++[r28])) (Qx (f:=Hd.av) (xs:=s23) (ys:=[r28]) G G G G Ji H8e ha29 (fun _=>G) (.inl G) G) G (JLh (OW 1056 6 Hd.av (s23++[r28])) (G8 G G) G (G9 (hK26 _ _ (G3 (JLh (En i23) (G4 G G) G (JLh (G1 ((i23+1:Nat):Int)) (Hj (Hi hk23 hm13) G G G) G (JLh (G1 ((i23+1:Nat):Int)) (G8 G G) G (G9 (e23 _ _ (i23+1) (s23++[r28]) (app1 hn23 h) (by omega) ⟨⟨.same rfl,.same rfl,.same rfl,ø⟩,⟨⟨_,rfl,.same⟩,ø⟩,rfl⟩)))))))))
 ·
  have h:=app1 hkx23 (Hz hi23 (Hg hb))
  refine Hc (hK6 _ _ (G5 (fun K30 hK30=>G5 fun K31 hK31=>G3 (JLh (G1 0) (G8 G G) G (G9 (hK31 _ _ (Gn ?_)))))))
  obtain⟨hx41,h⟩:=Hr h
  obtain⟨b41,kx41,hb41,hkx41,h⟩:=G59 h
  refine H7 (fun i41 (s41:(List Hd))=>upto b41 kx41 ((12:Int).toNat - i41) i41 s41=some r) (fun i41 s41=>[(0,E8 l),(3,OW 1056 6 Hd.av s41),(6,En i41)]) (fun i41 s41=>[(1056,.spare 234 6 s41.length s41.length)]) (fun i41=>(12:Int).toNat - i41) 0 s23 h ⟨⟨.same G,.same G,.same G,ø⟩,⟨⟨_,G,.same⟩,ø⟩,G⟩ ?_
  clear h
  intro i41 s41 hi41 K41 e41
  refine G5 (fun K42 hK42=>G5 fun K43 hK43=>G3 (JLh (En i41) (G4 G G) G (JLh (BL (decide ((i41:Int) < 12))) (Hx G G G) G (G9 (hK43 _ _ (Gp G (fun hb=>?_) (fun hb=>?_)))))))
  ·
   have hk41:=G33 hb
   obtain⟨nx41,hn41,h⟩:=G2f hi41 hk41
   replace h:=H82 hb41 h
   refine Gq (hK42 _ _ (G5 (fun K44 hK44=>Gn (G3 (JLh (OW 1056 6 Hd.av s41) (G4 G G) G (JLh (En i41) (G4 G G) G ?_))))))
   obtain⟨r45,hr45,h⟩:=Gf h
   refine JLh (.agg [G1 r45.Kilos,G1 r45.X,G1 r45.Y,G1 r45.Z,G1 r45.Surface,LT 1 G1 (r45.Steps,([]:List Int))]) (H2.cv (Cv.aggL (cs:=(Gw.cs r45)) ⟨.same,.same,.same,.same,.same,Cv.of0 r45.Steps,ø⟩) (Gs (args:=[G1 1,En i41]) G (G76 1 (i41:Int) r45 hr45) J27 ⟨G,G,G,G,ø⟩)) G (JLh (Ec ([(Hd.mk r45.Kilos r45.X r45.Y r45.Z r45.Surface (r45.Steps,([]:List Int)))])) (Hs (xs:=[.agg [G1 r45.Kilos,G1 r45.X,G1 r45.Y,G1 r45.Z,G1 r45.Surface,LT 1 G1 (r45.Steps,([]:List Int))]]) G ⟨G,G,ø⟩ Ji H5c G G G G) G ?_)
   obtain⟨ha46,h⟩:=Hr h
   refine JLh (OW 1056 6 Hd.av (s41++[(Hd.mk r45.Kilos r45.X r45.Y r45.Z r45.Surface (r45.Steps,([]:List Int)))])) (Qx (f:=Hd.av) (xs:=s41) (ys:=[(Hd.mk r45.Kilos r45.X r45.Y r45.Z r45.Surface (r45.Steps,([]:List Int)))]) G G G G Ji H8e ha46 (fun _=>G) (.inl G) G) G (JLh (OW 1056 6 Hd.av (s41++[(Hd.mk r45.Kilos r45.X r45.Y r45.Z r45.Surface (r45.Steps,([]:List Int)))])) (G8 G G) G (G9 (hK44 _ _ (G3 (JLh (En i41) (G4 G G) G (JLh (G1 ((i41+1:Nat):Int)) (Hj (Hi hk41 (G07 hx41)) G G G) G (JLh (G1 ((i41+1:Nat):Int)) (G8 G G) G (G9 (e41 _ _ (i41+1) (s41++[(Hd.mk r45.Kilos r45.X r45.Y r45.Z r45.Surface (r45.Steps,([]:List Int)))]) (app1 hn41 h) (by omega) ⟨⟨.same rfl,.same rfl,.same rfl,ø⟩,⟨⟨_,rfl,.same⟩,ø⟩,rfl⟩)))))))))
  ·
   have h:=app1 hkx41 (G30 hi41 (Rx hb))
   refine Hc (hK30 _ _ (G5 fun K47 hK47=>G3 (JLh (OW 1056 6 Hd.av s41) (G4 G G) G (JLh (E8 l) (G4 G G) G (H0 (f:=Gw.av) (xs:=l) Ji G G (fun hm37=>?_) G G G)))))
   obtain⟨m48,hm48,h⟩:=Gf h
   refine JLh (LT 6 Hd.av (s41.take m48,s41.drop m48)) (Hfa (f:=Hd.av) (xs:=s41) G G G Ji (Qn hm48)) G (JLh (LT 6 Hd.av (s41.take m48,s41.drop m48)) (G8 G G) G (G9 (hK47 _ _ (Gx (⟨[LT 6 Hd.av (s41.take m48,s41.drop m48)],[],ø,G,⟨⟨_,G,.conv (.same G)⟩,ø⟩,G,congrArg (fun r:(Ln Hd)=>(LT 6 Hd.av r:AV)) (Option.some.inj h)⟩)))))

def Z1 (x:J0):Option Ry:=
 bnd (Y8 x.Columns) fun r3=>
 bnd (Yg x.Covers) fun r5=>
 bnd (Z2 x.Rows) fun r7=>
 bnd (Yf x.Frames) fun r9=>
 bnd (Yp x.Tanks) fun r11=>
 some (Ry.mk r3 r5 x.Light r7 r9 r11 x.G7)
theorem H25 (x:J0) (r:Ry) (h:Z1 x=some r):Pure Tryz.prog 12 [.agg (J0.cs x)] (·=.agg (Ry.cs r)):=by
 unfold Z1 at h
 refine H1 [.cell 2 32] Tryz.func12 G G ?_
 refine G5 fun K1 hK1=>G3 (JLh (.ptr 1006 0) (Qi (u:=.agg (J0.cs x)) (cs:=(J0.cs x)) 1006 G G G G G) G (JLh (.ptr 1007 0) (G15 1007 [E5 ([]:List Ga),E4 ([]:List Gm),G1 0,G1 0,G1 0,G1 0,E7 ([]:List Row),E6 ([]:List Frame),E8 ([]:List Gw),G1 0,G1 0,G1 0,G1 0] [.slice none 0 0,.slice none 0 0,.int .i64 0,.int .i64 0,.int .i64 0,.int .i64 0,.slice none 0 0,.slice none 0 0,.slice none 0 0,.int .i64 0,.int .i64 0,.int .i64 0,.int .i64 0] Hc4 ⟨.inr ⟨_,G,G⟩,.inr ⟨_,G,G⟩,.inl G,.inl G,.inl G,.inl G,.inr ⟨_,G,G⟩,.inr ⟨_,G,G⟩,.inr ⟨_,G,G⟩,.inl G,.inl G,.inl G,.inl G,ø⟩ G G) G (G9 (hK1 _ _ ?_))))
 refine G5 fun K2 hK2=>G3 (JLh (.ptr 1006 0) (Qr Hw G G) G (JLh (E5 x.Columns) (G35 J8 G G G G) G ?_))
 obtain⟨r3,hr3,h⟩:=Gf h
 refine JLh (LT 12 Gu.av r3) (Gs (args:=[E5 x.Columns]) G (Gdb x.Columns r3 hr3) Q02 ⟨G,G,ø⟩) G (JLh (.ptr 1006 0) (Qr Hw G G) G (Jb (u:=.junk) (J4 (u:=LT 12 Gu.av r3) (ds:=[LT 12 Gu.av r3,E4 x.Covers,G1 x.Light.Kilos,G1 x.Light.X,G1 x.Light.Y,G1 x.Light.Z,E7 x.Rows,E6 x.Frames,E8 x.Tanks,G1 x.G7.Tolerance,G1 x.G7.Trim,G1 x.G7.List_,G1 x.G7.Stability]) J6d G G G G G G G G) (G9 (hK2 _ _ (G5 fun K4 hK4=>G3 (JLh (.ptr 1006 1) (Qr Qs G G) G (JLh (E4 x.Covers) (G35 Rw G G G G) G ?_)))))))
 obtain⟨r5,hr5,h⟩:=Gf h
 refine JLh (LT 2 H5.av r5) (Gs (args:=[E4 x.Covers]) G (Gec x.Covers r5 hr5) Q01 ⟨G,G,ø⟩) G (JLh (.ptr 1006 1) (Qr Qs G G) G (Jb (u:=.junk) (J4 (u:=LT 2 H5.av r5) (ds:=[LT 12 Gu.av r3,LT 2 H5.av r5,G1 x.Light.Kilos,G1 x.Light.X,G1 x.Light.Y,G1 x.Light.Z,E7 x.Rows,E6 x.Frames,E8 x.Tanks,G1 x.G7.Tolerance,G1 x.G7.Trim,G1 x.G7.List_,G1 x.G7.Stability]) Jf6 G G G G G G G G) (G9 (hK4 _ _ (G5 fun K6 hK6=>G3 (JLh (.ptr 1006 6) (Qr G56 G G) G (JLh (E7 x.Rows) (G35 Ga5 G G G G) G ?_)))))))
 obtain⟨r7,hr7,h⟩:=Gf h
 refine JLh (LT 5 Row.av r7) (Gs (args:=[E7 x.Rows]) G (H26 x.Rows r7 hr7) Q00 ⟨G,G,ø⟩) G (JLh (.ptr 1006 6) (Qr G56 G G) G (Jb (u:=.junk) (J4 (u:=LT 5 Row.av r7) (ds:=[LT 12 Gu.av r3,LT 2 H5.av r5,G1 x.Light.Kilos,G1 x.Light.X,G1 x.Light.Y,G1 x.Light.Z,LT 5 Row.av r7,E6 x.Frames,E8 x.Tanks,G1 x.G7.Tolerance,G1 x.G7.Trim,G1 x.G7.List_,G1 x.G7.Stability]) Jf5 G G G G G G G G) (G9 (hK6 _ _ (G5 fun K8 hK8=>G3 (JLh (.ptr 1006 7) (Qr G55 G G) G (JLh (E6 x.Frames) (G35 Ga4 G G G G) G ?_)))))))
 obtain⟨r9,hr9,h⟩:=Gf h
 refine JLh (LT 5 Frame.av r9) (Gs (args:=[E6 x.Frames]) G (Geb x.Frames r9 hr9) Jff ⟨G,G,ø⟩) G (JLh (.ptr 1006 7) (Qr G55 G G) G (Jb (u:=.junk) (J4 (u:=LT 5 Frame.av r9) (ds:=[LT 12 Gu.av r3,LT 2 H5.av r5,G1 x.Light.Kilos,G1 x.Light.X,G1 x.Light.Y,G1 x.Light.Z,LT 5 Row.av r7,LT 5 Frame.av r9,E8 x.Tanks,G1 x.G7.Tolerance,G1 x.G7.Trim,G1 x.G7.List_,G1 x.G7.Stability]) Jf4 G G G G G G G G) (G9 (hK8 _ _ (G5 fun K10 hK10=>G3 (JLh (.ptr 1006 8) (Qr G54 G G) G (JLh (E8 x.Tanks) (G35 Ga3 G G G G) G ?_)))))))
 obtain⟨r11,hr11,h⟩:=Gf h
 refine JLh (LT 6 Hd.av r11) (Gs (args:=[E8 x.Tanks]) G (H12 x.Tanks r11 hr11) Jfe ⟨G,G,ø⟩) G (JLh (.ptr 1006 8) (Qr G54 G G) G (Jb (u:=.junk) (J4 (u:=LT 6 Hd.av r11) (ds:=[LT 12 Gu.av r3,LT 2 H5.av r5,G1 x.Light.Kilos,G1 x.Light.X,G1 x.Light.Y,G1 x.Light.Z,LT 5 Row.av r7,LT 5 Frame.av r9,LT 6 Hd.av r11,G1 x.G7.Tolerance,G1 x.G7.Trim,G1 x.G7.List_,G1 x.G7.Stability]) Jf3 G G G G G G G G) (G9 (hK10 _ _ ?_))))
 refine Gz [(1,.dptr [LT 12 Gu.av r3,LT 2 H5.av r5,G1 x.Light.Kilos,G1 x.Light.X,G1 x.Light.Y,G1 x.Light.Z,LT 5 Row.av r7,LT 5 Frame.av r9,LT 6 Hd.av r11,G1 x.G7.Tolerance,G1 x.G7.Trim,G1 x.G7.List_,G1 x.G7.Stability]),(2,.ptr 1007 0)] [(1007,.box 32 [E5 ([]:List Ga),E4 ([]:List Gm),G1 0,G1 0,G1 0,G1 0,E7 ([]:List Row),E6 ([]:List Frame),E8 ([]:List Gw),G1 0,G1 0,G1 0,G1 0])] 1006 rfl rfl rfl ⟨⟨_,rfl,.boxEq rfl rfl⟩,ø⟩ rfl (by exact⟨.ptr,.conv (.same rfl),ø⟩) ?_
 refine G5 fun K12 hK12=>G3 (JLh (.agg [LT 12 Gu.av r3,LT 2 H5.av r5,G1 x.Light.Kilos,G1 x.Light.X,G1 x.Light.Y,G1 x.Light.Z,LT 5 Row.av r7,LT 5 Frame.av r9,LT 6 Hd.av r11,G1 x.G7.Tolerance,G1 x.G7.Trim,G1 x.G7.List_,G1 x.G7.Stability]) (Gi Jd G G G) G (Jb (u:=.junk) (J4 (u:=.agg [LT 12 Gu.av r3,LT 2 H5.av r5,G1 x.Light.Kilos,G1 x.Light.X,G1 x.Light.Y,G1 x.Light.Z,LT 5 Row.av r7,LT 5 Frame.av r9,LT 6 Hd.av r11,G1 x.G7.Tolerance,G1 x.G7.Trim,G1 x.G7.List_,G1 x.G7.Stability]) (ds:=[LT 12 Gu.av r3,LT 2 H5.av r5,G1 x.Light.Kilos,G1 x.Light.X,G1 x.Light.Y,G1 x.Light.Z,LT 5 Row.av r7,LT 5 Frame.av r9,LT 6 Hd.av r11,G1 x.G7.Tolerance,G1 x.G7.Trim,G1 x.G7.List_,G1 x.G7.Stability]) Hc5 G G G G G G G G) (G9 (hK12 _ _ ?_))))
 refine Gx (⟨[.agg [LT 12 Gu.av r3,LT 2 H5.av r5,G1 x.Light.Kilos,G1 x.Light.X,G1 x.Light.Y,G1 x.Light.Z,LT 5 Row.av r7,LT 5 Frame.av r9,LT 6 Hd.av r11,G1 x.G7.Tolerance,G1 x.G7.Trim,G1 x.G7.List_,G1 x.G7.Stability]],[],ø,G,⟨⟨_,⟨_,_,_,_,G,G,G,.inl ⟨Jd,G⟩⟩,.conv (.same G)⟩,ø⟩,G,congrArg (fun r:Ry=>(.agg (Ry.cs r):AV)) (Option.some.inj h)⟩)

def R5 (a:List Int) (b:List Int):Option Bool:=
 bif decide ((a.length:Int)≠(b.length:Int)) then
 (some false)
 else
 (each (fun y24 i24 (s24:Unit) nx24=>
   Qe b (i24:Int) fun y29=>
   bif decide (y24≠y29) then
   (some false)
   else
   (nx24 ()))
  (fun(s24:Unit)=>
   some true) a 0 ())
theorem G2a (a:List Int) (b:List Int) (r:Bool) (h:R5 a b=some r):Pure Tryz.prog 19 [E0 a,E0 b] (·=BL r):=by
 unfold R5 at h
 refine H1 [.tmp 4] Tryz.func19 G G (G5 fun K1 hK1=>G3 (JLh (BL false) (G8 G G) G (G9 (hK1 _ _ (G5 (fun K2 hK2=>G5 fun K3 hK3=>G3 (JLh (E0 a) (G4 G G) G (H0 (f:=G1) (xs:=a) Gt G G (fun hm7=>?_) G G G))))))))
 refine JLh (E0 b) (G4 G G) G (H0 (f:=G1) (xs:=b) Gt G G (fun hm9=>?_) G G G)
 refine JLh (BL (decide ((a.length:Int)≠(b.length:Int)))) (G14 G G G) G (G9 (hK3 _ _ (Gp G (fun hb=>?_) (fun hb=>?_))))
 ·
  replace h:=Gy hb h
  refine G5 fun K4 hK4=>G3 (JLh (BL false) (G8 G G) G (G9 (hK4 _ _ (Gx (⟨[BL false],[],ø,G,⟨⟨_,G,.conv (.same G)⟩,ø⟩,G,congrArg (fun r:Bool=>(BL r:AV)) (Option.some.inj h)⟩)))))
 ·
  replace h:=Hp hb h
  refine Gq (hK2 _ _ (G5 (fun K5 hK5=>G5 fun K6 hK6=>G3 (JLh (G1 0) (G8 G G) G (G9 (hK6 _ _ (Gn ?_)))))))
  obtain⟨b24,kx24,hb24,hkx24,h⟩:=J9 h
  refine H7 (fun i24 (s24:Unit)=>each b24 kx24 (List.drop i24 a) i24 s24=some r) (fun i24 s24=>[(0,E0 a),(1,E0 b),(5,En i24)]) (fun i24 s24=>[]) (fun i24=>a.length - i24) 0 () h ⟨⟨.same G,.same G,.same G,ø⟩,ø,G⟩ ?_
  clear h
  intro i24 s24 hi24 K24 e24
  refine G5 (fun K25 hK25=>G5 fun K26 hK26=>G3 (JLh (En i24) (G4 G G) G (JLh (E0 a) (G4 G G) G (H0 (f:=G1) (xs:=a) Gt G G (fun hm13=>?_) G G G))))
  refine JLh (BL (decide ((i24:Int) < (a.length:Int)))) (Hx G G G) G (G9 (hK26 _ _ (Gp G (fun hb=>?_) (fun hb=>?_))))
  ·
   have hk24:=Jm hb
   obtain⟨y24,nx24,hy24,hn24,h⟩:=Hy hi24 hk24
   replace h:=Zn hb24 h
   refine Gq (hK25 _ _ (G5 (fun K27 hK27=>Gn (G5 (fun K28 hK28=>?_)))))
   obtain⟨m30,y29,hm30,hy29,h⟩:=Q6 h
   refine Jc [] [0,0,0,0,0,0,0,0,0] [0,0,0,0,0,0,0,0,0] [[]] J3 (by kernel_rfl) rfl rfl (Gb (u:=E0 a) G G ⟨Gh (G4 G G) G,ø⟩ (Gb (u:=En i24) G G ⟨Gh (G4 G G) G,ø⟩ (Gb (u:=.dptr [G1 y24]) G G ⟨Gh (Gv (f:=G1) (xs:=a) (y:=y24) G G G Gt hy24 G) G,ø⟩ (Gb (u:=G1 y24) G G ⟨Gh (Gk Gc G G G) G,ø⟩ (Gb (u:=E0 b) G G ⟨Gh (G4 G G) G,ø⟩ (Gb (u:=En i24) G G ⟨Gh (G4 G G) G,ø⟩ (Gb (u:=.dptr [G1 y29]) G G ⟨Gh (Gv (f:=G1) (xs:=b) (y:=y29) G G G Gt hy29 hm30) G,ø⟩ (Gb (u:=G1 y29) G G ⟨Gh (Gk Gc G G G) G,ø⟩ (Gb (u:=BL (decide (y24≠y29))) G G ⟨Gh (G14 G G G) G,ø⟩ (Rb (hK28 _ _ (Gp G (fun hb=>?_) (fun hb=>?_)))))))))))))
   ·
    replace h:=Gy hb h
    refine G5 fun K31 hK31=>G3 (JLh (BL false) (G8 G G) G (G9 (hK31 _ _ (Gx (⟨[BL false],[],ø,G,⟨⟨_,G,.conv (.same G)⟩,ø⟩,G,congrArg (fun r:Bool=>(BL r:AV)) (Option.some.inj h)⟩)))))
   ·
    replace h:=Hp hb h
    refine Gq (hK27 _ _ (G3 (JLh (En i24) (G4 G G) G (JLh (G1 ((i24+1:Nat):Int)) (Hj (Hi hk24 hm13) G G G) G (JLh (G1 ((i24+1:Nat):Int)) (G8 G G) G (G9 (e24 _ _ (i24+1) () (app1 hn24 h) (by omega) ⟨⟨.same rfl,.same rfl,.same rfl,ø⟩,ø,rfl⟩)))))))
  ·
   have h:=app1 hkx24 (Hz hi24 (Hg hb))
   refine Hc (hK5 _ _ (G5 fun K32 hK32=>G3 (JLh (BL true) (G8 G G) G (G9 (hK32 _ _ (Gx (⟨[BL true],[],ø,G,⟨⟨_,G,.conv (.same G)⟩,ø⟩,G,congrArg (fun r:Bool=>(BL r:AV)) (Option.some.inj h)⟩)))))))

def Jg (a:Ga) (b:Ga):Option Bool:=
 bnd (bif ((((((((decide (a.Bay=b.Bay))&&(decide (a.Row=b.Row)))&&(a.Deck==b.Deck))&&(decide (a.Tiers=b.Tiers)))&&(decide (a.Height=b.Height)))&&(decide (a.Kilos20=b.Kilos20)))&&(decide (a.Kilos40=b.Kilos40)))&&(decide (a.Lash=b.Lash))) then R5 a.Plugs b.Plugs else some default) fun r3=>
 some ((((((((((((decide (a.Bay=b.Bay))&&(decide (a.Row=b.Row)))&&(a.Deck==b.Deck))&&(decide (a.Tiers=b.Tiers)))&&(decide (a.Height=b.Height)))&&(decide (a.Kilos20=b.Kilos20)))&&(decide (a.Kilos40=b.Kilos40)))&&(decide (a.Lash=b.Lash)))&&r3)&&(decide (a.X=b.X)))&&(decide (a.Y=b.Y)))&&(decide (a.Z=b.Z)))
theorem G17 (a:Ga) (b:Ga) (r:Bool) (h:Jg a b=some r):Pure Tryz.prog 181 [.agg (Ga.cs a),.agg (Ga.cs b)] (·=BL r):=by
 unfold Jg at h
 refine H1 [.tmp 4] Tryz.func181 G G (G5 fun K1 hK1=>G3 (JLh (.ptr 1118 0) (Qi (u:=.agg (Ga.cs a)) (cs:=(Ga.cs a)) 1118 G G G G G) G (JLh (.ptr 1119 0) (Qi (u:=.agg (Ga.cs b)) (cs:=(Ga.cs b)) 1119 G G G G G) G (JLh (BL false) (G8 G G) G (G9 (hK1 _ _ ?_))))))
 refine Gz [(2,Ef a),(3,.ptr 1119 0)] [(1119,.box 112 (Ga.cs b))] 1118 rfl rfl rfl ⟨⟨_,rfl,.boxEq rfl rfl⟩,ø⟩ rfl (by exact⟨.ptr,.conv (.same rfl),ø⟩) (Gz [(2,Ef a),(3,Ef b)] [] 1119 rfl rfl rfl ø rfl (by exact⟨.conv (.same rfl),.ptr,ø⟩) (G5 fun K2 hK2=>G3 (JLh (Ef a) (Ge G22 G G G) G (JLh (G1 a.Bay) (Gk Gc G G G) G (JLh (Ef b) (Ge G22 G G G) G (JLh (G1 b.Bay) (Gk Gc G G G) G (JLh (BL (decide (a.Bay=b.Bay))) (Rt G G G) G (JLh (BL (decide (a.Bay=b.Bay))) (G4 G G) G ?_))))))))
 refine Gd (u:=.dptr ((Ga.cs a).drop 1)) [] G G G .sct ø (fun hc=>Ge G21 G G G) ?_
 refine Gd (u:=G1 a.Row) [(11,.dptr ((Ga.cs a).drop 1))] G G G .sct ⟨.all id,ø⟩ (fun hc=>Gk Gc G G G) ?_
 refine Gd (u:=.dptr ((Ga.cs b).drop 1)) [] G G G .sct ø (fun hc=>Ge G21 G G G) ?_
 refine Gd (u:=G1 b.Row) [(13,.dptr ((Ga.cs b).drop 1))] G G G .sct ⟨.all id,ø⟩ (fun hc=>Gk Gc G G G) ?_
 refine Gd (u:=BL (decide (a.Row=b.Row))) [(12,G1 a.Row),(14,G1 b.Row)] G G G .sct ⟨.all id,.all id,ø⟩ (fun hc=>Rt G G G) ?_
 refine JLh (BL ((decide (a.Bay=b.Bay))&&(decide (a.Row=b.Row)))) (J7 G G G G) G (JLh (BL ((decide (a.Bay=b.Bay))&&(decide (a.Row=b.Row)))) (G4 G G) G (Gd (u:=.dptr ((Ga.cs a).drop 2)) [] G G G .sct ø (fun hc=>Ge G61 G G G) ?_))
 refine Gd (u:=BL a.Deck) [(18,.dptr ((Ga.cs a).drop 2))] G G G .sct ⟨.all id,ø⟩ (fun hc=>Gk G60 G G G) ?_
 refine Gd (u:=.dptr ((Ga.cs b).drop 2)) [] G G G .sct ø (fun hc=>Ge G61 G G G) ?_
 refine Gd (u:=BL b.Deck) [(20,.dptr ((Ga.cs b).drop 2))] G G G .sct ⟨.all id,ø⟩ (fun hc=>Gk G60 G G G) ?_
 refine Gd (u:=BL (a.Deck==b.Deck)) [(19,BL a.Deck),(21,BL b.Deck)] G G G .sct ⟨.all id,.all id,ø⟩ (fun hc=>Jef Hfe G G G) ?_
 refine JLh (BL (((decide (a.Bay=b.Bay))&&(decide (a.Row=b.Row)))&&(a.Deck==b.Deck))) (J7 G G G G) G (JLh (BL (((decide (a.Bay=b.Bay))&&(decide (a.Row=b.Row)))&&(a.Deck==b.Deck))) (G4 G G) G (Gd (u:=.dptr ((Ga.cs a).drop 3)) [] G G G .sct ø (fun hc=>Ge Yn G G G) ?_))
 refine Gd (u:=G1 a.Tiers) [(25,.dptr ((Ga.cs a).drop 3))] G G G .sct ⟨.all id,ø⟩ (fun hc=>Gk Gc G G G) ?_
 refine Gd (u:=.dptr ((Ga.cs b).drop 3)) [] G G G .sct ø (fun hc=>Ge Yn G G G) ?_
 refine Gd (u:=G1 b.Tiers) [(27,.dptr ((Ga.cs b).drop 3))] G G G .sct ⟨.all id,ø⟩ (fun hc=>Gk Gc G G G) ?_
 refine Gd (u:=BL (decide (a.Tiers=b.Tiers))) [(26,G1 a.Tiers),(28,G1 b.Tiers)] G G G .sct ⟨.all id,.all id,ø⟩ (fun hc=>Rt G G G) ?_
 refine JLh (BL ((((decide (a.Bay=b.Bay))&&(decide (a.Row=b.Row)))&&(a.Deck==b.Deck))&&(decide (a.Tiers=b.Tiers)))) (J7 G G G G) G (JLh (BL ((((decide (a.Bay=b.Bay))&&(decide (a.Row=b.Row)))&&(a.Deck==b.Deck))&&(decide (a.Tiers=b.Tiers)))) (G4 G G) G (Gd (u:=.dptr ((Ga.cs a).drop 4)) [] G G G .sct ø (fun hc=>Ge Gaa G G G) ?_))
 refine Gd (u:=G1 a.Height) [(32,.dptr ((Ga.cs a).drop 4))] G G G .sct ⟨.all id,ø⟩ (fun hc=>Gk Gc G G G) ?_
 refine Gd (u:=.dptr ((Ga.cs b).drop 4)) [] G G G .sct ø (fun hc=>Ge Gaa G G G) ?_
 refine Gd (u:=G1 b.Height) [(34,.dptr ((Ga.cs b).drop 4))] G G G .sct ⟨.all id,ø⟩ (fun hc=>Gk Gc G G G) ?_
 refine Gd (u:=BL (decide (a.Height=b.Height))) [(33,G1 a.Height),(35,G1 b.Height)] G G G .sct ⟨.all id,.all id,ø⟩ (fun hc=>Rt G G G) ?_
 refine JLh (BL (((((decide (a.Bay=b.Bay))&&(decide (a.Row=b.Row)))&&(a.Deck==b.Deck))&&(decide (a.Tiers=b.Tiers)))&&(decide (a.Height=b.Height)))) (J7 G G G G) G (JLh (BL (((((decide (a.Bay=b.Bay))&&(decide (a.Row=b.Row)))&&(a.Deck==b.Deck))&&(decide (a.Tiers=b.Tiers)))&&(decide (a.Height=b.Height)))) (G4 G G) G (Gd (u:=.dptr ((Ga.cs a).drop 5)) [] G G G .sct ø (fun hc=>Ge Ga9 G G G) ?_))
 refine Gd (u:=G1 a.Kilos20) [(39,.dptr ((Ga.cs a).drop 5))] G G G .sct ⟨.all id,ø⟩ (fun hc=>Gk Gc G G G) ?_
 refine Gd (u:=.dptr ((Ga.cs b).drop 5)) [] G G G .sct ø (fun hc=>Ge Ga9 G G G) ?_
 refine Gd (u:=G1 b.Kilos20) [(41,.dptr ((Ga.cs b).drop 5))] G G G .sct ⟨.all id,ø⟩ (fun hc=>Gk Gc G G G) ?_
 refine Gd (u:=BL (decide (a.Kilos20=b.Kilos20))) [(40,G1 a.Kilos20),(42,G1 b.Kilos20)] G G G .sct ⟨.all id,.all id,ø⟩ (fun hc=>Rt G G G) ?_
 refine JLh (BL ((((((decide (a.Bay=b.Bay))&&(decide (a.Row=b.Row)))&&(a.Deck==b.Deck))&&(decide (a.Tiers=b.Tiers)))&&(decide (a.Height=b.Height)))&&(decide (a.Kilos20=b.Kilos20)))) (J7 G G G G) G (JLh (BL ((((((decide (a.Bay=b.Bay))&&(decide (a.Row=b.Row)))&&(a.Deck==b.Deck))&&(decide (a.Tiers=b.Tiers)))&&(decide (a.Height=b.Height)))&&(decide (a.Kilos20=b.Kilos20)))) (G4 G G) G (Gd (u:=.dptr ((Ga.cs a).drop 6)) [] G G G .sct ø (fun hc=>Ge Ga8 G G G) ?_))
 refine Gd (u:=G1 a.Kilos40) [(46,.dptr ((Ga.cs a).drop 6))] G G G .sct ⟨.all id,ø⟩ (fun hc=>Gk Gc G G G) ?_
 refine Gd (u:=.dptr ((Ga.cs b).drop 6)) [] G G G .sct ø (fun hc=>Ge Ga8 G G G) ?_
 refine Gd (u:=G1 b.Kilos40) [(48,.dptr ((Ga.cs b).drop 6))] G G G .sct ⟨.all id,ø⟩ (fun hc=>Gk Gc G G G) ?_
 refine Gd (u:=BL (decide (a.Kilos40=b.Kilos40))) [(47,G1 a.Kilos40),(49,G1 b.Kilos40)] G G G .sct ⟨.all id,.all id,ø⟩ (fun hc=>Rt G G G) ?_
 refine JLh (BL (((((((decide (a.Bay=b.Bay))&&(decide (a.Row=b.Row)))&&(a.Deck==b.Deck))&&(decide (a.Tiers=b.Tiers)))&&(decide (a.Height=b.Height)))&&(decide (a.Kilos20=b.Kilos20)))&&(decide (a.Kilos40=b.Kilos40)))) (J7 G G G G) G (JLh (BL (((((((decide (a.Bay=b.Bay))&&(decide (a.Row=b.Row)))&&(a.Deck==b.Deck))&&(decide (a.Tiers=b.Tiers)))&&(decide (a.Height=b.Height)))&&(decide (a.Kilos20=b.Kilos20)))&&(decide (a.Kilos40=b.Kilos40)))) (G4 G G) G (Gd (u:=.dptr ((Ga.cs a).drop 7)) [] G G G .sct ø (fun hc=>Ge Ga7 G G G) ?_))
 refine Gd (u:=G1 a.Lash) [(53,.dptr ((Ga.cs a).drop 7))] G G G .sct ⟨.all id,ø⟩ (fun hc=>Gk Gc G G G) ?_
 refine Gd (u:=.dptr ((Ga.cs b).drop 7)) [] G G G .sct ø (fun hc=>Ge Ga7 G G G) ?_
 refine Gd (u:=G1 b.Lash) [(55,.dptr ((Ga.cs b).drop 7))] G G G .sct ⟨.all id,ø⟩ (fun hc=>Gk Gc G G G) ?_
 refine Gd (u:=BL (decide (a.Lash=b.Lash))) [(54,G1 a.Lash),(56,G1 b.Lash)] G G G .sct ⟨.all id,.all id,ø⟩ (fun hc=>Rt G G G) ?_
 refine JLh (BL ((((((((decide (a.Bay=b.Bay))&&(decide (a.Row=b.Row)))&&(a.Deck==b.Deck))&&(decide (a.Tiers=b.Tiers)))&&(decide (a.Height=b.Height)))&&(decide (a.Kilos20=b.Kilos20)))&&(decide (a.Kilos40=b.Kilos40)))&&(decide (a.Lash=b.Lash)))) (J7 G G G G) G (JLh (BL ((((((((decide (a.Bay=b.Bay))&&(decide (a.Row=b.Row)))&&(a.Deck==b.Deck))&&(decide (a.Tiers=b.Tiers)))&&(decide (a.Height=b.Height)))&&(decide (a.Kilos20=b.Kilos20)))&&(decide (a.Kilos40=b.Kilos40)))&&(decide (a.Lash=b.Lash)))) (G4 G G) G (Gd (u:=.dptr ((Ga.cs a).drop 8)) [] G G G .sct ø (fun hc=>Ge Qo G G G) ?_))
 refine Gd (u:=E0 a.Plugs) [(60,.dptr ((Ga.cs a).drop 8))] G G G .sct ⟨.all id,ø⟩ (fun hc=>Gk Hv G G G) ?_
 refine Gd (u:=.dptr ((Ga.cs b).drop 8)) [] G G G .sct ø (fun hc=>Ge Qo G G G) ?_
 refine Gd (u:=E0 b.Plugs) [(62,.dptr ((Ga.cs b).drop 8))] G G G .sct ⟨.all id,ø⟩ (fun hc=>Gk Hv G G G) ?_
 obtain⟨r3,hr3,h⟩:=Gf h
 refine Gd (u:=BL r3) [(61,E0 a.Plugs),(63,E0 b.Plugs)] G G G .sct ⟨.all id,.all id,ø⟩ (fun hc=>Gs (args:=[E0 a.Plugs,E0 b.Plugs]) G (G2a a.Plugs b.Plugs r3 (Gy hc hr3)) Hc8 ⟨G,G,G,G,ø⟩) ?_
 refine JLh (BL (((((((((decide (a.Bay=b.Bay))&&(decide (a.Row=b.Row)))&&(a.Deck==b.Deck))&&(decide (a.Tiers=b.Tiers)))&&(decide (a.Height=b.Height)))&&(decide (a.Kilos20=b.Kilos20)))&&(decide (a.Kilos40=b.Kilos40)))&&(decide (a.Lash=b.Lash)))&&r3)) (J7 G G G G) G (JLh (BL (((((((((decide (a.Bay=b.Bay))&&(decide (a.Row=b.Row)))&&(a.Deck==b.Deck))&&(decide (a.Tiers=b.Tiers)))&&(decide (a.Height=b.Height)))&&(decide (a.Kilos20=b.Kilos20)))&&(decide (a.Kilos40=b.Kilos40)))&&(decide (a.Lash=b.Lash)))&&r3)) (G4 G G) G (Gd (u:=.dptr [G1 a.X,G1 a.Y,G1 a.Z]) [] G G G .sct ø (fun hc=>Ge Ga6 G G G) ?_))
 refine Gd (u:=G1 a.X) [(67,.dptr [G1 a.X,G1 a.Y,G1 a.Z])] G G G .sct ⟨.all id,ø⟩ (fun hc=>Gk Gc G G G) ?_
 refine Gd (u:=.dptr [G1 b.X,G1 b.Y,G1 b.Z]) [] G G G .sct ø (fun hc=>Ge Ga6 G G G) ?_
 refine Gd (u:=G1 b.X) [(69,.dptr [G1 b.X,G1 b.Y,G1 b.Z])] G G G .sct ⟨.all id,ø⟩ (fun hc=>Gk Gc G G G) ?_
 refine Gd (u:=BL (decide (a.X=b.X))) [(68,G1 a.X),(70,G1 b.X)] G G G .sct ⟨.all id,.all id,ø⟩ (fun hc=>Rt G G G) ?_
 refine JLh (BL ((((((((((decide (a.Bay=b.Bay))&&(decide (a.Row=b.Row)))&&(a.Deck==b.Deck))&&(decide (a.Tiers=b.Tiers)))&&(decide (a.Height=b.Height)))&&(decide (a.Kilos20=b.Kilos20)))&&(decide (a.Kilos40=b.Kilos40)))&&(decide (a.Lash=b.Lash)))&&r3)&&(decide (a.X=b.X)))) (J7 G G G G) G (JLh (BL ((((((((((decide (a.Bay=b.Bay))&&(decide (a.Row=b.Row)))&&(a.Deck==b.Deck))&&(decide (a.Tiers=b.Tiers)))&&(decide (a.Height=b.Height)))&&(decide (a.Kilos20=b.Kilos20)))&&(decide (a.Kilos40=b.Kilos40)))&&(decide (a.Lash=b.Lash)))&&r3)&&(decide (a.X=b.X)))) (G4 G G) G (Gd (u:=.dptr [G1 a.Y,G1 a.Z]) [] G G G .sct ø (fun hc=>Ge G8b G G G) ?_))
 refine Gd (u:=G1 a.Y) [(74,.dptr [G1 a.Y,G1 a.Z])] G G G .sct ⟨.all id,ø⟩ (fun hc=>Gk Gc G G G) ?_
 refine Gd (u:=.dptr [G1 b.Y,G1 b.Z]) [] G G G .sct ø (fun hc=>Ge G8b G G G) ?_
 refine Gd (u:=G1 b.Y) [(76,.dptr [G1 b.Y,G1 b.Z])] G G G .sct ⟨.all id,ø⟩ (fun hc=>Gk Gc G G G) ?_
 refine Gd (u:=BL (decide (a.Y=b.Y))) [(75,G1 a.Y),(77,G1 b.Y)] G G G .sct ⟨.all id,.all id,ø⟩ (fun hc=>Rt G G G) ?_
 refine JLh (BL (((((((((((decide (a.Bay=b.Bay))&&(decide (a.Row=b.Row)))&&(a.Deck==b.Deck))&&(decide (a.Tiers=b.Tiers)))&&(decide (a.Height=b.Height)))&&(decide (a.Kilos20=b.Kilos20)))&&(decide (a.Kilos40=b.Kilos40)))&&(decide (a.Lash=b.Lash)))&&r3)&&(decide (a.X=b.X)))&&(decide (a.Y=b.Y)))) (J7 G G G G) G (JLh (BL (((((((((((decide (a.Bay=b.Bay))&&(decide (a.Row=b.Row)))&&(a.Deck==b.Deck))&&(decide (a.Tiers=b.Tiers)))&&(decide (a.Height=b.Height)))&&(decide (a.Kilos20=b.Kilos20)))&&(decide (a.Kilos40=b.Kilos40)))&&(decide (a.Lash=b.Lash)))&&r3)&&(decide (a.X=b.X)))&&(decide (a.Y=b.Y)))) (G4 G G) G (Gd (u:=.dptr [G1 a.Z]) [] G G G .sct ø (fun hc=>Ge G8a G G G) ?_))
 refine Gd (u:=G1 a.Z) [(81,.dptr [G1 a.Z])] G G G .sct ⟨.all id,ø⟩ (fun hc=>Gk Gc G G G) ?_
 refine Gd (u:=.dptr [G1 b.Z]) [] G G G .sct ø (fun hc=>Ge G8a G G G) ?_
 refine Gd (u:=G1 b.Z) [(83,.dptr [G1 b.Z])] G G G .sct ⟨.all id,ø⟩ (fun hc=>Gk Gc G G G) ?_
 refine Gd (u:=BL (decide (a.Z=b.Z))) [(82,G1 a.Z),(84,G1 b.Z)] G G G .sct ⟨.all id,.all id,ø⟩ (fun hc=>Rt G G G) ?_
 refine JLh (BL ((((((((((((decide (a.Bay=b.Bay))&&(decide (a.Row=b.Row)))&&(a.Deck==b.Deck))&&(decide (a.Tiers=b.Tiers)))&&(decide (a.Height=b.Height)))&&(decide (a.Kilos20=b.Kilos20)))&&(decide (a.Kilos40=b.Kilos40)))&&(decide (a.Lash=b.Lash)))&&r3)&&(decide (a.X=b.X)))&&(decide (a.Y=b.Y)))&&(decide (a.Z=b.Z)))) (J7 G G G G) G (JLh (BL ((((((((((((decide (a.Bay=b.Bay))&&(decide (a.Row=b.Row)))&&(a.Deck==b.Deck))&&(decide (a.Tiers=b.Tiers)))&&(decide (a.Height=b.Height)))&&(decide (a.Kilos20=b.Kilos20)))&&(decide (a.Kilos40=b.Kilos40)))&&(decide (a.Lash=b.Lash)))&&r3)&&(decide (a.X=b.X)))&&(decide (a.Y=b.Y)))&&(decide (a.Z=b.Z)))) (G8 G G) G (G9 (hK2 _ _ (Gx ?_))))
 exact⟨[BL ((((((((((((decide (a.Bay=b.Bay))&&(decide (a.Row=b.Row)))&&(a.Deck==b.Deck))&&(decide (a.Tiers=b.Tiers)))&&(decide (a.Height=b.Height)))&&(decide (a.Kilos20=b.Kilos20)))&&(decide (a.Kilos40=b.Kilos40)))&&(decide (a.Lash=b.Lash)))&&r3)&&(decide (a.X=b.X)))&&(decide (a.Y=b.Y)))&&(decide (a.Z=b.Z)))],[],ø,G,⟨⟨_,G,.conv (.same G)⟩,ø⟩,G,congrArg (fun r:Bool=>(BL r:AV)) (Option.some.inj h)⟩

def Y7 (a:List Ga) (b:List Ga):Option Bool:=
 bif decide ((a.length:Int)≠(b.length:Int)) then
 (some false)
 else
 (each (fun y26 i26 (s26:Unit) nx26=>
   Qe b (i26:Int) fun y31=>
   bnd (Jg y26 y31) fun r33=>
   bif (!r33) then
   (some false)
   else
   (nx26 ()))
  (fun(s26:Unit)=>
   some true) a 0 ())
theorem Gda (a:List Ga) (b:List Ga) (r:Bool) (h:Y7 a b=some r):Pure Tryz.prog 175 [E5 a,E5 b] (·=BL r):=by
 unfold Y7 at h
 refine H1 [.tmp 4] Tryz.func175 G G (G5 fun K1 hK1=>G3 (JLh (BL false) (G8 G G) G (G9 (hK1 _ _ (G5 (fun K2 hK2=>G5 fun K3 hK3=>G3 (JLh (E5 a) (G4 G G) G (H0 (f:=Ga.av) (xs:=a) Hb G G (fun hm7=>?_) G G G))))))))
 refine JLh (E5 b) (G4 G G) G (H0 (f:=Ga.av) (xs:=b) Hb G G (fun hm9=>?_) G G G)
 refine JLh (BL (decide ((a.length:Int)≠(b.length:Int)))) (G14 G G G) G (G9 (hK3 _ _ (Gp G (fun hb=>?_) (fun hb=>?_))))
 ·
  replace h:=Gy hb h
  refine G5 fun K4 hK4=>G3 (JLh (BL false) (G8 G G) G (G9 (hK4 _ _ (Gx (⟨[BL false],[],ø,G,⟨⟨_,G,.conv (.same G)⟩,ø⟩,G,congrArg (fun r:Bool=>(BL r:AV)) (Option.some.inj h)⟩)))))
 ·
  replace h:=Hp hb h
  refine Gq (hK2 _ _ (G5 (fun K5 hK5=>G5 fun K6 hK6=>G3 (JLh (G1 0) (G8 G G) G (G9 (hK6 _ _ (Gn ?_)))))))
  obtain⟨b26,kx26,hb26,hkx26,h⟩:=J9 h
  refine H7 (fun i26 (s26:Unit)=>each b26 kx26 (List.drop i26 a) i26 s26=some r) (fun i26 s26=>[(0,E5 a),(1,E5 b),(5,En i26)]) (fun i26 s26=>[]) (fun i26=>a.length - i26) 0 () h ⟨⟨.same G,.same G,.same G,ø⟩,ø,G⟩ ?_
  clear h
  intro i26 s26 hi26 K26 e26
  refine G5 (fun K27 hK27=>G5 fun K28 hK28=>G3 (JLh (En i26) (G4 G G) G (JLh (E5 a) (G4 G G) G (H0 (f:=Ga.av) (xs:=a) Hb G G (fun hm13=>?_) G G G))))
  refine JLh (BL (decide ((i26:Int) < (a.length:Int)))) (Hx G G G) G (G9 (hK28 _ _ (Gp G (fun hb=>?_) (fun hb=>?_))))
  ·
   have hk26:=Jm hb
   obtain⟨y26,nx26,hy26,hn26,h⟩:=Hy hi26 hk26
   replace h:=Zn hb26 h
   refine Gq (hK27 _ _ (G5 (fun K29 hK29=>Gn (G5 (fun K30 hK30=>?_)))))
   obtain⟨m32,y31,hm32,hy31,h⟩:=Q6 h
   obtain⟨r33,hr33,h⟩:=Gf h
   refine Jc [] [0,0,0,0,0,0,0,0,0,0] [0,0,0,0,0,0,0,0,0,0] [[]] J3 (by kernel_rfl) rfl rfl ?_
   refine Gb (u:=E5 a) G G ⟨Gh (G4 G G) G,ø⟩ (Gb (u:=En i26) G G ⟨Gh (G4 G G) G,ø⟩ (Gb (u:=Ef y26) G G ⟨Gh (Gv (f:=Ga.av) (xs:=a) (y:=y26) G G G Hb hy26 G) G,ø⟩ (Gb (u:=.agg (Ga.cs y26)) G G ⟨Gh (Gi Y6 G G G) G,ø⟩ (Gb (u:=E5 b) G G ⟨Gh (G4 G G) G,ø⟩ (Gb (u:=En i26) G G ⟨Gh (G4 G G) G,ø⟩ (Gb (u:=Ef y31) G G ⟨Gh (Gv (f:=Ga.av) (xs:=b) (y:=y31) G G G Hb hy31 hm32) G,ø⟩ (Gb (u:=.agg (Ga.cs y31)) G G ⟨Gh (Gi Y6 G G G) G,ø⟩ (Gb (u:=BL r33) G G ⟨Gh (Gs (args:=[.agg (Ga.cs y26),.agg (Ga.cs y31)]) G (G17 y26 y31 r33 hr33) H97 ⟨G,G,G,G,ø⟩) G,ø⟩ (Gb (u:=BL (!r33)) G G ⟨Gh (Yu (b:=r33) G G) G,ø⟩ (Rb ?_))))))))))
   refine hK30 _ _ (Gp G (fun hb=>?_) (fun hb=>?_))
   ·
    replace h:=Gy hb h
    refine G5 fun K34 hK34=>G3 (JLh (BL false) (G8 G G) G (G9 (hK34 _ _ (Gx (⟨[BL false],[],ø,G,⟨⟨_,G,.conv (.same G)⟩,ø⟩,G,congrArg (fun r:Bool=>(BL r:AV)) (Option.some.inj h)⟩)))))
   ·
    replace h:=Hp hb h
    refine Gq (hK29 _ _ (G3 (JLh (En i26) (G4 G G) G (JLh (G1 ((i26+1:Nat):Int)) (Hj (Hi hk26 hm13) G G G) G (JLh (G1 ((i26+1:Nat):Int)) (G8 G G) G (G9 (e26 _ _ (i26+1) () (app1 hn26 h) (by omega) ⟨⟨.same rfl,.same rfl,.same rfl,ø⟩,ø,rfl⟩)))))))
  ·
   have h:=app1 hkx26 (Hz hi26 (Hg hb))
   refine Hc (hK5 _ _ (G5 fun K35 hK35=>G3 (JLh (BL true) (G8 G G) G (G9 (hK35 _ _ (Gx (⟨[BL true],[],ø,G,⟨⟨_,G,.conv (.same G)⟩,ø⟩,G,congrArg (fun r:Bool=>(BL r:AV)) (Option.some.inj h)⟩)))))))

def Jk (a:Gm) (b:Gm):Option Bool:=
 bnd (bif decide (a.Bay=b.Bay) then R5 a.Rows b.Rows else some default) fun r3=>
 some ((decide (a.Bay=b.Bay))&&r3)
theorem G24 (a:Gm) (b:Gm) (r:Bool) (h:Jk a b=some r):Pure Tryz.prog 183 [.agg [G1 a.Bay,E0 a.Rows],.agg [G1 b.Bay,E0 b.Rows]] (·=BL r):=by
 unfold Jk at h
 refine H1 [.tmp 4] Tryz.func183 G G (G5 fun K1 hK1=>G3 (JLh (.ptr 1122 0) (Qi (u:=.agg [G1 a.Bay,E0 a.Rows]) (cs:=[G1 a.Bay,E0 a.Rows]) 1122 G G G G G) G (JLh (.ptr 1123 0) (Qi (u:=.agg [G1 b.Bay,E0 b.Rows]) (cs:=[G1 b.Bay,E0 b.Rows]) 1123 G G G G G) G (JLh (BL false) (G8 G G) G (G9 (hK1 _ _ (Gz [(2,.dptr [G1 a.Bay,E0 a.Rows]),(3,.ptr 1123 0)] [(1123,.box 114 [G1 b.Bay,E0 b.Rows])] 1122 rfl rfl rfl ⟨⟨_,rfl,.boxEq rfl rfl⟩,ø⟩ rfl (by exact⟨.ptr,.conv (.same rfl),ø⟩) (Gz [(2,.dptr [G1 a.Bay,E0 a.Rows]),(3,.dptr [G1 b.Bay,E0 b.Rows])] [] 1123 rfl rfl rfl ø rfl (by exact⟨.conv (.same rfl),.ptr,ø⟩) ?_))))))))
 refine G5 fun K2 hK2=>G3 (JLh (.dptr [G1 a.Bay,E0 a.Rows]) (Ge G00 G G G) G (JLh (G1 a.Bay) (Gk Gc G G G) G (JLh (.dptr [G1 b.Bay,E0 b.Rows]) (Ge G00 G G G) G (JLh (G1 b.Bay) (Gk Gc G G G) G (JLh (BL (decide (a.Bay=b.Bay))) (Rt G G G) G (JLh (BL (decide (a.Bay=b.Bay))) (G4 G G) G (Gd (u:=.dptr [E0 a.Rows]) [] G G G .sct ø (fun hc=>Ge Jz G G G) ?_)))))))
 refine Gd (u:=E0 a.Rows) [(11,.dptr [E0 a.Rows])] G G G .sct ⟨.all id,ø⟩ (fun hc=>Gk Hv G G G) ?_
 refine Gd (u:=.dptr [E0 b.Rows]) [] G G G .sct ø (fun hc=>Ge Jz G G G) ?_
 refine Gd (u:=E0 b.Rows) [(13,.dptr [E0 b.Rows])] G G G .sct ⟨.all id,ø⟩ (fun hc=>Gk Hv G G G) ?_
 obtain⟨r3,hr3,h⟩:=Gf h
 refine Gd (u:=BL r3) [(12,E0 a.Rows),(14,E0 b.Rows)] G G G .sct ⟨.all id,.all id,ø⟩ (fun hc=>Gs (args:=[E0 a.Rows,E0 b.Rows]) G (G2a a.Rows b.Rows r3 (Gy hc hr3)) Hc8 ⟨G,G,G,G,ø⟩) ?_
 refine JLh (BL ((decide (a.Bay=b.Bay))&&r3)) (J7 G G G G) G (JLh (BL ((decide (a.Bay=b.Bay))&&r3)) (G8 G G) G (G9 (hK2 _ _ (Gx (⟨[BL ((decide (a.Bay=b.Bay))&&r3)],[],ø,G,⟨⟨_,G,.conv (.same G)⟩,ø⟩,G,congrArg (fun r:Bool=>(BL r:AV)) (Option.some.inj h)⟩)))))

def Yd (a:List Gm) (b:List Gm):Option Bool:=
 bif decide ((a.length:Int)≠(b.length:Int)) then
 (some false)
 else
 (each (fun y26 i26 (s26:Unit) nx26=>
   Qe b (i26:Int) fun y31=>
   bnd (Jk y26 y31) fun r33=>
   bif (!r33) then
   (some false)
   else
   (nx26 ()))
  (fun(s26:Unit)=>
   some true) a 0 ())
theorem Ge9 (a:List Gm) (b:List Gm) (r:Bool) (h:Yd a b=some r):Pure Tryz.prog 176 [E4 a,E4 b] (·=BL r):=by
 unfold Yd at h
 refine H1 [.tmp 4] Tryz.func176 G G (G5 fun K1 hK1=>G3 (JLh (BL false) (G8 G G) G (G9 (hK1 _ _ (G5 (fun K2 hK2=>G5 fun K3 hK3=>G3 (JLh (E4 a) (G4 G G) G (H0 (f:=Gm.av) (xs:=a) J2 G G (fun hm7=>?_) G G G))))))))
 refine JLh (E4 b) (G4 G G) G (H0 (f:=Gm.av) (xs:=b) J2 G G (fun hm9=>?_) G G G)
 refine JLh (BL (decide ((a.length:Int)≠(b.length:Int)))) (G14 G G G) G (G9 (hK3 _ _ (Gp G (fun hb=>?_) (fun hb=>?_))))
 ·
  replace h:=Gy hb h
  refine G5 fun K4 hK4=>G3 (JLh (BL false) (G8 G G) G (G9 (hK4 _ _ (Gx (⟨[BL false],[],ø,G,⟨⟨_,G,.conv (.same G)⟩,ø⟩,G,congrArg (fun r:Bool=>(BL r:AV)) (Option.some.inj h)⟩)))))
 ·
  replace h:=Hp hb h
  refine Gq (hK2 _ _ (G5 (fun K5 hK5=>G5 fun K6 hK6=>G3 (JLh (G1 0) (G8 G G) G (G9 (hK6 _ _ (Gn ?_)))))))
  obtain⟨b26,kx26,hb26,hkx26,h⟩:=J9 h
  refine H7 (fun i26 (s26:Unit)=>each b26 kx26 (List.drop i26 a) i26 s26=some r) (fun i26 s26=>[(0,E4 a),(1,E4 b),(5,En i26)]) (fun i26 s26=>[]) (fun i26=>a.length - i26) 0 () h ⟨⟨.same G,.same G,.same G,ø⟩,ø,G⟩ ?_
  clear h
  intro i26 s26 hi26 K26 e26
  refine G5 (fun K27 hK27=>G5 fun K28 hK28=>G3 (JLh (En i26) (G4 G G) G (JLh (E4 a) (G4 G G) G (H0 (f:=Gm.av) (xs:=a) J2 G G (fun hm13=>?_) G G G))))
  refine JLh (BL (decide ((i26:Int) < (a.length:Int)))) (Hx G G G) G (G9 (hK28 _ _ (Gp G (fun hb=>?_) (fun hb=>?_))))
  ·
   have hk26:=Jm hb
   obtain⟨y26,nx26,hy26,hn26,h⟩:=Hy hi26 hk26
   replace h:=Zn hb26 h
   refine Gq (hK27 _ _ (G5 (fun K29 hK29=>Gn (G5 (fun K30 hK30=>?_)))))
   obtain⟨m32,y31,hm32,hy31,h⟩:=Q6 h
   obtain⟨r33,hr33,h⟩:=Gf h
   refine Jc [] [0,0,0,0,0,0,0,0,0,0] [0,0,0,0,0,0,0,0,0,0] [[]] J3 (by kernel_rfl) rfl rfl ?_
   refine Gb (u:=E4 a) G G ⟨Gh (G4 G G) G,ø⟩ (Gb (u:=En i26) G G ⟨Gh (G4 G G) G,ø⟩ (Gb (u:=.dptr [G1 y26.Bay,E0 y26.Rows]) G G ⟨Gh (Gv (f:=Gm.av) (xs:=a) (y:=y26) G G G J2 hy26 G) G,ø⟩ (Gb (u:=.agg [G1 y26.Bay,E0 y26.Rows]) G G ⟨Gh (Gi Yv G G G) G,ø⟩ (Gb (u:=E4 b) G G ⟨Gh (G4 G G) G,ø⟩ (Gb (u:=En i26) G G ⟨Gh (G4 G G) G,ø⟩ (Gb (u:=.dptr [G1 y31.Bay,E0 y31.Rows]) G G ⟨Gh (Gv (f:=Gm.av) (xs:=b) (y:=y31) G G G J2 hy31 hm32) G,ø⟩ (Gb (u:=.agg [G1 y31.Bay,E0 y31.Rows]) G G ⟨Gh (Gi Yv G G G) G,ø⟩ (Gb (u:=BL r33) G G ⟨Gh (Gs (args:=[.agg [G1 y26.Bay,E0 y26.Rows],.agg [G1 y31.Bay,E0 y31.Rows]]) G (G24 y26 y31 r33 hr33) H96 ⟨G,G,G,G,ø⟩) G,ø⟩ (Gb (u:=BL (!r33)) G G ⟨Gh (Yu (b:=r33) G G) G,ø⟩ (Rb ?_))))))))))
   refine hK30 _ _ (Gp G (fun hb=>?_) (fun hb=>?_))
   ·
    replace h:=Gy hb h
    refine G5 fun K34 hK34=>G3 (JLh (BL false) (G8 G G) G (G9 (hK34 _ _ (Gx (⟨[BL false],[],ø,G,⟨⟨_,G,.conv (.same G)⟩,ø⟩,G,congrArg (fun r:Bool=>(BL r:AV)) (Option.some.inj h)⟩)))))
   ·
    replace h:=Hp hb h
    refine Gq (hK29 _ _ (G3 (JLh (En i26) (G4 G G) G (JLh (G1 ((i26+1:Nat):Int)) (Hj (Hi hk26 hm13) G G G) G (JLh (G1 ((i26+1:Nat):Int)) (G8 G G) G (G9 (e26 _ _ (i26+1) () (app1 hn26 h) (by omega) ⟨⟨.same rfl,.same rfl,.same rfl,ø⟩,ø,rfl⟩)))))))
  ·
   have h:=app1 hkx26 (Hz hi26 (Hg hb))
   refine Hc (hK5 _ _ (G5 fun K35 hK35=>G3 (JLh (BL true) (G8 G G) G (G9 (hK35 _ _ (Gx (⟨[BL true],[],ø,G,⟨⟨_,G,.conv (.same G)⟩,ø⟩,G,congrArg (fun r:Bool=>(BL r:AV)) (Option.some.inj h)⟩)))))))

def Yz (a:List Row) (b:List Row):Option Bool:=
 bif decide ((a.length:Int)≠(b.length:Int)) then
 (some false)
 else
 (each (fun y24 i24 (s24:Unit) nx24=>
   Qe b (i24:Int) fun y29=>
   bif (!decide (y24=y29)) then
   (some false)
   else
   (nx24 ()))
  (fun(s24:Unit)=>
   some true) a 0 ())
theorem H23 (a:List Row) (b:List Row) (r:Bool) (h:Yz a b=some r):Pure Tryz.prog 177 [E7 a,E7 b] (·=BL r):=by
 unfold Yz at h
 refine H1 [.tmp 4] Tryz.func177 G G (G5 fun K1 hK1=>G3 (JLh (BL false) (G8 G G) G (G9 (hK1 _ _ (G5 (fun K2 hK2=>G5 fun K3 hK3=>G3 (JLh (E7 a) (G4 G G) G (H0 (f:=Row.av) (xs:=a) Jy G G (fun hm7=>?_) G G G))))))))
 refine JLh (E7 b) (G4 G G) G (H0 (f:=Row.av) (xs:=b) Jy G G (fun hm9=>?_) G G G)
 refine JLh (BL (decide ((a.length:Int)≠(b.length:Int)))) (G14 G G G) G (G9 (hK3 _ _ (Gp G (fun hb=>?_) (fun hb=>?_))))
 ·
  replace h:=Gy hb h
  refine G5 fun K4 hK4=>G3 (JLh (BL false) (G8 G G) G (G9 (hK4 _ _ (Gx (⟨[BL false],[],ø,G,⟨⟨_,G,.conv (.same G)⟩,ø⟩,G,congrArg (fun r:Bool=>(BL r:AV)) (Option.some.inj h)⟩)))))
 ·
  replace h:=Hp hb h
  refine Gq (hK2 _ _ (G5 (fun K5 hK5=>G5 fun K6 hK6=>G3 (JLh (G1 0) (G8 G G) G (G9 (hK6 _ _ (Gn ?_)))))))
  obtain⟨b24,kx24,hb24,hkx24,h⟩:=J9 h
  refine H7 (fun i24 (s24:Unit)=>each b24 kx24 (List.drop i24 a) i24 s24=some r) (fun i24 s24=>[(0,E7 a),(1,E7 b),(5,En i24)]) (fun i24 s24=>[]) (fun i24=>a.length - i24) 0 () h ⟨⟨.same G,.same G,.same G,ø⟩,ø,G⟩ ?_
  clear h
  intro i24 s24 hi24 K24 e24
  refine G5 (fun K25 hK25=>G5 fun K26 hK26=>G3 (JLh (En i24) (G4 G G) G (JLh (E7 a) (G4 G G) G (H0 (f:=Row.av) (xs:=a) Jy G G (fun hm13=>?_) G G G))))
  refine JLh (BL (decide ((i24:Int) < (a.length:Int)))) (Hx G G G) G (G9 (hK26 _ _ (Gp G (fun hb=>?_) (fun hb=>?_))))
  ·
   have hk24:=Jm hb
   obtain⟨y24,nx24,hy24,hn24,h⟩:=Hy hi24 hk24
   replace h:=Zn hb24 h
   refine Gq (hK25 _ _ (G5 (fun K27 hK27=>Gn (G5 (fun K28 hK28=>?_)))))
   obtain⟨m30,y29,hm30,hy29,h⟩:=Q6 h
   refine Jc [] [0,0,0,0,0,0,0,0,0] [0,0,0,0,0,0,0,0,0] [[]] J3 (by kernel_rfl) rfl rfl ?_
   refine Gb (u:=E7 a) G G ⟨Gh (G4 G G) G,ø⟩ (Gb (u:=En i24) G G ⟨Gh (G4 G G) G,ø⟩ (Gb (u:=Ej y24) G G ⟨Gh (Gv (f:=Row.av) (xs:=a) (y:=y24) G G G Jy hy24 G) G,ø⟩ (Gb (u:=.agg (Row.cs y24)) G G ⟨Gh (Gi Gbe G G G) G,ø⟩ (Gb (u:=E7 b) G G ⟨Gh (G4 G G) G,ø⟩ (Gb (u:=En i24) G G ⟨Gh (G4 G G) G,ø⟩ (Gb (u:=Ej y29) G G ⟨Gh (Gv (f:=Row.av) (xs:=b) (y:=y29) G G G Jy hy29 hm30) G,ø⟩ (Gb (u:=.agg (Row.cs y29)) G G ⟨Gh (Gi Gbe G G G) G,ø⟩ (Gb (u:=BL (!decide (y24=y29))) G G ⟨Gh (J66 (vs:=[.int .i64 y24.Draught,.int .i64 y24.Kilos,.int .i64 y24.Buoy,.int .i64 y24.Metacentre,.int .i64 y24.Ha9]) (us:=[.int .i64 y29.Draught,.int .i64 y29.Kilos,.int .i64 y29.Buoy,.int .i64 y29.Metacentre,.int .i64 y29.Ha9]) 4 G (tq_228 y24 y29) H63 Hc7 G G G) G,ø⟩ (Rb ?_)))))))))
   refine hK28 _ _ (Gp G (fun hb=>?_) (fun hb=>?_))
   ·
    replace h:=Gy hb h
    refine G5 fun K31 hK31=>G3 (JLh (BL false) (G8 G G) G (G9 (hK31 _ _ (Gx (⟨[BL false],[],ø,G,⟨⟨_,G,.conv (.same G)⟩,ø⟩,G,congrArg (fun r:Bool=>(BL r:AV)) (Option.some.inj h)⟩)))))
   ·
    replace h:=Hp hb h
    refine Gq (hK27 _ _ (G3 (JLh (En i24) (G4 G G) G (JLh (G1 ((i24+1:Nat):Int)) (Hj (Hi hk24 hm13) G G G) G (JLh (G1 ((i24+1:Nat):Int)) (G8 G G) G (G9 (e24 _ _ (i24+1) () (app1 hn24 h) (by omega) ⟨⟨.same rfl,.same rfl,.same rfl,ø⟩,ø,rfl⟩)))))))
  ·
   have h:=app1 hkx24 (Hz hi24 (Hg hb))
   refine Hc (hK5 _ _ (G5 fun K32 hK32=>G3 (JLh (BL true) (G8 G G) G (G9 (hK32 _ _ (Gx (⟨[BL true],[],ø,G,⟨⟨_,G,.conv (.same G)⟩,ø⟩,G,congrArg (fun r:Bool=>(BL r:AV)) (Option.some.inj h)⟩)))))))

def Yc (a:List Frame) (b:List Frame):Option Bool:=
 bif decide ((a.length:Int)≠(b.length:Int)) then
 (some false)
 else
 (each (fun y24 i24 (s24:Unit) nx24=>
   Qe b (i24:Int) fun y29=>
   bif (!decide (y24=y29)) then
   (some false)
   else
   (nx24 ()))
  (fun(s24:Unit)=>
   some true) a 0 ())
theorem Ge8 (a:List Frame) (b:List Frame) (r:Bool) (h:Yc a b=some r):Pure Tryz.prog 178 [E6 a,E6 b] (·=BL r):=by
 unfold Yc at h
 refine H1 [.tmp 4] Tryz.func178 G G (G5 fun K1 hK1=>G3 (JLh (BL false) (G8 G G) G (G9 (hK1 _ _ (G5 (fun K2 hK2=>G5 fun K3 hK3=>G3 (JLh (E6 a) (G4 G G) G (H0 (f:=Frame.av) (xs:=a) Jx G G (fun hm7=>?_) G G G))))))))
 refine JLh (E6 b) (G4 G G) G (H0 (f:=Frame.av) (xs:=b) Jx G G (fun hm9=>?_) G G G)
 refine JLh (BL (decide ((a.length:Int)≠(b.length:Int)))) (G14 G G G) G (G9 (hK3 _ _ (Gp G (fun hb=>?_) (fun hb=>?_))))
 ·
  replace h:=Gy hb h
  refine G5 fun K4 hK4=>G3 (JLh (BL false) (G8 G G) G (G9 (hK4 _ _ (Gx (⟨[BL false],[],ø,G,⟨⟨_,G,.conv (.same G)⟩,ø⟩,G,congrArg (fun r:Bool=>(BL r:AV)) (Option.some.inj h)⟩)))))
 ·
  replace h:=Hp hb h
  refine Gq (hK2 _ _ (G5 (fun K5 hK5=>G5 fun K6 hK6=>G3 (JLh (G1 0) (G8 G G) G (G9 (hK6 _ _ (Gn ?_)))))))
  obtain⟨b24,kx24,hb24,hkx24,h⟩:=J9 h
  refine H7 (fun i24 (s24:Unit)=>each b24 kx24 (List.drop i24 a) i24 s24=some r) (fun i24 s24=>[(0,E6 a),(1,E6 b),(5,En i24)]) (fun i24 s24=>[]) (fun i24=>a.length - i24) 0 () h ⟨⟨.same G,.same G,.same G,ø⟩,ø,G⟩ ?_
  clear h
  intro i24 s24 hi24 K24 e24
  refine G5 (fun K25 hK25=>G5 fun K26 hK26=>G3 (JLh (En i24) (G4 G G) G (JLh (E6 a) (G4 G G) G (H0 (f:=Frame.av) (xs:=a) Jx G G (fun hm13=>?_) G G G))))
  refine JLh (BL (decide ((i24:Int) < (a.length:Int)))) (Hx G G G) G (G9 (hK26 _ _ (Gp G (fun hb=>?_) (fun hb=>?_))))
  ·
   have hk24:=Jm hb
   obtain⟨y24,nx24,hy24,hn24,h⟩:=Hy hi24 hk24
   replace h:=Zn hb24 h
   refine Gq (hK25 _ _ (G5 (fun K27 hK27=>Gn (G5 (fun K28 hK28=>?_)))))
   obtain⟨m30,y29,hm30,hy29,h⟩:=Q6 h
   refine Jc [] [0,0,0,0,0,0,0,0,0] [0,0,0,0,0,0,0,0,0] [[]] J3 (by kernel_rfl) rfl rfl ?_
   refine Gb (u:=E6 a) G G ⟨Gh (G4 G G) G,ø⟩ (Gb (u:=En i24) G G ⟨Gh (G4 G G) G,ø⟩ (Gb (u:=Ek y24) G G ⟨Gh (Gv (f:=Frame.av) (xs:=a) (y:=y24) G G G Jx hy24 G) G,ø⟩ (Gb (u:=.agg (Frame.cs y24)) G G ⟨Gh (Gi Gbd G G G) G,ø⟩ (Gb (u:=E6 b) G G ⟨Gh (G4 G G) G,ø⟩ (Gb (u:=En i24) G G ⟨Gh (G4 G G) G,ø⟩ (Gb (u:=Ek y29) G G ⟨Gh (Gv (f:=Frame.av) (xs:=b) (y:=y29) G G G Jx hy29 hm30) G,ø⟩ (Gb (u:=.agg (Frame.cs y29)) G G ⟨Gh (Gi Gbd G G G) G,ø⟩ (Gb (u:=BL (!decide (y24=y29))) G G ⟨Gh (J66 (vs:=[.int .i64 y24.X,.int .i64 y24.Light,.int .i64 y24.Share,.int .i64 y24.Shear,.int .i64 y24.Bend]) (us:=[.int .i64 y29.X,.int .i64 y29.Light,.int .i64 y29.Share,.int .i64 y29.Shear,.int .i64 y29.Bend]) 4 G (tq_231 y24 y29) H62 Hc6 G G G) G,ø⟩ (Rb ?_)))))))))
   refine hK28 _ _ (Gp G (fun hb=>?_) (fun hb=>?_))
   ·
    replace h:=Gy hb h
    refine G5 fun K31 hK31=>G3 (JLh (BL false) (G8 G G) G (G9 (hK31 _ _ (Gx (⟨[BL false],[],ø,G,⟨⟨_,G,.conv (.same G)⟩,ø⟩,G,congrArg (fun r:Bool=>(BL r:AV)) (Option.some.inj h)⟩)))))
   ·
    replace h:=Hp hb h
    refine Gq (hK27 _ _ (G3 (JLh (En i24) (G4 G G) G (JLh (G1 ((i24+1:Nat):Int)) (Hj (Hi hk24 hm13) G G G) G (JLh (G1 ((i24+1:Nat):Int)) (G8 G G) G (G9 (e24 _ _ (i24+1) () (app1 hn24 h) (by omega) ⟨⟨.same rfl,.same rfl,.same rfl,ø⟩,ø,rfl⟩)))))))
  ·
   have h:=app1 hkx24 (Hz hi24 (Hg hb))
   refine Hc (hK5 _ _ (G5 fun K32 hK32=>G3 (JLh (BL true) (G8 G G) G (G9 (hK32 _ _ (Gx (⟨[BL true],[],ø,G,⟨⟨_,G,.conv (.same G)⟩,ø⟩,G,congrArg (fun r:Bool=>(BL r:AV)) (Option.some.inj h)⟩)))))))

def Jr (a:Gw) (b:Gw):Option Bool:=
 bnd (bif (((((decide (a.Kilos=b.Kilos))&&(decide (a.X=b.X)))&&(decide (a.Y=b.Y)))&&(decide (a.Z=b.Z)))&&(decide (a.Surface=b.Surface))) then R5 a.Steps b.Steps else some default) fun r3=>
 some ((((((decide (a.Kilos=b.Kilos))&&(decide (a.X=b.X)))&&(decide (a.Y=b.Y)))&&(decide (a.Z=b.Z)))&&(decide (a.Surface=b.Surface)))&&r3)
theorem G29 (a:Gw) (b:Gw) (r:Bool) (h:Jr a b=some r):Pure Tryz.prog 185 [.agg (Gw.cs a),.agg (Gw.cs b)] (·=BL r):=by
 unfold Jr at h
 refine H1 [.tmp 4] Tryz.func185 G G (G5 fun K1 hK1=>G3 (JLh (.ptr 1126 0) (Qi (u:=.agg (Gw.cs a)) (cs:=[G1 a.Kilos,G1 a.X,G1 a.Y,G1 a.Z,G1 a.Surface,E0 a.Steps]) 1126 G G G G G) G (JLh (.ptr 1127 0) (Qi (u:=.agg (Gw.cs b)) (cs:=[G1 b.Kilos,G1 b.X,G1 b.Y,G1 b.Z,G1 b.Surface,E0 b.Steps]) 1127 G G G G G) G (JLh (BL false) (G8 G G) G (G9 (hK1 _ _ (Gz [(2,Eh a),(3,.ptr 1127 0)] [(1127,.box 234 [G1 b.Kilos,G1 b.X,G1 b.Y,G1 b.Z,G1 b.Surface,E0 b.Steps])] 1126 rfl rfl rfl ⟨⟨_,rfl,.boxEq rfl rfl⟩,ø⟩ rfl (by exact⟨.ptr,.conv (.same rfl),ø⟩) (Gz [(2,Eh a),(3,Eh b)] [] 1127 rfl rfl rfl ø rfl (by exact⟨.conv (.same rfl),.ptr,ø⟩) ?_))))))))
 refine G5 fun K2 hK2=>G3 (JLh (Eh a) (Ge H8c G G G) G (JLh (G1 a.Kilos) (Gk Gc G G G) G (JLh (Eh b) (Ge H8c G G G) G (JLh (G1 b.Kilos) (Gk Gc G G G) G (JLh (BL (decide (a.Kilos=b.Kilos))) (Rt G G G) G (JLh (BL (decide (a.Kilos=b.Kilos))) (G4 G G) G (Gd (u:=.dptr ((Gw.cs a).drop 1)) [] G G G .sct ø (fun hc=>Ge H8b G G G) ?_)))))))
 refine Gd (u:=G1 a.X) [(11,.dptr ((Gw.cs a).drop 1))] G G G .sct ⟨.all id,ø⟩ (fun hc=>Gk Gc G G G) ?_
 refine Gd (u:=.dptr ((Gw.cs b).drop 1)) [] G G G .sct ø (fun hc=>Ge H8b G G G) ?_
 refine Gd (u:=G1 b.X) [(13,.dptr ((Gw.cs b).drop 1))] G G G .sct ⟨.all id,ø⟩ (fun hc=>Gk Gc G G G) ?_
 refine Gd (u:=BL (decide (a.X=b.X))) [(12,G1 a.X),(14,G1 b.X)] G G G .sct ⟨.all id,.all id,ø⟩ (fun hc=>Rt G G G) ?_
 refine JLh (BL ((decide (a.Kilos=b.Kilos))&&(decide (a.X=b.X)))) (J7 G G G G) G (JLh (BL ((decide (a.Kilos=b.Kilos))&&(decide (a.X=b.X)))) (G4 G G) G (Gd (u:=.dptr ((Gw.cs a).drop 2)) [] G G G .sct ø (fun hc=>Ge H8a G G G) ?_))
 refine Gd (u:=G1 a.Y) [(18,.dptr ((Gw.cs a).drop 2))] G G G .sct ⟨.all id,ø⟩ (fun hc=>Gk Gc G G G) ?_
 refine Gd (u:=.dptr ((Gw.cs b).drop 2)) [] G G G .sct ø (fun hc=>Ge H8a G G G) ?_
 refine Gd (u:=G1 b.Y) [(20,.dptr ((Gw.cs b).drop 2))] G G G .sct ⟨.all id,ø⟩ (fun hc=>Gk Gc G G G) ?_
 refine Gd (u:=BL (decide (a.Y=b.Y))) [(19,G1 a.Y),(21,G1 b.Y)] G G G .sct ⟨.all id,.all id,ø⟩ (fun hc=>Rt G G G) ?_
 refine JLh (BL (((decide (a.Kilos=b.Kilos))&&(decide (a.X=b.X)))&&(decide (a.Y=b.Y)))) (J7 G G G G) G (JLh (BL (((decide (a.Kilos=b.Kilos))&&(decide (a.X=b.X)))&&(decide (a.Y=b.Y)))) (G4 G G) G (Gd (u:=.dptr ((Gw.cs a).drop 3)) [] G G G .sct ø (fun hc=>Ge H89 G G G) ?_))
 refine Gd (u:=G1 a.Z) [(25,.dptr ((Gw.cs a).drop 3))] G G G .sct ⟨.all id,ø⟩ (fun hc=>Gk Gc G G G) ?_
 refine Gd (u:=.dptr ((Gw.cs b).drop 3)) [] G G G .sct ø (fun hc=>Ge H89 G G G) ?_
 refine Gd (u:=G1 b.Z) [(27,.dptr ((Gw.cs b).drop 3))] G G G .sct ⟨.all id,ø⟩ (fun hc=>Gk Gc G G G) ?_
 refine Gd (u:=BL (decide (a.Z=b.Z))) [(26,G1 a.Z),(28,G1 b.Z)] G G G .sct ⟨.all id,.all id,ø⟩ (fun hc=>Rt G G G) ?_
 refine JLh (BL ((((decide (a.Kilos=b.Kilos))&&(decide (a.X=b.X)))&&(decide (a.Y=b.Y)))&&(decide (a.Z=b.Z)))) (J7 G G G G) G (JLh (BL ((((decide (a.Kilos=b.Kilos))&&(decide (a.X=b.X)))&&(decide (a.Y=b.Y)))&&(decide (a.Z=b.Z)))) (G4 G G) G (Gd (u:=.dptr [G1 a.Surface,E0 a.Steps]) [] G G G .sct ø (fun hc=>Ge H88 G G G) ?_))
 refine Gd (u:=G1 a.Surface) [(32,.dptr [G1 a.Surface,E0 a.Steps])] G G G .sct ⟨.all id,ø⟩ (fun hc=>Gk Gc G G G) ?_
 refine Gd (u:=.dptr [G1 b.Surface,E0 b.Steps]) [] G G G .sct ø (fun hc=>Ge H88 G G G) ?_
 refine Gd (u:=G1 b.Surface) [(34,.dptr [G1 b.Surface,E0 b.Steps])] G G G .sct ⟨.all id,ø⟩ (fun hc=>Gk Gc G G G) ?_
 refine Gd (u:=BL (decide (a.Surface=b.Surface))) [(33,G1 a.Surface),(35,G1 b.Surface)] G G G .sct ⟨.all id,.all id,ø⟩ (fun hc=>Rt G G G) ?_
 refine JLh (BL (((((decide (a.Kilos=b.Kilos))&&(decide (a.X=b.X)))&&(decide (a.Y=b.Y)))&&(decide (a.Z=b.Z)))&&(decide (a.Surface=b.Surface)))) (J7 G G G G) G (JLh (BL (((((decide (a.Kilos=b.Kilos))&&(decide (a.X=b.X)))&&(decide (a.Y=b.Y)))&&(decide (a.Z=b.Z)))&&(decide (a.Surface=b.Surface)))) (G4 G G) G (Gd (u:=.dptr [E0 a.Steps]) [] G G G .sct ø (fun hc=>Ge G3f G G G) ?_))
 refine Gd (u:=E0 a.Steps) [(39,.dptr [E0 a.Steps])] G G G .sct ⟨.all id,ø⟩ (fun hc=>Gk Hv G G G) ?_
 refine Gd (u:=.dptr [E0 b.Steps]) [] G G G .sct ø (fun hc=>Ge G3f G G G) ?_
 refine Gd (u:=E0 b.Steps) [(41,.dptr [E0 b.Steps])] G G G .sct ⟨.all id,ø⟩ (fun hc=>Gk Hv G G G) ?_
 obtain⟨r3,hr3,h⟩:=Gf h
 refine Gd (u:=BL r3) [(40,E0 a.Steps),(42,E0 b.Steps)] G G G .sct ⟨.all id,.all id,ø⟩ (fun hc=>Gs (args:=[E0 a.Steps,E0 b.Steps]) G (G2a a.Steps b.Steps r3 (Gy hc hr3)) Hc8 ⟨G,G,G,G,ø⟩) ?_
 refine JLh (BL ((((((decide (a.Kilos=b.Kilos))&&(decide (a.X=b.X)))&&(decide (a.Y=b.Y)))&&(decide (a.Z=b.Z)))&&(decide (a.Surface=b.Surface)))&&r3)) (J7 G G G G) G (JLh (BL ((((((decide (a.Kilos=b.Kilos))&&(decide (a.X=b.X)))&&(decide (a.Y=b.Y)))&&(decide (a.Z=b.Z)))&&(decide (a.Surface=b.Surface)))&&r3)) (G8 G G) G (G9 (hK2 _ _ (Gx (⟨[BL ((((((decide (a.Kilos=b.Kilos))&&(decide (a.X=b.X)))&&(decide (a.Y=b.Y)))&&(decide (a.Z=b.Z)))&&(decide (a.Surface=b.Surface)))&&r3)],[],ø,G,⟨⟨_,G,.conv (.same G)⟩,ø⟩,G,congrArg (fun r:Bool=>(BL r:AV)) (Option.some.inj h)⟩)))))

def Yo (a:List Gw) (b:List Gw):Option Bool:=
 bif decide ((a.length:Int)≠(b.length:Int)) then
 (some false)
 else
 (each (fun y26 i26 (s26:Unit) nx26=>
   Qe b (i26:Int) fun y31=>
   bnd (Jr y26 y31) fun r33=>
   bif (!r33) then
   (some false)
   else
   (nx26 ()))
  (fun(s26:Unit)=>
   some true) a 0 ())
theorem H11 (a:List Gw) (b:List Gw) (r:Bool) (h:Yo a b=some r):Pure Tryz.prog 179 [E8 a,E8 b] (·=BL r):=by
 unfold Yo at h
 refine H1 [.tmp 4] Tryz.func179 G G (G5 fun K1 hK1=>G3 (JLh (BL false) (G8 G G) G (G9 (hK1 _ _ (G5 (fun K2 hK2=>G5 fun K3 hK3=>G3 (JLh (E8 a) (G4 G G) G (H0 (f:=Gw.av) (xs:=a) Ji G G (fun hm7=>?_) G G G))))))))
 refine JLh (E8 b) (G4 G G) G (H0 (f:=Gw.av) (xs:=b) Ji G G (fun hm9=>?_) G G G)
 refine JLh (BL (decide ((a.length:Int)≠(b.length:Int)))) (G14 G G G) G (G9 (hK3 _ _ (Gp G (fun hb=>?_) (fun hb=>?_))))
 ·
  replace h:=Gy hb h
  refine G5 fun K4 hK4=>G3 (JLh (BL false) (G8 G G) G (G9 (hK4 _ _ (Gx (⟨[BL false],[],ø,G,⟨⟨_,G,.conv (.same G)⟩,ø⟩,G,congrArg (fun r:Bool=>(BL r:AV)) (Option.some.inj h)⟩)))))
 ·
  replace h:=Hp hb h
  refine Gq (hK2 _ _ (G5 (fun K5 hK5=>G5 fun K6 hK6=>G3 (JLh (G1 0) (G8 G G) G (G9 (hK6 _ _ (Gn ?_)))))))
  obtain⟨b26,kx26,hb26,hkx26,h⟩:=J9 h
  refine H7 (fun i26 (s26:Unit)=>each b26 kx26 (List.drop i26 a) i26 s26=some r) (fun i26 s26=>[(0,E8 a),(1,E8 b),(5,En i26)]) (fun i26 s26=>[]) (fun i26=>a.length - i26) 0 () h ⟨⟨.same G,.same G,.same G,ø⟩,ø,G⟩ ?_
  clear h
  intro i26 s26 hi26 K26 e26
  refine G5 (fun K27 hK27=>G5 fun K28 hK28=>G3 (JLh (En i26) (G4 G G) G (JLh (E8 a) (G4 G G) G (H0 (f:=Gw.av) (xs:=a) Ji G G (fun hm13=>?_) G G G))))
  refine JLh (BL (decide ((i26:Int) < (a.length:Int)))) (Hx G G G) G (G9 (hK28 _ _ (Gp G (fun hb=>?_) (fun hb=>?_))))
  ·
   have hk26:=Jm hb
   obtain⟨y26,nx26,hy26,hn26,h⟩:=Hy hi26 hk26
   replace h:=Zn hb26 h
   refine Gq (hK27 _ _ (G5 (fun K29 hK29=>Gn (G5 (fun K30 hK30=>?_)))))
   obtain⟨m32,y31,hm32,hy31,h⟩:=Q6 h
   obtain⟨r33,hr33,h⟩:=Gf h
   refine Jc [] [0,0,0,0,0,0,0,0,0,0] [0,0,0,0,0,0,0,0,0,0] [[]] J3 (by kernel_rfl) rfl rfl ?_
   refine Gb (u:=E8 a) G G ⟨Gh (G4 G G) G,ø⟩ (Gb (u:=En i26) G G ⟨Gh (G4 G G) G,ø⟩ (Gb (u:=Eh y26) G G ⟨Gh (Gv (f:=Gw.av) (xs:=a) (y:=y26) G G G Ji hy26 G) G,ø⟩ (Gb (u:=.agg (Gw.cs y26)) G G ⟨Gh (Gi G0c G G G) G,ø⟩ (Gb (u:=E8 b) G G ⟨Gh (G4 G G) G,ø⟩ (Gb (u:=En i26) G G ⟨Gh (G4 G G) G,ø⟩ (Gb (u:=Eh y31) G G ⟨Gh (Gv (f:=Gw.av) (xs:=b) (y:=y31) G G G Ji hy31 hm32) G,ø⟩ (Gb (u:=.agg (Gw.cs y31)) G G ⟨Gh (Gi G0c G G G) G,ø⟩ (Gb (u:=BL r33) G G ⟨Gh (Gs (args:=[.agg (Gw.cs y26),.agg (Gw.cs y31)]) G (G29 y26 y31 r33 hr33) H95 ⟨G,G,G,G,ø⟩) G,ø⟩ (Gb (u:=BL (!r33)) G G ⟨Gh (Yu (b:=r33) G G) G,ø⟩ (Rb ?_))))))))))
   refine hK30 _ _ (Gp G (fun hb=>?_) (fun hb=>?_))
   ·
    replace h:=Gy hb h
    refine G5 fun K34 hK34=>G3 (JLh (BL false) (G8 G G) G (G9 (hK34 _ _ (Gx (⟨[BL false],[],ø,G,⟨⟨_,G,.conv (.same G)⟩,ø⟩,G,congrArg (fun r:Bool=>(BL r:AV)) (Option.some.inj h)⟩)))))
   ·
    replace h:=Hp hb h
    refine Gq (hK29 _ _ (G3 (JLh (En i26) (G4 G G) G (JLh (G1 ((i26+1:Nat):Int)) (Hj (Hi hk26 hm13) G G G) G (JLh (G1 ((i26+1:Nat):Int)) (G8 G G) G (G9 (e26 _ _ (i26+1) () (app1 hn26 h) (by omega) ⟨⟨.same rfl,.same rfl,.same rfl,ø⟩,ø,rfl⟩)))))))
  ·
   have h:=app1 hkx26 (Hz hi26 (Hg hb))
   refine Hc (hK5 _ _ (G5 fun K35 hK35=>G3 (JLh (BL true) (G8 G G) G (G9 (hK35 _ _ (Gx (⟨[BL true],[],ø,G,⟨⟨_,G,.conv (.same G)⟩,ø⟩,G,congrArg (fun r:Bool=>(BL r:AV)) (Option.some.inj h)⟩)))))))

def Yy (a:J0) (b:J0):Option Bool:=
 bnd (Y7 a.Columns b.Columns) fun r3=>
 bnd (bif r3 then Yd a.Covers b.Covers else some default) fun r4=>
 bnd (bif ((r3&&r4)&&(decide (a.Light=b.Light))) then Yz a.Rows b.Rows else some default) fun r5=>
 bnd (bif (((r3&&r4)&&(decide (a.Light=b.Light)))&&r5) then Yc a.Frames b.Frames else some default) fun r6=>
 bnd (bif ((((r3&&r4)&&(decide (a.Light=b.Light)))&&r5)&&r6) then Yo a.Tanks b.Tanks else some default) fun r7=>
 some ((((((r3&&r4)&&(decide (a.Light=b.Light)))&&r5)&&r6)&&r7)&&(decide (a.G7=b.G7)))
theorem H22 (a:J0) (b:J0) (r:Bool) (h:Yy a b=some r):Pure Tryz.prog 83 [.agg (J0.cs a),.agg (J0.cs b)] (·=BL r):=by
 unfold Yy at h
 refine H1 [.tmp 4] Tryz.func83 G G (G5 fun K1 hK1=>G3 (JLh (.ptr 1065 0) (Qi (u:=.agg (J0.cs a)) (cs:=(J0.cs a)) 1065 G G G G G) G (JLh (.ptr 1066 0) (Qi (u:=.agg (J0.cs b)) (cs:=(J0.cs b)) 1066 G G G G G) G (JLh (BL false) (G8 G G) G (G9 (hK1 _ _ ?_))))))
 refine Gz [(2,Ed a),(3,.ptr 1066 0)] [(1066,.box 32 (J0.cs b))] 1065 rfl rfl rfl ⟨⟨_,rfl,.boxEq rfl rfl⟩,ø⟩ rfl (by exact⟨.ptr,.conv (.same rfl),ø⟩) (Gz [(2,Ed a),(3,Ed b)] [] 1066 rfl rfl rfl ø rfl (by exact⟨.conv (.same rfl),.ptr,ø⟩) (G5 fun K2 hK2=>G3 (JLh (Ed a) (Ge Hw G G G) G (JLh (E5 a.Columns) (Gk J8 G G G) G (JLh (Ed b) (Ge Hw G G G) G (JLh (E5 b.Columns) (Gk J8 G G G) G ?_))))))
 obtain⟨r3,hr3,h⟩:=Gf h
 refine JLh (BL r3) (Gs (args:=[E5 a.Columns,E5 b.Columns]) G (Gda a.Columns b.Columns r3 hr3) Jd8 ⟨G,G,G,G,ø⟩) G (JLh (BL r3) (G4 G G) G (Gd (u:=.dptr ((J0.cs a).drop 1)) [] G G G .sct ø (fun hc=>Ge Qs G G G) ?_))
 refine Gd (u:=E4 a.Covers) [(11,.dptr ((J0.cs a).drop 1))] G G G .sct ⟨.all id,ø⟩ (fun hc=>Gk Rw G G G) ?_
 refine Gd (u:=.dptr ((J0.cs b).drop 1)) [] G G G .sct ø (fun hc=>Ge Qs G G G) ?_
 refine Gd (u:=E4 b.Covers) [(13,.dptr ((J0.cs b).drop 1))] G G G .sct ⟨.all id,ø⟩ (fun hc=>Gk Rw G G G) ?_
 obtain⟨r4,hr4,h⟩:=Gf h
 refine Gd (u:=BL r4) [(12,E4 a.Covers),(14,E4 b.Covers)] G G G .sct ⟨.all id,.all id,ø⟩ (fun hc=>Gs (args:=[E4 a.Covers,E4 b.Covers]) G (Ge9 a.Covers b.Covers r4 (Gy hc hr4)) Jd7 ⟨G,G,G,G,ø⟩) ?_
 refine JLh (BL (r3&&r4)) (J7 G G G G) G (JLh (BL (r3&&r4)) (G4 G G) G (Gd (u:=.dptr ((J0.cs a).drop 2)) [] G G G .sct ø (fun hc=>Ge Hc3 G G G) ?_))
 refine Gd (u:=.agg (Light.cs a.Light)) [(18,.dptr ((J0.cs a).drop 2))] G G G .sct ⟨.all id,ø⟩ (fun hc=>Gi Jb5 G G G) ?_
 refine Gd (u:=.dptr ((J0.cs b).drop 2)) [] G G G .sct ø (fun hc=>Ge Hc3 G G G) ?_
 refine Gd (u:=.agg (Light.cs b.Light)) [(20,.dptr ((J0.cs b).drop 2))] G G G .sct ⟨.all id,ø⟩ (fun hc=>Gi Jb5 G G G) ?_
 refine Gd (u:=BL (decide (a.Light=b.Light))) [(19,.agg (Light.cs a.Light)),(21,.agg (Light.cs b.Light))] G G G .sct ⟨.all id,.all id,ø⟩ (fun hc=>G73 (vs:=[.int .i64 a.Light.Kilos,.int .i64 a.Light.X,.int .i64 a.Light.Y,.int .i64 a.Light.Z]) (us:=[.int .i64 b.Light.Kilos,.int .i64 b.Light.X,.int .i64 b.Light.Y,.int .i64 b.Light.Z]) 4 G (tq_25 a.Light b.Light) Jea tf_eqg_25 G G G) ?_
 refine JLh (BL ((r3&&r4)&&(decide (a.Light=b.Light)))) (J7 G G G G) G (JLh (BL ((r3&&r4)&&(decide (a.Light=b.Light)))) (G4 G G) G (Gd (u:=.dptr ((J0.cs a).drop 6)) [] G G G .sct ø (fun hc=>Ge G56 G G G) ?_))
 refine Gd (u:=E7 a.Rows) [(25,.dptr ((J0.cs a).drop 6))] G G G .sct ⟨.all id,ø⟩ (fun hc=>Gk Ga5 G G G) ?_
 refine Gd (u:=.dptr ((J0.cs b).drop 6)) [] G G G .sct ø (fun hc=>Ge G56 G G G) ?_
 refine Gd (u:=E7 b.Rows) [(27,.dptr ((J0.cs b).drop 6))] G G G .sct ⟨.all id,ø⟩ (fun hc=>Gk Ga5 G G G) ?_
 obtain⟨r5,hr5,h⟩:=Gf h
 refine Gd (u:=BL r5) [(26,E7 a.Rows),(28,E7 b.Rows)] G G G .sct ⟨.all id,.all id,ø⟩ (fun hc=>Gs (args:=[E7 a.Rows,E7 b.Rows]) G (H23 a.Rows b.Rows r5 (Gy hc hr5)) Jd6 ⟨G,G,G,G,ø⟩) ?_
 refine JLh (BL (((r3&&r4)&&(decide (a.Light=b.Light)))&&r5)) (J7 G G G G) G (JLh (BL (((r3&&r4)&&(decide (a.Light=b.Light)))&&r5)) (G4 G G) G (Gd (u:=.dptr ((J0.cs a).drop 7)) [] G G G .sct ø (fun hc=>Ge G55 G G G) ?_))
 refine Gd (u:=E6 a.Frames) [(32,.dptr ((J0.cs a).drop 7))] G G G .sct ⟨.all id,ø⟩ (fun hc=>Gk Ga4 G G G) ?_
 refine Gd (u:=.dptr ((J0.cs b).drop 7)) [] G G G .sct ø (fun hc=>Ge G55 G G G) ?_
 refine Gd (u:=E6 b.Frames) [(34,.dptr ((J0.cs b).drop 7))] G G G .sct ⟨.all id,ø⟩ (fun hc=>Gk Ga4 G G G) ?_
 obtain⟨r6,hr6,h⟩:=Gf h
 refine Gd (u:=BL r6) [(33,E6 a.Frames),(35,E6 b.Frames)] G G G .sct ⟨.all id,.all id,ø⟩ (fun hc=>Gs (args:=[E6 a.Frames,E6 b.Frames]) G (Ge8 a.Frames b.Frames r6 (Gy hc hr6)) Jd5 ⟨G,G,G,G,ø⟩) ?_
 refine JLh (BL ((((r3&&r4)&&(decide (a.Light=b.Light)))&&r5)&&r6)) (J7 G G G G) G (JLh (BL ((((r3&&r4)&&(decide (a.Light=b.Light)))&&r5)&&r6)) (G4 G G) G (Gd (u:=.dptr ((J0.cs a).drop 8)) [] G G G .sct ø (fun hc=>Ge G54 G G G) ?_))
 refine Gd (u:=E8 a.Tanks) [(39,.dptr ((J0.cs a).drop 8))] G G G .sct ⟨.all id,ø⟩ (fun hc=>Gk Ga3 G G G) ?_
 refine Gd (u:=.dptr ((J0.cs b).drop 8)) [] G G G .sct ø (fun hc=>Ge G54 G G G) ?_
 refine Gd (u:=E8 b.Tanks) [(41,.dptr ((J0.cs b).drop 8))] G G G .sct ⟨.all id,ø⟩ (fun hc=>Gk Ga3 G G G) ?_
 obtain⟨r7,hr7,h⟩:=Gf h
 refine Gd (u:=BL r7) [(40,E8 a.Tanks),(42,E8 b.Tanks)] G G G .sct ⟨.all id,.all id,ø⟩ (fun hc=>Gs (args:=[E8 a.Tanks,E8 b.Tanks]) G (H11 a.Tanks b.Tanks r7 (Gy hc hr7)) Jd4 ⟨G,G,G,G,ø⟩) ?_
 refine JLh (BL (((((r3&&r4)&&(decide (a.Light=b.Light)))&&r5)&&r6)&&r7)) (J7 G G G G) G (JLh (BL (((((r3&&r4)&&(decide (a.Light=b.Light)))&&r5)&&r6)&&r7)) (G4 G G) G (Gd (u:=.dptr ((J0.cs a).drop 9)) [] G G G .sct ø (fun hc=>Ge Hc2 G G G) ?_))
 refine Gd (u:=.agg ((J0.cs a).drop 9)) [(46,.dptr ((J0.cs a).drop 9))] G G G .sct ⟨.all id,ø⟩ (fun hc=>Gi Jb4 G G G) ?_
 refine Gd (u:=.dptr ((J0.cs b).drop 9)) [] G G G .sct ø (fun hc=>Ge Hc2 G G G) ?_
 refine Gd (u:=.agg ((J0.cs b).drop 9)) [(48,.dptr ((J0.cs b).drop 9))] G G G .sct ⟨.all id,ø⟩ (fun hc=>Gi Jb4 G G G) ?_
 refine Gd (u:=BL (decide (a.G7=b.G7))) [(47,.agg ((J0.cs a).drop 9)),(49,.agg ((J0.cs b).drop 9))] G G G .sct ⟨.all id,.all id,ø⟩ (fun hc=>G73 (vs:=[.int .i64 a.G7.Tolerance,.int .i64 a.G7.Trim,.int .i64 a.G7.List_,.int .i64 a.G7.Stability]) (us:=[.int .i64 b.G7.Tolerance,.int .i64 b.G7.Trim,.int .i64 b.G7.List_,.int .i64 b.G7.Stability]) 4 G (tq_30 a.G7 b.G7) Je9 tf_eqg_30 G G G) ?_
 refine JLh (BL ((((((r3&&r4)&&(decide (a.Light=b.Light)))&&r5)&&r6)&&r7)&&(decide (a.G7=b.G7)))) (J7 G G G G) G (JLh (BL ((((((r3&&r4)&&(decide (a.Light=b.Light)))&&r5)&&r6)&&r7)&&(decide (a.G7=b.G7)))) (G8 G G) G (G9 (hK2 _ _ (Gx (⟨[BL ((((((r3&&r4)&&(decide (a.Light=b.Light)))&&r5)&&r6)&&r7)&&(decide (a.G7=b.G7)))],[],ø,G,⟨⟨_,G,.conv (.same G)⟩,ø⟩,G,congrArg (fun r:Bool=>(BL r:AV)) (Option.some.inj h)⟩)))))

def Ja (out:Ln Int) (l:List Int):Option Bool:=
 bif decide ((out.1.length:Int)≠(l.length:Int)) then
 (some false)
 else
 (Rm ((l.length:Int)+12) fun v6=>
  bnd (G10 v6 (out.1++out.2).length) fun m7=>
  each (fun y29 i29 (s29:Unit) nx29=>
   bnd (bif decide ((i29:Int) < (l.length:Int)) then Qe l (i29:Int) some else some default) fun y34=>
   bnd (bif ((!((decide ((i29:Int) < (l.length:Int)))&&(!(decide (y29=y34)))))&&(decide ((l.length:Int)≤(i29:Int)))) then Rm ((i29:Int) - (l.length:Int)) some else some 0) fun v35=>
   bnd (bif ((!((decide ((i29:Int) < (l.length:Int)))&&(!(decide (y29=y34)))))&&(decide ((l.length:Int)≤(i29:Int)))) then Jf 1 v35 else some default) fun r36=>
   bif (((decide ((i29:Int) < (l.length:Int)))&&(!(decide (y29=y34))))||((decide ((l.length:Int)≤(i29:Int)))&&(!(decide (y29=r36))))) then
   (some false)
   else
   (nx29 ()))
  (fun(s29:Unit)=>
   some true) ((out.1++out.2).take m7) 0 ())
theorem G2c (out:Ln Int) (l:List Int) (r:Bool) (h:Ja out l=some r):Pure Tryz.prog 189 [LT 1 G1 out,E0 l] (·=BL r):=by
 unfold Ja at h
 refine H1 [.tmp 4] Tryz.func189 G G (G5 fun K1 hK1=>G3 (JLh (BL false) (G8 G G) G (G9 (hK1 _ _ (G5 (fun K2 hK2=>G5 fun K3 hK3=>G3 (JLh (LT 1 G1 out) (G4 G G) G (H0 (f:=G1) (xs:=out.1) Gt G G (fun hm8=>?_) G G G))))))))
 refine JLh (E0 l) (G4 G G) G (H0 (f:=G1) (xs:=l) Gt G G (fun hm10=>?_) G G G)
 refine JLh (BL (decide ((out.1.length:Int)≠(l.length:Int)))) (G14 G G G) G (G9 (hK3 _ _ (Gp G (fun hb=>?_) (fun hb=>?_))))
 ·
  replace h:=Gy hb h
  refine G5 fun K4 hK4=>G3 (JLh (BL false) (G8 G G) G (G9 (hK4 _ _ (Gx (⟨[BL false],[],ø,G,⟨⟨_,G,.conv (.same G)⟩,ø⟩,G,congrArg (fun r:Bool=>(BL r:AV)) (Option.some.inj h)⟩)))))
 ·
  replace h:=Hp hb h
  refine Gq (hK2 _ _ (G5 fun K5 hK5=>G3 (JLh (LT 1 G1 out) (G4 G G) G (JLh (E0 l) (G4 G G) G (H0 (f:=G1) (xs:=l) Gt G G (fun hm14=>?_) G G G)))))
  obtain⟨v6,hv6,h⟩:=Hf h
  refine JLh (G1 v6) (Hj hv6 G G G) G ?_
  obtain⟨m7,hm7,h⟩:=Gf h
  refine JLh (E0 ((out.1++out.2).take m7)) (Gf3 (f:=G1) (e:=out) G G G Gt (Qn hm7)) G (JLh (E0 ((out.1++out.2).take m7)) (G8 G G) G (G9 (hK5 _ _ (G5 (fun K8 hK8=>G5 fun K9 hK9=>G3 (JLh (G1 0) (G8 G G) G (G9 (hK9 _ _ (Gn ?_)))))))))
  obtain⟨b29,kx29,hb29,hkx29,h⟩:=J9 h
  refine H7 (fun i29 (s29:Unit)=>each b29 kx29 (List.drop i29 ((out.1++out.2).take m7)) i29 s29=some r) (fun i29 s29=>[(1,E0 l),(5,E0 ((out.1++out.2).take m7)),(6,En i29)]) (fun i29 s29=>[]) (fun i29=>((out.1++out.2).take m7).length - i29) 0 () h ⟨⟨.same G,.same G,.same G,ø⟩,ø,G⟩ ?_
  clear h
  intro i29 s29 hi29 K29 e29
  refine G5 (fun K30 hK30=>G5 fun K31 hK31=>G3 (JLh (En i29) (G4 G G) G (JLh (E0 ((out.1++out.2).take m7)) (G4 G G) G (H0 (f:=G1) (xs:=((out.1++out.2).take m7)) Gt G G (fun hm19=>?_) G G G))))
  refine JLh (BL (decide ((i29:Int) < (((out.1++out.2).take m7).length:Int)))) (Hx G G G) G (G9 (hK31 _ _ (Gp G (fun hb=>?_) (fun hb=>?_))))
  ·
   have hk29:=Jm hb
   obtain⟨y29,nx29,hy29,hn29,h⟩:=Hy hi29 hk29
   replace h:=Zn hb29 h
   refine Gq (hK30 _ _ (G5 (fun K32 hK32=>Gn (G5 (fun K33 hK33=>?_)))))
   obtain⟨y34,hy34,h⟩:=Gf h
   obtain⟨v35,hv35,h⟩:=Gf h
   obtain⟨r36,hr36,h⟩:=Gf h
   refine Jc [] [0,0,0,0,0,0,0,0,0,0,0,0,0,0,0,0,0,0,0,0,0,0,0,0,0,0,0,0,0,0,0,0,0,0,0] [0,0,0,0,0,0,0,0,0,0,0,0,0,0,0,0,0,0,0,0,0,0,0,0,0,0,0,0,0,0,0,0,0,0,0] [[]] J3 (by kernel_rfl) rfl rfl ?_
   refine Gb (u:=En i29) G G ⟨Gh (G4 G G) G,ø⟩ (Gb (u:=E0 l) G G ⟨Gh (G4 G G) G,ø⟩ (Gb (u:=En l.length) G G ⟨Gh (Jp (f:=G1) (xs:=l) Gt G G) G,ø⟩ (Gb (u:=BL (decide ((i29:Int) < (l.length:Int)))) G G ⟨Gh (Hx G G G) G,ø⟩ (Gb (u:=BL (decide ((i29:Int) < (l.length:Int)))) G G ⟨Gh (G4 G G) G,ø⟩ (Gb (u:=.opt (decide ((i29:Int) < (l.length:Int))) (E0 ((out.1++out.2).take m7))) G G ⟨Gg [] G G G .sct ø (fun hc=>G4 G G) G,ø⟩ (Gb (u:=.opt (decide ((i29:Int) < (l.length:Int))) (En i29)) G G ⟨Gg [] G G G .sct ø (fun hc=>G4 G G) G,ø⟩ (Gb (u:=.opt (decide ((i29:Int) < (l.length:Int))) (.dptr [G1 y29])) G G ⟨Gg [(28,E0 ((out.1++out.2).take m7)),(29,En i29)] G G G .sct ⟨.all id,.all id,ø⟩ (fun hc=>Gv (f:=G1) (xs:=((out.1++out.2).take m7)) (y:=y29) G G G Gt hy29 G) G,ø⟩ (Gb (u:=.opt (decide ((i29:Int) < (l.length:Int))) (G1 y29)) G G ⟨Gg [(30,.dptr [G1 y29])] G G G .sct ⟨.all id,ø⟩ (fun hc=>Gk Gc G G G) G,ø⟩ (Gb (u:=.opt (decide ((i29:Int) < (l.length:Int))) (E0 l)) G G ⟨Gg [] G G G .sct ø (fun hc=>G4 G G) G,ø⟩ (Gb (u:=.opt (decide ((i29:Int) < (l.length:Int))) (En i29)) G G ⟨Gg [] G G G .sct ø (fun hc=>G4 G G) G,ø⟩ (Gb (u:=.opt (decide ((i29:Int) < (l.length:Int))) (.dptr [G1 y34])) G G ⟨Gg [(32,E0 l),(33,En i29)] G G G .sct ⟨.all id,.all id,ø⟩ (fun hc=>(match Q2 (Gy hc hy34) with | ⟨_,hm_,hy_⟩=>Gv (f:=G1) (xs:=l) (y:=y34) G G G Gt hy_ hm_)) G,ø⟩ (Gb (u:=.opt (decide ((i29:Int) < (l.length:Int))) (G1 y34)) G G ⟨Gg [(34,.dptr [G1 y34])] G G G .sct ⟨.all id,ø⟩ (fun hc=>Gk Gc G G G) G,ø⟩ (Gb (u:=.opt (decide ((i29:Int) < (l.length:Int))) (BL (decide (y29=y34)))) G G ⟨Gg [(31,G1 y29),(35,G1 y34)] G G G .sct ⟨.all id,.all id,ø⟩ (fun hc=>Rt G G G) G,ø⟩ ?_)))))))))))))
   refine Gb (u:=.opt (decide ((i29:Int) < (l.length:Int))) (BL (!(decide (y29=y34))))) G G ⟨Gg [(36,BL (decide (y29=y34)))] G G G .sct ⟨.all id,ø⟩ (fun hc=>Yu (b:=decide (y29=y34)) G G) G,ø⟩ (Gb (u:=BL ((decide ((i29:Int) < (l.length:Int)))&&(!(decide (y29=y34))))) G G ⟨Gh (J7 G G G G) G,ø⟩ (Gb (u:=BL ((decide ((i29:Int) < (l.length:Int)))&&(!(decide (y29=y34))))) G G ⟨Gh (G4 G G) G,ø⟩ (Gb (u:=.opt (!((decide ((i29:Int) < (l.length:Int)))&&(!(decide (y29=y34))))) (En i29)) G G ⟨Gg [] G G G .scf ø (fun hc=>G4 G G) G,ø⟩ (Gb (u:=.opt (!((decide ((i29:Int) < (l.length:Int)))&&(!(decide (y29=y34))))) (E0 l)) G G ⟨Gg [] G G G .scf ø (fun hc=>G4 G G) G,ø⟩ (Gb (u:=.opt (!((decide ((i29:Int) < (l.length:Int)))&&(!(decide (y29=y34))))) (En l.length)) G G ⟨Gg [(41,E0 l)] G G G .scf ⟨.all id,ø⟩ (fun hc=>Jp (f:=G1) (xs:=l) Gt G G) G,ø⟩ (Gb (u:=.opt (!((decide ((i29:Int) < (l.length:Int)))&&(!(decide (y29=y34))))) (BL (decide ((l.length:Int)≤(i29:Int))))) G G ⟨Gg [(40,En i29),(42,En l.length)] G G G .scf ⟨.all id,.all id,ø⟩ (fun hc=>G28 G G G) G,ø⟩ (Gb (u:=.opt (!((decide ((i29:Int) < (l.length:Int)))&&(!(decide (y29=y34))))) (BL (decide ((l.length:Int)≤(i29:Int))))) G G ⟨Gg [(43,BL (decide ((l.length:Int)≤(i29:Int))))] G G G .scf ⟨.all id,ø⟩ (fun hc=>G4 G G) G,ø⟩ (Gb (u:=.opt ((!((decide ((i29:Int) < (l.length:Int)))&&(!(decide (y29=y34)))))&&(decide ((l.length:Int)≤(i29:Int)))) (E0 ((out.1++out.2).take m7))) G G ⟨Gg [] G G G .optt ø (fun hc=>G4 G G) G,ø⟩ (Gb (u:=.opt ((!((decide ((i29:Int) < (l.length:Int)))&&(!(decide (y29=y34)))))&&(decide ((l.length:Int)≤(i29:Int)))) (En i29)) G G ⟨Gg [] G G G .optt ø (fun hc=>G4 G G) G,ø⟩ (Gb (u:=.opt ((!((decide ((i29:Int) < (l.length:Int)))&&(!(decide (y29=y34)))))&&(decide ((l.length:Int)≤(i29:Int)))) (.dptr [G1 y29])) G G ⟨Gg [(45,E0 ((out.1++out.2).take m7)),(46,En i29)] G G G .optt ⟨.all id,.all id,ø⟩ (fun hc=>Gv (f:=G1) (xs:=((out.1++out.2).take m7)) (y:=y29) G G G Gt hy29 G) G,ø⟩ (Gb (u:=.opt ((!((decide ((i29:Int) < (l.length:Int)))&&(!(decide (y29=y34)))))&&(decide ((l.length:Int)≤(i29:Int)))) (G1 y29)) G G ⟨Gg [(47,.dptr [G1 y29])] G G G .optt ⟨.all id,ø⟩ (fun hc=>Gk Gc G G G) G,ø⟩ (Gb (u:=.opt ((!((decide ((i29:Int) < (l.length:Int)))&&(!(decide (y29=y34)))))&&(decide ((l.length:Int)≤(i29:Int)))) (En i29)) G G ⟨Gg [] G G G .optt ø (fun hc=>G4 G G) G,ø⟩ (Gb (u:=.opt ((!((decide ((i29:Int) < (l.length:Int)))&&(!(decide (y29=y34)))))&&(decide ((l.length:Int)≤(i29:Int)))) (E0 l)) G G ⟨Gg [] G G G .optt ø (fun hc=>G4 G G) G,ø⟩ ?_)))))))))))))
   refine Gb (u:=.opt ((!((decide ((i29:Int) < (l.length:Int)))&&(!(decide (y29=y34)))))&&(decide ((l.length:Int)≤(i29:Int)))) (En l.length)) G G ⟨Gg [(50,E0 l)] G G G .optt ⟨.all id,ø⟩ (fun hc=>Jp (f:=G1) (xs:=l) Gt G G) G,ø⟩ (Gb (u:=.opt ((!((decide ((i29:Int) < (l.length:Int)))&&(!(decide (y29=y34)))))&&(decide ((l.length:Int)≤(i29:Int)))) (G1 v35)) G G ⟨Gg [(49,En i29),(51,En l.length)] G G G .optt ⟨.all id,.all id,ø⟩ (fun hc=>G1e (G02 (Gy hc hv35)) G G G) G,ø⟩ (Gb (u:=.opt ((!((decide ((i29:Int) < (l.length:Int)))&&(!(decide (y29=y34)))))&&(decide ((l.length:Int)≤(i29:Int)))) (G1 r36)) G G ⟨Gg [(52,G1 v35)] G G G .optt ⟨.all id,ø⟩ (fun hc=>Gs (args:=[G1 1,G1 v35]) G (Qf 1 v35 r36 (Gy hc hr36)) G31 ⟨G,G,G,G,ø⟩) G,ø⟩ (Gb (u:=.opt ((!((decide ((i29:Int) < (l.length:Int)))&&(!(decide (y29=y34)))))&&(decide ((l.length:Int)≤(i29:Int)))) (BL (decide (y29=r36)))) G G ⟨Gg [(48,G1 y29),(53,G1 r36)] G G G .optt ⟨.all id,.all id,ø⟩ (fun hc=>Rt G G G) G,ø⟩ (Gb (u:=.opt ((!((decide ((i29:Int) < (l.length:Int)))&&(!(decide (y29=y34)))))&&(decide ((l.length:Int)≤(i29:Int)))) (BL (!(decide (y29=r36))))) G G ⟨Gg [(54,BL (decide (y29=r36)))] G G G .optt ⟨.all id,ø⟩ (fun hc=>Yu (b:=decide (y29=r36)) G G) G,ø⟩ (Gb (u:=.opt (!((decide ((i29:Int) < (l.length:Int)))&&(!(decide (y29=y34))))) (BL ((decide ((l.length:Int)≤(i29:Int)))&&(!(decide (y29=r36)))))) G G ⟨Gg [(44,BL (decide ((l.length:Int)≤(i29:Int)))),(55,_)] G G G .scf ⟨.all id,.part,ø⟩ (fun hc=>J7 G G G G) G,ø⟩ (Gb (u:=BL (((decide ((i29:Int) < (l.length:Int)))&&(!(decide (y29=y34))))||((decide ((l.length:Int)≤(i29:Int)))&&(!(decide (y29=r36)))))) G G ⟨Gh (Z5 G G G G) G,ø⟩ (Rb ?_)))))))
   refine hK33 _ _ (Gp G (fun hb=>?_) (fun hb=>?_))
   ·
    replace h:=Gy hb h
    refine G5 fun K37 hK37=>G3 (JLh (BL false) (G8 G G) G (G9 (hK37 _ _ (Gx (⟨[BL false],[],ø,G,⟨⟨_,G,.conv (.same G)⟩,ø⟩,G,congrArg (fun r:Bool=>(BL r:AV)) (Option.some.inj h)⟩)))))
   ·
    replace h:=Hp hb h
    refine Gq (hK32 _ _ (G3 (JLh (En i29) (G4 G G) G (JLh (G1 ((i29+1:Nat):Int)) (Hj (Hi hk29 hm19) G G G) G (JLh (G1 ((i29+1:Nat):Int)) (G8 G G) G (G9 (e29 _ _ (i29+1) () (app1 hn29 h) (by omega) ⟨⟨.same rfl,.same rfl,.same rfl,ø⟩,ø,rfl⟩)))))))
  ·
   have h:=app1 hkx29 (Hz hi29 (Hg hb))
   refine Hc (hK8 _ _ (G5 fun K38 hK38=>G3 (JLh (BL true) (G8 G G) G (G9 (hK38 _ _ (Gx (⟨[BL true],[],ø,G,⟨⟨_,G,.conv (.same G)⟩,ø⟩,G,congrArg (fun r:Bool=>(BL r:AV)) (Option.some.inj h)⟩)))))))

def Rg (x:Gu) (y:Ga):Option Bool:=
 bnd (Jg (Ga.mk x.Bay x.Row x.Deck x.Tiers x.Height x.Kilos20 x.Kilos40 x.Lash x.Plugs.1 x.X x.Y x.Z) y) fun r3=>
 bnd (bif r3 then Ja x.Plugs y.Plugs else some default) fun r4=>
 some (r3&&r4)
theorem Gf1 (x:Gu) (y:Ga) (r:Bool) (h:Rg x y=some r):Pure Tryz.prog 180 [.agg (Gu.cs x),.agg (Ga.cs y)] (·=BL r):=by
 unfold Rg at h
 refine H1 [.tmp 4] Tryz.func180 G G (G5 fun K1 hK1=>G3 (JLh (.ptr 1116 0) (Qi (u:=.agg (Gu.cs x)) (cs:=(Gu.cs x)) 1116 G G G G G) G (JLh (.ptr 1117 0) (Qi (u:=.agg (Ga.cs y)) (cs:=(Ga.cs y)) 1117 G G G G G) G (JLh (BL false) (G8 G G) G (G9 (hK1 _ _ ?_))))))
 refine Gz [(2,.dptr (Gu.cs x)),(3,.ptr 1117 0)] [(1117,.box 112 (Ga.cs y))] 1116 rfl rfl rfl ⟨⟨_,rfl,.boxEq rfl rfl⟩,ø⟩ rfl (by exact⟨.ptr,.conv (.same rfl),ø⟩) (Gz [(2,.dptr (Gu.cs x)),(3,Ef y)] [] 1117 rfl rfl rfl ø rfl (by exact⟨.conv (.same rfl),.ptr,ø⟩) ?_)
 refine G5 fun K2 hK2=>G3 (JLh (.agg [G1 x.Bay,G1 x.Row,BL x.Deck,G1 x.Tiers,G1 x.Height,G1 x.Kilos20,G1 x.Kilos40,G1 x.Lash,E0 x.Plugs.1,G1 x.X,G1 x.Y,G1 x.Z]) (H2.cv (Cv.aggL (cs:=(Gu.cs x)) ⟨.same,.same,.same,.same,.same,.same,.same,.same,Cv.lst0 x.Plugs,.same,.same,.same,ø⟩) (Gi Y6 G G G)) G (JLh (.agg (Ga.cs y)) (Gi Y6 G G G) G ?_))
 obtain⟨r3,hr3,h⟩:=Gf h
 refine JLh (BL r3) (Gs (args:=[.agg [G1 x.Bay,G1 x.Row,BL x.Deck,G1 x.Tiers,G1 x.Height,G1 x.Kilos20,G1 x.Kilos40,G1 x.Lash,E0 x.Plugs.1,G1 x.X,G1 x.Y,G1 x.Z],.agg (Ga.cs y)]) G (G17 (Ga.mk x.Bay x.Row x.Deck x.Tiers x.Height x.Kilos20 x.Kilos40 x.Lash x.Plugs.1 x.X x.Y x.Z) y r3 hr3) H97 ⟨G,G,G,G,ø⟩) G (JLh (BL r3) (G4 G G) G (Gd (u:=.dptr ((Gu.cs x).drop 8)) [] G G G .sct ø (fun hc=>Ge Qo G G G) ?_))
 refine Gd (u:=LT 1 G1 x.Plugs) [(9,.dptr ((Gu.cs x).drop 8))] G G G .sct ⟨.all id,ø⟩ (fun hc=>Gk Hv G G G) ?_
 refine Gd (u:=.dptr ((Ga.cs y).drop 8)) [] G G G .sct ø (fun hc=>Ge Qo G G G) ?_
 refine Gd (u:=E0 y.Plugs) [(11,.dptr ((Ga.cs y).drop 8))] G G G .sct ⟨.all id,ø⟩ (fun hc=>Gk Hv G G G) ?_
 obtain⟨r4,hr4,h⟩:=Gf h
 refine Gd (u:=BL r4) [(10,LT 1 G1 x.Plugs),(12,E0 y.Plugs)] G G G .sct ⟨.all id,.all id,ø⟩ (fun hc=>Gs (args:=[LT 1 G1 x.Plugs,E0 y.Plugs]) G (G2c x.Plugs y.Plugs r4 (Gy hc hr4)) H94 ⟨G,G,G,G,ø⟩) ?_
 refine JLh (BL (r3&&r4)) (J7 G G G G) G (JLh (BL (r3&&r4)) (G8 G G) G (G9 (hK2 _ _ (Gx (⟨[BL (r3&&r4)],[],ø,G,⟨⟨_,G,.conv (.same G)⟩,ø⟩,G,congrArg (fun r:Bool=>(BL r:AV)) (Option.some.inj h)⟩)))))

def R7 (out:Ln Gu) (l:List Ga):Option Bool:=
 bif decide ((out.1.length:Int)≠(l.length:Int)) then
 (some false)
 else
 (Rm ((l.length:Int)+12) fun v6=>
  bnd (G10 v6 (out.1++out.2).length) fun m7=>
  each (fun y33 i33 (s33:Unit) nx33=>
   bnd (bif decide ((i33:Int) < (l.length:Int)) then Qe l (i33:Int) some else some default) fun y38=>
   bnd (bif decide ((i33:Int) < (l.length:Int)) then Rg y33 y38 else some default) fun r39=>
   bnd (bif ((!((decide ((i33:Int) < (l.length:Int)))&&(!r39)))&&(decide ((l.length:Int)≤(i33:Int)))) then Rm ((i33:Int) - (l.length:Int)) some else some 0) fun v40=>
   bnd (bif ((!((decide ((i33:Int) < (l.length:Int)))&&(!r39)))&&(decide ((l.length:Int)≤(i33:Int)))) then Qk 1 v40 else some default) fun r41=>
   bnd (bif ((!((decide ((i33:Int) < (l.length:Int)))&&(!r39)))&&(decide ((l.length:Int)≤(i33:Int)))) then Jg (Ga.mk y33.Bay y33.Row y33.Deck y33.Tiers y33.Height y33.Kilos20 y33.Kilos40 y33.Lash y33.Plugs.1 y33.X y33.Y y33.Z) r41 else some default) fun r42=>
   bif (((decide ((i33:Int) < (l.length:Int)))&&(!r39))||((decide ((l.length:Int)≤(i33:Int)))&&(!r42))) then
   (some false)
   else
   (nx33 ()))
  (fun(s33:Unit)=>
   some true) ((out.1++out.2).take m7) 0 ())
theorem Gdc (out:Ln Gu) (l:List Ga) (r:Bool) (h:R7 out l=some r):Pure Tryz.prog 84 [LT 12 Gu.av out,E5 l] (·=BL r):=by
 unfold R7 at h
 refine H1 [.tmp 4] Tryz.func84 G G (G5 fun K1 hK1=>G3 (JLh (BL false) (G8 G G) G (G9 (hK1 _ _ (G5 (fun K2 hK2=>G5 fun K3 hK3=>G3 (JLh (LT 12 Gu.av out) (G4 G G) G (H0 (f:=Gu.av) (xs:=out.1) Hb G G (fun hm8=>?_) G G G))))))))
 refine JLh (E5 l) (G4 G G) G (H0 (f:=Ga.av) (xs:=l) Hb G G (fun hm10=>?_) G G G)
 refine JLh (BL (decide ((out.1.length:Int)≠(l.length:Int)))) (G14 G G G) G (G9 (hK3 _ _ (Gp G (fun hb=>?_) (fun hb=>?_))))
 ·
  replace h:=Gy hb h
  refine G5 fun K4 hK4=>G3 (JLh (BL false) (G8 G G) G (G9 (hK4 _ _ (Gx (⟨[BL false],[],ø,G,⟨⟨_,G,.conv (.same G)⟩,ø⟩,G,congrArg (fun r:Bool=>(BL r:AV)) (Option.some.inj h)⟩)))))
 ·
  replace h:=Hp hb h
  refine Gq (hK2 _ _ (G5 fun K5 hK5=>G3 (JLh (LT 12 Gu.av out) (G4 G G) G (JLh (E5 l) (G4 G G) G (H0 (f:=Ga.av) (xs:=l) Hb G G (fun hm14=>?_) G G G)))))
  obtain⟨v6,hv6,h⟩:=Hf h
  refine JLh (G1 v6) (Hj hv6 G G G) G ?_
  obtain⟨m7,hm7,h⟩:=Gf h
  refine JLh (Ea ((out.1++out.2).take m7)) (Gf3 (f:=Gu.av) (e:=out) G G G Hb (Qn hm7)) G (JLh (Ea ((out.1++out.2).take m7)) (G8 G G) G (G9 (hK5 _ _ (G5 (fun K8 hK8=>G5 fun K9 hK9=>G3 (JLh (G1 0) (G8 G G) G (G9 (hK9 _ _ (Gn ?_)))))))))
  obtain⟨b33,kx33,hb33,hkx33,h⟩:=J9 h
  refine H7 (fun i33 (s33:Unit)=>each b33 kx33 (List.drop i33 ((out.1++out.2).take m7)) i33 s33=some r) (fun i33 s33=>[(1,E5 l),(5,Ea ((out.1++out.2).take m7)),(6,En i33)]) (fun i33 s33=>[]) (fun i33=>((out.1++out.2).take m7).length - i33) 0 () h ⟨⟨.same G,.same G,.same G,ø⟩,ø,G⟩ ?_
  clear h
  intro i33 s33 hi33 K33 e33
  refine G5 (fun K34 hK34=>G5 fun K35 hK35=>G3 (JLh (En i33) (G4 G G) G (JLh (Ea ((out.1++out.2).take m7)) (G4 G G) G (H0 (f:=Gu.av) (xs:=((out.1++out.2).take m7)) Hb G G (fun hm19=>?_) G G G))))
  refine JLh (BL (decide ((i33:Int) < (((out.1++out.2).take m7).length:Int)))) (Hx G G G) G (G9 (hK35 _ _ (Gp G (fun hb=>?_) (fun hb=>?_))))
  ·
   have hk33:=Jm hb
   obtain⟨y33,nx33,hy33,hn33,h⟩:=Hy hi33 hk33
   replace h:=Zn hb33 h
   refine Gq (hK34 _ _ (G5 (fun K36 hK36=>Gn (G5 (fun K37 hK37=>?_)))))
   obtain⟨y38,hy38,h⟩:=Gf h
   obtain⟨r39,hr39,h⟩:=Gf h
   obtain⟨v40,hv40,h⟩:=Gf h
   obtain⟨r41,hr41,h⟩:=Gf h
   obtain⟨r42,hr42,h⟩:=Gf h
   refine Jc [] [0,0,0,0,0,0,0,0,0,0,0,0,0,0,0,0,0,0,0,0,0,0,0,0,0,0,0,0,0,0,0,0,0,0,0] [0,0,0,0,0,0,0,0,0,0,0,0,0,0,0,0,0,0,0,0,0,0,0,0,0,0,0,0,0,0,0,0,0,0,0] [[]] J3 (by kernel_rfl) rfl rfl ?_
   refine Gb (u:=En i33) G G ⟨Gh (G4 G G) G,ø⟩ (Gb (u:=E5 l) G G ⟨Gh (G4 G G) G,ø⟩ (Gb (u:=En l.length) G G ⟨Gh (Jp (f:=Ga.av) (xs:=l) Hb G G) G,ø⟩ (Gb (u:=BL (decide ((i33:Int) < (l.length:Int)))) G G ⟨Gh (Hx G G G) G,ø⟩ (Gb (u:=BL (decide ((i33:Int) < (l.length:Int)))) G G ⟨Gh (G4 G G) G,ø⟩ (Gb (u:=.opt (decide ((i33:Int) < (l.length:Int))) (Ea ((out.1++out.2).take m7))) G G ⟨Gg [] G G G .sct ø (fun hc=>G4 G G) G,ø⟩ (Gb (u:=.opt (decide ((i33:Int) < (l.length:Int))) (En i33)) G G ⟨Gg [] G G G .sct ø (fun hc=>G4 G G) G,ø⟩ (Gb (u:=.opt (decide ((i33:Int) < (l.length:Int))) (.dptr (Gu.cs y33))) G G ⟨Gg [(28,Ea ((out.1++out.2).take m7)),(29,En i33)] G G G .sct ⟨.all id,.all id,ø⟩ (fun hc=>Gv (f:=Gu.av) (xs:=((out.1++out.2).take m7)) (y:=y33) G G G Hb hy33 G) G,ø⟩ (Gb (u:=.opt (decide ((i33:Int) < (l.length:Int))) (.agg (Gu.cs y33))) G G ⟨Gg [(30,.dptr (Gu.cs y33))] G G G .sct ⟨.all id,ø⟩ (fun hc=>Gi Y6 G G G) G,ø⟩ (Gb (u:=.opt (decide ((i33:Int) < (l.length:Int))) (E5 l)) G G ⟨Gg [] G G G .sct ø (fun hc=>G4 G G) G,ø⟩ (Gb (u:=.opt (decide ((i33:Int) < (l.length:Int))) (En i33)) G G ⟨Gg [] G G G .sct ø (fun hc=>G4 G G) G,ø⟩ (Gb (u:=.opt (decide ((i33:Int) < (l.length:Int))) (Ef y38)) G G ⟨Gg [(32,E5 l),(33,En i33)] G G G .sct ⟨.all id,.all id,ø⟩ (fun hc=>(match Q2 (Gy hc hy38) with | ⟨_,hm_,hy_⟩=>Gv (f:=Ga.av) (xs:=l) (y:=y38) G G G Hb hy_ hm_)) G,ø⟩ (Gb (u:=.opt (decide ((i33:Int) < (l.length:Int))) (.agg (Ga.cs y38))) G G ⟨Gg [(34,Ef y38)] G G G .sct ⟨.all id,ø⟩ (fun hc=>Gi Y6 G G G) G,ø⟩ (Gb (u:=.opt (decide ((i33:Int) < (l.length:Int))) (BL r39)) G G ⟨Gg [(31,.agg (Gu.cs y33)),(35,.agg (Ga.cs y38))] G G G .sct ⟨.all id,.all id,ø⟩ (fun hc=>Gs (args:=[.agg (Gu.cs y33),.agg (Ga.cs y38)]) G (Gf1 y33 y38 r39 (Gy hc hr39)) Jd3 ⟨G,G,G,G,ø⟩) G,ø⟩ ?_)))))))))))))
   refine Gb (u:=.opt (decide ((i33:Int) < (l.length:Int))) (BL (!r39))) G G ⟨Gg [(36,BL r39)] G G G .sct ⟨.all id,ø⟩ (fun hc=>Yu (b:=r39) G G) G,ø⟩ (Gb (u:=BL ((decide ((i33:Int) < (l.length:Int)))&&(!r39))) G G ⟨Gh (J7 G G G G) G,ø⟩ (Gb (u:=BL ((decide ((i33:Int) < (l.length:Int)))&&(!r39))) G G ⟨Gh (G4 G G) G,ø⟩ (Gb (u:=.opt (!((decide ((i33:Int) < (l.length:Int)))&&(!r39))) (En i33)) G G ⟨Gg [] G G G .scf ø (fun hc=>G4 G G) G,ø⟩ (Gb (u:=.opt (!((decide ((i33:Int) < (l.length:Int)))&&(!r39))) (E5 l)) G G ⟨Gg [] G G G .scf ø (fun hc=>G4 G G) G,ø⟩ (Gb (u:=.opt (!((decide ((i33:Int) < (l.length:Int)))&&(!r39))) (En l.length)) G G ⟨Gg [(41,E5 l)] G G G .scf ⟨.all id,ø⟩ (fun hc=>Jp (f:=Ga.av) (xs:=l) Hb G G) G,ø⟩ (Gb (u:=.opt (!((decide ((i33:Int) < (l.length:Int)))&&(!r39))) (BL (decide ((l.length:Int)≤(i33:Int))))) G G ⟨Gg [(40,En i33),(42,En l.length)] G G G .scf ⟨.all id,.all id,ø⟩ (fun hc=>G28 G G G) G,ø⟩ (Gb (u:=.opt (!((decide ((i33:Int) < (l.length:Int)))&&(!r39))) (BL (decide ((l.length:Int)≤(i33:Int))))) G G ⟨Gg [(43,BL (decide ((l.length:Int)≤(i33:Int))))] G G G .scf ⟨.all id,ø⟩ (fun hc=>G4 G G) G,ø⟩ (Gb (u:=.opt ((!((decide ((i33:Int) < (l.length:Int)))&&(!r39)))&&(decide ((l.length:Int)≤(i33:Int)))) (Ea ((out.1++out.2).take m7))) G G ⟨Gg [] G G G .optt ø (fun hc=>G4 G G) G,ø⟩ (Gb (u:=.opt ((!((decide ((i33:Int) < (l.length:Int)))&&(!r39)))&&(decide ((l.length:Int)≤(i33:Int)))) (En i33)) G G ⟨Gg [] G G G .optt ø (fun hc=>G4 G G) G,ø⟩ (Gb (u:=.opt ((!((decide ((i33:Int) < (l.length:Int)))&&(!r39)))&&(decide ((l.length:Int)≤(i33:Int)))) (.dptr (Gu.cs y33))) G G ⟨Gg [(45,Ea ((out.1++out.2).take m7)),(46,En i33)] G G G .optt ⟨.all id,.all id,ø⟩ (fun hc=>Gv (f:=Gu.av) (xs:=((out.1++out.2).take m7)) (y:=y33) G G G Hb hy33 G) G,ø⟩ (Gb (u:=.opt ((!((decide ((i33:Int) < (l.length:Int)))&&(!r39)))&&(decide ((l.length:Int)≤(i33:Int)))) (.agg [G1 y33.Bay,G1 y33.Row,BL y33.Deck,G1 y33.Tiers,G1 y33.Height,G1 y33.Kilos20,G1 y33.Kilos40,G1 y33.Lash,E0 y33.Plugs.1,G1 y33.X,G1 y33.Y,G1 y33.Z])) G G ⟨Gg [(47,.dptr (Gu.cs y33))] G G G .optt ⟨.all id,ø⟩ (fun hc=>H2.cv (Cv.aggL (cs:=(Gu.cs y33)) ⟨.same,.same,.same,.same,.same,.same,.same,.same,Cv.lst0 y33.Plugs,.same,.same,.same,ø⟩) (Gi Y6 G G G)) G,ø⟩ (Gb (u:=.opt ((!((decide ((i33:Int) < (l.length:Int)))&&(!r39)))&&(decide ((l.length:Int)≤(i33:Int)))) (En i33)) G G ⟨Gg [] G G G .optt ø (fun hc=>G4 G G) G,ø⟩ (Gb (u:=.opt ((!((decide ((i33:Int) < (l.length:Int)))&&(!r39)))&&(decide ((l.length:Int)≤(i33:Int)))) (E5 l)) G G ⟨Gg [] G G G .optt ø (fun hc=>G4 G G) G,ø⟩ ?_)))))))))))))
   refine Gb (u:=.opt ((!((decide ((i33:Int) < (l.length:Int)))&&(!r39)))&&(decide ((l.length:Int)≤(i33:Int)))) (En l.length)) G G ⟨Gg [(50,E5 l)] G G G .optt ⟨.all id,ø⟩ (fun hc=>Jp (f:=Ga.av) (xs:=l) Hb G G) G,ø⟩ (Gb (u:=.opt ((!((decide ((i33:Int) < (l.length:Int)))&&(!r39)))&&(decide ((l.length:Int)≤(i33:Int)))) (G1 v40)) G G ⟨Gg [(49,En i33),(51,En l.length)] G G G .optt ⟨.all id,.all id,ø⟩ (fun hc=>G1e (G02 (Gy hc hv40)) G G G) G,ø⟩ (Gb (u:=.opt ((!((decide ((i33:Int) < (l.length:Int)))&&(!r39)))&&(decide ((l.length:Int)≤(i33:Int)))) (.agg (Ga.cs r41))) G G ⟨Gg [(52,G1 v40)] G G G .optt ⟨.all id,ø⟩ (fun hc=>Gs (args:=[G1 1,G1 v40]) G (G5b 1 v40 r41 (Gy hc hr41)) J2b ⟨G,G,G,G,ø⟩) G,ø⟩ (Gb (u:=.opt ((!((decide ((i33:Int) < (l.length:Int)))&&(!r39)))&&(decide ((l.length:Int)≤(i33:Int)))) (BL r42)) G G ⟨Gg [(48,.agg [G1 y33.Bay,G1 y33.Row,BL y33.Deck,G1 y33.Tiers,G1 y33.Height,G1 y33.Kilos20,G1 y33.Kilos40,G1 y33.Lash,E0 y33.Plugs.1,G1 y33.X,G1 y33.Y,G1 y33.Z]),(53,.agg (Ga.cs r41))] G G G .optt ⟨.all id,.all id,ø⟩ (fun hc=>Gs (args:=[.agg [G1 y33.Bay,G1 y33.Row,BL y33.Deck,G1 y33.Tiers,G1 y33.Height,G1 y33.Kilos20,G1 y33.Kilos40,G1 y33.Lash,E0 y33.Plugs.1,G1 y33.X,G1 y33.Y,G1 y33.Z],.agg (Ga.cs r41)]) G (G17 (Ga.mk y33.Bay y33.Row y33.Deck y33.Tiers y33.Height y33.Kilos20 y33.Kilos40 y33.Lash y33.Plugs.1 y33.X y33.Y y33.Z) r41 r42 (Gy hc hr42)) H97 ⟨G,G,G,G,ø⟩) G,ø⟩ (Gb (u:=.opt ((!((decide ((i33:Int) < (l.length:Int)))&&(!r39)))&&(decide ((l.length:Int)≤(i33:Int)))) (BL (!r42))) G G ⟨Gg [(54,BL r42)] G G G .optt ⟨.all id,ø⟩ (fun hc=>Yu (b:=r42) G G) G,ø⟩ (Gb (u:=.opt (!((decide ((i33:Int) < (l.length:Int)))&&(!r39))) (BL ((decide ((l.length:Int)≤(i33:Int)))&&(!r42)))) G G ⟨Gg [(44,BL (decide ((l.length:Int)≤(i33:Int)))),(55,_)] G G G .scf ⟨.all id,.part,ø⟩ (fun hc=>J7 G G G G) G,ø⟩ (Gb (u:=BL (((decide ((i33:Int) < (l.length:Int)))&&(!r39))||((decide ((l.length:Int)≤(i33:Int)))&&(!r42)))) G G ⟨Gh (Z5 G G G G) G,ø⟩ (Rb ?_)))))))
   refine hK37 _ _ (Gp G (fun hb=>?_) (fun hb=>?_))
   ·
    replace h:=Gy hb h
    refine G5 fun K43 hK43=>G3 (JLh (BL false) (G8 G G) G (G9 (hK43 _ _ (Gx (⟨[BL false],[],ø,G,⟨⟨_,G,.conv (.same G)⟩,ø⟩,G,congrArg (fun r:Bool=>(BL r:AV)) (Option.some.inj h)⟩)))))
   ·
    replace h:=Hp hb h
    refine Gq (hK36 _ _ (G3 (JLh (En i33) (G4 G G) G (JLh (G1 ((i33+1:Nat):Int)) (Hj (Hi hk33 hm19) G G G) G (JLh (G1 ((i33+1:Nat):Int)) (G8 G G) G (G9 (e33 _ _ (i33+1) () (app1 hn33 h) (by omega) ⟨⟨.same rfl,.same rfl,.same rfl,ø⟩,ø,rfl⟩)))))))
  ·
   have h:=app1 hkx33 (Hz hi33 (Hg hb))
   refine Hc (hK8 _ _ (G5 fun K44 hK44=>G3 (JLh (BL true) (G8 G G) G (G9 (hK44 _ _ (Gx (⟨[BL true],[],ø,G,⟨⟨_,G,.conv (.same G)⟩,ø⟩,G,congrArg (fun r:Bool=>(BL r:AV)) (Option.some.inj h)⟩)))))))

def Rr (x:H5) (y:Gm):Option Bool:=
 bnd (Jk (Gm.mk x.Bay x.Rows.1) y) fun r3=>
 bnd (bif r3 then Ja x.Rows y.Rows else some default) fun r4=>
 some (r3&&r4)
theorem H16 (x:H5) (y:Gm) (r:Bool) (h:Rr x y=some r):Pure Tryz.prog 182 [.agg [G1 x.Bay,LT 1 G1 x.Rows],.agg [G1 y.Bay,E0 y.Rows]] (·=BL r):=by
 unfold Rr at h
 refine H1 [.tmp 4] Tryz.func182 G G (G5 fun K1 hK1=>G3 (JLh (.ptr 1120 0) (Qi (u:=.agg [G1 x.Bay,LT 1 G1 x.Rows]) (cs:=[G1 x.Bay,LT 1 G1 x.Rows]) 1120 G G G G G) G (JLh (.ptr 1121 0) (Qi (u:=.agg [G1 y.Bay,E0 y.Rows]) (cs:=[G1 y.Bay,E0 y.Rows]) 1121 G G G G G) G (JLh (BL false) (G8 G G) G (G9 (hK1 _ _ (Gz [(2,.dptr [G1 x.Bay,LT 1 G1 x.Rows]),(3,.ptr 1121 0)] [(1121,.box 114 [G1 y.Bay,E0 y.Rows])] 1120 rfl rfl rfl ⟨⟨_,rfl,.boxEq rfl rfl⟩,ø⟩ rfl (by exact⟨.ptr,.conv (.same rfl),ø⟩) (Gz [(2,.dptr [G1 x.Bay,LT 1 G1 x.Rows]),(3,.dptr [G1 y.Bay,E0 y.Rows])] [] 1121 rfl rfl rfl ø rfl (by exact⟨.conv (.same rfl),.ptr,ø⟩) ?_))))))))
 refine G5 fun K2 hK2=>G3 (JLh (.agg [G1 x.Bay,E0 x.Rows.1]) (H2.cv (Cv.aggL (cs:=[G1 x.Bay,LT 1 G1 x.Rows]) ⟨.same,Cv.lst0 x.Rows,ø⟩) (Gi Yv G G G)) G (JLh (.agg [G1 y.Bay,E0 y.Rows]) (Gi Yv G G G) G ?_))
 obtain⟨r3,hr3,h⟩:=Gf h
 refine JLh (BL r3) (Gs (args:=[.agg [G1 x.Bay,E0 x.Rows.1],.agg [G1 y.Bay,E0 y.Rows]]) G (G24 (Gm.mk x.Bay x.Rows.1) y r3 hr3) H96 ⟨G,G,G,G,ø⟩) G (JLh (BL r3) (G4 G G) G (Gd (u:=.dptr [LT 1 G1 x.Rows]) [] G G G .sct ø (fun hc=>Ge Jz G G G) ?_))
 refine Gd (u:=LT 1 G1 x.Rows) [(9,.dptr [LT 1 G1 x.Rows])] G G G .sct ⟨.all id,ø⟩ (fun hc=>Gk Hv G G G) ?_
 refine Gd (u:=.dptr [E0 y.Rows]) [] G G G .sct ø (fun hc=>Ge Jz G G G) ?_
 refine Gd (u:=E0 y.Rows) [(11,.dptr [E0 y.Rows])] G G G .sct ⟨.all id,ø⟩ (fun hc=>Gk Hv G G G) ?_
 obtain⟨r4,hr4,h⟩:=Gf h
 refine Gd (u:=BL r4) [(10,LT 1 G1 x.Rows),(12,E0 y.Rows)] G G G .sct ⟨.all id,.all id,ø⟩ (fun hc=>Gs (args:=[LT 1 G1 x.Rows,E0 y.Rows]) G (G2c x.Rows y.Rows r4 (Gy hc hr4)) H94 ⟨G,G,G,G,ø⟩) ?_
 refine JLh (BL (r3&&r4)) (J7 G G G G) G (JLh (BL (r3&&r4)) (G8 G G) G (G9 (hK2 _ _ (Gx (⟨[BL (r3&&r4)],[],ø,G,⟨⟨_,G,.conv (.same G)⟩,ø⟩,G,congrArg (fun r:Bool=>(BL r:AV)) (Option.some.inj h)⟩)))))
end
end Go.Proofs.YtfkilljboodoaaaGreat
