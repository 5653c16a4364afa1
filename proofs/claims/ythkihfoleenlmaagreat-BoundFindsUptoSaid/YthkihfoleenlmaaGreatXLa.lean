/- Walks of functions. -/
import Derived.Test.YthkihfoleenlmaaGreatSpecG
set_option maxRecDepth 100000
set_option maxHeartbeats 1000000
set_option linter.unusedVariables false
set_option linter.unusedSimpArgs false
namespace Go.Proofs.YthkihfoleenlmaaGreat
open Go.RowKit
noncomputable section
structure Gu where
 Bay:Int
 Row:Int
 Deck:Bool
 Tiers:Int
 Height:Int
 Kilos20:Int
 Kilos40:Int
 Lash:Int
 Plugs:Ln Int
 X:Int
 Y:Int
 Z:Int
 deriving Inhabited
def Gu.cs (x:Gu):List AV:=[I64 x.Bay,I64 x.Row,BL x.Deck,I64 x.Tiers,I64 x.Height,I64 x.Kilos20,I64 x.Kilos40,I64 x.Lash,LT 1 I64 x.Plugs,I64 x.X,I64 x.Y,I64 x.Z]
def Gu.av (x:Gu):AV:=.agg x.cs
def Gu.pl (x:Gu):Gc:=⟨x.Bay,x.Row,x.Deck,x.Tiers,x.Height,x.Kilos20,x.Kilos40,x.Lash,Prod.fst x.Plugs,x.X,x.Y,x.Z⟩
def Gu.of (x:Gc):Gu:=⟨x.Bay,x.Row,x.Deck,x.Tiers,x.Height,x.Kilos20,x.Kilos40,x.Lash,(fun e=>(e,[])) x.Plugs,x.X,x.Y,x.Z⟩
theorem Gu.cvl (x:Gu):CvL (Gu.cs x) (Gc.cs x.pl):=⟨.same,.same,.same,.same,.same,.same,.same,.same,Cv.lst0 x.Plugs,.same,.same,.same,trivial⟩
structure H9 where
 Bay:Int
 Rows:Ln Int
 deriving Inhabited
def H9.cs (x:H9):List AV:=[I64 x.Bay,LT 1 I64 x.Rows]
def H9.av (x:H9):AV:=.agg x.cs
def H9.pl (x:H9):Gz:=⟨x.Bay,Prod.fst x.Rows⟩
def H9.of (x:Gz):H9:=⟨x.Bay,(fun e=>(e,[])) x.Rows⟩
theorem H9.cvl (x:H9):CvL (H9.cs x) (Gz.cs x.pl):=⟨.same,Cv.lst0 x.Rows,trivial⟩
structure Hk where
 Kilos:Int
 X:Int
 Y:Int
 Z:Int
 Surface:Int
 Steps:Ln Int
 deriving Inhabited
def Hk.cs (x:Hk):List AV:=[I64 x.Kilos,I64 x.X,I64 x.Y,I64 x.Z,I64 x.Surface,LT 1 I64 x.Steps]
def Hk.av (x:Hk):AV:=.agg x.cs
def Hk.pl (x:Hk):He:=⟨x.Kilos,x.X,x.Y,x.Z,x.Surface,Prod.fst x.Steps⟩
def Hk.of (x:He):Hk:=⟨x.Kilos,x.X,x.Y,x.Z,x.Surface,(fun e=>(e,[])) x.Steps⟩
theorem Hk.cvl (x:Hk):CvL (Hk.cs x) (He.cs x.pl):=⟨.same,.same,.same,.same,.same,Cv.lst0 x.Steps,trivial⟩
structure Yq where
 Columns:Ln Gu
 Covers:Ln H9
 Light:Light
 Rows:Ln Row
 Frames:Ln Frame
 Tanks:Ln Hk
 Gp:Gp
 deriving Inhabited
def Yq.cs (x:Yq):List AV:=[LT 12 Gu.av x.Columns,LT 2 H9.av x.Covers,I64 x.Light.Kilos,I64 x.Light.X,I64 x.Light.Y,I64 x.Light.Z,LT 5 Row.av x.Rows,LT 5 Frame.av x.Frames,LT 6 Hk.av x.Tanks,I64 x.Gp.Tolerance,I64 x.Gp.Trim,I64 x.Gp.List_,I64 x.Gp.Stability]
def Yq.av (x:Yq):AV:=.agg x.cs
def Yq.of (x:H2):Yq:=⟨(fun e=>(e.map Gu.of,[])) x.Columns,(fun e=>(e.map H9.of,[])) x.Covers,x.Light,(fun e=>(e,[])) x.Rows,(fun e=>(e,[])) x.Frames,(fun e=>(e.map Hk.of,[])) x.Tanks,x.Gp⟩
namespace XLF
open XAF
theorem Geb (a b:Row):pX Ej 4 171 [.int .i64 a.Draught,.int .i64 a.Kilos,.int .i64 a.Buoy,.int .i64 a.Metacentre,.int .i64 a.vN] [.int .i64 b.Draught,.int .i64 b.Kilos,.int .i64 b.Buoy,.int .i64 b.Metacentre,.int .i64 b.vN]=some (decide (a=b)):=by
 refine(show _=some ((a.Draught==b.Draught)&&((a.Kilos==b.Kilos)&&((a.Buoy==b.Buoy)&&((a.Metacentre==b.Metacentre)&&((a.vN==b.vN)&&true))))) by kernel_rfl).trans (congrArg some ?_)
 rw [Bool.eq_iff_iff]
 simp only [P7,beq_iff_eq,P8,Bool.and_true]
 constructor
 ·intro h; obtain⟨_,_,_,_,_⟩:=a; obtain⟨_,_,_,_,_⟩:=b; simp_all
 ·intro h; subst h; simp
theorem Gea (a b:Frame):pX Ej 4 174 [.int .i64 a.X,.int .i64 a.Light,.int .i64 a.Share,.int .i64 a.Shear,.int .i64 a.Bend] [.int .i64 b.X,.int .i64 b.Light,.int .i64 b.Share,.int .i64 b.Shear,.int .i64 b.Bend]=some (decide (a=b)):=by
 refine(show _=some ((a.X==b.X)&&((a.Light==b.Light)&&((a.Share==b.Share)&&((a.Shear==b.Shear)&&((a.Bend==b.Bend)&&true))))) by kernel_rfl).trans (congrArg some ?_)
 rw [Bool.eq_iff_iff]
 simp only [P7,beq_iff_eq,P8,Bool.and_true]
 constructor
 ·intro h; obtain⟨_,_,_,_,_⟩:=a; obtain⟨_,_,_,_,_⟩:=b; simp_all
 ·intro h; subst h; simp
theorem Jaa (a b:Light):pX Ej 4 25 [.int .i64 a.Kilos,.int .i64 a.X,.int .i64 a.Y,.int .i64 a.Z] [.int .i64 b.Kilos,.int .i64 b.X,.int .i64 b.Y,.int .i64 b.Z]=some (decide (a=b)):=by
 refine(show _=some ((a.Kilos==b.Kilos)&&((a.X==b.X)&&((a.Y==b.Y)&&((a.Z==b.Z)&&true)))) by kernel_rfl).trans (congrArg some ?_)
 rw [Bool.eq_iff_iff]
 simp only [P7,beq_iff_eq,P8,Bool.and_true]
 constructor
 ·intro h; obtain⟨_,_,_,_⟩:=a; obtain⟨_,_,_,_⟩:=b; simp_all
 ·intro h; subst h; simp
theorem Ja9 (a b:Gp):pX Ej 4 30 [.int .i64 a.Tolerance,.int .i64 a.Trim,.int .i64 a.List_,.int .i64 a.Stability] [.int .i64 b.Tolerance,.int .i64 b.Trim,.int .i64 b.List_,.int .i64 b.Stability]=some (decide (a=b)):=by
 refine(show _=some ((a.Tolerance==b.Tolerance)&&((a.Trim==b.Trim)&&((a.List_==b.List_)&&((a.Stability==b.Stability)&&true)))) by kernel_rfl).trans (congrArg some ?_)
 rw [Bool.eq_iff_iff]
 simp only [P7,beq_iff_eq,P8,Bool.and_true]
 constructor
 ·intro h; obtain⟨_,_,_,_⟩:=a; obtain⟨_,_,_,_⟩:=b; simp_all
 ·intro h; subst h; simp
theorem J42 (a b:Box):pX Ej 4 77 [.int .i64 a.ID,.string a.Number,.int .u8 a.Size,.bool a.High,.int .i64 a.Kilos,.int .i64 a.Load,.int .i64 a.Discharge,.int .u8 a.Class,.bool a.Reefer] [.int .i64 b.ID,.string b.Number,.int .u8 b.Size,.bool b.High,.int .i64 b.Kilos,.int .i64 b.Load,.int .i64 b.Discharge,.int .u8 b.Class,.bool b.Reefer]=some (decide (a=b)):=by
 refine(show _=some ((a.ID==b.ID)&&((a.Number==b.Number)&&((a.Size==b.Size)&&((a.High==b.High)&&((a.Kilos==b.Kilos)&&((a.Load==b.Load)&&((a.Discharge==b.Discharge)&&((a.Class==b.Class)&&((a.Reefer==b.Reefer)&&true))))))))) by kernel_rfl).trans (congrArg some ?_)
 rw [Bool.eq_iff_iff]
 simp only [P7,H3e,beq_iff_eq,P8,Bool.and_true]
 constructor
 ·intro h; obtain⟨_,_,_,_,_,_,_,_,_⟩:=a; obtain⟨_,_,_,_,_,_,_,_,_⟩:=b; simp_all
 ·intro h; subst h; simp
theorem kF:eY Ej 171 5=true:=by kernel_rfl
theorem kE:eY Ej 174 5=true:=by kernel_rfl
theorem aY:eY Ej 177 6=true:=by kernel_rfl
theorem G21:eY Ej 25 4=true:=by kernel_rfl
theorem G20:eY Ej 30 4=true:=by kernel_rfl
theorem Qa:eY Ej 32 13=true:=by kernel_rfl
theorem rV:aV Ej 171=true:=by kernel_rfl
theorem rT:aV Ej 174=true:=by kernel_rfl
theorem Ga7:aV Ej 25=true:=by kernel_rfl
theorem Ga6:aV Ej 30=true:=by kernel_rfl
theorem HS:aV Ej 77=true:=by kernel_rfl
theorem G1f:JT Ej 4=true:=by kernel_rfl
theorem Ga1:H8 Ej 128=true:=by kernel_rfl
theorem Ga0:H8 Ej 129=true:=by kernel_rfl
theorem G9f:H8 Ej 130=true:=by kernel_rfl
theorem G9e:H8 Ej 131=true:=by kernel_rfl
theorem G9d:H8 Ej 132=true:=by kernel_rfl
theorem G9c:H8 Ej 133=true:=by kernel_rfl
theorem tU:H8 Ej 134=true:=by kernel_rfl
theorem G9b:H8 Ej 135=true:=by kernel_rfl
theorem tT:H8 Ej 136=true:=by kernel_rfl
theorem G9a:H8 Ej 137=true:=by kernel_rfl
theorem tQ:H8 Ej 138=true:=by kernel_rfl
theorem tP:H8 Ej 143=true:=by kernel_rfl
theorem rS:H8 Ej 15=true:=by kernel_rfl
theorem H0e:H8 Ej 35=true:=by kernel_rfl
theorem H0d:H8 Ej 36=true:=by kernel_rfl
theorem H0c:H8 Ej 37=true:=by kernel_rfl
theorem H0b:H8 Ej 38=true:=by kernel_rfl
theorem H0a:H8 Ej 39=true:=by kernel_rfl
theorem RL:H8 Ej 40=true:=by kernel_rfl
theorem H08:H8 Ej 56=true:=by kernel_rfl
theorem H07:H8 Ej 57=true:=by kernel_rfl
theorem H06:H8 Ej 58=true:=by kernel_rfl
theorem H05:H8 Ej 59=true:=by kernel_rfl
theorem H04:H8 Ej 60=true:=by kernel_rfl
theorem H03:H8 Ej 61=true:=by kernel_rfl
theorem Gf7:H8 Ej 87=true:=by kernel_rfl
theorem RH:H8 Ej 88=true:=by kernel_rfl
theorem Gf6:H8 Ej 89=true:=by kernel_rfl
theorem RG:H8 Ej 90=true:=by kernel_rfl
theorem RF:H8 Ej 91=true:=by kernel_rfl
theorem RE:H8 Ej 92=true:=by kernel_rfl
theorem Gf5:H8 Ej 93=true:=by kernel_rfl
theorem RD:H8 Ej 94=true:=by kernel_rfl
theorem Rs:H8 Ej 95=true:=by kernel_rfl
theorem wI:H8 Ej 98=true:=by kernel_rfl
theorem tO:Qd Ej 171 5 40=true:=by kernel_rfl
theorem tN:Qd Ej 174 5 40=true:=by kernel_rfl
theorem tM:Qd Ej 177 6 64=true:=by kernel_rfl
theorem aU:Qd Ej 3 1 8=true:=by kernel_rfl
theorem rP:Qd Ej 71 12 112=true:=by kernel_rfl
theorem wH:Qd Ej 73 2 32=true:=by kernel_rfl
theorem wG:Qd Ej 77 9 64=true:=by kernel_rfl
theorem wF:Ej.eqGuardType Ej.depth 171=false:=by kernel_rfl
theorem wE:Ej.eqGuardType Ej.depth 174=false:=by kernel_rfl
theorem H76:Ej.eqGuardType Ej.depth 25=false:=by kernel_rfl
theorem H75:Ej.eqGuardType Ej.depth 30=false:=by kernel_rfl
theorem G1e:Ej.eqGuardType Ej.depth 77=false:=by kernel_rfl
theorem tL:Je Ej 177 0 0=true:=by kernel_rfl
theorem tK:Je Ej 177 1 1=true:=by kernel_rfl
theorem tJ:Je Ej 177 2 2=true:=by kernel_rfl
theorem tI:Je Ej 177 3 3=true:=by kernel_rfl
theorem tH:Je Ej 177 4 4=true:=by kernel_rfl
theorem dJ:Je Ej 177 5 5=true:=by kernel_rfl
theorem vT:Je Ej 32 2 2=true:=by kernel_rfl
theorem eS:Je Ej 32 3 6=true:=by kernel_rfl
theorem eR:Je Ej 32 4 7=true:=by kernel_rfl
theorem eQ:Je Ej 32 5 8=true:=by kernel_rfl
theorem vS:Je Ej 32 6 9=true:=by kernel_rfl
theorem G0d:placesOf Ej 171=some [(0,1),(1,1),(2,1),(3,1),(4,1)]:=by kernel_rfl
theorem G0c:placesOf Ej 174=some [(0,1),(1,1),(2,1),(3,1),(4,1)]:=by kernel_rfl
theorem G0b:placesOf Ej 177=some [(0,1),(1,1),(2,1),(3,1),(4,1),(5,1)]:=by kernel_rfl
theorem xL:placesOf Ej 71=some [(0,1),(1,1),(2,1),(3,1),(4,1),(5,1),(6,1),(7,1),(8,1),(9,1),(10,1),(11,1)]:=by kernel_rfl
theorem G4a:placesOf Ej 73=some [(0,1),(1,1)]:=by kernel_rfl
theorem eF:placesOf Ej 77=some [(0,1),(1,1),(2,1),(3,1),(4,1),(5,1),(6,1),(7,1),(8,1)]:=by kernel_rfl
theorem jG:Ja Ej 26=true:=by kernel_rfl
theorem jF:Ja Ej 27=true:=by kernel_rfl
theorem jE:Ja Ej 28=true:=by kernel_rfl
theorem G83:Rg Ej 171 5=true:=by kernel_rfl
theorem G82:Rg Ej 174 5=true:=by kernel_rfl
theorem tF:Rg Ej 177 6=true:=by kernel_rfl
theorem QZ:Rg Ej 22 1=true:=by kernel_rfl
theorem Gf4:Rg Ej 23 1=true:=by kernel_rfl
theorem Gf3:Rg Ej 26 1=true:=by kernel_rfl
theorem Gf2:Rg Ej 27 1=true:=by kernel_rfl
theorem Gf1:Rg Ej 28 1=true:=by kernel_rfl
theorem rK:Rg Ej 32 13=true:=by kernel_rfl
theorem nH:Rg Ej 51 1=true:=by kernel_rfl
theorem Qc:sliceB Ej 26 171 5=true:=by kernel_rfl
theorem Qb:sliceB Ej 27 174 5=true:=by kernel_rfl
theorem Jy:sliceB Ej 28 177 6=true:=by kernel_rfl
theorem HB:(Ej.info? 171).bind (fun i=>i.zero.map Value.cells)=some (List.toArray [E0,E0,E0,E0,E0]):=by kernel_rfl
theorem HA:(Ej.info? 174).bind (fun i=>i.zero.map Value.cells)=some (List.toArray [E0,E0,E0,E0,E0]):=by kernel_rfl
theorem tE:(Ej.info? 177).bind (fun i=>i.zero.map Value.cells)=some (List.toArray [E0,E0,E0,E0,E0,.slice none 0 0]):=by kernel_rfl
theorem nE:(Ej.info? 32).bind (fun i=>i.zero.map Value.cells)=some (List.toArray [.slice none 0 0,.slice none 0 0,E0,E0,E0,E0,.slice none 0 0,.slice none 0 0,.slice none 0 0,E0,E0,E0,E0]):=by kernel_rfl
theorem rJ:(Ej.info? 71).bind (fun i=>i.zero.map Value.cells)=some (List.toArray [E0,E0,.bool false,E0,E0,E0,E0,E0,.slice none 0 0,E0,E0,E0]):=by kernel_rfl
theorem wD:(Ej.info? 73).bind (fun i=>i.zero.map Value.cells)=some (List.toArray [E0,.slice none 0 0]):=by kernel_rfl
theorem fI:(Ej.info? 77).bind (fun i=>i.zero.map Value.cells)=some (List.toArray [E0,.string ByteArray.empty,.int .u8 0,.bool false,E0,E0,E0,.int .u8 0,.bool false]):=by kernel_rfl
theorem G46:Rr Ej 171 5=true:=by kernel_rfl
theorem G45:Rr Ej 174 5=true:=by kernel_rfl
theorem rH:Rr Ej 177 6=true:=by kernel_rfl
end XLF
open XAF
open XLF

def Hi (k:Int) (i:Int):Option Int:=
 chk (k+7) fun a=>
 chk (1000003*a) fun b=>
 chk (b+i) fun c=>
 some c
theorem Hy (k:Int) (i:Int) (r:Int) (h:Hi k i=some r):Pure Ej 95 [I64 k,I64 i] (·=I64 r):=by
 unfold Hi at h
 refine Gy [.tmp 4] Tryz.func95 ø ø (Jr fun a=>(JLm (I64 0) ø (G7 (a (Jr fun b=>(JLm (I64 k) ø ?_))))))
 obtain⟨g,c,h⟩:=Hd h
 refine JLh (I64 g) (Hf c ø ø ø) ø ?_
 obtain⟨j,d,h⟩:=Hd h
 refine JLh (I64 j) (fF d ø ø ø) ø (JLm (I64 i) ø ?_)
 obtain⟨e,f,h⟩:=Hd h
 refine JLh (I64 e) (Hf f ø ø ø) ø (JLm (I64 e) ø (G7 (b (Gt (fin1 I64 h)))))

def Qy (k:Int) (i:Int):Option G5:=
 bnd (Hi k i) fun a=>
 some (G5.mk a 0)
theorem fL (k:Int) (i:Int) (r:G5) (h:Qy k i=some r):Pure Ej 209 [I64 k,I64 i] (·=.agg [I64 r.Load,I64 r.Discharge]):=by
 unfold Qy at h
 refine Gy [.cell 4 139] Tryz.func209 ø ø (Jr fun b=>(JLh (.ptr 1146 0) (Y4 1146 [I64 0,I64 0] [E0,E0] cK (zzQ ø) ø ø) ø (G7 (b (Jr fun c=>(JLm (I64 k) ø (JLm (I64 i) ø ?_)))))))
 obtain⟨a,d,h⟩:=Ge h
 refine JLh (I64 a) (Gq ø (Hy k i a d) Rs ⟨ø,ø,ø,ø,þ⟩) ø (JLh (.agg [I64 a,I64 0]) (Jj (cs:=[I64 a,I64 0]) [(0,1),(1,1)] [I64 0,I64 0] [E0,E0] bL cK (zzQ ø) ø ø) ø (J7 (u:=.junk) (Hw (u:=.agg [I64 a,I64 0]) (ds:=[I64 a,I64 0]) cL ø ø ø ø ø ø ø ø) (G7 (c (Gt (⟨[.agg [I64 a,I64 0]],[],þ,ø,⟨⟨_,⟨_,_,_,_,ø,ø,ø,.inl ⟨Hm,ø⟩⟩,.conv (.same ø)⟩,þ⟩,ø,congrArg (fun r:G5=>(.agg [I64 r.Load,I64 r.Discharge]:AV)) (Nv h)⟩))))))

def Rb (l:List Int):Option (Ln Int):=
 chk ((l.length:Int)+12) fun g=>
 bnd (iM g) fun e=>
 need (decide (8*e≤281474976710656∧e≤maxLen)) <|
 need (decide ((([]:List Int).length+l.length)*8≤140737488355328∧([]:List Int).length+l.length≤maxLen)) <|
 need (decide (12≤9223372036854775807)) <|
 upto (fun f (a:(List Int)) d=>
  bnd (Hi 1 (f:Int)) fun b=>
  need (decide ((a.length+[b].length)*8≤140737488355328∧a.length+[b].length≤maxLen)) <|
  d (a++[b]))
 (fun(a:(List Int))=>
  bnd (cN (l.length:Int) a.length) fun c=>
  some (a.take c,a.drop c)) (12:Int).toNat 0 (([]:List Int)++l)
theorem cG (l:List Int) (r:(Ln Int)) (h:Rb l=some r):Pure Ej 98 [E1 l] (·=LT 1 I64 r):=by
 unfold Rb at h
 refine Gy [.tmp 2] Tryz.func98 ø ø (Jr fun w=>(JLh (E1 ([]:List Int)) (Qu 1 ø ø) ø (G7 (w (Jr fun x=>(JLm (E1 l) ø (JLl Gr ø ø ø fun b0=>?_)))))))
 obtain⟨v3,y,h⟩:=Hd h
 refine JLh (I64 v3) (Hf y ø ø ø) ø ?_
 obtain⟨m4,z,h⟩:=Ge h
 obtain⟨a0,h⟩:=J2 h
 refine JLh (OW 1100 1 I64 ([]:List Int)) (jC 1100 ø ø ø ø Gr aU ø (Qe z) a0) ø (JLm (OW 1100 1 I64 ([]:List Int)) ø (G7 (x (Jr fun a1=>(JLm (OW 1100 1 I64 ([]:List Int)) ø (JLm (E1 l) ø ?_))))))
 obtain⟨a2,h⟩:=J2 h
 refine JLh (OW 1100 1 I64 (([]:List Int)++l)) (nC (f:=I64) (xs:=([]:List Int)) (ys:=l) ø ø ø ø Gr aU a2 (fun _=>ø) (.inl ø)) ø (JLm (OW 1100 1 I64 (([]:List Int)++l)) ø (G7 (a1 (Js fun a3=>Jr fun a4=>(JLm (I64 0) ø (G7 (a4 (Gi ?_))))))))
 obtain⟨j,h⟩:=J2 h
 obtain⟨a5,k,m,i,h⟩:=gT h
 refine H7 (fun b (a:(List Int))=>upto a5 k ((12:Int).toNat - b) b a=some r) (fun b a=>[(0,E1 l),(3,OW 1100 1 I64 a),(4,Ei b)]) (fun b a=>[(1100,.spare 3 1 a.length a.length)]) (fun b=>(12:Int).toNat - b) 0 (([]:List Int)++l) h ⟨(.sm ø ø),⟨⟨_,ø,.same⟩,þ⟩,ø⟩ ?_
 clear h
 intro b a e b1 a6
 refine Js fun n=>Jr fun o=>(JLm (Ei b) ø (JLh (BL (decide ((b:Int) < 12))) (Ht ø ø ø) ø (G7 (o (Gm ø (fun hb=>?_) (fun hb=>?_))))))
 ·
  have g:=eJ hb
  obtain⟨a8,p,h⟩:=eH e g
  replace h:=vM m h
  refine Gn (n (Js fun q=>Gi (G2 (JLm (OW 1100 1 I64 a) ø (JLm (Ei b) ø ?_)))))
  obtain⟨c,s,h⟩:=Ge h
  refine JLh (I64 c) (Gq ø (Hy 1 (b:Int) c s) Rs ⟨ø,ø,ø,ø,þ⟩) ø (JLh (E1 [c]) (Hn (xs:=[I64 c]) ø ⟨ø,ø,þ⟩ Gr eD ø ø ø ø) ø ?_)
  obtain⟨t,h⟩:=J2 h
  refine JLh (OW 1100 1 I64 (a++[c])) (R3 (f:=I64) (xs:=a) (ys:=[c]) ø ø ø ø Gr aU t (fun _=>ø) (.inl ø) ø) ø (JLm (OW 1100 1 I64 (a++[c])) ø (G7 (q (G2 (JLm (Ei b) ø (JLh (I64 ((b+1:Nat):Int)) (Hf (Hq g (cI j)) ø ø ø) ø (JLm (I64 ((b+1:Nat):Int)) ø (G7 (a6 _ _ (b+1) (a++[c]) (app1 p h) (by omega) ⟨(.sm ø ø),⟨⟨_,rfl,.same⟩,þ⟩,rfl⟩)))))))))
 ·
  have h:=app1 i (eI e (Z2 hb))
  refine H5 (a3 (Jr fun u=>(JLm (OW 1100 1 I64 a) ø (JLm (E1 l) ø (JLl Gr ø ø ø fun a9=>?_)))))
  obtain⟨d,v,h⟩:=Ge h
  refine JLh (LT 1 I64 (a.take d,a.drop d)) (ZW (f:=I64) (xs:=a) ø ø ø Gr (Rw v)) ø (JLm (LT 1 I64 (a.take d,a.drop d)) ø (G7 (u (Gt (fin1 (fun r:(Ln Int)=>(LT 1 I64 r:AV)) h)))))

def Yk (x:Gc):Option Gu:=
 bnd (Rb x.Plugs) fun a=>
 some (Gu.mk x.Bay x.Row x.Deck x.Tiers x.Height x.Kilos20 x.Kilos40 x.Lash a x.X x.Y x.Z)
abbrev Kb (x:Gc) (a:Ln Int):List AV:=[I64 x.Bay,I64 x.Row,BL x.Deck,I64 x.Tiers,I64 x.Height,I64 x.Kilos20,I64 x.Kilos40,I64 x.Lash,LT 1 I64 a,I64 x.X,I64 x.Y,I64 x.Z]
abbrev Kc:List AV:=[I64 0,I64 0,BL false,I64 0,I64 0,I64 0,I64 0,I64 0,E1 ([]:List Int),I64 0,I64 0,I64 0]
theorem mR (x:Gc) (r:Gu) (h:Yk x=some r):Pure Ej 87 [.agg (Gc.cs x)] (·=.agg (Gu.cs r)):=by
 unfold Yk at h
 refine Gy [.cell 2 71] Tryz.func87 ø ø (Jr fun b=>(JLh (.ptr 1089 0) (Qr (cs:=(Gc.cs x)) 1089 ø ø ø ø ø) ø (JLh (.ptr 1090 0) (Y4 1090 Kc [E0,E0,.bool false,E0,E0,E0,E0,E0,.slice none 0 0,E0,E0,E0] rJ ⟨.inl ø,.inl ø,.inl ø,.inl ø,.inl ø,.inl ø,.inl ø,.inl ø,.inr ⟨_,ø,ø⟩,.inl ø,.inl ø,.inl ø,þ⟩ ø ø) ø (G7 (b (Jr fun c=>(JLh (.ptr 1089 8) (Qn Rf ø ø) ø (JLh (E1 x.Plugs) (bY Hv ø ø ø ø) ø ?_))))))))
 obtain⟨a,d,h⟩:=Ge h
 refine JLh (LT 1 I64 a) (Gq ø (cG x.Plugs a d) wI ⟨ø,ø,þ⟩) ø (JLh (.ptr 1089 8) (Qn Rf ø ø) ø (J7 (u:=.junk) (Hw (u:=LT 1 I64 a) (ds:=(Kb x a)) nH ø ø ø ø ø ø ø ø) (G7 (c (H1 [(1,.dptr (Kb x a)),(2,.ptr 1090 0)] [(1090,.box 71 Kc)] 1089 rfl rfl rfl ⟨⟨_,rfl,.boxEq rfl rfl⟩,þ⟩ rfl (by exact⟨.ptr,.conv (.same rfl),þ⟩) ?_)))))
 refine Jr fun e=>(JLh (.agg (Kb x a)) (Gk Z4 ø ø ø) ø (J7 (u:=.junk) (Hw (u:=.agg (Kb x a)) (ds:=(Kb x a)) jX ø ø ø ø ø ø ø ø) (G7 (e (Gt ?_)))))
 exact⟨[.agg (Kb x a)],[],þ,ø,⟨⟨_,⟨_,_,_,_,ø,ø,ø,.inl ⟨Z4,ø⟩⟩,.conv (.same ø)⟩,þ⟩,ø,congrArg (fun r:Gu=>(.agg (Gu.cs r):AV)) (Nv h)⟩

def Qt (k:Int) (i:Int):Option Gc:=
 bnd (Hi k i) fun a=>
 some (Gc.mk a 0 false 0 0 0 0 0 [] 0 0 0)
abbrev Kd (a:Int):List AV:=[I64 a,I64 0,BL false,I64 0,I64 0,I64 0,I64 0,I64 0,E1 ([]:List Int),I64 0,I64 0,I64 0]
theorem fB (k:Int) (i:Int) (r:Gc) (h:Qt k i=some r):Pure Ej 88 [I64 k,I64 i] (·=.agg (Gc.cs r)):=by
 unfold Qt at h
 refine Gy [.cell 4 71] Tryz.func88 ø ø (Jr fun b=>(JLh (.ptr 1091 0) (Y4 1091 Kc [E0,E0,.bool false,E0,E0,E0,E0,E0,.slice none 0 0,E0,E0,E0] rJ ⟨.inl ø,.inl ø,.inl ø,.inl ø,.inl ø,.inl ø,.inl ø,.inl ø,.inr ⟨_,ø,ø⟩,.inl ø,.inl ø,.inl ø,þ⟩ ø ø) ø (G7 (b (Jr fun c=>(JLm (I64 k) ø (JLm (I64 i) ø ?_)))))))
 obtain⟨a,d,h⟩:=Ge h
 refine JLh (I64 a) (Gq ø (Hy k i a d) Rs ⟨ø,ø,ø,ø,þ⟩) ø (JLh (.agg (Kd a)) (Jj (cs:=(Kd a)) [(0,1),(1,1),(2,1),(3,1),(4,1),(5,1),(6,1),(7,1),(8,1),(9,1),(10,1),(11,1)] Kc [E0,E0,.bool false,E0,E0,E0,E0,E0,.slice none 0 0,E0,E0,E0] xL rJ ⟨.inl ø,.inl ø,.inl ø,.inl ø,.inl ø,.inl ø,.inl ø,.inl ø,.inr ⟨_,ø,ø⟩,.inl ø,.inl ø,.inl ø,þ⟩ ø ø) ø (J7 (u:=.junk) (Hw (u:=.agg (Kd a)) (ds:=(Kd a)) jX ø ø ø ø ø ø ø ø) (G7 (c ?_))))
 refine Gt (⟨[.agg (Kd a)],[],þ,ø,⟨⟨_,⟨_,_,_,_,ø,ø,ø,.inl ⟨Z4,ø⟩⟩,.conv (.same ø)⟩,þ⟩,ø,congrArg (fun r:Gc=>(.agg (Gc.cs r):AV)) (Nv h)⟩)

def Yc (l:List Gc):Option (Ln Gu):=
 chk ((l.length:Int)+12) fun k=>
 bnd (iM k) fun h=>
 need (decide (112*h≤281474976710656∧h≤maxLen)) <|
 each (fun i m (c:(List Gu)) f=>
  bnd (Yk i) fun d=>
  need (decide ((c.length+[d].length)*112≤140737488355328∧c.length+[d].length≤maxLen)) <|
  f (c++[d]))
 (fun(c:(List Gu))=>
  need (decide (12≤9223372036854775807)) <|
  upto (fun j (b:(List Gu)) g=>
   bnd (Qt 1 (j:Int)) fun a=>
   need (decide ((b.length+[(Gu.mk a.Bay a.Row a.Deck a.Tiers a.Height a.Kilos20 a.Kilos40 a.Lash (a.Plugs,([]:List Int)) a.X a.Y a.Z)].length)*112≤140737488355328∧b.length+[(Gu.mk a.Bay a.Row a.Deck a.Tiers a.Height a.Kilos20 a.Kilos40 a.Lash (a.Plugs,([]:List Int)) a.X a.Y a.Z)].length≤maxLen)) <|
   g (b++[(Gu.mk a.Bay a.Row a.Deck a.Tiers a.Height a.Kilos20 a.Kilos40 a.Lash (a.Plugs,([]:List Int)) a.X a.Y a.Z)]))
  (fun(b:(List Gu))=>
   bnd (cN (l.length:Int) b.length) fun e=>
   some (b.take e,b.drop e)) (12:Int).toNat 0 c) l 0 []
abbrev Ke (a:Gc):List Gu:=[(Gu.mk a.Bay a.Row a.Deck a.Tiers a.Height a.Kilos20 a.Kilos40 a.Lash (a.Plugs,([]:List Int)) a.X a.Y a.Z)]
abbrev Kf (a:Gc):List AV:=[I64 a.Bay,I64 a.Row,BL a.Deck,I64 a.Tiers,I64 a.Height,I64 a.Kilos20,I64 a.Kilos40,I64 a.Lash,LT 1 I64 (a.Plugs,([]:List Int)),I64 a.X,I64 a.Y,I64 a.Z]
theorem lN (l:List Gc) (r:(Ln Gu)) (h:Yc l=some r):Pure Ej 35 [E5 l] (·=LT 12 Gu.av r):=by
 unfold Yc at h
 refine Gy [.tmp 2] Tryz.func35 ø ø (Jr fun b8=>(JLh (E5 ([]:List Gc)) (Qu 12 ø ø) ø (G7 (b8 (Jr fun b9=>(JLm (E5 l) ø (JLl Ha ø ø ø fun d3=>?_)))))))
 obtain⟨v3,c0,h⟩:=Hd h
 refine JLh (I64 v3) (Hf c0 ø ø ø) ø ?_
 obtain⟨m4,c1,h⟩:=Ge h
 obtain⟨c2,h⟩:=J2 h
 refine JLh (OW 1026 12 Gu.av ([]:List Gu)) (jC 1026 ø ø ø ø Ha rP ø (Qe c1) c2) ø (JLm (OW 1026 12 Gu.av ([]:List Gu)) ø (G7 (b9 (Js fun c3=>Jr fun c4=>(JLm (I64 0) ø (G7 (c4 (Gi ?_))))))))
 obtain⟨c5,s,t,p,h⟩:=Jg h
 refine H7 (fun b (c:(List Gu))=>each c5 s (List.drop b l) b c=some r) (fun b c=>[(0,E5 l),(3,OW 1026 12 Gu.av c),(4,Ei b)]) (fun b c=>[(1026,.spare 71 12 c.length c.length)]) (fun b=>l.length - b) 0 [] h ⟨(.sm ø ø),⟨⟨_,ø,.same⟩,þ⟩,ø⟩ ?_
 clear h
 intro b c k d4 c6
 refine Js fun v=>Jr fun w=>(JLm (Ei b) ø (JLm (E5 l) ø (JLl Ha ø ø ø fun x=>(JLh (BL (decide ((b:Int) < (l.length:Int)))) (Ht ø ø ø) ø (G7 (w (Gm ø (fun hb=>?_) (fun hb=>?_))))))))
 ·
  have m:=Q1 hb
  obtain⟨i,d0,z,a0,h⟩:=J4 k m
  replace h:=Zt t h
  refine Gn (v (Js fun a1=>Gi (Jr fun a2=>(JLm (E5 l) ø (JLm (Ei b) ø (JLh (Ee i) (Gs (f:=Gc.av) (xs:=l) (y:=i) ø ø ø Ha z ø) ø (JLh (.agg (Gc.cs i)) (Gk Z4 ø ø ø) ø ?_)))))))
  obtain⟨e,a3,h⟩:=Ge h
  refine JLh (.agg (Gu.cs e)) (Gq ø (mR i e a3) Gf7 ⟨ø,ø,þ⟩) ø (JLh (.ptr 1025 0) (Q3 1025 12 fH ø ø) ø (J7 (u:=.junk) (Hw (u:=.agg (Gu.cs e)) (ds:=(Gu.cs e)) jX ø ø ø ø ø ø ø ø) (G7 (a2 (fzQ [(0,E5 l),(3,OW 1026 12 Gu.av c),(4,Ei b),(5,.dptr (Gu.cs e))] [(1026,.spare 71 12 c.length c.length)] 1025 rfl rfl rfl ⟨⟨_,rfl,.same⟩,þ⟩ rfl (G2 ?_))))))
  refine JLm (OW 1026 12 Gu.av c) ø (JLh (.agg (Gu.cs e)) (Gk Z4 ø ø ø) ø (JLh (LS 12 Gu.av [e]) (Hn (xs:=[.agg (Gu.cs e)]) ø ⟨ø,ø,þ⟩ Ha fH ø ø ø ø) ø ?_))
  obtain⟨a4,h⟩:=J2 h
  refine JLh (OW 1026 12 Gu.av (c++[e])) (R3 (f:=Gu.av) (xs:=c) (ys:=[e]) ø ø ø ø Ha rP a4 (fun _=>ø) (.inl ø) ø) ø (JLm (OW 1026 12 Gu.av (c++[e])) ø (G7 (a1 (G2 (JLm (Ei b) ø (JLh (I64 ((b+1:Nat):Int)) (Hf (Hq m x) ø ø ø) ø (JLm (I64 ((b+1:Nat):Int)) ø (G7 (c6 _ _ (b+1) (c++[e]) (app1 a0 h) (by omega) ⟨(.sm ø ø),⟨⟨_,rfl,.same⟩,þ⟩,rfl⟩)))))))))
 ·
  have h:=app1 p (J5 k (Hg hb))
  refine H5 (c3 (Js fun a5=>Jr fun a6=>(JLm (I64 0) ø (G7 (a6 (Gi ?_))))))
  obtain⟨a7,h⟩:=J2 h
  obtain⟨c7,a8,a9,q,h⟩:=gT h
  refine H7 (fun d (a:(List Gu))=>upto c7 a8 ((12:Int).toNat - d) d a=some r) (fun d a=>[(0,E5 l),(3,OW 1026 12 Gu.av a),(6,Ei d)]) (fun d a=>[(1026,.spare 71 12 a.length a.length)]) (fun d=>(12:Int).toNat - d) 0 c h ⟨(.sm ø ø),⟨⟨_,ø,.same⟩,þ⟩,ø⟩ ?_
  clear h
  intro d a n d5 c8
  refine Js fun b0=>Jr fun b1=>(JLm (Ei d) ø (JLh (BL (decide ((d:Int) < 12))) (Ht ø ø ø) ø (G7 (b1 (Gm ø (fun hb=>?_) (fun hb=>?_))))))
  ·
   have o:=eJ hb
   obtain⟨d1,b2,h⟩:=eH n o
   replace h:=vM a9 h
   refine Gn (b0 (Js fun b3=>Gi (G2 (JLm (OW 1026 12 Gu.av a) ø (JLm (Ei d) ø ?_)))))
   obtain⟨g,b4,h⟩:=Ge h
   refine JLh (.agg (Kf g)) (Gv.cv (Cv.aggL (cs:=(Gc.cs g)) ⟨.same,.same,.same,.same,.same,.same,.same,.same,Cv.of0 g.Plugs,.same,.same,.same,þ⟩) (Gq ø (fB 1 (d:Int) g b4) RH ⟨ø,ø,ø,ø,þ⟩)) ø (JLh (LS 12 Gu.av ((Ke g))) (Hn (xs:=[.agg (Kf g)]) ø ⟨ø,ø,þ⟩ Ha fH ø ø ø ø) ø ?_)
   obtain⟨b5,h⟩:=J2 h
   refine JLh (OW 1026 12 Gu.av (a++(Ke g))) (R3 (f:=Gu.av) (xs:=a) (ys:=(Ke g)) ø ø ø ø Ha rP b5 (fun _=>ø) (.inl ø) ø) ø (JLm (OW 1026 12 Gu.av (a++(Ke g))) ø (G7 (b3 (G2 (JLm (Ei d) ø (JLh (I64 ((d+1:Nat):Int)) (Hf (Hq o (cI a7)) ø ø ø) ø (JLm (I64 ((d+1:Nat):Int)) ø (G7 ?_))))))))
   exact c8 _ _ (d+1) (a++(Ke g)) (app1 b2 h) (by omega) ⟨(.sm ø ø),⟨⟨_,rfl,.same⟩,þ⟩,rfl⟩
  ·
   have h:=app1 q (eI n (Z2 hb))
   refine H5 (a5 (Jr fun b6=>(JLm (OW 1026 12 Gu.av a) ø (JLm (E5 l) ø (JLl Ha ø ø ø fun d2=>?_)))))
   obtain⟨j,b7,h⟩:=Ge h
   refine JLh (LT 12 Gu.av (a.take j,a.drop j)) (ZW (f:=Gu.av) (xs:=a) ø ø ø Ha (Rw b7)) ø (JLm (LT 12 Gu.av (a.take j,a.drop j)) ø (G7 (b6 (Gt (fin1 (fun r:(Ln Gu)=>(LT 12 Gu.av r:AV)) h)))))

def Yx (x:Gz):Option H9:=
 bnd (Rb x.Rows) fun a=>
 some (H9.mk x.Bay a)
theorem oG (x:Gz) (r:H9) (h:Yx x=some r):Pure Ej 89 [.agg [I64 x.Bay,E1 x.Rows]] (·=.agg [I64 r.Bay,LT 1 I64 r.Rows]):=by
 unfold Yx at h
 refine Gy [.cell 2 73] Tryz.func89 ø ø (Jr fun b=>(JLh (.ptr 1092 0) (Qr (cs:=[I64 x.Bay,E1 x.Rows]) 1092 ø ø ø ø ø) ø (JLh (.ptr 1093 0) (Y4 1093 [I64 0,E1 ([]:List Int)] [E0,.slice none 0 0] wD ⟨.inl ø,.inr ⟨_,ø,ø⟩,þ⟩ ø ø) ø (G7 (b (Jr fun c=>(JLh (.ptr 1092 1) (Qn Qj ø ø) ø (JLh (E1 x.Rows) (bY Hv ø ø ø ø) ø ?_))))))))
 obtain⟨a,d,h⟩:=Ge h
 refine JLh (LT 1 I64 a) (Gq ø (cG x.Rows a d) wI ⟨ø,ø,þ⟩) ø (JLh (.ptr 1092 1) (Qn Qj ø ø) ø (J7 (u:=.junk) (Hw (u:=LT 1 I64 a) (ds:=[I64 x.Bay,LT 1 I64 a]) nH ø ø ø ø ø ø ø ø) (G7 (c (H1 [(1,.dptr [I64 x.Bay,LT 1 I64 a]),(2,.ptr 1093 0)] [(1093,.box 73 [I64 0,E1 ([]:List Int)])] 1092 rfl rfl rfl ⟨⟨_,rfl,.boxEq rfl rfl⟩,þ⟩ rfl (by exact⟨.ptr,.conv (.same rfl),þ⟩) (Jr fun e=>(JLh (.agg [I64 x.Bay,LT 1 I64 a]) (Gk Zz ø ø ø) ø (J7 (u:=.junk) (Hw (u:=.agg [I64 x.Bay,LT 1 I64 a]) (ds:=[I64 x.Bay,LT 1 I64 a]) jW ø ø ø ø ø ø ø ø) (G7 (e (Gt ?_)))))))))))
 exact⟨[.agg [I64 x.Bay,LT 1 I64 a]],[],þ,ø,⟨⟨_,⟨_,_,_,_,ø,ø,ø,.inl ⟨Zz,ø⟩⟩,.conv (.same ø)⟩,þ⟩,ø,congrArg (fun r:H9=>(.agg [I64 r.Bay,LT 1 I64 r.Rows]:AV)) (Nv h)⟩

def R0 (k:Int) (i:Int):Option Gz:=
 bnd (Hi k i) fun a=>
 some (Gz.mk a [])
theorem fN (k:Int) (i:Int) (r:Gz) (h:R0 k i=some r):Pure Ej 90 [I64 k,I64 i] (·=.agg [I64 r.Bay,E1 r.Rows]):=by
 unfold R0 at h
 refine Gy [.cell 4 73] Tryz.func90 ø ø (Jr fun b=>(JLh (.ptr 1094 0) (Y4 1094 [I64 0,E1 ([]:List Int)] [E0,.slice none 0 0] wD ⟨.inl ø,.inr ⟨_,ø,ø⟩,þ⟩ ø ø) ø (G7 (b (Jr fun c=>(JLm (I64 k) ø (JLm (I64 i) ø ?_)))))))
 obtain⟨a,d,h⟩:=Ge h
 refine JLh (I64 a) (Gq ø (Hy k i a d) Rs ⟨ø,ø,ø,ø,þ⟩) ø (JLh (.agg [I64 a,E1 ([]:List Int)]) (Jj (cs:=[I64 a,E1 ([]:List Int)]) [(0,1),(1,1)] [I64 0,E1 ([]:List Int)] [E0,.slice none 0 0] G4a wD ⟨.inl ø,.inr ⟨_,ø,ø⟩,þ⟩ ø ø) ø (J7 (u:=.junk) (Hw (u:=.agg [I64 a,E1 ([]:List Int)]) (ds:=[I64 a,E1 ([]:List Int)]) jW ø ø ø ø ø ø ø ø) (G7 (c (Gt (⟨[.agg [I64 a,E1 ([]:List Int)]],[],þ,ø,⟨⟨_,⟨_,_,_,_,ø,ø,ø,.inl ⟨Zz,ø⟩⟩,.conv (.same ø)⟩,þ⟩,ø,congrArg (fun r:Gz=>(.agg [I64 r.Bay,E1 r.Rows]:AV)) (Nv h)⟩))))))

def Yj (l:List Gz):Option (Ln H9):=
 chk ((l.length:Int)+12) fun k=>
 bnd (iM k) fun h=>
 need (decide (32*h≤281474976710656∧h≤maxLen)) <|
 each (fun i m (c:(List H9)) f=>
  bnd (Yx i) fun d=>
  need (decide ((c.length+[d].length)*32≤140737488355328∧c.length+[d].length≤maxLen)) <|
  f (c++[d]))
 (fun(c:(List H9))=>
  need (decide (12≤9223372036854775807)) <|
  upto (fun j (a:(List H9)) g=>
   bnd (R0 1 (j:Int)) fun b=>
   need (decide ((a.length+[(H9.mk b.Bay (b.Rows,([]:List Int)))].length)*32≤140737488355328∧a.length+[(H9.mk b.Bay (b.Rows,([]:List Int)))].length≤maxLen)) <|
   g (a++[(H9.mk b.Bay (b.Rows,([]:List Int)))]))
  (fun(a:(List H9))=>
   bnd (cN (l.length:Int) a.length) fun e=>
   some (a.take e,a.drop e)) (12:Int).toNat 0 c) l 0 []
abbrev Kg (a:Gz):List H9:=[(H9.mk a.Bay (a.Rows,([]:List Int)))]
abbrev Kh (a:H9):List AV:=[I64 a.Bay,LT 1 I64 a.Rows]
theorem mQ (l:List Gz) (r:(Ln H9)) (h:Yj l=some r):Pure Ej 36 [E6 l] (·=LT 2 H9.av r):=by
 unfold Yj at h
 refine Gy [.tmp 2] Tryz.func36 ø ø (Jr fun b8=>(JLh (E6 ([]:List Gz)) (Qu 2 ø ø) ø (G7 (b8 (Jr fun b9=>(JLm (E6 l) ø (JLl J6 ø ø ø fun d3=>?_)))))))
 obtain⟨v3,c0,h⟩:=Hd h
 refine JLh (I64 v3) (Hf c0 ø ø ø) ø ?_
 obtain⟨m4,c1,h⟩:=Ge h
 obtain⟨c2,h⟩:=J2 h
 refine JLh (OW 1028 2 H9.av ([]:List H9)) (jC 1028 ø ø ø ø J6 wH ø (Qe c1) c2) ø (JLm (OW 1028 2 H9.av ([]:List H9)) ø (G7 (b9 (Js fun c3=>Jr fun c4=>(JLm (I64 0) ø (G7 (c4 (Gi ?_))))))))
 obtain⟨c5,s,t,p,h⟩:=Jg h
 refine H7 (fun b (c:(List H9))=>each c5 s (List.drop b l) b c=some r) (fun b c=>[(0,E6 l),(3,OW 1028 2 H9.av c),(4,Ei b)]) (fun b c=>[(1028,.spare 73 2 c.length c.length)]) (fun b=>l.length - b) 0 [] h ⟨(.sm ø ø),⟨⟨_,ø,.same⟩,þ⟩,ø⟩ ?_
 clear h
 intro b c k d4 c6
 refine Js fun v=>Jr fun w=>(JLm (Ei b) ø (JLm (E6 l) ø (JLl J6 ø ø ø fun x=>(JLh (BL (decide ((b:Int) < (l.length:Int)))) (Ht ø ø ø) ø (G7 (w (Gm ø (fun hb=>?_) (fun hb=>?_))))))))
 ·
  have m:=Q1 hb
  obtain⟨i,d0,z,a0,h⟩:=J4 k m
  replace h:=Zt t h
  refine Gn (v (Js fun a1=>Gi (Jr fun a2=>(JLm (E6 l) ø (JLm (Ei b) ø (JLh (.dptr [I64 i.Bay,E1 i.Rows]) (Gs (f:=Gz.av) (xs:=l) (y:=i) ø ø ø J6 z ø) ø (JLh (.agg [I64 i.Bay,E1 i.Rows]) (Gk Zz ø ø ø) ø ?_)))))))
  obtain⟨g,a3,h⟩:=Ge h
  refine JLh (.agg (Kh g)) (Gq ø (oG i g a3) Gf6 ⟨ø,ø,þ⟩) ø (JLh (.ptr 1027 0) (Q3 1027 2 iH ø ø) ø (J7 (u:=.junk) (Hw (u:=.agg (Kh g)) (ds:=(Kh g)) jW ø ø ø ø ø ø ø ø) (G7 (a2 (fzQ [(0,E6 l),(3,OW 1028 2 H9.av c),(4,Ei b),(5,.dptr (Kh g))] [(1028,.spare 73 2 c.length c.length)] 1027 rfl rfl rfl ⟨⟨_,rfl,.same⟩,þ⟩ rfl (G2 ?_))))))
  refine JLm (OW 1028 2 H9.av c) ø (JLh (.agg (Kh g)) (Gk Zz ø ø ø) ø (JLh (LS 2 H9.av [g]) (Hn (xs:=[.agg (Kh g)]) ø ⟨ø,ø,þ⟩ J6 iH ø ø ø ø) ø ?_))
  obtain⟨a4,h⟩:=J2 h
  refine JLh (OW 1028 2 H9.av (c++[g])) (R3 (f:=H9.av) (xs:=c) (ys:=[g]) ø ø ø ø J6 wH a4 (fun _=>ø) (.inl ø) ø) ø (JLm (OW 1028 2 H9.av (c++[g])) ø (G7 (a1 (G2 (JLm (Ei b) ø (JLh (I64 ((b+1:Nat):Int)) (Hf (Hq m x) ø ø ø) ø (JLm (I64 ((b+1:Nat):Int)) ø (G7 (c6 _ _ (b+1) (c++[g]) (app1 a0 h) (by omega) ⟨(.sm ø ø),⟨⟨_,rfl,.same⟩,þ⟩,rfl⟩)))))))))
 ·
  have h:=app1 p (J5 k (Hg hb))
  refine H5 (c3 (Js fun a5=>Jr fun a6=>(JLm (I64 0) ø (G7 (a6 (Gi ?_))))))
  obtain⟨a7,h⟩:=J2 h
  obtain⟨c7,a8,a9,q,h⟩:=gT h
  refine H7 (fun d (a:(List H9))=>upto c7 a8 ((12:Int).toNat - d) d a=some r) (fun d a=>[(0,E6 l),(3,OW 1028 2 H9.av a),(6,Ei d)]) (fun d a=>[(1028,.spare 73 2 a.length a.length)]) (fun d=>(12:Int).toNat - d) 0 c h ⟨(.sm ø ø),⟨⟨_,ø,.same⟩,þ⟩,ø⟩ ?_
  clear h
  intro d a n d5 c8
  refine Js fun b0=>Jr fun b1=>(JLm (Ei d) ø (JLh (BL (decide ((d:Int) < 12))) (Ht ø ø ø) ø (G7 (b1 (Gm ø (fun hb=>?_) (fun hb=>?_))))))
  ·
   have o:=eJ hb
   obtain⟨d1,b2,h⟩:=eH n o
   replace h:=vM a9 h
   refine Gn (b0 (Js fun b3=>Gi (G2 (JLm (OW 1028 2 H9.av a) ø (JLm (Ei d) ø ?_)))))
   obtain⟨e,b4,h⟩:=Ge h
   refine JLh (.agg [I64 e.Bay,LT 1 I64 (e.Rows,([]:List Int))]) (Gv.cv (Cv.aggL (cs:=[I64 e.Bay,E1 e.Rows]) ⟨.same,Cv.of0 e.Rows,þ⟩) (Gq ø (fN 1 (d:Int) e b4) RG ⟨ø,ø,ø,ø,þ⟩)) ø (JLh (LS 2 H9.av ((Kg e))) (Hn (xs:=[.agg [I64 e.Bay,LT 1 I64 (e.Rows,([]:List Int))]]) ø ⟨ø,ø,þ⟩ J6 iH ø ø ø ø) ø ?_)
   obtain⟨b5,h⟩:=J2 h
   refine JLh (OW 1028 2 H9.av (a++(Kg e))) (R3 (f:=H9.av) (xs:=a) (ys:=(Kg e)) ø ø ø ø J6 wH b5 (fun _=>ø) (.inl ø) ø) ø (JLm (OW 1028 2 H9.av (a++(Kg e))) ø (G7 (b3 (G2 (JLm (Ei d) ø (JLh (I64 ((d+1:Nat):Int)) (Hf (Hq o (cI a7)) ø ø ø) ø (JLm (I64 ((d+1:Nat):Int)) ø (G7 (c8 _ _ (d+1) (a++(Kg e)) (app1 b2 h) (by omega) ⟨(.sm ø ø),⟨⟨_,rfl,.same⟩,þ⟩,rfl⟩)))))))))
  ·
   have h:=app1 q (eI n (Z2 hb))
   refine H5 (a5 (Jr fun b6=>(JLm (OW 1028 2 H9.av a) ø (JLm (E6 l) ø (JLl J6 ø ø ø fun d2=>?_)))))
   obtain⟨j,b7,h⟩:=Ge h
   refine JLh (LT 2 H9.av (a.take j,a.drop j)) (ZW (f:=H9.av) (xs:=a) ø ø ø J6 (Rw b7)) ø (JLm (LT 2 H9.av (a.take j,a.drop j)) ø (G7 (b6 (Gt (fin1 (fun r:(Ln H9)=>(LT 2 H9.av r:AV)) h)))))

def Rt (k:Int) (i:Int):Option Row:=
 bnd (Hi k i) fun a=>
 some (Row.mk 0 a 0 0 0)
abbrev Ki (a:Int):List AV:=[I64 0,I64 a,I64 0,I64 0,I64 0]
theorem gN (k:Int) (i:Int) (r:Row) (h:Rt k i=some r):Pure Ej 91 [I64 k,I64 i] (·=.agg (Row.cs r)):=by
 unfold Rt at h
 refine Gy [.cell 4 171] Tryz.func91 ø ø (Jr fun b=>(JLh (.ptr 1095 0) (Y4 1095 [I64 0,I64 0,I64 0,I64 0,I64 0] [E0,E0,E0,E0,E0] HB (zzQ ø) ø ø) ø (G7 (b (Jr fun c=>(JLm (I64 k) ø (JLm (I64 i) ø ?_)))))))
 obtain⟨a,d,h⟩:=Ge h
 refine JLh (I64 a) (Gq ø (Hy k i a d) Rs ⟨ø,ø,ø,ø,þ⟩) ø (JLh (.agg (Ki a)) (Jj (cs:=(Ki a)) [(0,1),(1,1),(2,1),(3,1),(4,1)] [I64 0,I64 0,I64 0,I64 0,I64 0] [E0,E0,E0,E0,E0] G0d HB (zzQ ø) ø ø) ø (J7 (u:=.junk) (Hw (u:=.agg (Ki a)) (ds:=(Ki a)) G83 ø ø ø ø ø ø ø ø) (G7 (c (Gt (⟨[.agg (Ki a)],[],þ,ø,⟨⟨_,⟨_,_,_,_,ø,ø,ø,.inl ⟨kF,ø⟩⟩,.conv (.same ø)⟩,þ⟩,ø,congrArg (fun r:Row=>(.agg (Row.cs r):AV)) (Nv h)⟩))))))

def Zb (l:List Row):Option (Ln Row):=
 chk ((l.length:Int)+12) fun g=>
 bnd (iM g) fun e=>
 need (decide (40*e≤281474976710656∧e≤maxLen)) <|
 need (decide ((([]:List Row).length+l.length)*40≤140737488355328∧([]:List Row).length+l.length≤maxLen)) <|
 need (decide (12≤9223372036854775807)) <|
 upto (fun f (a:(List Row)) d=>
  bnd (Rt 1 (f:Int)) fun b=>
  need (decide ((a.length+[b].length)*40≤140737488355328∧a.length+[b].length≤maxLen)) <|
  d (a++[b]))
 (fun(a:(List Row))=>
  bnd (cN (l.length:Int) a.length) fun c=>
  some (a.take c,a.drop c)) (12:Int).toNat 0 (([]:List Row)++l)
theorem pA (l:List Row) (r:(Ln Row)) (h:Zb l=some r):Pure Ej 37 [E8 l] (·=LT 5 Row.av r):=by
 unfold Zb at h
 refine Gy [.tmp 2] Tryz.func37 ø ø (Jr fun w=>(JLh (E8 ([]:List Row)) (Qu 5 ø ø) ø (G7 (w (Jr fun x=>(JLm (E8 l) ø (JLl Qc ø ø ø fun b0=>?_)))))))
 obtain⟨v3,y,h⟩:=Hd h
 refine JLh (I64 v3) (Hf y ø ø ø) ø ?_
 obtain⟨m4,z,h⟩:=Ge h
 obtain⟨a0,h⟩:=J2 h
 refine JLh (OW 1029 5 Row.av ([]:List Row)) (jC 1029 ø ø ø ø Qc tO ø (Qe z) a0) ø (JLm (OW 1029 5 Row.av ([]:List Row)) ø (G7 (x (Jr fun a1=>(JLm (OW 1029 5 Row.av ([]:List Row)) ø (JLm (E8 l) ø ?_))))))
 obtain⟨a2,h⟩:=J2 h
 refine JLh (OW 1029 5 Row.av (([]:List Row)++l)) (nC (f:=Row.av) (xs:=([]:List Row)) (ys:=l) ø ø ø ø Qc tO a2 (fun _=>ø) (.inl ø)) ø (JLm (OW 1029 5 Row.av (([]:List Row)++l)) ø (G7 (a1 (Js fun a3=>Jr fun a4=>(JLm (I64 0) ø (G7 (a4 (Gi ?_))))))))
 obtain⟨j,h⟩:=J2 h
 obtain⟨a5,k,m,i,h⟩:=gT h
 refine H7 (fun b (a:(List Row))=>upto a5 k ((12:Int).toNat - b) b a=some r) (fun b a=>[(0,E8 l),(3,OW 1029 5 Row.av a),(4,Ei b)]) (fun b a=>[(1029,.spare 171 5 a.length a.length)]) (fun b=>(12:Int).toNat - b) 0 (([]:List Row)++l) h ⟨(.sm ø ø),⟨⟨_,ø,.same⟩,þ⟩,ø⟩ ?_
 clear h
 intro b a e b1 a6
 refine Js fun n=>Jr fun o=>(JLm (Ei b) ø (JLh (BL (decide ((b:Int) < 12))) (Ht ø ø ø) ø (G7 (o (Gm ø (fun hb=>?_) (fun hb=>?_))))))
 ·
  have g:=eJ hb
  obtain⟨a8,p,h⟩:=eH e g
  replace h:=vM m h
  refine Gn (n (Js fun q=>Gi (G2 (JLm (OW 1029 5 Row.av a) ø (JLm (Ei b) ø ?_)))))
  obtain⟨c,s,h⟩:=Ge h
  refine JLh (.agg (Row.cs c)) (Gq ø (gN 1 (b:Int) c s) RF ⟨ø,ø,ø,ø,þ⟩) ø (JLh (E8 [c]) (Hn (xs:=[.agg (Row.cs c)]) ø ⟨ø,ø,þ⟩ Qc G46 ø ø ø ø) ø ?_)
  obtain⟨t,h⟩:=J2 h
  refine JLh (OW 1029 5 Row.av (a++[c])) (R3 (f:=Row.av) (xs:=a) (ys:=[c]) ø ø ø ø Qc tO t (fun _=>ø) (.inl ø) ø) ø (JLm (OW 1029 5 Row.av (a++[c])) ø (G7 (q (G2 (JLm (Ei b) ø (JLh (I64 ((b+1:Nat):Int)) (Hf (Hq g (cI j)) ø ø ø) ø (JLm (I64 ((b+1:Nat):Int)) ø (G7 (a6 _ _ (b+1) (a++[c]) (app1 p h) (by omega) ⟨(.sm ø ø),⟨⟨_,rfl,.same⟩,þ⟩,rfl⟩)))))))))
 ·
  have h:=app1 i (eI e (Z2 hb))
  refine H5 (a3 (Jr fun u=>(JLm (OW 1029 5 Row.av a) ø (JLm (E8 l) ø (JLl Qc ø ø ø fun a9=>?_)))))
  obtain⟨d,v,h⟩:=Ge h
  refine JLh (LT 5 Row.av (a.take d,a.drop d)) (ZW (f:=Row.av) (xs:=a) ø ø ø Qc (Rw v)) ø (JLm (LT 5 Row.av (a.take d,a.drop d)) ø (G7 (u (Gt (fin1 (fun r:(Ln Row)=>(LT 5 Row.av r:AV)) h)))))

def Qz (k:Int) (i:Int):Option Frame:=
 bnd (Hi k i) fun a=>
 some (Frame.mk a 0 0 0 0)
abbrev Kj (a:Int):List AV:=[I64 a,I64 0,I64 0,I64 0,I64 0]
theorem fM (k:Int) (i:Int) (r:Frame) (h:Qz k i=some r):Pure Ej 92 [I64 k,I64 i] (·=.agg (Frame.cs r)):=by
 unfold Qz at h
 refine Gy [.cell 4 174] Tryz.func92 ø ø (Jr fun b=>(JLh (.ptr 1096 0) (Y4 1096 [I64 0,I64 0,I64 0,I64 0,I64 0] [E0,E0,E0,E0,E0] HA (zzQ ø) ø ø) ø (G7 (b (Jr fun c=>(JLm (I64 k) ø (JLm (I64 i) ø ?_)))))))
 obtain⟨a,d,h⟩:=Ge h
 refine JLh (I64 a) (Gq ø (Hy k i a d) Rs ⟨ø,ø,ø,ø,þ⟩) ø (JLh (.agg (Kj a)) (Jj (cs:=(Kj a)) [(0,1),(1,1),(2,1),(3,1),(4,1)] [I64 0,I64 0,I64 0,I64 0,I64 0] [E0,E0,E0,E0,E0] G0c HA (zzQ ø) ø ø) ø (J7 (u:=.junk) (Hw (u:=.agg (Kj a)) (ds:=(Kj a)) G82 ø ø ø ø ø ø ø ø) (G7 (c (Gt (⟨[.agg (Kj a)],[],þ,ø,⟨⟨_,⟨_,_,_,_,ø,ø,ø,.inl ⟨kE,ø⟩⟩,.conv (.same ø)⟩,þ⟩,ø,congrArg (fun r:Frame=>(.agg (Frame.cs r):AV)) (Nv h)⟩))))))

def Yi (l:List Frame):Option (Ln Frame):=
 chk ((l.length:Int)+12) fun g=>
 bnd (iM g) fun e=>
 need (decide (40*e≤281474976710656∧e≤maxLen)) <|
 need (decide ((([]:List Frame).length+l.length)*40≤140737488355328∧([]:List Frame).length+l.length≤maxLen)) <|
 need (decide (12≤9223372036854775807)) <|
 upto (fun f (a:(List Frame)) d=>
  bnd (Qz 1 (f:Int)) fun b=>
  need (decide ((a.length+[b].length)*40≤140737488355328∧a.length+[b].length≤maxLen)) <|
  d (a++[b]))
 (fun(a:(List Frame))=>
  bnd (cN (l.length:Int) a.length) fun c=>
  some (a.take c,a.drop c)) (12:Int).toNat 0 (([]:List Frame)++l)
theorem mP (l:List Frame) (r:(Ln Frame)) (h:Yi l=some r):Pure Ej 38 [E7 l] (·=LT 5 Frame.av r):=by
 unfold Yi at h
 refine Gy [.tmp 2] Tryz.func38 ø ø (Jr fun w=>(JLh (E7 ([]:List Frame)) (Qu 5 ø ø) ø (G7 (w (Jr fun x=>(JLm (E7 l) ø (JLl Qb ø ø ø fun b0=>?_)))))))
 obtain⟨v3,y,h⟩:=Hd h
 refine JLh (I64 v3) (Hf y ø ø ø) ø ?_
 obtain⟨m4,z,h⟩:=Ge h
 obtain⟨a0,h⟩:=J2 h
 refine JLh (OW 1030 5 Frame.av ([]:List Frame)) (jC 1030 ø ø ø ø Qb tN ø (Qe z) a0) ø (JLm (OW 1030 5 Frame.av ([]:List Frame)) ø (G7 (x (Jr fun a1=>(JLm (OW 1030 5 Frame.av ([]:List Frame)) ø (JLm (E7 l) ø ?_))))))
 obtain⟨a2,h⟩:=J2 h
 refine JLh (OW 1030 5 Frame.av (([]:List Frame)++l)) (nC (f:=Frame.av) (xs:=([]:List Frame)) (ys:=l) ø ø ø ø Qb tN a2 (fun _=>ø) (.inl ø)) ø (JLm (OW 1030 5 Frame.av (([]:List Frame)++l)) ø (G7 (a1 (Js fun a3=>Jr fun a4=>(JLm (I64 0) ø (G7 (a4 (Gi ?_))))))))
 obtain⟨j,h⟩:=J2 h
 obtain⟨a5,k,m,i,h⟩:=gT h
 refine H7 (fun b (a:(List Frame))=>upto a5 k ((12:Int).toNat - b) b a=some r) (fun b a=>[(0,E7 l),(3,OW 1030 5 Frame.av a),(4,Ei b)]) (fun b a=>[(1030,.spare 174 5 a.length a.length)]) (fun b=>(12:Int).toNat - b) 0 (([]:List Frame)++l) h ⟨(.sm ø ø),⟨⟨_,ø,.same⟩,þ⟩,ø⟩ ?_
 clear h
 intro b a e b1 a6
 refine Js fun n=>Jr fun o=>(JLm (Ei b) ø (JLh (BL (decide ((b:Int) < 12))) (Ht ø ø ø) ø (G7 (o (Gm ø (fun hb=>?_) (fun hb=>?_))))))
 ·
  have g:=eJ hb
  obtain⟨a8,p,h⟩:=eH e g
  replace h:=vM m h
  refine Gn (n (Js fun q=>Gi (G2 (JLm (OW 1030 5 Frame.av a) ø (JLm (Ei b) ø ?_)))))
  obtain⟨c,s,h⟩:=Ge h
  refine JLh (.agg (Frame.cs c)) (Gq ø (fM 1 (b:Int) c s) RE ⟨ø,ø,ø,ø,þ⟩) ø (JLh (E7 [c]) (Hn (xs:=[.agg (Frame.cs c)]) ø ⟨ø,ø,þ⟩ Qb G45 ø ø ø ø) ø ?_)
  obtain⟨t,h⟩:=J2 h
  refine JLh (OW 1030 5 Frame.av (a++[c])) (R3 (f:=Frame.av) (xs:=a) (ys:=[c]) ø ø ø ø Qb tN t (fun _=>ø) (.inl ø) ø) ø (JLm (OW 1030 5 Frame.av (a++[c])) ø (G7 (q (G2 (JLm (Ei b) ø (JLh (I64 ((b+1:Nat):Int)) (Hf (Hq g (cI j)) ø ø ø) ø (JLm (I64 ((b+1:Nat):Int)) ø (G7 (a6 _ _ (b+1) (a++[c]) (app1 p h) (by omega) ⟨(.sm ø ø),⟨⟨_,rfl,.same⟩,þ⟩,rfl⟩)))))))))
 ·
  have h:=app1 i (eI e (Z2 hb))
  refine H5 (a3 (Jr fun u=>(JLm (OW 1030 5 Frame.av a) ø (JLm (E7 l) ø (JLl Qb ø ø ø fun a9=>?_)))))
  obtain⟨d,v,h⟩:=Ge h
  refine JLh (LT 5 Frame.av (a.take d,a.drop d)) (ZW (f:=Frame.av) (xs:=a) ø ø ø Qb (Rw v)) ø (JLm (LT 5 Frame.av (a.take d,a.drop d)) ø (G7 (u (Gt (fin1 (fun r:(Ln Frame)=>(LT 5 Frame.av r:AV)) h)))))

def Z9 (x:He):Option Hk:=
 bnd (Rb x.Steps) fun a=>
 some (Hk.mk x.Kilos x.X x.Y x.Z x.Surface a)
abbrev Kk (x:He) (a:Ln Int):List AV:=[I64 x.Kilos,I64 x.X,I64 x.Y,I64 x.Z,I64 x.Surface,LT 1 I64 a]
abbrev Km:List AV:=[I64 0,I64 0,I64 0,I64 0,I64 0,E1 ([]:List Int)]
theorem oX (x:He) (r:Hk) (h:Z9 x=some r):Pure Ej 93 [.agg (He.cs x)] (·=.agg (Hk.cs r)):=by
 unfold Z9 at h
 refine Gy [.cell 2 177] Tryz.func93 ø ø (Jr fun b=>(JLh (.ptr 1097 0) (Qr (cs:=[I64 x.Kilos,I64 x.X,I64 x.Y,I64 x.Z,I64 x.Surface,E1 x.Steps]) 1097 ø ø ø ø ø) ø (JLh (.ptr 1098 0) (Y4 1098 Km [E0,E0,E0,E0,E0,.slice none 0 0] tE ⟨.inl ø,.inl ø,.inl ø,.inl ø,.inl ø,.inr ⟨_,ø,ø⟩,þ⟩ ø ø) ø (G7 (b (Jr fun c=>(JLh (.ptr 1097 5) (Qn dJ ø ø) ø (JLh (E1 x.Steps) (bY Hv ø ø ø ø) ø ?_))))))))
 obtain⟨a,d,h⟩:=Ge h
 refine JLh (LT 1 I64 a) (Gq ø (cG x.Steps a d) wI ⟨ø,ø,þ⟩) ø (JLh (.ptr 1097 5) (Qn dJ ø ø) ø (J7 (u:=.junk) (Hw (u:=LT 1 I64 a) (ds:=(Kk x a)) nH ø ø ø ø ø ø ø ø) (G7 (c (H1 [(1,.dptr (Kk x a)),(2,.ptr 1098 0)] [(1098,.box 177 Km)] 1097 rfl rfl rfl ⟨⟨_,rfl,.boxEq rfl rfl⟩,þ⟩ rfl (by exact⟨.ptr,.conv (.same rfl),þ⟩) ?_)))))
 refine Jr fun e=>(JLh (.agg (Kk x a)) (Gk aY ø ø ø) ø (J7 (u:=.junk) (Hw (u:=.agg (Kk x a)) (ds:=(Kk x a)) tF ø ø ø ø ø ø ø ø) (G7 (e (Gt (⟨[.agg (Kk x a)],[],þ,ø,⟨⟨_,⟨_,_,_,_,ø,ø,ø,.inl ⟨aY,ø⟩⟩,.conv (.same ø)⟩,þ⟩,ø,congrArg (fun r:Hk=>(.agg (Hk.cs r):AV)) (Nv h)⟩))))))

def Ra (k:Int) (i:Int):Option He:=
 bnd (Hi k i) fun a=>
 some (He.mk a 0 0 0 0 [])
abbrev Kn (a:Int):List AV:=[I64 a,I64 0,I64 0,I64 0,I64 0,E1 ([]:List Int)]
theorem gD (k:Int) (i:Int) (r:He) (h:Ra k i=some r):Pure Ej 94 [I64 k,I64 i] (·=.agg (He.cs r)):=by
 unfold Ra at h
 refine Gy [.cell 4 177] Tryz.func94 ø ø (Jr fun b=>(JLh (.ptr 1099 0) (Y4 1099 Km [E0,E0,E0,E0,E0,.slice none 0 0] tE ⟨.inl ø,.inl ø,.inl ø,.inl ø,.inl ø,.inr ⟨_,ø,ø⟩,þ⟩ ø ø) ø (G7 (b (Jr fun c=>(JLm (I64 k) ø (JLm (I64 i) ø ?_)))))))
 obtain⟨a,d,h⟩:=Ge h
 refine JLh (I64 a) (Gq ø (Hy k i a d) Rs ⟨ø,ø,ø,ø,þ⟩) ø (JLh (.agg (Kn a)) (Jj (cs:=(Kn a)) [(0,1),(1,1),(2,1),(3,1),(4,1),(5,1)] Km [E0,E0,E0,E0,E0,.slice none 0 0] G0b tE ⟨.inl ø,.inl ø,.inl ø,.inl ø,.inl ø,.inr ⟨_,ø,ø⟩,þ⟩ ø ø) ø (J7 (u:=.junk) (Hw (u:=.agg (Kn a)) (ds:=(Kn a)) tF ø ø ø ø ø ø ø ø) (G7 (c (Gt ?_)))))
 exact⟨[.agg (Kn a)],[],þ,ø,⟨⟨_,⟨_,_,_,_,ø,ø,ø,.inl ⟨aY,ø⟩⟩,.conv (.same ø)⟩,þ⟩,ø,congrArg (fun r:He=>(.agg (He.cs r):AV)) (Nv h)⟩

def Yw (l:List He):Option (Ln Hk):=
 chk ((l.length:Int)+12) fun k=>
 bnd (iM k) fun h=>
 need (decide (64*h≤281474976710656∧h≤maxLen)) <|
 each (fun i m (c:(List Hk)) f=>
  bnd (Z9 i) fun d=>
  need (decide ((c.length+[d].length)*64≤140737488355328∧c.length+[d].length≤maxLen)) <|
  f (c++[d]))
 (fun(c:(List Hk))=>
  need (decide (12≤9223372036854775807)) <|
  upto (fun j (b:(List Hk)) g=>
   bnd (Ra 1 (j:Int)) fun a=>
   need (decide ((b.length+[(Hk.mk a.Kilos a.X a.Y a.Z a.Surface (a.Steps,([]:List Int)))].length)*64≤140737488355328∧b.length+[(Hk.mk a.Kilos a.X a.Y a.Z a.Surface (a.Steps,([]:List Int)))].length≤maxLen)) <|
   g (b++[(Hk.mk a.Kilos a.X a.Y a.Z a.Surface (a.Steps,([]:List Int)))]))
  (fun(b:(List Hk))=>
   bnd (cN (l.length:Int) b.length) fun e=>
   some (b.take e,b.drop e)) (12:Int).toNat 0 c) l 0 []
abbrev Ko (a:He):List Hk:=[(Hk.mk a.Kilos a.X a.Y a.Z a.Surface (a.Steps,([]:List Int)))]
abbrev Kp (a:He):List AV:=[I64 a.Kilos,I64 a.X,I64 a.Y,I64 a.Z,I64 a.Surface,LT 1 I64 (a.Steps,([]:List Int))]
theorem oF (l:List He) (r:(Ln Hk)) (h:Yw l=some r):Pure Ej 39 [E9 l] (·=LT 6 Hk.av r):=by
 unfold Yw at h
 refine Gy [.tmp 2] Tryz.func39 ø ø (Jr fun b8=>(JLh (E9 ([]:List He)) (Qu 6 ø ø) ø (G7 (b8 (Jr fun b9=>(JLm (E9 l) ø (JLl Jy ø ø ø fun d3=>?_)))))))
 obtain⟨v3,c0,h⟩:=Hd h
 refine JLh (I64 v3) (Hf c0 ø ø ø) ø ?_
 obtain⟨m4,c1,h⟩:=Ge h
 obtain⟨c2,h⟩:=J2 h
 refine JLh (OW 1032 6 Hk.av ([]:List Hk)) (jC 1032 ø ø ø ø Jy tM ø (Qe c1) c2) ø (JLm (OW 1032 6 Hk.av ([]:List Hk)) ø (G7 (b9 (Js fun c3=>Jr fun c4=>(JLm (I64 0) ø (G7 (c4 (Gi ?_))))))))
 obtain⟨c5,s,t,p,h⟩:=Jg h
 refine H7 (fun c (d:(List Hk))=>each c5 s (List.drop c l) c d=some r) (fun c d=>[(0,E9 l),(3,OW 1032 6 Hk.av d),(4,Ei c)]) (fun c d=>[(1032,.spare 177 6 d.length d.length)]) (fun c=>l.length - c) 0 [] h ⟨(.sm ø ø),⟨⟨_,ø,.same⟩,þ⟩,ø⟩ ?_
 clear h
 intro c d k d4 c6
 refine Js fun v=>Jr fun w=>(JLm (Ei c) ø (JLm (E9 l) ø (JLl Jy ø ø ø fun x=>(JLh (BL (decide ((c:Int) < (l.length:Int)))) (Ht ø ø ø) ø (G7 (w (Gm ø (fun hb=>?_) (fun hb=>?_))))))))
 ·
  have m:=Q1 hb
  obtain⟨i,d0,z,a0,h⟩:=J4 k m
  replace h:=Zt t h
  refine Gn (v (Js fun a1=>Gi (Jr fun a2=>(JLm (E9 l) ø (JLm (Ei c) ø (JLh (Eh i) (Gs (f:=He.av) (xs:=l) (y:=i) ø ø ø Jy z ø) ø (JLh (.agg (He.cs i)) (Gk aY ø ø ø) ø ?_)))))))
  obtain⟨b,a3,h⟩:=Ge h
  refine JLh (.agg (Hk.cs b)) (Gq ø (oX i b a3) Gf5 ⟨ø,ø,þ⟩) ø (JLh (.ptr 1031 0) (Q3 1031 6 rH ø ø) ø (J7 (u:=.junk) (Hw (u:=.agg (Hk.cs b)) (ds:=[I64 b.Kilos,I64 b.X,I64 b.Y,I64 b.Z,I64 b.Surface,LT 1 I64 b.Steps]) tF ø ø ø ø ø ø ø ø) (G7 (a2 (fzQ [(0,E9 l),(3,OW 1032 6 Hk.av d),(4,Ei c),(5,.dptr (Hk.cs b))] [(1032,.spare 177 6 d.length d.length)] 1031 rfl rfl rfl ⟨⟨_,rfl,.same⟩,þ⟩ rfl (G2 (JLm (OW 1032 6 Hk.av d) ø (JLh (.agg (Hk.cs b)) (Gk aY ø ø ø) ø (JLh (LS 6 Hk.av [b]) (Hn (xs:=[.agg (Hk.cs b)]) ø ⟨ø,ø,þ⟩ Jy rH ø ø ø ø) ø ?_)))))))))
  obtain⟨a4,h⟩:=J2 h
  refine JLh (OW 1032 6 Hk.av (d++[b])) (R3 (f:=Hk.av) (xs:=d) (ys:=[b]) ø ø ø ø Jy tM a4 (fun _=>ø) (.inl ø) ø) ø (JLm (OW 1032 6 Hk.av (d++[b])) ø (G7 (a1 (G2 (JLm (Ei c) ø (JLh (I64 ((c+1:Nat):Int)) (Hf (Hq m x) ø ø ø) ø (JLm (I64 ((c+1:Nat):Int)) ø (G7 (c6 _ _ (c+1) (d++[b]) (app1 a0 h) (by omega) ⟨(.sm ø ø),⟨⟨_,rfl,.same⟩,þ⟩,rfl⟩)))))))))
 ·
  have h:=app1 p (J5 k (Hg hb))
  refine H5 (c3 (Js fun a5=>Jr fun a6=>(JLm (I64 0) ø (G7 (a6 (Gi ?_))))))
  obtain⟨a7,h⟩:=J2 h
  obtain⟨c7,a8,a9,q,h⟩:=gT h
  refine H7 (fun e (a:(List Hk))=>upto c7 a8 ((12:Int).toNat - e) e a=some r) (fun e a=>[(0,E9 l),(3,OW 1032 6 Hk.av a),(6,Ei e)]) (fun e a=>[(1032,.spare 177 6 a.length a.length)]) (fun e=>(12:Int).toNat - e) 0 d h ⟨(.sm ø ø),⟨⟨_,ø,.same⟩,þ⟩,ø⟩ ?_
  clear h
  intro e a n d5 c8
  refine Js fun b0=>Jr fun b1=>(JLm (Ei e) ø (JLh (BL (decide ((e:Int) < 12))) (Ht ø ø ø) ø (G7 (b1 (Gm ø (fun hb=>?_) (fun hb=>?_))))))
  ·
   have o:=eJ hb
   obtain⟨d1,b2,h⟩:=eH n o
   replace h:=vM a9 h
   refine Gn (b0 (Js fun b3=>Gi (G2 (JLm (OW 1032 6 Hk.av a) ø (JLm (Ei e) ø ?_)))))
   obtain⟨g,b4,h⟩:=Ge h
   refine JLh (.agg (Kp g)) (Gv.cv (Cv.aggL (cs:=(He.cs g)) ⟨.same,.same,.same,.same,.same,Cv.of0 g.Steps,þ⟩) (Gq ø (gD 1 (e:Int) g b4) RD ⟨ø,ø,ø,ø,þ⟩)) ø (JLh (LS 6 Hk.av ((Ko g))) (Hn (xs:=[.agg (Kp g)]) ø ⟨ø,ø,þ⟩ Jy rH ø ø ø ø) ø ?_)
   obtain⟨b5,h⟩:=J2 h
   refine JLh (OW 1032 6 Hk.av (a++(Ko g))) (R3 (f:=Hk.av) (xs:=a) (ys:=(Ko g)) ø ø ø ø Jy tM b5 (fun _=>ø) (.inl ø) ø) ø (JLm (OW 1032 6 Hk.av (a++(Ko g))) ø (G7 (b3 (G2 (JLm (Ei e) ø (JLh (I64 ((e+1:Nat):Int)) (Hf (Hq o (cI a7)) ø ø ø) ø (JLm (I64 ((e+1:Nat):Int)) ø (G7 (c8 _ _ (e+1) (a++(Ko g)) (app1 b2 h) (by omega) ⟨(.sm ø ø),⟨⟨_,rfl,.same⟩,þ⟩,rfl⟩)))))))))
  ·
   have h:=app1 q (eI n (Z2 hb))
   refine H5 (a5 (Jr fun b6=>(JLm (OW 1032 6 Hk.av a) ø (JLm (E9 l) ø (JLl Jy ø ø ø fun d2=>?_)))))
   obtain⟨j,b7,h⟩:=Ge h
   refine JLh (LT 6 Hk.av (a.take j,a.drop j)) (ZW (f:=Hk.av) (xs:=a) ø ø ø Jy (Rw b7)) ø (JLm (LT 6 Hk.av (a.take j,a.drop j)) ø (G7 (b6 (Gt (fin1 (fun r:(Ln Hk)=>(LT 6 Hk.av r:AV)) h)))))

def Za (x:H2):Option Yq:=
 bnd (Yc x.Columns) fun b=>
 bnd (Yj x.Covers) fun c=>
 bnd (Zb x.Rows) fun d=>
 bnd (Yi x.Frames) fun e=>
 bnd (Yw x.Tanks) fun a=>
 some (Yq.mk b c x.Light d e a x.Gp)
abbrev Kq:List AV:=[E5 ([]:List Gc),E6 ([]:List Gz),I64 0,I64 0,I64 0,I64 0,E8 ([]:List Row),E7 ([]:List Frame),E9 ([]:List He),I64 0,I64 0,I64 0,I64 0]
theorem oY (x:H2) (r:Yq) (h:Za x=some r):Pure Ej 8 [.agg (H2.cs x)] (·=.agg (Yq.cs r)):=by
 unfold Za at h
 refine Gy [.cell 2 32] Tryz.func8 ø ø ?_
 refine Jr fun j=>(JLh (.ptr 1003 0) (Qr (cs:=(H2.cs x)) 1003 ø ø ø ø ø) ø (JLh (.ptr 1004 0) (Y4 1004 Kq [.slice none 0 0,.slice none 0 0,E0,E0,E0,E0,.slice none 0 0,.slice none 0 0,.slice none 0 0,E0,E0,E0,E0] nE ⟨.inr ⟨_,ø,ø⟩,.inr ⟨_,ø,ø⟩,.inl ø,.inl ø,.inl ø,.inl ø,.inr ⟨_,ø,ø⟩,.inr ⟨_,ø,ø⟩,.inr ⟨_,ø,ø⟩,.inl ø,.inl ø,.inl ø,.inl ø,þ⟩ ø ø) ø (G7 (j ?_))))
 refine Jr fun k=>(JLh (.ptr 1003 0) (Qn J1 ø ø) ø (JLh (E5 x.Columns) (bY Jd ø ø ø ø) ø ?_))
 obtain⟨b,l,h⟩:=Ge h
 refine JLh (LT 12 Gu.av b) (Gq ø (lN x.Columns b l) H0e ⟨ø,ø,þ⟩) ø (JLh (.ptr 1003 0) (Qn J1 ø ø) ø (J7 (u:=.junk) (Hw (u:=LT 12 Gu.av b) (ds:=[LT 12 Gu.av b,E6 x.Covers,I64 x.Light.Kilos,I64 x.Light.X,I64 x.Light.Y,I64 x.Light.Z,E8 x.Rows,E7 x.Frames,E9 x.Tanks,I64 x.Gp.Tolerance,I64 x.Gp.Trim,I64 x.Gp.List_,I64 x.Gp.Stability]) QZ ø ø ø ø ø ø ø ø) (G7 (k (Jr fun m=>(JLh (.ptr 1003 1) (Qn Qv ø ø) ø (JLh (E6 x.Covers) (bY Y2 ø ø ø ø) ø ?_)))))))
 obtain⟨c,n,h⟩:=Ge h
 refine JLh (LT 2 H9.av c) (Gq ø (mQ x.Covers c n) H0d ⟨ø,ø,þ⟩) ø (JLh (.ptr 1003 1) (Qn Qv ø ø) ø (J7 (u:=.junk) (Hw (u:=LT 2 H9.av c) (ds:=[LT 12 Gu.av b,LT 2 H9.av c,I64 x.Light.Kilos,I64 x.Light.X,I64 x.Light.Y,I64 x.Light.Z,E8 x.Rows,E7 x.Frames,E9 x.Tanks,I64 x.Gp.Tolerance,I64 x.Gp.Trim,I64 x.Gp.List_,I64 x.Gp.Stability]) Gf4 ø ø ø ø ø ø ø ø) (G7 (m (Jr fun o=>(JLh (.ptr 1003 6) (Qn eS ø ø) ø (JLh (E8 x.Rows) (bY jG ø ø ø ø) ø ?_)))))))
 obtain⟨d,p,h⟩:=Ge h
 refine JLh (LT 5 Row.av d) (Gq ø (pA x.Rows d p) H0c ⟨ø,ø,þ⟩) ø (JLh (.ptr 1003 6) (Qn eS ø ø) ø (J7 (u:=.junk) (Hw (u:=LT 5 Row.av d) (ds:=[LT 12 Gu.av b,LT 2 H9.av c,I64 x.Light.Kilos,I64 x.Light.X,I64 x.Light.Y,I64 x.Light.Z,LT 5 Row.av d,E7 x.Frames,E9 x.Tanks,I64 x.Gp.Tolerance,I64 x.Gp.Trim,I64 x.Gp.List_,I64 x.Gp.Stability]) Gf3 ø ø ø ø ø ø ø ø) (G7 (o (Jr fun q=>(JLh (.ptr 1003 7) (Qn eR ø ø) ø (JLh (E7 x.Frames) (bY jF ø ø ø ø) ø ?_)))))))
 obtain⟨e,s,h⟩:=Ge h
 refine JLh (LT 5 Frame.av e) (Gq ø (mP x.Frames e s) H0b ⟨ø,ø,þ⟩) ø (JLh (.ptr 1003 7) (Qn eR ø ø) ø (J7 (u:=.junk) (Hw (u:=LT 5 Frame.av e) (ds:=[LT 12 Gu.av b,LT 2 H9.av c,I64 x.Light.Kilos,I64 x.Light.X,I64 x.Light.Y,I64 x.Light.Z,LT 5 Row.av d,LT 5 Frame.av e,E9 x.Tanks,I64 x.Gp.Tolerance,I64 x.Gp.Trim,I64 x.Gp.List_,I64 x.Gp.Stability]) Gf2 ø ø ø ø ø ø ø ø) (G7 (q (Jr fun f=>(JLh (.ptr 1003 8) (Qn eQ ø ø) ø (JLh (E9 x.Tanks) (bY jE ø ø ø ø) ø ?_)))))))
 obtain⟨a,g,h⟩:=Ge h
 refine JLh (LT 6 Hk.av a) (Gq ø (oF x.Tanks a g) H0a ⟨ø,ø,þ⟩) ø (JLh (.ptr 1003 8) (Qn eQ ø ø) ø (J7 (u:=.junk) (Hw (u:=LT 6 Hk.av a) (ds:=[LT 12 Gu.av b,LT 2 H9.av c,I64 x.Light.Kilos,I64 x.Light.X,I64 x.Light.Y,I64 x.Light.Z,LT 5 Row.av d,LT 5 Frame.av e,LT 6 Hk.av a,I64 x.Gp.Tolerance,I64 x.Gp.Trim,I64 x.Gp.List_,I64 x.Gp.Stability]) Gf1 ø ø ø ø ø ø ø ø) (G7 (f ?_))))
 refine H1 [(1,.dptr [LT 12 Gu.av b,LT 2 H9.av c,I64 x.Light.Kilos,I64 x.Light.X,I64 x.Light.Y,I64 x.Light.Z,LT 5 Row.av d,LT 5 Frame.av e,LT 6 Hk.av a,I64 x.Gp.Tolerance,I64 x.Gp.Trim,I64 x.Gp.List_,I64 x.Gp.Stability]),(2,.ptr 1004 0)] [(1004,.box 32 Kq)] 1003 rfl rfl rfl ⟨⟨_,rfl,.boxEq rfl rfl⟩,þ⟩ rfl (by exact⟨.ptr,.conv (.same rfl),þ⟩) ?_
 refine Jr fun i=>(JLh (.agg [LT 12 Gu.av b,LT 2 H9.av c,I64 x.Light.Kilos,I64 x.Light.X,I64 x.Light.Y,I64 x.Light.Z,LT 5 Row.av d,LT 5 Frame.av e,LT 6 Hk.av a,I64 x.Gp.Tolerance,I64 x.Gp.Trim,I64 x.Gp.List_,I64 x.Gp.Stability]) (Gk Qa ø ø ø) ø (J7 (u:=.junk) (Hw (u:=.agg [LT 12 Gu.av b,LT 2 H9.av c,I64 x.Light.Kilos,I64 x.Light.X,I64 x.Light.Y,I64 x.Light.Z,LT 5 Row.av d,LT 5 Frame.av e,LT 6 Hk.av a,I64 x.Gp.Tolerance,I64 x.Gp.Trim,I64 x.Gp.List_,I64 x.Gp.Stability]) (ds:=[LT 12 Gu.av b,LT 2 H9.av c,I64 x.Light.Kilos,I64 x.Light.X,I64 x.Light.Y,I64 x.Light.Z,LT 5 Row.av d,LT 5 Frame.av e,LT 6 Hk.av a,I64 x.Gp.Tolerance,I64 x.Gp.Trim,I64 x.Gp.List_,I64 x.Gp.Stability]) rK ø ø ø ø ø ø ø ø) (G7 (i ?_))))
 refine Gt (⟨[.agg [LT 12 Gu.av b,LT 2 H9.av c,I64 x.Light.Kilos,I64 x.Light.X,I64 x.Light.Y,I64 x.Light.Z,LT 5 Row.av d,LT 5 Frame.av e,LT 6 Hk.av a,I64 x.Gp.Tolerance,I64 x.Gp.Trim,I64 x.Gp.List_,I64 x.Gp.Stability]],[],þ,ø,⟨⟨_,⟨_,_,_,_,ø,ø,ø,.inl ⟨Qa,ø⟩⟩,.conv (.same ø)⟩,þ⟩,ø,congrArg (fun r:Yq=>(.agg (Yq.cs r):AV)) (Nv h)⟩)

def Qo (a:List Int) (b:List Int):Option Bool:=
 bif decide ((a.length:Int)≠(b.length:Int)) then
 (some false)
 else
 (each (fun d e (f:Unit) c=>
   Jx b (e:Int) fun g=>
   bif decide (d≠g) then
   (some false)
   else
   (c ()))
  (fun(f:Unit)=>
   some true) a 0 ())
theorem Zv (a:List Int) (b:List Int) (r:Bool) (h:Qo a b=some r):Pure Ej 15 [E1 a,E1 b] (·=BL r):=by
 unfold Qo at h
 refine Gy [.tmp 4] Tryz.func15 ø ø (Jr fun a0=>(JLm (BL false) ø (G7 (a0 (Js fun a1=>Jr fun a2=>(JLm (E1 a) ø (JLl Gr ø ø ø fun a9=>(JLm (E1 b) ø (JLl Gr ø ø ø fun b0=>(JLh (BL (decide ((a.length:Int)≠(b.length:Int)))) (dX ø ø ø) ø (G7 (a2 (JCc ø h (fun h hb=>?_) (fun h hb=>?_))))))))))))))
 ·
  refine Jr fun a3=>(JLm (BL false) ø (G7 (a3 (Gt (fin1 BL h)))))
 ·
  refine Gn (a1 (Js fun a4=>Jr fun a5=>(JLm (I64 0) ø (G7 (a5 (Gi ?_))))))
  obtain⟨a6,l,m,k,h⟩:=Jg h
  refine H7 (fun c (d:Unit)=>each a6 l (List.drop c a) c d=some r) (fun c d=>[(0,E1 a),(1,E1 b),(5,Ei c)]) (fun c d=>[]) (fun c=>a.length - c) 0 () h ⟨(.sm ø ø),þ,ø⟩ ?_
  clear h
  intro c d i b1 a7
  refine Js fun n=>Jr fun o=>(JLm (Ei c) ø (JLm (E1 a) ø (JLl Gr ø ø ø fun p=>(JLh (BL (decide ((c:Int) < (a.length:Int)))) (Ht ø ø ø) ø (G7 (o (Gm ø (fun hb=>?_) (fun hb=>?_))))))))
  ·
   have j:=Q1 hb
   obtain⟨e,a8,q,s,h⟩:=J4 i j
   replace h:=Zt m h
   refine Gn (n (Js fun t=>Gi (Js fun u=>?_)))
   obtain⟨b2,g,v,w,h⟩:=Q8 h
   refine JC_d0 J9 (by kernel_rfl) (Dq (E1 a) (G3 ø ø) ø (Dq (Ei c) (G3 ø ø) ø (Dq (.dptr [I64 e]) (Gs (f:=I64) (xs:=a) (y:=e) ø ø ø Gr q ø) ø (Dq (I64 e) (Gj Ga ø ø ø) ø (Dq (E1 b) (G3 ø ø) ø (Dq (Ei c) (G3 ø ø) ø (Dq (.dptr [I64 g]) (Gs (f:=I64) (xs:=b) (y:=g) ø ø ø Gr w v) ø (Dq (I64 g) (Gj Ga ø ø ø) ø (Dq (BL (decide (e≠g))) (dX ø ø ø) ø (Dnil (u (JCc ø h (fun h hb=>?_) (fun h hb=>?_)))))))))))))
   ·
    refine Jr fun x=>(JLm (BL false) ø (G7 (x (Gt (fin1 BL h)))))
   ·
    refine Gn (t (G2 (JLm (Ei c) ø (JLh (I64 ((c+1:Nat):Int)) (Hf (Hq j p) ø ø ø) ø (JLm (I64 ((c+1:Nat):Int)) ø (G7 (a7 _ _ (c+1) () (app1 s h) (by omega) ⟨(.sm ø ø),þ,rfl⟩)))))))
  ·
   have h:=app1 k (J5 i (Hg hb))
   refine H5 (a4 (Jr fun z=>(JLm (BL true) ø (G7 (z (Gt (fin1 BL h)))))))

def Ju (a:Gc) (b:Gc):Option Bool:=
 bnd (bif ((((((((decide (a.Bay=b.Bay))&&(decide (a.Row=b.Row)))&&(a.Deck==b.Deck))&&(decide (a.Tiers=b.Tiers)))&&(decide (a.Height=b.Height)))&&(decide (a.Kilos20=b.Kilos20)))&&(decide (a.Kilos40=b.Kilos40)))&&(decide (a.Lash=b.Lash))) then Qo a.Plugs b.Plugs else some default) fun c=>
 some ((((((((((((decide (a.Bay=b.Bay))&&(decide (a.Row=b.Row)))&&(a.Deck==b.Deck))&&(decide (a.Tiers=b.Tiers)))&&(decide (a.Height=b.Height)))&&(decide (a.Kilos20=b.Kilos20)))&&(decide (a.Kilos40=b.Kilos40)))&&(decide (a.Lash=b.Lash)))&&c)&&(decide (a.X=b.X)))&&(decide (a.Y=b.Y)))&&(decide (a.Z=b.Z)))
abbrev Kr (a:Gc) (b:Gc):Bool:=(((((((decide (a.Bay=b.Bay))&&(decide (a.Row=b.Row)))&&(a.Deck==b.Deck))&&(decide (a.Tiers=b.Tiers)))&&(decide (a.Height=b.Height)))&&(decide (a.Kilos20=b.Kilos20)))&&(decide (a.Kilos40=b.Kilos40)))
abbrev Ks (a:Gc) (b:Gc):Bool:=((((decide (a.Bay=b.Bay))&&(decide (a.Row=b.Row)))&&(a.Deck==b.Deck))&&(decide (a.Tiers=b.Tiers)))
abbrev Kt (a:Gc) (b:Gc):Bool:=((decide (a.Bay=b.Bay))&&(decide (a.Row=b.Row)))
theorem bH (a:Gc) (b:Gc) (r:Bool) (h:Ju a b=some r):Pure Ej 134 [.agg (Gc.cs a),.agg (Gc.cs b)] (·=BL r):=by
 unfold Ju at h
 refine Gy [.tmp 4] Tryz.func134 ø ø (Jr fun d=>(JLh (.ptr 1105 0) (Qr (cs:=(Gc.cs a)) 1105 ø ø ø ø ø) ø (JLh (.ptr 1106 0) (Qr (cs:=(Gc.cs b)) 1106 ø ø ø ø ø) ø (JLm (BL false) ø (G7 (d (H1 [(2,Ee a),(3,.ptr 1106 0)] [(1106,.box 71 (Gc.cs b))] 1105 rfl rfl rfl ⟨⟨_,rfl,.boxEq rfl rfl⟩,þ⟩ rfl (by exact⟨.ptr,.conv (.same rfl),þ⟩) ?_)))))))
 refine H1 [(2,Ee a),(3,Ee b)] [] 1106 rfl rfl rfl þ rfl (by exact⟨.conv (.same rfl),.ptr,þ⟩) ?_
 refine Jr fun e=>(JLh (Ee a) (Gb cT ø ø ø) ø (JLh (I64 a.Bay) (Gj Ga ø ø ø) ø (JLh (Ee b) (Gb cT ø ø ø) ø (JLh (I64 b.Bay) (Gj Ga ø ø ø) ø (JLh (BL (decide (a.Bay=b.Bay))) (Rk ø ø ø) ø (JLm (BL (decide (a.Bay=b.Bay))) ø (JLo (.dptr ((Gc.cs a).drop 1)) [] ø .sct þ (fun hc=>Gb cS ø ø ø) ø (JLo (I64 a.Row) [11] ø .sct ⟨Ua,þ⟩ (fun hc=>Gj Ga ø ø ø) ø (JLo (.dptr ((Gc.cs b).drop 1)) [] ø .sct þ (fun hc=>Gb cS ø ø ø) ø (JLo (I64 b.Row) [13] ø .sct ⟨Ua,þ⟩ (fun hc=>Gj Ga ø ø ø) ø (JLo (BL (decide (a.Row=b.Row))) [12,14] ø .sct ⟨Ua,Ua,þ⟩ (fun hc=>Rk ø ø ø) ø (JLh (BL (Kt a b)) (Jf ø ø ø ø) ø (JLm (BL (Kt a b)) ø ?_)))))))))))))
 refine JLo (.dptr ((Gc.cs a).drop 2)) [] ø .sct þ (fun hc=>Gb gG ø ø ø) ø (JLo (BL a.Deck) [18] ø .sct ⟨Ua,þ⟩ (fun hc=>Gj fJ ø ø ø) ø (JLo (.dptr ((Gc.cs b).drop 2)) [] ø .sct þ (fun hc=>Gb gG ø ø ø) ø (JLo (BL b.Deck) [20] ø .sct ⟨Ua,þ⟩ (fun hc=>Gj fJ ø ø ø) ø (JLo (BL (a.Deck==b.Deck)) [19,21] ø .sct ⟨Ua,Ua,þ⟩ (fun hc=>Ge7 G1f ø ø ø) ø (JLh (BL ((Kt a b)&&(a.Deck==b.Deck))) (Jf ø ø ø ø) ø (JLm (BL ((Kt a b)&&(a.Deck==b.Deck))) ø (JLo (.dptr ((Gc.cs a).drop 3)) [] ø .sct þ (fun hc=>Gb Zj ø ø ø) ø (JLo (I64 a.Tiers) [25] ø .sct ⟨Ua,þ⟩ (fun hc=>Gj Ga ø ø ø) ø (JLo (.dptr ((Gc.cs b).drop 3)) [] ø .sct þ (fun hc=>Gb Zj ø ø ø) ø (JLo (I64 b.Tiers) [27] ø .sct ⟨Ua,þ⟩ (fun hc=>Gj Ga ø ø ø) ø (JLo (BL (decide (a.Tiers=b.Tiers))) [26,28] ø .sct ⟨Ua,Ua,þ⟩ (fun hc=>Rk ø ø ø) ø (JLh (BL (Ks a b)) (Jf ø ø ø ø) ø (JLm (BL (Ks a b)) ø ?_)))))))))))))
 refine JLo (.dptr ((Gc.cs a).drop 4)) [] ø .sct þ (fun hc=>Gb kR ø ø ø) ø (JLo (I64 a.Height) [32] ø .sct ⟨Ua,þ⟩ (fun hc=>Gj Ga ø ø ø) ø (JLo (.dptr ((Gc.cs b).drop 4)) [] ø .sct þ (fun hc=>Gb kR ø ø ø) ø (JLo (I64 b.Height) [34] ø .sct ⟨Ua,þ⟩ (fun hc=>Gj Ga ø ø ø) ø (JLo (BL (decide (a.Height=b.Height))) [33,35] ø .sct ⟨Ua,Ua,þ⟩ (fun hc=>Rk ø ø ø) ø (JLh (BL ((Ks a b)&&(decide (a.Height=b.Height)))) (Jf ø ø ø ø) ø (JLm (BL ((Ks a b)&&(decide (a.Height=b.Height)))) ø (JLo (.dptr ((Gc.cs a).drop 5)) [] ø .sct þ (fun hc=>Gb kQ ø ø ø) ø (JLo (I64 a.Kilos20) [39] ø .sct ⟨Ua,þ⟩ (fun hc=>Gj Ga ø ø ø) ø (JLo (.dptr ((Gc.cs b).drop 5)) [] ø .sct þ (fun hc=>Gb kQ ø ø ø) ø (JLo (I64 b.Kilos20) [41] ø .sct ⟨Ua,þ⟩ (fun hc=>Gj Ga ø ø ø) ø (JLo (BL (decide (a.Kilos20=b.Kilos20))) [40,42] ø .sct ⟨Ua,Ua,þ⟩ (fun hc=>Rk ø ø ø) ø (JLh (BL (((Ks a b)&&(decide (a.Height=b.Height)))&&(decide (a.Kilos20=b.Kilos20)))) (Jf ø ø ø ø) ø (JLm (BL (((Ks a b)&&(decide (a.Height=b.Height)))&&(decide (a.Kilos20=b.Kilos20)))) ø ?_)))))))))))))
 refine JLo (.dptr ((Gc.cs a).drop 6)) [] ø .sct þ (fun hc=>Gb kP ø ø ø) ø (JLo (I64 a.Kilos40) [46] ø .sct ⟨Ua,þ⟩ (fun hc=>Gj Ga ø ø ø) ø (JLo (.dptr ((Gc.cs b).drop 6)) [] ø .sct þ (fun hc=>Gb kP ø ø ø) ø (JLo (I64 b.Kilos40) [48] ø .sct ⟨Ua,þ⟩ (fun hc=>Gj Ga ø ø ø) ø (JLo (BL (decide (a.Kilos40=b.Kilos40))) [47,49] ø .sct ⟨Ua,Ua,þ⟩ (fun hc=>Rk ø ø ø) ø (JLh (BL (Kr a b)) (Jf ø ø ø ø) ø (JLm (BL (Kr a b)) ø (JLo (.dptr ((Gc.cs a).drop 7)) [] ø .sct þ (fun hc=>Gb kO ø ø ø) ø (JLo (I64 a.Lash) [53] ø .sct ⟨Ua,þ⟩ (fun hc=>Gj Ga ø ø ø) ø (JLo (.dptr ((Gc.cs b).drop 7)) [] ø .sct þ (fun hc=>Gb kO ø ø ø) ø (JLo (I64 b.Lash) [55] ø .sct ⟨Ua,þ⟩ (fun hc=>Gj Ga ø ø ø) ø (JLo (BL (decide (a.Lash=b.Lash))) [54,56] ø .sct ⟨Ua,Ua,þ⟩ (fun hc=>Rk ø ø ø) ø (JLh (BL ((Kr a b)&&(decide (a.Lash=b.Lash)))) (Jf ø ø ø ø) ø (JLm (BL ((Kr a b)&&(decide (a.Lash=b.Lash)))) ø ?_)))))))))))))
 refine JLo (.dptr ((Gc.cs a).drop 8)) [] ø .sct þ (fun hc=>Gb Rf ø ø ø) ø (JLo (E1 a.Plugs) [60] ø .sct ⟨Ua,þ⟩ (fun hc=>Gj Hv ø ø ø) ø (JLo (.dptr ((Gc.cs b).drop 8)) [] ø .sct þ (fun hc=>Gb Rf ø ø ø) ø (JLo (E1 b.Plugs) [62] ø .sct ⟨Ua,þ⟩ (fun hc=>Gj Hv ø ø ø) ø ?_)))
 obtain⟨c,f,h⟩:=Ge h
 refine JLo (BL c) [61,63] ø .sct ⟨Ua,Ua,þ⟩ (fun hc=>Gq (args:=[E1 a.Plugs,E1 b.Plugs]) ø (Zv a.Plugs b.Plugs c (Gw hc f)) rS ⟨ø,ø,ø,ø,þ⟩) ø (JLh (BL (((Kr a b)&&(decide (a.Lash=b.Lash)))&&c)) (Jf ø ø ø ø) ø (JLm (BL (((Kr a b)&&(decide (a.Lash=b.Lash)))&&c)) ø (JLo (.dptr [I64 a.X,I64 a.Y,I64 a.Z]) [] ø .sct þ (fun hc=>Gb kN ø ø ø) ø (JLo (I64 a.X) [67] ø .sct ⟨Ua,þ⟩ (fun hc=>Gj Ga ø ø ø) ø (JLo (.dptr [I64 b.X,I64 b.Y,I64 b.Z]) [] ø .sct þ (fun hc=>Gb kN ø ø ø) ø (JLo (I64 b.X) [69] ø .sct ⟨Ua,þ⟩ (fun hc=>Gj Ga ø ø ø) ø (JLo (BL (decide (a.X=b.X))) [68,70] ø .sct ⟨Ua,Ua,þ⟩ (fun hc=>Rk ø ø ø) ø (JLh (BL ((((Kr a b)&&(decide (a.Lash=b.Lash)))&&c)&&(decide (a.X=b.X)))) (Jf ø ø ø ø) ø (JLm (BL ((((Kr a b)&&(decide (a.Lash=b.Lash)))&&c)&&(decide (a.X=b.X)))) ø (JLo (.dptr [I64 a.Y,I64 a.Z]) [] ø .sct þ (fun hc=>Gb jI ø ø ø) ø (JLo (I64 a.Y) [74] ø .sct ⟨Ua,þ⟩ (fun hc=>Gj Ga ø ø ø) ø (JLo (.dptr [I64 b.Y,I64 b.Z]) [] ø .sct þ (fun hc=>Gb jI ø ø ø) ø (JLo (I64 b.Y) [76] ø .sct ⟨Ua,þ⟩ (fun hc=>Gj Ga ø ø ø) ø ?_)))))))))))))
 refine JLo (BL (decide (a.Y=b.Y))) [75,77] ø .sct ⟨Ua,Ua,þ⟩ (fun hc=>Rk ø ø ø) ø (JLh (BL (((((Kr a b)&&(decide (a.Lash=b.Lash)))&&c)&&(decide (a.X=b.X)))&&(decide (a.Y=b.Y)))) (Jf ø ø ø ø) ø (JLm (BL (((((Kr a b)&&(decide (a.Lash=b.Lash)))&&c)&&(decide (a.X=b.X)))&&(decide (a.Y=b.Y)))) ø (JLo (.dptr [I64 a.Z]) [] ø .sct þ (fun hc=>Gb jH ø ø ø) ø (JLo (I64 a.Z) [81] ø .sct ⟨Ua,þ⟩ (fun hc=>Gj Ga ø ø ø) ø (JLo (.dptr [I64 b.Z]) [] ø .sct þ (fun hc=>Gb jH ø ø ø) ø (JLo (I64 b.Z) [83] ø .sct ⟨Ua,þ⟩ (fun hc=>Gj Ga ø ø ø) ø (JLo (BL (decide (a.Z=b.Z))) [82,84] ø .sct ⟨Ua,Ua,þ⟩ (fun hc=>Rk ø ø ø) ø (JLh (BL ((((((Kr a b)&&(decide (a.Lash=b.Lash)))&&c)&&(decide (a.X=b.X)))&&(decide (a.Y=b.Y)))&&(decide (a.Z=b.Z)))) (Jf ø ø ø ø) ø (JLm (BL ((((((Kr a b)&&(decide (a.Lash=b.Lash)))&&c)&&(decide (a.X=b.X)))&&(decide (a.Y=b.Y)))&&(decide (a.Z=b.Z)))) ø (G7 (e ?_)))))))))))
 refine Gt (fin1 BL h)

def Yb (a:List Gc) (b:List Gc):Option Bool:=
 bif decide ((a.length:Int)≠(b.length:Int)) then
 (some false)
 else
 (each (fun d e (f:Unit) c=>
   Jx b (e:Int) fun g=>
   bnd (Ju d g) fun h=>
   bif (!h) then
   (some false)
   else
   (c ()))
  (fun(f:Unit)=>
   some true) a 0 ())
theorem lM (a:List Gc) (b:List Gc) (r:Bool) (h:Yb a b=some r):Pure Ej 128 [E5 a,E5 b] (·=BL r):=by
 unfold Yb at h
 refine Gy [.tmp 4] Tryz.func128 ø ø (Jr fun a2=>(JLm (BL false) ø (G7 (a2 (Js fun a3=>Jr fun a4=>(JLm (E5 a) ø (JLl Ha ø ø ø fun b1=>(JLm (E5 b) ø (JLl Ha ø ø ø fun b2=>(JLh (BL (decide ((a.length:Int)≠(b.length:Int)))) (dX ø ø ø) ø (G7 (a4 (JCc ø h (fun h hb=>?_) (fun h hb=>?_))))))))))))))
 ·
  refine Jr fun a5=>(JLm (BL false) ø (G7 (a5 (Gt (fin1 BL h)))))
 ·
  refine Gn (a3 (Js fun a6=>Jr fun a7=>(JLm (I64 0) ø (G7 (a7 (Gi ?_))))))
  obtain⟨a8,m,n,l,h⟩:=Jg h
  refine H7 (fun c (g:Unit)=>each a8 m (List.drop c a) c g=some r) (fun c g=>[(0,E5 a),(1,E5 b),(5,Ei c)]) (fun c g=>[]) (fun c=>a.length - c) 0 () h ⟨(.sm ø ø),þ,ø⟩ ?_
  clear h
  intro c g j b3 a9
  refine Js fun o=>Jr fun p=>(JLm (Ei c) ø (JLm (E5 a) ø (JLl Ha ø ø ø fun q=>(JLh (BL (decide ((c:Int) < (a.length:Int)))) (Ht ø ø ø) ø (G7 (p (Gm ø (fun hb=>?_) (fun hb=>?_))))))))
  ·
   have k:=Q1 hb
   obtain⟨d,b0,s,t,h⟩:=J4 j k
   replace h:=Zt n h
   refine Gn (o (Js fun u=>Gi (Js fun v=>?_)))
   obtain⟨b4,e,w,x,h⟩:=Q8 h
   obtain⟨i,z,h⟩:=Ge h
   refine JC_d0 J9 (by kernel_rfl) (Dq (E5 a) (G3 ø ø) ø (Dq (Ei c) (G3 ø ø) ø (Dq (Ee d) (Gs (f:=Gc.av) (xs:=a) (y:=d) ø ø ø Ha s ø) ø (Dq (.agg (Gc.cs d)) (Gk Z4 ø ø ø) ø (Dq (E5 b) (G3 ø ø) ø (Dq (Ei c) (G3 ø ø) ø (Dq (Ee e) (Gs (f:=Gc.av) (xs:=b) (y:=e) ø ø ø Ha x w) ø (Dq (.agg (Gc.cs e)) (Gk Z4 ø ø ø) ø (Dq (BL i) (Gq (args:=[.agg (Gc.cs d),.agg (Gc.cs e)]) ø (bH d e i z) tU ⟨ø,ø,ø,ø,þ⟩) ø (Dq (BL (!i)) (Ym (b:=i) ø ø) ø (Dnil (v (JCc ø h (fun h hb=>?_) (fun h hb=>?_))))))))))))))
   ·
    refine Jr fun a0=>(JLm (BL false) ø (G7 (a0 (Gt (fin1 BL h)))))
   ·
    refine Gn (u (G2 (JLm (Ei c) ø (JLh (I64 ((c+1:Nat):Int)) (Hf (Hq k q) ø ø ø) ø (JLm (I64 ((c+1:Nat):Int)) ø (G7 (a9 _ _ (c+1) () (app1 t h) (by omega) ⟨(.sm ø ø),þ,rfl⟩)))))))
  ·
   have h:=app1 l (J5 j (Hg hb))
   refine H5 (a6 (Jr fun a1=>(JLm (BL true) ø (G7 (a1 (Gt (fin1 BL h)))))))

def Jz (a:Gz) (b:Gz):Option Bool:=
 bnd (bif decide (a.Bay=b.Bay) then Qo a.Rows b.Rows else some default) fun c=>
 some ((decide (a.Bay=b.Bay))&&c)
theorem bV (a:Gz) (b:Gz) (r:Bool) (h:Jz a b=some r):Pure Ej 136 [.agg [I64 a.Bay,E1 a.Rows],.agg [I64 b.Bay,E1 b.Rows]] (·=BL r):=by
 unfold Jz at h
 refine Gy [.tmp 4] Tryz.func136 ø ø (Jr fun d=>(JLh (.ptr 1109 0) (Qr (cs:=[I64 a.Bay,E1 a.Rows]) 1109 ø ø ø ø ø) ø (JLh (.ptr 1110 0) (Qr (cs:=[I64 b.Bay,E1 b.Rows]) 1110 ø ø ø ø ø) ø (JLm (BL false) ø (G7 (d (H1 [(2,.dptr [I64 a.Bay,E1 a.Rows]),(3,.ptr 1110 0)] [(1110,.box 73 [I64 b.Bay,E1 b.Rows])] 1109 rfl rfl rfl ⟨⟨_,rfl,.boxEq rfl rfl⟩,þ⟩ rfl (by exact⟨.ptr,.conv (.same rfl),þ⟩) (H1 [(2,.dptr [I64 a.Bay,E1 a.Rows]),(3,.dptr [I64 b.Bay,E1 b.Rows])] [] 1110 rfl rfl rfl þ rfl (by exact⟨.conv (.same rfl),.ptr,þ⟩) ?_))))))))
 refine Jr fun e=>(JLh (.dptr [I64 a.Bay,E1 a.Rows]) (Gb bN ø ø ø) ø (JLh (I64 a.Bay) (Gj Ga ø ø ø) ø (JLh (.dptr [I64 b.Bay,E1 b.Rows]) (Gb bN ø ø ø) ø (JLh (I64 b.Bay) (Gj Ga ø ø ø) ø (JLh (BL (decide (a.Bay=b.Bay))) (Rk ø ø ø) ø (JLm (BL (decide (a.Bay=b.Bay))) ø (JLo (.dptr [E1 a.Rows]) [] ø .sct þ (fun hc=>Gb Qj ø ø ø) ø (JLo (E1 a.Rows) [11] ø .sct ⟨Ua,þ⟩ (fun hc=>Gj Hv ø ø ø) ø (JLo (.dptr [E1 b.Rows]) [] ø .sct þ (fun hc=>Gb Qj ø ø ø) ø (JLo (E1 b.Rows) [13] ø .sct ⟨Ua,þ⟩ (fun hc=>Gj Hv ø ø ø) ø ?_))))))))))
 obtain⟨c,f,h⟩:=Ge h
 refine JLo (BL c) [12,14] ø .sct ⟨Ua,Ua,þ⟩ (fun hc=>Gq (args:=[E1 a.Rows,E1 b.Rows]) ø (Zv a.Rows b.Rows c (Gw hc f)) rS ⟨ø,ø,ø,ø,þ⟩) ø (JLh (BL ((decide (a.Bay=b.Bay))&&c)) (Jf ø ø ø ø) ø (JLm (BL ((decide (a.Bay=b.Bay))&&c)) ø (G7 (e (Gt (fin1 BL h))))))

def Yh (a:List Gz) (b:List Gz):Option Bool:=
 bif decide ((a.length:Int)≠(b.length:Int)) then
 (some false)
 else
 (each (fun d e (f:Unit) c=>
   Jx b (e:Int) fun g=>
   bnd (Jz d g) fun h=>
   bif (!h) then
   (some false)
   else
   (c ()))
  (fun(f:Unit)=>
   some true) a 0 ())
theorem mO (a:List Gz) (b:List Gz) (r:Bool) (h:Yh a b=some r):Pure Ej 129 [E6 a,E6 b] (·=BL r):=by
 unfold Yh at h
 refine Gy [.tmp 4] Tryz.func129 ø ø (Jr fun a2=>(JLm (BL false) ø (G7 (a2 (Js fun a3=>Jr fun a4=>(JLm (E6 a) ø (JLl J6 ø ø ø fun b1=>(JLm (E6 b) ø (JLl J6 ø ø ø fun b2=>(JLh (BL (decide ((a.length:Int)≠(b.length:Int)))) (dX ø ø ø) ø (G7 (a4 (JCc ø h (fun h hb=>?_) (fun h hb=>?_))))))))))))))
 ·
  refine Jr fun a5=>(JLm (BL false) ø (G7 (a5 (Gt (fin1 BL h)))))
 ·
  refine Gn (a3 (Js fun a6=>Jr fun a7=>(JLm (I64 0) ø (G7 (a7 (Gi ?_))))))
  obtain⟨a8,m,n,l,h⟩:=Jg h
  refine H7 (fun c (g:Unit)=>each a8 m (List.drop c a) c g=some r) (fun c g=>[(0,E6 a),(1,E6 b),(5,Ei c)]) (fun c g=>[]) (fun c=>a.length - c) 0 () h ⟨(.sm ø ø),þ,ø⟩ ?_
  clear h
  intro c g j b3 a9
  refine Js fun o=>Jr fun p=>(JLm (Ei c) ø (JLm (E6 a) ø (JLl J6 ø ø ø fun q=>(JLh (BL (decide ((c:Int) < (a.length:Int)))) (Ht ø ø ø) ø (G7 (p (Gm ø (fun hb=>?_) (fun hb=>?_))))))))
  ·
   have k:=Q1 hb
   obtain⟨d,b0,s,t,h⟩:=J4 j k
   replace h:=Zt n h
   refine Gn (o (Js fun u=>Gi (Js fun v=>?_)))
   obtain⟨b4,e,w,x,h⟩:=Q8 h
   obtain⟨i,z,h⟩:=Ge h
   refine JC_d0 J9 (by kernel_rfl) (Dq (E6 a) (G3 ø ø) ø (Dq (Ei c) (G3 ø ø) ø (Dq (.dptr [I64 d.Bay,E1 d.Rows]) (Gs (f:=Gz.av) (xs:=a) (y:=d) ø ø ø J6 s ø) ø (Dq (.agg [I64 d.Bay,E1 d.Rows]) (Gk Zz ø ø ø) ø (Dq (E6 b) (G3 ø ø) ø (Dq (Ei c) (G3 ø ø) ø (Dq (.dptr [I64 e.Bay,E1 e.Rows]) (Gs (f:=Gz.av) (xs:=b) (y:=e) ø ø ø J6 x w) ø (Dq (.agg [I64 e.Bay,E1 e.Rows]) (Gk Zz ø ø ø) ø (Dq (BL i) (Gq (args:=[.agg [I64 d.Bay,E1 d.Rows],.agg [I64 e.Bay,E1 e.Rows]]) ø (bV d e i z) tT ⟨ø,ø,ø,ø,þ⟩) ø (Dq (BL (!i)) (Ym (b:=i) ø ø) ø (Dnil (v (JCc ø h (fun h hb=>?_) (fun h hb=>?_))))))))))))))
   ·
    refine Jr fun a0=>(JLm (BL false) ø (G7 (a0 (Gt (fin1 BL h)))))
   ·
    refine Gn (u (G2 (JLm (Ei c) ø (JLh (I64 ((c+1:Nat):Int)) (Hf (Hq k q) ø ø ø) ø (JLm (I64 ((c+1:Nat):Int)) ø (G7 (a9 _ _ (c+1) () (app1 t h) (by omega) ⟨(.sm ø ø),þ,rfl⟩)))))))
  ·
   have h:=app1 l (J5 j (Hg hb))
   refine H5 (a6 (Jr fun a1=>(JLm (BL true) ø (G7 (a1 (Gt (fin1 BL h)))))))

def Z8 (a:List Row) (b:List Row):Option Bool:=
 bif decide ((a.length:Int)≠(b.length:Int)) then
 (some false)
 else
 (each (fun d e (f:Unit) c=>
   Jx b (e:Int) fun g=>
   bif (!decide (d=g)) then
   (some false)
   else
   (c ()))
  (fun(f:Unit)=>
   some true) a 0 ())
theorem oW (a:List Row) (b:List Row) (r:Bool) (h:Z8 a b=some r):Pure Ej 130 [E8 a,E8 b] (·=BL r):=by
 unfold Z8 at h
 refine Gy [.tmp 4] Tryz.func130 ø ø (Jr fun a0=>(JLm (BL false) ø (G7 (a0 (Js fun a1=>Jr fun a2=>(JLm (E8 a) ø (JLl Qc ø ø ø fun a9=>(JLm (E8 b) ø (JLl Qc ø ø ø fun b0=>(JLh (BL (decide ((a.length:Int)≠(b.length:Int)))) (dX ø ø ø) ø (G7 (a2 (JCc ø h (fun h hb=>?_) (fun h hb=>?_))))))))))))))
 ·
  refine Jr fun a3=>(JLm (BL false) ø (G7 (a3 (Gt (fin1 BL h)))))
 ·
  refine Gn (a1 (Js fun a4=>Jr fun a5=>(JLm (I64 0) ø (G7 (a5 (Gi ?_))))))
  obtain⟨a6,l,m,k,h⟩:=Jg h
  refine H7 (fun c (g:Unit)=>each a6 l (List.drop c a) c g=some r) (fun c g=>[(0,E8 a),(1,E8 b),(5,Ei c)]) (fun c g=>[]) (fun c=>a.length - c) 0 () h ⟨(.sm ø ø),þ,ø⟩ ?_
  clear h
  intro c g i b1 a7
  refine Js fun n=>Jr fun o=>(JLm (Ei c) ø (JLm (E8 a) ø (JLl Qc ø ø ø fun p=>(JLh (BL (decide ((c:Int) < (a.length:Int)))) (Ht ø ø ø) ø (G7 (o (Gm ø (fun hb=>?_) (fun hb=>?_))))))))
  ·
   have j:=Q1 hb
   obtain⟨d,a8,q,s,h⟩:=J4 i j
   replace h:=Zt m h
   refine Gn (n (Js fun t=>Gi (Js fun u=>?_)))
   obtain⟨b2,e,v,w,h⟩:=Q8 h
   refine JC_d0 J9 (by kernel_rfl) (Dq (E8 a) (G3 ø ø) ø (Dq (Ei c) (G3 ø ø) ø (Dq (.dptr (Row.cs d)) (Gs (f:=Row.av) (xs:=a) (y:=d) ø ø ø Qc q ø) ø (Dq (.agg (Row.cs d)) (Gk kF ø ø ø) ø (Dq (E8 b) (G3 ø ø) ø (Dq (Ei c) (G3 ø ø) ø (Dq (.dptr (Row.cs e)) (Gs (f:=Row.av) (xs:=b) (y:=e) ø ø ø Qc w v) ø (Dq (.agg (Row.cs e)) (Gk kF ø ø ø) ø (Dq (BL (!decide (d=e))) (QV (vs:=[.int .i64 d.Draught,.int .i64 d.Kilos,.int .i64 d.Buoy,.int .i64 d.Metacentre,.int .i64 d.vN]) (us:=[.int .i64 e.Draught,.int .i64 e.Kilos,.int .i64 e.Buoy,.int .i64 e.Metacentre,.int .i64 e.vN]) 4 ø (Geb d e) rV wF ø ø ø) ø (Dnil (u ?_)))))))))))
   refine JCc ø h ?_ ?_<;>intro h hb
   ·
    refine Jr fun x=>(JLm (BL false) ø (G7 (x (Gt (fin1 BL h)))))
   ·
    refine Gn (t (G2 (JLm (Ei c) ø (JLh (I64 ((c+1:Nat):Int)) (Hf (Hq j p) ø ø ø) ø (JLm (I64 ((c+1:Nat):Int)) ø (G7 (a7 _ _ (c+1) () (app1 s h) (by omega) ⟨(.sm ø ø),þ,rfl⟩)))))))
  ·
   have h:=app1 k (J5 i (Hg hb))
   refine H5 (a4 (Jr fun z=>(JLm (BL true) ø (G7 (z (Gt (fin1 BL h)))))))

def Yg (a:List Frame) (b:List Frame):Option Bool:=
 bif decide ((a.length:Int)≠(b.length:Int)) then
 (some false)
 else
 (each (fun d e (f:Unit) c=>
   Jx b (e:Int) fun g=>
   bif (!decide (d=g)) then
   (some false)
   else
   (c ()))
  (fun(f:Unit)=>
   some true) a 0 ())
theorem mN (a:List Frame) (b:List Frame) (r:Bool) (h:Yg a b=some r):Pure Ej 131 [E7 a,E7 b] (·=BL r):=by
 unfold Yg at h
 refine Gy [.tmp 4] Tryz.func131 ø ø (Jr fun a0=>(JLm (BL false) ø (G7 (a0 (Js fun a1=>Jr fun a2=>(JLm (E7 a) ø (JLl Qb ø ø ø fun a9=>(JLm (E7 b) ø (JLl Qb ø ø ø fun b0=>(JLh (BL (decide ((a.length:Int)≠(b.length:Int)))) (dX ø ø ø) ø (G7 (a2 (JCc ø h (fun h hb=>?_) (fun h hb=>?_))))))))))))))
 ·
  refine Jr fun a3=>(JLm (BL false) ø (G7 (a3 (Gt (fin1 BL h)))))
 ·
  refine Gn (a1 (Js fun a4=>Jr fun a5=>(JLm (I64 0) ø (G7 (a5 (Gi ?_))))))
  obtain⟨a6,l,m,k,h⟩:=Jg h
  refine H7 (fun c (g:Unit)=>each a6 l (List.drop c a) c g=some r) (fun c g=>[(0,E7 a),(1,E7 b),(5,Ei c)]) (fun c g=>[]) (fun c=>a.length - c) 0 () h ⟨(.sm ø ø),þ,ø⟩ ?_
  clear h
  intro c g i b1 a7
  refine Js fun n=>Jr fun o=>(JLm (Ei c) ø (JLm (E7 a) ø (JLl Qb ø ø ø fun p=>(JLh (BL (decide ((c:Int) < (a.length:Int)))) (Ht ø ø ø) ø (G7 (o (Gm ø (fun hb=>?_) (fun hb=>?_))))))))
  ·
   have j:=Q1 hb
   obtain⟨d,a8,q,s,h⟩:=J4 i j
   replace h:=Zt m h
   refine Gn (n (Js fun t=>Gi (Js fun u=>?_)))
   obtain⟨b2,e,v,w,h⟩:=Q8 h
   refine JC_d0 J9 (by kernel_rfl) (Dq (E7 a) (G3 ø ø) ø (Dq (Ei c) (G3 ø ø) ø (Dq (.dptr (Frame.cs d)) (Gs (f:=Frame.av) (xs:=a) (y:=d) ø ø ø Qb q ø) ø (Dq (.agg (Frame.cs d)) (Gk kE ø ø ø) ø (Dq (E7 b) (G3 ø ø) ø (Dq (Ei c) (G3 ø ø) ø (Dq (.dptr (Frame.cs e)) (Gs (f:=Frame.av) (xs:=b) (y:=e) ø ø ø Qb w v) ø (Dq (.agg (Frame.cs e)) (Gk kE ø ø ø) ø (Dq (BL (!decide (d=e))) (QV (vs:=[.int .i64 d.X,.int .i64 d.Light,.int .i64 d.Share,.int .i64 d.Shear,.int .i64 d.Bend]) (us:=[.int .i64 e.X,.int .i64 e.Light,.int .i64 e.Share,.int .i64 e.Shear,.int .i64 e.Bend]) 4 ø (Gea d e) rT wE ø ø ø) ø (Dnil (u (JCc ø h (fun h hb=>?_) (fun h hb=>?_)))))))))))))
   ·
    refine Jr fun x=>(JLm (BL false) ø (G7 (x (Gt (fin1 BL h)))))
   ·
    refine Gn (t (G2 (JLm (Ei c) ø (JLh (I64 ((c+1:Nat):Int)) (Hf (Hq j p) ø ø ø) ø (JLm (I64 ((c+1:Nat):Int)) ø (G7 (a7 _ _ (c+1) () (app1 s h) (by omega) ⟨(.sm ø ø),þ,rfl⟩)))))))
  ·
   have h:=app1 k (J5 i (Hg hb))
   refine H5 (a4 (Jr fun z=>(JLm (BL true) ø (G7 (z (Gt (fin1 BL h)))))))

def Q7 (a:He) (b:He):Option Bool:=
 bnd (bif (((((decide (a.Kilos=b.Kilos))&&(decide (a.X=b.X)))&&(decide (a.Y=b.Y)))&&(decide (a.Z=b.Z)))&&(decide (a.Surface=b.Surface))) then Qo a.Steps b.Steps else some default) fun c=>
 some ((((((decide (a.Kilos=b.Kilos))&&(decide (a.X=b.X)))&&(decide (a.Y=b.Y)))&&(decide (a.Z=b.Z)))&&(decide (a.Surface=b.Surface)))&&c)
abbrev Ku (a:He) (b:He):Bool:=(((decide (a.Kilos=b.Kilos))&&(decide (a.X=b.X)))&&(decide (a.Y=b.Y)))
abbrev Kv (b:He):List AV:=[I64 b.Kilos,I64 b.X,I64 b.Y,I64 b.Z,I64 b.Surface,E1 b.Steps]
theorem cE (a:He) (b:He) (r:Bool) (h:Q7 a b=some r):Pure Ej 138 [.agg (He.cs a),.agg (He.cs b)] (·=BL r):=by
 unfold Q7 at h
 refine Gy [.tmp 4] Tryz.func138 ø ø (Jr fun d=>(JLh (.ptr 1113 0) (Qr (cs:=(Kv a)) 1113 ø ø ø ø ø) ø (JLh (.ptr 1114 0) (Qr (cs:=(Kv b)) 1114 ø ø ø ø ø) ø (JLm (BL false) ø (G7 (d (H1 [(2,Eh a),(3,.ptr 1114 0)] [(1114,.box 177 (Kv b))] 1113 rfl rfl rfl ⟨⟨_,rfl,.boxEq rfl rfl⟩,þ⟩ rfl (by exact⟨.ptr,.conv (.same rfl),þ⟩) (H1 [(2,Eh a),(3,Eh b)] [] 1114 rfl rfl rfl þ rfl (by exact⟨.conv (.same rfl),.ptr,þ⟩) ?_))))))))
 refine Jr fun e=>(JLh (Eh a) (Gb tL ø ø ø) ø (JLh (I64 a.Kilos) (Gj Ga ø ø ø) ø (JLh (Eh b) (Gb tL ø ø ø) ø (JLh (I64 b.Kilos) (Gj Ga ø ø ø) ø (JLh (BL (decide (a.Kilos=b.Kilos))) (Rk ø ø ø) ø (JLm (BL (decide (a.Kilos=b.Kilos))) ø (JLo (.dptr ((He.cs a).drop 1)) [] ø .sct þ (fun hc=>Gb tK ø ø ø) ø (JLo (I64 a.X) [11] ø .sct ⟨Ua,þ⟩ (fun hc=>Gj Ga ø ø ø) ø (JLo (.dptr ((He.cs b).drop 1)) [] ø .sct þ (fun hc=>Gb tK ø ø ø) ø (JLo (I64 b.X) [13] ø .sct ⟨Ua,þ⟩ (fun hc=>Gj Ga ø ø ø) ø (JLo (BL (decide (a.X=b.X))) [12,14] ø .sct ⟨Ua,Ua,þ⟩ (fun hc=>Rk ø ø ø) ø (JLh (BL ((decide (a.Kilos=b.Kilos))&&(decide (a.X=b.X)))) (Jf ø ø ø ø) ø (JLm (BL ((decide (a.Kilos=b.Kilos))&&(decide (a.X=b.X)))) ø ?_)))))))))))))
 refine JLo (.dptr ((He.cs a).drop 2)) [] ø .sct þ (fun hc=>Gb tJ ø ø ø) ø (JLo (I64 a.Y) [18] ø .sct ⟨Ua,þ⟩ (fun hc=>Gj Ga ø ø ø) ø (JLo (.dptr ((He.cs b).drop 2)) [] ø .sct þ (fun hc=>Gb tJ ø ø ø) ø (JLo (I64 b.Y) [20] ø .sct ⟨Ua,þ⟩ (fun hc=>Gj Ga ø ø ø) ø (JLo (BL (decide (a.Y=b.Y))) [19,21] ø .sct ⟨Ua,Ua,þ⟩ (fun hc=>Rk ø ø ø) ø (JLh (BL (Ku a b)) (Jf ø ø ø ø) ø (JLm (BL (Ku a b)) ø (JLo (.dptr ((He.cs a).drop 3)) [] ø .sct þ (fun hc=>Gb tI ø ø ø) ø (JLo (I64 a.Z) [25] ø .sct ⟨Ua,þ⟩ (fun hc=>Gj Ga ø ø ø) ø (JLo (.dptr ((He.cs b).drop 3)) [] ø .sct þ (fun hc=>Gb tI ø ø ø) ø (JLo (I64 b.Z) [27] ø .sct ⟨Ua,þ⟩ (fun hc=>Gj Ga ø ø ø) ø (JLo (BL (decide (a.Z=b.Z))) [26,28] ø .sct ⟨Ua,Ua,þ⟩ (fun hc=>Rk ø ø ø) ø (JLh (BL ((Ku a b)&&(decide (a.Z=b.Z)))) (Jf ø ø ø ø) ø (JLm (BL ((Ku a b)&&(decide (a.Z=b.Z)))) ø ?_)))))))))))))
 refine JLo (.dptr [I64 a.Surface,E1 a.Steps]) [] ø .sct þ (fun hc=>Gb tH ø ø ø) ø (JLo (I64 a.Surface) [32] ø .sct ⟨Ua,þ⟩ (fun hc=>Gj Ga ø ø ø) ø (JLo (.dptr [I64 b.Surface,E1 b.Steps]) [] ø .sct þ (fun hc=>Gb tH ø ø ø) ø (JLo (I64 b.Surface) [34] ø .sct ⟨Ua,þ⟩ (fun hc=>Gj Ga ø ø ø) ø (JLo (BL (decide (a.Surface=b.Surface))) [33,35] ø .sct ⟨Ua,Ua,þ⟩ (fun hc=>Rk ø ø ø) ø (JLh (BL (((Ku a b)&&(decide (a.Z=b.Z)))&&(decide (a.Surface=b.Surface)))) (Jf ø ø ø ø) ø (JLm (BL (((Ku a b)&&(decide (a.Z=b.Z)))&&(decide (a.Surface=b.Surface)))) ø (JLo (.dptr [E1 a.Steps]) [] ø .sct þ (fun hc=>Gb dJ ø ø ø) ø (JLo (E1 a.Steps) [39] ø .sct ⟨Ua,þ⟩ (fun hc=>Gj Hv ø ø ø) ø (JLo (.dptr [E1 b.Steps]) [] ø .sct þ (fun hc=>Gb dJ ø ø ø) ø (JLo (E1 b.Steps) [41] ø .sct ⟨Ua,þ⟩ (fun hc=>Gj Hv ø ø ø) ø ?_))))))))))
 obtain⟨c,f,h⟩:=Ge h
 refine JLo (BL c) [40,42] ø .sct ⟨Ua,Ua,þ⟩ (fun hc=>Gq (args:=[E1 a.Steps,E1 b.Steps]) ø (Zv a.Steps b.Steps c (Gw hc f)) rS ⟨ø,ø,ø,ø,þ⟩) ø (JLh (BL ((((Ku a b)&&(decide (a.Z=b.Z)))&&(decide (a.Surface=b.Surface)))&&c)) (Jf ø ø ø ø) ø (JLm (BL ((((Ku a b)&&(decide (a.Z=b.Z)))&&(decide (a.Surface=b.Surface)))&&c)) ø (G7 (e (Gt (fin1 BL h))))))

def Yv (a:List He) (b:List He):Option Bool:=
 bif decide ((a.length:Int)≠(b.length:Int)) then
 (some false)
 else
 (each (fun d e (f:Unit) c=>
   Jx b (e:Int) fun g=>
   bnd (Q7 d g) fun h=>
   bif (!h) then
   (some false)
   else
   (c ()))
  (fun(f:Unit)=>
   some true) a 0 ())
theorem oE (a:List He) (b:List He) (r:Bool) (h:Yv a b=some r):Pure Ej 132 [E9 a,E9 b] (·=BL r):=by
 unfold Yv at h
 refine Gy [.tmp 4] Tryz.func132 ø ø (Jr fun a2=>(JLm (BL false) ø (G7 (a2 (Js fun a3=>Jr fun a4=>(JLm (E9 a) ø (JLl Jy ø ø ø fun b1=>(JLm (E9 b) ø (JLl Jy ø ø ø fun b2=>(JLh (BL (decide ((a.length:Int)≠(b.length:Int)))) (dX ø ø ø) ø (G7 (a4 (JCc ø h (fun h hb=>?_) (fun h hb=>?_))))))))))))))
 ·
  refine Jr fun a5=>(JLm (BL false) ø (G7 (a5 (Gt (fin1 BL h)))))
 ·
  refine Gn (a3 (Js fun a6=>Jr fun a7=>(JLm (I64 0) ø (G7 (a7 (Gi ?_))))))
  obtain⟨a8,m,n,l,h⟩:=Jg h
  refine H7 (fun c (g:Unit)=>each a8 m (List.drop c a) c g=some r) (fun c g=>[(0,E9 a),(1,E9 b),(5,Ei c)]) (fun c g=>[]) (fun c=>a.length - c) 0 () h ⟨(.sm ø ø),þ,ø⟩ ?_
  clear h
  intro c g j b3 a9
  refine Js fun o=>Jr fun p=>(JLm (Ei c) ø (JLm (E9 a) ø (JLl Jy ø ø ø fun q=>(JLh (BL (decide ((c:Int) < (a.length:Int)))) (Ht ø ø ø) ø (G7 (p (Gm ø (fun hb=>?_) (fun hb=>?_))))))))
  ·
   have k:=Q1 hb
   obtain⟨d,b0,s,t,h⟩:=J4 j k
   replace h:=Zt n h
   refine Gn (o (Js fun u=>Gi (Js fun v=>?_)))
   obtain⟨b4,e,w,x,h⟩:=Q8 h
   obtain⟨i,z,h⟩:=Ge h
   refine JC_d0 J9 (by kernel_rfl) (Dq (E9 a) (G3 ø ø) ø (Dq (Ei c) (G3 ø ø) ø (Dq (Eh d) (Gs (f:=He.av) (xs:=a) (y:=d) ø ø ø Jy s ø) ø (Dq (.agg (He.cs d)) (Gk aY ø ø ø) ø (Dq (E9 b) (G3 ø ø) ø (Dq (Ei c) (G3 ø ø) ø (Dq (Eh e) (Gs (f:=He.av) (xs:=b) (y:=e) ø ø ø Jy x w) ø (Dq (.agg (He.cs e)) (Gk aY ø ø ø) ø (Dq (BL i) (Gq (args:=[.agg (He.cs d),.agg (He.cs e)]) ø (cE d e i z) tQ ⟨ø,ø,ø,ø,þ⟩) ø (Dq (BL (!i)) (Ym (b:=i) ø ø) ø (Dnil (v (JCc ø h (fun h hb=>?_) (fun h hb=>?_))))))))))))))
   ·
    refine Jr fun a0=>(JLm (BL false) ø (G7 (a0 (Gt (fin1 BL h)))))
   ·
    refine Gn (u (G2 (JLm (Ei c) ø (JLh (I64 ((c+1:Nat):Int)) (Hf (Hq k q) ø ø ø) ø (JLm (I64 ((c+1:Nat):Int)) ø (G7 (a9 _ _ (c+1) () (app1 t h) (by omega) ⟨(.sm ø ø),þ,rfl⟩)))))))
  ·
   have h:=app1 l (J5 j (Hg hb))
   refine H5 (a6 (Jr fun a1=>(JLm (BL true) ø (G7 (a1 (Gt (fin1 BL h)))))))

def Z7 (a:H2) (b:H2):Option Bool:=
 bnd (Yb a.Columns b.Columns) fun c=>
 bnd (bif c then Yh a.Covers b.Covers else some default) fun d=>
 bnd (bif ((c&&d)&&(decide (a.Light=b.Light))) then Z8 a.Rows b.Rows else some default) fun e=>
 bnd (bif (((c&&d)&&(decide (a.Light=b.Light)))&&e) then Yg a.Frames b.Frames else some default) fun f=>
 bnd (bif ((((c&&d)&&(decide (a.Light=b.Light)))&&e)&&f) then Yv a.Tanks b.Tanks else some default) fun g=>
 some ((((((c&&d)&&(decide (a.Light=b.Light)))&&e)&&f)&&g)&&(decide (a.Gp=b.Gp)))
theorem oV (a:H2) (b:H2) (r:Bool) (h:Z7 a b=some r):Pure Ej 56 [.agg (H2.cs a),.agg (H2.cs b)] (·=BL r):=by
 unfold Z7 at h
 refine Gy [.tmp 4] Tryz.func56 ø ø (Jr fun i=>(JLh (.ptr 1041 0) (Qr (cs:=(H2.cs a)) 1041 ø ø ø ø ø) ø (JLh (.ptr 1042 0) (Qr (cs:=(H2.cs b)) 1042 ø ø ø ø ø) ø (JLm (BL false) ø (G7 (i ?_))))))
 refine H1 [(2,Ec a),(3,.ptr 1042 0)] [(1042,.box 32 (H2.cs b))] 1041 rfl rfl rfl ⟨⟨_,rfl,.boxEq rfl rfl⟩,þ⟩ rfl (by exact⟨.ptr,.conv (.same rfl),þ⟩) (H1 [(2,Ec a),(3,Ec b)] [] 1042 rfl rfl rfl þ rfl (by exact⟨.conv (.same rfl),.ptr,þ⟩) (Jr fun j=>(JLh (Ec a) (Gb J1 ø ø ø) ø (JLh (E5 a.Columns) (Gj Jd ø ø ø) ø (JLh (Ec b) (Gb J1 ø ø ø) ø (JLh (E5 b.Columns) (Gj Jd ø ø ø) ø ?_))))))
 obtain⟨c,k,h⟩:=Ge h
 refine JLh (BL c) (Gq ø (lM a.Columns b.Columns c k) Ga1 ⟨ø,ø,ø,ø,þ⟩) ø (JLm (BL c) ø (JLo (.dptr ((H2.cs a).drop 1)) [] ø .sct þ (fun hc=>Gb Qv ø ø ø) ø (JLo (E6 a.Covers) [11] ø .sct ⟨Ua,þ⟩ (fun hc=>Gj Y2 ø ø ø) ø (JLo (.dptr ((H2.cs b).drop 1)) [] ø .sct þ (fun hc=>Gb Qv ø ø ø) ø (JLo (E6 b.Covers) [13] ø .sct ⟨Ua,þ⟩ (fun hc=>Gj Y2 ø ø ø) ø ?_)))))
 obtain⟨d,l,h⟩:=Ge h
 refine JLo (BL d) [12,14] ø .sct ⟨Ua,Ua,þ⟩ (fun hc=>Gq (args:=[E6 a.Covers,E6 b.Covers]) ø (mO a.Covers b.Covers d (Gw hc l)) Ga0 ⟨ø,ø,ø,ø,þ⟩) ø (JLh (BL (c&&d)) (Jf ø ø ø ø) ø (JLm (BL (c&&d)) ø (JLo (.dptr ((H2.cs a).drop 2)) [] ø .sct þ (fun hc=>Gb vT ø ø ø) ø (JLo (.agg (Light.cs a.Light)) [18] ø .sct ⟨Ua,þ⟩ (fun hc=>Gk G21 ø ø ø) ø (JLo (.dptr ((H2.cs b).drop 2)) [] ø .sct þ (fun hc=>Gb vT ø ø ø) ø (JLo (.agg (Light.cs b.Light)) [20] ø .sct ⟨Ua,þ⟩ (fun hc=>Gk G21 ø ø ø) ø (JLo (BL (decide (a.Light=b.Light))) [19,21] ø .sct ⟨Ua,Ua,þ⟩ (fun hc=>hY (vs:=[.int .i64 a.Light.Kilos,.int .i64 a.Light.X,.int .i64 a.Light.Y,.int .i64 a.Light.Z]) (us:=[.int .i64 b.Light.Kilos,.int .i64 b.Light.X,.int .i64 b.Light.Y,.int .i64 b.Light.Z]) 4 ø (Jaa a.Light b.Light) Ga7 H76 ø ø ø) ø (JLh (BL ((c&&d)&&(decide (a.Light=b.Light)))) (Jf ø ø ø ø) ø (JLm (BL ((c&&d)&&(decide (a.Light=b.Light)))) ø (JLo (.dptr ((H2.cs a).drop 6)) [] ø .sct þ (fun hc=>Gb eS ø ø ø) ø (JLo (E8 a.Rows) [25] ø .sct ⟨Ua,þ⟩ (fun hc=>Gj jG ø ø ø) ø (JLo (.dptr ((H2.cs b).drop 6)) [] ø .sct þ (fun hc=>Gb eS ø ø ø) ø (JLo (E8 b.Rows) [27] ø .sct ⟨Ua,þ⟩ (fun hc=>Gj jG ø ø ø) ø ?_)))))))))))))
 obtain⟨e,m,h⟩:=Ge h
 refine JLo (BL e) [26,28] ø .sct ⟨Ua,Ua,þ⟩ (fun hc=>Gq (args:=[E8 a.Rows,E8 b.Rows]) ø (oW a.Rows b.Rows e (Gw hc m)) G9f ⟨ø,ø,ø,ø,þ⟩) ø (JLh (BL (((c&&d)&&(decide (a.Light=b.Light)))&&e)) (Jf ø ø ø ø) ø (JLm (BL (((c&&d)&&(decide (a.Light=b.Light)))&&e)) ø (JLo (.dptr ((H2.cs a).drop 7)) [] ø .sct þ (fun hc=>Gb eR ø ø ø) ø (JLo (E7 a.Frames) [32] ø .sct ⟨Ua,þ⟩ (fun hc=>Gj jF ø ø ø) ø (JLo (.dptr ((H2.cs b).drop 7)) [] ø .sct þ (fun hc=>Gb eR ø ø ø) ø (JLo (E7 b.Frames) [34] ø .sct ⟨Ua,þ⟩ (fun hc=>Gj jF ø ø ø) ø ?_))))))
 obtain⟨f,n,h⟩:=Ge h
 refine JLo (BL f) [33,35] ø .sct ⟨Ua,Ua,þ⟩ (fun hc=>Gq (args:=[E7 a.Frames,E7 b.Frames]) ø (mN a.Frames b.Frames f (Gw hc n)) G9e ⟨ø,ø,ø,ø,þ⟩) ø (JLh (BL ((((c&&d)&&(decide (a.Light=b.Light)))&&e)&&f)) (Jf ø ø ø ø) ø (JLm (BL ((((c&&d)&&(decide (a.Light=b.Light)))&&e)&&f)) ø (JLo (.dptr ((H2.cs a).drop 8)) [] ø .sct þ (fun hc=>Gb eQ ø ø ø) ø (JLo (E9 a.Tanks) [39] ø .sct ⟨Ua,þ⟩ (fun hc=>Gj jE ø ø ø) ø (JLo (.dptr ((H2.cs b).drop 8)) [] ø .sct þ (fun hc=>Gb eQ ø ø ø) ø (JLo (E9 b.Tanks) [41] ø .sct ⟨Ua,þ⟩ (fun hc=>Gj jE ø ø ø) ø ?_))))))
 obtain⟨g,o,h⟩:=Ge h
 refine JLo (BL g) [40,42] ø .sct ⟨Ua,Ua,þ⟩ (fun hc=>Gq (args:=[E9 a.Tanks,E9 b.Tanks]) ø (oE a.Tanks b.Tanks g (Gw hc o)) G9d ⟨ø,ø,ø,ø,þ⟩) ø (JLh (BL (((((c&&d)&&(decide (a.Light=b.Light)))&&e)&&f)&&g)) (Jf ø ø ø ø) ø (JLm (BL (((((c&&d)&&(decide (a.Light=b.Light)))&&e)&&f)&&g)) ø (JLo (.dptr ((H2.cs a).drop 9)) [] ø .sct þ (fun hc=>Gb vS ø ø ø) ø (JLo (.agg ((H2.cs a).drop 9)) [46] ø .sct ⟨Ua,þ⟩ (fun hc=>Gk G20 ø ø ø) ø (JLo (.dptr ((H2.cs b).drop 9)) [] ø .sct þ (fun hc=>Gb vS ø ø ø) ø (JLo (.agg ((H2.cs b).drop 9)) [48] ø .sct ⟨Ua,þ⟩ (fun hc=>Gk G20 ø ø ø) ø (JLo (BL (decide (a.Gp=b.Gp))) [47,49] ø .sct ⟨Ua,Ua,þ⟩ (fun hc=>hY (vs:=[.int .i64 a.Gp.Tolerance,.int .i64 a.Gp.Trim,.int .i64 a.Gp.List_,.int .i64 a.Gp.Stability]) (us:=[.int .i64 b.Gp.Tolerance,.int .i64 b.Gp.Trim,.int .i64 b.Gp.List_,.int .i64 b.Gp.Stability]) 4 ø (Ja9 a.Gp b.Gp) Ga6 H75 ø ø ø) ø (JLh (BL ((((((c&&d)&&(decide (a.Light=b.Light)))&&e)&&f)&&g)&&(decide (a.Gp=b.Gp)))) (Jf ø ø ø ø) ø (JLm (BL ((((((c&&d)&&(decide (a.Light=b.Light)))&&e)&&f)&&g)&&(decide (a.Gp=b.Gp)))) ø (G7 (j ?_)))))))))))
 refine Gt (fin1 BL h)

def Jh (out:Ln Int) (l:List Int):Option Bool:=
 bif decide ((out.1.length:Int)≠(l.length:Int)) then
 (some false)
 else
 (chk ((l.length:Int)+12) fun h=>
  bnd (cN h (out.1++out.2).length) fun i=>
  each (fun b a (e:Unit) d=>
   bnd (bif decide ((a:Int) < (l.length:Int)) then Jx l (a:Int) some else some default) fun c=>
   bnd (bif ((!((decide ((a:Int) < (l.length:Int)))&&(!(decide (b=c)))))&&(decide ((l.length:Int)≤(a:Int)))) then chk ((a:Int) - (l.length:Int)) some else some 0) fun f=>
   bnd (bif ((!((decide ((a:Int) < (l.length:Int)))&&(!(decide (b=c)))))&&(decide ((l.length:Int)≤(a:Int)))) then Hi 1 f else some default) fun g=>
   bif (((decide ((a:Int) < (l.length:Int)))&&(!(decide (b=c))))||((decide ((l.length:Int)≤(a:Int)))&&(!(decide (b=g))))) then
   (some false)
   else
   (d ()))
  (fun(e:Unit)=>
   some true) ((out.1++out.2).take i) 0 ())
theorem cH (out:Ln Int) (l:List Int) (r:Bool) (h:Jh out l=some r):Pure Ej 143 [LT 1 I64 out,E1 l] (·=BL r):=by
 unfold Jh at h
 refine Gy [.tmp 4] Tryz.func143 ø ø (Jr fun a5=>(JLm (BL false) ø (G7 (a5 (Js fun a6=>Jr fun a7=>(JLm (LT 1 I64 out) ø (JLl Gr ø ø ø fun c0=>(JLm (E1 l) ø (JLl Gr ø ø ø fun b6=>(JLh (BL (decide ((out.1.length:Int)≠(l.length:Int)))) (dX ø ø ø) ø (G7 (a7 (JCc ø h (fun h hb=>?_) (fun h hb=>?_))))))))))))))
 ·
  refine Jr fun a8=>(JLm (BL false) ø (G7 (a8 (Gt (fin1 BL h)))))
 ·
  refine Gn (a6 (Jr fun a9=>(JLm (LT 1 I64 out) ø (JLm (E1 l) ø (JLl Gr ø ø ø fun b7=>?_)))))
  obtain⟨v6,b0,h⟩:=Hd h
  refine JLh (I64 v6) (Hf b0 ø ø ø) ø ?_
  obtain⟨g,b1,h⟩:=Ge h
  refine JLh (E1 ((out.1++out.2).take g)) (sS (f:=I64) (e:=out) ø ø ø Gr (Rw b1)) ø (JLm (E1 ((out.1++out.2).take g)) ø (G7 (a9 (Js fun b2=>Jr fun b3=>(JLm (I64 0) ø (G7 (b3 (Gi ?_))))))))
  obtain⟨b4,q,s,p,h⟩:=Jg h
  refine H7 (fun a (j:Unit)=>each b4 q (List.drop a ((out.1++out.2).take g)) a j=some r) (fun a j=>[(1,E1 l),(5,E1 ((out.1++out.2).take g)),(6,Ei a)]) (fun a j=>[]) (fun a=>((out.1++out.2).take g).length - a) 0 () h ⟨(.sm ø ø),þ,ø⟩ ?_
  clear h
  intro a j k c1 b5
  refine Js fun t=>Jr fun u=>(JLm (Ei a) ø (JLm (E1 ((out.1++out.2).take g)) ø (JLl Gr ø ø ø fun v=>(JLh (BL (decide ((a:Int) < (((out.1++out.2).take g).length:Int)))) (Ht ø ø ø) ø (G7 (u (Gm ø (fun hb=>?_) (fun hb=>?_))))))))
  ·
   have m:=Q1 hb
   obtain⟨c,b9,n,w,h⟩:=J4 k m
   replace h:=Zt s h
   refine Gn (t (Js fun x=>Gi (Js fun z=>?_)))
   obtain⟨d,a0,h⟩:=Ge h
   obtain⟨o,a1,h⟩:=Ge h
   obtain⟨i,a2,h⟩:=Ge h
   refine JC_d0 J9 (by kernel_rfl) (Dq (Ei a) (G3 ø ø) ø (Dq (E1 l) (G3 ø ø) ø (Dq (Ei l.length) (Q4 (f:=I64) (xs:=l) Gr ø ø) ø (Dq (BL (decide ((a:Int) < (l.length:Int)))) (Ht ø ø ø) ø (Dq (BL (decide ((a:Int) < (l.length:Int)))) (G3 ø ø) ø (Do (E1 ((out.1++out.2).take g)) [] ø .sct þ (fun hc=>G3 ø ø) ø (Do (Ei a) [] ø .sct þ (fun hc=>G3 ø ø) ø (Do (.dptr [I64 c]) [28,29] ø .sct ⟨Ua,Ua,þ⟩ (fun hc=>Gs (f:=I64) (xs:=((out.1++out.2).take g)) (y:=c) ø ø ø Gr n ø) ø (Do (I64 c) [30] ø .sct ⟨Ua,þ⟩ (fun hc=>Gj Ga ø ø ø) ø (Do (E1 l) [] ø .sct þ (fun hc=>G3 ø ø) ø (Do (Ei a) [] ø .sct þ (fun hc=>G3 ø ø) ø (Do (.dptr [I64 d]) [32,33] ø .sct ⟨Ua,Ua,þ⟩ (fun hc=>(match Qk (Gw hc a0) with | ⟨_,hm_,hy_⟩=>Gs (f:=I64) (xs:=l) (y:=d) ø ø ø Gr hy_ hm_)) ø (Do (I64 d) [34] ø .sct ⟨Ua,þ⟩ (fun hc=>Gj Ga ø ø ø) ø ?_)))))))))))))
   refine Do (BL (decide (c=d))) [31,35] ø .sct ⟨Ua,Ua,þ⟩ (fun hc=>Rk ø ø ø) ø (Do (BL (!(decide (c=d)))) [36] ø .sct ⟨Ua,þ⟩ (fun hc=>Ym (b:=decide (c=d)) ø ø) ø (Dq (BL ((decide ((a:Int) < (l.length:Int)))&&(!(decide (c=d))))) (Jf ø ø ø ø) ø (Dq (BL ((decide ((a:Int) < (l.length:Int)))&&(!(decide (c=d))))) (G3 ø ø) ø (Do (Ei a) [] ø .scf þ (fun hc=>G3 ø ø) ø (Do (E1 l) [] ø .scf þ (fun hc=>G3 ø ø) ø (Do (Ei l.length) [41] ø .scf ⟨Ua,þ⟩ (fun hc=>Q4 (f:=I64) (xs:=l) Gr ø ø) ø (Do (BL (decide ((l.length:Int)≤(a:Int)))) [40,42] ø .scf ⟨Ua,Ua,þ⟩ (fun hc=>dF ø ø ø) ø (Do (BL (decide ((l.length:Int)≤(a:Int)))) [43] ø .scf ⟨Ua,þ⟩ (fun hc=>G3 ø ø) ø (Do (E1 ((out.1++out.2).take g)) [] ø .optt þ (fun hc=>G3 ø ø) ø (Do (Ei a) [] ø .optt þ (fun hc=>G3 ø ø) ø (Do (.dptr [I64 c]) [45,46] ø .optt ⟨Ua,Ua,þ⟩ (fun hc=>Gs (f:=I64) (xs:=((out.1++out.2).take g)) (y:=c) ø ø ø Gr n ø) ø (Do (I64 c) [47] ø .optt ⟨Ua,þ⟩ (fun hc=>Gj Ga ø ø ø) ø (Do (Ei a) [] ø .optt þ (fun hc=>G3 ø ø) ø ?_)))))))))))))
   refine Do (E1 l) [] ø .optt þ (fun hc=>G3 ø ø) ø (Do (Ei l.length) [50] ø .optt ⟨Ua,þ⟩ (fun hc=>Q4 (f:=I64) (xs:=l) Gr ø ø) ø (Do (I64 o) [49,51] ø .optt ⟨Ua,Ua,þ⟩ (fun hc=>cB (bS (Gw hc a1)) ø ø ø) ø (Do (I64 i) [52] ø .optt ⟨Ua,þ⟩ (fun hc=>Gq (args:=[I64 1,I64 o]) ø (Hy 1 o i (Gw hc a2)) Rs ⟨ø,ø,ø,ø,þ⟩) ø (Do (BL (decide (c=i))) [48,53] ø .optt ⟨Ua,Ua,þ⟩ (fun hc=>Rk ø ø ø) ø (Do (BL (!(decide (c=i)))) [54] ø .optt ⟨Ua,þ⟩ (fun hc=>Ym (b:=decide (c=i)) ø ø) ø (Dg (.opt (!((decide ((a:Int) < (l.length:Int)))&&(!(decide (c=d))))) (BL ((decide ((l.length:Int)≤(a:Int)))&&(!(decide (c=i)))))) (Gh [(44,BL (decide ((l.length:Int)≤(a:Int)))),(55,_)] ø ø ø .scf ⟨.all id,.part,þ⟩ (fun hc=>Jf ø ø ø ø) ø) ø (Dq (BL (((decide ((a:Int) < (l.length:Int)))&&(!(decide (c=d))))||((decide ((l.length:Int)≤(a:Int)))&&(!(decide (c=i)))))) (aJ ø ø ø ø) ø (Dnil ?_))))))))
   refine z (JCc ø h (fun h hb=>?_) (fun h hb=>?_))
   ·
    refine Jr fun a3=>(JLm (BL false) ø (G7 (a3 (Gt (fin1 BL h)))))
   ·
    refine Gn (x (G2 (JLm (Ei a) ø (JLh (I64 ((a+1:Nat):Int)) (Hf (Hq m v) ø ø ø) ø (JLm (I64 ((a+1:Nat):Int)) ø (G7 (b5 _ _ (a+1) () (app1 w h) (by omega) ⟨(.sm ø ø),þ,rfl⟩)))))))
  ·
   have h:=app1 p (J5 k (Hg hb))
   refine H5 (b2 (Jr fun a4=>(JLm (BL true) ø (G7 (a4 (Gt (fin1 BL h)))))))

def Rq (x:Gu) (y:Gc):Option Bool:=
 bnd (Ju (Gc.mk x.Bay x.Row x.Deck x.Tiers x.Height x.Kilos20 x.Kilos40 x.Lash x.Plugs.1 x.X x.Y x.Z) y) fun a=>
 bnd (bif a then Jh x.Plugs y.Plugs else some default) fun b=>
 some (a&&b)
theorem mU (x:Gu) (y:Gc) (r:Bool) (h:Rq x y=some r):Pure Ej 133 [.agg (Gu.cs x),.agg (Gc.cs y)] (·=BL r):=by
 unfold Rq at h
 refine Gy [.tmp 4] Tryz.func133 ø ø (Jr fun c=>(JLh (.ptr 1103 0) (Qr (cs:=(Gu.cs x)) 1103 ø ø ø ø ø) ø (JLh (.ptr 1104 0) (Qr (cs:=(Gc.cs y)) 1104 ø ø ø ø ø) ø (JLm (BL false) ø (G7 (c (H1 [(2,.dptr (Gu.cs x)),(3,.ptr 1104 0)] [(1104,.box 71 (Gc.cs y))] 1103 rfl rfl rfl ⟨⟨_,rfl,.boxEq rfl rfl⟩,þ⟩ rfl (by exact⟨.ptr,.conv (.same rfl),þ⟩) ?_)))))))
 refine H1 [(2,.dptr (Gu.cs x)),(3,Ee y)] [] 1104 rfl rfl rfl þ rfl (by exact⟨.conv (.same rfl),.ptr,þ⟩) (Jr fun d=>(JLh (.agg [I64 x.Bay,I64 x.Row,BL x.Deck,I64 x.Tiers,I64 x.Height,I64 x.Kilos20,I64 x.Kilos40,I64 x.Lash,E1 x.Plugs.1,I64 x.X,I64 x.Y,I64 x.Z]) (Gv.cv (Cv.aggL (cs:=(Gu.cs x)) ⟨.same,.same,.same,.same,.same,.same,.same,.same,Cv.lst0 x.Plugs,.same,.same,.same,þ⟩) (Gk Z4 ø ø ø)) ø (JLh (.agg (Gc.cs y)) (Gk Z4 ø ø ø) ø ?_)))
 obtain⟨a,e,h⟩:=Ge h
 refine JLh (BL a) (Gq ø (bH (Gc.mk x.Bay x.Row x.Deck x.Tiers x.Height x.Kilos20 x.Kilos40 x.Lash x.Plugs.1 x.X x.Y x.Z) y a e) tU ⟨ø,ø,ø,ø,þ⟩) ø (JLm (BL a) ø (JLo (.dptr ((Gu.cs x).drop 8)) [] ø .sct þ (fun hc=>Gb Rf ø ø ø) ø (JLo (LT 1 I64 x.Plugs) [9] ø .sct ⟨Ua,þ⟩ (fun hc=>Gj Hv ø ø ø) ø (JLo (.dptr ((Gc.cs y).drop 8)) [] ø .sct þ (fun hc=>Gb Rf ø ø ø) ø (JLo (E1 y.Plugs) [11] ø .sct ⟨Ua,þ⟩ (fun hc=>Gj Hv ø ø ø) ø ?_)))))
 obtain⟨b,f,h⟩:=Ge h
 refine JLo (BL b) [10,12] ø .sct ⟨Ua,Ua,þ⟩ (fun hc=>Gq (args:=[LT 1 I64 x.Plugs,E1 y.Plugs]) ø (cH x.Plugs y.Plugs b (Gw hc f)) tP ⟨ø,ø,ø,ø,þ⟩) ø (JLh (BL (a&&b)) (Jf ø ø ø ø) ø (JLm (BL (a&&b)) ø (G7 (d (Gt (fin1 BL h))))))

def Rc (out:Ln Gu) (l:List Gc):Option Bool:=
 bif decide ((out.1.length:Int)≠(l.length:Int)) then
 (some false)
 else
 (chk ((l.length:Int)+12) fun j=>
  bnd (cN j (out.1++out.2).length) fun k=>
  each (fun a b (e:Unit) d=>
   bnd (bif decide ((b:Int) < (l.length:Int)) then Jx l (b:Int) some else some default) fun f=>
   bnd (bif decide ((b:Int) < (l.length:Int)) then Rq a f else some default) fun c=>
   bnd (bif ((!((decide ((b:Int) < (l.length:Int)))&&(!c)))&&(decide ((l.length:Int)≤(b:Int)))) then chk ((b:Int) - (l.length:Int)) some else some 0) fun g=>
   bnd (bif ((!((decide ((b:Int) < (l.length:Int)))&&(!c)))&&(decide ((l.length:Int)≤(b:Int)))) then Qt 1 g else some default) fun h=>
   bnd (bif ((!((decide ((b:Int) < (l.length:Int)))&&(!c)))&&(decide ((l.length:Int)≤(b:Int)))) then Ju (Gc.mk a.Bay a.Row a.Deck a.Tiers a.Height a.Kilos20 a.Kilos40 a.Lash a.Plugs.1 a.X a.Y a.Z) h else some default) fun i=>
   bif (((decide ((b:Int) < (l.length:Int)))&&(!c))||((decide ((l.length:Int)≤(b:Int)))&&(!i))) then
   (some false)
   else
   (d ()))
  (fun(e:Unit)=>
   some true) ((out.1++out.2).take k) 0 ())
theorem lO (out:Ln Gu) (l:List Gc) (r:Bool) (h:Rc out l=some r):Pure Ej 57 [LT 12 Gu.av out,E5 l] (·=BL r):=by
 unfold Rc at h
 refine Gy [.tmp 4] Tryz.func57 ø ø (Jr fun a9=>(JLm (BL false) ø (G7 (a9 (Js fun b0=>Jr fun b1=>(JLm (LT 12 Gu.av out) ø (JLl Ha ø ø ø fun c4=>(JLm (E5 l) ø (JLl Ha ø ø ø fun c0=>(JLh (BL (decide ((out.1.length:Int)≠(l.length:Int)))) (dX ø ø ø) ø (G7 (b1 (JCc ø h (fun h hb=>?_) (fun h hb=>?_))))))))))))))
 ·
  refine Jr fun b2=>(JLm (BL false) ø (G7 (b2 (Gt (fin1 BL h)))))
 ·
  refine Gn (b0 (Jr fun b3=>(JLm (LT 12 Gu.av out) ø (JLm (E5 l) ø (JLl Ha ø ø ø fun c1=>?_)))))
  obtain⟨v6,b4,h⟩:=Hd h
  refine JLh (I64 v6) (Hf b4 ø ø ø) ø ?_
  obtain⟨g,b5,h⟩:=Ge h
  refine JLh (LS 12 Gu.av ((out.1++out.2).take g)) (sS (f:=Gu.av) (e:=out) ø ø ø Ha (Rw b5)) ø (JLm (LS 12 Gu.av ((out.1++out.2).take g)) ø (G7 (b3 (Js fun b6=>Jr fun b7=>(JLm (I64 0) ø (G7 (b7 (Gi ?_))))))))
  obtain⟨b8,t,u,s,h⟩:=Jg h
  refine H7 (fun c (k:Unit)=>each b8 t (List.drop c ((out.1++out.2).take g)) c k=some r) (fun c k=>[(1,E5 l),(5,LS 12 Gu.av ((out.1++out.2).take g)),(6,Ei c)]) (fun c k=>[]) (fun c=>((out.1++out.2).take g).length - c) 0 () h ⟨(.sm ø ø),þ,ø⟩ ?_
  clear h
  intro c k n c5 b9
  refine Js fun v=>Jr fun w=>(JLm (Ei c) ø (JLm (LS 12 Gu.av ((out.1++out.2).take g)) ø (JLl Ha ø ø ø fun x=>(JLh (BL (decide ((c:Int) < (((out.1++out.2).take g).length:Int)))) (Ht ø ø ø) ø (G7 (w (Gm ø (fun hb=>?_) (fun hb=>?_))))))))
  ·
   have o:=Q1 hb
   obtain⟨a,c3,p,z,h⟩:=J4 n o
   replace h:=Zt u h
   refine Gn (v (Js fun a0=>Gi (Js fun a1=>?_)))
   obtain⟨j,a2,h⟩:=Ge h
   obtain⟨d,a3,h⟩:=Ge h
   obtain⟨q,a4,h⟩:=Ge h
   obtain⟨m,a5,h⟩:=Ge h
   obtain⟨i,a6,h⟩:=Ge h
   refine JC_d0 J9 (by kernel_rfl) (Dq (Ei c) (G3 ø ø) ø (Dq (E5 l) (G3 ø ø) ø (Dq (Ei l.length) (Q4 (f:=Gc.av) (xs:=l) Ha ø ø) ø (Dq (BL (decide ((c:Int) < (l.length:Int)))) (Ht ø ø ø) ø (Dq (BL (decide ((c:Int) < (l.length:Int)))) (G3 ø ø) ø (Do (LS 12 Gu.av ((out.1++out.2).take g)) [] ø .sct þ (fun hc=>G3 ø ø) ø (Do (Ei c) [] ø .sct þ (fun hc=>G3 ø ø) ø (Do (.dptr (Gu.cs a)) [28,29] ø .sct ⟨Ua,Ua,þ⟩ (fun hc=>Gs (f:=Gu.av) (xs:=((out.1++out.2).take g)) (y:=a) ø ø ø Ha p ø) ø (Do (.agg (Gu.cs a)) [30] ø .sct ⟨Ua,þ⟩ (fun hc=>Gk Z4 ø ø ø) ø (Do (E5 l) [] ø .sct þ (fun hc=>G3 ø ø) ø (Do (Ei c) [] ø .sct þ (fun hc=>G3 ø ø) ø (Do (Ee j) [32,33] ø .sct ⟨Ua,Ua,þ⟩ (fun hc=>(match Qk (Gw hc a2) with | ⟨_,hm_,hy_⟩=>Gs (f:=Gc.av) (xs:=l) (y:=j) ø ø ø Ha hy_ hm_)) ø (Do (.agg (Gc.cs j)) [34] ø .sct ⟨Ua,þ⟩ (fun hc=>Gk Z4 ø ø ø) ø ?_)))))))))))))
   refine Do (BL d) [31,35] ø .sct ⟨Ua,Ua,þ⟩ (fun hc=>Gq (args:=[.agg (Gu.cs a),.agg (Gc.cs j)]) ø (mU a j d (Gw hc a3)) G9c ⟨ø,ø,ø,ø,þ⟩) ø (Do (BL (!d)) [36] ø .sct ⟨Ua,þ⟩ (fun hc=>Ym (b:=d) ø ø) ø (Dq (BL ((decide ((c:Int) < (l.length:Int)))&&(!d))) (Jf ø ø ø ø) ø (Dq (BL ((decide ((c:Int) < (l.length:Int)))&&(!d))) (G3 ø ø) ø (Do (Ei c) [] ø .scf þ (fun hc=>G3 ø ø) ø (Do (E5 l) [] ø .scf þ (fun hc=>G3 ø ø) ø (Do (Ei l.length) [41] ø .scf ⟨Ua,þ⟩ (fun hc=>Q4 (f:=Gc.av) (xs:=l) Ha ø ø) ø (Do (BL (decide ((l.length:Int)≤(c:Int)))) [40,42] ø .scf ⟨Ua,Ua,þ⟩ (fun hc=>dF ø ø ø) ø (Do (BL (decide ((l.length:Int)≤(c:Int)))) [43] ø .scf ⟨Ua,þ⟩ (fun hc=>G3 ø ø) ø (Do (LS 12 Gu.av ((out.1++out.2).take g)) [] ø .optt þ (fun hc=>G3 ø ø) ø (Do (Ei c) [] ø .optt þ (fun hc=>G3 ø ø) ø (Do (.dptr (Gu.cs a)) [45,46] ø .optt ⟨Ua,Ua,þ⟩ (fun hc=>Gs (f:=Gu.av) (xs:=((out.1++out.2).take g)) (y:=a) ø ø ø Ha p ø) ø (Do (.agg [I64 a.Bay,I64 a.Row,BL a.Deck,I64 a.Tiers,I64 a.Height,I64 a.Kilos20,I64 a.Kilos40,I64 a.Lash,E1 a.Plugs.1,I64 a.X,I64 a.Y,I64 a.Z]) [47] ø .optt ⟨Ua,þ⟩ (fun hc=>Gv.cv (Cv.aggL (cs:=(Gu.cs a)) ⟨.same,.same,.same,.same,.same,.same,.same,.same,Cv.lst0 a.Plugs,.same,.same,.same,þ⟩) (Gk Z4 ø ø ø)) ø (Do (Ei c) [] ø .optt þ (fun hc=>G3 ø ø) ø ?_)))))))))))))
   refine Do (E5 l) [] ø .optt þ (fun hc=>G3 ø ø) ø (Do (Ei l.length) [50] ø .optt ⟨Ua,þ⟩ (fun hc=>Q4 (f:=Gc.av) (xs:=l) Ha ø ø) ø (Do (I64 q) [49,51] ø .optt ⟨Ua,Ua,þ⟩ (fun hc=>cB (bS (Gw hc a4)) ø ø ø) ø (Do (.agg (Gc.cs m)) [52] ø .optt ⟨Ua,þ⟩ (fun hc=>Gq (args:=[I64 1,I64 q]) ø (fB 1 q m (Gw hc a5)) RH ⟨ø,ø,ø,ø,þ⟩) ø (Do (BL i) [48,53] ø .optt ⟨Ua,Ua,þ⟩ (fun hc=>Gq (args:=[.agg [I64 a.Bay,I64 a.Row,BL a.Deck,I64 a.Tiers,I64 a.Height,I64 a.Kilos20,I64 a.Kilos40,I64 a.Lash,E1 a.Plugs.1,I64 a.X,I64 a.Y,I64 a.Z],.agg (Gc.cs m)]) ø (bH (Gc.mk a.Bay a.Row a.Deck a.Tiers a.Height a.Kilos20 a.Kilos40 a.Lash a.Plugs.1 a.X a.Y a.Z) m i (Gw hc a6)) tU ⟨ø,ø,ø,ø,þ⟩) ø (Do (BL (!i)) [54] ø .optt ⟨Ua,þ⟩ (fun hc=>Ym (b:=i) ø ø) ø (Dg (.opt (!((decide ((c:Int) < (l.length:Int)))&&(!d))) (BL ((decide ((l.length:Int)≤(c:Int)))&&(!i)))) (Gh [(44,BL (decide ((l.length:Int)≤(c:Int)))),(55,_)] ø ø ø .scf ⟨.all id,.part,þ⟩ (fun hc=>Jf ø ø ø ø) ø) ø (Dq (BL (((decide ((c:Int) < (l.length:Int)))&&(!d))||((decide ((l.length:Int)≤(c:Int)))&&(!i)))) (aJ ø ø ø ø) ø (Dnil ?_))))))))
   refine a1 (JCc ø h (fun h hb=>?_) (fun h hb=>?_))
   ·
    refine Jr fun a7=>(JLm (BL false) ø (G7 (a7 (Gt (fin1 BL h)))))
   ·
    refine Gn (a0 (G2 (JLm (Ei c) ø (JLh (I64 ((c+1:Nat):Int)) (Hf (Hq o x) ø ø ø) ø (JLm (I64 ((c+1:Nat):Int)) ø (G7 (b9 _ _ (c+1) () (app1 z h) (by omega) ⟨(.sm ø ø),þ,rfl⟩)))))))
  ·
   have h:=app1 s (J5 n (Hg hb))
   refine H5 (b6 (Jr fun a8=>(JLm (BL true) ø (G7 (a8 (Gt (fin1 BL h)))))))

def Rz (x:H9) (y:Gz):Option Bool:=
 bnd (Jz (Gz.mk x.Bay x.Rows.1) y) fun a=>
 bnd (bif a then Jh x.Rows y.Rows else some default) fun b=>
 some (a&&b)
theorem oJ (x:H9) (y:Gz) (r:Bool) (h:Rz x y=some r):Pure Ej 135 [.agg [I64 x.Bay,LT 1 I64 x.Rows],.agg [I64 y.Bay,E1 y.Rows]] (·=BL r):=by
 unfold Rz at h
 refine Gy [.tmp 4] Tryz.func135 ø ø (Jr fun c=>(JLh (.ptr 1107 0) (Qr (cs:=[I64 x.Bay,LT 1 I64 x.Rows]) 1107 ø ø ø ø ø) ø (JLh (.ptr 1108 0) (Qr (cs:=[I64 y.Bay,E1 y.Rows]) 1108 ø ø ø ø ø) ø (JLm (BL false) ø (G7 (c (H1 [(2,.dptr [I64 x.Bay,LT 1 I64 x.Rows]),(3,.ptr 1108 0)] [(1108,.box 73 [I64 y.Bay,E1 y.Rows])] 1107 rfl rfl rfl ⟨⟨_,rfl,.boxEq rfl rfl⟩,þ⟩ rfl (by exact⟨.ptr,.conv (.same rfl),þ⟩) (H1 [(2,.dptr [I64 x.Bay,LT 1 I64 x.Rows]),(3,.dptr [I64 y.Bay,E1 y.Rows])] [] 1108 rfl rfl rfl þ rfl (by exact⟨.conv (.same rfl),.ptr,þ⟩) ?_))))))))
 refine Jr fun d=>(JLh (.agg [I64 x.Bay,E1 x.Rows.1]) (Gv.cv (Cv.aggL (cs:=[I64 x.Bay,LT 1 I64 x.Rows]) ⟨.same,Cv.lst0 x.Rows,þ⟩) (Gk Zz ø ø ø)) ø (JLh (.agg [I64 y.Bay,E1 y.Rows]) (Gk Zz ø ø ø) ø ?_))
 obtain⟨a,e,h⟩:=Ge h
 refine JLh (BL a) (Gq ø (bV (Gz.mk x.Bay x.Rows.1) y a e) tT ⟨ø,ø,ø,ø,þ⟩) ø (JLm (BL a) ø (JLo (.dptr [LT 1 I64 x.Rows]) [] ø .sct þ (fun hc=>Gb Qj ø ø ø) ø (JLo (LT 1 I64 x.Rows) [9] ø .sct ⟨Ua,þ⟩ (fun hc=>Gj Hv ø ø ø) ø (JLo (.dptr [E1 y.Rows]) [] ø .sct þ (fun hc=>Gb Qj ø ø ø) ø (JLo (E1 y.Rows) [11] ø .sct ⟨Ua,þ⟩ (fun hc=>Gj Hv ø ø ø) ø ?_)))))
 obtain⟨b,f,h⟩:=Ge h
 refine JLo (BL b) [10,12] ø .sct ⟨Ua,Ua,þ⟩ (fun hc=>Gq (args:=[LT 1 I64 x.Rows,E1 y.Rows]) ø (cH x.Rows y.Rows b (Gw hc f)) tP ⟨ø,ø,ø,ø,þ⟩) ø (JLh (BL (a&&b)) (Jf ø ø ø ø) ø (JLm (BL (a&&b)) ø (G7 (d (Gt (fin1 BL h))))))
end
end Go.Proofs.YthkihfoleenlmaaGreat
