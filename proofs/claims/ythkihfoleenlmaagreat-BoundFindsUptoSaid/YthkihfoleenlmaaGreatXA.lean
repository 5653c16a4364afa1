/- Walks of functions. -/
import Derived.Test.YthkihfoleenlmaaGreatSortLay
import Derived.Test.YthkihfoleenlmaaGreatOwnN
set_option maxRecDepth 100000
set_option maxHeartbeats 1000000
set_option linter.unusedVariables false
set_option linter.unusedSimpArgs false
namespace Go.Proofs.YthkihfoleenlmaaGreat
open Go.RowKit
noncomputable section
abbrev Ej:=Tryz.prog
structure Ho where
 n:Int
 low:Int
 high:Int
 deriving DecidableEq,Inhabited
def Ho.cs (x:Ho):List AV:=[I64 x.n,I64 x.low,I64 x.high]
def Ho.av (x:Ho):AV:=.agg x.cs
structure Gc where
 Bay:Int
 Row:Int
 Deck:Bool
 Tiers:Int
 Height:Int
 Kilos20:Int
 Kilos40:Int
 Lash:Int
 Plugs:List Int
 X:Int
 Y:Int
 Z:Int
 deriving DecidableEq,Inhabited
def Gc.cs (x:Gc):List AV:=[I64 x.Bay,I64 x.Row,BL x.Deck,I64 x.Tiers,I64 x.Height,I64 x.Kilos20,I64 x.Kilos40,I64 x.Lash,E1 x.Plugs,I64 x.X,I64 x.Y,I64 x.Z]
def Gc.av (x:Gc):AV:=.agg x.cs
abbrev Ee (x:Gc):AV:=.dptr (Gc.cs x)
abbrev E5:=LS 12 Gc.av
structure Gz where
 Bay:Int
 Rows:List Int
 deriving DecidableEq,Inhabited
def Gz.cs (x:Gz):List AV:=[I64 x.Bay,E1 x.Rows]
def Gz.av (x:Gz):AV:=.agg x.cs
abbrev E6:=LS 2 Gz.av
structure Light where
 Kilos:Int
 X:Int
 Y:Int
 Z:Int
 deriving DecidableEq,Inhabited
def Light.cs (x:Light):List AV:=[I64 x.Kilos,I64 x.X,I64 x.Y,I64 x.Z]
def Light.av (x:Light):AV:=.agg x.cs
structure Row where
 Draught:Int
 Kilos:Int
 Buoy:Int
 Metacentre:Int
 vN:Int
 deriving DecidableEq,Inhabited
def Row.cs (x:Row):List AV:=[I64 x.Draught,I64 x.Kilos,I64 x.Buoy,I64 x.Metacentre,I64 x.vN]
def Row.av (x:Row):AV:=.agg x.cs
abbrev E8:=LS 5 Row.av
structure Frame where
 X:Int
 Light:Int
 Share:Int
 Shear:Int
 Bend:Int
 deriving DecidableEq,Inhabited
def Frame.cs (x:Frame):List AV:=[I64 x.X,I64 x.Light,I64 x.Share,I64 x.Shear,I64 x.Bend]
def Frame.av (x:Frame):AV:=.agg x.cs
abbrev E7:=LS 5 Frame.av
structure He where
 Kilos:Int
 X:Int
 Y:Int
 Z:Int
 Surface:Int
 Steps:List Int
 deriving DecidableEq,Inhabited
def He.cs (x:He):List AV:=[I64 x.Kilos,I64 x.X,I64 x.Y,I64 x.Z,I64 x.Surface,E1 x.Steps]
def He.av (x:He):AV:=.agg x.cs
abbrev Eh (x:He):AV:=.dptr (He.cs x)
abbrev E9:=LS 6 He.av
structure Gp where
 Tolerance:Int
 Trim:Int
 List_:Int
 Stability:Int
 deriving DecidableEq,Inhabited
def Gp.cs (x:Gp):List AV:=[I64 x.Tolerance,I64 x.Trim,I64 x.List_,I64 x.Stability]
def Gp.av (x:Gp):AV:=.agg x.cs
structure H2 where
 Columns:List Gc
 Covers:List Gz
 Light:Light
 Rows:List Row
 Frames:List Frame
 Tanks:List He
 Gp:Gp
 deriving DecidableEq,Inhabited
def H2.cs (x:H2):List AV:=[E5 x.Columns,E6 x.Covers,I64 x.Light.Kilos,I64 x.Light.X,I64 x.Light.Y,I64 x.Light.Z,E8 x.Rows,E7 x.Frames,E9 x.Tanks,I64 x.Gp.Tolerance,I64 x.Gp.Trim,I64 x.Gp.List_,I64 x.Gp.Stability]
def H2.av (x:H2):AV:=.agg x.cs
abbrev Ec (x:H2):AV:=.dptr (H2.cs x)
structure Hc where
 e0:Int
 e1:Int
 e2:Int
 deriving DecidableEq,Inhabited
def Hc.cs (x:Hc):List AV:=[I64 x.e0,I64 x.e1,I64 x.e2]
def Hc.av (x:Hc):AV:=.agg x.cs
def Hc.ks (x:Hc):List Value:=[.int .i64 x.e0,.int .i64 x.e1,.int .i64 x.e2]
def Hc.kv (x:Hc):Value:=.agg x.ks.toArray
structure G5 where
 Load:Int
 Discharge:Int
 deriving DecidableEq,Inhabited
def G5.cs (x:G5):List AV:=[I64 x.Load,I64 x.Discharge]
def G5.av (x:G5):AV:=.agg x.cs
abbrev E2:=LS 2 G5.av
structure G1 where
 G5:G5
 Whole:Int
 Half:Int
 deriving DecidableEq,Inhabited
def G1.cs (x:G1):List AV:=[I64 x.G5.Load,I64 x.G5.Discharge,I64 x.Whole,I64 x.Half]
def G1.av (x:G1):AV:=.agg x.cs
abbrev Ed (x:G1):AV:=.dptr (G1.cs x)
abbrev E4:=LS 4 G1.av
structure Box where
 ID:Int
 Number:ByteArray
 Size:Int
 High:Bool
 Kilos:Int
 Load:Int
 Discharge:Int
 Class:Int
 Reefer:Bool
 deriving DecidableEq,Inhabited
def Box.cs (x:Box):List AV:=[I64 x.ID,ST x.Number,U8 x.Size,BL x.High,I64 x.Kilos,I64 x.Load,I64 x.Discharge,U8 x.Class,BL x.Reefer]
def Box.av (x:Box):AV:=.agg x.cs
abbrev Ef (x:Box):AV:=.dptr (Box.cs x)
abbrev E3:=LS 9 Box.av
def G5.ks (x:G5):List Value:=[.int .i64 x.Load,.int .i64 x.Discharge]
def G5.kv (x:G5):Value:=.agg x.ks.toArray
def G1.vs (x:G1):List Value:=[.int .i64 x.G5.Load,.int .i64 x.G5.Discharge,.int .i64 x.Whole,.int .i64 x.Half]
namespace XAF
theorem zJ (a b:G5):pX Ej 4 139 [.int .i64 a.Load,.int .i64 a.Discharge] [.int .i64 b.Load,.int .i64 b.Discharge]=some (decide (a=b)):=by
 refine(show _=some ((a.Load==b.Load)&&((a.Discharge==b.Discharge)&&true)) by kernel_rfl).trans (congrArg some ?_)
 rw [Bool.eq_iff_iff]
 simp only [P7,beq_iff_eq,P8,Bool.and_true]
 constructor
 ·intro h; obtain⟨_,_⟩:=a; obtain⟨_,_⟩:=b; simp_all
 ·intro h; subst h; simp
theorem J60 (a b:Hc):pX Ej 4 186 [.int .i64 a.e0,.int .i64 a.e1,.int .i64 a.e2] [.int .i64 b.e0,.int .i64 b.e1,.int .i64 b.e2]=some (decide (a=b)):=by
 refine(show _=some ((a.e0==b.e0)&&((a.e1==b.e1)&&((a.e2==b.e2)&&true))) by kernel_rfl).trans (congrArg some ?_)
 rw [Bool.eq_iff_iff]
 simp only [P7,beq_iff_eq,P8,Bool.and_true]
 constructor
 ·intro h; obtain⟨_,_,_⟩:=a; obtain⟨_,_,_⟩:=b; simp_all
 ·intro h; subst h; simp
theorem Hm:eY Ej 139 2=true:=by kernel_rfl
theorem Qw:eY Ej 155 4=true:=by kernel_rfl
theorem H1b:eY Ej 256 3=true:=by kernel_rfl
theorem Z4:eY Ej 71 12=true:=by kernel_rfl
theorem Zz:eY Ej 73 2=true:=by kernel_rfl
theorem iL:eY Ej 77 9=true:=by kernel_rfl
theorem RP:J70 Ej 186 3 1=true:=by kernel_rfl
theorem Ga4:H8 Ej 100=true:=by kernel_rfl
theorem HP:H8 Ej 168=true:=by kernel_rfl
theorem HN:H8 Ej 169=true:=by kernel_rfl
theorem G96:H8 Ej 170=true:=by kernel_rfl
theorem HH:H8 Ej 184=true:=by kernel_rfl
theorem G89:H8 Ej 218=true:=by kernel_rfl
theorem HG:H8 Ej 219=true:=by kernel_rfl
theorem HE:H8 Ej 248=true:=by kernel_rfl
theorem fK:Qd Ej 155 4 32=true:=by kernel_rfl
theorem Jm:Je Ej 139 0 0=true:=by kernel_rfl
theorem Jv:Je Ej 139 1 1=true:=by kernel_rfl
theorem Q0:Je Ej 155 0 0=true:=by kernel_rfl
theorem aN:Je Ej 155 1 2=true:=by kernel_rfl
theorem aM:Je Ej 155 2 3=true:=by kernel_rfl
theorem tG:Je Ej 256 0 0=true:=by kernel_rfl
theorem RC:Je Ej 256 1 1=true:=by kernel_rfl
theorem RB:Je Ej 256 2 2=true:=by kernel_rfl
theorem J1:Je Ej 32 0 0=true:=by kernel_rfl
theorem Qv:Je Ej 32 1 1=true:=by kernel_rfl
theorem cT:Je Ej 71 0 0=true:=by kernel_rfl
theorem cS:Je Ej 71 1 1=true:=by kernel_rfl
theorem jI:Je Ej 71 10 10=true:=by kernel_rfl
theorem jH:Je Ej 71 11 11=true:=by kernel_rfl
theorem gG:Je Ej 71 2 2=true:=by kernel_rfl
theorem Zj:Je Ej 71 3 3=true:=by kernel_rfl
theorem kR:Je Ej 71 4 4=true:=by kernel_rfl
theorem kQ:Je Ej 71 5 5=true:=by kernel_rfl
theorem kP:Je Ej 71 6 6=true:=by kernel_rfl
theorem kO:Je Ej 71 7 7=true:=by kernel_rfl
theorem Rf:Je Ej 71 8 8=true:=by kernel_rfl
theorem kN:Je Ej 71 9 9=true:=by kernel_rfl
theorem bN:Je Ej 73 0 0=true:=by kernel_rfl
theorem Qj:Je Ej 73 1 1=true:=by kernel_rfl
theorem bM:Je Ej 77 2 2=true:=by kernel_rfl
theorem aD:Je Ej 77 5 5=true:=by kernel_rfl
theorem aC:Je Ej 77 6 6=true:=by kernel_rfl
theorem iA:dO Ej 185 186 3=true:=by kernel_rfl
theorem jY:dO Ej 239 139 155=true:=by kernel_rfl
theorem J9:Ej.follows .mixedOrders=true:=by kernel_rfl
theorem bL:placesOf Ej 139=some [(0,1),(1,1)]:=by kernel_rfl
theorem Yt:placesOf Ej 256=some [(0,1),(1,1),(2,1)]:=by kernel_rfl
theorem Jd:Ja Ej 22=true:=by kernel_rfl
theorem Y2:Ja Ej 23=true:=by kernel_rfl
theorem Ga:Ja Ej 3=true:=by kernel_rfl
theorem fJ:Ja Ej 4=true:=by kernel_rfl
theorem dY:Ja Ej 5=true:=by kernel_rfl
theorem Hv:Ja Ej 51=true:=by kernel_rfl
theorem cL:Rg Ej 139 2=true:=by kernel_rfl
theorem bJ:Rg Ej 155 4=true:=by kernel_rfl
theorem G81:Rg Ej 256 3=true:=by kernel_rfl
theorem Zy:Rg Ej 3 1=true:=by kernel_rfl
theorem jX:Rg Ej 71 12=true:=by kernel_rfl
theorem jW:Rg Ej 73 2=true:=by kernel_rfl
theorem nF:Rg Ej 77 9=true:=by kernel_rfl
theorem H6:sliceB Ej 146 155 4=true:=by kernel_rfl
theorem Ha:sliceB Ej 22 71 12=true:=by kernel_rfl
theorem J6:sliceB Ej 23 73 2=true:=by kernel_rfl
theorem mD:sliceB Ej 254 256 3=true:=by kernel_rfl
theorem Hz:sliceB Ej 33 77 9=true:=by kernel_rfl
theorem Gr:sliceB Ej 51 3 1=true:=by kernel_rfl
theorem cK:(Ej.info? 139).bind (fun i=>i.zero.map Value.cells)=some (List.toArray [E0,E0]):=by kernel_rfl
theorem GZ:(Ej.info? 186).bind (fun i=>i.zero.map Value.cells)=some (List.toArray [E0,E0,E0]):=by kernel_rfl
theorem aL:(Ej.info? 256).bind (fun i=>i.zero.map Value.cells)=some (List.toArray [E0,E0,E0]):=by kernel_rfl
theorem Z1:Rr Ej 139 2=true:=by kernel_rfl
theorem R7:Rr Ej 155 4=true:=by kernel_rfl
theorem rG:Rr Ej 256 3=true:=by kernel_rfl
theorem eD:Rr Ej 3 1=true:=by kernel_rfl
theorem fH:Rr Ej 71 12=true:=by kernel_rfl
theorem iH:Rr Ej 73 2=true:=by kernel_rfl
theorem fG:Rr Ej 77 9=true:=by kernel_rfl
theorem G1d:(Ej.info? 155).bind (·.zero)=some (.agg #[E0,E0,E0,E0]):=by kernel_rfl
theorem mC:(Ej.info? 3).bind (·.zero)=some E0:=by kernel_rfl
theorem wC:pF Ej 139 G5.kv:=pF.of_eq G5.ks (by kernel_rfl) (fun a b h=>by simp only [G5.ks,List.cons.injEq,Value.int.injEq,Value.bool.injEq,Value.string.injEq,true_and,and_true] at h; obtain⟨_,_⟩:=a; obtain⟨_,_⟩:=b; simp_all) 4 (by decide) (fun a b=>zJ a b) (fun a=>by kernel_rfl) (fun a=>by simp [Instr.sameBits,G5.ks])
theorem zK:pF Ej 186 Hc.kv:=pF.of_eq Hc.ks (by kernel_rfl) (fun a b h=>by simp only [Hc.ks,List.cons.injEq,Value.int.injEq,Value.bool.injEq,Value.string.injEq,true_and,and_true] at h; obtain⟨_,_,_⟩:=a; obtain⟨_,_,_⟩:=b; simp_all) 4 (by decide) (fun a b=>J60 a b) (fun a=>by kernel_rfl) (fun a=>by simp [Instr.sameBits,Hc.ks])
end XAF
open XAF

def dQ (l:List Ho):Option Bool:=
 each (fun a d (c:Unit) b=>
  bif ((decide (a.n < a.low))||(decide (a.high < a.n))) then
  (some false)
  else
  (b ()))
 (fun(c:Unit)=>
  some true) l 0 ()
theorem qV (l:List Ho) (r:Bool) (h:dQ l=some r):Pure Ej 184 [LS 3 Ho.av l] (·=BL r):=by
 unfold dQ at h
 refine Gy [.tmp 2] Tryz.func184 ø ø (Jr fun x=>(JLm (BL false) ø (G7 (x (Js fun z=>Jr fun a0=>(JLm (LS 3 Ho.av l) ø (JLl mD ø ø ø fun a1=>(JLm (I64 0) ø (G7 (a0 (Gi ?_)))))))))))
 obtain⟨a2,i,j,g,h⟩:=Jg h
 refine H7 (fun b (c:Unit)=>each a2 i (List.drop b l) b c=some r) (fun b c=>[(5,LS 3 Ho.av l),(6,Ei l.length),(7,Ei b)]) (fun b c=>[]) (fun b=>l.length - b) 0 () h ⟨(.sm ø ø),þ,ø⟩ ?_
 clear h
 intro b c d a5 a3
 refine Jr fun k=>(JLh (BL (decide ((b:Int) < (l.length:Int)))) (Ht ø ø ø) ø (G7 (k (Js fun m=>Gm ø (fun hb=>?_) (fun hb=>?_)))))
 ·
  have e:=Q1 hb
  obtain⟨a,a4,o,p,h⟩:=J4 d e
  replace h:=Zt j h
  refine Gn (m (Js fun q=>Gi (Jr fun s=>(JLh (.dptr [I64 a.n,I64 a.low,I64 a.high]) (Gs (f:=Ho.av) (xs:=l) (y:=a) ø ø ø mD o ø) ø (JLh (.agg [I64 a.n,I64 a.low,I64 a.high]) (Gk H1b ø ø ø) ø (JLh (.ptr 1141 0) (Q3 1141 3 rG ø ø) ø (J7 (u:=.junk) (Hw (u:=.agg [I64 a.n,I64 a.low,I64 a.high]) (ds:=[I64 a.n,I64 a.low,I64 a.high]) G81 ø ø ø ø ø ø ø ø) (G7 (s (fzQ [(4,.dptr [I64 a.n,I64 a.low,I64 a.high]),(5,LS 3 Ho.av l),(6,Ei l.length),(7,Ei b)] [] 1141 rfl rfl rfl þ rfl ?_))))))))))
  refine Jr fun t=>(JLh (.dptr [I64 a.n,I64 a.low,I64 a.high]) (Gb tG ø ø ø) ø (JLh (I64 a.n) (Gj Ga ø ø ø) ø (JLh (.dptr [I64 a.low,I64 a.high]) (Gb RC ø ø ø) ø (JLh (I64 a.low) (Gj Ga ø ø ø) ø (JLh (BL (decide (a.n < a.low))) (Ht ø ø ø) ø (JLm (BL (decide (a.n < a.low))) ø (JLo (.dptr [I64 a.n,I64 a.low,I64 a.high]) [] ø .scf þ (fun hc=>Gb tG ø ø ø) ø (JLo (I64 a.n) [17] ø .scf ⟨Ua,þ⟩ (fun hc=>Gj Ga ø ø ø) ø (JLo (.dptr [I64 a.high]) [] ø .scf þ (fun hc=>Gb RB ø ø ø) ø (JLo (I64 a.high) [19] ø .scf ⟨Ua,þ⟩ (fun hc=>Gj Ga ø ø ø) ø (JLo (BL (decide (a.high < a.n))) [18,20] ø .scf ⟨Ua,Ua,þ⟩ (fun hc=>Ya ø ø ø) ø (JLh (BL ((decide (a.n < a.low))||(decide (a.high < a.n)))) (aJ ø ø ø ø) ø (G7 (t ?_))))))))))))))
  refine JCc ø h ?_ ?_<;>intro h hb
  ·
   refine Jr fun v=>(JLm (BL false) ø (G7 (v (Gt (fin1 BL h)))))
  ·
   refine Gn (q (G2 (JLh (I64 ((b+1:Nat):Int)) (Hf (Hq e a1) ø ø ø) ø (JLm (I64 ((b+1:Nat):Int)) ø (G7 (a3 _ _ (b+1) () (app1 p h) (by omega) ⟨(.sm ø ø),þ,rfl⟩))))))
 ·
  have h:=app1 g (J5 d (Hg hb))
  refine H5 (z (Jr fun w=>(JLm (BL true) ø (G7 (w (Gt (fin1 BL h)))))))

def fW (c:Gc):Option Bool:=
 each (fun d a (f:Unit) e=>
  wrp (c.Tiers - 1) fun g=>
  bnd (dQ [(Ho.mk d 0 g)]) fun b=>
  bnd (bif ((!(!b))&&(decide (0 < (a:Int)))) then some (IntKind.i64.wrap ((a:Int) - 1)) else some 0) fun h=>
  bnd (bif ((!(!b))&&(decide (0 < (a:Int)))) then Jx c.Plugs h some else some default) fun i=>
  bif ((!b)||((decide (0 < (a:Int)))&&(decide (d≤i)))) then
  (some false)
  else
  (e ()))
 (fun(f:Unit)=>
  bnd (dQ [(Ho.mk c.Bay 0 39),(Ho.mk c.Row 0 30),(Ho.mk c.Tiers 1 10),(Ho.mk c.Height 0 40000),(Ho.mk c.Kilos20 0 500000000),(Ho.mk c.Kilos40 0 500000000),(Ho.mk c.Lash 0 1000000000000),(Ho.mk c.X (-500000) 500000),(Ho.mk c.Y (-500000) 500000),(Ho.mk c.Z (-500000) 500000)]) fun j=>
  some j) c.Plugs 0 ()
abbrev Ek (c:Gc):List Ho:=[(Ho.mk c.Bay 0 39),(Ho.mk c.Row 0 30),(Ho.mk c.Tiers 1 10),(Ho.mk c.Height 0 40000),(Ho.mk c.Kilos20 0 500000000),(Ho.mk c.Kilos40 0 500000000),(Ho.mk c.Lash 0 1000000000000),(Ho.mk c.X (-500000) 500000),(Ho.mk c.Y (-500000) 500000),(Ho.mk c.Z (-500000) 500000)]
abbrev Em (c:Gc):List AV:=[I64 c.Tiers,I64 c.Height,I64 c.Kilos20,I64 c.Kilos40,I64 c.Lash,E1 c.Plugs,I64 c.X,I64 c.Y,I64 c.Z]
abbrev En (c:Gc):List AV:=[I64 c.Lash,I64 0,I64 1000000000000]
abbrev Eo (c:Gc):List AV:=[I64 c.Kilos20,I64 0,I64 500000000]
abbrev Ep (c:Gc):List AV:=[I64 c.Kilos40,I64 0,I64 500000000]
abbrev Er (c:Gc):List AV:=[I64 c.Z,I64 (-500000),I64 500000]
abbrev Es (c:Gc):List AV:=[I64 c.Y,I64 (-500000),I64 500000]
abbrev Eu (c:Gc):List AV:=[I64 c.X,I64 (-500000),I64 500000]
abbrev Ev (c:Gc):List AV:=[I64 c.Height,I64 0,I64 40000]
theorem ZB (c:Gc) (r:Bool) (h:fW c=some r):Pure Ej 100 [.agg (Gc.cs c)] (·=BL r):=by
 unfold fW at h
 refine Gy [.tmp 2] Tryz.func100 ø ø (Jr fun a7=>(JLh (.ptr 1101 0) (Qr (cs:=(Gc.cs c)) 1101 ø ø ø ø ø) ø (JLm (BL false) ø (G7 (a7 (H1 [(1,Ee c)] [] 1101 rfl rfl rfl þ rfl (by exact⟨.ptr,þ⟩) (Jr fun a8=>(JLm (.fn 184 []) ø (G7 (a8 (Js fun a9=>Jr fun b0=>(JLh (.dptr [E1 c.Plugs,I64 c.X,I64 c.Y,I64 c.Z]) (Gb Rf ø ø ø) ø (JLh (E1 c.Plugs) (Gj Hv ø ø ø) ø (JLl Gr ø ø ø fun b1=>(JLm (I64 0) ø (G7 (b0 (Gi ?_))))))))))))))))))
 obtain⟨b2,o,p,n,h⟩:=Jg h
 refine H7 (fun a (j:Unit)=>each b2 o (List.drop a c.Plugs) a j=some r) (fun a j=>[(1,Ee c),(3,.fn 184 []),(7,E1 c.Plugs),(8,Ei c.Plugs.length),(9,Ei a)]) (fun a j=>[]) (fun a=>c.Plugs.length - a) 0 () h ⟨(.sm ø ø),þ,rfl⟩ ?_
 clear h
 intro a j k b6 b3
 refine Jr fun q=>(JLh (BL (decide ((a:Int) < (c.Plugs.length:Int)))) (Ht ø ø ø) ø (G7 (q (Js fun s=>Gm ø (fun hb=>?_) (fun hb=>?_)))))
 ·
  have l:=Q1 hb
  obtain⟨d,b5,t,v,h⟩:=J4 k l
  replace h:=Zt p h
  refine Gn (s (Js fun w=>Gi (Jr fun x=>(JLm (Ei a) ø (JLh (.dptr [I64 d]) (Gs (f:=I64) (xs:=c.Plugs) (y:=d) ø ø ø Gr t ø) ø (JLh (I64 d) (Gj Ga ø ø ø) ø (JLm (Ei a) ø (JLm (I64 d) ø (G7 (x (Jr fun z=>(JLm (.fn 184 []) ø (JLm (I64 d) ø (JLh (.dptr (Em c)) (Gb Zj ø ø ø) ø (JLh (I64 c.Tiers) (Gj Ga ø ø ø) ø ?_)))))))))))))))
  obtain⟨e,a0,h⟩:=Hfc h
  refine JLh (I64 e) (cB a0 ø ø ø) ø (JLh (.agg [I64 d,I64 0,I64 e]) (Jj (cs:=[I64 d,I64 0,I64 e]) [(0,1),(1,1),(2,1)] [I64 0,I64 0,I64 0] [E0,E0,E0] Yt aL (zzQ ø) ø ø) ø (JLh (LS 3 Ho.av [(Ho.mk d 0 e)]) (Hn (xs:=[.agg [I64 d,I64 0,I64 e]]) ø ⟨ø,ø,þ⟩ mD rG ø ø ø ø) ø ?_))
  obtain⟨g,a1,h⟩:=Ge h
  refine JLh (BL g) (rD (args:=[LS 3 Ho.av [(Ho.mk d 0 e)]]) (caps:=[]) ø ø (qV [(Ho.mk d 0 e)] g a1) HH ⟨ø,ø,þ⟩ ø) ø (JLh (BL (!g)) (Ym (b:=g) ø ø) ø (JLm (BL (!g)) ø (JLo (Ei a) [] ø .scf þ (fun hc=>G3 ø ø) ø (JLo (BL (decide (0 < (a:Int)))) [24] ø .scf ⟨Ua,þ⟩ (fun hc=>Ya ø ø ø) ø (JLo (BL (decide (0 < (a:Int)))) [25] ø .scf ⟨Ua,þ⟩ (fun hc=>G3 ø ø) ø (JLo (I64 d) [] ø .optt þ (fun hc=>G3 ø ø) ø (JLo (.dptr [E1 c.Plugs,I64 c.X,I64 c.Y,I64 c.Z]) [] ø .optt þ (fun hc=>Gb Rf ø ø ø) ø (JLo (E1 c.Plugs) [28] ø .optt ⟨Ua,þ⟩ (fun hc=>Gj Hv ø ø ø) ø (JLo (Ei a) [] ø .optt þ (fun hc=>G3 ø ø) ø ?_)))))))))
  obtain⟨b4,a2,h⟩:=Ge h
  refine JLo (I64 b4) [30] ø .optt ⟨Ua,þ⟩ (fun hc=>cB (Nv (Gw hc a2)) ø ø ø) ø ?_
  obtain⟨i,a3,h⟩:=Ge h
  refine JLo (.dptr [I64 i]) [29,31] ø .optt ⟨Ua,Ua,þ⟩ (fun hc=>(match Qk (Gw hc a3) with | ⟨_,hm_,hy_⟩=>Gs (f:=I64) (xs:=c.Plugs) (y:=i) ø ø ø Gr hy_ hm_)) ø (JLo (I64 i) [32] ø .optt ⟨Ua,þ⟩ (fun hc=>Gj Ga ø ø ø) ø (JLo (BL (decide (d≤i))) [27,33] ø .optt ⟨Ua,Ua,þ⟩ (fun hc=>oO ø ø ø) ø (Gd (u:=BL ((decide (0 < (a:Int)))&&(decide (d≤i)))) [(26,BL (decide (0 < (a:Int)))),(34,_)] ø ø ø .scf ⟨.all id,.part,þ⟩ (fun hc=>Jf ø ø ø ø) ?_)))
  refine JLh (BL ((!g)||((decide (0 < (a:Int)))&&(decide (d≤i))))) (aJ ø ø ø ø) ø (G7 (z (JCc ø h (fun h hb=>?_) (fun h hb=>?_))))
  ·
   refine Jr fun a4=>(JLm (BL false) ø (G7 (a4 (Gt (fin1 BL h)))))
  ·
   refine Gn (w (G2 (JLh (I64 ((a+1:Nat):Int)) (Hf (Hq l b1) ø ø ø) ø (JLm (I64 ((a+1:Nat):Int)) ø (G7 (b3 _ _ (a+1) () (app1 v h) (by omega) ⟨(.sm ø ø),þ,rfl⟩))))))
 ·
  have h:=app1 n (J5 k (Hg hb))
  refine H5 (a9 ?_)
  refine Jr fun a5=>(JLm (.fn 184 []) ø (JLh (Ee c) (Gb cT ø ø ø) ø (JLh (I64 c.Bay) (Gj Ga ø ø ø) ø (JLh (.agg [I64 c.Bay,I64 0,I64 39]) (Jj (cs:=[I64 c.Bay,I64 0,I64 39]) [(0,1),(1,1),(2,1)] [I64 0,I64 0,I64 0] [E0,E0,E0] Yt aL (zzQ ø) ø ø) ø (JLh (.dptr [I64 c.Row,BL c.Deck,I64 c.Tiers,I64 c.Height,I64 c.Kilos20,I64 c.Kilos40,I64 c.Lash,E1 c.Plugs,I64 c.X,I64 c.Y,I64 c.Z]) (Gb cS ø ø ø) ø (JLh (I64 c.Row) (Gj Ga ø ø ø) ø (JLh (.agg [I64 c.Row,I64 0,I64 30]) (Jj (cs:=[I64 c.Row,I64 0,I64 30]) [(0,1),(1,1),(2,1)] [I64 0,I64 0,I64 0] [E0,E0,E0] Yt aL (zzQ ø) ø ø) ø (JLh (.dptr (Em c)) (Gb Zj ø ø ø) ø (JLh (I64 c.Tiers) (Gj Ga ø ø ø) ø (JLh (.agg [I64 c.Tiers,I64 1,I64 10]) (Jj (cs:=[I64 c.Tiers,I64 1,I64 10]) [(0,1),(1,1),(2,1)] [I64 0,I64 0,I64 0] [E0,E0,E0] Yt aL (zzQ ø) ø ø) ø (JLh (.dptr [I64 c.Height,I64 c.Kilos20,I64 c.Kilos40,I64 c.Lash,E1 c.Plugs,I64 c.X,I64 c.Y,I64 c.Z]) (Gb kR ø ø ø) ø (JLh (I64 c.Height) (Gj Ga ø ø ø) ø (JLh (.agg (Ev c)) (Jj (cs:=(Ev c)) [(0,1),(1,1),(2,1)] [I64 0,I64 0,I64 0] [E0,E0,E0] Yt aL (zzQ ø) ø ø) ø ?_)))))))))))))
  refine JLh (.dptr [I64 c.Kilos20,I64 c.Kilos40,I64 c.Lash,E1 c.Plugs,I64 c.X,I64 c.Y,I64 c.Z]) (Gb kQ ø ø ø) ø (JLh (I64 c.Kilos20) (Gj Ga ø ø ø) ø (JLh (.agg (Eo c)) (Jj (cs:=(Eo c)) [(0,1),(1,1),(2,1)] [I64 0,I64 0,I64 0] [E0,E0,E0] Yt aL (zzQ ø) ø ø) ø (JLh (.dptr [I64 c.Kilos40,I64 c.Lash,E1 c.Plugs,I64 c.X,I64 c.Y,I64 c.Z]) (Gb kP ø ø ø) ø (JLh (I64 c.Kilos40) (Gj Ga ø ø ø) ø (JLh (.agg (Ep c)) (Jj (cs:=(Ep c)) [(0,1),(1,1),(2,1)] [I64 0,I64 0,I64 0] [E0,E0,E0] Yt aL (zzQ ø) ø ø) ø (JLh (.dptr [I64 c.Lash,E1 c.Plugs,I64 c.X,I64 c.Y,I64 c.Z]) (Gb kO ø ø ø) ø (JLh (I64 c.Lash) (Gj Ga ø ø ø) ø (JLh (.agg (En c)) (Jj (cs:=(En c)) [(0,1),(1,1),(2,1)] [I64 0,I64 0,I64 0] [E0,E0,E0] Yt aL (zzQ ø) ø ø) ø (JLh (.dptr [I64 c.X,I64 c.Y,I64 c.Z]) (Gb kN ø ø ø) ø (JLh (I64 c.X) (Gj Ga ø ø ø) ø (JLh (.agg (Eu c)) (Jj (cs:=(Eu c)) [(0,1),(1,1),(2,1)] [I64 0,I64 0,I64 0] [E0,E0,E0] Yt aL (zzQ ø) ø ø) ø (JLh (.dptr [I64 c.Y,I64 c.Z]) (Gb jI ø ø ø) ø (JLh (I64 c.Y) (Gj Ga ø ø ø) ø ?_)))))))))))))
  refine JLh (.agg (Es c)) (Jj (cs:=(Es c)) [(0,1),(1,1),(2,1)] [I64 0,I64 0,I64 0] [E0,E0,E0] Yt aL (zzQ ø) ø ø) ø (JLh (.dptr [I64 c.Z]) (Gb jH ø ø ø) ø (JLh (I64 c.Z) (Gj Ga ø ø ø) ø (JLh (.agg (Er c)) (Jj (cs:=(Er c)) [(0,1),(1,1),(2,1)] [I64 0,I64 0,I64 0] [E0,E0,E0] Yt aL (zzQ ø) ø ø) ø (JLh (LS 3 Ho.av (Ek c)) (Hn (xs:=[.agg [I64 c.Bay,I64 0,I64 39],.agg [I64 c.Row,I64 0,I64 30],.agg [I64 c.Tiers,I64 1,I64 10],.agg (Ev c),.agg (Eo c),.agg (Ep c),.agg (En c),.agg (Eu c),.agg (Es c),.agg (Er c)]) ø ⟨ø,ø,ø,ø,ø,ø,ø,ø,ø,ø,ø,ø,ø,ø,ø,ø,ø,ø,ø,ø,þ⟩ mD rG ø ø ø ø) ø ?_))))
  obtain⟨m,a6,h⟩:=Ge h
  refine JLh (BL m) (rD (args:=[LS 3 Ho.av (Ek c)]) (caps:=[]) ø ø (qV (Ek c) m a6) HH ⟨ø,ø,þ⟩ ø) ø (JLm (BL m) ø (G7 (a5 (Gt (fin1 BL h)))))

def jP (s:H2) (Rp:Bool→Prop):Option Prop:=
 bif (((decide ((s.Columns.length:Int) < 1))||(decide (200 < (s.Columns.length:Int))))||(decide (40 < (s.Covers.length:Int)))) then
 (some (Rp false))
 else
 (each (fun c y (f:(Hj Hc Int)) m=>
   jp (fun g=>
    bif c.Deck then
    (g 1)
    else
    (g 0)) fun(k:Int)=>
   bnd (some (Hj.get f (Hc.mk c.Bay c.Row k) 0)) fun v=>
   chk (v+1) fun w=>
   bnd (fW c) fun x=>
   bif (!x) then
   (some (Rp false))
   else
   (m (Hj.put f (Hc.mk c.Bay c.Row k) w)))
  (fun(f:(Hj Hc Int))=>
   each (fun b z (h:(Hj Hc Int)) n=>
    bif (((decide (b.Bay < 0))||(decide (40≤b.Bay)))||(decide ((b.Rows.length:Int)=0))) then
    (some (Rp false))
    else
    (each (fun a d (e:(Hj Hc Int)) i=>
      bnd (bif ((!((decide (a < 0))||(decide (30 < a))))&&(decide (0 < (d:Int)))) then chk ((d:Int) - 1) some else some 0) fun o=>
      bnd (bif ((!((decide (a < 0))||(decide (30 < a))))&&(decide (0 < (d:Int)))) then Jx b.Rows o some else some default) fun p=>
      bif (((decide (a < 0))||(decide (30 < a)))||((decide (0 < (d:Int)))&&(decide (a≤p)))) then
      (some (Rp false))
      else
      (bnd (some (Hj.get e (Hc.mk b.Bay a 2) 0)) fun q=>
       chk (q+1) fun r=>
       i (Hj.put e (Hc.mk b.Bay a 2) r)))
     (fun(e:(Hj Hc Int))=>
      n e) b.Rows 0 h))
   (fun(h:(Hj Hc Int))=>
    YL (fun(t:Hc×Int) (u:Unit) j=>
     bif decide (1 < t.2) then
     (lft (some (Rp false)))
     else
     (j ()))
    (fun(u:Unit)=>
     some (Rp true)) (Hj.l h) ()) s.Covers 0 f) s.Columns 0 (Hj.empty:Hj Hc Int))
def mV (s:H2):Option Bool:=
 bif (((decide ((s.Columns.length:Int) < 1))||(decide (200 < (s.Columns.length:Int))))||(decide (40 < (s.Covers.length:Int)))) then
 (some (id false))
 else
 (each (fun c y (f:(Hj Hc Int)) m=>
   jp (fun g=>
    bif c.Deck then
    (g 1)
    else
    (g 0)) fun(k:Int)=>
   bnd (some (Hj.get f (Hc.mk c.Bay c.Row k) 0)) fun v=>
   chk (v+1) fun w=>
   bnd (fW c) fun x=>
   bif (!x) then
   (some (id false))
   else
   (m (Hj.put f (Hc.mk c.Bay c.Row k) w)))
  (fun(f:(Hj Hc Int))=>
   each (fun b z (h:(Hj Hc Int)) n=>
    bif (((decide (b.Bay < 0))||(decide (40≤b.Bay)))||(decide ((b.Rows.length:Int)=0))) then
    (some (id false))
    else
    (each (fun a d (e:(Hj Hc Int)) i=>
      bnd (bif ((!((decide (a < 0))||(decide (30 < a))))&&(decide (0 < (d:Int)))) then chk ((d:Int) - 1) some else some 0) fun o=>
      bnd (bif ((!((decide (a < 0))||(decide (30 < a))))&&(decide (0 < (d:Int)))) then Jx b.Rows o some else some default) fun p=>
      bif (((decide (a < 0))||(decide (30 < a)))||((decide (0 < (d:Int)))&&(decide (a≤p)))) then
      (some (id false))
      else
      (bnd (some (Hj.get e (Hc.mk b.Bay a 2) 0)) fun q=>
       chk (q+1) fun r=>
       i (Hj.put e (Hc.mk b.Bay a 2) r)))
     (fun(e:(Hj Hc Int))=>
      n e) b.Rows 0 h))
   (fun(h:(Hj Hc Int))=>
    wP (fun(t:Hc×Int) (u:Unit) j=>
     bif decide (1 < t.2) then
     (lft (some (id false)))
     else
     (j ()))
    (fun(u:Unit)=>
     some (id true)) (Hj.l h) ()) s.Covers 0 f) s.Columns 0 (Hj.empty:Hj Hc Int))
abbrev Ew (s:H2):List AV:=[E6 s.Covers,I64 s.Light.Kilos,I64 s.Light.X,I64 s.Light.Y,I64 s.Light.Z,E8 s.Rows,E7 s.Frames,E9 s.Tanks,I64 s.Gp.Tolerance,I64 s.Gp.Trim,I64 s.Gp.List_,I64 s.Gp.Stability]
abbrev Ex (s:H2):Bool:=((decide ((s.Columns.length:Int) < 1))||(decide (200 < (s.Columns.length:Int))))
abbrev Ey (a:(Hj Hc Int)):Loc:=[(1037,MP 185 Hc.kv I64 a)]
theorem ZC (s:H2) (Rp:Bool→Prop) (p:Prop) (h:jP s Rp=some p) (hp:p):Pure Ej 43 [.agg (H2.cs s)] (fun av=>∃ r,Rp r∧av=BL r):=by
 unfold jP at h
 refine Gy [.tmp 2] Tryz.func43 ø ø (Jr fun i8=>(JLh (.ptr 1034 0) (Qr (cs:=(H2.cs s)) 1034 ø ø ø ø ø) ø (JLm (BL false) ø (G7 (i8 (H1 [(1,Ec s)] [] 1034 rfl rfl rfl þ rfl (by exact⟨.ptr,þ⟩) (Js fun i9=>?_)))))))
 refine Jr fun j0=>(JLh (Ec s) (Gb J1 ø ø ø) ø (JLh (E5 s.Columns) (Gj Jd ø ø ø) ø (JLl Ha ø ø ø fun k2=>(JLh (BL (decide ((s.Columns.length:Int) < 1))) (Ht ø ø ø) ø (JLm (BL (decide ((s.Columns.length:Int) < 1))) ø (JLo (Ec s) [] ø .scf þ (fun hc=>Gb J1 ø ø ø) ø (JLo (E5 s.Columns) [18] ø .scf ⟨Ua,þ⟩ (fun hc=>Gj Jd ø ø ø) ø (JLo (Ei s.Columns.length) [19] ø .scf ⟨Ua,þ⟩ (fun hc=>Q4 (f:=Gc.av) (xs:=s.Columns) Ha ø ø) ø (JLo (BL (decide (200 < (s.Columns.length:Int)))) [20] ø .scf ⟨Ua,þ⟩ (fun hc=>Ya ø ø ø) ø (JLh (BL (Ex s)) (aJ ø ø ø ø) ø (JLm (BL (Ex s)) ø (JLo (.dptr (Ew s)) [] ø .scf þ (fun hc=>Gb Qv ø ø ø) ø (JLo (E6 s.Covers) [24] ø .scf ⟨Ua,þ⟩ (fun hc=>Gj Y2 ø ø ø) ø ?_)))))))))))))
 refine JLo (Ei s.Covers.length) [25] ø .scf ⟨Ua,þ⟩ (fun hc=>Q4 (f:=Gz.av) (xs:=s.Covers) J6 ø ø) ø (JLo (BL (decide (40 < (s.Covers.length:Int)))) [26] ø .scf ⟨Ua,þ⟩ (fun hc=>Ya ø ø ø) ø (JLh (BL ((Ex s)||(decide (40 < (s.Covers.length:Int))))) (aJ ø ø ø ø) ø (G7 (j0 (JCc ø h (fun h hb=>?_) (fun h hb=>?_))))))
 ·
  refine Jr fun j1=>(JLm (BL false) ø (G7 (j1 (Gt (⟨[BL false],[],þ,ø,⟨⟨_,ø,.conv (.same ø)⟩,þ⟩,ø,false,Eq.mpr (Nv h) hp,ø⟩)))))
 ·
  refine Gn (i9 (Jr fun j2=>(JLh (.mp 1037) (sU 1037 Hc.kv I64 ø ø) ø (JLm (.mp 1037) ø (G7 (j2 (Js fun j3=>Jr fun j4=>(JLh (Ec s) (Gb J1 ø ø ø) ø (JLh (E5 s.Columns) (Gj Jd ø ø ø) ø (JLl Ha ø ø ø fun f0=>(JLm (I64 0) ø (G7 (j4 (Gi ?_))))))))))))))
  obtain⟨j5,f1,f2,c4,h⟩:=Jg h
  refine H7 (fun o (k:(Hj Hc Int))=>each j5 f1 (List.drop o s.Columns) o k=some p) (fun o k=>[(1,Ec s),(3,.mp 1037),(31,E5 s.Columns),(32,Ei s.Columns.length),(33,Ei o)]) (fun o k=>(Ey k)) (fun o=>s.Columns.length - o) 0 (Hj.empty:Hj Hc Int) h ⟨(.sm ø ø),⟨fmQ ø,þ⟩,rfl⟩ ?_
  clear h
  intro o k b5 k8 j6
  refine Jr fun f3=>(JLh (BL (decide ((o:Int) < (s.Columns.length:Int)))) (Ht ø ø ø) ø (G7 (f3 (Js fun f4=>Gm ø (fun hb=>?_) (fun hb=>?_)))))
  ·
   have b6:=Q1 hb
   obtain⟨g,k3,f5,f6,h⟩:=J4 b5 b6
   replace h:=Zt f2 h
   refine Gn (f4 (Js fun f7=>Gi (Jr fun f8=>(JLh (Ee g) (Gs (f:=Gc.av) (xs:=s.Columns) (y:=g) ø ø ø Ha f5 ø) ø (JLh (.agg (Gc.cs g)) (Gk Z4 ø ø ø) ø (JLh (.ptr 1035 0) (Q3 1035 12 fH ø ø) ø (J7 (u:=.junk) (Hw (u:=.agg (Gc.cs g)) (ds:=(Gc.cs g)) jX ø ø ø ø ø ø ø ø) (G7 (f8 ?_)))))))))
   refine fzQ [(1,Ec s),(3,.mp 1037),(5,Ee g),(31,E5 s.Columns),(32,Ei s.Columns.length),(33,Ei o)] (Ey k) 1035 rfl rfl rfl ⟨fmQ ø,þ⟩ rfl (Jr fun f9=>(JLm (I64 0) ø (G7 (f9 ?_))))
   obtain⟨g0,c5,h⟩:=bE h
   refine Rh (fun n:Int=>g0 n=some p) (fun n=>[(1,Ec s),(3,.mp 1037),(5,Ee g),(6,I64 n),(31,E5 s.Columns),(32,Ei s.Columns.length),(33,Ei o)]) (fun n=>(Ey k)) (fun Kj74 ej74=>?_) ?_
   ·
    refine Jr fun g1=>(JLh (.dptr ((Gc.cs g).drop 2)) (Gb gG ø ø ø) ø (JLh (BL g.Deck) (Gj fJ ø ø ø) ø (G7 (g1 (JCc ø h (fun h hb=>?_) (fun h hb=>?_))))))
    ·
     refine G2 (JLm (I64 1) ø (G7 (ej74 _ _ 1 h ⟨(.sm ø ø),⟨fmQ ø,þ⟩,rfl⟩)))
    ·
     refine Gn (ej74 _ _ 0 h ⟨(.sm ø ø),⟨fmQ ø,þ⟩,rfl⟩)
   ·intro n h
    replace h:=app1 c5 h
    refine Js fun g2=>Zh (l':=[(1,Ec s),(3,.mp 1037),(5,Ee g),(6,I64 n),(31,E5 s.Columns),(32,Ei s.Columns.length),(33,Ei o)]) (L':=(Ey k)) ⟨(.sm ø ø),⟨fmQ ø,þ⟩,rfl⟩ ?_
    obtain⟨j7,b7,h⟩:=Ge h
    obtain⟨a4,b8,h⟩:=Hd h
    refine Jo [9,11] [0,0,0,0,0,0,0,0,0,0,1,0] [0,0,0,0,0,0,0,1,1,0,1,0] [(Ey k),((1037,MI 185 Hc.kv I64 k (Hc.mk g.Bay g.Row n) 0)::(Ey k)),((1037,MP 185 Hc.kv I64 (Hj.put k (Hc.mk g.Bay g.Row n) a4))::((1037,MI 185 Hc.kv I64 k (Hc.mk g.Bay g.Row n) 0)::(Ey k)))] J9 (by kernel_rfl) rfl rfl ?_
    refine G9 (u:=.mp 1037) ø ø ⟨Gg (G3 ø ø) ø,þ⟩ (G9 (u:=Ee g) ø ø ⟨Gg (Gb cT ø ø ø) ø,þ⟩ (G9 (u:=I64 g.Bay) ø ø ⟨Gg (Gj Ga ø ø ø) ø,þ⟩ (G9 (u:=.dptr ((Gc.cs g).drop 1)) ø ø ⟨Gg (Gb cS ø ø ø) ø,þ⟩ (G9 (u:=I64 g.Row) ø ø ⟨Gg (Gj Ga ø ø ø) ø,þ⟩ (G9 (u:=I64 n) ø ø ⟨Gg (G3 ø ø) ø,þ⟩ (G9 (u:=.agg [I64 g.Bay,I64 g.Row,I64 n]) ø ø ⟨Gg (ZX (cs:=[I64 g.Bay,I64 g.Row,I64 n]) [E0,E0,E0] RP GZ ø ø) ø,þ⟩ (G9 (u:=I64 j7) ø ø ⟨Gg (((Nv b7) ▸ oN (av:=I64) (m:=k) (a:=(Hc.mk g.Bay g.Row n)) 0 E0 ø ø ø ø zK iA mC ø)) ø,Gg (((Nv b7) ▸ xE (av:=I64) (m:=k) (a:=(Hc.mk g.Bay g.Row n)) 0 E0 ø ø ø ø zK iA mC ø)) ø,þ⟩ (G9 (u:=I64 a4) ø ø ⟨Gg (Hf b8 ø ø ø) ø,Gg (Hf b8 ø ø ø) ø,þ⟩ (D_w (u:=.tup [.junk,I64 (cA (Hj.l k) (Hc.mk g.Bay g.Row n):Int)]) ø ø ø ø (Gg (uT (m:=k) (a:=(Hc.mk g.Bay g.Row n)) 0 E0 ø ø ø ø zK iA mC ø) ø) (G9 (u:=I64 (cA (Hj.l k) (Hc.mk g.Bay g.Row n):Int)) ø ø ⟨Gg (Hu ø ø ø) ø,þ⟩ (G70 (u:=.junk) ø ø ø ø (Gg (qM (m:=k) (a:=(Hc.mk g.Bay g.Row n)) (v:=a4) 0 ø ø ø ø ø ø) ø) (Ri ?_))))))))))))
    refine g2 (Jr fun g3=>(JLh (.agg (Gc.cs g)) (Gk Z4 ø ø ø) ø ?_))
    obtain⟨a5,g4,h⟩:=Ge h
    refine JLh (BL a5) (Gq ø (ZB g a5 g4) Ga4 ⟨ø,ø,þ⟩) ø (JLh (BL (!a5)) (Ym (b:=a5) ø ø) ø (G7 (g3 (JCc ø h (fun h hb=>?_) (fun h hb=>?_)))))
    ·
     refine Jr fun g5=>(JLm (BL false) ø (G7 (g5 (Gt (⟨[BL false],[],þ,ø,⟨⟨_,ø,.conv (.same ø)⟩,þ⟩,ø,false,Eq.mpr (Nv h) hp,ø⟩)))))
    ·
     refine Gn (f7 (G2 (JLh (I64 ((o+1:Nat):Int)) (Hf (Hq b6 f0) ø ø ø) ø (JLm (I64 ((o+1:Nat):Int)) ø (G7 (j6 _ _ (o+1) (Hj.put k (Hc.mk g.Bay g.Row n) a4) (app1 f6 h) (by omega) ⟨(.sm ø ø),⟨fmQ ø,þ⟩,rfl⟩))))))
  ·
   have h:=app1 c4 (J5 b5 (Hg hb))
   refine H5 (j3 (Js fun g6=>Jr fun g7=>(JLh (.dptr (Ew s)) (Gb Qv ø ø ø) ø (JLh (E6 s.Covers) (Gj Y2 ø ø ø) ø (JLl J6 ø ø ø fun g8=>(JLm (I64 0) ø (G7 (g7 (Gi ?_)))))))))
   obtain⟨j8,g9,h0,c6,h⟩:=Jg h
   refine H7 (fun t (w:(Hj Hc Int))=>each j8 g9 (List.drop t s.Covers) t w=some p) (fun t w=>[(3,.mp 1037),(55,E6 s.Covers),(56,Ei s.Covers.length),(57,Ei t)]) (fun t w=>(Ey w)) (fun t=>s.Covers.length - t) 0 k h ⟨(.sm ø ø),⟨fmQ ø,þ⟩,rfl⟩ ?_
   clear h
   intro t w b9 k9 j9
   refine Jr fun h1=>(JLh (BL (decide ((t:Int) < (s.Covers.length:Int)))) (Ht ø ø ø) ø (G7 (h1 (Js fun h2=>Gm ø (fun hb=>?_) (fun hb=>?_)))))
   ·
    have c0:=Q1 hb
    obtain⟨c,k4,h3,h4,h⟩:=J4 b9 c0
    replace h:=Zt h0 h
    refine Gn (h2 (Js fun h5=>Gi (Jr fun h6=>(JLh (.dptr [I64 c.Bay,E1 c.Rows]) (Gs (f:=Gz.av) (xs:=s.Covers) (y:=c) ø ø ø J6 h3 ø) ø (JLh (.agg [I64 c.Bay,E1 c.Rows]) (Gk Zz ø ø ø) ø (JLh (.ptr 1036 0) (Q3 1036 2 iH ø ø) ø (J7 (u:=.junk) (Hw (u:=.agg [I64 c.Bay,E1 c.Rows]) (ds:=[I64 c.Bay,E1 c.Rows]) jW ø ø ø ø ø ø ø ø) (G7 (h6 (fzQ [(3,.mp 1037),(8,.dptr [I64 c.Bay,E1 c.Rows]),(55,E6 s.Covers),(56,Ei s.Covers.length),(57,Ei t)] (Ey w) 1036 rfl rfl rfl ⟨fmQ ø,þ⟩ rfl (Js fun h7=>?_)))))))))))
    refine Jr fun h8=>(JLh (.dptr [I64 c.Bay,E1 c.Rows]) (Gb bN ø ø ø) ø (JLh (I64 c.Bay) (Gj Ga ø ø ø) ø (JLh (BL (decide (c.Bay < 0))) (Ht ø ø ø) ø (JLm (BL (decide (c.Bay < 0))) ø (JLo (.dptr [I64 c.Bay,E1 c.Rows]) [] ø .scf þ (fun hc=>Gb bN ø ø ø) ø (JLo (I64 c.Bay) [65] ø .scf ⟨Ua,þ⟩ (fun hc=>Gj Ga ø ø ø) ø (JLo (BL (decide (40≤c.Bay))) [66] ø .scf ⟨Ua,þ⟩ (fun hc=>dF ø ø ø) ø (JLh (BL ((decide (c.Bay < 0))||(decide (40≤c.Bay)))) (aJ ø ø ø ø) ø (JLm (BL ((decide (c.Bay < 0))||(decide (40≤c.Bay)))) ø (JLo (.dptr [E1 c.Rows]) [] ø .scf þ (fun hc=>Gb Qj ø ø ø) ø (JLo (E1 c.Rows) [70] ø .scf ⟨Ua,þ⟩ (fun hc=>Gj Hv ø ø ø) ø (JLo (Ei c.Rows.length) [71] ø .scf ⟨Ua,þ⟩ (fun hc=>Q4 (f:=I64) (xs:=c.Rows) Gr ø ø) ø (JLo (BL (decide ((c.Rows.length:Int)=0))) [72] ø .scf ⟨Ua,þ⟩ (fun hc=>Rk ø ø ø) ø ?_)))))))))))))
    refine JLh (BL (((decide (c.Bay < 0))||(decide (40≤c.Bay)))||(decide ((c.Rows.length:Int)=0)))) (aJ ø ø ø ø) ø (G7 (h8 (JCc ø h (fun h hb=>?_) (fun h hb=>?_))))
    ·
     refine Jr fun h9=>(JLm (BL false) ø (G7 (h9 (Gt (⟨[BL false],[],þ,ø,⟨⟨_,ø,.conv (.same ø)⟩,þ⟩,ø,false,Eq.mpr (Nv h) hp,ø⟩)))))
    ·
     refine Gn (h7 (Jr fun i0=>(JLh (.dptr [E1 c.Rows]) (Gb Qj ø ø ø) ø (JLh (E1 c.Rows) (Gj Hv ø ø ø) ø (JLl Gr ø ø ø fun i1=>(JLm (I64 0) ø (G7 (i0 (Gi ?_)))))))))
     obtain⟨i2,c7,c8,c1,h⟩:=Jg h
     refine H7 (fun i (j:(Hj Hc Int))=>each i2 c7 (List.drop i c.Rows) i j=some p) (fun i j=>[(3,.mp 1037),(8,.dptr [I64 c.Bay,E1 c.Rows]),(55,E6 s.Covers),(56,Ei s.Covers.length),(57,Ei t),(76,E1 c.Rows),(77,Ei c.Rows.length),(78,Ei i)]) (fun i j=>(Ey j)) (fun i=>c.Rows.length - i) 0 w h ⟨(.sm ø ø),⟨fmQ ø,þ⟩,rfl⟩ ?_
     clear h
     intro i j a6 k5 i3
     refine Jr fun c9=>(JLh (BL (decide ((i:Int) < (c.Rows.length:Int)))) (Ht ø ø ø) ø (G7 (c9 (Js fun d0=>Gm ø (fun hb=>?_) (fun hb=>?_)))))
     ·
      have a7:=Q1 hb
      obtain⟨d,k0,d1,d2,h⟩:=J4 a6 a7
      replace h:=Zt c8 h
      refine Gn (d0 (Js fun d3=>Gi (Jr fun d4=>(JLm (Ei i) ø (JLh (.dptr [I64 d]) (Gs (f:=I64) (xs:=c.Rows) (y:=d) ø ø ø Gr d1 ø) ø (JLh (I64 d) (Gj Ga ø ø ø) ø (JLm (Ei i) ø (JLm (I64 d) ø (G7 (d4 (Js fun d5=>?_)))))))))))
      refine Jr fun d6=>(JLm (I64 d) ø (JLh (BL (decide (d < 0))) (Ht ø ø ø) ø (JLm (BL (decide (d < 0))) ø (JLo (I64 d) [] ø .scf þ (fun hc=>G3 ø ø) ø (JLo (BL (decide (30 < d))) [86] ø .scf ⟨Ua,þ⟩ (fun hc=>Ya ø ø ø) ø (JLh (BL ((decide (d < 0))||(decide (30 < d)))) (aJ ø ø ø ø) ø (JLm (BL ((decide (d < 0))||(decide (30 < d)))) ø (JLo (Ei i) [] ø .scf þ (fun hc=>G3 ø ø) ø (JLo (BL (decide (0 < (i:Int)))) [90] ø .scf ⟨Ua,þ⟩ (fun hc=>Ya ø ø ø) ø (JLo (BL (decide (0 < (i:Int)))) [91] ø .scf ⟨Ua,þ⟩ (fun hc=>G3 ø ø) ø (JLo (I64 d) [] ø .optt þ (fun hc=>G3 ø ø) ø (JLo (.dptr [E1 c.Rows]) [] ø .optt þ (fun hc=>Gb Qj ø ø ø) ø (JLo (E1 c.Rows) [94] ø .optt ⟨Ua,þ⟩ (fun hc=>Gj Hv ø ø ø) ø ?_)))))))))))))
      refine JLo (Ei i) [] ø .optt þ (fun hc=>G3 ø ø) ø ?_
      obtain⟨i4,d7,h⟩:=Ge h
      refine JLo (I64 i4) [96] ø .optt ⟨Ua,þ⟩ (fun hc=>cB (bS (Gw hc d7)) ø ø ø) ø ?_
      obtain⟨a0,d8,h⟩:=Ge h
      refine JLo (.dptr [I64 a0]) [95,97] ø .optt ⟨Ua,Ua,þ⟩ (fun hc=>(match Qk (Gw hc d8) with | ⟨_,hm_,hy_⟩=>Gs (f:=I64) (xs:=c.Rows) (y:=a0) ø ø ø Gr hy_ hm_)) ø (JLo (I64 a0) [98] ø .optt ⟨Ua,þ⟩ (fun hc=>Gj Ga ø ø ø) ø (JLo (BL (decide (d≤a0))) [93,99] ø .optt ⟨Ua,Ua,þ⟩ (fun hc=>oO ø ø ø) ø (Gd (u:=BL ((decide (0 < (i:Int)))&&(decide (d≤a0)))) [(92,BL (decide (0 < (i:Int)))),(100,_)] ø ø ø .scf ⟨.all id,.part,þ⟩ (fun hc=>Jf ø ø ø ø) ?_)))
      refine JLh (BL (((decide (d < 0))||(decide (30 < d)))||((decide (0 < (i:Int)))&&(decide (d≤a0))))) (aJ ø ø ø ø) ø (G7 (d6 (JCc ø h (fun h hb=>?_) (fun h hb=>?_))))
      ·
       refine Jr fun d9=>(JLm (BL false) ø (G7 (d9 (Gt (⟨[BL false],[],þ,ø,⟨⟨_,ø,.conv (.same ø)⟩,þ⟩,ø,false,Eq.mpr (Nv h) hp,ø⟩)))))
      ·
       refine Gn (d5 (Zh (l':=[(3,.mp 1037),(8,.dptr [I64 c.Bay,E1 c.Rows]),(10,I64 d),(55,E6 s.Covers),(56,Ei s.Covers.length),(57,Ei t),(76,E1 c.Rows),(77,Ei c.Rows.length),(78,Ei i)]) (L':=(Ey j)) ⟨(.sm ø ø),⟨fmQ ø,þ⟩,rfl⟩ ?_))
       obtain⟨i5,a8,h⟩:=Ge h
       obtain⟨a1,a9,h⟩:=Hd h
       refine Jo [7,9] [0,0,0,0,0,0,0,0,1,0] [0,0,0,0,0,1,1,0,1,0] [(Ey j),((1037,MI 185 Hc.kv I64 j (Hc.mk c.Bay d 2) 0)::(Ey j)),((1037,MP 185 Hc.kv I64 (Hj.put j (Hc.mk c.Bay d 2) a1))::((1037,MI 185 Hc.kv I64 j (Hc.mk c.Bay d 2) 0)::(Ey j)))] J9 (by kernel_rfl) rfl rfl ?_
       refine G9 (u:=.mp 1037) ø ø ⟨Gg (G3 ø ø) ø,þ⟩ (G9 (u:=.dptr [I64 c.Bay,E1 c.Rows]) ø ø ⟨Gg (Gb bN ø ø ø) ø,þ⟩ (G9 (u:=I64 c.Bay) ø ø ⟨Gg (Gj Ga ø ø ø) ø,þ⟩ (G9 (u:=I64 d) ø ø ⟨Gg (G3 ø ø) ø,þ⟩ (G9 (u:=.agg [I64 c.Bay,I64 d,I64 2]) ø ø ⟨Gg (ZX (cs:=[I64 c.Bay,I64 d,I64 2]) [E0,E0,E0] RP GZ ø ø) ø,þ⟩ (G9 (u:=I64 i5) ø ø ⟨Gg (((Nv a8) ▸ oN (av:=I64) (m:=j) (a:=(Hc.mk c.Bay d 2)) 0 E0 ø ø ø ø zK iA mC ø)) ø,Gg (((Nv a8) ▸ xE (av:=I64) (m:=j) (a:=(Hc.mk c.Bay d 2)) 0 E0 ø ø ø ø zK iA mC ø)) ø,þ⟩ (G9 (u:=I64 a1) ø ø ⟨Gg (Hf a9 ø ø ø) ø,Gg (Hf a9 ø ø ø) ø,þ⟩ (D_w (u:=.tup [.junk,I64 (cA (Hj.l j) (Hc.mk c.Bay d 2):Int)]) ø ø ø ø (Gg (uT (m:=j) (a:=(Hc.mk c.Bay d 2)) 0 E0 ø ø ø ø zK iA mC ø) ø) (G9 (u:=I64 (cA (Hj.l j) (Hc.mk c.Bay d 2):Int)) ø ø ⟨Gg (Hu ø ø ø) ø,þ⟩ (G70 (u:=.junk) ø ø ø ø (Gg (qM (m:=j) (a:=(Hc.mk c.Bay d 2)) (v:=a1) 0 ø ø ø ø ø ø) ø) (Ri ?_))))))))))
       refine d3 (G2 (JLh (I64 ((i+1:Nat):Int)) (Hf (Hq a7 i1) ø ø ø) ø (JLm (I64 ((i+1:Nat):Int)) ø (G7 (i3 _ _ (i+1) (Hj.put j (Hc.mk c.Bay d 2) a1) (app1 d2 h) (by omega) ⟨(.sm ø ø),⟨fmQ ø,þ⟩,rfl⟩)))))
     ·
      have h:=app1 c1 (J5 a6 (Hg hb))
      refine H5 (h5 (G2 (JLh (I64 ((t+1:Nat):Int)) (Hf (Hq c0 g8) ø ø ø) ø (JLm (I64 ((t+1:Nat):Int)) ø (G7 (j9 _ _ (t+1) j (app1 h4 h) (by omega) ⟨(.sm ø ø),⟨fmQ ø,þ⟩,rfl⟩))))))
   ·
    have h:=app1 c6 (J5 b9 (Hg hb))
    refine H5 (g6 (Js fun e0=>Jr fun e1=>(JLm (.mp 1037) ø (JLh (.it 1038) (zB 1038 (m:=w) ø ø ø ø iA) ø (G7 (e1 (Gi ?_)))))))
    obtain⟨i6,e2,e3,c2,h⟩:=yI h
    refine yX (Hj.size w) (fun x (a2:Unit)=>MInv i6 e2 (Hj.l w) x a2) (fun x a2=>[(115,.it 1038)]) (fun x a2=>[(1037,MP 185 Hc.kv I64 w),(1038,.iter (.mp 1037) (Hj.size w) x)]) () (MInv.start h hp) ⟨⟨.same ø,þ⟩,⟨⟨_,ø,.map⟩,⟨_,ø,.iter ø⟩,þ⟩,ø⟩ ?_
    clear h hp
    intro x a2 b0 k6 i7
    refine Jr fun b1=>hU ø ø ø (QU (m:=w) ø ø ø ø) ?_
    intro u_ L_ hn_
    rcases hn_ with ⟨c3,z,a3,b2,rfl,rfl⟩ | ⟨e4,rfl,rfl⟩
    ·
     obtain⟨k7,h,b3,b4⟩:=b0.step a3 b2
     replace h:=vM e3 h
     refine JLh (BL true) (Hu ø ø ø) ø (G7 (b1 (Js fun e5=>yY ø (Gn (e5 (Gi (Jr fun e6=>(JLh (.tup [.agg (Hc.cs z.1),I64 z.2]) (zF (kv:=Hc.kv) (av:=I64) (m:=w) (q:=c3) (seen:=x) (e:=z) ø ø ø ø a3) ø (JLh (I64 z.2) (Hu ø ø ø) ø (JLm (I64 z.2) ø (G7 (e6 (Jr fun e7=>(JLm (I64 z.2) ø (JLh (BL (decide (1 < z.2))) (Ya ø ø ø) ø (G7 (e7 (JCc ø h (fun h hb=>?_) (fun h hb=>?_)))))))))))))))))))
     ·
      refine Jr fun e8=>(JLm (BL false) ø (G7 (e8 (Gt ?_))))
      obtain⟨y_,hy_,hl_⟩:=H61 h
      exact⟨[BL false],[],þ,ø,⟨⟨_,ø,.conv (.same ø)⟩,þ⟩,ø,false,Eq.mpr (Nv hl_) (b3 y_ hy_),ø⟩
     ·
      refine Gn (i7 _ _ (x++[c3]) () (b4 _ (Nv h).symm) (uU (Nt a3).1 b2) ⟨⟨.same ø,þ⟩,⟨⟨_,ø,.map⟩,⟨_,ø,.iter ø⟩,þ⟩,ø⟩)
    ·
     obtain⟨p_,h,hp⟩:=b0.done e4
     replace h:=app1 c2 h
     refine JLh (BL false) (Hu ø ø ø) ø (G7 (b1 (Js fun k1=>uR ø (H5 (e0 (Jr fun e9=>(JLm (BL true) ø (G7 (e9 (Gt (⟨[BL true],[],þ,ø,⟨⟨_,ø,.conv (.same ø)⟩,þ⟩,ø,true,Eq.mpr (Nv h) hp,ø⟩)))))))))))
theorem ZD (S_:(H2)→Option Bool) (hS_:∀ s r,S_ s=some r→∃ p:Prop,jP s (fun r_=>r_=r)=some p∧p) (s:H2) (r:Bool) (h:S_ s=some r):Pure Ej 43 [.agg (H2.cs s)] (·=BL r):=by
 obtain⟨p,a,b⟩:=hS_ s r h
 exact(ZC s _ p a b).monoP (fun av hh=>by obtain⟨r_,rfl,ha⟩:=hh; exact ha)

def eM (x:Int):Option Bool:=
 some (decide (x≠x))
theorem pR (x:Int) (r:Bool) (h:eM x=some r):Pure Ej 248 [I64 x] (·=BL r):=by
 unfold eM at h
 refine Gy [.tmp 2] Tryz.func248 ø ø (Jr fun a=>(JLm (BL false) ø (G7 (a (Jr fun b=>(JLm (I64 x) ø (JLm (I64 x) ø (JLh (BL (decide (x≠x))) (dX ø ø ø) ø (JLm (BL (decide (x≠x))) ø (G7 (b (Gt (fin1 BL h)))))))))))))

def cQ (x:Int) (y:Int):Option Int:=
 bnd (eM x) fun b=>
 bnd (eM y) fun a=>
 bif b then
 (bif a then
  (some 0)
  else
  (some (-1)))
 else
 (bif a then
  (some 1)
  else
  (bif decide (x < y) then
   (some (-1))
   else
   (bif decide (y < x) then
    (some 1)
    else
    (some 0))))
theorem mB (x:Int) (y:Int) (r:Int) (h:cQ x y=some r):Pure Ej 219 [I64 x,I64 y] (·=I64 r):=by
 unfold cQ at h
 refine Gy [.tmp 4] Tryz.func219 ø ø (Jr fun p=>(JLm (I64 0) ø (G7 (p (Jr fun q=>(JLm (I64 x) ø ?_))))))
 obtain⟨b,s,h⟩:=Ge h
 refine JLh (BL b) (Gq ø (pR x b s) HE ⟨ø,ø,þ⟩) ø (JLm (BL b) ø (G7 (q (Jr fun t=>(JLm (I64 y) ø ?_)))))
 obtain⟨a,u,h⟩:=Ge h
 refine JLh (BL a) (Gq ø (pR y a u) HE ⟨ø,ø,þ⟩) ø (JLm (BL a) ø (G7 (t (Js fun v=>Jr fun w=>(JLm (BL b) ø (G7 (w (JCc ø h (fun h hb=>?_) (fun h hb=>?_)))))))))
 ·
  refine Js fun z=>Jr fun a0=>(JLm (BL a) ø (G7 (a0 (JCc ø h (fun h hb=>?_) (fun h hb=>?_)))))
  ·
   refine Jr fun c=>(JLm (I64 0) ø (G7 (c (Gt (fin1 I64 h)))))
  ·
   refine Gn (z (Jr fun d=>(JLm (I64 (-1)) ø (G7 (d (Gt (fin1 I64 h)))))))
 ·
  refine Gn (v (Js fun e=>Jr fun f=>(JLm (BL a) ø (G7 (f (JCc ø h (fun h hb=>?_) (fun h hb=>?_)))))))
  ·
   refine Jr fun g=>(JLm (I64 1) ø (G7 (g (Gt (fin1 I64 h)))))
  ·
   refine Gn (e (Js fun i=>Jr fun j=>(JLm (I64 x) ø (JLm (I64 y) ø (JLh (BL (decide (x < y))) (Ht ø ø ø) ø (G7 (j (JCc ø h (fun h hb=>?_) (fun h hb=>?_)))))))))
   ·
    refine Jr fun k=>(JLm (I64 (-1)) ø (G7 (k (Gt (fin1 I64 h)))))
   ·
    refine Gn (i (Js fun l=>Jr fun m=>(JLm (I64 x) ø (JLm (I64 y) ø (JLh (BL (decide (y < x))) (Ya ø ø ø) ø (G7 (m (JCc ø h (fun h hb=>?_) (fun h hb=>?_)))))))))
    ·
     refine Jr fun n=>(JLm (I64 1) ø (G7 (n (Gt (fin1 I64 h)))))
    ·
     refine Gn (l (Jr fun o=>(JLm (I64 0) ø (G7 (o (Gt (fin1 I64 h)))))))

def sP (vals:List Int):Option Int:=
 each (fun a d (c:Unit) b=>
  bif decide (a≠0) then
  (some a)
  else
  (b ()))
 (fun(c:Unit)=>
  some 0) vals 0 ()
theorem ZF (vals:List Int) (r:Int) (h:sP vals=some r):Pure Ej 218 [E1 vals] (·=I64 r):=by
 unfold sP at h
 refine Gy [.tmp 2] Tryz.func218 ø ø (Jr fun u=>(JLm (I64 0) ø (G7 (u (Jr fun v=>(JLm (I64 0) ø (G7 (v (Js fun w=>Jr fun x=>(JLm (E1 vals) ø (JLl Gr ø ø ø fun z=>(JLm (I64 0) ø (G7 (x (Gi ?_)))))))))))))))
 obtain⟨a0,i,j,g,h⟩:=Jg h
 refine H7 (fun a (c:Unit)=>each a0 i (List.drop a vals) a c=some r) (fun a c=>[(3,I64 0),(6,E1 vals),(7,Ei vals.length),(8,Ei a)]) (fun a c=>[]) (fun a=>vals.length - a) 0 () h ⟨(.sm ø ø),þ,rfl⟩ ?_
 clear h
 intro a c d a3 a1
 refine Jr fun k=>(JLh (BL (decide ((a:Int) < (vals.length:Int)))) (Ht ø ø ø) ø (G7 (k (Js fun l=>Gm ø (fun hb=>?_) (fun hb=>?_)))))
 ·
  have e:=Q1 hb
  obtain⟨b,a2,m,n,h⟩:=J4 d e
  replace h:=Zt j h
  refine Gn (l (Js fun o=>Gi (Jr fun p=>(JLh (.dptr [I64 b]) (Gs (f:=I64) (xs:=vals) (y:=b) ø ø ø Gr m ø) ø (JLh (I64 b) (Gj Ga ø ø ø) ø (JLm (I64 b) ø (G7 (p (Jr fun q=>(JLm (I64 b) ø (JLm (I64 0) ø (JLh (BL (decide (b≠0))) (dX ø ø ø) ø (G7 (q (JCc ø h (fun h hb=>?_) (fun h hb=>?_))))))))))))))))
  ·
   refine Jr fun s=>(JLm (I64 b) ø (JLm (I64 b) ø (G7 (s (Gt (fin1 I64 h))))))
  ·
   refine Gn (o (G2 (JLh (I64 ((a+1:Nat):Int)) (Hf (Hq e z) ø ø ø) ø (JLm (I64 ((a+1:Nat):Int)) ø (G7 (a1 _ _ (a+1) () (app1 n h) (by omega) ⟨(.sm ø ø),þ,rfl⟩))))))
 ·
  have h:=app1 g (J5 d (Hg hb))
  refine H5 (w (Jr fun t=>(JLm (I64 0) ø (JLm (I64 0) ø (G7 (t (Gt (fin1 I64 h))))))))

def gX (a:G5) (b:G5):Option Int:=
 bnd (cQ a.Load b.Load) fun c=>
 bnd (cQ a.Discharge b.Discharge) fun d=>
 bnd (sP [c,d]) fun e=>
 some e
abbrev Ez (b:G5):List AV:=[I64 b.Load,I64 b.Discharge]
theorem yR (a:G5) (b:G5) (r:Int) (h:gX a b=some r):Pure Ej 170 [.agg [I64 a.Load,I64 a.Discharge],.agg [I64 b.Load,I64 b.Discharge]] (·=I64 r):=by
 unfold gX at h
 refine Gy [.tmp 4] Tryz.func170 ø ø (Jr fun f=>(JLh (.ptr 1123 0) (Qr (cs:=(Ez a)) 1123 ø ø ø ø ø) ø (JLh (.ptr 1124 0) (Qr (cs:=(Ez b)) 1124 ø ø ø ø ø) ø (JLm (I64 0) ø (G7 (f (H1 [(2,.dptr (Ez a)),(3,.ptr 1124 0)] [(1124,.box 139 (Ez b))] 1123 rfl rfl rfl ⟨⟨_,rfl,.boxEq rfl rfl⟩,þ⟩ rfl (by exact⟨.ptr,.conv (.same rfl),þ⟩) (H1 [(2,.dptr (Ez a)),(3,.dptr (Ez b))] [] 1124 rfl rfl rfl þ rfl (by exact⟨.conv (.same rfl),.ptr,þ⟩) (Js fun g=>?_)))))))))
 obtain⟨c,i,h⟩:=Ge h
 obtain⟨d,j,h⟩:=Ge h
 obtain⟨e,k,h⟩:=Ge h
 refine JC_d0 J9 (by kernel_rfl) (Dq (.dptr (Ez a)) (Gb Jm ø ø ø) ø (Dq (I64 a.Load) (Gj Ga ø ø ø) ø (Dq (.dptr (Ez b)) (Gb Jm ø ø ø) ø (Dq (I64 b.Load) (Gj Ga ø ø ø) ø (Dq (I64 c) (Gq (args:=[I64 a.Load,I64 b.Load]) ø (mB a.Load b.Load c i) HG ⟨ø,ø,ø,ø,þ⟩) ø (Dq (.dptr [I64 a.Discharge]) (Gb Jv ø ø ø) ø (Dq (I64 a.Discharge) (Gj Ga ø ø ø) ø (Dq (.dptr [I64 b.Discharge]) (Gb Jv ø ø ø) ø (Dq (I64 b.Discharge) (Gj Ga ø ø ø) ø (Dq (I64 d) (Gq (args:=[I64 a.Discharge,I64 b.Discharge]) ø (mB a.Discharge b.Discharge d j) HG ⟨ø,ø,ø,ø,þ⟩) ø (Dq (E1 [c,d]) (Hn (xs:=[I64 c,I64 d]) ø ⟨ø,ø,ø,ø,þ⟩ Gr eD ø ø ø ø) ø (Dq (I64 e) (Gq (args:=[E1 [c,d]]) ø (ZF [c,d] e k) G89 ⟨ø,ø,þ⟩) ø (Dq (I64 e) (G6 ø ø) ø (Dnil ?_))))))))))))))
 refine g (Gt (fin1 I64 h))

def Ze (a:G1) (b:G1):Option Int:=
 bnd (gX a.G5 b.G5) fun c=>
 some c
abbrev K0 (a:G1):List AV:=[I64 a.G5.Load,I64 a.G5.Discharge,I64 a.Whole,I64 a.Half]
theorem oL (a:G1) (b:G1) (r:Int) (h:Ze a b=some r):Pure Ej 169 [.agg [I64 a.G5.Load,I64 a.G5.Discharge,I64 a.Whole,I64 a.Half],.agg (G1.cs b)] (·=I64 r):=by
 unfold Ze at h
 refine Gy [.tmp 4] Tryz.func169 ø ø (Jr fun d=>(JLh (.ptr 1121 0) (Qr (cs:=(K0 a)) 1121 ø ø ø ø ø) ø (JLh (.ptr 1122 0) (Qr (cs:=(K0 b)) 1122 ø ø ø ø ø) ø (JLm (I64 0) ø (G7 (d (H1 [(2,.dptr (K0 a)),(3,.ptr 1122 0)] [(1122,.box 155 (K0 b))] 1121 rfl rfl rfl ⟨⟨_,rfl,.boxEq rfl rfl⟩,þ⟩ rfl (by exact⟨.ptr,.conv (.same rfl),þ⟩) (H1 [(2,.dptr (K0 a)),(3,Ed b)] [] 1122 rfl rfl rfl þ rfl (by exact⟨.conv (.same rfl),.ptr,þ⟩) ?_))))))))
 refine Jr fun e=>(JLh (.dptr (K0 a)) (Gb Q0 ø ø ø) ø (JLh (.agg [I64 a.G5.Load,I64 a.G5.Discharge]) (Gk Hm ø ø ø) ø (JLh (Ed b) (Gb Q0 ø ø ø) ø (JLh (.agg [I64 b.G5.Load,I64 b.G5.Discharge]) (Gk Hm ø ø ø) ø ?_))))
 obtain⟨c,f,h⟩:=Ge h
 refine JLh (I64 c) (Gq ø (yR a.G5 b.G5 c f) G96 ⟨ø,ø,ø,ø,þ⟩) ø (JLm (I64 c) ø (G7 (e (Gt (fin1 I64 h)))))

def aS (bx:List Box) (Rp:(List G1)→Prop):Option Prop:=
 each (fun a p (d:(Hj G5 G1)) j=>
  jp (fun g=>
   bnd (some (Hj.get d (G5.mk a.Load a.Discharge) (G1.mk (G5.mk 0 0) 0 0))) fun c=>
   jp (fun h=>
    bif decide (a.Size=40) then
    (chk (c.Whole+1) fun m=>
     h (m,c.Half))
    else
    (bif decide (a.Size=20) then
     (chk (c.Half+1) fun n=>
      h (c.Whole,n))
     else
     (g (d,c.Whole,c.Half)))) fun(f:Int×Int)=>
   g ((Hj.put d (G5.mk a.Load a.Discharge) (G1.mk (G5.mk a.Load a.Discharge) f.1 f.2)),f.1,f.2)) fun(o:(Hj G5 G1)×Int×Int)=>
  j o.1)
 (fun(d:(Hj G5 G1))=>
  YL (fun(e:G5×G1) (b:(List G1)) i=>
   need (decide ((b.length+[e.2].length)*32≤140737488355328∧b.length+[e.2].length≤maxLen)) <|
   i (b++[e.2]))
  (fun(b:(List G1))=>
   bnd (RR (fun z0 z1=>Ze z0 z1) b) fun k=>
   some (Rp k)) (Hj.l d) []) bx 0 (Hj.empty:Hj G5 G1)
theorem GL (bx:List Box) (Rp:(List G1)→Prop) (p:Prop) (h:aS bx Rp=some p) (hp:p):Pure Ej 73 [E3 bx] (fun av=>∃ r,Rp r∧av=E4 r):=by
 unfold aS at h
 refine Gy [.tmp 2] Tryz.func73 ø ø (Jr fun e4=>(JLh (E4 ([]:List G1)) (Qu 4 ø ø) ø (G7 (e4 (Jr fun e5=>(JLh (.mp 1062) (sU 1062 G5.kv G1.av ø ø) ø (JLm (.mp 1062) ø (G7 (e5 (Js fun e6=>Jr fun e7=>(JLm (E3 bx) ø (JLl Hz ø ø ø fun c2=>(JLm (I64 0) ø (G7 (e7 (Gi ?_))))))))))))))))
 obtain⟨e8,c3,c4,a7,h⟩:=Jg h
 refine H7 (fun i (g:(Hj G5 G1))=>each e8 c3 (List.drop i bx) i g=some p) (fun i g=>[(3,.mp 1062),(12,E3 bx),(13,Ei bx.length),(14,Ei i)]) (fun i g=>[(1062,MP 239 G5.kv G1.av g)]) (fun i=>bx.length - i) 0 (Hj.empty:Hj G5 G1) h ⟨(.sm ø ø),⟨fmQ ø,þ⟩,rfl⟩ ?_
 clear h
 intro i g a4 f4 e9
 refine Jr fun c5=>(JLh (BL (decide ((i:Int) < (bx.length:Int)))) (Ht ø ø ø) ø (G7 (c5 (Js fun c6=>Gm ø (fun hb=>?_) (fun hb=>?_)))))
 ·
  have a5:=Q1 hb
  obtain⟨b,f1,c7,c8,h⟩:=J4 a4 a5
  replace h:=Zt c4 h
  refine Gn (c6 ?_)
  obtain⟨c9,a8,h⟩:=bE h
  refine Rh (fun o:(Hj G5 G1)×Int×Int=>c9 o=some p) (fun o=>[(3,.mp 1062),(12,E3 bx),(13,Ei bx.length),(14,Ei i)]) (fun o=>[(1062,MP 239 G5.kv G1.av o.1),(1059,.box 155 [I64 b.Load,I64 b.Discharge,I64 o.2.1,I64 o.2.2])]) (fun Kj88 ej88=>?_) ?_
  ·
   refine Gi (Jr fun d0=>(JLh (Ef b) (Gs (f:=Box.av) (xs:=bx) (y:=b) ø ø ø Hz c7 ø) ø (JLh (.agg (Box.cs b)) (Gk iL ø ø ø) ø (JLh (.ptr 1057 0) (Q3 1057 9 fG ø ø) ø (J7 (u:=.junk) (Hw (u:=.agg (Box.cs b)) (ds:=(Box.cs b)) nF ø ø ø ø ø ø ø ø) (G7 (d0 (fzQ [(3,.mp 1062),(5,Ef b),(12,E3 bx),(13,Ei bx.length),(14,Ei i)] [(1062,MP 239 G5.kv G1.av g)] 1057 rfl rfl rfl ⟨fmQ ø,þ⟩ rfl ?_))))))))
   refine Jr fun d1=>(JLh (.dptr ((Box.cs b).drop 5)) (Gb aD ø ø ø) ø (JLh (I64 b.Load) (Gj Ga ø ø ø) ø (JLh (.dptr ((Box.cs b).drop 6)) (Gb aC ø ø ø) ø (JLh (I64 b.Discharge) (Gj Ga ø ø ø) ø (JLh (.agg [I64 b.Load,I64 b.Discharge]) (Jj (cs:=[I64 b.Load,I64 b.Discharge]) [(0,1),(1,1)] [I64 0,I64 0] [E0,E0] bL cK (zzQ ø) ø ø) ø (JLh (.ptr 1058 0) (Q3 1058 2 Z1 ø ø) ø (J7 (u:=.junk) (Hw (u:=.agg [I64 b.Load,I64 b.Discharge]) (ds:=[I64 b.Load,I64 b.Discharge]) cL ø ø ø ø ø ø ø ø) (G7 (d1 ?_)))))))))
   refine fzQ [(3,.mp 1062),(5,Ef b),(6,.dptr [I64 b.Load,I64 b.Discharge]),(12,E3 bx),(13,Ei bx.length),(14,Ei i)] [(1062,MP 239 G5.kv G1.av g)] 1058 rfl rfl rfl ⟨fmQ ø,þ⟩ rfl (Jr fun d2=>(JLm (.mp 1062) ø (JLh (.agg [I64 b.Load,I64 b.Discharge]) (Gk Hm ø ø ø) ø ?_)))
   obtain⟨j,d3,h⟩:=Ge h
   refine JLh (.agg (G1.cs j)) (((Nv d3) ▸ oN (av:=G1.av) (m:=g) (a:=(G5.mk b.Load b.Discharge)) (G1.mk (G5.mk 0 0) 0 0) (.agg #[E0,E0,E0,E0]) ø ø ø ø wC jY G1d ø)) ø (JLh (.ptr 1059 0) (Q3 1059 4 R7 ø ø) ø (J7 (u:=.junk) (Hw (u:=.agg (G1.cs j)) (ds:=[I64 j.G5.Load,I64 j.G5.Discharge,I64 j.Whole,I64 j.Half]) bJ ø ø ø ø ø ø ø ø) (G7 (d2 ?_))))
   refine Jr fun d4=>(JLh (.agg [I64 b.Load,I64 b.Discharge]) (Gk Hm ø ø ø) ø (JLh (.ptr 1059 0) (Qn Q0 ø ø) ø (J7 (u:=.junk) (Hw (u:=.agg [I64 b.Load,I64 b.Discharge]) (ds:=[I64 b.Load,I64 b.Discharge,I64 j.Whole,I64 j.Half]) cL ø ø ø ø ø ø ø ø) (G7 (d4 ?_)))))
   obtain⟨d5,a9,h⟩:=bE h
   refine Rh (fun k:Int×Int=>d5 k=some p) (fun k=>[(3,.mp 1062),(6,.dptr [I64 b.Load,I64 b.Discharge]),(7,.ptr 1059 0),(12,E3 bx),(13,Ei bx.length),(14,Ei i)]) (fun k=>[(1062,MP 239 G5.kv G1.av g),(1059,.box 155 [I64 b.Load,I64 b.Discharge,I64 k.1,I64 k.2])]) (fun Kj94 ej94=>?_) ?_
   ·
    refine Jr fun d6=>(JLh (.dptr ((Box.cs b).drop 2)) (Gb bM ø ø ø) ø (JLh (U8 b.Size) (Gj dY ø ø ø) ø (G7 (d6 (Gi (Jr fun d7=>(JLh (BL (decide (b.Size=40))) (Rk ø ø ø) ø (JLm (BL (decide (b.Size=40))) ø (G7 (d7 (JCc ø h (fun h hb=>?_) (fun h hb=>?_))))))))))))
    ·
     refine G2 (JLh (.ptr 1059 2) (Qn aN ø ø) ø (JLh (I64 j.Whole) (bY Ga ø ø ø ø) ø ?_))
     obtain⟨x,d8,h⟩:=Hd h
     refine JLh (I64 x) (Hf d8 ø ø ø) ø (JLh (.ptr 1059 2) (Qn aN ø ø) ø (J7 (u:=.junk) (Hw (u:=I64 x) (ds:=[I64 b.Load,I64 b.Discharge,I64 x,I64 j.Half]) Zy ø ø ø ø ø ø ø ø) (G7 (ej94 _ _ (x,j.Half) h ⟨(.sm ø ø),⟨fmQ ø,fbQ ø (.sm ø ø),þ⟩,rfl⟩))))
    ·
     refine Jr fun d9=>(JLh (BL (decide (b.Size=20))) (Rk ø ø ø) ø (JLm (BL (decide (b.Size=20))) ø (G7 (d9 (JCc ø h (fun h hb=>?_) (fun h hb=>?_))))))
     ·
      refine G2 (JLh (.ptr 1059 3) (Qn aM ø ø) ø (JLh (I64 j.Half) (bY Ga ø ø ø ø) ø ?_))
      obtain⟨z,e0,h⟩:=Hd h
      refine JLh (I64 z) (Hf e0 ø ø ø) ø (JLh (.ptr 1059 3) (Qn aM ø ø) ø (J7 (u:=.junk) (Hw (u:=I64 z) (ds:=[I64 b.Load,I64 b.Discharge,I64 j.Whole,I64 z]) Zy ø ø ø ø ø ø ø ø) (G7 (ej94 _ _ (j.Whole,z) h ⟨(.sm ø ø),⟨fmQ ø,fbQ ø (.sm ø ø),þ⟩,rfl⟩))))
     ·
      refine H5 (ej88 _ _ (g,j.Whole,j.Half) h ⟨(.sm ø ø),⟨fmQ ø,fbQ ø (.sm ø ø),þ⟩,rfl⟩)
   ·intro k h
    replace h:=app1 a9 h
    refine G2 (JLm (.mp 1062) ø (JLh (.agg [I64 b.Load,I64 b.Discharge]) (Gk Hm ø ø ø) ø (JLh (.agg [I64 b.Load,I64 b.Discharge,I64 k.1,I64 k.2]) (sV Qw ø ø ø ø) ø (J7 (u:=.junk) (zD (m:=g) (a:=(G5.mk b.Load b.Discharge)) (v:=(G1.mk (G5.mk b.Load b.Discharge) k.1 k.2)) ø ø ø ø ø ø wC jY) (G7 (ej88 _ _ ((Hj.put g (G5.mk b.Load b.Discharge) (G1.mk (G5.mk b.Load b.Discharge) k.1 k.2)),k.1,k.2) h ⟨(.sm ø ø),⟨fmQ ø,fbQ ø (.sm ø ø),þ⟩,rfl⟩))))))
  ·intro o h
   replace h:=app1 a8 h
   refine G2 (JLh (I64 ((i+1:Nat):Int)) (Hf (Hq a5 c2) ø ø ø) ø (JLm (I64 ((i+1:Nat):Int)) ø (G7 (e9 _ _ (i+1) o.1 (app1 c8 h) (by omega) ⟨(.sm ø ø),⟨fmQ ø,þ⟩,rfl⟩))))
 ·
  have h:=app1 a7 (J5 a4 (Hg hb))
  refine H5 (e6 (Jr fun b0=>(JLh (.vec 1060 (([]:List G1).length) 4 (([]:List G1).length)) (ZR 1060 155 4 ø ø ø) ø (G7 (b0 (Js fun b1=>Jr fun b2=>(JLm (.mp 1062) ø (JLh (.it 1063) (zB 1063 (m:=g) ø ø ø ø jY) ø (G7 (b2 (Gi ?_)))))))))))
  obtain⟨e1,b3,b4,a6,h⟩:=yI h
  refine yX (Hj.size g) (fun n (c:(List G1))=>MInv e1 b3 (Hj.l g) n c) (fun n c=>[(8,.vec 1060 c.length 4 c.length),(47,.it 1063)]) (fun n c=>[(1062,MP 239 G5.kv G1.av g),(1060,.vec 155 4 c.length (c.map G1.av)),(1063,.iter (.mp 1062) (Hj.size g) n)]) [] (MInv.start h hp) ⟨(.sm ø ø),⟨⟨_,ø,.map⟩,⟨_,ø,.vec⟩,⟨_,ø,.iter ø⟩,þ⟩,ø⟩ ?_
  clear h hp
  intro n c a0 f2 e2
  refine Jr fun a1=>hU ø ø ø (QU (m:=g) ø ø ø ø) ?_
  intro u_ L_ hn_
  rcases hn_ with ⟨w,d,s,a2,rfl,rfl⟩ | ⟨b5,rfl,rfl⟩
  ·
   obtain⟨f3,h,e3,a3⟩:=a0.step s a2
   replace h:=vM b4 h
   refine JLh (BL true) (Hu ø ø ø) ø (G7 (a1 (Js fun b6=>yY ø (Gn (b6 (Gi (Jr fun b7=>(JLh (.tup [.agg [I64 d.1.Load,I64 d.1.Discharge],.agg (G1.cs d.2)]) (zF (kv:=G5.kv) (av:=G1.av) (m:=g) (q:=w) (seen:=n) (e:=d) ø ø ø ø s) ø (JLh (.agg (G1.cs d.2)) (Hu ø ø ø) ø (JLh (.ptr 1061 0) (Q3 1061 4 R7 ø ø) ø (J7 (u:=.junk) (Hw (u:=.agg (G1.cs d.2)) (ds:=[I64 d.2.G5.Load,I64 d.2.G5.Discharge,I64 d.2.Whole,I64 d.2.Half]) bJ ø ø ø ø ø ø ø ø) (G7 (b7 ?_)))))))))))))
   refine H1 [(8,.vec 1060 c.length 4 c.length),(10,Ed d.2),(47,.it 1063)] [(1062,MP 239 G5.kv G1.av g),(1060,.vec 155 4 c.length (c.map G1.av)),(1063,.iter (.mp 1062) (Hj.size g) (n++[w]))] 1061 rfl rfl rfl ⟨fmQ ø,⟨_,rfl,.vec⟩,⟨_,rfl,.iter rfl⟩,þ⟩ rfl (by exact⟨.conv (.same rfl),.ptr,.conv (.same rfl),þ⟩) (G2 (JLm (.vec 1060 c.length 4 c.length) ø (JLh (.agg (G1.cs d.2)) (Gk Qw ø ø ø) ø (JLh (E4 [d.2]) (Hn (xs:=[.agg (G1.cs d.2)]) ø ⟨ø,ø,þ⟩ H6 R7 ø ø ø ø) ø ?_))))
   obtain⟨b8,h⟩:=J2 h
   refine JLh (.vec 1060 ((c++[d.2]).length) 4 ((c++[d.2]).length)) (ZS (f:=G1.av) (xs:=c) (ys:=[d.2]) (ver:=c.length) (ver1:=(c++[d.2]).length) rfl rfl rfl rfl H6 fK b8 (fun _=>rfl) (.inl rfl) (by simp)) ø (JLm (.vec 1060 ((c++[d.2]).length) 4 ((c++[d.2]).length)) ø (G7 (e2 _ _ (n++[w]) (c++[d.2]) (a3 _ (Nv h).symm) (uU (Nt s).1 a2) ⟨(.sm ø ø),⟨⟨_,ø,.map⟩,⟨_,ø,.vec⟩,⟨_,ø,.iter ø⟩,þ⟩,ø⟩)))
  ·
   obtain⟨p_,h,hp⟩:=a0.done b5
   replace h:=app1 a6 h
   refine JLh (BL false) (Hu ø ø ø) ø (G7 (a1 (Js fun f0=>uR ø (H5 (b1 (Jr fun b9=>(JLm (.vec 1060 c.length 4 c.length) ø ?_)))))))
   obtain⟨t,c0,h⟩:=Ge h
   refine JLh (.tup []) (H6e (f:=G1.av) (cmp:=(fun z0 z1=>Ze z0 z1)) (xs:=c) (r:=t) G1.vs ø HU xM (fun _=>ø) (fun _=>ø) (fun _=>Hce ø) HP HN ø ø ø ø ø c0 (fun z0 z1 q hq=>oL z0 z1 q hq) ø) ø (G7 (b9 (Jr fun c1=>(JLm (.vec 1060 c.length 4 c.length) ø (JLm (.vec 1060 c.length 4 c.length) ø (G7 (c1 (xC [(2,E4 t)] [] 1060 rfl rfl þ rfl (by exact⟨.vec,þ⟩) (Gt (⟨[E4 t],[],þ,ø,⟨⟨_,ø,.conv (.same ø)⟩,þ⟩,ø,t,Eq.mpr (Nv h) hp,ø⟩))))))))))
theorem GM (S_:(List Box)→Option (List G1)) (hS_:∀ bx r,S_ bx=some r→∃ p:Prop,aS bx (fun r_=>r_=r)=some p∧p) (bx:List Box) (r:(List G1)) (h:S_ bx=some r):Pure Ej 73 [E3 bx] (·=E4 r):=by
 obtain⟨p,a,b⟩:=hS_ bx r h
 exact(GL bx _ p a b).monoP (fun av hh=>by obtain⟨r_,rfl,ha⟩:=hh; exact ha)


abbrev Ka:Nat×Jn:=(1056,.vec 155 4 (([]:List G1).length) (([]:List G1).map G1.av))
theorem yU (bx:List Box) (Rp:(List G1)→Prop) (p:Prop) (h:aS bx Rp=some p) (hp:p):R5 Ej 73 [E3 bx] [] (fun av L'=>∃ p:Nat,∃ r,Rp r∧av=.vec 1060 p 4 r.length∧L'=[(1060,.vec 155 4 p (r.map G1.av))]):=by
 unfold aS at h
 refine dA [] [.tmp 2] Tryz.func73 ø ø (YF ø) (Jr fun e4=>(JLh (.vec 1056 (([]:List G1).length) 4 (([]:List G1).length)) (ZR 1056 155 4 ø ø ø) ø (G7 (e4 (Jr fun e5=>(JLh (.mp 1062) (sU 1062 G5.kv G1.av ø ø) ø (JLm (.mp 1062) ø (G7 (e5 (Js fun e6=>Jr fun e7=>(JLm (E3 bx) ø (JLl Hz ø ø ø fun c2=>(JLm (I64 0) ø (G7 (e7 (Gi ?_))))))))))))))))
 obtain⟨e8,c3,c4,a7,h⟩:=Jg h
 refine H7 (fun i (g:(Hj G5 G1))=>each e8 c3 (List.drop i bx) i g=some p) (fun i g=>[(3,.mp 1062),(12,E3 bx),(13,Ei bx.length),(14,Ei i)]) (fun i g=>[Ka,(1062,MP 239 G5.kv G1.av g)]) (fun i=>bx.length - i) 0 (Hj.empty:Hj G5 G1) h ⟨(.sm ø ø),⟨⟨_,rfl,.vec⟩,fmQ ø,þ⟩,rfl⟩ ?_
 clear h
 intro i g a4 f4 e9
 refine Jr fun c5=>(JLh (BL (decide ((i:Int) < (bx.length:Int)))) (Ht ø ø ø) ø (G7 (c5 (Js fun c6=>Gm ø (fun hb=>?_) (fun hb=>?_)))))
 ·
  have a5:=Q1 hb
  obtain⟨b,f1,c7,c8,h⟩:=J4 a4 a5
  replace h:=Zt c4 h
  refine Gn (c6 ?_)
  obtain⟨c9,a8,h⟩:=bE h
  refine Rh (fun o:(Hj G5 G1)×Int×Int=>c9 o=some p) (fun o=>[(3,.mp 1062),(12,E3 bx),(13,Ei bx.length),(14,Ei i)]) (fun o=>[Ka,(1062,MP 239 G5.kv G1.av o.1),(1059,.box 155 [I64 b.Load,I64 b.Discharge,I64 o.2.1,I64 o.2.2])]) (fun Kj88 ej88=>?_) ?_
  ·
   refine Gi (Jr fun d0=>(JLh (Ef b) (Gs (f:=Box.av) (xs:=bx) (y:=b) ø ø ø Hz c7 ø) ø (JLh (.agg (Box.cs b)) (Gk iL ø ø ø) ø (JLh (.ptr 1057 0) (Q3 1057 9 fG ø ø) ø (J7 (u:=.junk) (Hw (u:=.agg (Box.cs b)) (ds:=(Box.cs b)) nF ø ø ø ø ø ø ø ø) (G7 (d0 ?_)))))))
   refine fzQ [(3,.mp 1062),(5,Ef b),(12,E3 bx),(13,Ei bx.length),(14,Ei i)] [Ka,(1062,MP 239 G5.kv G1.av g)] 1057 rfl rfl rfl ⟨⟨_,rfl,.vec⟩,fmQ ø,þ⟩ rfl ?_
   refine Jr fun d1=>(JLh (.dptr ((Box.cs b).drop 5)) (Gb aD ø ø ø) ø (JLh (I64 b.Load) (Gj Ga ø ø ø) ø (JLh (.dptr ((Box.cs b).drop 6)) (Gb aC ø ø ø) ø (JLh (I64 b.Discharge) (Gj Ga ø ø ø) ø (JLh (.agg [I64 b.Load,I64 b.Discharge]) (Jj (cs:=[I64 b.Load,I64 b.Discharge]) [(0,1),(1,1)] [I64 0,I64 0] [E0,E0] bL cK (zzQ ø) ø ø) ø (JLh (.ptr 1058 0) (Q3 1058 2 Z1 ø ø) ø (J7 (u:=.junk) (Hw (u:=.agg [I64 b.Load,I64 b.Discharge]) (ds:=[I64 b.Load,I64 b.Discharge]) cL ø ø ø ø ø ø ø ø) (G7 (d1 ?_)))))))))
   refine fzQ [(3,.mp 1062),(5,Ef b),(6,.dptr [I64 b.Load,I64 b.Discharge]),(12,E3 bx),(13,Ei bx.length),(14,Ei i)] [Ka,(1062,MP 239 G5.kv G1.av g)] 1058 rfl rfl rfl ⟨⟨_,rfl,.vec⟩,fmQ ø,þ⟩ rfl (Jr fun d2=>(JLm (.mp 1062) ø (JLh (.agg [I64 b.Load,I64 b.Discharge]) (Gk Hm ø ø ø) ø ?_)))
   obtain⟨j,d3,h⟩:=Ge h
   refine JLh (.agg (G1.cs j)) (((Nv d3) ▸ oN (av:=G1.av) (m:=g) (a:=(G5.mk b.Load b.Discharge)) (G1.mk (G5.mk 0 0) 0 0) (.agg #[E0,E0,E0,E0]) ø ø ø ø wC jY G1d ø)) ø (JLh (.ptr 1059 0) (Q3 1059 4 R7 ø ø) ø (J7 (u:=.junk) (Hw (u:=.agg (G1.cs j)) (ds:=[I64 j.G5.Load,I64 j.G5.Discharge,I64 j.Whole,I64 j.Half]) bJ ø ø ø ø ø ø ø ø) (G7 (d2 ?_))))
   refine Jr fun d4=>(JLh (.agg [I64 b.Load,I64 b.Discharge]) (Gk Hm ø ø ø) ø (JLh (.ptr 1059 0) (Qn Q0 ø ø) ø (J7 (u:=.junk) (Hw (u:=.agg [I64 b.Load,I64 b.Discharge]) (ds:=[I64 b.Load,I64 b.Discharge,I64 j.Whole,I64 j.Half]) cL ø ø ø ø ø ø ø ø) (G7 (d4 ?_)))))
   obtain⟨d5,a9,h⟩:=bE h
   refine Rh (fun k:Int×Int=>d5 k=some p) (fun k=>[(3,.mp 1062),(6,.dptr [I64 b.Load,I64 b.Discharge]),(7,.ptr 1059 0),(12,E3 bx),(13,Ei bx.length),(14,Ei i)]) (fun k=>[Ka,(1062,MP 239 G5.kv G1.av g),(1059,.box 155 [I64 b.Load,I64 b.Discharge,I64 k.1,I64 k.2])]) (fun Kj94 ej94=>?_) ?_
   ·
    refine Jr fun d6=>(JLh (.dptr ((Box.cs b).drop 2)) (Gb bM ø ø ø) ø (JLh (U8 b.Size) (Gj dY ø ø ø) ø (G7 (d6 (Gi (Jr fun d7=>(JLh (BL (decide (b.Size=40))) (Rk ø ø ø) ø (JLm (BL (decide (b.Size=40))) ø (G7 (d7 (JCc ø h (fun h hb=>?_) (fun h hb=>?_))))))))))))
    ·
     refine G2 (JLh (.ptr 1059 2) (Qn aN ø ø) ø (JLh (I64 j.Whole) (bY Ga ø ø ø ø) ø ?_))
     obtain⟨x,d8,h⟩:=Hd h
     refine JLh (I64 x) (Hf d8 ø ø ø) ø (JLh (.ptr 1059 2) (Qn aN ø ø) ø (J7 (u:=.junk) (Hw (u:=I64 x) (ds:=[I64 b.Load,I64 b.Discharge,I64 x,I64 j.Half]) Zy ø ø ø ø ø ø ø ø) (G7 (ej94 _ _ (x,j.Half) h ⟨(.sm ø ø),⟨⟨_,rfl,.vec⟩,fmQ ø,fbQ ø (.sm ø ø),þ⟩,rfl⟩))))
    ·
     refine Jr fun d9=>(JLh (BL (decide (b.Size=20))) (Rk ø ø ø) ø (JLm (BL (decide (b.Size=20))) ø (G7 (d9 (JCc ø h (fun h hb=>?_) (fun h hb=>?_))))))
     ·
      refine G2 (JLh (.ptr 1059 3) (Qn aM ø ø) ø (JLh (I64 j.Half) (bY Ga ø ø ø ø) ø ?_))
      obtain⟨z,e0,h⟩:=Hd h
      refine JLh (I64 z) (Hf e0 ø ø ø) ø (JLh (.ptr 1059 3) (Qn aM ø ø) ø (J7 (u:=.junk) (Hw (u:=I64 z) (ds:=[I64 b.Load,I64 b.Discharge,I64 j.Whole,I64 z]) Zy ø ø ø ø ø ø ø ø) (G7 (ej94 _ _ (j.Whole,z) h ⟨(.sm ø ø),⟨⟨_,rfl,.vec⟩,fmQ ø,fbQ ø (.sm ø ø),þ⟩,rfl⟩))))
     ·
      refine H5 (ej88 _ _ (g,j.Whole,j.Half) h ⟨(.sm ø ø),⟨⟨_,rfl,.vec⟩,fmQ ø,fbQ ø (.sm ø ø),þ⟩,rfl⟩)
   ·intro k h
    replace h:=app1 a9 h
    refine G2 (JLm (.mp 1062) ø (JLh (.agg [I64 b.Load,I64 b.Discharge]) (Gk Hm ø ø ø) ø (JLh (.agg [I64 b.Load,I64 b.Discharge,I64 k.1,I64 k.2]) (sV Qw ø ø ø ø) ø (J7 (u:=.junk) (zD (m:=g) (a:=(G5.mk b.Load b.Discharge)) (v:=(G1.mk (G5.mk b.Load b.Discharge) k.1 k.2)) ø ø ø ø ø ø wC jY) (G7 (ej88 _ _ ((Hj.put g (G5.mk b.Load b.Discharge) (G1.mk (G5.mk b.Load b.Discharge) k.1 k.2)),k.1,k.2) h ⟨(.sm ø ø),⟨⟨_,rfl,.vec⟩,fmQ ø,fbQ ø (.sm ø ø),þ⟩,rfl⟩))))))
  ·intro o h
   replace h:=app1 a8 h
   refine G2 (JLh (I64 ((i+1:Nat):Int)) (Hf (Hq a5 c2) ø ø ø) ø (JLm (I64 ((i+1:Nat):Int)) ø (G7 (e9 _ _ (i+1) o.1 (app1 c8 h) (by omega) ⟨(.sm ø ø),⟨⟨_,rfl,.vec⟩,fmQ ø,þ⟩,rfl⟩))))
 ·
  have h:=app1 a7 (J5 a4 (Hg hb))
  refine H5 (e6 (Jr fun b0=>(JLh (.vec 1060 (([]:List G1).length) 4 (([]:List G1).length)) (ZR 1060 155 4 ø ø ø) ø (G7 (b0 (Js fun b1=>Jr fun b2=>(JLm (.mp 1062) ø (JLh (.it 1063) (zB 1063 (m:=g) ø ø ø ø jY) ø (G7 (b2 (Gi ?_)))))))))))
  obtain⟨e1,b3,b4,a6,h⟩:=yI h
  refine yX (Hj.size g) (fun n (c:(List G1))=>MInv e1 b3 (Hj.l g) n c) (fun n c=>[(8,.vec 1060 c.length 4 c.length),(47,.it 1063)]) (fun n c=>[Ka,(1062,MP 239 G5.kv G1.av g),(1060,.vec 155 4 c.length (c.map G1.av)),(1063,.iter (.mp 1062) (Hj.size g) n)]) [] (MInv.start h hp) ⟨(.sm ø ø),⟨⟨_,ø,.vec⟩,⟨_,ø,.map⟩,⟨_,ø,.vec⟩,⟨_,ø,.iter ø⟩,þ⟩,ø⟩ ?_
  clear h hp
  intro n c a0 f2 e2
  refine Jr fun a1=>hU ø ø ø (QU (m:=g) ø ø ø ø) ?_
  intro u_ L_ hn_
  rcases hn_ with ⟨t,d,s,a2,rfl,rfl⟩ | ⟨b5,rfl,rfl⟩
  ·
   obtain⟨f3,h,e3,a3⟩:=a0.step s a2
   replace h:=vM b4 h
   refine JLh (BL true) (Hu ø ø ø) ø (G7 (a1 (Js fun b6=>yY ø (Gn (b6 (Gi (Jr fun b7=>(JLh (.tup [.agg [I64 d.1.Load,I64 d.1.Discharge],.agg (G1.cs d.2)]) (zF (kv:=G5.kv) (av:=G1.av) (m:=g) (q:=t) (seen:=n) (e:=d) ø ø ø ø s) ø (JLh (.agg (G1.cs d.2)) (Hu ø ø ø) ø (JLh (.ptr 1061 0) (Q3 1061 4 R7 ø ø) ø (J7 (u:=.junk) (Hw (u:=.agg (G1.cs d.2)) (ds:=[I64 d.2.G5.Load,I64 d.2.G5.Discharge,I64 d.2.Whole,I64 d.2.Half]) bJ ø ø ø ø ø ø ø ø) (G7 (b7 ?_)))))))))))))
   refine H1 [(8,.vec 1060 c.length 4 c.length),(10,Ed d.2),(47,.it 1063)] [Ka,(1062,MP 239 G5.kv G1.av g),(1060,.vec 155 4 c.length (c.map G1.av)),(1063,.iter (.mp 1062) (Hj.size g) (n++[t]))] 1061 rfl rfl rfl ⟨⟨_,rfl,.vec⟩,fmQ ø,⟨_,rfl,.vec⟩,⟨_,rfl,.iter rfl⟩,þ⟩ rfl (by exact⟨.conv (.same rfl),.ptr,.conv (.same rfl),þ⟩) (G2 (JLm (.vec 1060 c.length 4 c.length) ø (JLh (.agg (G1.cs d.2)) (Gk Qw ø ø ø) ø (JLh (E4 [d.2]) (Hn (xs:=[.agg (G1.cs d.2)]) ø ⟨ø,ø,þ⟩ H6 R7 ø ø ø ø) ø ?_))))
   obtain⟨b8,h⟩:=J2 h
   refine JLh (.vec 1060 ((c++[d.2]).length) 4 ((c++[d.2]).length)) (ZS (f:=G1.av) (xs:=c) (ys:=[d.2]) (ver:=c.length) (ver1:=(c++[d.2]).length) rfl rfl rfl rfl H6 fK b8 (fun _=>rfl) (.inl rfl) (by simp)) ø (JLm (.vec 1060 ((c++[d.2]).length) 4 ((c++[d.2]).length)) ø (G7 (e2 _ _ (n++[t]) (c++[d.2]) (a3 _ (Nv h).symm) (uU (Nt s).1 a2) ⟨(.sm ø ø),⟨⟨_,ø,.vec⟩,⟨_,ø,.map⟩,⟨_,ø,.vec⟩,⟨_,ø,.iter ø⟩,þ⟩,ø⟩)))
  ·
   obtain⟨p_,h,hp⟩:=a0.done b5
   replace h:=app1 a6 h
   refine JLh (BL false) (Hu ø ø ø) ø (G7 (a1 (Js fun f0=>uR ø (H5 (b1 (Jr fun b9=>(JLm (.vec 1060 c.length 4 c.length) ø ?_)))))))
   obtain⟨w,c0,h⟩:=Ge h
   refine JLh (.tup []) (H6e (f:=G1.av) (cmp:=(fun z0 z1=>Ze z0 z1)) (xs:=c) (r:=w) G1.vs ø HU xM (fun _=>ø) (fun _=>ø) (fun _=>Hce ø) HP HN ø ø ø ø ø c0 (fun z0 z1 q hq=>oL z0 z1 q hq) ø) ø (G7 (b9 (Jr fun c1=>(JLm (.vec 1060 c.length 4 c.length) ø (JLm (.vec 1060 c.length 4 c.length) ø (G7 (c1 (QT 2 ø ø (fun hn_=>Gt (⟨[.vec 1060 c.length 4 c.length],[(1060,.vec 155 4 c.length (w.map G1.av))],⟨⟨_,ø,.vec⟩,þ⟩,ø,⟨⟨_,ø,.conv (.same ø)⟩,þ⟩,c.length,w,Eq.mpr (Nv h) hp,congrArg (fun n_:Nat=>(.vec 1060 c.length 4 n_:AV)) (hn_.trans (P9 _)),ø⟩))))))))))
theorem yT (S_:(List Box)→Option (List G1)) (hS_:∀ bx r,S_ bx=some r→∃ p:Prop,aS bx (fun r_=>r_=r)=some p∧p) (bx:List Box) (r:(List G1)) (h:S_ bx=some r):R5 Ej 73 [E3 bx] [] (fun av L'=>∃ p:Nat,av=.vec 1060 p 4 r.length∧L'=[(1060,.vec 155 4 p (r.map G1.av))]):=by
 obtain⟨p,a,b⟩:=hS_ bx r h
 exact(yU bx _ p a b).mono (fun av L hh=>by obtain⟨q,r_,rfl,ha,hb⟩:=hh; exact⟨q,ha,hb⟩)
end
end Go.Proofs.YthkihfoleenlmaaGreat
