/- Walks of functions. -/
import Derived.Test.YthkihfoleenlmaaGreatXC
import Derived.Test.YthkihfoleenlmaaGreatXZ
import Derived.Test.YthkihfoleenlmaaGreatMrk
set_option maxRecDepth 100000
set_option maxHeartbeats 1000000
set_option linter.unusedVariables false
set_option linter.unusedSimpArgs false
namespace Go.Proofs.YthkihfoleenlmaaGreat
open Go.RowKit
noncomputable section
structure Slot where
 Gc:Int
 Tier:Int
 Half:Int
 deriving DecidableEq,Inhabited
def Slot.cs (x:Slot):List AV:=[I64 x.Gc,I64 x.Tier,U8 x.Half]
def Slot.av (x:Slot):AV:=.agg x.cs
structure Hr where
 Box:Int
 Slot:Slot
 deriving DecidableEq,Inhabited
def Hr.cs (x:Hr):List AV:=[I64 x.Box,I64 x.Slot.Gc,I64 x.Slot.Tier,U8 x.Slot.Half]
def Hr.av (x:Hr):AV:=.agg x.cs
structure QG where
 States:List (List Hr)
 Water:List (List Int)
 deriving DecidableEq,Inhabited
def QG.cs (x:QG):List AV:=[LS 1 (LS 4 Hr.av) x.States,LS 1 (E1) x.Water]
def QG.av (x:QG):AV:=.agg x.cs
structure Call where
 Port:ByteArray
 At:Int
 Draught:Int
 deriving DecidableEq,Inhabited
def Call.cs (x:Call):List AV:=[ST x.Port,I64 x.At,I64 x.Draught]
def Call.av (x:Call):AV:=.agg x.cs
structure wA where
 Call:Int
 Rule:Int
 Box:Int
 Other:Int
 deriving DecidableEq,Inhabited
def wA.cs (x:wA):List AV:=[I64 x.Call,U8 x.Rule,I64 x.Box,I64 x.Other]
def wA.av (x:wA):AV:=.agg x.cs
structure Move where
 Kind:Int
 Box:Int
 Slot:Slot
 Gz:Int
 deriving DecidableEq,Inhabited
def Move.cs (x:Move):List AV:=[U8 x.Kind,I64 x.Box,I64 x.Slot.Gc,I64 x.Slot.Tier,U8 x.Slot.Half,I64 x.Gz]
def Move.av (x:Move):AV:=.agg x.cs
structure G12 where
 Bay:Int
 Phase:Int
 Lifts:Int
 Covers:Int
 deriving DecidableEq,Inhabited
def G12.cs (x:G12):List AV:=[I64 x.Bay,I64 x.Phase,I64 x.Lifts,I64 x.Covers]
def G12.av (x:G12):AV:=.agg x.cs
namespace XQF
open XAF
open XLF
open XBF
open XCF
theorem HQ:H8 Ej 167=true:=by kernel_rfl
theorem H14:H8 Ej 22=true:=by kernel_rfl
theorem H13:H8 Ej 23=true:=by kernel_rfl
theorem H12:H8 Ej 26=true:=by kernel_rfl
theorem RN:H8 Ej 27=true:=by kernel_rfl
theorem RM:H8 Ej 28=true:=by kernel_rfl
theorem H11:H8 Ej 29=true:=by kernel_rfl
theorem H10:H8 Ej 30=true:=by kernel_rfl
theorem H0f:H8 Ej 31=true:=by kernel_rfl
theorem rR:H8 Ej 67=true:=by kernel_rfl
theorem iB:H8 Ej 68=true:=by kernel_rfl
theorem H02:H8 Ej 69=true:=by kernel_rfl
theorem H01:H8 Ej 70=true:=by kernel_rfl
theorem H78:H8 Ej 8=true:=by kernel_rfl
theorem H77:H8 Ej 9=true:=by kernel_rfl
theorem G7a:Rr Ej 32 13=true:=by kernel_rfl
end XQF
open XAF
open XLF
open XBF
open XCF
open XQF

def aQ (s:H2) (bx:List Box) (families:List (List G5)):Option Bool:=
 bif ((((decide (20 < (s.Columns.length:Int)))||(decide (20 < (s.Covers.length:Int))))||(decide (12 < (bx.length:Int))))||(decide (6 < (families.length:Int)))) then
 (some false)
 else
 (each (fun d j (e:Unit) a=>
   bif decide (12 < (d.Plugs.length:Int)) then
   (some false)
   else
   (a ()))
  (fun(e:Unit)=>
   each (fun f k (g:Unit) b=>
    bif decide (40 < (f.Rows.length:Int)) then
    (some false)
    else
    (b ()))
   (fun(g:Unit)=>
    each (fun h l (i:Unit) c=>
     bif decide (8 < (h.length:Int)) then
     (some false)
     else
     (c ()))
    (fun(i:Unit)=>
     some true) families 0 ()) s.Covers 0 ()) s.Columns 0 ())
abbrev Mx (s:H2):Bool:=((decide (20 < (s.Columns.length:Int)))||(decide (20 < (s.Covers.length:Int))))
theorem sO (s:H2) (bx:List Box) (families:List (List G5)) (r:Bool) (h:aQ s bx families=some r):Pure Ej 26 [.agg (H2.cs s),E3 bx,LS 1 (E2) families] (·=BL r):=by
 unfold aQ at h
 refine Gy [.tmp 6] Tryz.func26 ø ø (Jr fun d6=>(JLh (.ptr 1010 0) (Qr (cs:=(H2.cs s)) 1010 ø ø ø ø ø) ø (JLm (BL false) ø (G7 (d6 (H1 [(1,E3 bx),(2,LS 1 (E2) families),(3,Ec s)] [] 1010 rfl rfl rfl þ rfl (by exact⟨.conv (.same rfl),.conv (.same rfl),.ptr,þ⟩) (Js fun d7=>?_)))))))
 refine Jr fun d8=>(JLh (Ec s) (Gb J1 ø ø ø) ø (JLh (E5 s.Columns) (Gj Jd ø ø ø) ø (JLl Ha ø ø ø fun e8=>(JLh (BL (decide (20 < (s.Columns.length:Int)))) (Ya ø ø ø) ø (JLm (BL (decide (20 < (s.Columns.length:Int)))) ø (JLo (.dptr ((H2.cs s).drop 1)) [] ø .scf þ (fun hc=>Gb Qv ø ø ø) ø (JLo (E6 s.Covers) [18] ø .scf ⟨Ua,þ⟩ (fun hc=>Gj Y2 ø ø ø) ø (JLo (Ei s.Covers.length) [19] ø .scf ⟨Ua,þ⟩ (fun hc=>Q4 (f:=Gz.av) (xs:=s.Covers) J6 ø ø) ø (JLo (BL (decide (20 < (s.Covers.length:Int)))) [20] ø .scf ⟨Ua,þ⟩ (fun hc=>Ya ø ø ø) ø (JLh (BL (Mx s)) (aJ ø ø ø ø) ø (JLm (BL (Mx s)) ø (JLo (E3 bx) [] ø .scf þ (fun hc=>G3 ø ø) ø (JLo (Ei bx.length) [24] ø .scf ⟨Ua,þ⟩ (fun hc=>Q4 (f:=Box.av) (xs:=bx) Hz ø ø) ø ?_)))))))))))))
 refine JLo (BL (decide (12 < (bx.length:Int)))) [25] ø .scf ⟨Ua,þ⟩ (fun hc=>Ya ø ø ø) ø (JLh (BL ((Mx s)||(decide (12 < (bx.length:Int))))) (aJ ø ø ø ø) ø (JLm (BL ((Mx s)||(decide (12 < (bx.length:Int))))) ø (JLo (LS 1 (E2) families) [] ø .scf þ (fun hc=>G3 ø ø) ø (JLo (Ei families.length) [29] ø .scf ⟨Ua,þ⟩ (fun hc=>Q4 (f:=(E2)) (xs:=families) Rj ø ø) ø (JLo (BL (decide (6 < (families.length:Int)))) [30] ø .scf ⟨Ua,þ⟩ (fun hc=>Ya ø ø ø) ø (JLh (BL (((Mx s)||(decide (12 < (bx.length:Int))))||(decide (6 < (families.length:Int))))) (aJ ø ø ø ø) ø (G7 (d8 ?_))))))))
 refine JCc ø h ?_ ?_<;>intro h hb
 ·
  refine Jr fun d9=>(JLm (BL false) ø (G7 (d9 (Gt (fin1 BL h)))))
 ·
  refine Gn (d7 (Js fun e0=>Jr fun e1=>(JLh (Ec s) (Gb J1 ø ø ø) ø (JLh (E5 s.Columns) (Gj Jd ø ø ø) ø (JLl Ha ø ø ø fun x=>(JLm (I64 0) ø (G7 (e1 (Gi ?_)))))))))
  obtain⟨e2,z,a0,t,h⟩:=Jg h
  refine H7 (fun b (i:Unit)=>each e2 z (List.drop b s.Columns) b i=some r) (fun b i=>[(2,LS 1 (E2) families),(3,Ec s),(34,E5 s.Columns),(35,Ei s.Columns.length),(36,Ei b)]) (fun b i=>[]) (fun b=>s.Columns.length - b) 0 () h ⟨(.sm ø ø),þ,rfl⟩ ?_
  clear h
  intro b i l f5 e3
  refine Jr fun a1=>(JLh (BL (decide ((b:Int) < (s.Columns.length:Int)))) (Ht ø ø ø) ø (G7 (a1 (Js fun a2=>Gm ø (fun hb=>?_) (fun hb=>?_)))))
  ·
   have m:=Q1 hb
   obtain⟨e,e9,a3,a4,h⟩:=J4 l m
   replace h:=Zt a0 h
   refine Gn (a2 (Js fun a5=>Gi (Jr fun a6=>(JLh (Ee e) (Gs (f:=Gc.av) (xs:=s.Columns) (y:=e) ø ø ø Ha a3 ø) ø (JLh (.agg (Gc.cs e)) (Gk Z4 ø ø ø) ø (JLh (.ptr 1011 0) (Q3 1011 12 fH ø ø) ø (J7 (u:=.junk) (Hw (u:=.agg (Gc.cs e)) (ds:=(Gc.cs e)) jX ø ø ø ø ø ø ø ø) (G7 (a6 (fzQ [(2,LS 1 (E2) families),(3,Ec s),(8,Ee e),(34,E5 s.Columns),(35,Ei s.Columns.length),(36,Ei b)] [] 1011 rfl rfl rfl þ rfl ?_))))))))))
   refine Jr fun a7=>(JLh (.dptr ((Gc.cs e).drop 8)) (Gb Rf ø ø ø) ø (JLh (E1 e.Plugs) (Gj Hv ø ø ø) ø (JLl Gr ø ø ø fun f0=>(JLh (BL (decide (12 < (e.Plugs.length:Int)))) (Ya ø ø ø) ø (G7 (a7 (JCc ø h (fun h hb=>?_) (fun h hb=>?_))))))))
   ·
    refine Jr fun a8=>(JLm (BL false) ø (G7 (a8 (Gt (fin1 BL h)))))
   ·
    refine Gn (a5 (G2 (JLh (I64 ((b+1:Nat):Int)) (Hf (Hq m x) ø ø ø) ø (JLm (I64 ((b+1:Nat):Int)) ø (G7 (e3 _ _ (b+1) () (app1 a4 h) (by omega) ⟨(.sm ø ø),þ,rfl⟩))))))
  ·
   have h:=app1 t (J5 l (Hg hb))
   refine H5 (e0 (Js fun a9=>Jr fun b0=>(JLh (.dptr ((H2.cs s).drop 1)) (Gb Qv ø ø ø) ø (JLh (E6 s.Covers) (Gj Y2 ø ø ø) ø (JLl J6 ø ø ø fun b1=>(JLm (I64 0) ø (G7 (b0 (Gi ?_)))))))))
   obtain⟨e4,b2,b3,v,h⟩:=Jg h
   refine H7 (fun c (j:Unit)=>each e4 b2 (List.drop c s.Covers) c j=some r) (fun c j=>[(2,LS 1 (E2) families),(46,E6 s.Covers),(47,Ei s.Covers.length),(48,Ei c)]) (fun c j=>[]) (fun c=>s.Covers.length - c) 0 () h ⟨(.sm ø ø),þ,rfl⟩ ?_
   clear h
   intro c j n f6 e5
   refine Jr fun b4=>(JLh (BL (decide ((c:Int) < (s.Covers.length:Int)))) (Ht ø ø ø) ø (G7 (b4 (Js fun b5=>Gm ø (fun hb=>?_) (fun hb=>?_)))))
   ·
    have o:=Q1 hb
    obtain⟨a,f1,b6,b7,h⟩:=J4 n o
    replace h:=Zt b3 h
    refine Gn (b5 (Js fun b8=>Gi (Jr fun b9=>(JLh (.dptr [I64 a.Bay,E1 a.Rows]) (Gs (f:=Gz.av) (xs:=s.Covers) (y:=a) ø ø ø J6 b6 ø) ø (JLh (.agg [I64 a.Bay,E1 a.Rows]) (Gk Zz ø ø ø) ø (JLh (.ptr 1012 0) (Q3 1012 2 iH ø ø) ø (J7 (u:=.junk) (Hw (u:=.agg [I64 a.Bay,E1 a.Rows]) (ds:=[I64 a.Bay,E1 a.Rows]) jW ø ø ø ø ø ø ø ø) (G7 (b9 (fzQ [(2,LS 1 (E2) families),(10,.dptr [I64 a.Bay,E1 a.Rows]),(46,E6 s.Covers),(47,Ei s.Covers.length),(48,Ei c)] [] 1012 rfl rfl rfl þ rfl ?_))))))))))
    refine Jr fun c0=>(JLh (.dptr [E1 a.Rows]) (Gb Qj ø ø ø) ø (JLh (E1 a.Rows) (Gj Hv ø ø ø) ø (JLl Gr ø ø ø fun f2=>(JLh (BL (decide (40 < (a.Rows.length:Int)))) (Ya ø ø ø) ø (G7 (c0 (JCc ø h (fun h hb=>?_) (fun h hb=>?_))))))))
    ·
     refine Jr fun c1=>(JLm (BL false) ø (G7 (c1 (Gt (fin1 BL h)))))
    ·
     refine Gn (b8 (G2 (JLh (I64 ((c+1:Nat):Int)) (Hf (Hq o b1) ø ø ø) ø (JLm (I64 ((c+1:Nat):Int)) ø (G7 (e5 _ _ (c+1) () (app1 b7 h) (by omega) ⟨(.sm ø ø),þ,rfl⟩))))))
   ·
    have h:=app1 v (J5 n (Hg hb))
    refine H5 (a9 (Js fun c2=>Jr fun c3=>(JLm (LS 1 (E2) families) ø (JLl Rj ø ø ø fun c4=>(JLm (I64 0) ø (G7 (c3 (Gi ?_))))))))
    obtain⟨e6,c5,c6,w,h⟩:=Jg h
    refine H7 (fun d (k:Unit)=>each e6 c5 (List.drop d families) d k=some r) (fun d k=>[(57,LS 1 (E2) families),(58,Ei families.length),(59,Ei d)]) (fun d k=>[]) (fun d=>families.length - d) 0 () h ⟨(.sm ø ø),þ,ø⟩ ?_
    clear h
    intro d k p f7 e7
    refine Jr fun c7=>(JLh (BL (decide ((d:Int) < (families.length:Int)))) (Ht ø ø ø) ø (G7 (c7 (Js fun c8=>Gm ø (fun hb=>?_) (fun hb=>?_)))))
    ·
     have q:=Q1 hb
     obtain⟨g,f3,c9,d0,h⟩:=J4 p q
     replace h:=Zt c6 h
     refine Gn (c8 (Js fun d1=>Gi (Jr fun d2=>(JLh (.dptr [E2 g]) (Gs (f:=(E2)) (xs:=families) (y:=g) ø ø ø Rj c9 ø) ø (JLh (E2 g) (Gj bK ø ø ø) ø (JLm (E2 g) ø (G7 (d2 (Jr fun d3=>(JLm (E2 g) ø (JLl Hx ø ø ø fun f4=>(JLh (BL (decide (8 < (g.length:Int)))) (Ya ø ø ø) ø (G7 (d3 (JCc ø h (fun h hb=>?_) (fun h hb=>?_))))))))))))))))
     ·
      refine Jr fun d4=>(JLm (BL false) ø (G7 (d4 (Gt (fin1 BL h)))))
     ·
      refine Gn (d1 (G2 (JLh (I64 ((d+1:Nat):Int)) (Hf (Hq q c4) ø ø ø) ø (JLm (I64 ((d+1:Nat):Int)) ø (G7 (e7 _ _ (d+1) () (app1 d0 h) (by omega) ⟨(.sm ø ø),þ,rfl⟩))))))
    ·
     have h:=app1 w (J5 p (Hg hb))
     refine H5 (c2 (Jr fun d5=>(JLm (BL true) ø (G7 (d5 (Gt (fin1 BL h)))))))

def Qi (columns:Int):Option H2:=
 need (decide (columns≤9223372036854775807)) <|
 upto (fun b (a:(List Gc)×(List Gz)×Int×Int×Int×Int×(List Row)×(List Frame)×(List He)×Int×Int×Int×Int) c=>
  need (decide ((a.1.length+[(Gc.mk 0 (b:Int) false 2 0 0 0 0 [] 0 0 0)].length)*112≤140737488355328∧a.1.length+[(Gc.mk 0 (b:Int) false 2 0 0 0 0 [] 0 0 0)].length≤maxLen)) <|
  c ((a.1++[(Gc.mk 0 (b:Int) false 2 0 0 0 0 [] 0 0 0)]),a.2.1,a.2.2.1,a.2.2.2.1,a.2.2.2.2.1,a.2.2.2.2.2.1,a.2.2.2.2.2.2.1,a.2.2.2.2.2.2.2.1,a.2.2.2.2.2.2.2.2.1,a.2.2.2.2.2.2.2.2.2.1,a.2.2.2.2.2.2.2.2.2.2.1,a.2.2.2.2.2.2.2.2.2.2.2.1,a.2.2.2.2.2.2.2.2.2.2.2.2))
 (fun(a:(List Gc)×(List Gz)×Int×Int×Int×Int×(List Row)×(List Frame)×(List He)×Int×Int×Int×Int)=>
  some (H2.mk a.1 a.2.1 (Light.mk a.2.2.1 a.2.2.2.1 a.2.2.2.2.1 a.2.2.2.2.2.1) a.2.2.2.2.2.2.1 a.2.2.2.2.2.2.2.1 a.2.2.2.2.2.2.2.2.1 (Gp.mk a.2.2.2.2.2.2.2.2.2.1 a.2.2.2.2.2.2.2.2.2.2.1 a.2.2.2.2.2.2.2.2.2.2.2.1 a.2.2.2.2.2.2.2.2.2.2.2.2))) columns.toNat 0 ([],[],0,0,0,0,[],[],[],0,0,0,0)
abbrev My (a:(List Gc)×(List Gz)×Int×Int×Int×Int×(List Row)×(List Frame)×(List He)×Int×Int×Int×Int):List AV:=[OW 1048 12 Gc.av a.1,E6 a.2.1,I64 a.2.2.1,I64 a.2.2.2.1,I64 a.2.2.2.2.1,I64 a.2.2.2.2.2.1,E8 a.2.2.2.2.2.2.1,E7 a.2.2.2.2.2.2.2.1,E9 a.2.2.2.2.2.2.2.2.1,I64 a.2.2.2.2.2.2.2.2.2.1,I64 a.2.2.2.2.2.2.2.2.2.2.1,I64 a.2.2.2.2.2.2.2.2.2.2.2.1,I64 a.2.2.2.2.2.2.2.2.2.2.2.2]
abbrev Mz (a:Nat):List Gc:=[(Gc.mk 0 (a:Int) false 2 0 0 0 0 [] 0 0 0)]
abbrev N0 (a:Nat):List AV:=[I64 0,Ei a,BL false,I64 2,I64 0,I64 0,I64 0,I64 0,E1 ([]:List Int),I64 0,I64 0,I64 0]
abbrev N1:List AV:=[E5 ([]:List Gc),E6 ([]:List Gz),I64 0,I64 0,I64 0,I64 0,E8 ([]:List Row),E7 ([]:List Frame),E9 ([]:List He),I64 0,I64 0,I64 0,I64 0]
theorem Qx (columns:Int) (r:H2) (h:Qi columns=some r):Pure Ej 68 [I64 columns] (·=.agg (H2.cs r)):=by
 unfold Qi at h
 refine Gy [.cell 2 32] Tryz.func68 ø ø (Jr fun s=>(JLh (.ptr 1046 0) (Y4 1046 N1 [.slice none 0 0,.slice none 0 0,E0,E0,E0,E0,.slice none 0 0,.slice none 0 0,.slice none 0 0,E0,E0,E0,E0] nE ⟨.inr ⟨_,ø,ø⟩,.inr ⟨_,ø,ø⟩,.inl ø,.inl ø,.inl ø,.inl ø,.inr ⟨_,ø,ø⟩,.inr ⟨_,ø,ø⟩,.inr ⟨_,ø,ø⟩,.inl ø,.inl ø,.inl ø,.inl ø,þ⟩ ø ø) ø (G7 (s ?_))))
 refine Jr fun t=>(JLh (.ptr 1047 0) (Y4 1047 [.sc (.slice none 0 0),E6 ([]:List Gz),I64 0,I64 0,I64 0,I64 0,E8 ([]:List Row),E7 ([]:List Frame),E9 ([]:List He),I64 0,I64 0,I64 0,I64 0] [.slice none 0 0,.slice none 0 0,E0,E0,E0,E0,.slice none 0 0,.slice none 0 0,.slice none 0 0,E0,E0,E0,E0] nE ⟨.inl ø,.inr ⟨_,ø,ø⟩,.inl ø,.inl ø,.inl ø,.inl ø,.inr ⟨_,ø,ø⟩,.inr ⟨_,ø,ø⟩,.inr ⟨_,ø,ø⟩,.inl ø,.inl ø,.inl ø,.inl ø,þ⟩ ø ø) ø ?_)
 refine xB 1047 0 1048 71 12 ø ø ø (cs':=[OW 1048 12 Gc.av ([]:List Gc),E6 ([]:List Gz),I64 0,I64 0,I64 0,I64 0,E8 ([]:List Row),E7 ([]:List Frame),E9 ([]:List He),I64 0,I64 0,I64 0,I64 0]) ø (G7 (t (Js fun v=>Jr fun w=>(JLm (I64 columns) ø (JLm (I64 0) ø (G7 (w (Gi ?_))))))))
 obtain⟨g,h⟩:=J2 h
 obtain⟨x,i,j,e,h⟩:=gT h
 refine H7 (fun b (a:(List Gc)×(List Gz)×Int×Int×Int×Int×(List Row)×(List Frame)×(List He)×Int×Int×Int×Int)=>upto x i (columns.toNat - b) b a=some r) (fun b a=>[(2,.ptr 1046 0),(3,.ptr 1047 0),(5,I64 columns),(6,Ei b)]) (fun b a=>[(1048,.spare 71 12 a.1.length a.1.length),(1046,.box 32 N1),(1047,.box 32 (My a))]) (fun b=>columns.toNat - b) 0 ([],[],0,0,0,0,[],[],[],0,0,0,0) h ⟨(.sm ø ø),⟨⟨_,rfl,.same⟩,fbQ ø (.sm ø ø),fbQ ø (.sm ø ø),þ⟩,rfl⟩ ?_
 clear h
 intro b a c a0 y
 refine Jr fun k=>(JLh (BL (decide ((b:Int) < columns))) (Ht ø ø ø) ø (G7 (k (Js fun l=>Gm ø (fun hb=>?_) (fun hb=>?_)))))
 ·
  have d:=eJ hb
  obtain⟨z,m,h⟩:=eH c d
  replace h:=vM j h
  refine Gn (l (Js fun n=>Gi (Jr fun o=>(JLm (Ei b) ø (JLm (Ei b) ø (G7 (o (G2 ?_))))))))
  refine JLh (.ptr 1047 0) (Qn J1 ø ø) ø (JLh (OW 1048 12 Gc.av a.1) (bY Jd ø ø ø ø) ø (JLm (Ei b) ø (JLh (.agg (N0 b)) (Jj (cs:=(N0 b)) [(0,1),(1,1),(2,1),(3,1),(4,1),(5,1),(6,1),(7,1),(8,1),(9,1),(10,1),(11,1)] [I64 0,I64 0,BL false,I64 0,I64 0,I64 0,I64 0,I64 0,E1 ([]:List Int),I64 0,I64 0,I64 0] [E0,E0,.bool false,E0,E0,E0,E0,E0,.slice none 0 0,E0,E0,E0] xL rJ ⟨.inl ø,.inl ø,.inl ø,.inl ø,.inl ø,.inl ø,.inl ø,.inl ø,.inr ⟨_,ø,ø⟩,.inl ø,.inl ø,.inl ø,þ⟩ ø ø) ø (JLh (E5 ((Mz b))) (Hn (xs:=[.agg (N0 b)]) ø ⟨ø,ø,þ⟩ Ha fH ø ø ø ø) ø ?_))))
  obtain⟨p,h⟩:=J2 h
  refine JLh (OW 1048 12 Gc.av (a.1++(Mz b))) (R3 (f:=Gc.av) (xs:=a.1) (ys:=(Mz b)) ø ø ø ø Ha rP p (fun _=>ø) (.inl ø) ø) ø (JLh (.ptr 1047 0) (Qn J1 ø ø) ø (J7 (u:=.junk) (Hw (u:=OW 1048 12 Gc.av (a.1++(Mz b))) (ds:=[OW 1048 12 Gc.av (a.1++(Mz b)),E6 a.2.1,I64 a.2.2.1,I64 a.2.2.2.1,I64 a.2.2.2.2.1,I64 a.2.2.2.2.2.1,E8 a.2.2.2.2.2.2.1,E7 a.2.2.2.2.2.2.2.1,E9 a.2.2.2.2.2.2.2.2.1,I64 a.2.2.2.2.2.2.2.2.2.1,I64 a.2.2.2.2.2.2.2.2.2.2.1,I64 a.2.2.2.2.2.2.2.2.2.2.2.1,I64 a.2.2.2.2.2.2.2.2.2.2.2.2]) QZ ø ø ø ø ø ø ø ø) (G7 (n ?_))))
  refine G2 (JLh (I64 ((b+1:Nat):Int)) (Hf (Hq d (cI g)) ø ø ø) ø (JLm (I64 ((b+1:Nat):Int)) ø (G7 (y _ _ (b+1) ((a.1++(Mz b)),a.2.1,a.2.2.1,a.2.2.2.1,a.2.2.2.2.1,a.2.2.2.2.2.1,a.2.2.2.2.2.2.1,a.2.2.2.2.2.2.2.1,a.2.2.2.2.2.2.2.2.1,a.2.2.2.2.2.2.2.2.2.1,a.2.2.2.2.2.2.2.2.2.2.1,a.2.2.2.2.2.2.2.2.2.2.2.1,a.2.2.2.2.2.2.2.2.2.2.2.2) (app1 m h) (by omega) ⟨(.sm ø ø),⟨⟨_,rfl,.same⟩,fbQ ø (.sm ø ø),fbQ ø (.sm ø ø),þ⟩,rfl⟩))))
 ·
  have h:=app1 e (eI c (Z2 hb))
  refine H5 (v ?_)
  refine Jr fun q=>(JLh (.agg (My a)) (sV Qa ø ø ø ø) ø (J7 (u:=.junk) (Hw (u:=.agg (My a)) (ds:=(My a)) rK ø ø ø ø ø ø ø ø) (G7 (q ?_))))
  refine Gt (⟨[.agg [E5 a.1,E6 a.2.1,I64 a.2.2.1,I64 a.2.2.2.1,I64 a.2.2.2.2.1,I64 a.2.2.2.2.2.1,E8 a.2.2.2.2.2.2.1,E7 a.2.2.2.2.2.2.2.1,E9 a.2.2.2.2.2.2.2.2.1,I64 a.2.2.2.2.2.2.2.2.2.1,I64 a.2.2.2.2.2.2.2.2.2.2.1,I64 a.2.2.2.2.2.2.2.2.2.2.2.1,I64 a.2.2.2.2.2.2.2.2.2.2.2.2]],[],þ,ø,⟨⟨_,⟨_,_,_,_,ø,ø,ø,.inl ⟨Qa,ø⟩⟩,.agg ⟨.list ø,.same ø,.same ø,.same ø,.same ø,.same ø,.same ø,.same ø,.same ø,.same ø,.same ø,.same ø,.same ø,þ⟩⟩,þ⟩,ø,congrArg (fun r:H2=>(.agg (H2.cs r):AV)) (Nv h)⟩)

def sQ (n:Int) (d:Int):Option Int:=
 chk (n+d) fun a=>
 chk (a - 1) fun b=>
 bnd (RW b d) fun c=>
 some c
theorem yQ (n:Int) (d:Int) (r:Int) (h:sQ n d=some r):Pure Ej 167 [I64 n,I64 d] (·=I64 r):=by
 unfold sQ at h
 refine Gy [.tmp 4] Tryz.func167 ø ø (Jr fun b=>(JLm (I64 0) ø (G7 (b (Jr fun c=>(JLm (I64 n) ø (JLm (I64 d) ø ?_)))))))
 obtain⟨i,e,h⟩:=Hd h
 refine JLh (I64 i) (Hf e ø ø ø) ø ?_
 obtain⟨j,f,h⟩:=Hd h
 refine JLh (I64 j) (cB f ø ø ø) ø (JLm (I64 d) ø ?_)
 obtain⟨g,a,h⟩:=Ge h
 refine JLh (I64 g) (He1 (mY a).1 (mY a).2 ø ø ø) ø (JLm (I64 g) ø (G7 (c (Gt (fin1 I64 h)))))

def sR (s:H2) (whole:Int) (half:Int):Option (Int×Int):=
 bnd (jM s) fun f=>
 bif (((!f)||(decide ((min whole half) < 0)))||(decide (2000 < (max whole half)))) then
 (some (0,2))
 else
 (bnd (aR s) fun a=>
  bnd (sQ whole a) fun g=>
  chk (2*g) fun b=>
  chk (2*whole) fun c=>
  chk (c+half) fun d=>
  bnd (sQ d a) fun e=>
  some ((max b e),0))
theorem ZG (s:H2) (whole:Int) (half:Int) (r:Int×Int) (h:sR s whole half=some r):Pure Ej 70 [.agg (H2.cs s),I64 whole,I64 half] (·=.tup [I64 r.1,I64 r.2]):=by
 unfold sR at h
 refine Gy [.tmp 6,.tmp 7] Tryz.func70 ø ø (Jr fun l=>(JLh (.ptr 1053 0) (Qr (cs:=(H2.cs s)) 1053 ø ø ø ø ø) ø (JLm (I64 0) ø (JLm (I64 0) ø (G7 (l (H1 [(1,I64 whole),(2,I64 half),(3,Ec s)] [] 1053 rfl rfl rfl þ rfl (by exact⟨.conv (.same rfl),.conv (.same rfl),.ptr,þ⟩) (Js fun m=>Jr fun n=>(JLh (.agg (H2.cs s)) (Gk Qa ø ø ø) ø ?_)))))))))
 obtain⟨a,o,h⟩:=Ge h
 refine JLh (BL a) (Gq ø (uN.down s a o) RK ⟨ø,ø,þ⟩) ø (JLh (BL (!a)) (Ym (b:=a) ø ø) ø (JLm (BL (!a)) ø (JLo (I64 whole) [] ø .scf þ (fun hc=>G3 ø ø) ø (JLo (I64 half) [] ø .scf þ (fun hc=>G3 ø ø) ø (JLo (I64 (min whole half)) [13,14] ø .scf ⟨Ua,Ua,þ⟩ (fun hc=>H71 ø ø ø) ø (JLo (BL (decide ((min whole half) < 0))) [15] ø .scf ⟨Ua,þ⟩ (fun hc=>Ht ø ø ø) ø (JLh (BL ((!a)||(decide ((min whole half) < 0)))) (aJ ø ø ø ø) ø (JLm (BL ((!a)||(decide ((min whole half) < 0)))) ø (JLo (I64 whole) [] ø .scf þ (fun hc=>G3 ø ø) ø (JLo (I64 half) [] ø .scf þ (fun hc=>G3 ø ø) ø (JLo (I64 (max whole half)) [19,20] ø .scf ⟨Ua,Ua,þ⟩ (fun hc=>J5c ø ø ø) ø (JLo (BL (decide (2000 < (max whole half)))) [21] ø .scf ⟨Ua,þ⟩ (fun hc=>Ya ø ø ø) ø (JLh (BL (((!a)||(decide ((min whole half) < 0)))||(decide (2000 < (max whole half))))) (aJ ø ø ø ø) ø (G7 (n ?_)))))))))))))))
 refine JCc ø h ?_ ?_<;>intro h hb
 ·
  refine Jr fun p=>(JLm (I64 0) ø (JLm (I64 2) ø (G7 (p (Gt (⟨[I64 0,I64 2],[],þ,ø,⟨⟨_,ø,.conv (.same ø)⟩,⟨_,ø,.conv (.same ø)⟩,þ⟩,ø,congrArg (fun r:Int×Int=>(.tup [I64 r.1,I64 r.2]:AV)) (Nv h)⟩))))))
 ·
  refine Gn (m (Jr fun q=>(JLh (.agg (H2.cs s)) (Gk Qa ø ø ø) ø ?_)))
  obtain⟨d,t,h⟩:=Ge h
  refine JLh (I64 d) (Gq ø (dR s d t) kW ⟨ø,ø,þ⟩) ø (JLm (I64 d) ø (G7 (q (Jr fun u=>(JLm (I64 whole) ø (JLm (I64 d) ø ?_))))))
  obtain⟨v,w,h⟩:=Ge h
  refine JLh (I64 v) (Gq ø (yQ whole d v w) HQ ⟨ø,ø,ø,ø,þ⟩) ø ?_
  obtain⟨e,g,h⟩:=Hd h
  refine JLh (I64 e) (fF g ø ø ø) ø (JLm (I64 whole) ø ?_)
  obtain⟨x,i,h⟩:=Hd h
  refine JLh (I64 x) (fF i ø ø ø) ø (JLm (I64 half) ø ?_)
  obtain⟨f,j,h⟩:=Hd h
  refine JLh (I64 f) (Hf j ø ø ø) ø (JLm (I64 d) ø ?_)
  obtain⟨c,k,h⟩:=Ge h
  refine JLh (I64 c) (Gq ø (yQ f d c k) HQ ⟨ø,ø,ø,ø,þ⟩) ø (JLh (I64 (max e c)) (J5c ø ø ø) ø (JLm (I64 (max e c)) ø (JLm (I64 0) ø (G7 (u (Gt (⟨[I64 (max e c),I64 0],[],þ,ø,⟨⟨_,ø,.conv (.same ø)⟩,⟨_,ø,.conv (.same ø)⟩,þ⟩,ø,congrArg (fun r:Int×Int=>(.tup [I64 r.1,I64 r.2]:AV)) (Nv h)⟩)))))))

def Zq (F:Nat) :Option Bool:=
 bnd (Qi 1) fun r6=>
 bnd (dW F r6 [(Box.mk 1 ByteArray.empty 40 false 0 0 2 0 false),(Box.mk 2 ByteArray.empty 40 false 0 1 3 0 false)] [(G5.mk 0 2),(G5.mk 1 3)]) fun i=>
 bnd (Qi 2) fun r9=>
 bnd (dW F r9 [(Box.mk 1 ByteArray.empty 40 false 0 0 2 0 false),(Box.mk 2 ByteArray.empty 40 false 0 1 3 0 false)] [(G5.mk 0 2),(G5.mk 1 3)]) fun b=>
 bnd (Qi 1) fun l=>
 bnd (dW F l [(Box.mk 1 ByteArray.empty 20 false 0 0 2 0 false),(Box.mk 2 ByteArray.empty 20 false 0 0 2 0 false),(Box.mk 3 ByteArray.empty 20 false 0 0 2 0 false),(Box.mk 4 ByteArray.empty 20 false 0 1 3 0 false)] [(G5.mk 0 2),(G5.mk 1 3)]) fun c=>
 bnd (Qi 1) fun m=>
 bnd (bI F m [(Box.mk 1 ByteArray.empty 40 false 0 0 2 0 false),(Box.mk 2 ByteArray.empty 40 false 0 1 3 0 false)]) fun a=>
 bnd (Qi 1) fun n=>
 Jx [(G5.mk 0 2),(G5.mk 1 3)] 1 fun o=>
 Jx [(G5.mk 0 2),(G5.mk 1 3)] 0 fun p=>
 bnd (dW F n [(Box.mk 1 ByteArray.empty 40 false 0 0 2 0 false),(Box.mk 2 ByteArray.empty 40 false 0 1 3 0 false)] [o,p]) fun f=>
 bnd (Qi 1) fun q=>
 Jx [(G5.mk 0 2),(G5.mk 1 3)] 0 fun r=>
 bnd (vW F q [(Box.mk 1 ByteArray.empty 40 false 0 0 2 0 false),(Box.mk 2 ByteArray.empty 40 false 0 1 3 0 false)] ([[(G5.mk 0 2),(G5.mk 1 3)],[r]])) fun g=>
 bnd (Qi 1) fun s=>
 bnd (sR s 3 1) fun e=>
 chk (i.2+b.2) fun t=>
 chk (t+c.2) fun u=>
 chk (u+a.2.2) fun v=>
 chk (v+e.2) fun d=>
 bnd (bif ((((((decide (d=0))&&(decide (i.1=1)))&&(decide (b.1=0)))&&(decide (c.1=1)))&&(decide (a.2.1=1)))&&(decide ((a.1.length:Int)=1))) then Jx a.1 0 some else some default) fun w=>
 bnd (bif ((((((decide (d=0))&&(decide (i.1=1)))&&(decide (b.1=0)))&&(decide (c.1=1)))&&(decide (a.2.1=1)))&&(decide ((a.1.length:Int)=1))) then Rm w [(G5.mk 0 2),(G5.mk 1 3)] else some default) fun h=>
 bnd (bif ((((((((((decide (d=0))&&(decide (i.1=1)))&&(decide (b.1=0)))&&(decide (c.1=1)))&&(decide (a.2.1=1)))&&(decide ((a.1.length:Int)=1)))&&h)&&(decide (f.2=270)))&&(decide (g.2=271)))&&(decide (e.1=4))) then Jx [(G5.mk 0 2),(G5.mk 1 3)] 0 some else some default) fun x=>
 bnd (bif ((((((((((decide (d=0))&&(decide (i.1=1)))&&(decide (b.1=0)))&&(decide (c.1=1)))&&(decide (a.2.1=1)))&&(decide ((a.1.length:Int)=1)))&&h)&&(decide (f.2=270)))&&(decide (g.2=271)))&&(decide (e.1=4))) then Jx [(G5.mk 0 2),(G5.mk 1 3)] 1 some else some default) fun y=>
 bnd (bif ((((((((((decide (d=0))&&(decide (i.1=1)))&&(decide (b.1=0)))&&(decide (c.1=1)))&&(decide (a.2.1=1)))&&(decide ((a.1.length:Int)=1)))&&h)&&(decide (f.2=270)))&&(decide (g.2=271)))&&(decide (e.1=4))) then eV x y else some default) fun j=>
 bnd (bif (((((((((((decide (d=0))&&(decide (i.1=1)))&&(decide (b.1=0)))&&(decide (c.1=1)))&&(decide (a.2.1=1)))&&(decide ((a.1.length:Int)=1)))&&h)&&(decide (f.2=270)))&&(decide (g.2=271)))&&(decide (e.1=4)))&&j) then Jx [(G5.mk 0 2),(G5.mk 1 3)] 1 some else some default) fun z=>
 bnd (bif (((((((((((decide (d=0))&&(decide (i.1=1)))&&(decide (b.1=0)))&&(decide (c.1=1)))&&(decide (a.2.1=1)))&&(decide ((a.1.length:Int)=1)))&&h)&&(decide (f.2=270)))&&(decide (g.2=271)))&&(decide (e.1=4)))&&j) then Jx [(G5.mk 0 2),(G5.mk 1 3)] 0 some else some default) fun a0=>
 bnd (bif (((((((((((decide (d=0))&&(decide (i.1=1)))&&(decide (b.1=0)))&&(decide (c.1=1)))&&(decide (a.2.1=1)))&&(decide ((a.1.length:Int)=1)))&&h)&&(decide (f.2=270)))&&(decide (g.2=271)))&&(decide (e.1=4)))&&j) then eV z a0 else some default) fun k=>
 bnd (bif ((((((((((((decide (d=0))&&(decide (i.1=1)))&&(decide (b.1=0)))&&(decide (c.1=1)))&&(decide (a.2.1=1)))&&(decide ((a.1.length:Int)=1)))&&h)&&(decide (f.2=270)))&&(decide (g.2=271)))&&(decide (e.1=4)))&&j)&&(!k)) then R8 [(Box.mk 1 ByteArray.empty 20 false 0 0 2 0 false),(Box.mk 2 ByteArray.empty 20 false 0 0 2 0 false),(Box.mk 3 ByteArray.empty 20 false 0 0 2 0 false),(Box.mk 4 ByteArray.empty 20 false 0 1 3 0 false)] else some default) fun a1=>
 some (((((((((((((decide (d=0))&&(decide (i.1=1)))&&(decide (b.1=0)))&&(decide (c.1=1)))&&(decide (a.2.1=1)))&&(decide ((a.1.length:Int)=1)))&&h)&&(decide (f.2=270)))&&(decide (g.2=271)))&&(decide (e.1=4)))&&j)&&(!k))&&(decide ((a1.length:Int)=2)))
abbrev N2 (b:Int) (e:Int×Int) (c:Int×Int) (d:Int×Int) (a:(List (List G5))×Int×Int):Bool:=((((((decide (b=0))&&(decide (e.1=1)))&&(decide (c.1=0)))&&(decide (d.1=1)))&&(decide (a.2.1=1)))&&(decide ((a.1.length:Int)=1)))
abbrev N3:List Box:=[(Box.mk 1 ByteArray.empty 40 false 0 0 2 0 false),(Box.mk 2 ByteArray.empty 40 false 0 1 3 0 false)]
abbrev N4:List Box:=[(Box.mk 1 ByteArray.empty 20 false 0 0 2 0 false),(Box.mk 2 ByteArray.empty 20 false 0 0 2 0 false),(Box.mk 3 ByteArray.empty 20 false 0 0 2 0 false),(Box.mk 4 ByteArray.empty 20 false 0 1 3 0 false)]
abbrev N5:List AV:=[I64 0,ST Nn,U8 0,BL false,I64 0,I64 0,I64 0,U8 0,BL false]
abbrev N6 (a:Int) (c:Int×Int) (b:Int×Int):Bool:=(((decide (a=0))&&(decide (c.1=1)))&&(decide (b.1=0)))
abbrev N7:List AV:=[I64 2,ST Nn,U8 40,BL false,I64 0,I64 1,I64 3,U8 0,BL false]
abbrev N8:List AV:=[I64 4,ST Nn,U8 20,BL false,I64 0,I64 1,I64 3,U8 0,BL false]
abbrev N9:List AV:=[I64 3,ST Nn,U8 20,BL false,I64 0,I64 0,I64 2,U8 0,BL false]
abbrev Na:List AV:=[I64 1,ST Nn,U8 20,BL false,I64 0,I64 0,I64 2,U8 0,BL false]
abbrev Nb:List AV:=[I64 2,ST Nn,U8 20,BL false,I64 0,I64 0,I64 2,U8 0,BL false]
abbrev Nc:List AV:=[I64 1,ST Nn,U8 40,BL false,I64 0,I64 0,I64 2,U8 0,BL false]
theorem gK (F:Nat)  (r:Bool) (h:Zq F =some r):Pure Ej 27 [] (·=BL r):=by
 unfold Zq at h
 refine Gy [.tmp 0] Tryz.func27 ø ø (Jr fun e2=>(JLm (BL false) ø (G7 (e2 ?_))))
 refine Jr fun e3=>(JLh (.agg Nc) (Jj (cs:=Nc) [(0,1),(1,1),(2,1),(3,1),(4,1),(5,1),(6,1),(7,1),(8,1)] N5 [E0,.string ByteArray.empty,.int .u8 0,.bool false,E0,E0,E0,.int .u8 0,.bool false] eF fI (zzQ ø) ø ø) ø (JLh (.agg N7) (Jj (cs:=N7) [(0,1),(1,1),(2,1),(3,1),(4,1),(5,1),(6,1),(7,1),(8,1)] N5 [E0,.string ByteArray.empty,.int .u8 0,.bool false,E0,E0,E0,.int .u8 0,.bool false] eF fI (zzQ ø) ø ø) ø (JLh (E3 N3) (Hn (xs:=[.agg Nc,.agg N7]) ø ⟨ø,ø,ø,ø,þ⟩ Hz fG ø ø ø ø) ø (JLm (E3 N3) ø (G7 (e3 ?_))))))
 refine Jr fun e4=>(JLh (.agg [I64 0,I64 2]) (Jj (cs:=[I64 0,I64 2]) [(0,1),(1,1)] [I64 0,I64 0] [E0,E0] bL cK (zzQ ø) ø ø) ø (JLh (.agg [I64 1,I64 3]) (Jj (cs:=[I64 1,I64 3]) [(0,1),(1,1)] [I64 0,I64 0] [E0,E0] bL cK (zzQ ø) ø ø) ø (JLh (E2 [(G5.mk 0 2),(G5.mk 1 3)]) (Hn (xs:=[.agg [I64 0,I64 2],.agg [I64 1,I64 3]]) ø ⟨ø,ø,ø,ø,þ⟩ Hx Z1 ø ø ø ø) ø (JLm (E2 [(G5.mk 0 2),(G5.mk 1 3)]) ø (G7 (e4 ?_))))))
 refine Jr fun e5=>(JLh (.agg Na) (Jj (cs:=Na) [(0,1),(1,1),(2,1),(3,1),(4,1),(5,1),(6,1),(7,1),(8,1)] N5 [E0,.string ByteArray.empty,.int .u8 0,.bool false,E0,E0,E0,.int .u8 0,.bool false] eF fI (zzQ ø) ø ø) ø (JLh (.agg Nb) (Jj (cs:=Nb) [(0,1),(1,1),(2,1),(3,1),(4,1),(5,1),(6,1),(7,1),(8,1)] N5 [E0,.string ByteArray.empty,.int .u8 0,.bool false,E0,E0,E0,.int .u8 0,.bool false] eF fI (zzQ ø) ø ø) ø (JLh (.agg N9) (Jj (cs:=N9) [(0,1),(1,1),(2,1),(3,1),(4,1),(5,1),(6,1),(7,1),(8,1)] N5 [E0,.string ByteArray.empty,.int .u8 0,.bool false,E0,E0,E0,.int .u8 0,.bool false] eF fI (zzQ ø) ø ø) ø (JLh (.agg N8) (Jj (cs:=N8) [(0,1),(1,1),(2,1),(3,1),(4,1),(5,1),(6,1),(7,1),(8,1)] N5 [E0,.string ByteArray.empty,.int .u8 0,.bool false,E0,E0,E0,.int .u8 0,.bool false] eF fI (zzQ ø) ø ø) ø (JLh (E3 N4) (Hn (xs:=[.agg Na,.agg Nb,.agg N9,.agg N8]) ø ⟨ø,ø,ø,ø,ø,ø,ø,ø,þ⟩ Hz fG ø ø ø ø) ø (JLm (E3 N4) ø (G7 (e5 ?_))))))))
 refine Jr fun e6=>?_
 obtain⟨r6,e7,h⟩:=Ge h
 refine JLh (.agg (H2.cs r6)) (Gq ø (Qx 1 r6 e7) iB ⟨ø,ø,þ⟩) ø (JLm (E3 N3) ø (JLm (E2 [(G5.mk 0 2),(G5.mk 1 3)]) ø ?_))
 obtain⟨g,e8,h⟩:=Ge h
 refine JLh (.tup [I64 g.1,I64 g.2]) (Gq ø (fX F r6 N3 [(G5.mk 0 2),(G5.mk 1 3)] g e8) rR ⟨ø,ø,ø,ø,ø,ø,þ⟩) ø (JLm (.tup [I64 g.1,I64 g.2]) ø (JLh (I64 g.1) (Hu ø ø ø) ø (JLh (I64 g.2) (Hu ø ø ø) ø (JLm (I64 g.1) ø (JLm (I64 g.2) ø (G7 (e6 (Jr fun e9=>?_))))))))
 obtain⟨r9,f0,h⟩:=Ge h
 refine JLh (.agg (H2.cs r9)) (Gq ø (Qx 2 r9 f0) iB ⟨ø,ø,þ⟩) ø (JLm (E3 N3) ø (JLm (E2 [(G5.mk 0 2),(G5.mk 1 3)]) ø ?_))
 obtain⟨c,a6,h⟩:=Ge h
 refine JLh (.tup [I64 c.1,I64 c.2]) (Gq ø (fX F r9 N3 [(G5.mk 0 2),(G5.mk 1 3)] c a6) rR ⟨ø,ø,ø,ø,ø,ø,þ⟩) ø (JLm (.tup [I64 c.1,I64 c.2]) ø (JLh (I64 c.1) (Hu ø ø ø) ø (JLh (I64 c.2) (Hu ø ø ø) ø (JLm (I64 c.1) ø (JLm (I64 c.2) ø (G7 (e9 (Jr fun a7=>?_))))))))
 obtain⟨a1,a8,h⟩:=Ge h
 refine JLh (.agg (H2.cs a1)) (Gq ø (Qx 1 a1 a8) iB ⟨ø,ø,þ⟩) ø (JLm (E3 N4) ø (JLm (E2 [(G5.mk 0 2),(G5.mk 1 3)]) ø ?_))
 obtain⟨d,a9,h⟩:=Ge h
 refine JLh (.tup [I64 d.1,I64 d.2]) (Gq ø (fX F a1 N4 [(G5.mk 0 2),(G5.mk 1 3)] d a9) rR ⟨ø,ø,ø,ø,ø,ø,þ⟩) ø (JLm (.tup [I64 d.1,I64 d.2]) ø (JLh (I64 d.1) (Hu ø ø ø) ø (JLh (I64 d.2) (Hu ø ø ø) ø (JLm (I64 d.1) ø (JLm (I64 d.2) ø (G7 (a7 (Jr fun b0=>?_))))))))
 obtain⟨a2,b1,h⟩:=Ge h
 refine JLh (.agg (H2.cs a2)) (Gq ø (Qx 1 a2 b1) iB ⟨ø,ø,þ⟩) ø (JLm (E3 N3) ø ?_)
 obtain⟨a,b2,h⟩:=Ge h
 refine JLh (.tup [LS 1 (E2) a.1,I64 a.2.1,I64 a.2.2]) (Gq ø (ZH F a2 N3 a b2) RM ⟨ø,ø,ø,ø,þ⟩) ø (JLm (.tup [LS 1 (E2) a.1,I64 a.2.1,I64 a.2.2]) ø (JLh (LS 1 (E2) a.1) (Hu ø ø ø) ø (JLh (I64 a.2.1) (Hu ø ø ø) ø (JLh (I64 a.2.2) (Hu ø ø ø) ø (JLm (LS 1 (E2) a.1) ø (JLm (I64 a.2.1) ø (JLm (I64 a.2.2) ø (G7 (b0 (Js fun b3=>?_))))))))))
 obtain⟨z,b4,h⟩:=Ge h
 obtain⟨f4,n,b5,b6,h⟩:=Q8 h
 obtain⟨f5,o,b7,b8,h⟩:=Q8 h
 obtain⟨i,b9,h⟩:=Ge h
 refine JC_d0 J9 (by kernel_rfl) (Dq (.agg (H2.cs z)) (Gq (args:=[I64 1]) ø (Qx 1 z b4) iB ⟨ø,ø,þ⟩) ø (Dq (E3 N3) (G3 ø ø) ø (Dq (E2 [(G5.mk 0 2),(G5.mk 1 3)]) (G3 ø ø) ø (Dq (.dptr [I64 n.Load,I64 n.Discharge]) (Gs (f:=G5.av) (xs:=[(G5.mk 0 2),(G5.mk 1 3)]) (y:=n) ø ø ø Hx b6 b5) ø (Dq (.agg [I64 n.Load,I64 n.Discharge]) (Gk Hm ø ø ø) ø (Dq (E2 [(G5.mk 0 2),(G5.mk 1 3)]) (G3 ø ø) ø (Dq (.dptr [I64 o.Load,I64 o.Discharge]) (Gs (f:=G5.av) (xs:=[(G5.mk 0 2),(G5.mk 1 3)]) (y:=o) ø ø ø Hx b8 b7) ø (Dq (.agg [I64 o.Load,I64 o.Discharge]) (Gk Hm ø ø ø) ø (Dq (E2 [n,o]) (Hn (xs:=[.agg [I64 n.Load,I64 n.Discharge],.agg [I64 o.Load,I64 o.Discharge]]) ø ⟨ø,ø,ø,ø,þ⟩ Hx Z1 ø ø ø ø) ø (Dq (.tup [I64 i.1,I64 i.2]) (Gq (args:=[.agg (H2.cs z),E3 N3,E2 [n,o]]) ø (fX F z N3 [n,o] i b9) rR ⟨ø,ø,ø,ø,ø,ø,þ⟩) ø (Dq (.tup [I64 i.1,I64 i.2]) (G3 ø ø) ø (Dq (I64 i.1) (Hu ø ø ø) ø (Dq (I64 i.2) (Hu ø ø ø) ø ?_)))))))))))))
 refine Dq (I64 i.1) (G6 ø ø) ø (Dq (I64 i.2) (G6 ø ø) ø (Dnil (b3 (Js fun c0=>?_))))
 obtain⟨a0,c1,h⟩:=Ge h
 obtain⟨f6,m,c2,c3,h⟩:=Q8 h
 obtain⟨j,c4,h⟩:=Ge h
 refine JC_d0 J9 (by kernel_rfl) (Dq (.agg (H2.cs a0)) (Gq (args:=[I64 1]) ø (Qx 1 a0 c1) iB ⟨ø,ø,þ⟩) ø (Dq (E3 N3) (G3 ø ø) ø (Dq (E2 [(G5.mk 0 2),(G5.mk 1 3)]) (G3 ø ø) ø (Dq (E2 [(G5.mk 0 2),(G5.mk 1 3)]) (G3 ø ø) ø (Dq (.dptr [I64 m.Load,I64 m.Discharge]) (Gs (f:=G5.av) (xs:=[(G5.mk 0 2),(G5.mk 1 3)]) (y:=m) ø ø ø Hx c3 c2) ø (Dq (.agg [I64 m.Load,I64 m.Discharge]) (Gk Hm ø ø ø) ø (Dq (E2 [m]) (Hn (xs:=[.agg [I64 m.Load,I64 m.Discharge]]) ø ⟨ø,ø,þ⟩ Hx Z1 ø ø ø ø) ø (Dq (LS 1 (E2) ([[(G5.mk 0 2),(G5.mk 1 3)],[m]])) (Hn (xs:=[E2 [(G5.mk 0 2),(G5.mk 1 3)],E2 [m]]) ø ⟨ø,ø,ø,ø,þ⟩ Rj rI ø ø ø ø) ø (Dq (.tup [I64 j.1,I64 j.2]) (Gq (args:=[.agg (H2.cs a0),E3 N3,LS 1 (E2) ([[(G5.mk 0 2),(G5.mk 1 3)],[m]])]) ø (QF.down F a0 N3 ([[(G5.mk 0 2),(G5.mk 1 3)],[m]]) j c4) H02 ⟨ø,ø,ø,ø,ø,ø,þ⟩) ø (Dq (.tup [I64 j.1,I64 j.2]) (G3 ø ø) ø (Dq (I64 j.1) (Hu ø ø ø) ø (Dq (I64 j.2) (Hu ø ø ø) ø (Dq (I64 j.1) (G6 ø ø) ø ?_)))))))))))))
 refine Dq (I64 j.2) (G6 ø ø) ø (Dnil (c0 (Jr fun c5=>?_)))
 obtain⟨a3,c6,h⟩:=Ge h
 refine JLh (.agg (H2.cs a3)) (Gq ø (Qx 1 a3 c6) iB ⟨ø,ø,þ⟩) ø ?_
 obtain⟨k,c7,h⟩:=Ge h
 refine JLh (.tup [I64 k.1,I64 k.2]) (Gq ø (ZG a3 3 1 k c7) H01 ⟨ø,ø,ø,ø,ø,ø,þ⟩) ø (JLm (.tup [I64 k.1,I64 k.2]) ø (JLh (I64 k.1) (Hu ø ø ø) ø (JLh (I64 k.2) (Hu ø ø ø) ø (JLm (I64 k.1) ø (JLm (I64 k.2) ø (G7 (c5 (Js fun c8=>?_))))))))
 obtain⟨f1,c9,h⟩:=Hd h
 obtain⟨f2,d0,h⟩:=Hd h
 obtain⟨f3,d1,h⟩:=Hd h
 obtain⟨e,d2,h⟩:=Hd h
 obtain⟨x,d3,h⟩:=Ge h
 obtain⟨l,d4,h⟩:=Ge h
 obtain⟨p,d5,h⟩:=Ge h
 obtain⟨q,d6,h⟩:=Ge h
 obtain⟨s,d7,h⟩:=Ge h
 obtain⟨t,d8,h⟩:=Ge h
 obtain⟨u,d9,h⟩:=Ge h
 obtain⟨v,e0,h⟩:=Ge h
 obtain⟨w,e1,h⟩:=Ge h
 refine JC_d0 J9 (by kernel_rfl) (Dq (I64 g.2) (G3 ø ø) ø (Dq (I64 c.2) (G3 ø ø) ø (Dq (I64 f1) (Hf c9 ø ø ø) ø (Dq (I64 d.2) (G3 ø ø) ø (Dq (I64 f2) (Hf d0 ø ø ø) ø (Dq (I64 a.2.2) (G3 ø ø) ø (Dq (I64 f3) (Hf d1 ø ø ø) ø (Dq (I64 k.2) (G3 ø ø) ø (Dq (I64 e) (Hf d2 ø ø ø) ø (Dq (BL (decide (e=0))) (Rk ø ø ø) ø (Dq (BL (decide (e=0))) (G3 ø ø) ø (Do (I64 g.1) [] ø .sct þ (fun hc=>G3 ø ø) ø (Do (BL (decide (g.1=1))) [99] ø .sct ⟨Ua,þ⟩ (fun hc=>Rk ø ø ø) ø ?_)))))))))))))
 refine Dq (BL ((decide (e=0))&&(decide (g.1=1)))) (Jf ø ø ø ø) ø (Dq (BL ((decide (e=0))&&(decide (g.1=1)))) (G3 ø ø) ø (Do (I64 c.1) [] ø .sct þ (fun hc=>G3 ø ø) ø (Do (BL (decide (c.1=0))) [103] ø .sct ⟨Ua,þ⟩ (fun hc=>Rk ø ø ø) ø (Dq (BL (N6 e g c)) (Jf ø ø ø ø) ø (Dq (BL (N6 e g c)) (G3 ø ø) ø (Do (I64 d.1) [] ø .sct þ (fun hc=>G3 ø ø) ø (Do (BL (decide (d.1=1))) [107] ø .sct ⟨Ua,þ⟩ (fun hc=>Rk ø ø ø) ø (Dq (BL ((N6 e g c)&&(decide (d.1=1)))) (Jf ø ø ø ø) ø (Dq (BL ((N6 e g c)&&(decide (d.1=1)))) (G3 ø ø) ø (Do (I64 a.2.1) [] ø .sct þ (fun hc=>G3 ø ø) ø (Do (BL (decide (a.2.1=1))) [111] ø .sct ⟨Ua,þ⟩ (fun hc=>Rk ø ø ø) ø (Dq (BL (((N6 e g c)&&(decide (d.1=1)))&&(decide (a.2.1=1)))) (Jf ø ø ø ø) ø (Dq (BL (((N6 e g c)&&(decide (d.1=1)))&&(decide (a.2.1=1)))) (G3 ø ø) ø ?_)))))))))))))
 refine Do (LS 1 (E2) a.1) [] ø .sct þ (fun hc=>G3 ø ø) ø (Do (Ei a.1.length) [115] ø .sct ⟨Ua,þ⟩ (fun hc=>Q4 (f:=(E2)) (xs:=a.1) Rj ø ø) ø (Do (BL (decide ((a.1.length:Int)=1))) [116] ø .sct ⟨Ua,þ⟩ (fun hc=>Rk ø ø ø) ø (Dq (BL (N2 e g c d a)) (Jf ø ø ø ø) ø (Dq (BL (N2 e g c d a)) (G3 ø ø) ø (Do (LS 1 (E2) a.1) [] ø .sct þ (fun hc=>G3 ø ø) ø (Do (.dptr [E2 x]) [120] ø .sct ⟨Ua,þ⟩ (fun hc=>(match Qk (Gw hc d3) with | ⟨_,hm_,hy_⟩=>Gs (f:=(E2)) (xs:=a.1) (y:=x) ø ø ø Rj hy_ hm_)) ø (Do (E2 x) [121] ø .sct ⟨Ua,þ⟩ (fun hc=>Gj bK ø ø ø) ø (Do (E2 [(G5.mk 0 2),(G5.mk 1 3)]) [] ø .sct þ (fun hc=>G3 ø ø) ø (Do (BL l) [122,123] ø .sct ⟨Ua,Ua,þ⟩ (fun hc=>Gq (args:=[E2 x,E2 [(G5.mk 0 2),(G5.mk 1 3)]]) ø (fC x [(G5.mk 0 2),(G5.mk 1 3)] l (Gw hc d4)) RJ ⟨ø,ø,ø,ø,þ⟩) ø (Dq (BL ((N2 e g c d a)&&l)) (Jf ø ø ø ø) ø (Dq (BL ((N2 e g c d a)&&l)) (G3 ø ø) ø (Do (I64 i.2) [] ø .sct þ (fun hc=>G3 ø ø) ø (Do (BL (decide (i.2=270))) [127] ø .sct ⟨Ua,þ⟩ (fun hc=>Rk ø ø ø) ø ?_)))))))))))))
 refine Dq (BL (((N2 e g c d a)&&l)&&(decide (i.2=270)))) (Jf ø ø ø ø) ø (Dq (BL (((N2 e g c d a)&&l)&&(decide (i.2=270)))) (G3 ø ø) ø (Do (I64 j.2) [] ø .sct þ (fun hc=>G3 ø ø) ø (Do (BL (decide (j.2=271))) [131] ø .sct ⟨Ua,þ⟩ (fun hc=>Rk ø ø ø) ø (Dq (BL ((((N2 e g c d a)&&l)&&(decide (i.2=270)))&&(decide (j.2=271)))) (Jf ø ø ø ø) ø (Dq (BL ((((N2 e g c d a)&&l)&&(decide (i.2=270)))&&(decide (j.2=271)))) (G3 ø ø) ø (Do (I64 k.1) [] ø .sct þ (fun hc=>G3 ø ø) ø (Do (BL (decide (k.1=4))) [135] ø .sct ⟨Ua,þ⟩ (fun hc=>Rk ø ø ø) ø (Dq (BL (((((N2 e g c d a)&&l)&&(decide (i.2=270)))&&(decide (j.2=271)))&&(decide (k.1=4)))) (Jf ø ø ø ø) ø (Dq (BL (((((N2 e g c d a)&&l)&&(decide (i.2=270)))&&(decide (j.2=271)))&&(decide (k.1=4)))) (G3 ø ø) ø (Do (E2 [(G5.mk 0 2),(G5.mk 1 3)]) [] ø .sct þ (fun hc=>G3 ø ø) ø (Do (.dptr [I64 p.Load,I64 p.Discharge]) [139] ø .sct ⟨Ua,þ⟩ (fun hc=>(match Qk (Gw hc d5) with | ⟨_,hm_,hy_⟩=>Gs (f:=G5.av) (xs:=[(G5.mk 0 2),(G5.mk 1 3)]) (y:=p) ø ø ø Hx hy_ hm_)) ø (Do (.agg [I64 p.Load,I64 p.Discharge]) [140] ø .sct ⟨Ua,þ⟩ (fun hc=>Gk Hm ø ø ø) ø (Do (E2 [(G5.mk 0 2),(G5.mk 1 3)]) [] ø .sct þ (fun hc=>G3 ø ø) ø ?_)))))))))))))
 refine Do (.dptr [I64 q.Load,I64 q.Discharge]) [142] ø .sct ⟨Ua,þ⟩ (fun hc=>(match Qk (Gw hc d6) with | ⟨_,hm_,hy_⟩=>Gs (f:=G5.av) (xs:=[(G5.mk 0 2),(G5.mk 1 3)]) (y:=q) ø ø ø Hx hy_ hm_)) ø (Do (.agg [I64 q.Load,I64 q.Discharge]) [143] ø .sct ⟨Ua,þ⟩ (fun hc=>Gk Hm ø ø ø) ø (Do (BL s) [141,144] ø .sct ⟨Ua,Ua,þ⟩ (fun hc=>Gq (args:=[.agg [I64 p.Load,I64 p.Discharge],.agg [I64 q.Load,I64 q.Discharge]]) ø (lT p q s (Gw hc d7)) wL ⟨ø,ø,ø,ø,þ⟩) ø (Dq (BL ((((((N2 e g c d a)&&l)&&(decide (i.2=270)))&&(decide (j.2=271)))&&(decide (k.1=4)))&&s)) (Jf ø ø ø ø) ø (Dq (BL ((((((N2 e g c d a)&&l)&&(decide (i.2=270)))&&(decide (j.2=271)))&&(decide (k.1=4)))&&s)) (G3 ø ø) ø (Do (E2 [(G5.mk 0 2),(G5.mk 1 3)]) [] ø .sct þ (fun hc=>G3 ø ø) ø (Do (.dptr [I64 t.Load,I64 t.Discharge]) [148] ø .sct ⟨Ua,þ⟩ (fun hc=>(match Qk (Gw hc d8) with | ⟨_,hm_,hy_⟩=>Gs (f:=G5.av) (xs:=[(G5.mk 0 2),(G5.mk 1 3)]) (y:=t) ø ø ø Hx hy_ hm_)) ø (Do (.agg [I64 t.Load,I64 t.Discharge]) [149] ø .sct ⟨Ua,þ⟩ (fun hc=>Gk Hm ø ø ø) ø (Do (E2 [(G5.mk 0 2),(G5.mk 1 3)]) [] ø .sct þ (fun hc=>G3 ø ø) ø (Do (.dptr [I64 u.Load,I64 u.Discharge]) [151] ø .sct ⟨Ua,þ⟩ (fun hc=>(match Qk (Gw hc d9) with | ⟨_,hm_,hy_⟩=>Gs (f:=G5.av) (xs:=[(G5.mk 0 2),(G5.mk 1 3)]) (y:=u) ø ø ø Hx hy_ hm_)) ø (Do (.agg [I64 u.Load,I64 u.Discharge]) [152] ø .sct ⟨Ua,þ⟩ (fun hc=>Gk Hm ø ø ø) ø (Do (BL v) [150,153] ø .sct ⟨Ua,Ua,þ⟩ (fun hc=>Gq (args:=[.agg [I64 t.Load,I64 t.Discharge],.agg [I64 u.Load,I64 u.Discharge]]) ø (lT t u v (Gw hc e0)) wL ⟨ø,ø,ø,ø,þ⟩) ø (Do (BL (!v)) [154] ø .sct ⟨Ua,þ⟩ (fun hc=>Ym (b:=v) ø ø) ø (Dq (BL (((((((N2 e g c d a)&&l)&&(decide (i.2=270)))&&(decide (j.2=271)))&&(decide (k.1=4)))&&s)&&(!v))) (Jf ø ø ø ø) ø ?_)))))))))))))
 refine Dq (BL (((((((N2 e g c d a)&&l)&&(decide (i.2=270)))&&(decide (j.2=271)))&&(decide (k.1=4)))&&s)&&(!v))) (G3 ø ø) ø (Do (E3 N4) [] ø .sct þ (fun hc=>G3 ø ø) ø (Do (E4 w) [158] ø .sct ⟨Ua,þ⟩ (fun hc=>Gq (args:=[E3 N4]) ø (kJ.down N4 w (Gw hc e1)) rQ ⟨ø,ø,þ⟩) ø (Do (Ei w.length) [159] ø .sct ⟨Ua,þ⟩ (fun hc=>Q4 (f:=G1.av) (xs:=w) H6 ø ø) ø (Do (BL (decide ((w.length:Int)=2))) [160] ø .sct ⟨Ua,þ⟩ (fun hc=>Rk ø ø ø) ø (Dq (BL ((((((((N2 e g c d a)&&l)&&(decide (i.2=270)))&&(decide (j.2=271)))&&(decide (k.1=4)))&&s)&&(!v))&&(decide ((w.length:Int)=2)))) (Jf ø ø ø ø) ø (Dq (BL ((((((((N2 e g c d a)&&l)&&(decide (i.2=270)))&&(decide (j.2=271)))&&(decide (k.1=4)))&&s)&&(!v))&&(decide ((w.length:Int)=2)))) (G6 ø ø) ø (Dnil ?_)))))))
 refine c8 (Gt (fin1 BL h))

def Zf (F:Nat) (s:H2) (bx:List Box):Option Bool:=
 bnd (aQ s bx []) fun j=>
 bif (!j) then
 (bnd (Zq F) fun k=>
  some k)
 else
 (bnd (Za s) fun c=>
  bnd (Yy bx) fun h=>
  bnd (bI F (H2.mk (c.Columns.1.map Gu.pl) (c.Covers.1.map H9.pl) c.Light c.Rows.1 c.Frames.1 (c.Tanks.1.map Hk.pl) c.Gp) h.1) fun a=>
  bnd (Y1 F s bx) fun b=>
  bnd (Y3 a.1 b.1) fun d=>
  bnd (bif ((d&&(decide (a.2.1=b.2.1)))&&(decide (a.2.2=b.2.2))) then Zc c s else some default) fun e=>
  bnd (bif (((d&&(decide (a.2.1=b.2.1)))&&(decide (a.2.2=b.2.2)))&&e) then Yz h bx else some default) fun f=>
  bnd (bif ((((d&&(decide (a.2.1=b.2.1)))&&(decide (a.2.2=b.2.2)))&&e)&&f) then bT a.1 else some default) fun g=>
  bnd (bif (((((d&&(decide (a.2.1=b.2.1)))&&(decide (a.2.2=b.2.2)))&&e)&&f)&&g) then Zq F else some default) fun i=>
  some ((((((d&&(decide (a.2.1=b.2.1)))&&(decide (a.2.2=b.2.2)))&&e)&&f)&&g)&&i))
theorem J66 (s:H2) (bx:List Box):∀ u∈([.agg (H2.cs s),E3 bx]:List AV),Pl u:=by
 have I:∀ xs:List Int,Pl (E1 xs):=fun xs=>.ls fun x u hu=>by rcases Pc.1 hu with rfl; exact .sc
 intro u hu
 repeat (first
  | exact Pl.sc
  | exact I _
  | refine Pl.ls (fun x u hu=>?_)
  | refine Pl.agg (fun u hu=>?_)
  | (rcases Pd.1 hu with rfl | hu)
  | (rcases Pa.1 hu with hu | hu)
  | (cases hu))
theorem lC (F:Nat) (s:H2) (bx:List Box) (h:Zf F s bx=some true):Pure Ej 4 [.agg (H2.cs s),E3 bx] (·=BL true):=by
 unfold Zf at h
 refine G66 Tryz.func4 ø ø (fun u hu=>?_) ?_
 ·exact J66 s bx u hu
 refine yW (fun K1 hF1=>G2 (JLh (.ptr 1001 0) (Qr (cs:=(H2.cs s)) 1001 ø ø ø ø ø) ø (JLm (BL false) ø (G7 (hF1 _ _ (ZK [(1,E3 bx),(2,Ec s)] [] 1001 rfl rfl rfl þ rfl (by exact⟨.conv (.same rfl),.ptr,þ⟩) (yW (fun K2 hF2=>Jr fun a0=>(JLh (.agg (H2.cs s)) (Gk Qa ø ø ø) ø (JLm (E3 bx) ø ?_))))))))))
 obtain⟨v,a1,h⟩:=Ge h
 refine JLh (BL v) (Hee (args:=[.agg (H2.cs s),E3 bx,LS 1 (E2) ([]:List (List G5))]) ø (sO s bx [] v a1) H12 ⟨.inl ø,ø,.inl ø,ø,.inr ⟨_,ø,ø⟩,ø,þ⟩) ø (JLh (BL (!v)) (Ym (b:=v) ø ø) ø (G7 (a0 (JCc ø h (fun h hb=>?_) (fun h hb=>?_)))))
 ·
  refine Jr fun a2=>?_
  obtain⟨w,a3,h⟩:=Ge h
  refine JLh (BL w) (Gq ø (gK F w a3) RN þ) ø (JLm (BL w) ø (G7 (a2 (Gt (congrArg BL (Nv h))))))
 ·
  refine Gn (hF2 _ _ (yW (fun K7 hF7=>G2 (JLh (.agg (H2.cs s)) (Gk Qa ø ø ø) ø ?_))))
  obtain⟨c,a4,h⟩:=Ge h
  refine JLh (.agg (Yq.cs c)) (Gq ø (oY s c a4) H78 ⟨ø,ø,þ⟩) ø (JLm (E3 bx) ø ?_)
  obtain⟨i,a5,h⟩:=Ge h
  refine JLh (LT 9 Box.av i) (Gq ø (oH bx i a5) H77 ⟨ø,ø,þ⟩) ø (JLh (.ptr 1002 0) (Q3 1002 13 G7a ø ø) ø (J7 (u:=.junk) (Hw (u:=.agg (Yq.cs c)) (ds:=(Yq.cs c)) rK ø ø ø ø ø ø ø ø) (JLm (LT 9 Box.av i) ø (G7 (hF7 _ _ (ZK [(1,E3 bx),(2,Ec s),(5,.dptr (Yq.cs c)),(6,LT 9 Box.av i)] [] 1002 rfl rfl rfl þ rfl (by repeat' (first | exact .ptr | constructor)) (yW (fun a6 hF10=>G2 ?_))))))))
  refine JLh (.agg [E5 (c.Columns.1.map Gu.pl),E6 (c.Covers.1.map H9.pl),I64 c.Light.Kilos,I64 c.Light.X,I64 c.Light.Y,I64 c.Light.Z,E8 c.Rows.1,E7 c.Frames.1,E9 (c.Tanks.1.map Hk.pl),I64 c.Gp.Tolerance,I64 c.Gp.Trim,I64 c.Gp.List_,I64 c.Gp.Stability]) (Gv.cv (Cv.aggL (cs:=(Yq.cs c)) ⟨Cv.lstM (f:=Gu.av) (g:=Gc.av) Gu.pl Gu.cvl c.Columns,Cv.lstM (f:=H9.av) (g:=Gz.av) H9.pl H9.cvl c.Covers,.same,.same,.same,.same,Cv.lst0 c.Rows,Cv.lst0 c.Frames,Cv.lstM (f:=Hk.av) (g:=He.av) Hk.pl Hk.cvl c.Tanks,.same,.same,.same,.same,þ⟩) (Gk Qa ø ø ø)) ø (JLh (E3 i.1) (Gv.cv (Cv.lst0 i) (G3 ø ø)) ø ?_)
  obtain⟨a,x,h⟩:=Ge h
  refine JLh (.tup [.frz 139 2 (LS 1 (E2) a.1),I64 a.2.1,I64 a.2.2]) (Gq ø (uO F (H2.mk (c.Columns.1.map Gu.pl) (c.Covers.1.map H9.pl) c.Light c.Rows.1 c.Frames.1 (c.Tanks.1.map Hk.pl) c.Gp) i.1 a x) RM ⟨ø,ø,ø,ø,þ⟩) ø (JLm (.tup [.frz 139 2 (LS 1 (E2) a.1),I64 a.2.1,I64 a.2.2]) ø (JLh (.frz 139 2 (LS 1 (E2) a.1)) (Hu ø ø ø) ø (JLh (I64 a.2.1) (Hu ø ø ø) ø (JLh (I64 a.2.2) (Hu ø ø ø) ø (JLm (.frz 139 2 (LS 1 (E2) a.1)) ø (JLm (I64 a.2.1) ø (JLm (I64 a.2.2) ø (G7 (hF10 _ _ (yW (fun a7 hF12=>G2 (JLh (.agg (H2.cs s)) (Gk Qa ø ø ø) ø (JLm (E3 bx) ø ?_)))))))))))))
  obtain⟨d,y,h⟩:=Ge h
  refine JLh (.tup [LS 1 (E2) d.1,I64 d.2.1,I64 d.2.2]) (Gq ø (qU F s bx d y) H11 ⟨ø,ø,ø,ø,þ⟩) ø (JLm (.tup [LS 1 (E2) d.1,I64 d.2.1,I64 d.2.2]) ø (JLh (LS 1 (E2) d.1) (Hu ø ø ø) ø (JLh (I64 d.2.1) (Hu ø ø ø) ø (JLh (I64 d.2.2) (Hu ø ø ø) ø (JLm (LS 1 (E2) d.1) ø (JLm (I64 d.2.1) ø (JLm (I64 d.2.2) ø (G7 (hF12 _ _ (Hd6 (fun a8 hF14=>H42 ?_)))))))))))
  obtain⟨a9,z,h⟩:=Ge h
  obtain⟨b0,o,h⟩:=Ge h
  obtain⟨b1,p,h⟩:=Ge h
  obtain⟨b2,q,h⟩:=Ge h
  obtain⟨b3,r,h⟩:=Ge h
  have hr:=Nv h
  simp only [P7] at hr
  obtain⟨⟨⟨⟨⟨⟨rfl,l⟩,n⟩,rfl⟩,rfl⟩,rfl⟩,rfl⟩:=hr
  rw [l,n] at o
  rw [l,n] at p
  rw [l,n] at q
  rw [l,n] at r
  obtain⟨hba,_⟩:=J2 (Gw rfl q)
  rw [P7,P8,List.all_eq_true] at hba
  refine J2e 25 (fun KC hKC=>?_)
  simp only [List.take_succ_cons,List.take_zero,List.drop_succ_cons,List.drop_zero] at hKC ⊢
  refine JLh (LS 1 (E2) a.1) (Jd8 (t:=139) (k:=2) (G3 ø ø)) ø (JLm (LS 1 (E2) d.1) ø (JLh (BL true) (Gq ø (lD a.1 d.1 true z) H10 ⟨ø,ø,ø,ø,þ⟩) ø (JLm (BL true) ø (Zu (u:=I64 a.2.1) ø ø ø (.sct (b:=true)) (G3 ø ø) ?_ ø ø ø))))
  refine Zu (u:=I64 d.2.1) ø ø ø (.sct (b:=true)) (G3 ø ø) ?_ ø ø ø
  refine Zu (u:=BL true) ø ø ø (.sct (b:=true)) (A_is (u:=BL (decide (a.2.1=d.2.1))) (congrArg (fun b:Bool=>(BL b:AV)) l) (Rk ø ø ø)) ?_ ø ø ø
  refine JLh (BL true) (jT true ø ø ø) ø (JLm (BL true) ø (Zu (u:=I64 a.2.2) ø ø ø (.sct (b:=true)) (G3 ø ø) ?_ ø ø ø))
  refine Zu (u:=I64 d.2.2) ø ø ø (.sct (b:=true)) (G3 ø ø) ?_ ø ø ø
  refine Zu (u:=BL true) ø ø ø (.sct (b:=true)) (A_is (u:=BL (decide (a.2.2=d.2.2))) (congrArg (fun b:Bool=>(BL b:AV)) n) (Rk ø ø ø)) ?_ ø ø ø
  refine JLh (BL true) (jT true ø ø ø) ø (JLm (BL true) ø (Zu (u:=.agg (Yq.cs c)) ø ø ø (.sct (b:=true)) (Gk Qa ø ø ø) ?_ ø ø ø))
  refine Zu (u:=.agg (H2.cs s)) ø ø ø (.sct (b:=true)) (Gk Qa ø ø ø) ?_ ø ø ø
  refine Zu (u:=BL true) ø ø ø (.sct (b:=true)) (Gq ø (pC c s true (Gw ø o)) H14 ⟨ø,ø,ø,ø,þ⟩) ?_ ø ø ø
  refine JLh (BL true) (jT true ø ø ø) ø (JLm (BL true) ø (Zu (u:=LT 9 Box.av i) ø ø ø (.sct (b:=true)) (G3 ø ø) ?_ ø ø ø))
  refine Zu (u:=E3 bx) ø ø ø (.sct (b:=true)) (G3 ø ø) ?_ ø ø ø
  refine Zu (u:=BL true) ø ø ø (.sct (b:=true)) (Gq ø (oK i bx true (Gw ø p)) H13 ⟨ø,ø,ø,ø,þ⟩) ?_ ø ø ø
  refine JLh (BL true) (jT true ø ø ø) ø (JLm (BL true) ø (Zu (u:=.frz 139 2 (LS 1 (E2) a.1)) ø ø ø (.sct (b:=true)) (G3 ø ø) ?_ ø ø ø))
  refine G7 (hKC _ _ (Hd5 (tt:=60) (us:=a.1.map (E2)) 1000000000000 [(59,BL true)] rfl ⟨⟨_,rfl,rfl⟩,trivial⟩ (fun u hu=>by obtain⟨m,_,rfl⟩:=Pb.1 hu; rfl) (fun es H0 O0 g1 g2 g3 g4 g5=>?_)))
  rw [P9] at g1
  refine Gdc rfl rfl rfl (.sct (b:=true)) (GS rfl (G60 es H0 O0 (by omega) (fun j e he=>?_) g3 g4 g5) H0f ⟨rfl,þ⟩) ?_ rfl rfl rfl
  ·obtain⟨m,hm⟩:∃ m,a.1[j]? = some m:=⟨_,Nu (by have:=(Nt he).1; omega)⟩
   have hn:=g2 j e 2 (m.map G5.av) he (by rw [P2,hm]; rfl)
   rw [P9] at hn
   have:=Np (hba.2 m (Nw hm))
   omega
  rintro _ _ ⟨rfl,H',rfl,hn',hB'⟩
  refine JLh (BL true) (jT true ø ø ø) ø (JLm (BL true) ø (Zu (u:=BL true) ø ø ø (.sct (b:=true)) (Gq ø (gK F true (Gw ø r)) RN þ) ?_ ø ø ø))
  refine JLh (BL true) (jT true ø ø ø) ø (JLm (BL true) ø (G7 (hF14 _ _ (Gt (ø)))))
end
end Go.Proofs.YthkihfoleenlmaaGreat
