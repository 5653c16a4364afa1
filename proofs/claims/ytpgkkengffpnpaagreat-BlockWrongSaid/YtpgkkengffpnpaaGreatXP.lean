/-
 Models of functions of the program,and that they return what the models say.
-/
import Derived.Test.YtpgkkengffpnpaaGreatXB
set_option linter.unnecessarySimpa false
set_option maxRecDepth 100000
set_option maxHeartbeats 1000000
set_option linter.unusedVariables false
set_option linter.unusedSimpArgs false
namespace Go.Proofs.YtpgkkengffpnpaaGreat
open Go.RowKit
noncomputable section
structure J5 where
 e0:Int
 e1:Int
 deriving DecidableEq,Inhabited
def J5.cs (x:J5):List AV:=[G0 x.e0,G0 x.e1]
def J5.av (x:J5):AV:=.agg x.cs
def J5.ks (x:J5):List Value:=[.int .i64 x.e0,.int .i64 x.e1]
def J5.kv (x:J5):Value:=.agg x.ks.toArray
namespace XPF
open XAF
open XCF
open XGF
open XHF
open XBF
theorem H21:Hk Ek 10=true:=by kernel_rfl
theorem Zg:Hk Ek 11=true:=by kernel_rfl
theorem G95:Hk Ek 15=true:=by kernel_rfl
theorem G94:Hk Ek 16=true:=by kernel_rfl
theorem G6c:Hk Ek 18=true:=by kernel_rfl
theorem J65:Hk Ek 21=true:=by kernel_rfl
theorem J64:Hk Ek 22=true:=by kernel_rfl
theorem J62:Hk Ek 26=true:=by kernel_rfl
theorem J61:Hk Ek 27=true:=by kernel_rfl
theorem Q09:Hk Ek 35=true:=by kernel_rfl
theorem Gd3:Hk Ek 36=true:=by kernel_rfl
theorem Q08:Hk Ek 37=true:=by kernel_rfl
theorem Q07:Hk Ek 38=true:=by kernel_rfl
theorem Jfc:Hk Ek 60=true:=by kernel_rfl
theorem Jfb:Hk Ek 61=true:=by kernel_rfl
theorem Jf5:Hk Ek 72=true:=by kernel_rfl
theorem H0c:Hk Ek 8=true:=by kernel_rfl
theorem H6a:Hk Ek 9=true:=by kernel_rfl
theorem H83:Jt Ek 61 4 4=true:=by kernel_rfl
theorem Jc2:placesOf Ek 35=some [(0,1),(1,1),(2,4),(6,1),(7,1),(8,1),(9,4)]:=by kernel_rfl
theorem G14:Re Ek 35 13=true:=by kernel_rfl
end XPF
open XAF
open XCF
open XGF
open XHF
open XBF
open XPF

def Jg (l:List Gy) (covers:Int) (drops:List Gi) (most:Int):Option (Gp×(List G9)×(List Stowed)):=
 bnd (Rz l covers) fun r3=>
 bnd (Ro r3 drops most) fun r5=>
 each (fun y41 i41 (s41:(List G9)) nx41=>
  Z2 s41 (i41:Int) fun y46=>
  bnd (quo64 y46.Kilos 100) fun v47=>
  bnd (H87 v47 4) fun v48=>
  G0d (1+v48) fun v49=>
  Z2 s41 (i41:Int) fun y50=>
  nx41 (s41.set (i41:Int).toNat (G9.mk y50.ID y50.Number y50.Size y50.High y50.Kilos y50.Load v49 y50.Class y50.Reefer)))
 (fun(s41:(List G9))=>
  some (r3,s41,r5.2)) r5.1 0 r5.1
def G53 (x:Stowed) (p1:Int):Option Bool:=
 some (decide (x.G9=p1))
theorem Ja2 (x:Stowed) (p1:Int) (r:Bool) (h:G53 x p1=some r):Pure Ek 60 [.agg (Stowed.cs x),.dptr [G0 p1]] (·=BL r):=by
 unfold G53 at h
 refine H6 [.tmp 3] Tryz.func60 O O (Jr fun hK1=>(JLh (.ptr 1130 0) (Jn (cs:=[G0 x.G9,G0 x.Slot.G4,G0 x.Slot.Tier,U8 x.Slot.Half]) 1130 O O O O O) O (Yv (BL false) O (G7 (hK1 (Gt [(1,.dptr [G0 p1]),(2,Ed x)] [] 1130 rfl rfl rfl G rfl (by exact⟨.conv (.same rfl),.ptr,G⟩) (Jr fun hK2=>(JLh (Ed x) (Gf Hg O O O) O (JLh (G0 x.G9) (Gj Gb O O O) O (JLh (G0 p1) (Gj Gb O O O) O (JLh (BL (decide (x.G9=p1))) (Q0 O O O) O (Yv (BL (decide (x.G9=p1))) O (G7 (hK2 (Gx (fin1 BL h))))))))))))))))

def G9d (l:List Stowed) (id_:Int):Option Bool:=
 bnd (Ju l (fun z0=>G53 z0 id_)) fun r3=>
 some r3
theorem Hdb (l:List Stowed) (id_:Int) (r:Bool) (h:G9d l id_=some r):Pure Ek 26 [E1 l,G0 id_] (·=BL r):=by
 unfold G9d at h
 refine H6 [.tmp 4] Tryz.func26 O O (Jr fun hK1=>(JLh (.ptr 1076 0) (Jn (cs:=[G0 id_]) 1076 O O O O O) O (Yv (BL false) O (G7 (hK1 (Gt [(0,E1 l),(3,.dptr [G0 id_])] [] 1076 rfl rfl rfl G rfl (by exact⟨.conv (.same rfl),.ptr,G⟩) (Jr fun hK2=>(Yv (E1 l) O (JLh (.fn 60 [.dptr [G0 id_]]) (Yg (cs:=[.dptr [G0 id_]]) O O) O ?_)))))))))
 obtain⟨r3,hr3,h⟩:=Gd h
 refine JLh (BL r3) (Gu O (Zo l (fun z0=>G53 z0 id_) 60 [.dptr [G0 id_]] Jfc O (fun z0 q hq=>Ja2 z0 id_ q hq) r3 hr3) J56 ⟨O,O,O,O,G⟩) O (Yv (BL r3) O (G7 (hK2 (Gx (fin1 BL h)))))

def Yz (F:Nat) (other:Int) (p1:Gp) (p2:List G9) (p3:List Stowed) (p4:Int) (p5:Int):Option Bool:=
 bnd (Ry F p1 p2 p3 [other]) fun r3=>
 bnd (J6 p2 other) fun r5=>
 bnd (bif decide (r5 < p4) then Qc r3.1 p5 else some default) fun r6=>
 some ((decide (r5 < p4))&&r6)
theorem H82 (F:Nat) (other:Int) (p1:Gp) (p2:List G9) (p3:List Stowed) (p4:Int) (p5:Int) (r:Bool) (h:Yz F other p1 p2 p3 p4 p5=some r):Pure Ek 61 [G0 other,Ec p1,.dptr [E2 p2],.dptr [E1 p3],.dptr [G0 p4],.dptr [G0 p5]] (·=BL r):=by
 unfold Yz at h
 refine H6 [.tmp 7] Tryz.func61 O O (Jr fun hK1=>(Yv (BL false) O (G7 (hK1 (Jr fun hK2=>(JLh (.agg (Gp.cs p1)) (Gh H5 O O O) O (JLh (E2 p2) (Gj Yh O O O) O (JLh (E1 p3) (Gj Qk O O O) O (Yv (G0 other) O (JLh (E0 [other]) (H9 (xs:=[G0 other]) O ⟨O,O,G⟩ Gq Q1 O O O O) O ?_))))))))))
 obtain⟨r3,hr3,h⟩:=Gd h
 refine JLh (.tup [E0 r3.1,G0 r3.2]) (Gu O (Ge5.down F p1 p2 p3 [other] r3 hr3) H9b ⟨O,O,O,O,O,O,O,O,G⟩) O (Yv (.tup [E0 r3.1,G0 r3.2]) O (JLh (E0 r3.1) (Gn O O O) O (JLh (G0 r3.2) (Gn O O O) O (Yv (E0 r3.1) O (Yv (G0 r3.2) O (G7 (hK2 (Js fun hK4=>?_))))))))
 obtain⟨r5,hr5,h⟩:=Gd h
 obtain⟨r6,hr6,h⟩:=Gd h
 refine JC_d0 Qg (by kernel_rfl) (Dq (E2 p2) (Gj Yh O O O) O (Dq (G0 other) (G5 O O) O (Dq (G0 r5) (Gu (args:=[E2 p2,G0 other]) O (Qw p2 other r5 hr5) G38 ⟨O,O,O,O,G⟩) O (Dq (G0 p4) (Gj Gb O O O) O (Dq (BL (decide (r5 < p4))) (Jb O O O) O (Dq (BL (decide (r5 < p4))) (G5 O O) O (Do (E0 r3.1) [] O .sct G (fun hc=>G5 O O) O (Do (G0 p5) [] O .sct G (fun hc=>Gj Gb O O O) O (Do (BL r6) [25,26] O .sct ⟨Ua,Ua,G⟩ (fun hc=>Gu (args:=[E0 r3.1,G0 p5]) O (Yy r3.1 p5 r6 (H4 hc hr6)) H1e ⟨O,O,O,O,G⟩) O (Dq (BL ((decide (r5 < p4))&&r6)) (Qd O O O O) O (Dq (BL ((decide (r5 < p4))&&r6)) (G8 O O) O (Dnil (hK4 (Gx (fin1 BL h)))))))))))))))

def Zq (F:Nat) (s:Gp) (boxes:List G9) (l:List Stowed) (id_:Int):Option (List Int):=
 bnd (J6 boxes id_) fun r3=>
 each (fun y24 i24 (s24:(List Int)) nx24=>
  jp (fun kj27=>
   bnd (bif decide (y24.G9≠id_) then Yz F y24.G9 s boxes l r3 id_ else some default) fun r30=>
   bif ((decide (y24.G9≠id_))&&r30) then
   (need (decide ((s24.length+[y24.G9].length)*8≤140737488355328∧s24.length+[y24.G9].length≤maxLen)) <|
    kj27 (s24++[y24.G9]))
   else
   (kj27 s24)) fun(j27:(List Int))=>
  nx24 j27)
 (fun(s24:(List Int))=>
  some s24) l 0 []
theorem Gfb (F:Nat) (s:Gp) (boxes:List G9) (l:List Stowed) (id_:Int) (r:(List Int)) (h:Zq F s boxes l id_=some r):Pure Ek 27 [.agg (Gp.cs s),E2 boxes,E1 l,G0 id_] (·=E0 r):=by
 unfold Zq at h
 refine H6 [.tmp 8] Tryz.func27 O O (Jr fun hK1=>(JLh (.ptr 1077 0) (Jn (cs:=(Gp.cs s)) 1077 O O O O O) O (JLh (.ptr 1078 0) (Jn (cs:=[E2 boxes]) 1078 O O O O O) O (JLh (.ptr 1079 0) (Jn (cs:=[E1 l]) 1079 O O O O O) O (JLh (.ptr 1080 0) (Jn (cs:=[G0 id_]) 1080 O O O O O) O (JLh (E0 ([]:List Int)) (Hf 1 O O) O (G7 (hK1 ?_))))))))
 refine Gt [(4,Ec s),(5,.ptr 1078 0),(6,.ptr 1079 0),(7,.ptr 1080 0)] [(1078,.box 36 [E2 boxes]),(1079,.box 37 [E1 l]),(1080,.box 3 [G0 id_])] 1077 rfl rfl rfl ⟨⟨_,rfl,.boxEq rfl rfl⟩,⟨_,rfl,.boxEq rfl rfl⟩,⟨_,rfl,.boxEq rfl rfl⟩,G⟩ rfl (by repeat' (first | exact .ptr | constructor)) ?_
 refine Gt [(4,Ec s),(5,.dptr [E2 boxes]),(6,.ptr 1079 0),(7,.ptr 1080 0)] [(1079,.box 37 [E1 l]),(1080,.box 3 [G0 id_])] 1078 rfl rfl rfl ⟨⟨_,rfl,.boxEq rfl rfl⟩,⟨_,rfl,.boxEq rfl rfl⟩,G⟩ rfl (by repeat' (first | exact .ptr | constructor)) ?_
 refine Gt [(4,Ec s),(5,.dptr [E2 boxes]),(6,.dptr [E1 l]),(7,.ptr 1080 0)] [(1080,.box 3 [G0 id_])] 1079 rfl rfl rfl ⟨⟨_,rfl,.boxEq rfl rfl⟩,G⟩ rfl (by repeat' (first | exact .ptr | constructor)) ?_
 refine Gt [(4,Ec s),(5,.dptr [E2 boxes]),(6,.dptr [E1 l]),(7,.dptr [G0 id_])] [] 1080 rfl rfl rfl G rfl (by repeat' (first | exact .ptr | constructor)) (Jr fun hK2=>(JLh (E2 boxes) (Gj Yh O O O) O (JLh (G0 id_) (Gj Gb O O O) O ?_)))
 obtain⟨r3,hr3,h⟩:=Gd h
 refine JLh (G0 r3) (Gu O (Qw boxes id_ r3 hr3) G38 ⟨O,O,O,O,G⟩) O (JLh (.ptr 1081 0) (Hu 1081 1 Q1 O O) O (Hw (u:=.junk) (Hj (u:=G0 r3) (ds:=[G0 r3]) G48 O O O O O O O O) (G7 (hK2 (Gt [(4,Ec s),(5,.dptr [E2 boxes]),(6,.dptr [E1 l]),(7,.dptr [G0 id_]),(9,.dptr [G0 r3])] [] 1081 rfl rfl rfl G rfl (by repeat' (first | exact .ptr | constructor)) ?_)))))
 refine Jr fun hK4=>(JLh (.fn 61 [.dptr (Gp.cs s),.dptr [E2 boxes],.dptr [E1 l],.dptr [G0 r3],.dptr [G0 id_]]) (Yg (cs:=[.dptr (Gp.cs s),.dptr [E2 boxes],.dptr [E1 l],.dptr [G0 r3],.dptr [G0 id_]]) O O) O (Yv (.fn 61 [.dptr (Gp.cs s),.dptr [E2 boxes],.dptr [E1 l],.dptr [G0 r3],.dptr [G0 id_]]) O (G7 (hK4 ?_))))
 refine Jr fun hK5=>(JLh (OW 1082 1 G0 ([]:List Int)) (G45 1082 3 1 O O O) O (G7 (hK5 (Js fun hK6=>Jr fun hK7=>(JLh (E1 l) (Gj Qk O O O) O (JLl H2 O O O fun hm19=>(Yv (G0 0) O (G7 (hK7 (Gw ?_))))))))))
 obtain⟨b24,kx24,hb24,hkx24,h⟩:=J0 h
 refine Hp (fun i24 (s24:(List Int))=>each b24 kx24 (List.drop i24 l) i24 s24=some r) (fun i24 s24=>[(7,.dptr [G0 id_]),(10,.fn 61 [.dptr (Gp.cs s),.dptr [E2 boxes],.dptr [E1 l],.dptr [G0 r3],.dptr [G0 id_]]),(11,OW 1082 1 G0 s24),(18,E1 l),(19,Ej l.length),(20,Ej i24)]) (fun i24 s24=>[(1082,.spare 3 1 s24.length s24.length)]) (fun i24=>l.length - i24) 0 [] h ⟨(by repeat' constructor),⟨⟨_,rfl,.same⟩,G⟩,rfl⟩ ?_
 clear h
 intro i24 s24 hi24 K24 e24
 refine Jr fun hK25=>(JLh (BL (decide ((i24:Int) < (l.length:Int)))) (Jb O O O) O (G7 (hK25 (Js fun hK26=>Gm O (fun hb=>?_) (fun hb=>?_)))))
 ·
  have hk24:=Jk hb
  obtain⟨y24,nx24,hy24,hn24,h⟩:=Hq hi24 hk24
  replace h:=Ya hb24 h
  refine Gr (hK26 ?_)
  obtain⟨kj27,hkj27,h⟩:=Rm h
  refine Qr (fun j27:(List Int)=>kj27 j27=some r) (fun j27=>[(7,.dptr [G0 id_]),(10,.fn 61 [.dptr (Gp.cs s),.dptr [E2 boxes],.dptr [E1 l],.dptr [G0 r3],.dptr [G0 id_]]),(11,OW 1082 1 G0 j27),(18,E1 l),(19,Ej l.length),(20,Ej i24)]) (fun j27=>[(1082,.spare 3 1 j27.length j27.length)]) (fun Kj27 ej27=>?_) ?_
  ·
   refine Gw (Jr fun hK28=>(JLh (Ed y24) (Hb (f:=Stowed.av) (xs:=l) (y:=y24) O O O H2 hy24 O) O (JLh (.agg (Stowed.cs y24)) (Gh R4 O O O) O (JLh (.ptr 1083 0) (Hu 1083 4 Jx O O) O (Hw (u:=.junk) (Hj (u:=.agg (Stowed.cs y24)) (ds:=[G0 y24.G9,G0 y24.Slot.G4,G0 y24.Slot.Tier,U8 y24.Slot.Half]) Rk O O O O O O O O) (G7 (hK28 ?_)))))))
   refine Gt [(7,.dptr [G0 id_]),(10,.fn 61 [.dptr (Gp.cs s),.dptr [E2 boxes],.dptr [E1 l],.dptr [G0 r3],.dptr [G0 id_]]),(11,OW 1082 1 G0 s24),(13,Ed y24),(18,E1 l),(19,Ej l.length),(20,Ej i24)] [(1082,.spare 3 1 s24.length s24.length)] 1083 rfl rfl rfl ⟨⟨_,rfl,.same⟩,G⟩ rfl (by repeat' (first | exact .ptr | constructor)) ?_
   refine Jr fun hK29=>(JLh (Ed y24) (Gf Hg O O O) O (JLh (G0 y24.G9) (Gj Gb O O O) O (JLh (G0 id_) (Gj Gb O O O) O (JLh (BL (decide (y24.G9≠id_))) (Zy O O O) O (Yv (BL (decide (y24.G9≠id_))) O (JLo (.fn 61 [.dptr (Gp.cs s),.dptr [E2 boxes],.dptr [E1 l],.dptr [G0 r3],.dptr [G0 id_]]) [] O .sct G (fun hc=>G5 O O) O (JLo (Ed y24) [] O .sct G (fun hc=>Gf Hg O O O) O (JLo (G0 y24.G9) [30] O .sct ⟨Ua,G⟩ (fun hc=>Gj Gb O O O) O ?_))))))))
   obtain⟨r30,hr30,h⟩:=Gd h
   refine JLo (BL r30) [29,31] O .sct ⟨Ua,Ua,G⟩ (fun hc=>G46 (args:=[G0 y24.G9]) (caps:=[.dptr (Gp.cs s),.dptr [E2 boxes],.dptr [E1 l],.dptr [G0 r3],.dptr [G0 id_]]) O O (H82 F y24.G9 s boxes l r3 id_ r30 (H4 hc hr30)) Jfb ⟨O,O,G⟩ O) O (JLh (BL ((decide (y24.G9≠id_))&&r30)) (Qd O O O O) O (G7 (hK29 (JCc O h (fun h hb=>?_) (fun h hb=>?_)))))
   ·
    refine G3 (Yv (OW 1082 1 G0 s24) O (JLh (Ed y24) (Gf Hg O O O) O (JLh (G0 y24.G9) (Gj Gb O O O) O (JLh (E0 [y24.G9]) (H9 (xs:=[G0 y24.G9]) O ⟨O,O,G⟩ Gq Q1 O O O O) O ?_))))
    obtain⟨ha31,h⟩:=J7 h
    refine JLh (OW 1082 1 G0 (s24++[y24.G9])) (Rc (f:=G0) (xs:=s24) (ys:=[y24.G9]) O O O O Gq Zp ha31 (fun _=>O) (.inl O) O) O (Yv (OW 1082 1 G0 (s24++[y24.G9])) O (G7 (ej27 _ _ (s24++[y24.G9]) h ⟨(by repeat' constructor),⟨⟨_,rfl,.same⟩,G⟩,rfl⟩)))
   ·
    refine Gr (ej27 _ _ s24 h ⟨(by repeat' constructor),⟨⟨_,rfl,.same⟩,G⟩,rfl⟩)
  ·intro j27 h
   replace h:=app1 hkj27 h
   refine G3 (JLh (G0 ((i24+1:Nat):Int)) (Hx (Ho hk24 hm19) O O O) O (Yv (G0 ((i24+1:Nat):Int)) O (G7 (e24 _ _ (i24+1) j27 (app1 hn24 h) (by omega) ⟨(by repeat' constructor),⟨⟨_,rfl,.same⟩,G⟩,rfl⟩))))
 ·
  have h:=app1 hkx24 (Hr hi24 (Hc hb))
  refine Ht (hK6 (Jr fun hK32=>(Yv (OW 1082 1 G0 s24) O (Yv (OW 1082 1 G0 s24) O (G7 (hK32 (Gx (fin1l (fun r:(List Int)=>(E0 r:AV)) h))))))))

def J4 (F:Nat) (s:Gp) (boxes:List G9) (l:List Stowed) (id_:Int):Option ((List Int)×Int):=
 bnd (Q2 s boxes l) fun r4=>
 bif (!r4) then
 (some ([],2))
 else
 (bnd (G9d l id_) fun r7=>
  bif (!r7) then
  (some ([],6))
  else
  (bnd (Zq F s boxes l id_) fun r10=>
   some (r10,0)))
theorem Q6 (F:Nat) (s:Gp) (boxes:List G9) (l:List Stowed) (id_:Int) (r:(List Int)×Int) (h:J4 F s boxes l id_=some r):Pure Ek 11 [.agg (Gp.cs s),E2 boxes,E1 l,G0 id_] (·=.tup [E0 r.1,G0 r.2]):=by
 unfold J4 at h
 refine H6 [.tmp 8,.tmp 9] Tryz.func11 O O (Jr fun hK1=>(JLh (.ptr 1034 0) (Jn (cs:=(Gp.cs s)) 1034 O O O O O) O (JLh (E0 ([]:List Int)) (Hf 1 O O) O (Yv (G0 0) O (G7 (hK1 ?_))))))
 refine Gt [(1,E2 boxes),(2,E1 l),(3,G0 id_),(4,Ec s)] [] 1034 rfl rfl rfl G rfl (by repeat' (first | exact .ptr | constructor)) (Js fun hK2=>Gw (Jr fun hK3=>(JLh (.agg (Gp.cs s)) (Gh H5 O O O) O (Yv (E2 boxes) O (Yv (E1 l) O ?_)))))
 obtain⟨r4,hr4,h⟩:=Gd h
 refine JLh (BL r4) (Gu O (Yr s boxes l r4 hr4) G39 ⟨O,O,O,O,O,O,G⟩) O (JLh (BL (!r4)) (Ru (b:=r4) O O) O (Yv (BL (!r4)) O (G7 (hK3 (JCc O h (fun h hb=>?_) (fun h hb=>?_))))))
 ·
  refine Jr fun hK5=>(JLh (E0 ([]:List Int)) (Hf 1 O O) O (Yv (G0 2) O (G7 (hK5 (Gx (⟨[E0 ([]:List Int),G0 2],[],G,O,⟨⟨_,O,.conv (.same O)⟩,⟨_,O,.conv (.same O)⟩,G⟩,O,congrArg (fun r:(List Int)×Int=>(.tup [E0 r.1,G0 r.2]:AV)) (Option.some.inj h)⟩))))))
 ·
  refine Jr fun hK6=>(Yv (E1 l) O (Yv (G0 id_) O ?_))
  obtain⟨r7,hr7,h⟩:=Gd h
  refine JLh (BL r7) (Gu O (Hdb l id_ r7 hr7) J62 ⟨O,O,O,O,G⟩) O (JLh (BL (!r7)) (Ru (b:=r7) O O) O (Yv (BL (!r7)) O (G7 (hK6 (JCc O h (fun h hb=>?_) (fun h hb=>?_))))))
  ·
   refine Jr fun hK8=>(JLh (E0 ([]:List Int)) (Hf 1 O O) O (Yv (G0 6) O (G7 (hK8 (Gx (⟨[E0 ([]:List Int),G0 6],[],G,O,⟨⟨_,O,.conv (.same O)⟩,⟨_,O,.conv (.same O)⟩,G⟩,O,congrArg (fun r:(List Int)×Int=>(.tup [E0 r.1,G0 r.2]:AV)) (Option.some.inj h)⟩))))))
  ·
   refine Gr (hK2 (Jr fun hK9=>(JLh (.agg (Gp.cs s)) (Gh H5 O O O) O (Yv (E2 boxes) O (Yv (E1 l) O (Yv (G0 id_) O ?_))))))
   obtain⟨r10,hr10,h⟩:=Gd h
   refine JLh (E0 r10) (Gu O (Gfb F s boxes l id_ r10 hr10) J61 ⟨O,O,O,O,O,O,O,O,G⟩) O (Yv (E0 r10) O (Yv (G0 0) O (G7 (hK9 (Gx (⟨[E0 r10,G0 0],[],G,O,⟨⟨_,O,.conv (.same O)⟩,⟨_,O,.conv (.same O)⟩,G⟩,O,congrArg (fun r:(List Int)×Int=>(.tup [E0 r.1,G0 r.2]:AV)) (Option.some.inj h)⟩))))))

def G04 :Option Gp:=
 some (Gp.mk ([(G4.mk 0 0 false 2 0 0 0 0 [] 0 0 0),(G4.mk 0 1 false 2 0 0 0 0 [] 0 0 0),(G4.mk 0 0 true 3 0 0 0 0 [] 0 0 0),(G4.mk 0 1 true 3 0 0 0 0 [] 0 0 0),(G4.mk 1 1 true 4 0 0 0 0 [] 0 0 0)]) ([(Ga.mk 0 [0,1])]) (Light.mk 0 0 0 0) [] [] [] (G2.mk 0 0 0 0))
theorem Ge6  (r:Gp) (h:G04 =some r):Pure Ek 35 [] (·=.agg (Gp.cs r)):=by
 unfold G04 at h
 refine H6 [.cell 0 35] Tryz.func35 O O (Jr fun hK1=>(JLh (.ptr 1100 0) (G8f 1100 [E3 ([]:List G4),E8 ([]:List Ga),G0 0,G0 0,G0 0,G0 0,E5 ([]:List Row),E6 ([]:List Frame),E7 ([]:List Gk),G0 0,G0 0,G0 0,G0 0] [.slice none 0 0,.slice none 0 0,.int .i64 0,.int .i64 0,.int .i64 0,.int .i64 0,.slice none 0 0,.slice none 0 0,.slice none 0 0,.int .i64 0,.int .i64 0,.int .i64 0,.int .i64 0] G92 ⟨.inr ⟨_,O,O⟩,.inr ⟨_,O,O⟩,.inl O,.inl O,.inl O,.inl O,.inr ⟨_,O,O⟩,.inr ⟨_,O,O⟩,.inr ⟨_,O,O⟩,.inl O,.inl O,.inl O,.inl O,G⟩ O O) O (G7 (hK1 ?_))))
 refine Jr fun hK2=>(JLh (.agg [G0 0,G0 0,BL false,G0 2,G0 0,G0 0,G0 0,G0 0,E0 ([]:List Int),G0 0,G0 0,G0 0]) (Hz (cs:=[G0 0,G0 0,BL false,G0 2,G0 0,G0 0,G0 0,G0 0,E0 ([]:List Int),G0 0,G0 0,G0 0]) [(0,1),(1,1),(2,1),(3,1),(4,1),(5,1),(6,1),(7,1),(8,1),(9,1),(10,1),(11,1)] [G0 0,G0 0,BL false,G0 0,G0 0,G0 0,G0 0,G0 0,E0 ([]:List Int),G0 0,G0 0,G0 0] [.int .i64 0,.int .i64 0,.bool false,.int .i64 0,.int .i64 0,.int .i64 0,.int .i64 0,.int .i64 0,.slice none 0 0,.int .i64 0,.int .i64 0,.int .i64 0] G01 G36 ⟨.inl O,.inl O,.inl O,.inl O,.inl O,.inl O,.inl O,.inl O,.inr ⟨_,O,O⟩,.inl O,.inl O,.inl O,G⟩ O O) O (JLh (.agg [G0 0,G0 1,BL false,G0 2,G0 0,G0 0,G0 0,G0 0,E0 ([]:List Int),G0 0,G0 0,G0 0]) (Hz (cs:=[G0 0,G0 1,BL false,G0 2,G0 0,G0 0,G0 0,G0 0,E0 ([]:List Int),G0 0,G0 0,G0 0]) [(0,1),(1,1),(2,1),(3,1),(4,1),(5,1),(6,1),(7,1),(8,1),(9,1),(10,1),(11,1)] [G0 0,G0 0,BL false,G0 0,G0 0,G0 0,G0 0,G0 0,E0 ([]:List Int),G0 0,G0 0,G0 0] [.int .i64 0,.int .i64 0,.bool false,.int .i64 0,.int .i64 0,.int .i64 0,.int .i64 0,.int .i64 0,.slice none 0 0,.int .i64 0,.int .i64 0,.int .i64 0] G01 G36 ⟨.inl O,.inl O,.inl O,.inl O,.inl O,.inl O,.inl O,.inl O,.inr ⟨_,O,O⟩,.inl O,.inl O,.inl O,G⟩ O O) O (JLh (.agg [G0 0,G0 0,BL true,G0 3,G0 0,G0 0,G0 0,G0 0,E0 ([]:List Int),G0 0,G0 0,G0 0]) (Hz (cs:=[G0 0,G0 0,BL true,G0 3,G0 0,G0 0,G0 0,G0 0,E0 ([]:List Int),G0 0,G0 0,G0 0]) [(0,1),(1,1),(2,1),(3,1),(4,1),(5,1),(6,1),(7,1),(8,1),(9,1),(10,1),(11,1)] [G0 0,G0 0,BL false,G0 0,G0 0,G0 0,G0 0,G0 0,E0 ([]:List Int),G0 0,G0 0,G0 0] [.int .i64 0,.int .i64 0,.bool false,.int .i64 0,.int .i64 0,.int .i64 0,.int .i64 0,.int .i64 0,.slice none 0 0,.int .i64 0,.int .i64 0,.int .i64 0] G01 G36 ⟨.inl O,.inl O,.inl O,.inl O,.inl O,.inl O,.inl O,.inl O,.inr ⟨_,O,O⟩,.inl O,.inl O,.inl O,G⟩ O O) O (JLh (.agg [G0 0,G0 1,BL true,G0 3,G0 0,G0 0,G0 0,G0 0,E0 ([]:List Int),G0 0,G0 0,G0 0]) (Hz (cs:=[G0 0,G0 1,BL true,G0 3,G0 0,G0 0,G0 0,G0 0,E0 ([]:List Int),G0 0,G0 0,G0 0]) [(0,1),(1,1),(2,1),(3,1),(4,1),(5,1),(6,1),(7,1),(8,1),(9,1),(10,1),(11,1)] [G0 0,G0 0,BL false,G0 0,G0 0,G0 0,G0 0,G0 0,E0 ([]:List Int),G0 0,G0 0,G0 0] [.int .i64 0,.int .i64 0,.bool false,.int .i64 0,.int .i64 0,.int .i64 0,.int .i64 0,.int .i64 0,.slice none 0 0,.int .i64 0,.int .i64 0,.int .i64 0] G01 G36 ⟨.inl O,.inl O,.inl O,.inl O,.inl O,.inl O,.inl O,.inl O,.inr ⟨_,O,O⟩,.inl O,.inl O,.inl O,G⟩ O O) O (JLh (.agg [G0 1,G0 1,BL true,G0 4,G0 0,G0 0,G0 0,G0 0,E0 ([]:List Int),G0 0,G0 0,G0 0]) (Hz (cs:=[G0 1,G0 1,BL true,G0 4,G0 0,G0 0,G0 0,G0 0,E0 ([]:List Int),G0 0,G0 0,G0 0]) [(0,1),(1,1),(2,1),(3,1),(4,1),(5,1),(6,1),(7,1),(8,1),(9,1),(10,1),(11,1)] [G0 0,G0 0,BL false,G0 0,G0 0,G0 0,G0 0,G0 0,E0 ([]:List Int),G0 0,G0 0,G0 0] [.int .i64 0,.int .i64 0,.bool false,.int .i64 0,.int .i64 0,.int .i64 0,.int .i64 0,.int .i64 0,.slice none 0 0,.int .i64 0,.int .i64 0,.int .i64 0] G01 G36 ⟨.inl O,.inl O,.inl O,.inl O,.inl O,.inl O,.inl O,.inl O,.inr ⟨_,O,O⟩,.inl O,.inl O,.inl O,G⟩ O O) O (JLh (E3 ([(G4.mk 0 0 false 2 0 0 0 0 [] 0 0 0),(G4.mk 0 1 false 2 0 0 0 0 [] 0 0 0),(G4.mk 0 0 true 3 0 0 0 0 [] 0 0 0),(G4.mk 0 1 true 3 0 0 0 0 [] 0 0 0),(G4.mk 1 1 true 4 0 0 0 0 [] 0 0 0)])) (H9 (xs:=[.agg [G0 0,G0 0,BL false,G0 2,G0 0,G0 0,G0 0,G0 0,E0 ([]:List Int),G0 0,G0 0,G0 0],.agg [G0 0,G0 1,BL false,G0 2,G0 0,G0 0,G0 0,G0 0,E0 ([]:List Int),G0 0,G0 0,G0 0],.agg [G0 0,G0 0,BL true,G0 3,G0 0,G0 0,G0 0,G0 0,E0 ([]:List Int),G0 0,G0 0,G0 0],.agg [G0 0,G0 1,BL true,G0 3,G0 0,G0 0,G0 0,G0 0,E0 ([]:List Int),G0 0,G0 0,G0 0],.agg [G0 1,G0 1,BL true,G0 4,G0 0,G0 0,G0 0,G0 0,E0 ([]:List Int),G0 0,G0 0,G0 0]]) O ⟨O,O,O,O,O,O,O,O,O,O,G⟩ Ji G17 O O O O) O (JLh (E0 [0,1]) (H9 (xs:=[G0 0,G0 1]) O ⟨O,O,O,O,G⟩ Gq Q1 O O O O) O (JLh (.agg [G0 0,E0 [0,1]]) (Hz (cs:=[G0 0,E0 [0,1]]) [(0,1),(1,1)] [G0 0,E0 ([]:List Int)] [.int .i64 0,.slice none 0 0] H02 H42 ⟨.inl O,.inr ⟨_,O,O⟩,G⟩ O O) O (JLh (E8 ([(Ga.mk 0 [0,1])])) (H9 (xs:=[.agg [G0 0,E0 [0,1]]]) O ⟨O,O,G⟩ R0 G7e O O O O) O (JLh (.agg [E3 ([(G4.mk 0 0 false 2 0 0 0 0 [] 0 0 0),(G4.mk 0 1 false 2 0 0 0 0 [] 0 0 0),(G4.mk 0 0 true 3 0 0 0 0 [] 0 0 0),(G4.mk 0 1 true 3 0 0 0 0 [] 0 0 0),(G4.mk 1 1 true 4 0 0 0 0 [] 0 0 0)]),E8 ([(Ga.mk 0 [0,1])]),G0 0,G0 0,G0 0,G0 0,E5 ([]:List Row),E6 ([]:List Frame),E7 ([]:List Gk),G0 0,G0 0,G0 0,G0 0]) (Hz (cs:=[E3 ([(G4.mk 0 0 false 2 0 0 0 0 [] 0 0 0),(G4.mk 0 1 false 2 0 0 0 0 [] 0 0 0),(G4.mk 0 0 true 3 0 0 0 0 [] 0 0 0),(G4.mk 0 1 true 3 0 0 0 0 [] 0 0 0),(G4.mk 1 1 true 4 0 0 0 0 [] 0 0 0)]),E8 ([(Ga.mk 0 [0,1])]),G0 0,G0 0,G0 0,G0 0,E5 ([]:List Row),E6 ([]:List Frame),E7 ([]:List Gk),G0 0,G0 0,G0 0,G0 0]) [(0,1),(1,1),(2,4),(6,1),(7,1),(8,1),(9,4)] [E3 ([]:List G4),E8 ([]:List Ga),G0 0,G0 0,G0 0,G0 0,E5 ([]:List Row),E6 ([]:List Frame),E7 ([]:List Gk),G0 0,G0 0,G0 0,G0 0] [.slice none 0 0,.slice none 0 0,.int .i64 0,.int .i64 0,.int .i64 0,.int .i64 0,.slice none 0 0,.slice none 0 0,.slice none 0 0,.int .i64 0,.int .i64 0,.int .i64 0,.int .i64 0] Jc2 G92 ⟨.inr ⟨_,O,O⟩,.inr ⟨_,O,O⟩,.inl O,.inl O,.inl O,.inl O,.inr ⟨_,O,O⟩,.inr ⟨_,O,O⟩,.inr ⟨_,O,O⟩,.inl O,.inl O,.inl O,.inl O,G⟩ O O) O (Hw (u:=.junk) (Hj (u:=.agg [E3 ([(G4.mk 0 0 false 2 0 0 0 0 [] 0 0 0),(G4.mk 0 1 false 2 0 0 0 0 [] 0 0 0),(G4.mk 0 0 true 3 0 0 0 0 [] 0 0 0),(G4.mk 0 1 true 3 0 0 0 0 [] 0 0 0),(G4.mk 1 1 true 4 0 0 0 0 [] 0 0 0)]),E8 ([(Ga.mk 0 [0,1])]),G0 0,G0 0,G0 0,G0 0,E5 ([]:List Row),E6 ([]:List Frame),E7 ([]:List Gk),G0 0,G0 0,G0 0,G0 0]) (ds:=[E3 ([(G4.mk 0 0 false 2 0 0 0 0 [] 0 0 0),(G4.mk 0 1 false 2 0 0 0 0 [] 0 0 0),(G4.mk 0 0 true 3 0 0 0 0 [] 0 0 0),(G4.mk 0 1 true 3 0 0 0 0 [] 0 0 0),(G4.mk 1 1 true 4 0 0 0 0 [] 0 0 0)]),E8 ([(Ga.mk 0 [0,1])]),G0 0,G0 0,G0 0,G0 0,E5 ([]:List Row),E6 ([]:List Frame),E7 ([]:List Gk),G0 0,G0 0,G0 0,G0 0]) Z1 O O O O O O O O) (G7 (hK2 ?_)))))))))))))
 refine Gx (⟨[.agg [E3 ([(G4.mk 0 0 false 2 0 0 0 0 [] 0 0 0),(G4.mk 0 1 false 2 0 0 0 0 [] 0 0 0),(G4.mk 0 0 true 3 0 0 0 0 [] 0 0 0),(G4.mk 0 1 true 3 0 0 0 0 [] 0 0 0),(G4.mk 1 1 true 4 0 0 0 0 [] 0 0 0)]),E8 ([(Ga.mk 0 [0,1])]),G0 0,G0 0,G0 0,G0 0,E5 ([]:List Row),E6 ([]:List Frame),E7 ([]:List Gk),G0 0,G0 0,G0 0,G0 0]],[],G,O,⟨⟨_,⟨_,_,_,_,O,O,O,.inl ⟨H5,O⟩⟩,.conv (.same O)⟩,G⟩,O,congrArg (fun r:Gp=>(.agg (Gp.cs r):AV)) (Option.some.inj h)⟩)

def R8 (box:Int) (column:Int) (tier:Int) (half:Int):Option Stowed:=
 some (Stowed.mk box (Slot.mk column tier half))
theorem Yb (box:Int) (column:Int) (tier:Int) (half:Int) (r:Stowed) (h:R8 box column tier half=some r):Pure Ek 36 [G0 box,G0 column,G0 tier,U8 half] (·=.agg (Stowed.cs r)):=by
 unfold R8 at h
 refine H6 [.cell 8 49] Tryz.func36 O O (Jr fun hK1=>(JLh (.ptr 1101 0) (G8f 1101 [G0 0,G0 0,G0 0,U8 0] [.int .i64 0,.int .i64 0,.int .i64 0,.int .u8 0] G18 ⟨.inl O,.inl O,.inl O,.inl O,G⟩ O O) O (G7 (hK1 ?_))))
 refine Jr fun hK2=>(Yv (G0 box) O (Yv (G0 column) O (Yv (G0 tier) O (Yv (U8 half) O (JLh (.agg [G0 column,G0 tier,U8 half]) (Hz (cs:=[G0 column,G0 tier,U8 half]) [(0,1),(1,1),(2,1)] [G0 0,G0 0,U8 0] [.int .i64 0,.int .i64 0,.int .u8 0] G1b G6a ⟨.inl O,.inl O,.inl O,G⟩ O O) O (JLh (.agg [G0 box,G0 column,G0 tier,U8 half]) (Hz (cs:=[G0 box,G0 column,G0 tier,U8 half]) [(0,1),(1,3)] [G0 0,G0 0,G0 0,U8 0] [.int .i64 0,.int .i64 0,.int .i64 0,.int .u8 0] Zr G18 ⟨.inl O,.inl O,.inl O,.inl O,G⟩ O O) O (Hw (u:=.junk) (Hj (u:=.agg [G0 box,G0 column,G0 tier,U8 half]) (ds:=[G0 box,G0 column,G0 tier,U8 half]) Rk O O O O O O O O) (G7 (hK2 (Gx ?_))))))))))
 exact⟨[.agg [G0 box,G0 column,G0 tier,U8 half]],[],G,O,⟨⟨_,⟨_,_,_,_,O,O,O,.inl ⟨R4,O⟩⟩,.conv (.same O)⟩,G⟩,O,congrArg (fun r:Stowed=>(.agg (Stowed.cs r):AV)) (Option.some.inj h)⟩

def Qf (F:Nat) (s:Gp) (boxes:List G9) (l:List Stowed):Option (Int×(List Int)×(List Int)×Int):=
 bnd (Q2 s boxes l) fun r4=>
 bif (!r4) then
 (some (0,[],[],2))
 else
 (bif decide ((l.length:Int)=0) then
  (some (0,[],[],6))
  else
  (Z2 l 0 fun y10=>
   bnd (J6 boxes y10.G9) fun r12=>
   each (fun y27 i27 (s27:Int) nx27=>
    bnd (J6 boxes y27.G9) fun r32=>
    nx27 (min s27 r32))
   (fun(s27:Int)=>
    each (fun y52 i52 (s52:(List Int)) nx52=>
     jp (fun kj55=>
      bnd (J6 boxes y52.G9) fun r58=>
      bif decide (r58=s27) then
      (need (decide ((s52.length+[y52.G9].length)*8≤140737488355328∧s52.length+[y52.G9].length≤maxLen)) <|
       kj55 (s52++[y52.G9]))
      else
      (kj55 s52)) fun(j55:(List Int))=>
     nx52 j55)
    (fun(s52:(List Int))=>
     bnd (Ry F s boxes l s52) fun r61=>
     each (fun y80 i80 (s80:(List Int)) nx80=>
      jp (fun kj83=>
       bnd (J6 boxes y80) fun r86=>
       bif decide (r86≠s27) then
       (need (decide ((s80.length+[y80].length)*8≤140737488355328∧s80.length+[y80].length≤maxLen)) <|
        kj83 (s80++[y80]))
       else
       (kj83 s80)) fun(j83:(List Int))=>
      nx80 j83)
     (fun(s80:(List Int))=>
      some (s27,s52,s80,0)) r61.1 0 []) l 0 []) l 0 r12))
theorem G32 (F:Nat) (s:Gp) (boxes:List G9) (l:List Stowed) (r:Int×(List Int)×(List Int)×Int) (h:Qf F s boxes l=some r):Pure Ek 10 [.agg (Gp.cs s),E2 boxes,E1 l] (·=.tup [G0 r.1,E0 r.2.1,E0 r.2.2.1,G0 r.2.2.2]):=by
 unfold Qf at h
 refine H6 [.tmp 6,.tmp 7,.tmp 8,.tmp 9] Tryz.func10 O O (Jr fun hK1=>(JLh (.ptr 1029 0) (Jn (cs:=(Gp.cs s)) 1029 O O O O O) O (Yv (G0 0) O (JLh (E0 ([]:List Int)) (Hf 1 O O) O (JLh (E0 ([]:List Int)) (Hf 1 O O) O (Yv (G0 0) O (G7 (hK1 ?_))))))))
 refine Gt [(1,E2 boxes),(2,E1 l),(3,Ec s)] [] 1029 rfl rfl rfl G rfl (by exact⟨.conv (.same rfl),.conv (.same rfl),.ptr,G⟩) (Js fun hK2=>Jr fun hK3=>(JLh (.agg (Gp.cs s)) (Gh H5 O O O) O (Yv (E2 boxes) O (Yv (E1 l) O ?_))))
 obtain⟨r4,hr4,h⟩:=Gd h
 refine JLh (BL r4) (Gu O (Yr s boxes l r4 hr4) G39 ⟨O,O,O,O,O,O,G⟩) O (JLh (BL (!r4)) (Ru (b:=r4) O O) O (G7 (hK3 (JCc O h (fun h hb=>?_) (fun h hb=>?_)))))
 ·
  refine Jr fun hK5=>(Yv (G0 0) O (JLh (E0 ([]:List Int)) (Hf 1 O O) O (JLh (E0 ([]:List Int)) (Hf 1 O O) O (Yv (G0 2) O (G7 (hK5 (Gx (⟨[G0 0,E0 ([]:List Int),E0 ([]:List Int),G0 2],[],G,O,⟨⟨_,O,.conv (.same O)⟩,⟨_,O,.conv (.same O)⟩,⟨_,O,.conv (.same O)⟩,⟨_,O,.conv (.same O)⟩,G⟩,O,congrArg (fun r:Int×(List Int)×(List Int)×Int=>(.tup [G0 r.1,E0 r.2.1,E0 r.2.2.1,G0 r.2.2.2]:AV)) (Option.some.inj h)⟩))))))))
 ·
  refine Gr (hK2 (Js fun hK6=>Jr fun hK7=>(Yv (E1 l) O (JLl H2 O O O fun hm27=>(JLh (BL (decide ((l.length:Int)=0))) (Q0 O O O) O (G7 (hK7 (JCc O h (fun h hb=>?_) (fun h hb=>?_)))))))))
  ·
   refine Jr fun hK8=>(Yv (G0 0) O (JLh (E0 ([]:List Int)) (Hf 1 O O) O (JLh (E0 ([]:List Int)) (Hf 1 O O) O (Yv (G0 6) O (G7 (hK8 (Gx (⟨[G0 0,E0 ([]:List Int),E0 ([]:List Int),G0 6],[],G,O,⟨⟨_,O,.conv (.same O)⟩,⟨_,O,.conv (.same O)⟩,⟨_,O,.conv (.same O)⟩,⟨_,O,.conv (.same O)⟩,G⟩,O,congrArg (fun r:Int×(List Int)×(List Int)×Int=>(.tup [G0 r.1,E0 r.2.1,E0 r.2.2.1,G0 r.2.2.2]:AV)) (Option.some.inj h)⟩))))))))
  ·
   refine Gr (hK6 (Jr fun hK9=>(Yv (E2 boxes) O (Yv (E1 l) O ?_))))
   obtain⟨m11,y10,hm11,hy10,h⟩:=Z5 h
   refine JLh (Ed y10) (Hb (f:=Stowed.av) (xs:=l) (y:=y10) O O O H2 hy10 hm11) O (JLh (Ed y10) (Gf Hg O O O) O (JLh (G0 y10.G9) (Gj Gb O O O) O ?_))
   obtain⟨r12,hr12,h⟩:=Gd h
   refine JLh (G0 r12) (Gu O (Qw boxes y10.G9 r12 hr12) G38 ⟨O,O,O,O,G⟩) O (Yv (G0 r12) O (G7 (hK9 (Js fun hK13=>Jr fun hK14=>(Yv (E1 l) O (JLl H2 O O O fun hm36=>(Yv (G0 0) O (G7 (hK14 (Gw ?_))))))))))
   obtain⟨b27,kx27,hb27,hkx27,h⟩:=J0 h
   refine Hp (fun i27 (s27:Int)=>each b27 kx27 (List.drop i27 l) i27 s27=some r) (fun i27 s27=>[(1,E2 boxes),(2,E1 l),(3,Ec s),(10,G0 s27),(35,E1 l),(36,Ej l.length),(37,Ej i27)]) (fun i27 s27=>[]) (fun i27=>l.length - i27) 0 r12 h ⟨(by repeat' constructor),G,rfl⟩ ?_
   clear h
   intro i27 s27 hi27 K27 e27
   refine Jr fun hK28=>(JLh (BL (decide ((i27:Int) < (l.length:Int)))) (Jb O O O) O (G7 (hK28 (Js fun hK29=>Gm O (fun hb=>?_) (fun hb=>?_)))))
   ·
    have hk27:=Jk hb
    obtain⟨y27,nx27,hy27,hn27,h⟩:=Hq hi27 hk27
    replace h:=Ya hb27 h
    refine Gr (hK29 (Js fun hK30=>Gw (Jr fun hK31=>(JLh (Ed y27) (Hb (f:=Stowed.av) (xs:=l) (y:=y27) O O O H2 hy27 O) O (JLh (.agg (Stowed.cs y27)) (Gh R4 O O O) O (JLh (.ptr 1030 0) (Hu 1030 4 Jx O O) O (Hw (u:=.junk) (Hj (u:=.agg (Stowed.cs y27)) (ds:=[G0 y27.G9,G0 y27.Slot.G4,G0 y27.Slot.Tier,U8 y27.Slot.Half]) Rk O O O O O O O O) (G7 (hK31 ?_)))))))))
    refine Gt [(1,E2 boxes),(2,E1 l),(3,Ec s),(10,G0 s27),(12,Ed y27),(35,E1 l),(36,Ej l.length),(37,Ej i27)] [] 1030 rfl rfl rfl G rfl (by repeat' (first | exact .ptr | constructor)) (G3 (Yv (G0 s27) O (Yv (E2 boxes) O (JLh (Ed y27) (Gf Hg O O O) O (JLh (G0 y27.G9) (Gj Gb O O O) O ?_)))))
    obtain⟨r32,hr32,h⟩:=Gd h
    refine JLh (G0 r32) (Gu O (Qw boxes y27.G9 r32 hr32) G38 ⟨O,O,O,O,G⟩) O (JLh (G0 (min s27 r32)) (A_min O O O) O (Yv (G0 (min s27 r32)) O (G7 (hK30 (G3 (JLh (G0 ((i27+1:Nat):Int)) (Hx (Ho hk27 hm36) O O O) O (Yv (G0 ((i27+1:Nat):Int)) O (G7 (e27 _ _ (i27+1) (min s27 r32) (app1 hn27 h) (by omega) ⟨(by repeat' constructor),G,rfl⟩)))))))))
   ·
    have h:=app1 hkx27 (Hr hi27 (Hc hb))
    refine Ht (hK13 (Jr fun hK33=>(JLh (OW 1031 1 G0 ([]:List Int)) (G45 1031 3 1 O O O) O (JLh (OW 1032 1 G0 ([]:List Int)) (G45 1032 3 1 O O O) O (G7 (hK33 (Js fun hK34=>Jr fun hK35=>(Yv (E1 l) O (JLl H2 O O O fun hm49=>(Yv (G0 0) O (G7 (hK35 (Gw ?_)))))))))))))
    obtain⟨b52,kx52,hb52,hkx52,h⟩:=J0 h
    refine Hp (fun i52 (s52:(List Int))=>each b52 kx52 (List.drop i52 l) i52 s52=some r) (fun i52 s52=>[(1,E2 boxes),(2,E1 l),(3,Ec s),(10,G0 s27),(13,OW 1031 1 G0 s52),(14,OW 1032 1 G0 ([]:List Int)),(48,E1 l),(49,Ej l.length),(50,Ej i52)]) (fun i52 s52=>[(1031,.spare 3 1 s52.length s52.length),(1032,.spare 3 1 ([]:List Int).length ([]:List Int).length)]) (fun i52=>l.length - i52) 0 [] h ⟨(by repeat' constructor),⟨⟨_,rfl,.same⟩,⟨_,rfl,.same⟩,G⟩,rfl⟩ ?_
    clear h
    intro i52 s52 hi52 K52 e52
    refine Jr fun hK53=>(JLh (BL (decide ((i52:Int) < (l.length:Int)))) (Jb O O O) O (G7 (hK53 (Js fun hK54=>Gm O (fun hb=>?_) (fun hb=>?_)))))
    ·
     have hk52:=Jk hb
     obtain⟨y52,nx52,hy52,hn52,h⟩:=Hq hi52 hk52
     replace h:=Ya hb52 h
     refine Gr (hK54 ?_)
     obtain⟨kj55,hkj55,h⟩:=Rm h
     refine Qr (fun j55:(List Int)=>kj55 j55=some r) (fun j55=>[(1,E2 boxes),(2,E1 l),(3,Ec s),(10,G0 s27),(13,OW 1031 1 G0 j55),(14,OW 1032 1 G0 ([]:List Int)),(48,E1 l),(49,Ej l.length),(50,Ej i52)]) (fun j55=>[(1031,.spare 3 1 j55.length j55.length),(1032,.spare 3 1 ([]:List Int).length ([]:List Int).length)]) (fun Kj55 ej55=>?_) ?_
     ·
      refine Gw (Jr fun hK56=>(JLh (Ed y52) (Hb (f:=Stowed.av) (xs:=l) (y:=y52) O O O H2 hy52 O) O (JLh (.agg (Stowed.cs y52)) (Gh R4 O O O) O (JLh (.ptr 1033 0) (Hu 1033 4 Jx O O) O (Hw (u:=.junk) (Hj (u:=.agg (Stowed.cs y52)) (ds:=[G0 y52.G9,G0 y52.Slot.G4,G0 y52.Slot.Tier,U8 y52.Slot.Half]) Rk O O O O O O O O) (G7 (hK56 ?_)))))))
      refine Gt [(1,E2 boxes),(2,E1 l),(3,Ec s),(10,G0 s27),(13,OW 1031 1 G0 s52),(14,OW 1032 1 G0 ([]:List Int)),(16,Ed y52),(48,E1 l),(49,Ej l.length),(50,Ej i52)] [(1031,.spare 3 1 s52.length s52.length),(1032,.spare 3 1 ([]:List Int).length ([]:List Int).length)] 1033 rfl rfl rfl ⟨⟨_,rfl,.same⟩,⟨_,rfl,.same⟩,G⟩ rfl (by repeat' (first | exact .ptr | constructor)) ?_
      refine Jr fun hK57=>(Yv (E2 boxes) O (JLh (Ed y52) (Gf Hg O O O) O (JLh (G0 y52.G9) (Gj Gb O O O) O ?_)))
      obtain⟨r58,hr58,h⟩:=Gd h
      refine JLh (G0 r58) (Gu O (Qw boxes y52.G9 r58 hr58) G38 ⟨O,O,O,O,G⟩) O (Yv (G0 s27) O (JLh (BL (decide (r58=s27))) (Q0 O O O) O (G7 (hK57 (JCc O h (fun h hb=>?_) (fun h hb=>?_))))))
      ·
       refine G3 (Yv (OW 1031 1 G0 s52) O (JLh (Ed y52) (Gf Hg O O O) O (JLh (G0 y52.G9) (Gj Gb O O O) O (JLh (E0 [y52.G9]) (H9 (xs:=[G0 y52.G9]) O ⟨O,O,G⟩ Gq Q1 O O O O) O ?_))))
       obtain⟨ha59,h⟩:=J7 h
       refine JLh (OW 1031 1 G0 (s52++[y52.G9])) (Rc (f:=G0) (xs:=s52) (ys:=[y52.G9]) O O O O Gq Zp ha59 (fun _=>O) (.inl O) O) O (Yv (OW 1031 1 G0 (s52++[y52.G9])) O (G7 (ej55 _ _ (s52++[y52.G9]) h ⟨(by repeat' constructor),⟨⟨_,rfl,.same⟩,⟨_,rfl,.same⟩,G⟩,rfl⟩)))
      ·
       refine Gr (ej55 _ _ s52 h ⟨(by repeat' constructor),⟨⟨_,rfl,.same⟩,⟨_,rfl,.same⟩,G⟩,rfl⟩)
     ·intro j55 h
      replace h:=app1 hkj55 h
      refine G3 (JLh (G0 ((i52+1:Nat):Int)) (Hx (Ho hk52 hm49) O O O) O (Yv (G0 ((i52+1:Nat):Int)) O (G7 (e52 _ _ (i52+1) j55 (app1 hn52 h) (by omega) ⟨(by repeat' constructor),⟨⟨_,rfl,.same⟩,⟨_,rfl,.same⟩,G⟩,rfl⟩))))
    ·
     have h:=app1 hkx52 (Hr hi52 (Hc hb))
     refine Ht (hK34 (Jr fun hK60=>(JLh (.agg (Gp.cs s)) (Gh H5 O O O) O (Yv (E2 boxes) O (Yv (E1 l) O (Yv (OW 1031 1 G0 s52) O ?_))))))
     obtain⟨r61,hr61,h⟩:=Gd h
     refine JLh (.tup [E0 r61.1,G0 r61.2]) (Gu O (Ge5.down F s boxes l s52 r61 hr61) H9b ⟨O,O,O,O,O,O,O,O,G⟩) O (Yv (.tup [E0 r61.1,G0 r61.2]) O (JLh (E0 r61.1) (Gn O O O) O (JLh (G0 r61.2) (Gn O O O) O (Yv (E0 r61.1) O (Yv (G0 r61.2) O (G7 (hK60 (Js fun hK62=>Jr fun hK63=>(Yv (E0 r61.1) O (JLl Gq O O O fun hm75=>(Yv (G0 0) O (G7 (hK63 (Gw ?_))))))))))))))
     obtain⟨b80,kx80,hb80,hkx80,h⟩:=J0 h
     refine Hp (fun i80 (s80:(List Int))=>each b80 kx80 (List.drop i80 r61.1) i80 s80=some r) (fun i80 s80=>[(1,E2 boxes),(10,G0 s27),(13,OW 1031 1 G0 s52),(14,OW 1032 1 G0 s80),(74,E0 r61.1),(75,Ej r61.1.length),(76,Ej i80)]) (fun i80 s80=>[(1031,.spare 3 1 s52.length s52.length),(1032,.spare 3 1 s80.length s80.length)]) (fun i80=>r61.1.length - i80) 0 [] h ⟨(by repeat' constructor),⟨⟨_,rfl,.same⟩,⟨_,rfl,.same⟩,G⟩,rfl⟩ ?_
     clear h
     intro i80 s80 hi80 K80 e80
     refine Jr fun hK81=>(JLh (BL (decide ((i80:Int) < (r61.1.length:Int)))) (Jb O O O) O (G7 (hK81 (Js fun hK82=>Gm O (fun hb=>?_) (fun hb=>?_)))))
     ·
      have hk80:=Jk hb
      obtain⟨y80,nx80,hy80,hn80,h⟩:=Hq hi80 hk80
      replace h:=Ya hb80 h
      refine Gr (hK82 ?_)
      obtain⟨kj83,hkj83,h⟩:=Rm h
      refine Qr (fun j83:(List Int)=>kj83 j83=some r) (fun j83=>[(1,E2 boxes),(10,G0 s27),(13,OW 1031 1 G0 s52),(14,OW 1032 1 G0 j83),(74,E0 r61.1),(75,Ej r61.1.length),(76,Ej i80)]) (fun j83=>[(1031,.spare 3 1 s52.length s52.length),(1032,.spare 3 1 j83.length j83.length)]) (fun Kj83 ej83=>?_) ?_
      ·
       refine Gw (Jr fun hK84=>(JLh (.dptr [G0 y80]) (Hb (f:=G0) (xs:=r61.1) (y:=y80) O O O Gq hy80 O) O (JLh (G0 y80) (Gj Gb O O O) O (Yv (G0 y80) O (G7 (hK84 (Jr fun hK85=>(Yv (E2 boxes) O (Yv (G0 y80) O ?_)))))))))
       obtain⟨r86,hr86,h⟩:=Gd h
       refine JLh (G0 r86) (Gu O (Qw boxes y80 r86 hr86) G38 ⟨O,O,O,O,G⟩) O (Yv (G0 s27) O (JLh (BL (decide (r86≠s27))) (Zy O O O) O (G7 (hK85 (JCc O h (fun h hb=>?_) (fun h hb=>?_))))))
       ·
        refine G3 (Yv (OW 1032 1 G0 s80) O (Yv (G0 y80) O (JLh (E0 [y80]) (H9 (xs:=[G0 y80]) O ⟨O,O,G⟩ Gq Q1 O O O O) O ?_)))
        obtain⟨ha87,h⟩:=J7 h
        refine JLh (OW 1032 1 G0 (s80++[y80])) (Rc (f:=G0) (xs:=s80) (ys:=[y80]) O O O O Gq Zp ha87 (fun _=>O) (.inl O) O) O (Yv (OW 1032 1 G0 (s80++[y80])) O (G7 (ej83 _ _ (s80++[y80]) h ⟨(by repeat' constructor),⟨⟨_,rfl,.same⟩,⟨_,rfl,.same⟩,G⟩,rfl⟩)))
       ·
        refine Gr (ej83 _ _ s80 h ⟨(by repeat' constructor),⟨⟨_,rfl,.same⟩,⟨_,rfl,.same⟩,G⟩,rfl⟩)
      ·intro j83 h
       replace h:=app1 hkj83 h
       refine G3 (JLh (G0 ((i80+1:Nat):Int)) (Hx (Ho hk80 hm75) O O O) O (Yv (G0 ((i80+1:Nat):Int)) O (G7 (e80 _ _ (i80+1) j83 (app1 hn80 h) (by omega) ⟨(by repeat' constructor),⟨⟨_,rfl,.same⟩,⟨_,rfl,.same⟩,G⟩,rfl⟩))))
     ·
      have h:=app1 hkx80 (Hr hi80 (Hc hb))
      refine Ht (hK62 (Jr fun hK88=>(Yv (G0 s27) O (Yv (OW 1031 1 G0 s52) O (Yv (OW 1032 1 G0 s80) O (Yv (G0 s27) O (Yv (OW 1031 1 G0 s52) O (Yv (OW 1032 1 G0 s80) O (Yv (G0 0) O (G7 (hK88 (Gx (⟨[G0 s27,E0 s52,E0 s80,G0 0],[],G,O,⟨⟨_,O,.conv (.same O)⟩,⟨_,O,.conv (.list O)⟩,⟨_,O,.conv (.list O)⟩,⟨_,O,.conv (.same O)⟩,G⟩,O,congrArg (fun r:Int×(List Int)×(List Int)×Int=>(.tup [G0 r.1,E0 r.2.1,E0 r.2.2.1,G0 r.2.2.2]:AV)) (Option.some.inj h)⟩)))))))))))))

def Gcc (s:Gp) (boxes:List G9) (l:List Stowed) (b:G9):Option Unit:=
 some ()
theorem Ja1 (s:Gp) (boxes:List G9) (l:List Stowed) (b:G9) (r:Unit) (h:Gcc s boxes l b=some r):Pure Ek 38 [.agg (Gp.cs s),E2 boxes,E1 l,.agg (G9.cs b)] (·=.fn 72 [.dptr (Gp.cs s),Ef b,.dptr [E2 boxes],.dptr [E1 l]]):=by
 unfold Gcc at h
 refine H6 [.tmp 8] Tryz.func38 O O (Jr fun hK1=>(JLh (.ptr 1102 0) (Jn (cs:=(Gp.cs s)) 1102 O O O O O) O (JLh (.ptr 1103 0) (Jn (cs:=[E2 boxes]) 1103 O O O O O) O (JLh (.ptr 1104 0) (Jn (cs:=[E1 l]) 1104 O O O O O) O (JLh (.ptr 1105 0) (Jn (cs:=(G9.cs b)) 1105 O O O O O) O (Yv (.sc .nilFunc) O (G7 (hK1 ?_))))))))
 refine Gt [(4,Ec s),(5,.ptr 1103 0),(6,.ptr 1104 0),(7,.ptr 1105 0)] [(1103,.box 36 [E2 boxes]),(1104,.box 37 [E1 l]),(1105,.box 61 (G9.cs b))] 1102 rfl rfl rfl ⟨⟨_,rfl,.boxEq rfl rfl⟩,⟨_,rfl,.boxEq rfl rfl⟩,⟨_,rfl,.boxEq rfl rfl⟩,G⟩ rfl (by repeat' (first | exact .ptr | constructor)) ?_
 refine Gt [(4,Ec s),(5,.dptr [E2 boxes]),(6,.ptr 1104 0),(7,.ptr 1105 0)] [(1104,.box 37 [E1 l]),(1105,.box 61 (G9.cs b))] 1103 rfl rfl rfl ⟨⟨_,rfl,.boxEq rfl rfl⟩,⟨_,rfl,.boxEq rfl rfl⟩,G⟩ rfl (by repeat' (first | exact .ptr | constructor)) ?_
 refine Gt [(4,Ec s),(5,.dptr [E2 boxes]),(6,.dptr [E1 l]),(7,.ptr 1105 0)] [(1105,.box 61 (G9.cs b))] 1104 rfl rfl rfl ⟨⟨_,rfl,.boxEq rfl rfl⟩,G⟩ rfl (by repeat' (first | exact .ptr | constructor)) ?_
 refine Gt [(4,Ec s),(5,.dptr [E2 boxes]),(6,.dptr [E1 l]),(7,Ef b)] [] 1105 rfl rfl rfl G rfl (by repeat' (first | exact .ptr | constructor)) ?_
 refine Jr fun hK2=>(JLh (.fn 72 [.dptr (Gp.cs s),Ef b,.dptr [E2 boxes],.dptr [E1 l]]) (Yg (cs:=[.dptr (Gp.cs s),Ef b,.dptr [E2 boxes],.dptr [E1 l]]) O O) O (Yv (.fn 72 [.dptr (Gp.cs s),Ef b,.dptr [E2 boxes],.dptr [E1 l]]) O (G7 (hK2 ?_))))
 refine Gx ?_
 exact⟨[.fn 72 [.dptr (Gp.cs s),Ef b,.dptr [E2 boxes],.dptr [E1 l]]],[],G,O,⟨⟨_,O,.conv (.same O)⟩,G⟩,O,congrArg (fun _:Unit=>(.fn 72 [.dptr (Gp.cs s),Ef b,.dptr [E2 boxes],.dptr [E1 l]]:AV)) (Option.some.inj h)⟩

def Jh (F:Nat) (s:Gp) (boxes:List G9) (l:List Stowed) (id_:Int):Option ((List Slot)×Int×Int):=
 bnd (Q2 s boxes l) fun r4=>
 bif (!r4) then
 (some ([],0,2))
 else
 (bnd (Zw boxes id_) fun r7=>
  bif ((!r7.2)||((decide (r7.1.Size≠20))&&(decide (r7.1.Size≠40)))) then
  (some ([],0,6))
  else
  (bnd (G9d l id_) fun r12=>
   bif r12 then
   (some ([],0,96))
   else
   (bnd (Gcc s boxes l r7.1) fun r18=>
    bnd (G86 F s r7.1 boxes l) fun ys35=>
    each (fun y35 i35 (s35:(List Slot)×Int×Nat) nx35=>
     bnd (Zq F s boxes y35.2 id_) fun r38=>
     jp (fun kj39=>
      bif ((decide ((s35.1.length:Int)=0))||(decide ((r38.length:Int) < s35.2.1))) then
      (kj39 ((s35.2.2+1),(r38.length:Int),[]))
      else
      (kj39 (s35.2.2,s35.2.1,s35.1))) fun(j39:Nat×Int×(List Slot))=>
     bif decide ((r38.length:Int)=j39.2.1) then
     (need (decide ((j39.2.2.length+[y35.1].length)*24≤140737488355328∧j39.2.2.length+[y35.1].length≤maxLen)) <|
      nx35 ((j39.2.2++[y35.1]),j39.2.1,(j39.1+1)))
     else
     (nx35 (j39.2.2,j39.2.1,j39.1)))
    (fun(s35:(List Slot)×Int×Nat)=>
     bif decide ((s35.1.length:Int)=0) then
     (some ([],0,4))
     else
     (some (s35.1,s35.2.1,0))) ys35 0 ([],0,0))))
theorem Zf (F:Nat) (s:Gp) (boxes:List G9) (l:List Stowed) (id_:Int) (r:(List Slot)×Int×Int) (h:Jh F s boxes l id_=some r):Pure Ek 16 [.agg (Gp.cs s),E2 boxes,E1 l,G0 id_] (·=.tup [E4 r.1,G0 r.2.1,G0 r.2.2]):=by
 unfold Jh at h
 refine H6 [.tmp 8,.tmp 9,.tmp 10] Tryz.func16 O O (Jr fun hK1=>(JLh (.ptr 1041 0) (Jn (cs:=(Gp.cs s)) 1041 O O O O O) O (JLh (.ptr 1042 0) (Jn (cs:=[E2 boxes]) 1042 O O O O O) O (JLh (.ptr 1043 0) (Jn (cs:=[G0 id_]) 1043 O O O O O) O (JLh (E4 ([]:List Slot)) (Hf 3 O O) O (Yv (G0 0) O (Yv (G0 0) O (G7 (hK1 ?_)))))))))
 refine Gt [(2,E1 l),(4,Ec s),(5,.ptr 1042 0),(7,.ptr 1043 0)] [(1042,.box 36 [E2 boxes]),(1043,.box 3 [G0 id_])] 1041 rfl rfl rfl ⟨⟨_,rfl,.boxEq rfl rfl⟩,⟨_,rfl,.boxEq rfl rfl⟩,G⟩ rfl (by repeat' (first | exact .ptr | constructor)) ?_
 refine Gt [(2,E1 l),(4,Ec s),(5,.dptr [E2 boxes]),(7,.ptr 1043 0)] [(1043,.box 3 [G0 id_])] 1042 rfl rfl rfl ⟨⟨_,rfl,.boxEq rfl rfl⟩,G⟩ rfl (by repeat' (first | exact .ptr | constructor)) ?_
 refine Gt [(2,E1 l),(4,Ec s),(5,.dptr [E2 boxes]),(7,.dptr [G0 id_])] [] 1043 rfl rfl rfl G rfl (by repeat' (first | exact .ptr | constructor)) (Js fun hK2=>Jr fun hK3=>(JLh (.agg (Gp.cs s)) (Gh H5 O O O) O (JLh (E2 boxes) (Gj Yh O O O) O (Yv (E1 l) O ?_))))
 obtain⟨r4,hr4,h⟩:=Gd h
 refine JLh (BL r4) (Gu O (Yr s boxes l r4 hr4) G39 ⟨O,O,O,O,O,O,G⟩) O (JLh (BL (!r4)) (Ru (b:=r4) O O) O (G7 (hK3 (JCc O h (fun h hb=>?_) (fun h hb=>?_)))))
 ·
  refine Jr fun hK5=>(JLh (E4 ([]:List Slot)) (Hf 3 O O) O (Yv (G0 0) O (Yv (G0 2) O (G7 (hK5 (Gx (⟨[E4 ([]:List Slot),G0 0,G0 2],[],G,O,⟨⟨_,O,.conv (.same O)⟩,⟨_,O,.conv (.same O)⟩,⟨_,O,.conv (.same O)⟩,G⟩,O,congrArg (fun r:(List Slot)×Int×Int=>(.tup [E4 r.1,G0 r.2.1,G0 r.2.2]:AV)) (Option.some.inj h)⟩)))))))
 ·
  refine Gr (hK2 (Jr fun hK6=>(JLh (E2 boxes) (Gj Yh O O O) O (JLh (G0 id_) (Gj Gb O O O) O ?_))))
  obtain⟨r7,hr7,h⟩:=Gd h
  refine JLh (.tup [.agg (G9.cs r7.1),BL r7.2]) (Gu O (G61 boxes id_ r7 hr7) Gd4 ⟨O,O,O,O,G⟩) O (Yv (.tup [.agg (G9.cs r7.1),BL r7.2]) O (JLh (.agg (G9.cs r7.1)) (Gn O O O) O (JLh (BL r7.2) (Gn O O O) O (JLh (.ptr 1044 0) (Hu 1044 9 Y5 O O) O (Hw (u:=.junk) (Hj (u:=.agg (G9.cs r7.1)) (ds:=(G9.cs r7.1)) G00 O O O O O O O O) (Yv (BL r7.2) O (G7 (hK6 ?_))))))))
  refine Gt [(2,E1 l),(4,Ec s),(5,.dptr [E2 boxes]),(7,.dptr [G0 id_]),(11,Ef r7.1),(12,BL r7.2)] [] 1044 rfl rfl rfl G rfl (by repeat' (first | exact .ptr | constructor)) (Js fun hK8=>Gw ?_)
  refine Jr fun hK9=>(Yv (BL r7.2) O (JLh (BL (!r7.2)) (Ru (b:=r7.2) O O) O (Yv (BL (!r7.2)) O (JLo (.dptr ((G9.cs r7.1).drop 2)) [] O .scf G (fun hc=>Gf Rv O O O) O (JLo (U8 r7.1.Size) [33] O .scf ⟨Ua,G⟩ (fun hc=>Gj Ja O O O) O (JLo (BL (decide (r7.1.Size≠20))) [34] O .scf ⟨Ua,G⟩ (fun hc=>Zy O O O) O (JLo (BL (decide (r7.1.Size≠20))) [35] O .scf ⟨Ua,G⟩ (fun hc=>G5 O O) O (JLo (.dptr ((G9.cs r7.1).drop 2)) [] O .optt G (fun hc=>Gf Rv O O O) O (JLo (U8 r7.1.Size) [37] O .optt ⟨Ua,G⟩ (fun hc=>Gj Ja O O O) O (JLo (BL (decide (r7.1.Size≠40))) [38] O .optt ⟨Ua,G⟩ (fun hc=>Zy O O O) O (Gc (u:=BL ((decide (r7.1.Size≠20))&&(decide (r7.1.Size≠40)))) [(36,BL (decide (r7.1.Size≠20))),(39,_)] O O O .scf ⟨.all id,.part,G⟩ (fun hc=>Qd O O O O) ?_)))))))))))
  refine JLh (BL ((!r7.2)||((decide (r7.1.Size≠20))&&(decide (r7.1.Size≠40))))) (Zn O O O O) O (Yv (BL ((!r7.2)||((decide (r7.1.Size≠20))&&(decide (r7.1.Size≠40))))) O (G7 (hK9 (JCc O h (fun h hb=>?_) (fun h hb=>?_)))))
  ·
   refine Jr fun hK10=>(JLh (E4 ([]:List Slot)) (Hf 3 O O) O (Yv (G0 0) O (Yv (G0 6) O (G7 (hK10 (Gx (⟨[E4 ([]:List Slot),G0 0,G0 6],[],G,O,⟨⟨_,O,.conv (.same O)⟩,⟨_,O,.conv (.same O)⟩,⟨_,O,.conv (.same O)⟩,G⟩,O,congrArg (fun r:(List Slot)×Int×Int=>(.tup [E4 r.1,G0 r.2.1,G0 r.2.2]:AV)) (Option.some.inj h)⟩)))))))
  ·
   refine Jr fun hK11=>(Yv (E1 l) O (JLh (G0 id_) (Gj Gb O O O) O ?_))
   obtain⟨r12,hr12,h⟩:=Gd h
   refine JLh (BL r12) (Gu O (Hdb l id_ r12 hr12) J62 ⟨O,O,O,O,G⟩) O (Yv (BL r12) O (G7 (hK11 (JCc O h (fun h hb=>?_) (fun h hb=>?_)))))
   ·
    refine Jr fun hK13=>(JLh (E4 ([]:List Slot)) (Hf 3 O O) O (Yv (G0 0) O (Yv (G0 96) O (G7 (hK13 (Gx (⟨[E4 ([]:List Slot),G0 0,G0 96],[],G,O,⟨⟨_,O,.conv (.same O)⟩,⟨_,O,.conv (.same O)⟩,⟨_,O,.conv (.same O)⟩,G⟩,O,congrArg (fun r:(List Slot)×Int×Int=>(.tup [E4 r.1,G0 r.2.1,G0 r.2.2]:AV)) (Option.some.inj h)⟩)))))))
   ·
    refine Gr (hK8 (Jr fun hK14=>(JLh (.ptr 1045 0) (G8f 1045 [.sc (.slice none 0 0)] [.slice none 0 0] J41 ⟨.inl O,G⟩ O O) O (H31 1045 0 1048 47 3 O O O (cs':=[.own 1048 0 3 (([]:List Slot).map Slot.av)]) O (G7 (hK14 (Jr fun hK15=>(JLh (.ptr 1046 0) (Hu 1046 1 Q1 O O) O (Hw (u:=.junk) (Hj (u:=G0 0) (ds:=[G0 0]) G48 O O O O O O O O) (G7 (hK15 (Js fun hK16=>?_))))))))))))
    refine Jr fun hK17=>(JLh (.agg (Gp.cs s)) (Gh H5 O O O) O (JLh (E2 boxes) (Gj Yh O O O) O (Yv (E1 l) O (JLh (.agg (G9.cs r7.1)) (Gh G49 O O O) O ?_))))
    obtain⟨r18,hr18,h⟩:=Gd h
    refine JLh (.fn 72 [.dptr (Gp.cs s),Ef r7.1,.dptr [E2 boxes],.dptr [E1 l]]) (Gu O (Ja1 s boxes l r7.1 r18 hr18) Q07 ⟨O,O,O,O,O,O,O,O,G⟩) O (G7 (hK17 (Gw ?_)))
    obtain⟨ys35,hy_35,h⟩:=Gd h
    obtain⟨b35,kx35,hb35,hkx35,h⟩:=J0 h
    refine Hdd (ps:=[51,52]) [(4,Ec s),(5,.dptr [E2 boxes]),(7,.dptr [G0 id_]),(13,.ptr 1045 0),(14,.ptr 1046 0),(50,.fn 72 [.dptr (Gp.cs s),Ef r7.1,.dptr [E2 boxes],.dptr [E1 l]])] (ys35.map (fun y:Slot×(List Stowed)=>[.agg (Slot.cs y.1),E1 y.2])) (fun i35 (s35:(List Slot)×Int×Nat)=>each b35 kx35 (List.drop i35 ys35) i35 s35=some r) (fun s35=>[(1048,.spare 47 3 s35.2.2 s35.1.length),(1045,.box 62 [.own 1048 s35.2.2 3 (s35.1.map Slot.av)]),(1046,.box 3 [G0 s35.2.1])]) ([],0,0) rfl rfl rfl Jf5 (Hff.down F s r7.1 boxes l ys35 hy_35) h ⟨(by repeat' constructor),⟨⟨_,rfl,.same⟩,⟨_,rfl,.boxL rfl ⟨.same rfl,trivial⟩⟩,⟨_,rfl,.boxL rfl ⟨.same rfl,trivial⟩⟩,trivial⟩,rfl⟩ rfl (fun us_ hus_=>by obtain⟨_,_,rfl⟩:=List.mem_map.1 hus_; rfl) (fun p_ hp_=>Nat.blt_eq.mp (by revert p_; decide)) (fun _=>(by repeat' constructor)) (fun _=>rfl) ?_ ?_
    ·
     intro i35 us_ s35 hu_ hi35 lr_ K35 e35
     obtain⟨hk35,rfl⟩:=mapf_at hu_
     obtain⟨y35,nx35,hy35,hn35,h⟩:=Hq hi35 hk35
     replace h:=Ya hb35 h
     obtain⟨_,rfl⟩:=List.getElem?_eq_some_iff.1 hy35
     generalize ys35[i35]=y35 at h ⊢
     change JC _ _ _ _ [(52,E1 y35.2),(51,.agg (Slot.cs y35.1)),(4,Ec s),(5,.dptr [E2 boxes]),(7,.dptr [G0 id_]),(13,.ptr 1045 0),(14,.ptr 1046 0),(50,.fn 72 [.dptr (Gp.cs s),Ef r7.1,.dptr [E2 boxes],.dptr [E1 l]])] [(1048,.spare 47 3 s35.2.2 s35.1.length),(1045,.box 62 [.own 1048 s35.2.2 3 (s35.1.map Slot.av)]),(1046,.box 3 [G0 s35.2.1])]
     refine Jr fun hK36=>(JLh (.ptr 1047 0) (Hu 1047 3 Y6 O O) O (Hw (u:=.junk) (Hj (u:=.agg (Slot.cs y35.1)) (ds:=[G0 y35.1.G4,G0 y35.1.Tier,U8 y35.1.Half]) G37 O O O O O O O O) (G7 (hK36 ?_))))
     refine Gt [(4,Ec s),(5,.dptr [E2 boxes]),(7,.dptr [G0 id_]),(13,.ptr 1045 0),(14,.ptr 1046 0),(15,Eh y35.1),(52,E1 y35.2)] [(1048,.spare 47 3 s35.2.2 s35.1.length),(1045,.box 62 [.own 1048 s35.2.2 3 (s35.1.map Slot.av)]),(1046,.box 3 [G0 s35.2.1])] 1047 rfl rfl rfl ⟨⟨_,rfl,.same⟩,⟨_,rfl,.boxEq rfl rfl⟩,⟨_,rfl,.boxEq rfl rfl⟩,G⟩ rfl (by repeat' (first | exact .ptr | constructor)) (G3 (Yv (E1 y35.2) O (G7 (Mid_go (Gw ?_)))))
     refine Jr fun hK37=>(JLh (.agg (Gp.cs s)) (Gh H5 O O O) O (JLh (E2 boxes) (Gj Yh O O O) O (Yv (E1 y35.2) O (JLh (G0 id_) (Gj Gb O O O) O ?_))))
     obtain⟨r38,hr38,h⟩:=Gd h
     refine JLh (E0 r38) (Gu O (Gfb F s boxes y35.2 id_ r38 hr38) J61 ⟨O,O,O,O,O,O,O,O,G⟩) O (JLl Gq O O O fun hm58=>(Yv (Ej r38.length) O (G7 (hK37 ?_))))
     obtain⟨kj39,hkj39,h⟩:=Rm h
     refine Qr (fun j39:Nat×Int×(List Slot)=>kj39 j39=some r) (fun j39=>[(13,.ptr 1045 0),(14,.ptr 1046 0),(15,Eh y35.1),(17,Ej r38.length)]) (fun j39=>[(1048,.spare 47 3 j39.1 j39.2.2.length),(1046,.box 3 [G0 j39.2.1]),(1045,.box 62 [.own 1048 j39.1 3 (j39.2.2.map Slot.av)])]) (fun Kj39 ej39=>?_) ?_
     ·
      refine Jr fun hK40=>(JLh (.own 1048 s35.2.2 3 (s35.1.map Slot.av)) (R9 G19 O O O O) O (JLl J2 O O O fun hm60=>(JLh (BL (decide ((s35.1.length:Int)=0))) (Q0 O O O) O (Yv (BL (decide ((s35.1.length:Int)=0))) O (JLo (Ej r38.length) [] O .scf G (fun hc=>G5 O O) O (JLo (G0 s35.2.1) [] O .scf G (fun hc=>R9 Gb O O O O) O (JLo (BL (decide ((r38.length:Int) < s35.2.1))) [63,64] O .scf ⟨Ua,Ua,G⟩ (fun hc=>Jb O O O) O (JLh (BL ((decide ((s35.1.length:Int)=0))||(decide ((r38.length:Int) < s35.2.1)))) (Zn O O O O) O (G7 (hK40 (JCc O h (fun h hb=>?_) (fun h hb=>?_))))))))))))
      ·
       refine G3 (Yv (Ej r38.length) O (Hw (u:=.junk) (Hj (u:=.sc (.slice none 0 0)) (ds:=[.sc (.slice none 0 0)]) H94 O O O O O O O O) (Jdd 1045 0 1048 47 3 s35.2.2 O O O (cs':=[.own 1048 (s35.2.2+1) 3 (([]:List Slot).map Slot.av)]) O (Hw (u:=.junk) (Hj (u:=Ej r38.length) (ds:=[Ej r38.length]) G48 O O O O O O O O) (G7 (ej39 _ _ ((s35.2.2+1),(r38.length:Int),[]) h ⟨(by repeat' constructor),⟨⟨_,rfl,.same⟩,⟨_,rfl,.boxL rfl ⟨.same rfl,G⟩⟩,⟨_,rfl,.boxL rfl ⟨.same rfl,G⟩⟩,G⟩,rfl⟩))))))
      ·
       refine Gr (ej39 _ _ (s35.2.2,s35.2.1,s35.1) h ⟨(by repeat' constructor),⟨⟨_,rfl,.same⟩,⟨_,rfl,.boxL rfl ⟨.same rfl,G⟩⟩,⟨_,rfl,.boxL rfl ⟨.same rfl,G⟩⟩,G⟩,rfl⟩)
     ·intro j39 h
      replace h:=app1 hkj39 h
      refine Jr fun hK41=>(Yv (Ej r38.length) O (JLh (G0 j39.2.1) (R9 Gb O O O O) O (JLh (BL (decide ((r38.length:Int)=j39.2.1))) (Q0 O O O) O (G7 (hK41 (JCc O h (fun h hb=>?_) (fun h hb=>?_)))))))
      ·
       refine G3 (JLh (.own 1048 j39.1 3 (j39.2.2.map Slot.av)) (R9 G19 O O O O) O (JLh (.agg (Slot.cs y35.1)) (Gh J9 O O O) O (JLh (E4 [y35.1]) (H9 (xs:=[.agg (Slot.cs y35.1)]) O ⟨O,O,G⟩ J2 Y6 O O O O) O ?_)))
       obtain⟨ha42,h⟩:=J7 h
       refine JLh (.own 1048 (j39.1+1) 3 ((j39.2.2++[y35.1]).map Slot.av)) (A_appendG (f:=Slot.av) (xs:=j39.2.2) (ys:=[y35.1]) O O O O J2 H97 ha42 (fun _=>O) (.inl O)) O (Hw (u:=.junk) (Hj (u:=.own 1048 (j39.1+1) 3 ((j39.2.2++[y35.1]).map Slot.av)) (ds:=[.own 1048 (j39.1+1) 3 ((j39.2.2++[y35.1]).map Slot.av)]) H94 O O O O O O O O) (G7 (e35 _ _ ((j39.2.2++[y35.1]),j39.2.1,(j39.1+1)) (app1 hn35 h) ⟨G,⟨⟨_,O,.same⟩,⟨_,O,.boxL O ⟨.same O,G⟩⟩,⟨_,O,.boxL O ⟨.same O,G⟩⟩,G⟩,O⟩)))
      ·
       refine Gr (e35 _ _ (j39.2.2,j39.2.1,j39.1) (app1 hn35 h) ⟨G,⟨⟨_,O,.same⟩,⟨_,O,.boxL O ⟨.same O,G⟩⟩,⟨_,O,.boxL O ⟨.same O,G⟩⟩,G⟩,O⟩)
    ·
     intro s35 h
     rw [List.length_map] at h
     replace h:=app1 hkx35 (Hr h (Nat.lt_irrefl _))
     refine hK16 (Js fun hK43=>Jr fun hK44=>(JLh (.own 1048 s35.2.2 3 (s35.1.map Slot.av)) (R9 G19 O O O O) O (JLl J2 O O O fun hm76=>(JLh (BL (decide ((s35.1.length:Int)=0))) (Q0 O O O) O (G7 (hK44 (Yk (l':=[(13,.ptr 1045 0),(14,.ptr 1046 0),(77,BL (decide ((s35.1.length:Int)=0)))]) (L':=[(1045,.box 62 [E4 s35.1]),(1046,.box 3 [G0 s35.2.1])]) ⟨⟨.same O,.same O,.same O,G⟩,⟨⟨_,O,.boxL O ⟨.list O,G⟩⟩,⟨_,O,.boxL O ⟨.same O,G⟩⟩,G⟩,O⟩ (Gt [(13,.dptr [E4 s35.1]),(14,.ptr 1046 0),(77,BL (decide ((s35.1.length:Int)=0)))] [(1046,.box 3 [G0 s35.2.1])] 1045 rfl rfl rfl ⟨⟨_,rfl,.boxEq rfl rfl⟩,G⟩ rfl (by exact⟨.ptr,.conv (.same rfl),.conv (.same rfl),G⟩) ?_))))))))
     refine Gt [(13,.dptr [E4 s35.1]),(14,.dptr [G0 s35.2.1]),(77,BL (decide ((s35.1.length:Int)=0)))] [] 1046 rfl rfl rfl G rfl (by exact⟨.conv (.same rfl),.ptr,.conv (.same rfl),G⟩) (JCc O h (fun h hb=>?_) (fun h hb=>?_))
     ·
      refine Jr fun hK45=>(JLh (E4 ([]:List Slot)) (Hf 3 O O) O (Yv (G0 0) O (Yv (G0 4) O (G7 (hK45 (Gx (⟨[E4 ([]:List Slot),G0 0,G0 4],[],G,O,⟨⟨_,O,.conv (.same O)⟩,⟨_,O,.conv (.same O)⟩,⟨_,O,.conv (.same O)⟩,G⟩,O,congrArg (fun r:(List Slot)×Int×Int=>(.tup [E4 r.1,G0 r.2.1,G0 r.2.2]:AV)) (Option.some.inj h)⟩)))))))
     ·
      refine Gr (hK43 (Js fun hK46=>JC_d0 Qg (by kernel_rfl) (Dq (E4 s35.1) (Gj G19 O O O) O (Dq (G0 s35.2.1) (Gj Gb O O O) O (Dq (E4 s35.1) (G8 O O) O (Dq (G0 s35.2.1) (G8 O O) O (Dq (G0 0) (G8 O O) O (Dnil (hK46 (Gx (⟨[E4 s35.1,G0 s35.2.1,G0 0],[],G,O,⟨⟨_,O,.conv (.same O)⟩,⟨_,O,.conv (.same O)⟩,⟨_,O,.conv (.same O)⟩,G⟩,O,congrArg (fun r:(List Slot)×Int×Int=>(.tup [E4 r.1,G0 r.2.1,G0 r.2.2]:AV)) (Option.some.inj h)⟩)))))))))))

def J8 (a:List Int) (b:List Int):Option Bool:=
 bif decide ((a.length:Int)≠(b.length:Int)) then
 (some false)
 else
 (each (fun y24 i24 (s24:Unit) nx24=>
   Z2 b (i24:Int) fun y29=>
   bif decide (y24≠y29) then
   (some false)
   else
   (nx24 ()))
  (fun(s24:Unit)=>
   some true) a 0 ())
theorem Q4 (a:List Int) (b:List Int) (r:Bool) (h:J8 a b=some r):Pure Ek 18 [E0 a,E0 b] (·=BL r):=by
 unfold J8 at h
 refine H6 [.tmp 4] Tryz.func18 O O (Jr fun hK1=>(Yv (BL false) O (G7 (hK1 (Js fun hK2=>Jr fun hK3=>(Yv (E0 a) O (JLl Gq O O O fun hm7=>(Yv (E0 b) O (JLl Gq O O O fun hm9=>(JLh (BL (decide ((a.length:Int)≠(b.length:Int)))) (Zy O O O) O (G7 (hK3 (JCc O h (fun h hb=>?_) (fun h hb=>?_))))))))))))))
 ·
  refine Jr fun hK4=>(Yv (BL false) O (G7 (hK4 (Gx (fin1 BL h)))))
 ·
  refine Gr (hK2 (Js fun hK5=>Jr fun hK6=>(Yv (G0 0) O (G7 (hK6 (Gw ?_))))))
  obtain⟨b24,kx24,hb24,hkx24,h⟩:=J0 h
  refine Hp (fun i24 (s24:Unit)=>each b24 kx24 (List.drop i24 a) i24 s24=some r) (fun i24 s24=>[(0,E0 a),(1,E0 b),(5,Ej i24)]) (fun i24 s24=>[]) (fun i24=>a.length - i24) 0 () h ⟨⟨.same O,.same O,.same O,G⟩,G,O⟩ ?_
  clear h
  intro i24 s24 hi24 K24 e24
  refine Js fun hK25=>Jr fun hK26=>(Yv (Ej i24) O (Yv (E0 a) O (JLl Gq O O O fun hm13=>(JLh (BL (decide ((i24:Int) < (a.length:Int)))) (Jb O O O) O (G7 (hK26 (Gm O (fun hb=>?_) (fun hb=>?_))))))))
  ·
   have hk24:=Jk hb
   obtain⟨y24,nx24,hy24,hn24,h⟩:=Hq hi24 hk24
   replace h:=Ya hb24 h
   refine Gr (hK25 (Js fun hK27=>Gw (Js fun hK28=>?_)))
   obtain⟨m30,y29,hm30,hy29,h⟩:=Z5 h
   refine JC_d0 Qg (by kernel_rfl) (Dq (E0 a) (G5 O O) O (Dq (Ej i24) (G5 O O) O (Dq (.dptr [G0 y24]) (Hb (f:=G0) (xs:=a) (y:=y24) O O O Gq hy24 O) O (Dq (G0 y24) (Gj Gb O O O) O (Dq (E0 b) (G5 O O) O (Dq (Ej i24) (G5 O O) O (Dq (.dptr [G0 y29]) (Hb (f:=G0) (xs:=b) (y:=y29) O O O Gq hy29 hm30) O (Dq (G0 y29) (Gj Gb O O O) O (Dq (BL (decide (y24≠y29))) (Zy O O O) O (Dnil (hK28 (JCc O h (fun h hb=>?_) (fun h hb=>?_)))))))))))))
   ·
    refine Jr fun hK31=>(Yv (BL false) O (G7 (hK31 (Gx (fin1 BL h)))))
   ·
    refine Gr (hK27 (G3 (Yv (Ej i24) O (JLh (G0 ((i24+1:Nat):Int)) (Hx (Ho hk24 hm13) O O O) O (Yv (G0 ((i24+1:Nat):Int)) O (G7 (e24 _ _ (i24+1) () (app1 hn24 h) (by omega) ⟨⟨.same rfl,.same rfl,.same rfl,G⟩,G,rfl⟩)))))))
  ·
   have h:=app1 hkx24 (Hr hi24 (Hc hb))
   refine Ht (hK5 (Jr fun hK32=>(Yv (BL true) O (G7 (hK32 (Gx (fin1 BL h)))))))

def G05 (a:List Slot) (b:List Slot):Option Bool:=
 bif decide ((a.length:Int)≠(b.length:Int)) then
 (some false)
 else
 (each (fun y24 i24 (s24:Unit) nx24=>
   Z2 b (i24:Int) fun y29=>
   bif (!decide (y24=y29)) then
   (some false)
   else
   (nx24 ()))
  (fun(s24:Unit)=>
   some true) a 0 ())
theorem Ge7 (a:List Slot) (b:List Slot) (r:Bool) (h:G05 a b=some r):Pure Ek 37 [E4 a,E4 b] (·=BL r):=by
 unfold G05 at h
 refine H6 [.tmp 4] Tryz.func37 O O (Jr fun hK1=>(Yv (BL false) O (G7 (hK1 (Js fun hK2=>Jr fun hK3=>(Yv (E4 a) O (JLl J2 O O O fun hm7=>(Yv (E4 b) O (JLl J2 O O O fun hm9=>(JLh (BL (decide ((a.length:Int)≠(b.length:Int)))) (Zy O O O) O (G7 (hK3 (JCc O h (fun h hb=>?_) (fun h hb=>?_))))))))))))))
 ·
  refine Jr fun hK4=>(Yv (BL false) O (G7 (hK4 (Gx (fin1 BL h)))))
 ·
  refine Gr (hK2 (Js fun hK5=>Jr fun hK6=>(Yv (G0 0) O (G7 (hK6 (Gw ?_))))))
  obtain⟨b24,kx24,hb24,hkx24,h⟩:=J0 h
  refine Hp (fun i24 (s24:Unit)=>each b24 kx24 (List.drop i24 a) i24 s24=some r) (fun i24 s24=>[(0,E4 a),(1,E4 b),(5,Ej i24)]) (fun i24 s24=>[]) (fun i24=>a.length - i24) 0 () h ⟨⟨.same O,.same O,.same O,G⟩,G,O⟩ ?_
  clear h
  intro i24 s24 hi24 K24 e24
  refine Js fun hK25=>Jr fun hK26=>(Yv (Ej i24) O (Yv (E4 a) O (JLl J2 O O O fun hm13=>(JLh (BL (decide ((i24:Int) < (a.length:Int)))) (Jb O O O) O (G7 (hK26 (Gm O (fun hb=>?_) (fun hb=>?_))))))))
  ·
   have hk24:=Jk hb
   obtain⟨y24,nx24,hy24,hn24,h⟩:=Hq hi24 hk24
   replace h:=Ya hb24 h
   refine Gr (hK25 (Js fun hK27=>Gw (Js fun hK28=>?_)))
   obtain⟨m30,y29,hm30,hy29,h⟩:=Z5 h
   refine JC_d0 Qg (by kernel_rfl) (Dq (E4 a) (G5 O O) O (Dq (Ej i24) (G5 O O) O (Dq (Eh y24) (Hb (f:=Slot.av) (xs:=a) (y:=y24) O O O J2 hy24 O) O (Dq (.agg (Slot.cs y24)) (Gh J9 O O O) O (Dq (E4 b) (G5 O O) O (Dq (Ej i24) (G5 O O) O (Dq (Eh y29) (Hb (f:=Slot.av) (xs:=b) (y:=y29) O O O J2 hy29 hm30) O (Dq (.agg (Slot.cs y29)) (Gh J9 O O O) O (Dq (BL (!decide (y24=y29))) (A_neAgg (vs:=[.int .i64 y24.G4,.int .i64 y24.Tier,.int .u8 y24.Half]) (us:=[.int .i64 y29.G4,.int .i64 y29.Tier,.int .u8 y29.Half]) 4 O (tq_47 y24 y29) Gf3 H69 O O O) O (Dnil (hK28 (JCc O h (fun h hb=>?_) (fun h hb=>?_)))))))))))))
   ·
    refine Jr fun hK31=>(Yv (BL false) O (G7 (hK31 (Gx (fin1 BL h)))))
   ·
    refine Gr (hK27 (G3 (Yv (Ej i24) O (JLh (G0 ((i24+1:Nat):Int)) (Hx (Ho hk24 hm13) O O O) O (Yv (G0 ((i24+1:Nat):Int)) O (G7 (e24 _ _ (i24+1) () (app1 hn24 h) (by omega) ⟨⟨.same rfl,.same rfl,.same rfl,G⟩,G,rfl⟩)))))))
  ·
   have h:=app1 hkx24 (Hr hi24 (Hc hb))
   refine Ht (hK5 (Jr fun hK32=>(Yv (BL true) O (G7 (hK32 (Gx (fin1 BL h)))))))

def J1 (F:Nat) :Option Bool:=
 bnd (G04) fun r3=>
 bnd (R8 1 0 0 0) fun r6=>
 bnd (R8 2 0 1 0) fun r7=>
 bnd (R8 3 2 1 0) fun r8=>
 bnd (R8 6 2 0 1) fun r9=>
 bnd (R8 7 2 0 2) fun r10=>
 bnd (J4 F r3 [(G9.mk 1 ByteArray.empty 40 false 0 0 1 0 false),(G9.mk 2 ByteArray.empty 40 false 0 0 2 0 false),(G9.mk 3 ByteArray.empty 40 false 0 0 3 0 false),(G9.mk 4 ByteArray.empty 40 false 0 0 1 0 false),(G9.mk 5 ByteArray.empty 40 false 0 0 1 0 false),(G9.mk 6 ByteArray.empty 20 false 0 0 1 0 false),(G9.mk 7 ByteArray.empty 20 false 0 0 2 0 false)] [r6,r7,r8,r9,r10] 2) fun r12=>
 bnd (J4 F r3 [(G9.mk 1 ByteArray.empty 40 false 0 0 1 0 false),(G9.mk 2 ByteArray.empty 40 false 0 0 2 0 false),(G9.mk 3 ByteArray.empty 40 false 0 0 3 0 false),(G9.mk 4 ByteArray.empty 40 false 0 0 1 0 false),(G9.mk 5 ByteArray.empty 40 false 0 0 1 0 false),(G9.mk 6 ByteArray.empty 20 false 0 0 1 0 false),(G9.mk 7 ByteArray.empty 20 false 0 0 2 0 false)] [r6,r7,r8,r9,r10] 3) fun r14=>
 bnd (J4 F r3 [(G9.mk 1 ByteArray.empty 40 false 0 0 1 0 false),(G9.mk 2 ByteArray.empty 40 false 0 0 2 0 false),(G9.mk 3 ByteArray.empty 40 false 0 0 3 0 false),(G9.mk 4 ByteArray.empty 40 false 0 0 1 0 false),(G9.mk 5 ByteArray.empty 40 false 0 0 1 0 false),(G9.mk 6 ByteArray.empty 20 false 0 0 1 0 false),(G9.mk 7 ByteArray.empty 20 false 0 0 2 0 false)] [r6,r7,r8,r9,r10] 7) fun r16=>
 bnd (Qh F r3 [(G9.mk 1 ByteArray.empty 40 false 0 0 1 0 false),(G9.mk 2 ByteArray.empty 40 false 0 0 2 0 false),(G9.mk 3 ByteArray.empty 40 false 0 0 3 0 false),(G9.mk 4 ByteArray.empty 40 false 0 0 1 0 false),(G9.mk 5 ByteArray.empty 40 false 0 0 1 0 false),(G9.mk 6 ByteArray.empty 20 false 0 0 1 0 false),(G9.mk 7 ByteArray.empty 20 false 0 0 2 0 false)] [r6,r7,r8,r9,r10]) fun r18=>
 bnd (Qf F r3 [(G9.mk 1 ByteArray.empty 40 false 0 0 1 0 false),(G9.mk 2 ByteArray.empty 40 false 0 0 2 0 false),(G9.mk 3 ByteArray.empty 40 false 0 0 3 0 false),(G9.mk 4 ByteArray.empty 40 false 0 0 1 0 false),(G9.mk 5 ByteArray.empty 40 false 0 0 1 0 false),(G9.mk 6 ByteArray.empty 20 false 0 0 1 0 false),(G9.mk 7 ByteArray.empty 20 false 0 0 2 0 false)] [r6,r7,r8,r9,r10]) fun r20=>
 bnd (Jh F r3 [(G9.mk 1 ByteArray.empty 40 false 0 0 1 0 false),(G9.mk 2 ByteArray.empty 40 false 0 0 2 0 false),(G9.mk 3 ByteArray.empty 40 false 0 0 3 0 false),(G9.mk 4 ByteArray.empty 40 false 0 0 1 0 false),(G9.mk 5 ByteArray.empty 40 false 0 0 1 0 false),(G9.mk 6 ByteArray.empty 20 false 0 0 1 0 false),(G9.mk 7 ByteArray.empty 20 false 0 0 2 0 false)] [r6,r7,r8,r9,r10] 4) fun r22=>
 G0d (r12.2+r14.2) fun v25=>
 G0d (v25+r16.2) fun v26=>
 G0d (v26+r18.2) fun v27=>
 G0d (v27+r20.2.2.2) fun v28=>
 G0d (v28+r22.2.2) fun v29=>
 bnd (bif (!(decide (v29≠0))) then J8 r12.1 [1] else some default) fun r30=>
 bnd (bif (!((decide (v29≠0))||(!r30))) then J8 r14.1 [1,2,6,7] else some default) fun r31=>
 bnd (bif (!(((decide (v29≠0))||(!r30))||(!r31))) then J8 r16.1 [1] else some default) fun r32=>
 bnd (bif (!((((decide (v29≠0))||(!r30))||(!r31))||(!r32))) then J8 r18.1 [2,3,7] else some default) fun r33=>
 bif (((((decide (v29≠0))||(!r30))||(!r31))||(!r32))||(!r33)) then
 (some false)
 else
 (bnd (bif decide (r20.1=1) then J8 r20.2.1 [1,6] else some default) fun r36=>
  bnd (bif ((decide (r20.1=1))&&r36) then J8 r20.2.2.1 [2,3,7] else some default) fun r37=>
  bnd (bif ((((decide (r20.1=1))&&r36)&&r37)&&(decide (r22.2.1=0))) then G05 r22.1 [(Slot.mk 2 2 0),(Slot.mk 3 0 0),(Slot.mk 4 0 0)] else some default) fun r38=>
  some (((((decide (r20.1=1))&&r36)&&r37)&&(decide (r22.2.1=0)))&&r38))
theorem Qt (F:Nat)  (r:Bool) (h:J1 F =some r):Pure Ek 15 [] (·=BL r):=by
 unfold J1 at h
 refine H6 [.tmp 0] Tryz.func15 O O (Jr fun hK1=>(Yv (BL false) O (G7 (hK1 (Jr fun hK2=>?_)))))
 obtain⟨r3,hr3,h⟩:=Gd h
 refine JLh (.agg (Gp.cs r3)) (Gu O (Ge6  r3 hr3) Q09 G) O (JLh (.ptr 1040 0) (Hu 1040 13 G14 O O) O (Hw (u:=.junk) (Hj (u:=.agg (Gp.cs r3)) (ds:=(Gp.cs r3)) Z1 O O O O O O O O) (G7 (hK2 (Gt [(1,Ec r3)] [] 1040 rfl rfl rfl G rfl (by exact⟨.ptr,G⟩) ?_)))))
 refine Jr fun hK4=>(JLh (.agg [G0 1,ST ByteArray.empty,U8 40,BL false,G0 0,G0 0,G0 1,U8 0,BL false]) (Hz (cs:=[G0 1,ST ByteArray.empty,U8 40,BL false,G0 0,G0 0,G0 1,U8 0,BL false]) [(0,1),(1,1),(2,1),(3,1),(4,1),(5,1),(6,1),(7,1),(8,1)] [G0 0,ST ByteArray.empty,U8 0,BL false,G0 0,G0 0,G0 0,U8 0,BL false] [.int .i64 0,.string ByteArray.empty,.int .u8 0,.bool false,.int .i64 0,.int .i64 0,.int .i64 0,.int .u8 0,.bool false] Rx Z0 ⟨.inl O,.inl O,.inl O,.inl O,.inl O,.inl O,.inl O,.inl O,.inl O,G⟩ O O) O (JLh (.agg [G0 2,ST ByteArray.empty,U8 40,BL false,G0 0,G0 0,G0 2,U8 0,BL false]) (Hz (cs:=[G0 2,ST ByteArray.empty,U8 40,BL false,G0 0,G0 0,G0 2,U8 0,BL false]) [(0,1),(1,1),(2,1),(3,1),(4,1),(5,1),(6,1),(7,1),(8,1)] [G0 0,ST ByteArray.empty,U8 0,BL false,G0 0,G0 0,G0 0,U8 0,BL false] [.int .i64 0,.string ByteArray.empty,.int .u8 0,.bool false,.int .i64 0,.int .i64 0,.int .i64 0,.int .u8 0,.bool false] Rx Z0 ⟨.inl O,.inl O,.inl O,.inl O,.inl O,.inl O,.inl O,.inl O,.inl O,G⟩ O O) O (JLh (.agg [G0 3,ST ByteArray.empty,U8 40,BL false,G0 0,G0 0,G0 3,U8 0,BL false]) (Hz (cs:=[G0 3,ST ByteArray.empty,U8 40,BL false,G0 0,G0 0,G0 3,U8 0,BL false]) [(0,1),(1,1),(2,1),(3,1),(4,1),(5,1),(6,1),(7,1),(8,1)] [G0 0,ST ByteArray.empty,U8 0,BL false,G0 0,G0 0,G0 0,U8 0,BL false] [.int .i64 0,.string ByteArray.empty,.int .u8 0,.bool false,.int .i64 0,.int .i64 0,.int .i64 0,.int .u8 0,.bool false] Rx Z0 ⟨.inl O,.inl O,.inl O,.inl O,.inl O,.inl O,.inl O,.inl O,.inl O,G⟩ O O) O (JLh (.agg [G0 4,ST ByteArray.empty,U8 40,BL false,G0 0,G0 0,G0 1,U8 0,BL false]) (Hz (cs:=[G0 4,ST ByteArray.empty,U8 40,BL false,G0 0,G0 0,G0 1,U8 0,BL false]) [(0,1),(1,1),(2,1),(3,1),(4,1),(5,1),(6,1),(7,1),(8,1)] [G0 0,ST ByteArray.empty,U8 0,BL false,G0 0,G0 0,G0 0,U8 0,BL false] [.int .i64 0,.string ByteArray.empty,.int .u8 0,.bool false,.int .i64 0,.int .i64 0,.int .i64 0,.int .u8 0,.bool false] Rx Z0 ⟨.inl O,.inl O,.inl O,.inl O,.inl O,.inl O,.inl O,.inl O,.inl O,G⟩ O O) O (JLh (.agg [G0 5,ST ByteArray.empty,U8 40,BL false,G0 0,G0 0,G0 1,U8 0,BL false]) (Hz (cs:=[G0 5,ST ByteArray.empty,U8 40,BL false,G0 0,G0 0,G0 1,U8 0,BL false]) [(0,1),(1,1),(2,1),(3,1),(4,1),(5,1),(6,1),(7,1),(8,1)] [G0 0,ST ByteArray.empty,U8 0,BL false,G0 0,G0 0,G0 0,U8 0,BL false] [.int .i64 0,.string ByteArray.empty,.int .u8 0,.bool false,.int .i64 0,.int .i64 0,.int .i64 0,.int .u8 0,.bool false] Rx Z0 ⟨.inl O,.inl O,.inl O,.inl O,.inl O,.inl O,.inl O,.inl O,.inl O,G⟩ O O) O (JLh (.agg [G0 6,ST ByteArray.empty,U8 20,BL false,G0 0,G0 0,G0 1,U8 0,BL false]) (Hz (cs:=[G0 6,ST ByteArray.empty,U8 20,BL false,G0 0,G0 0,G0 1,U8 0,BL false]) [(0,1),(1,1),(2,1),(3,1),(4,1),(5,1),(6,1),(7,1),(8,1)] [G0 0,ST ByteArray.empty,U8 0,BL false,G0 0,G0 0,G0 0,U8 0,BL false] [.int .i64 0,.string ByteArray.empty,.int .u8 0,.bool false,.int .i64 0,.int .i64 0,.int .i64 0,.int .u8 0,.bool false] Rx Z0 ⟨.inl O,.inl O,.inl O,.inl O,.inl O,.inl O,.inl O,.inl O,.inl O,G⟩ O O) O (JLh (.agg [G0 7,ST ByteArray.empty,U8 20,BL false,G0 0,G0 0,G0 2,U8 0,BL false]) (Hz (cs:=[G0 7,ST ByteArray.empty,U8 20,BL false,G0 0,G0 0,G0 2,U8 0,BL false]) [(0,1),(1,1),(2,1),(3,1),(4,1),(5,1),(6,1),(7,1),(8,1)] [G0 0,ST ByteArray.empty,U8 0,BL false,G0 0,G0 0,G0 0,U8 0,BL false] [.int .i64 0,.string ByteArray.empty,.int .u8 0,.bool false,.int .i64 0,.int .i64 0,.int .i64 0,.int .u8 0,.bool false] Rx Z0 ⟨.inl O,.inl O,.inl O,.inl O,.inl O,.inl O,.inl O,.inl O,.inl O,G⟩ O O) O (JLh (E2 [(G9.mk 1 ByteArray.empty 40 false 0 0 1 0 false),(G9.mk 2 ByteArray.empty 40 false 0 0 2 0 false),(G9.mk 3 ByteArray.empty 40 false 0 0 3 0 false),(G9.mk 4 ByteArray.empty 40 false 0 0 1 0 false),(G9.mk 5 ByteArray.empty 40 false 0 0 1 0 false),(G9.mk 6 ByteArray.empty 20 false 0 0 1 0 false),(G9.mk 7 ByteArray.empty 20 false 0 0 2 0 false)]) (H9 (xs:=[.agg [G0 1,ST ByteArray.empty,U8 40,BL false,G0 0,G0 0,G0 1,U8 0,BL false],.agg [G0 2,ST ByteArray.empty,U8 40,BL false,G0 0,G0 0,G0 2,U8 0,BL false],.agg [G0 3,ST ByteArray.empty,U8 40,BL false,G0 0,G0 0,G0 3,U8 0,BL false],.agg [G0 4,ST ByteArray.empty,U8 40,BL false,G0 0,G0 0,G0 1,U8 0,BL false],.agg [G0 5,ST ByteArray.empty,U8 40,BL false,G0 0,G0 0,G0 1,U8 0,BL false],.agg [G0 6,ST ByteArray.empty,U8 20,BL false,G0 0,G0 0,G0 1,U8 0,BL false],.agg [G0 7,ST ByteArray.empty,U8 20,BL false,G0 0,G0 0,G0 2,U8 0,BL false]]) O ⟨O,O,O,O,O,O,O,O,O,O,O,O,O,O,G⟩ Qb Y5 O O O O) O (Yv (E2 [(G9.mk 1 ByteArray.empty 40 false 0 0 1 0 false),(G9.mk 2 ByteArray.empty 40 false 0 0 2 0 false),(G9.mk 3 ByteArray.empty 40 false 0 0 3 0 false),(G9.mk 4 ByteArray.empty 40 false 0 0 1 0 false),(G9.mk 5 ByteArray.empty 40 false 0 0 1 0 false),(G9.mk 6 ByteArray.empty 20 false 0 0 1 0 false),(G9.mk 7 ByteArray.empty 20 false 0 0 2 0 false)]) O (G7 (hK4 ?_)))))))))))
 refine Jr fun hK5=>?_
 obtain⟨r6,hr6,h⟩:=Gd h
 refine JLh (.agg (Stowed.cs r6)) (Gu O (Yb 1 0 0 0 r6 hr6) Gd3 ⟨O,O,O,O,O,O,O,O,G⟩) O ?_
 obtain⟨r7,hr7,h⟩:=Gd h
 refine JLh (.agg (Stowed.cs r7)) (Gu O (Yb 2 0 1 0 r7 hr7) Gd3 ⟨O,O,O,O,O,O,O,O,G⟩) O ?_
 obtain⟨r8,hr8,h⟩:=Gd h
 refine JLh (.agg (Stowed.cs r8)) (Gu O (Yb 3 2 1 0 r8 hr8) Gd3 ⟨O,O,O,O,O,O,O,O,G⟩) O ?_
 obtain⟨r9,hr9,h⟩:=Gd h
 refine JLh (.agg (Stowed.cs r9)) (Gu O (Yb 6 2 0 1 r9 hr9) Gd3 ⟨O,O,O,O,O,O,O,O,G⟩) O ?_
 obtain⟨r10,hr10,h⟩:=Gd h
 refine JLh (.agg (Stowed.cs r10)) (Gu O (Yb 7 2 0 2 r10 hr10) Gd3 ⟨O,O,O,O,O,O,O,O,G⟩) O (JLh (E1 [r6,r7,r8,r9,r10]) (H9 (xs:=[.agg (Stowed.cs r6),.agg (Stowed.cs r7),.agg (Stowed.cs r8),.agg (Stowed.cs r9),.agg (Stowed.cs r10)]) O ⟨O,O,O,O,O,O,O,O,O,O,G⟩ H2 Jx O O O O) O (Yv (E1 [r6,r7,r8,r9,r10]) O (G7 (hK5 ?_))))
 refine Jr fun hK11=>(JLh (.agg (Gp.cs r3)) (Gh H5 O O O) O (Yv (E2 [(G9.mk 1 ByteArray.empty 40 false 0 0 1 0 false),(G9.mk 2 ByteArray.empty 40 false 0 0 2 0 false),(G9.mk 3 ByteArray.empty 40 false 0 0 3 0 false),(G9.mk 4 ByteArray.empty 40 false 0 0 1 0 false),(G9.mk 5 ByteArray.empty 40 false 0 0 1 0 false),(G9.mk 6 ByteArray.empty 20 false 0 0 1 0 false),(G9.mk 7 ByteArray.empty 20 false 0 0 2 0 false)]) O (Yv (E1 [r6,r7,r8,r9,r10]) O ?_)))
 obtain⟨r12,hr12,h⟩:=Gd h
 refine JLh (.tup [E0 r12.1,G0 r12.2]) (Gu O (Q6 F r3 [(G9.mk 1 ByteArray.empty 40 false 0 0 1 0 false),(G9.mk 2 ByteArray.empty 40 false 0 0 2 0 false),(G9.mk 3 ByteArray.empty 40 false 0 0 3 0 false),(G9.mk 4 ByteArray.empty 40 false 0 0 1 0 false),(G9.mk 5 ByteArray.empty 40 false 0 0 1 0 false),(G9.mk 6 ByteArray.empty 20 false 0 0 1 0 false),(G9.mk 7 ByteArray.empty 20 false 0 0 2 0 false)] [r6,r7,r8,r9,r10] 2 r12 hr12) Zg ⟨O,O,O,O,O,O,O,O,G⟩) O (Yv (.tup [E0 r12.1,G0 r12.2]) O (JLh (E0 r12.1) (Gn O O O) O (JLh (G0 r12.2) (Gn O O O) O (Yv (E0 r12.1) O (Yv (G0 r12.2) O (G7 (hK11 ?_)))))))
 refine Jr fun hK13=>(JLh (.agg (Gp.cs r3)) (Gh H5 O O O) O (Yv (E2 [(G9.mk 1 ByteArray.empty 40 false 0 0 1 0 false),(G9.mk 2 ByteArray.empty 40 false 0 0 2 0 false),(G9.mk 3 ByteArray.empty 40 false 0 0 3 0 false),(G9.mk 4 ByteArray.empty 40 false 0 0 1 0 false),(G9.mk 5 ByteArray.empty 40 false 0 0 1 0 false),(G9.mk 6 ByteArray.empty 20 false 0 0 1 0 false),(G9.mk 7 ByteArray.empty 20 false 0 0 2 0 false)]) O (Yv (E1 [r6,r7,r8,r9,r10]) O ?_)))
 obtain⟨r14,hr14,h⟩:=Gd h
 refine JLh (.tup [E0 r14.1,G0 r14.2]) (Gu O (Q6 F r3 [(G9.mk 1 ByteArray.empty 40 false 0 0 1 0 false),(G9.mk 2 ByteArray.empty 40 false 0 0 2 0 false),(G9.mk 3 ByteArray.empty 40 false 0 0 3 0 false),(G9.mk 4 ByteArray.empty 40 false 0 0 1 0 false),(G9.mk 5 ByteArray.empty 40 false 0 0 1 0 false),(G9.mk 6 ByteArray.empty 20 false 0 0 1 0 false),(G9.mk 7 ByteArray.empty 20 false 0 0 2 0 false)] [r6,r7,r8,r9,r10] 3 r14 hr14) Zg ⟨O,O,O,O,O,O,O,O,G⟩) O (Yv (.tup [E0 r14.1,G0 r14.2]) O (JLh (E0 r14.1) (Gn O O O) O (JLh (G0 r14.2) (Gn O O O) O (Yv (E0 r14.1) O (Yv (G0 r14.2) O (G7 (hK13 ?_)))))))
 refine Jr fun hK15=>(JLh (.agg (Gp.cs r3)) (Gh H5 O O O) O (Yv (E2 [(G9.mk 1 ByteArray.empty 40 false 0 0 1 0 false),(G9.mk 2 ByteArray.empty 40 false 0 0 2 0 false),(G9.mk 3 ByteArray.empty 40 false 0 0 3 0 false),(G9.mk 4 ByteArray.empty 40 false 0 0 1 0 false),(G9.mk 5 ByteArray.empty 40 false 0 0 1 0 false),(G9.mk 6 ByteArray.empty 20 false 0 0 1 0 false),(G9.mk 7 ByteArray.empty 20 false 0 0 2 0 false)]) O (Yv (E1 [r6,r7,r8,r9,r10]) O ?_)))
 obtain⟨r16,hr16,h⟩:=Gd h
 refine JLh (.tup [E0 r16.1,G0 r16.2]) (Gu O (Q6 F r3 [(G9.mk 1 ByteArray.empty 40 false 0 0 1 0 false),(G9.mk 2 ByteArray.empty 40 false 0 0 2 0 false),(G9.mk 3 ByteArray.empty 40 false 0 0 3 0 false),(G9.mk 4 ByteArray.empty 40 false 0 0 1 0 false),(G9.mk 5 ByteArray.empty 40 false 0 0 1 0 false),(G9.mk 6 ByteArray.empty 20 false 0 0 1 0 false),(G9.mk 7 ByteArray.empty 20 false 0 0 2 0 false)] [r6,r7,r8,r9,r10] 7 r16 hr16) Zg ⟨O,O,O,O,O,O,O,O,G⟩) O (Yv (.tup [E0 r16.1,G0 r16.2]) O (JLh (E0 r16.1) (Gn O O O) O (JLh (G0 r16.2) (Gn O O O) O (Yv (E0 r16.1) O (Yv (G0 r16.2) O (G7 (hK15 ?_)))))))
 refine Jr fun hK17=>(JLh (.agg (Gp.cs r3)) (Gh H5 O O O) O (Yv (E2 [(G9.mk 1 ByteArray.empty 40 false 0 0 1 0 false),(G9.mk 2 ByteArray.empty 40 false 0 0 2 0 false),(G9.mk 3 ByteArray.empty 40 false 0 0 3 0 false),(G9.mk 4 ByteArray.empty 40 false 0 0 1 0 false),(G9.mk 5 ByteArray.empty 40 false 0 0 1 0 false),(G9.mk 6 ByteArray.empty 20 false 0 0 1 0 false),(G9.mk 7 ByteArray.empty 20 false 0 0 2 0 false)]) O (Yv (E1 [r6,r7,r8,r9,r10]) O ?_)))
 obtain⟨r18,hr18,h⟩:=Gd h
 refine JLh (.tup [E0 r18.1,G0 r18.2]) (Gu O (G1d.down F r3 [(G9.mk 1 ByteArray.empty 40 false 0 0 1 0 false),(G9.mk 2 ByteArray.empty 40 false 0 0 2 0 false),(G9.mk 3 ByteArray.empty 40 false 0 0 3 0 false),(G9.mk 4 ByteArray.empty 40 false 0 0 1 0 false),(G9.mk 5 ByteArray.empty 40 false 0 0 1 0 false),(G9.mk 6 ByteArray.empty 20 false 0 0 1 0 false),(G9.mk 7 ByteArray.empty 20 false 0 0 2 0 false)] [r6,r7,r8,r9,r10] r18 hr18) H6a ⟨O,O,O,O,O,O,G⟩) O (Yv (.tup [E0 r18.1,G0 r18.2]) O (JLh (E0 r18.1) (Gn O O O) O (JLh (G0 r18.2) (Gn O O O) O (Yv (E0 r18.1) O (Yv (G0 r18.2) O (G7 (hK17 ?_)))))))
 refine Jr fun hK19=>(JLh (.agg (Gp.cs r3)) (Gh H5 O O O) O (Yv (E2 [(G9.mk 1 ByteArray.empty 40 false 0 0 1 0 false),(G9.mk 2 ByteArray.empty 40 false 0 0 2 0 false),(G9.mk 3 ByteArray.empty 40 false 0 0 3 0 false),(G9.mk 4 ByteArray.empty 40 false 0 0 1 0 false),(G9.mk 5 ByteArray.empty 40 false 0 0 1 0 false),(G9.mk 6 ByteArray.empty 20 false 0 0 1 0 false),(G9.mk 7 ByteArray.empty 20 false 0 0 2 0 false)]) O (Yv (E1 [r6,r7,r8,r9,r10]) O ?_)))
 obtain⟨r20,hr20,h⟩:=Gd h
 refine JLh (.tup [G0 r20.1,E0 r20.2.1,E0 r20.2.2.1,G0 r20.2.2.2]) (Gu O (G32 F r3 [(G9.mk 1 ByteArray.empty 40 false 0 0 1 0 false),(G9.mk 2 ByteArray.empty 40 false 0 0 2 0 false),(G9.mk 3 ByteArray.empty 40 false 0 0 3 0 false),(G9.mk 4 ByteArray.empty 40 false 0 0 1 0 false),(G9.mk 5 ByteArray.empty 40 false 0 0 1 0 false),(G9.mk 6 ByteArray.empty 20 false 0 0 1 0 false),(G9.mk 7 ByteArray.empty 20 false 0 0 2 0 false)] [r6,r7,r8,r9,r10] r20 hr20) H21 ⟨O,O,O,O,O,O,G⟩) O (Yv (.tup [G0 r20.1,E0 r20.2.1,E0 r20.2.2.1,G0 r20.2.2.2]) O (JLh (G0 r20.1) (Gn O O O) O (JLh (E0 r20.2.1) (Gn O O O) O (JLh (E0 r20.2.2.1) (Gn O O O) O (JLh (G0 r20.2.2.2) (Gn O O O) O (Yv (G0 r20.1) O (Yv (E0 r20.2.1) O (Yv (E0 r20.2.2.1) O (Yv (G0 r20.2.2.2) O (G7 (hK19 ?_)))))))))))
 refine Jr fun hK21=>(JLh (.agg (Gp.cs r3)) (Gh H5 O O O) O (Yv (E2 [(G9.mk 1 ByteArray.empty 40 false 0 0 1 0 false),(G9.mk 2 ByteArray.empty 40 false 0 0 2 0 false),(G9.mk 3 ByteArray.empty 40 false 0 0 3 0 false),(G9.mk 4 ByteArray.empty 40 false 0 0 1 0 false),(G9.mk 5 ByteArray.empty 40 false 0 0 1 0 false),(G9.mk 6 ByteArray.empty 20 false 0 0 1 0 false),(G9.mk 7 ByteArray.empty 20 false 0 0 2 0 false)]) O (Yv (E1 [r6,r7,r8,r9,r10]) O ?_)))
 obtain⟨r22,hr22,h⟩:=Gd h
 refine JLh (.tup [E4 r22.1,G0 r22.2.1,G0 r22.2.2]) (Gu O (Zf F r3 [(G9.mk 1 ByteArray.empty 40 false 0 0 1 0 false),(G9.mk 2 ByteArray.empty 40 false 0 0 2 0 false),(G9.mk 3 ByteArray.empty 40 false 0 0 3 0 false),(G9.mk 4 ByteArray.empty 40 false 0 0 1 0 false),(G9.mk 5 ByteArray.empty 40 false 0 0 1 0 false),(G9.mk 6 ByteArray.empty 20 false 0 0 1 0 false),(G9.mk 7 ByteArray.empty 20 false 0 0 2 0 false)] [r6,r7,r8,r9,r10] 4 r22 hr22) G94 ⟨O,O,O,O,O,O,O,O,G⟩) O (Yv (.tup [E4 r22.1,G0 r22.2.1,G0 r22.2.2]) O (JLh (E4 r22.1) (Gn O O O) O (JLh (G0 r22.2.1) (Gn O O O) O (JLh (G0 r22.2.2) (Gn O O O) O (Yv (E4 r22.1) O (Yv (G0 r22.2.1) O (Yv (G0 r22.2.2) O (G7 (hK21 (Js fun hK23=>Jr fun hK24=>(Yv (G0 r12.2) O (Yv (G0 r14.2) O ?_))))))))))))
 obtain⟨v25,hv25,h⟩:=Jp h
 refine JLh (G0 v25) (Hx hv25 O O O) O (Yv (G0 r16.2) O ?_)
 obtain⟨v26,hv26,h⟩:=Jp h
 refine JLh (G0 v26) (Hx hv26 O O O) O (Yv (G0 r18.2) O ?_)
 obtain⟨v27,hv27,h⟩:=Jp h
 refine JLh (G0 v27) (Hx hv27 O O O) O (Yv (G0 r20.2.2.2) O ?_)
 obtain⟨v28,hv28,h⟩:=Jp h
 refine JLh (G0 v28) (Hx hv28 O O O) O (Yv (G0 r22.2.2) O ?_)
 obtain⟨v29,hv29,h⟩:=Jp h
 refine JLh (G0 v29) (Hx hv29 O O O) O (JLh (BL (decide (v29≠0))) (Zy O O O) O (Yv (BL (decide (v29≠0))) O (JLo (E0 r12.1) [] O .scf G (fun hc=>G5 O O) O (JLo (E0 [1]) [] O .scf G (fun hc=>H9 (xs:=[G0 1]) O ⟨O,O,G⟩ Gq Q1 O O O O) O ?_))))
 obtain⟨r30,hr30,h⟩:=Gd h
 refine JLo (BL r30) [92,93] O .scf ⟨Ua,Ua,G⟩ (fun hc=>Gu (args:=[E0 r12.1,E0 [1]]) O (Q4 r12.1 [1] r30 (H4 hc hr30)) G6c ⟨O,O,O,O,G⟩) O (JLo (BL (!r30)) [94] O .scf ⟨Ua,G⟩ (fun hc=>Ru (b:=r30) O O) O (JLh (BL ((decide (v29≠0))||(!r30))) (Zn O O O O) O (Yv (BL ((decide (v29≠0))||(!r30))) O (JLo (E0 r14.1) [] O .scf G (fun hc=>G5 O O) O (JLo (E0 [1,2,6,7]) [] O .scf G (fun hc=>H9 (xs:=[G0 1,G0 2,G0 6,G0 7]) O ⟨O,O,O,O,O,O,O,O,G⟩ Gq Q1 O O O O) O ?_)))))
 obtain⟨r31,hr31,h⟩:=Gd h
 refine JLo (BL r31) [98,99] O .scf ⟨Ua,Ua,G⟩ (fun hc=>Gu (args:=[E0 r14.1,E0 [1,2,6,7]]) O (Q4 r14.1 [1,2,6,7] r31 (H4 hc hr31)) G6c ⟨O,O,O,O,G⟩) O (JLo (BL (!r31)) [100] O .scf ⟨Ua,G⟩ (fun hc=>Ru (b:=r31) O O) O (JLh (BL (((decide (v29≠0))||(!r30))||(!r31))) (Zn O O O O) O (Yv (BL (((decide (v29≠0))||(!r30))||(!r31))) O (JLo (E0 r16.1) [] O .scf G (fun hc=>G5 O O) O (JLo (E0 [1]) [] O .scf G (fun hc=>H9 (xs:=[G0 1]) O ⟨O,O,G⟩ Gq Q1 O O O O) O ?_)))))
 obtain⟨r32,hr32,h⟩:=Gd h
 refine JLo (BL r32) [104,105] O .scf ⟨Ua,Ua,G⟩ (fun hc=>Gu (args:=[E0 r16.1,E0 [1]]) O (Q4 r16.1 [1] r32 (H4 hc hr32)) G6c ⟨O,O,O,O,G⟩) O (JLo (BL (!r32)) [106] O .scf ⟨Ua,G⟩ (fun hc=>Ru (b:=r32) O O) O (JLh (BL ((((decide (v29≠0))||(!r30))||(!r31))||(!r32))) (Zn O O O O) O (Yv (BL ((((decide (v29≠0))||(!r30))||(!r31))||(!r32))) O (JLo (E0 r18.1) [] O .scf G (fun hc=>G5 O O) O (JLo (E0 [2,3,7]) [] O .scf G (fun hc=>H9 (xs:=[G0 2,G0 3,G0 7]) O ⟨O,O,O,O,O,O,G⟩ Gq Q1 O O O O) O ?_)))))
 obtain⟨r33,hr33,h⟩:=Gd h
 refine JLo (BL r33) [110,111] O .scf ⟨Ua,Ua,G⟩ (fun hc=>Gu (args:=[E0 r18.1,E0 [2,3,7]]) O (Q4 r18.1 [2,3,7] r33 (H4 hc hr33)) G6c ⟨O,O,O,O,G⟩) O (JLo (BL (!r33)) [112] O .scf ⟨Ua,G⟩ (fun hc=>Ru (b:=r33) O O) O (JLh (BL (((((decide (v29≠0))||(!r30))||(!r31))||(!r32))||(!r33))) (Zn O O O O) O (G7 (hK24 (JCc O h (fun h hb=>?_) (fun h hb=>?_))))))
 ·
  refine Jr fun hK34=>(Yv (BL false) O (G7 (hK34 (Gx (fin1 BL h)))))
 ·
  refine Gr (hK23 (Jr fun hK35=>(Yv (G0 r20.1) O (JLh (BL (decide (r20.1=1))) (Q0 O O O) O (Yv (BL (decide (r20.1=1))) O (JLo (E0 r20.2.1) [] O .sct G (fun hc=>G5 O O) O (JLo (E0 [1,6]) [] O .sct G (fun hc=>H9 (xs:=[G0 1,G0 6]) O ⟨O,O,O,O,G⟩ Gq Q1 O O O O) O ?_)))))))
  obtain⟨r36,hr36,h⟩:=Gd h
  refine JLo (BL r36) [118,119] O .sct ⟨Ua,Ua,G⟩ (fun hc=>Gu (args:=[E0 r20.2.1,E0 [1,6]]) O (Q4 r20.2.1 [1,6] r36 (H4 hc hr36)) G6c ⟨O,O,O,O,G⟩) O (JLh (BL ((decide (r20.1=1))&&r36)) (Qd O O O O) O (Yv (BL ((decide (r20.1=1))&&r36)) O (JLo (E0 r20.2.2.1) [] O .sct G (fun hc=>G5 O O) O (JLo (E0 [2,3,7]) [] O .sct G (fun hc=>H9 (xs:=[G0 2,G0 3,G0 7]) O ⟨O,O,O,O,O,O,G⟩ Gq Q1 O O O O) O ?_))))
  obtain⟨r37,hr37,h⟩:=Gd h
  refine JLo (BL r37) [123,124] O .sct ⟨Ua,Ua,G⟩ (fun hc=>Gu (args:=[E0 r20.2.2.1,E0 [2,3,7]]) O (Q4 r20.2.2.1 [2,3,7] r37 (H4 hc hr37)) G6c ⟨O,O,O,O,G⟩) O (JLh (BL (((decide (r20.1=1))&&r36)&&r37)) (Qd O O O O) O (Yv (BL (((decide (r20.1=1))&&r36)&&r37)) O (JLo (G0 r22.2.1) [] O .sct G (fun hc=>G5 O O) O (JLo (BL (decide (r22.2.1=0))) [128] O .sct ⟨Ua,G⟩ (fun hc=>Q0 O O O) O (JLh (BL ((((decide (r20.1=1))&&r36)&&r37)&&(decide (r22.2.1=0)))) (Qd O O O O) O (Yv (BL ((((decide (r20.1=1))&&r36)&&r37)&&(decide (r22.2.1=0)))) O (JLo (E4 r22.1) [] O .sct G (fun hc=>G5 O O) O (JLo (.agg [G0 2,G0 2,U8 0]) [] O .sct G (fun hc=>Hz (cs:=[G0 2,G0 2,U8 0]) [(0,1),(1,1),(2,1)] [G0 0,G0 0,U8 0] [.int .i64 0,.int .i64 0,.int .u8 0] G1b G6a ⟨.inl O,.inl O,.inl O,G⟩ O O) O (JLo (.agg [G0 3,G0 0,U8 0]) [] O .sct G (fun hc=>Hz (cs:=[G0 3,G0 0,U8 0]) [(0,1),(1,1),(2,1)] [G0 0,G0 0,U8 0] [.int .i64 0,.int .i64 0,.int .u8 0] G1b G6a ⟨.inl O,.inl O,.inl O,G⟩ O O) O (JLo (.agg [G0 4,G0 0,U8 0]) [] O .sct G (fun hc=>Hz (cs:=[G0 4,G0 0,U8 0]) [(0,1),(1,1),(2,1)] [G0 0,G0 0,U8 0] [.int .i64 0,.int .i64 0,.int .u8 0] G1b G6a ⟨.inl O,.inl O,.inl O,G⟩ O O) O (JLo (E4 [(Slot.mk 2 2 0),(Slot.mk 3 0 0),(Slot.mk 4 0 0)]) [133,134,135] O .sct ⟨Ua,Ua,Ua,G⟩ (fun hc=>H9 (xs:=[.agg [G0 2,G0 2,U8 0],.agg [G0 3,G0 0,U8 0],.agg [G0 4,G0 0,U8 0]]) O ⟨O,O,O,O,O,O,G⟩ J2 Y6 O O O O) O ?_)))))))))))
  obtain⟨r38,hr38,h⟩:=Gd h
  refine JLo (BL r38) [132,136] O .sct ⟨Ua,Ua,G⟩ (fun hc=>Gu (args:=[E4 r22.1,E4 [(Slot.mk 2 2 0),(Slot.mk 3 0 0),(Slot.mk 4 0 0)]]) O (Ge7 r22.1 [(Slot.mk 2 2 0),(Slot.mk 3 0 0),(Slot.mk 4 0 0)] r38 (H4 hc hr38)) Q08 ⟨O,O,O,O,G⟩) O (JLh (BL (((((decide (r20.1=1))&&r36)&&r37)&&(decide (r22.2.1=0)))&&r38)) (Qd O O O O) O (Yv (BL (((((decide (r20.1=1))&&r36)&&r37)&&(decide (r22.2.1=0)))&&r38)) O (G7 (hK35 (Gx (fin1 BL h))))))

end
end Go.Proofs.YtpgkkengffpnpaaGreat
