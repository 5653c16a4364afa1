/-
 Models of functions of the program,and that they return what the models say.
-/
import Derived.Test.YtpgkkengffpnpaaGreatXB
set_option linter.unnecessarySimpa false
set_option maxRecDepth 100000
set_option maxHeartbeats 1000000
set_option linter.unusedVariables false
set_option linter.unusedSimpArgs false
namespace Go.Proofs.YtpgkkengffpnpaaGreat
open Go.RowKit
noncomputable section
structure J4 where
 e0:Int
 e1:Int
 deriving DecidableEq,Inhabited
def J4.cs (x:J4):List AV:=[G0 x.e0,G0 x.e1]
def J4.av (x:J4):AV:=.agg x.cs
def J4.ks (x:J4):List Value:=[.int .i64 x.e0,.int .i64 x.e1]
def J4.kv (x:J4):Value:=.agg x.ks.toArray
namespace XPF
open XAF
open XCF
open XGF
open XHF
open XBF
theorem H16:Hk Ek 10=true:=by kernel_rfl
theorem Zc:Hk Ek 11=true:=by kernel_rfl
theorem G8d:Hk Ek 13=true:=by kernel_rfl
theorem G8c:Hk Ek 15=true:=by kernel_rfl
theorem G8b:Hk Ek 16=true:=by kernel_rfl
theorem G64:Hk Ek 18=true:=by kernel_rfl
theorem J51:Hk Ek 21=true:=by kernel_rfl
theorem J50:Hk Ek 22=true:=by kernel_rfl
theorem J4e:Hk Ek 26=true:=by kernel_rfl
theorem J4d:Hk Ek 27=true:=by kernel_rfl
theorem Jf7:Hk Ek 35=true:=by kernel_rfl
theorem Gcb:Hk Ek 36=true:=by kernel_rfl
theorem Jf6:Hk Ek 37=true:=by kernel_rfl
theorem Jf5:Hk Ek 38=true:=by kernel_rfl
theorem Jea:Hk Ek 60=true:=by kernel_rfl
theorem Je9:Hk Ek 61=true:=by kernel_rfl
theorem Je3:Hk Ek 72=true:=by kernel_rfl
theorem H02:Hk Ek 8=true:=by kernel_rfl
theorem H5c:Hk Ek 9=true:=by kernel_rfl
theorem H76:Jp Ek 61 4 4=true:=by kernel_rfl
theorem Jb0:placesOf Ek 35=some [(0,1),(1,1),(2,4),(6,1),(7,1),(8,1),(9,4)]:=by kernel_rfl
theorem G0d:R7 Ek 35 13=true:=by kernel_rfl
end XPF
open XAF
open XCF
open XGF
open XHF
open XBF
open XPF

def Je (l:List Gx) (covers:Int) (drops:List Gk) (most:Int):Option (Gr×(List G9)×(List Stowed)):=
 bnd (Rt l covers) fun r3=>
 bnd (Re r3 drops most) fun r5=>
 each (fun y41 i41 (s41:(List G9)) nx41=>
  Z2 s41 (i41:Int) fun y46=>
  bnd (quo64 y46.Kilos 100) fun v47=>
  bnd (H7a v47 4) fun v48=>
  G0b (1+v48) fun v49=>
  Z2 s41 (i41:Int) fun y50=>
  nx41 (s41.set (i41:Int).toNat (G9.mk y50.ID y50.Number y50.Size y50.High y50.Kilos y50.Load v49 y50.Class y50.Reefer)))
 (fun(s41:(List G9))=>
  some (r3,s41,r5.2)) r5.1 0 r5.1
theorem G07 (l:List Gx) (covers:Int) (drops:List Gk) (most:Int) (r:Gr×(List G9)×(List Stowed)) (h:Je l covers drops most=some r):Pure Ek 8 [Eb l,.sc (.int .u32 covers),Ea drops,G0 most] (·=.tup [.agg (Gr.cs r.1),E2 r.2.1,E1 r.2.2]):=by
 unfold Je at h
 refine H5 [.cell 8 35,.tmp 9,.tmp 10] Tryz.func8 O O (Jr fun hK1=>(JLh (.ptr 1021 0) (G87 1021 [E3 ([]:List G4),E4 ([]:List Ga),G0 0,G0 0,G0 0,G0 0,E5 ([]:List Row),E6 ([]:List Frame),E7 ([]:List Gj),G0 0,G0 0,G0 0,G0 0] [.slice none 0 0,.slice none 0 0,.int .i64 0,.int .i64 0,.int .i64 0,.int .i64 0,.slice none 0 0,.slice none 0 0,.slice none 0 0,.int .i64 0,.int .i64 0,.int .i64 0,.int .i64 0] G89 ⟨.inr ⟨_,O,O⟩,.inr ⟨_,O,O⟩,.inl O,.inl O,.inl O,.inl O,.inr ⟨_,O,O⟩,.inr ⟨_,O,O⟩,.inr ⟨_,O,O⟩,.inl O,.inl O,.inl O,.inl O,G⟩ O O) O (JLh (E2 ([]:List G9)) (He 9 O O) O (JLh (E1 ([]:List Stowed)) (He 4 O O) O (G7 (hK1 ?_))))))
 refine Jr fun hK2=>(Ys (Eb l) O (Ys (.sc (.int .u32 covers)) O ?_))
 obtain⟨r3,hr3,h⟩:=Gd h
 refine JLh (.agg (Gr.cs r3)) (Gt O (G59 l covers r3 hr3) J51 ⟨O,O,O,O,G⟩) O (JLh (.ptr 1023 0) (Hu 1023 13 G0d O O) O (Hw (u:=.junk) (Hj (u:=.agg (Gr.cs r3)) (ds:=(Gr.cs r3)) Yy O O O O O O O O) (G7 (hK2 ?_))))
 refine Gs [(2,Ea drops),(3,G0 most),(8,.ptr 1021 0),(11,Ec r3)] [(1021,.box 35 [E3 ([]:List G4),E4 ([]:List Ga),G0 0,G0 0,G0 0,G0 0,E5 ([]:List Row),E6 ([]:List Frame),E7 ([]:List Gj),G0 0,G0 0,G0 0,G0 0])] 1023 rfl rfl rfl ⟨⟨_,rfl,.boxEq rfl rfl⟩,G⟩ rfl (by repeat' (first | exact .ptr | constructor)) (Jr fun hK4=>(JLh (.agg (Gr.cs r3)) (Gg H4 O O O) O (Ys (Ea drops) O (Ys (G0 most) O ?_))))
 obtain⟨r5,hr5,h⟩:=Gd h
 refine G60 O O O (Hd6 (args:=[.agg (Gr.cs r3),Ea drops,G0 most]) (L0:=[]) (u:=fun p=>.tup [.vec 1063 p 9 r5.1.length,E1 r5.2]) (Lr:=fun p=>[(1063,.vec 61 9 p (r5.1.map G9.av))]) O (G4e r3 drops most r5 hr5) J50 ⟨.inl O,O,.inl O,O,.inl O,O,G⟩ G O (fun _=>O)) ?_
 rintro u_ L_ ⟨v6,rfl,rfl⟩
 refine Ys (.tup [.vec 1063 v6 9 r5.1.length,E1 r5.2]) O (JLh (.vec 1063 v6 9 r5.1.length) (Gn O O O) O (JLh (E1 r5.2) (Gn O O O) O (Ys (.vec 1063 v6 9 r5.1.length) O (Ys (E1 r5.2) O (G7 (hK4 (Js fun hK7=>Jr fun hK8=>(Ys (.vec 1063 v6 9 r5.1.length) O (Jca (f:=G9.av) (xs:=r5.1) Q7 O O O (fun hm26=>?_) O O O)))))))))
 refine Ys (G0 0) O (G7 (hK8 (Gv ?_)))
 obtain⟨b41,kx41,hb41,hkx41,h⟩:=J0 h
 refine Hp (fun i41 (s41:(List G9))=>each b41 kx41 (List.drop i41 r5.1) i41 s41=some r) (fun i41 s41=>[(8,.ptr 1021 0),(11,Ec r3),(12,.vec 1063 v6 9 r5.1.length),(13,E1 r5.2),(26,Ej r5.1.length),(27,Ej i41)]) (fun i41 s41=>[(1063,.vec 61 9 v6 (s41.map G9.av)),(1021,.box 35 [E3 ([]:List G4),E4 ([]:List Ga),G0 0,G0 0,G0 0,G0 0,E5 ([]:List Row),E6 ([]:List Frame),E7 ([]:List Gj),G0 0,G0 0,G0 0,G0 0])]) (fun i41=>r5.1.length - i41) 0 r5.1 h ⟨(by repeat' constructor),⟨⟨_,rfl,.vec⟩,⟨_,rfl,.boxL rfl (by repeat' constructor)⟩,G⟩,rfl⟩ ?_
 clear h
 intro i41 s41 hi41 K41 e41
 refine Jr fun hK42=>(JLh (BL (decide ((i41:Int) < (r5.1.length:Int)))) (Ja O O O) O (G7 (hK42 (Js fun hK43=>Gm O (fun hb=>?_) (fun hb=>?_)))))
 ·
  have hk41:=Jh hb
  obtain⟨y41,nx41,hy41,hn41,h⟩:=Hq hi41 hk41
  replace h:=Y6 hb41 h
  refine Gq (hK43 (Js fun hK44=>Gv (Jr fun hK45=>(Ys (Ej i41) O (Ys (Ej i41) O (G7 (hK45 (G3 (Ys (.vec 1063 v6 9 r5.1.length) O (Ys (Ej i41) O (Ys (.vec 1063 v6 9 r5.1.length) O (Ys (Ej i41) O ?_))))))))))))
  obtain⟨y46,hmy46,hy46,h⟩:=H6a h
  refine JLh (.vptr 1063 v6 ((i41:Int).toNat) 0) (J28 (f:=G9.av) (xs:=s41) (y:=y46) O O O O Q7 hy46 hmy46) O (JLh (.vptr 1063 v6 ((i41:Int).toNat) 4) (Hcf H76 O O O) O (JLh (G0 y46.Kilos) (Jce (f:=G9.av) (xs:=s41) (y:=y46) Gb O O O hy46 O O) O ?_))
  obtain⟨v47,hv47,h⟩:=Gd h
  refine JLh (G0 v47) (A_quo (H62 hv47).1 (H62 hv47).2 O O O) O ?_
  obtain⟨v48,hv48,h⟩:=Gd h
  refine JLh (G0 v48) (J99 (Yt hv48).1 (Yt hv48).2 O O O) O ?_
  obtain⟨v49,hv49,h⟩:=Jn h
  refine JLh (G0 v49) (Hx hv49 O O O) O ?_
  obtain⟨y50,hmy50,hy50,h⟩:=H6a h
  refine JLh (.vptr 1063 v6 ((i41:Int).toNat) 0) (J28 (f:=G9.av) (xs:=s41) (y:=y50) O O O O Q7 hy50 hmy50) O (JLh (.vptr 1063 v6 ((i41:Int).toNat) 6) (Hcf G98 O O O) O (Hw (u:=.junk) (Ja8 (f:=G9.av) (xs:=s41) (e:=y50) (z:=(G9.mk y50.ID y50.Number y50.Size y50.High y50.Kilos y50.Load v49 y50.Class y50.Reefer)) (u:=G0 v49) G40 O O O O hy50 O O O O O) (G7 (hK44 (G3 (JLh (G0 ((i41+1:Nat):Int)) (Hx (Ho hk41 hm26) O O O) O (Ys (G0 ((i41+1:Nat):Int)) O (G7 (e41 _ _ (i41+1) (s41.set (i41:Int).toNat (G9.mk y50.ID y50.Number y50.Size y50.High y50.Kilos y50.Load v49 y50.Class y50.Reefer)) (app1 hn41 h) (by omega) ⟨(by repeat' constructor),⟨⟨_,rfl,.vec⟩,⟨_,rfl,.boxL rfl (by repeat' constructor)⟩,G⟩,rfl⟩)))))))))
 ·
  have h:=app1 hkx41 (Hr hi41 (Hb hb))
  refine Ht (hK7 (Jr fun hK51=>(JLh (.agg (Gr.cs r3)) (Gg H4 O O O) O (Ys (.vec 1063 v6 9 r5.1.length) O (Ys (E1 r5.2) O (Hw (u:=.junk) (Hj (u:=.agg (Gr.cs r3)) (ds:=(Gr.cs r3)) Yy O O O O O O O O) (Ys (.vec 1063 v6 9 r5.1.length) O (Ys (E1 r5.2) O (G7 (hK51 ?_))))))))))
  refine Ha0 [(8,.ptr 1021 0),(9,E2 s41),(10,E1 r5.2)] [(1021,.box 35 (Gr.cs r3))] 1063 rfl rfl ⟨⟨_,rfl,.boxEq rfl rfl⟩,G⟩ rfl (by exact⟨.conv (.same rfl),.vec,.conv (.same rfl),G⟩) (Gw (⟨[.agg (Gr.cs r3),E2 s41,E1 r5.2],[],G,O,⟨⟨_,⟨_,_,_,_,O,O,O,.inl ⟨H4,O⟩⟩,.conv (.same O)⟩,⟨_,O,.conv (.same O)⟩,⟨_,O,.conv (.same O)⟩,G⟩,O,congrArg (fun r:Gr×(List G9)×(List Stowed)=>(.tup [.agg (Gr.cs r.1),E2 r.2.1,E1 r.2.2]:AV)) (Option.some.inj h)⟩))

def G4c (x:Stowed) (p1:Int):Option Bool:=
 some (decide (x.G9=p1))
theorem J90 (x:Stowed) (p1:Int) (r:Bool) (h:G4c x p1=some r):Pure Ek 60 [.agg (Stowed.cs x),.dptr [G0 p1]] (·=BL r):=by
 unfold G4c at h
 refine H5 [.tmp 3] Tryz.func60 O O (Jr fun hK1=>(JLh (.ptr 1130 0) (Jj (cs:=[G0 x.G9,G0 x.Slot.G4,G0 x.Slot.Tier,U8 x.Slot.Half]) 1130 O O O O O) O (Ys (BL false) O (G7 (hK1 (Gs [(1,.dptr [G0 p1]),(2,Ed x)] [] 1130 rfl rfl rfl G rfl (by exact⟨.conv (.same rfl),.ptr,G⟩) (Jr fun hK2=>(JLh (Ed x) (Gf Hg O O O) O (JLh (G0 x.G9) (Gi Gb O O O) O (JLh (G0 p1) (Gi Gb O O O) O (JLh (BL (decide (x.G9=p1))) (Jy O O O) O (Ys (BL (decide (x.G9=p1))) O (G7 (hK2 (Gw (fin1 BL h))))))))))))))))

def G94 (l:List Stowed) (id_:Int):Option Bool:=
 bnd (Jt l (fun z0=>G4c z0 id_)) fun r3=>
 some r3
theorem Hca (l:List Stowed) (id_:Int) (r:Bool) (h:G94 l id_=some r):Pure Ek 26 [E1 l,G0 id_] (·=BL r):=by
 unfold G94 at h
 refine H5 [.tmp 4] Tryz.func26 O O (Jr fun hK1=>(JLh (.ptr 1076 0) (Jj (cs:=[G0 id_]) 1076 O O O O O) O (Ys (BL false) O (G7 (hK1 (Gs [(0,E1 l),(3,.dptr [G0 id_])] [] 1076 rfl rfl rfl G rfl (by exact⟨.conv (.same rfl),.ptr,G⟩) (Jr fun hK2=>(Ys (E1 l) O (JLh (.fn 60 [.dptr [G0 id_]]) (Yd (cs:=[.dptr [G0 id_]]) O O) O ?_)))))))))
 obtain⟨r3,hr3,h⟩:=Gd h
 refine JLh (BL r3) (Gt O (Zj l (fun z0=>G4c z0 id_) 60 [.dptr [G0 id_]] Jea O (fun z0 q hq=>J90 z0 id_ q hq) r3 hr3) J42 ⟨O,O,O,O,G⟩) O (Ys (BL r3) O (G7 (hK2 (Gw (fin1 BL h)))))

def Yw (F:Nat) (other:Int) (p1:Gr) (p2:List G9) (p3:List Stowed) (p4:Int) (p5:Int):Option Bool:=
 bnd (Rs F p1 p2 p3 [other]) fun r3=>
 bnd (J5 p2 other) fun r5=>
 bnd (bif decide (r5 < p4) then Q8 r3.1 p5 else some default) fun r6=>
 some ((decide (r5 < p4))&&r6)
theorem H75 (F:Nat) (other:Int) (p1:Gr) (p2:List G9) (p3:List Stowed) (p4:Int) (p5:Int) (r:Bool) (h:Yw F other p1 p2 p3 p4 p5=some r):Pure Ek 61 [G0 other,Ec p1,.dptr [E2 p2],.dptr [E1 p3],.dptr [G0 p4],.dptr [G0 p5]] (·=BL r):=by
 unfold Yw at h
 refine H5 [.tmp 7] Tryz.func61 O O (Jr fun hK1=>(Ys (BL false) O (G7 (hK1 (Jr fun hK2=>(JLh (.agg (Gr.cs p1)) (Gg H4 O O O) O (JLh (E2 p2) (Gi Ye O O O) O (JLh (E1 p3) (Gi Qd O O O) O (Ys (G0 other) O (JLh (E0 [other]) (H8 (xs:=[G0 other]) O ⟨O,O,G⟩ Gp Jz O O O O) O ?_))))))))))
 obtain⟨r3,hr3,h⟩:=Gd h
 refine JLh (.tup [E0 r3.1,G0 r3.2]) (Gt O (Gdc.down F p1 p2 p3 [other] r3 hr3) H8e ⟨O,O,O,O,O,O,O,O,G⟩) O (Ys (.tup [E0 r3.1,G0 r3.2]) O (JLh (E0 r3.1) (Gn O O O) O (JLh (G0 r3.2) (Gn O O O) O (Ys (E0 r3.1) O (Ys (G0 r3.2) O (G7 (hK2 (Js fun hK4=>?_))))))))
 obtain⟨r5,hr5,h⟩:=Gd h
 obtain⟨r6,hr6,h⟩:=Gd h
 refine JC_d0 Qa (by kernel_rfl) (Dq (E2 p2) (Gi Ye O O O) O (Dq (G0 other) (G5 O O) O (Dq (G0 r5) (Gt (args:=[E2 p2,G0 other]) O (Qq p2 other r5 hr5) G30 ⟨O,O,O,O,G⟩) O (Dq (G0 p4) (Gi Gb O O O) O (Dq (BL (decide (r5 < p4))) (Ja O O O) O (Dq (BL (decide (r5 < p4))) (G5 O O) O (Do (E0 r3.1) [] O .sct G (fun hc=>G5 O O) O (Do (G0 p5) [] O .sct G (fun hc=>Gi Gb O O O) O (Do (BL r6) [25,26] O .sct ⟨Ua,Ua,G⟩ (fun hc=>Gt (args:=[E0 r3.1,G0 p5]) O (Yv r3.1 p5 r6 (H3 hc hr6)) H13 ⟨O,O,O,O,G⟩) O (Dq (BL ((decide (r5 < p4))&&r6)) (Q9 O O O O) O (Dq (BL ((decide (r5 < p4))&&r6)) (G8 O O) O (Dnil (hK4 (Gw (fin1 BL h)))))))))))))))

def Zm (F:Nat) (s:Gr) (boxes:List G9) (l:List Stowed) (id_:Int):Option (List Int):=
 bnd (J5 boxes id_) fun r3=>
 each (fun y24 i24 (s24:(List Int)) nx24=>
  jp (fun kj27=>
   bnd (bif decide (y24.G9≠id_) then Yw F y24.G9 s boxes l r3 id_ else some default) fun r30=>
   bif ((decide (y24.G9≠id_))&&r30) then
   (need (decide ((s24.length+[y24.G9].length)*8≤140737488355328∧s24.length+[y24.G9].length≤maxLen)) <|
    kj27 (s24++[y24.G9]))
   else
   (kj27 s24)) fun(j27:(List Int))=>
  nx24 j27)
 (fun(s24:(List Int))=>
  some s24) l 0 []
theorem Gf2 (F:Nat) (s:Gr) (boxes:List G9) (l:List Stowed) (id_:Int) (r:(List Int)) (h:Zm F s boxes l id_=some r):Pure Ek 27 [.agg (Gr.cs s),E2 boxes,E1 l,G0 id_] (·=E0 r):=by
 unfold Zm at h
 refine H5 [.tmp 8] Tryz.func27 O O (Jr fun hK1=>(JLh (.ptr 1077 0) (Jj (cs:=(Gr.cs s)) 1077 O O O O O) O (JLh (.ptr 1078 0) (Jj (cs:=[E2 boxes]) 1078 O O O O O) O (JLh (.ptr 1079 0) (Jj (cs:=[E1 l]) 1079 O O O O O) O (JLh (.ptr 1080 0) (Jj (cs:=[G0 id_]) 1080 O O O O O) O (JLh (E0 ([]:List Int)) (He 1 O O) O (G7 (hK1 ?_))))))))
 refine Gs [(4,Ec s),(5,.ptr 1078 0),(6,.ptr 1079 0),(7,.ptr 1080 0)] [(1078,.box 36 [E2 boxes]),(1079,.box 37 [E1 l]),(1080,.box 3 [G0 id_])] 1077 rfl rfl rfl ⟨⟨_,rfl,.boxEq rfl rfl⟩,⟨_,rfl,.boxEq rfl rfl⟩,⟨_,rfl,.boxEq rfl rfl⟩,G⟩ rfl (by repeat' (first | exact .ptr | constructor)) ?_
 refine Gs [(4,Ec s),(5,.dptr [E2 boxes]),(6,.ptr 1079 0),(7,.ptr 1080 0)] [(1079,.box 37 [E1 l]),(1080,.box 3 [G0 id_])] 1078 rfl rfl rfl ⟨⟨_,rfl,.boxEq rfl rfl⟩,⟨_,rfl,.boxEq rfl rfl⟩,G⟩ rfl (by repeat' (first | exact .ptr | constructor)) ?_
 refine Gs [(4,Ec s),(5,.dptr [E2 boxes]),(6,.dptr [E1 l]),(7,.ptr 1080 0)] [(1080,.box 3 [G0 id_])] 1079 rfl rfl rfl ⟨⟨_,rfl,.boxEq rfl rfl⟩,G⟩ rfl (by repeat' (first | exact .ptr | constructor)) ?_
 refine Gs [(4,Ec s),(5,.dptr [E2 boxes]),(6,.dptr [E1 l]),(7,.dptr [G0 id_])] [] 1080 rfl rfl rfl G rfl (by repeat' (first | exact .ptr | constructor)) (Jr fun hK2=>(JLh (E2 boxes) (Gi Ye O O O) O (JLh (G0 id_) (Gi Gb O O O) O ?_)))
 obtain⟨r3,hr3,h⟩:=Gd h
 refine JLh (G0 r3) (Gt O (Qq boxes id_ r3 hr3) G30 ⟨O,O,O,O,G⟩) O (JLh (.ptr 1081 0) (Hu 1081 1 Jz O O) O (Hw (u:=.junk) (Hj (u:=G0 r3) (ds:=[G0 r3]) G40 O O O O O O O O) (G7 (hK2 (Gs [(4,Ec s),(5,.dptr [E2 boxes]),(6,.dptr [E1 l]),(7,.dptr [G0 id_]),(9,.dptr [G0 r3])] [] 1081 rfl rfl rfl G rfl (by repeat' (first | exact .ptr | constructor)) ?_)))))
 refine Jr fun hK4=>(JLh (.fn 61 [.dptr (Gr.cs s),.dptr [E2 boxes],.dptr [E1 l],.dptr [G0 r3],.dptr [G0 id_]]) (Yd (cs:=[.dptr (Gr.cs s),.dptr [E2 boxes],.dptr [E1 l],.dptr [G0 r3],.dptr [G0 id_]]) O O) O (Ys (.fn 61 [.dptr (Gr.cs s),.dptr [E2 boxes],.dptr [E1 l],.dptr [G0 r3],.dptr [G0 id_]]) O (G7 (hK4 ?_))))
 refine Jr fun hK5=>(JLh (OW 1082 1 G0 ([]:List Int)) (G3d 1082 3 1 O O O) O (G7 (hK5 (Js fun hK6=>Jr fun hK7=>(JLh (E1 l) (Gi Qd O O O) O (JLl H2 O O O fun hm19=>(Ys (G0 0) O (G7 (hK7 (Gv ?_))))))))))
 obtain⟨b24,kx24,hb24,hkx24,h⟩:=J0 h
 refine Hp (fun i24 (s24:(List Int))=>each b24 kx24 (List.drop i24 l) i24 s24=some r) (fun i24 s24=>[(7,.dptr [G0 id_]),(10,.fn 61 [.dptr (Gr.cs s),.dptr [E2 boxes],.dptr [E1 l],.dptr [G0 r3],.dptr [G0 id_]]),(11,OW 1082 1 G0 s24),(18,E1 l),(19,Ej l.length),(20,Ej i24)]) (fun i24 s24=>[(1082,.spare 3 1 s24.length s24.length)]) (fun i24=>l.length - i24) 0 [] h ⟨(by repeat' constructor),⟨⟨_,rfl,.same⟩,G⟩,rfl⟩ ?_
 clear h
 intro i24 s24 hi24 K24 e24
 refine Jr fun hK25=>(JLh (BL (decide ((i24:Int) < (l.length:Int)))) (Ja O O O) O (G7 (hK25 (Js fun hK26=>Gm O (fun hb=>?_) (fun hb=>?_)))))
 ·
  have hk24:=Jh hb
  obtain⟨y24,nx24,hy24,hn24,h⟩:=Hq hi24 hk24
  replace h:=Y6 hb24 h
  refine Gq (hK26 ?_)
  obtain⟨kj27,hkj27,h⟩:=Rc h
  refine Qk (fun j27:(List Int)=>kj27 j27=some r) (fun j27=>[(7,.dptr [G0 id_]),(10,.fn 61 [.dptr (Gr.cs s),.dptr [E2 boxes],.dptr [E1 l],.dptr [G0 r3],.dptr [G0 id_]]),(11,OW 1082 1 G0 j27),(18,E1 l),(19,Ej l.length),(20,Ej i24)]) (fun j27=>[(1082,.spare 3 1 j27.length j27.length)]) (fun Kj27 ej27=>?_) ?_
  ·
   refine Gv (Jr fun hK28=>(JLh (Ed y24) (Ha (f:=Stowed.av) (xs:=l) (y:=y24) O O O H2 hy24 O) O (JLh (.agg (Stowed.cs y24)) (Gg Qx O O O) O (JLh (.ptr 1083 0) (Hu 1083 4 Jv O O) O (Hw (u:=.junk) (Hj (u:=.agg (Stowed.cs y24)) (ds:=[G0 y24.G9,G0 y24.Slot.G4,G0 y24.Slot.Tier,U8 y24.Slot.Half]) Rb O O O O O O O O) (G7 (hK28 ?_)))))))
   refine Gs [(7,.dptr [G0 id_]),(10,.fn 61 [.dptr (Gr.cs s),.dptr [E2 boxes],.dptr [E1 l],.dptr [G0 r3],.dptr [G0 id_]]),(11,OW 1082 1 G0 s24),(13,Ed y24),(18,E1 l),(19,Ej l.length),(20,Ej i24)] [(1082,.spare 3 1 s24.length s24.length)] 1083 rfl rfl rfl ⟨⟨_,rfl,.same⟩,G⟩ rfl (by repeat' (first | exact .ptr | constructor)) ?_
   refine Jr fun hK29=>(JLh (Ed y24) (Gf Hg O O O) O (JLh (G0 y24.G9) (Gi Gb O O O) O (JLh (G0 id_) (Gi Gb O O O) O (JLh (BL (decide (y24.G9≠id_))) (Zu O O O) O (Ys (BL (decide (y24.G9≠id_))) O (JLo (.fn 61 [.dptr (Gr.cs s),.dptr [E2 boxes],.dptr [E1 l],.dptr [G0 r3],.dptr [G0 id_]]) [] O .sct G (fun hc=>G5 O O) O (JLo (Ed y24) [] O .sct G (fun hc=>Gf Hg O O O) O (JLo (G0 y24.G9) [30] O .sct ⟨Ua,G⟩ (fun hc=>Gi Gb O O O) O ?_))))))))
   obtain⟨r30,hr30,h⟩:=Gd h
   refine JLo (BL r30) [29,31] O .sct ⟨Ua,Ua,G⟩ (fun hc=>G3e (args:=[G0 y24.G9]) (caps:=[.dptr (Gr.cs s),.dptr [E2 boxes],.dptr [E1 l],.dptr [G0 r3],.dptr [G0 id_]]) O O (H75 F y24.G9 s boxes l r3 id_ r30 (H3 hc hr30)) Je9 ⟨O,O,G⟩ O) O (JLh (BL ((decide (y24.G9≠id_))&&r30)) (Q9 O O O O) O (G7 (hK29 (JCc O h (fun h hb=>?_) (fun h hb=>?_)))))
   ·
    refine G3 (Ys (OW 1082 1 G0 s24) O (JLh (Ed y24) (Gf Hg O O O) O (JLh (G0 y24.G9) (Gi Gb O O O) O (JLh (E0 [y24.G9]) (H8 (xs:=[G0 y24.G9]) O ⟨O,O,G⟩ Gp Jz O O O O) O ?_))))
    obtain⟨ha31,h⟩:=J6 h
    refine JLh (OW 1082 1 G0 (s24++[y24.G9])) (R6 (f:=G0) (xs:=s24) (ys:=[y24.G9]) O O O O Gp Zk ha31 (fun _=>O) (.inl O) O) O (Ys (OW 1082 1 G0 (s24++[y24.G9])) O (G7 (ej27 _ _ (s24++[y24.G9]) h ⟨(by repeat' constructor),⟨⟨_,rfl,.same⟩,G⟩,rfl⟩)))
   ·
    refine Gq (ej27 _ _ s24 h ⟨(by repeat' constructor),⟨⟨_,rfl,.same⟩,G⟩,rfl⟩)
  ·intro j27 h
   replace h:=app1 hkj27 h
   refine G3 (JLh (G0 ((i24+1:Nat):Int)) (Hx (Ho hk24 hm19) O O O) O (Ys (G0 ((i24+1:Nat):Int)) O (G7 (e24 _ _ (i24+1) j27 (app1 hn24 h) (by omega) ⟨(by repeat' constructor),⟨⟨_,rfl,.same⟩,G⟩,rfl⟩))))
 ·
  have h:=app1 hkx24 (Hr hi24 (Hb hb))
  refine Ht (hK6 (Jr fun hK32=>(Ys (OW 1082 1 G0 s24) O (Ys (OW 1082 1 G0 s24) O (G7 (hK32 (Gw (fin1l (fun r:(List Int)=>(E0 r:AV)) h))))))))

def Jq (F:Nat) (s:Gr) (boxes:List G9) (l:List Stowed) (id_:Int):Option ((List Int)×Int):=
 bnd (Q3 s boxes l) fun r4=>
 bif (!r4) then
 (some ([],2))
 else
 (bnd (G94 l id_) fun r7=>
  bif (!r7) then
  (some ([],6))
  else
  (bnd (Zm F s boxes l id_) fun r10=>
   some (r10,0)))
theorem Q4 (F:Nat) (s:Gr) (boxes:List G9) (l:List Stowed) (id_:Int) (r:(List Int)×Int) (h:Jq F s boxes l id_=some r):Pure Ek 11 [.agg (Gr.cs s),E2 boxes,E1 l,G0 id_] (·=.tup [E0 r.1,G0 r.2]):=by
 unfold Jq at h
 refine H5 [.tmp 8,.tmp 9] Tryz.func11 O O (Jr fun hK1=>(JLh (.ptr 1034 0) (Jj (cs:=(Gr.cs s)) 1034 O O O O O) O (JLh (E0 ([]:List Int)) (He 1 O O) O (Ys (G0 0) O (G7 (hK1 ?_))))))
 refine Gs [(1,E2 boxes),(2,E1 l),(3,G0 id_),(4,Ec s)] [] 1034 rfl rfl rfl G rfl (by repeat' (first | exact .ptr | constructor)) (Js fun hK2=>Gv (Jr fun hK3=>(JLh (.agg (Gr.cs s)) (Gg H4 O O O) O (Ys (E2 boxes) O (Ys (E1 l) O ?_)))))
 obtain⟨r4,hr4,h⟩:=Gd h
 refine JLh (BL r4) (Gt O (Yn s boxes l r4 hr4) G31 ⟨O,O,O,O,O,O,G⟩) O (JLh (BL (!r4)) (Rm (b:=r4) O O) O (Ys (BL (!r4)) O (G7 (hK3 (JCc O h (fun h hb=>?_) (fun h hb=>?_))))))
 ·
  refine Jr fun hK5=>(JLh (E0 ([]:List Int)) (He 1 O O) O (Ys (G0 2) O (G7 (hK5 (Gw (⟨[E0 ([]:List Int),G0 2],[],G,O,⟨⟨_,O,.conv (.same O)⟩,⟨_,O,.conv (.same O)⟩,G⟩,O,congrArg (fun r:(List Int)×Int=>(.tup [E0 r.1,G0 r.2]:AV)) (Option.some.inj h)⟩))))))
 ·
  refine Jr fun hK6=>(Ys (E1 l) O (Ys (G0 id_) O ?_))
  obtain⟨r7,hr7,h⟩:=Gd h
  refine JLh (BL r7) (Gt O (Hca l id_ r7 hr7) J4e ⟨O,O,O,O,G⟩) O (JLh (BL (!r7)) (Rm (b:=r7) O O) O (Ys (BL (!r7)) O (G7 (hK6 (JCc O h (fun h hb=>?_) (fun h hb=>?_))))))
  ·
   refine Jr fun hK8=>(JLh (E0 ([]:List Int)) (He 1 O O) O (Ys (G0 6) O (G7 (hK8 (Gw (⟨[E0 ([]:List Int),G0 6],[],G,O,⟨⟨_,O,.conv (.same O)⟩,⟨_,O,.conv (.same O)⟩,G⟩,O,congrArg (fun r:(List Int)×Int=>(.tup [E0 r.1,G0 r.2]:AV)) (Option.some.inj h)⟩))))))
  ·
   refine Gq (hK2 (Jr fun hK9=>(JLh (.agg (Gr.cs s)) (Gg H4 O O O) O (Ys (E2 boxes) O (Ys (E1 l) O (Ys (G0 id_) O ?_))))))
   obtain⟨r10,hr10,h⟩:=Gd h
   refine JLh (E0 r10) (Gt O (Gf2 F s boxes l id_ r10 hr10) J4d ⟨O,O,O,O,O,O,O,O,G⟩) O (Ys (E0 r10) O (Ys (G0 0) O (G7 (hK9 (Gw (⟨[E0 r10,G0 0],[],G,O,⟨⟨_,O,.conv (.same O)⟩,⟨_,O,.conv (.same O)⟩,G⟩,O,congrArg (fun r:(List Int)×Int=>(.tup [E0 r.1,G0 r.2]:AV)) (Option.some.inj h)⟩))))))

def M_twistlocklaw22_holds (l:List Int) (n:Int):Option Bool:=
 each (fun y18 i18 (s18:Unit) nx18=>
  bif decide (y18=n) then
  (some true)
  else
  (nx18 ()))
 (fun(s18:Unit)=>
  some false) l 0 ()
theorem Qm (l:List Int) (n:Int) (r:Bool) (h:M_twistlocklaw22_holds l n=some r):Pure Ek 13 [E0 l,G0 n] (·=BL r):=by
 unfold M_twistlocklaw22_holds at h
 refine H5 [.tmp 4] Tryz.func13 O O (Jr fun hK1=>(Ys (BL false) O (G7 (hK1 (Js fun hK2=>Jr fun hK3=>(Ys (E0 l) O (JLl Gp O O O fun hm8=>(Ys (G0 0) O (G7 (hK3 (Gv ?_)))))))))))
 obtain⟨b18,kx18,hb18,hkx18,h⟩:=J0 h
 refine Hp (fun i18 (s18:Unit)=>each b18 kx18 (List.drop i18 l) i18 s18=some r) (fun i18 s18=>[(1,G0 n),(7,E0 l),(8,Ej l.length),(9,Ej i18)]) (fun i18 s18=>[]) (fun i18=>l.length - i18) 0 () h ⟨(by repeat' constructor),G,rfl⟩ ?_
 clear h
 intro i18 s18 hi18 K18 e18
 refine Jr fun hK19=>(JLh (BL (decide ((i18:Int) < (l.length:Int)))) (Ja O O O) O (G7 (hK19 (Js fun hK20=>Gm O (fun hb=>?_) (fun hb=>?_)))))
 ·
  have hk18:=Jh hb
  obtain⟨y18,nx18,hy18,hn18,h⟩:=Hq hi18 hk18
  replace h:=Y6 hb18 h
  refine Gq (hK20 (Js fun hK21=>Gv (Jr fun hK22=>(JLh (.dptr [G0 y18]) (Ha (f:=G0) (xs:=l) (y:=y18) O O O Gp hy18 O) O (JLh (G0 y18) (Gi Gb O O O) O (Ys (G0 y18) O (G7 (hK22 (Jr fun hK23=>(Ys (G0 y18) O (Ys (G0 n) O (JLh (BL (decide (y18=n))) (Jy O O O) O (G7 (hK23 (JCc O h (fun h hb=>?_) (fun h hb=>?_))))))))))))))))
  ·
   refine Jr fun hK24=>(Ys (BL true) O (G7 (hK24 (Gw (fin1 BL h)))))
  ·
   refine Gq (hK21 (G3 (JLh (G0 ((i18+1:Nat):Int)) (Hx (Ho hk18 hm8) O O O) O (Ys (G0 ((i18+1:Nat):Int)) O (G7 (e18 _ _ (i18+1) () (app1 hn18 h) (by omega) ⟨(by repeat' constructor),G,rfl⟩))))))
 ·
  have h:=app1 hkx18 (Hr hi18 (Hb hb))
  refine Ht (hK2 (Jr fun hK25=>(Ys (BL false) O (G7 (hK25 (Gw (fin1 BL h)))))))

def Zz :Option Gr:=
 some (Gr.mk ([(G4.mk 0 0 false 2 0 0 0 0 [] 0 0 0),(G4.mk 0 1 false 2 0 0 0 0 [] 0 0 0),(G4.mk 0 0 true 3 0 0 0 0 [] 0 0 0),(G4.mk 0 1 true 3 0 0 0 0 [] 0 0 0),(G4.mk 1 1 true 4 0 0 0 0 [] 0 0 0)]) ([(Ga.mk 0 [0,1])]) (Light.mk 0 0 0 0) [] [] [] (G2.mk 0 0 0 0))
theorem Gdd  (r:Gr) (h:Zz =some r):Pure Ek 35 [] (·=.agg (Gr.cs r)):=by
 unfold Zz at h
 refine H5 [.cell 0 35] Tryz.func35 O O (Jr fun hK1=>(JLh (.ptr 1100 0) (G87 1100 [E3 ([]:List G4),E4 ([]:List Ga),G0 0,G0 0,G0 0,G0 0,E5 ([]:List Row),E6 ([]:List Frame),E7 ([]:List Gj),G0 0,G0 0,G0 0,G0 0] [.slice none 0 0,.slice none 0 0,.int .i64 0,.int .i64 0,.int .i64 0,.int .i64 0,.slice none 0 0,.slice none 0 0,.slice none 0 0,.int .i64 0,.int .i64 0,.int .i64 0,.int .i64 0] G89 ⟨.inr ⟨_,O,O⟩,.inr ⟨_,O,O⟩,.inl O,.inl O,.inl O,.inl O,.inr ⟨_,O,O⟩,.inr ⟨_,O,O⟩,.inr ⟨_,O,O⟩,.inl O,.inl O,.inl O,.inl O,G⟩ O O) O (G7 (hK1 ?_))))
 refine Jr fun hK2=>(JLh (.agg [G0 0,G0 0,BL false,G0 2,G0 0,G0 0,G0 0,G0 0,E0 ([]:List Int),G0 0,G0 0,G0 0]) (Hz (cs:=[G0 0,G0 0,BL false,G0 2,G0 0,G0 0,G0 0,G0 0,E0 ([]:List Int),G0 0,G0 0,G0 0]) [(0,1),(1,1),(2,1),(3,1),(4,1),(5,1),(6,1),(7,1),(8,1),(9,1),(10,1),(11,1)] [G0 0,G0 0,BL false,G0 0,G0 0,G0 0,G0 0,G0 0,E0 ([]:List Int),G0 0,G0 0,G0 0] [.int .i64 0,.int .i64 0,.bool false,.int .i64 0,.int .i64 0,.int .i64 0,.int .i64 0,.int .i64 0,.slice none 0 0,.int .i64 0,.int .i64 0,.int .i64 0] Zx G2e ⟨.inl O,.inl O,.inl O,.inl O,.inl O,.inl O,.inl O,.inl O,.inr ⟨_,O,O⟩,.inl O,.inl O,.inl O,G⟩ O O) O (JLh (.agg [G0 0,G0 1,BL false,G0 2,G0 0,G0 0,G0 0,G0 0,E0 ([]:List Int),G0 0,G0 0,G0 0]) (Hz (cs:=[G0 0,G0 1,BL false,G0 2,G0 0,G0 0,G0 0,G0 0,E0 ([]:List Int),G0 0,G0 0,G0 0]) [(0,1),(1,1),(2,1),(3,1),(4,1),(5,1),(6,1),(7,1),(8,1),(9,1),(10,1),(11,1)] [G0 0,G0 0,BL false,G0 0,G0 0,G0 0,G0 0,G0 0,E0 ([]:List Int),G0 0,G0 0,G0 0] [.int .i64 0,.int .i64 0,.bool false,.int .i64 0,.int .i64 0,.int .i64 0,.int .i64 0,.int .i64 0,.slice none 0 0,.int .i64 0,.int .i64 0,.int .i64 0] Zx G2e ⟨.inl O,.inl O,.inl O,.inl O,.inl O,.inl O,.inl O,.inl O,.inr ⟨_,O,O⟩,.inl O,.inl O,.inl O,G⟩ O O) O (JLh (.agg [G0 0,G0 0,BL true,G0 3,G0 0,G0 0,G0 0,G0 0,E0 ([]:List Int),G0 0,G0 0,G0 0]) (Hz (cs:=[G0 0,G0 0,BL true,G0 3,G0 0,G0 0,G0 0,G0 0,E0 ([]:List Int),G0 0,G0 0,G0 0]) [(0,1),(1,1),(2,1),(3,1),(4,1),(5,1),(6,1),(7,1),(8,1),(9,1),(10,1),(11,1)] [G0 0,G0 0,BL false,G0 0,G0 0,G0 0,G0 0,G0 0,E0 ([]:List Int),G0 0,G0 0,G0 0] [.int .i64 0,.int .i64 0,.bool false,.int .i64 0,.int .i64 0,.int .i64 0,.int .i64 0,.int .i64 0,.slice none 0 0,.int .i64 0,.int .i64 0,.int .i64 0] Zx G2e ⟨.inl O,.inl O,.inl O,.inl O,.inl O,.inl O,.inl O,.inl O,.inr ⟨_,O,O⟩,.inl O,.inl O,.inl O,G⟩ O O) O (JLh (.agg [G0 0,G0 1,BL true,G0 3,G0 0,G0 0,G0 0,G0 0,E0 ([]:List Int),G0 0,G0 0,G0 0]) (Hz (cs:=[G0 0,G0 1,BL true,G0 3,G0 0,G0 0,G0 0,G0 0,E0 ([]:List Int),G0 0,G0 0,G0 0]) [(0,1),(1,1),(2,1),(3,1),(4,1),(5,1),(6,1),(7,1),(8,1),(9,1),(10,1),(11,1)] [G0 0,G0 0,BL false,G0 0,G0 0,G0 0,G0 0,G0 0,E0 ([]:List Int),G0 0,G0 0,G0 0] [.int .i64 0,.int .i64 0,.bool false,.int .i64 0,.int .i64 0,.int .i64 0,.int .i64 0,.int .i64 0,.slice none 0 0,.int .i64 0,.int .i64 0,.int .i64 0] Zx G2e ⟨.inl O,.inl O,.inl O,.inl O,.inl O,.inl O,.inl O,.inl O,.inr ⟨_,O,O⟩,.inl O,.inl O,.inl O,G⟩ O O) O (JLh (.agg [G0 1,G0 1,BL true,G0 4,G0 0,G0 0,G0 0,G0 0,E0 ([]:List Int),G0 0,G0 0,G0 0]) (Hz (cs:=[G0 1,G0 1,BL true,G0 4,G0 0,G0 0,G0 0,G0 0,E0 ([]:List Int),G0 0,G0 0,G0 0]) [(0,1),(1,1),(2,1),(3,1),(4,1),(5,1),(6,1),(7,1),(8,1),(9,1),(10,1),(11,1)] [G0 0,G0 0,BL false,G0 0,G0 0,G0 0,G0 0,G0 0,E0 ([]:List Int),G0 0,G0 0,G0 0] [.int .i64 0,.int .i64 0,.bool false,.int .i64 0,.int .i64 0,.int .i64 0,.int .i64 0,.int .i64 0,.slice none 0 0,.int .i64 0,.int .i64 0,.int .i64 0] Zx G2e ⟨.inl O,.inl O,.inl O,.inl O,.inl O,.inl O,.inl O,.inl O,.inr ⟨_,O,O⟩,.inl O,.inl O,.inl O,G⟩ O O) O (JLh (E3 ([(G4.mk 0 0 false 2 0 0 0 0 [] 0 0 0),(G4.mk 0 1 false 2 0 0 0 0 [] 0 0 0),(G4.mk 0 0 true 3 0 0 0 0 [] 0 0 0),(G4.mk 0 1 true 3 0 0 0 0 [] 0 0 0),(G4.mk 1 1 true 4 0 0 0 0 [] 0 0 0)])) (H8 (xs:=[.agg [G0 0,G0 0,BL false,G0 2,G0 0,G0 0,G0 0,G0 0,E0 ([]:List Int),G0 0,G0 0,G0 0],.agg [G0 0,G0 1,BL false,G0 2,G0 0,G0 0,G0 0,G0 0,E0 ([]:List Int),G0 0,G0 0,G0 0],.agg [G0 0,G0 0,BL true,G0 3,G0 0,G0 0,G0 0,G0 0,E0 ([]:List Int),G0 0,G0 0,G0 0],.agg [G0 0,G0 1,BL true,G0 3,G0 0,G0 0,G0 0,G0 0,E0 ([]:List Int),G0 0,G0 0,G0 0],.agg [G0 1,G0 1,BL true,G0 4,G0 0,G0 0,G0 0,G0 0,E0 ([]:List Int),G0 0,G0 0,G0 0]]) O ⟨O,O,O,O,O,O,O,O,O,O,G⟩ Jf G0f O O O O) O (JLh (E0 [0,1]) (H8 (xs:=[G0 0,G0 1]) O ⟨O,O,O,O,G⟩ Gp Jz O O O O) O (JLh (.agg [G0 0,E0 [0,1]]) (Hz (cs:=[G0 0,E0 [0,1]]) [(0,1),(1,1)] [G0 0,E0 ([]:List Int)] [.int .i64 0,.slice none 0 0] Gf9 H35 ⟨.inl O,.inr ⟨_,O,O⟩,G⟩ O O) O (JLh (E4 ([(Ga.mk 0 [0,1])])) (H8 (xs:=[.agg [G0 0,E0 [0,1]]]) O ⟨O,O,G⟩ Qt G77 O O O O) O (JLh (.agg [E3 ([(G4.mk 0 0 false 2 0 0 0 0 [] 0 0 0),(G4.mk 0 1 false 2 0 0 0 0 [] 0 0 0),(G4.mk 0 0 true 3 0 0 0 0 [] 0 0 0),(G4.mk 0 1 true 3 0 0 0 0 [] 0 0 0),(G4.mk 1 1 true 4 0 0 0 0 [] 0 0 0)]),E4 ([(Ga.mk 0 [0,1])]),G0 0,G0 0,G0 0,G0 0,E5 ([]:List Row),E6 ([]:List Frame),E7 ([]:List Gj),G0 0,G0 0,G0 0,G0 0]) (Hz (cs:=[E3 ([(G4.mk 0 0 false 2 0 0 0 0 [] 0 0 0),(G4.mk 0 1 false 2 0 0 0 0 [] 0 0 0),(G4.mk 0 0 true 3 0 0 0 0 [] 0 0 0),(G4.mk 0 1 true 3 0 0 0 0 [] 0 0 0),(G4.mk 1 1 true 4 0 0 0 0 [] 0 0 0)]),E4 ([(Ga.mk 0 [0,1])]),G0 0,G0 0,G0 0,G0 0,E5 ([]:List Row),E6 ([]:List Frame),E7 ([]:List Gj),G0 0,G0 0,G0 0,G0 0]) [(0,1),(1,1),(2,4),(6,1),(7,1),(8,1),(9,4)] [E3 ([]:List G4),E4 ([]:List Ga),G0 0,G0 0,G0 0,G0 0,E5 ([]:List Row),E6 ([]:List Frame),E7 ([]:List Gj),G0 0,G0 0,G0 0,G0 0] [.slice none 0 0,.slice none 0 0,.int .i64 0,.int .i64 0,.int .i64 0,.int .i64 0,.slice none 0 0,.slice none 0 0,.slice none 0 0,.int .i64 0,.int .i64 0,.int .i64 0,.int .i64 0] Jb0 G89 ⟨.inr ⟨_,O,O⟩,.inr ⟨_,O,O⟩,.inl O,.inl O,.inl O,.inl O,.inr ⟨_,O,O⟩,.inr ⟨_,O,O⟩,.inr ⟨_,O,O⟩,.inl O,.inl O,.inl O,.inl O,G⟩ O O) O (Hw (u:=.junk) (Hj (u:=.agg [E3 ([(G4.mk 0 0 false 2 0 0 0 0 [] 0 0 0),(G4.mk 0 1 false 2 0 0 0 0 [] 0 0 0),(G4.mk 0 0 true 3 0 0 0 0 [] 0 0 0),(G4.mk 0 1 true 3 0 0 0 0 [] 0 0 0),(G4.mk 1 1 true 4 0 0 0 0 [] 0 0 0)]),E4 ([(Ga.mk 0 [0,1])]),G0 0,G0 0,G0 0,G0 0,E5 ([]:List Row),E6 ([]:List Frame),E7 ([]:List Gj),G0 0,G0 0,G0 0,G0 0]) (ds:=[E3 ([(G4.mk 0 0 false 2 0 0 0 0 [] 0 0 0),(G4.mk 0 1 false 2 0 0 0 0 [] 0 0 0),(G4.mk 0 0 true 3 0 0 0 0 [] 0 0 0),(G4.mk 0 1 true 3 0 0 0 0 [] 0 0 0),(G4.mk 1 1 true 4 0 0 0 0 [] 0 0 0)]),E4 ([(Ga.mk 0 [0,1])]),G0 0,G0 0,G0 0,G0 0,E5 ([]:List Row),E6 ([]:List Frame),E7 ([]:List Gj),G0 0,G0 0,G0 0,G0 0]) Yy O O O O O O O O) (G7 (hK2 ?_)))))))))))))
 refine Gw (⟨[.agg [E3 ([(G4.mk 0 0 false 2 0 0 0 0 [] 0 0 0),(G4.mk 0 1 false 2 0 0 0 0 [] 0 0 0),(G4.mk 0 0 true 3 0 0 0 0 [] 0 0 0),(G4.mk 0 1 true 3 0 0 0 0 [] 0 0 0),(G4.mk 1 1 true 4 0 0 0 0 [] 0 0 0)]),E4 ([(Ga.mk 0 [0,1])]),G0 0,G0 0,G0 0,G0 0,E5 ([]:List Row),E6 ([]:List Frame),E7 ([]:List Gj),G0 0,G0 0,G0 0,G0 0]],[],G,O,⟨⟨_,⟨_,_,_,_,O,O,O,.inl ⟨H4,O⟩⟩,.conv (.same O)⟩,G⟩,O,congrArg (fun r:Gr=>(.agg (Gr.cs r):AV)) (Option.some.inj h)⟩)

def R2 (box:Int) (column:Int) (tier:Int) (half:Int):Option Stowed:=
 some (Stowed.mk box (Slot.mk column tier half))
theorem Y7 (box:Int) (column:Int) (tier:Int) (half:Int) (r:Stowed) (h:R2 box column tier half=some r):Pure Ek 36 [G0 box,G0 column,G0 tier,U8 half] (·=.agg (Stowed.cs r)):=by
 unfold R2 at h
 refine H5 [.cell 8 49] Tryz.func36 O O (Jr fun hK1=>(JLh (.ptr 1101 0) (G87 1101 [G0 0,G0 0,G0 0,U8 0] [.int .i64 0,.int .i64 0,.int .i64 0,.int .u8 0] G10 ⟨.inl O,.inl O,.inl O,.inl O,G⟩ O O) O (G7 (hK1 ?_))))
 refine Jr fun hK2=>(Ys (G0 box) O (Ys (G0 column) O (Ys (G0 tier) O (Ys (U8 half) O (JLh (.agg [G0 column,G0 tier,U8 half]) (Hz (cs:=[G0 column,G0 tier,U8 half]) [(0,1),(1,1),(2,1)] [G0 0,G0 0,U8 0] [.int .i64 0,.int .i64 0,.int .u8 0] G13 G62 ⟨.inl O,.inl O,.inl O,G⟩ O O) O (JLh (.agg [G0 box,G0 column,G0 tier,U8 half]) (Hz (cs:=[G0 box,G0 column,G0 tier,U8 half]) [(0,1),(1,3)] [G0 0,G0 0,G0 0,U8 0] [.int .i64 0,.int .i64 0,.int .i64 0,.int .u8 0] Zn G10 ⟨.inl O,.inl O,.inl O,.inl O,G⟩ O O) O (Hw (u:=.junk) (Hj (u:=.agg [G0 box,G0 column,G0 tier,U8 half]) (ds:=[G0 box,G0 column,G0 tier,U8 half]) Rb O O O O O O O O) (G7 (hK2 (Gw ?_))))))))))
 exact⟨[.agg [G0 box,G0 column,G0 tier,U8 half]],[],G,O,⟨⟨_,⟨_,_,_,_,O,O,O,.inl ⟨Qx,O⟩⟩,.conv (.same O)⟩,G⟩,O,congrArg (fun r:Stowed=>(.agg (Stowed.cs r):AV)) (Option.some.inj h)⟩

def Y1 (F:Nat) (s:Gr) (boxes:List G9) (l:List Stowed):Option (Int×(List Int)×(List Int)×Int):=
 bnd (Q3 s boxes l) fun r4=>
 bif (!r4) then
 (some (0,[],[],2))
 else
 (bif decide ((l.length:Int)=0) then
  (some (0,[],[],6))
  else
  (Z2 l 0 fun y10=>
   bnd (J5 boxes y10.G9) fun r12=>
   each (fun y27 i27 (s27:Int) nx27=>
    bnd (J5 boxes y27.G9) fun r32=>
    nx27 (min s27 r32))
   (fun(s27:Int)=>
    each (fun y52 i52 (s52:(List Int)) nx52=>
     jp (fun kj55=>
      bnd (J5 boxes y52.G9) fun r58=>
      bif decide (r58=s27) then
      (need (decide ((s52.length+[y52.G9].length)*8≤140737488355328∧s52.length+[y52.G9].length≤maxLen)) <|
       kj55 (s52++[y52.G9]))
      else
      (kj55 s52)) fun(j55:(List Int))=>
     nx52 j55)
    (fun(s52:(List Int))=>
     bnd (Rs F s boxes l s52) fun r61=>
     each (fun y80 i80 (s80:(List Int)) nx80=>
      jp (fun kj83=>
       bnd (J5 boxes y80) fun r86=>
       bif decide (r86≠s27) then
       (need (decide ((s80.length+[y80].length)*8≤140737488355328∧s80.length+[y80].length≤maxLen)) <|
        kj83 (s80++[y80]))
       else
       (kj83 s80)) fun(j83:(List Int))=>
      nx80 j83)
     (fun(s80:(List Int))=>
      some (s27,s52,s80,0)) r61.1 0 []) l 0 []) l 0 r12))
theorem G2a (F:Nat) (s:Gr) (boxes:List G9) (l:List Stowed) (r:Int×(List Int)×(List Int)×Int) (h:Y1 F s boxes l=some r):Pure Ek 10 [.agg (Gr.cs s),E2 boxes,E1 l] (·=.tup [G0 r.1,E0 r.2.1,E0 r.2.2.1,G0 r.2.2.2]):=by
 unfold Y1 at h
 refine H5 [.tmp 6,.tmp 7,.tmp 8,.tmp 9] Tryz.func10 O O (Jr fun hK1=>(JLh (.ptr 1029 0) (Jj (cs:=(Gr.cs s)) 1029 O O O O O) O (Ys (G0 0) O (JLh (E0 ([]:List Int)) (He 1 O O) O (JLh (E0 ([]:List Int)) (He 1 O O) O (Ys (G0 0) O (G7 (hK1 ?_))))))))
 refine Gs [(1,E2 boxes),(2,E1 l),(3,Ec s)] [] 1029 rfl rfl rfl G rfl (by exact⟨.conv (.same rfl),.conv (.same rfl),.ptr,G⟩) (Js fun hK2=>Jr fun hK3=>(JLh (.agg (Gr.cs s)) (Gg H4 O O O) O (Ys (E2 boxes) O (Ys (E1 l) O ?_))))
 obtain⟨r4,hr4,h⟩:=Gd h
 refine JLh (BL r4) (Gt O (Yn s boxes l r4 hr4) G31 ⟨O,O,O,O,O,O,G⟩) O (JLh (BL (!r4)) (Rm (b:=r4) O O) O (G7 (hK3 (JCc O h (fun h hb=>?_) (fun h hb=>?_)))))
 ·
  refine Jr fun hK5=>(Ys (G0 0) O (JLh (E0 ([]:List Int)) (He 1 O O) O (JLh (E0 ([]:List Int)) (He 1 O O) O (Ys (G0 2) O (G7 (hK5 (Gw (⟨[G0 0,E0 ([]:List Int),E0 ([]:List Int),G0 2],[],G,O,⟨⟨_,O,.conv (.same O)⟩,⟨_,O,.conv (.same O)⟩,⟨_,O,.conv (.same O)⟩,⟨_,O,.conv (.same O)⟩,G⟩,O,congrArg (fun r:Int×(List Int)×(List Int)×Int=>(.tup [G0 r.1,E0 r.2.1,E0 r.2.2.1,G0 r.2.2.2]:AV)) (Option.some.inj h)⟩))))))))
 ·
  refine Gq (hK2 (Js fun hK6=>Jr fun hK7=>(Ys (E1 l) O (JLl H2 O O O fun hm27=>(JLh (BL (decide ((l.length:Int)=0))) (Jy O O O) O (G7 (hK7 (JCc O h (fun h hb=>?_) (fun h hb=>?_)))))))))
  ·
   refine Jr fun hK8=>(Ys (G0 0) O (JLh (E0 ([]:List Int)) (He 1 O O) O (JLh (E0 ([]:List Int)) (He 1 O O) O (Ys (G0 6) O (G7 (hK8 (Gw (⟨[G0 0,E0 ([]:List Int),E0 ([]:List Int),G0 6],[],G,O,⟨⟨_,O,.conv (.same O)⟩,⟨_,O,.conv (.same O)⟩,⟨_,O,.conv (.same O)⟩,⟨_,O,.conv (.same O)⟩,G⟩,O,congrArg (fun r:Int×(List Int)×(List Int)×Int=>(.tup [G0 r.1,E0 r.2.1,E0 r.2.2.1,G0 r.2.2.2]:AV)) (Option.some.inj h)⟩))))))))
  ·
   refine Gq (hK6 (Jr fun hK9=>(Ys (E2 boxes) O (Ys (E1 l) O ?_))))
   obtain⟨m11,y10,hm11,hy10,h⟩:=Z1 h
   refine JLh (Ed y10) (Ha (f:=Stowed.av) (xs:=l) (y:=y10) O O O H2 hy10 hm11) O (JLh (Ed y10) (Gf Hg O O O) O (JLh (G0 y10.G9) (Gi Gb O O O) O ?_))
   obtain⟨r12,hr12,h⟩:=Gd h
   refine JLh (G0 r12) (Gt O (Qq boxes y10.G9 r12 hr12) G30 ⟨O,O,O,O,G⟩) O (Ys (G0 r12) O (G7 (hK9 (Js fun hK13=>Jr fun hK14=>(Ys (E1 l) O (JLl H2 O O O fun hm36=>(Ys (G0 0) O (G7 (hK14 (Gv ?_))))))))))
   obtain⟨b27,kx27,hb27,hkx27,h⟩:=J0 h
   refine Hp (fun i27 (s27:Int)=>each b27 kx27 (List.drop i27 l) i27 s27=some r) (fun i27 s27=>[(1,E2 boxes),(2,E1 l),(3,Ec s),(10,G0 s27),(35,E1 l),(36,Ej l.length),(37,Ej i27)]) (fun i27 s27=>[]) (fun i27=>l.length - i27) 0 r12 h ⟨(by repeat' constructor),G,rfl⟩ ?_
   clear h
   intro i27 s27 hi27 K27 e27
   refine Jr fun hK28=>(JLh (BL (decide ((i27:Int) < (l.length:Int)))) (Ja O O O) O (G7 (hK28 (Js fun hK29=>Gm O (fun hb=>?_) (fun hb=>?_)))))
   ·
    have hk27:=Jh hb
    obtain⟨y27,nx27,hy27,hn27,h⟩:=Hq hi27 hk27
    replace h:=Y6 hb27 h
    refine Gq (hK29 (Js fun hK30=>Gv (Jr fun hK31=>(JLh (Ed y27) (Ha (f:=Stowed.av) (xs:=l) (y:=y27) O O O H2 hy27 O) O (JLh (.agg (Stowed.cs y27)) (Gg Qx O O O) O (JLh (.ptr 1030 0) (Hu 1030 4 Jv O O) O (Hw (u:=.junk) (Hj (u:=.agg (Stowed.cs y27)) (ds:=[G0 y27.G9,G0 y27.Slot.G4,G0 y27.Slot.Tier,U8 y27.Slot.Half]) Rb O O O O O O O O) (G7 (hK31 ?_)))))))))
    refine Gs [(1,E2 boxes),(2,E1 l),(3,Ec s),(10,G0 s27),(12,Ed y27),(35,E1 l),(36,Ej l.length),(37,Ej i27)] [] 1030 rfl rfl rfl G rfl (by repeat' (first | exact .ptr | constructor)) (G3 (Ys (G0 s27) O (Ys (E2 boxes) O (JLh (Ed y27) (Gf Hg O O O) O (JLh (G0 y27.G9) (Gi Gb O O O) O ?_)))))
    obtain⟨r32,hr32,h⟩:=Gd h
    refine JLh (G0 r32) (Gt O (Qq boxes y27.G9 r32 hr32) G30 ⟨O,O,O,O,G⟩) O (JLh (G0 (min s27 r32)) (A_min O O O) O (Ys (G0 (min s27 r32)) O (G7 (hK30 (G3 (JLh (G0 ((i27+1:Nat):Int)) (Hx (Ho hk27 hm36) O O O) O (Ys (G0 ((i27+1:Nat):Int)) O (G7 (e27 _ _ (i27+1) (min s27 r32) (app1 hn27 h) (by omega) ⟨(by repeat' constructor),G,rfl⟩)))))))))
   ·
    have h:=app1 hkx27 (Hr hi27 (Hb hb))
    refine Ht (hK13 (Jr fun hK33=>(JLh (OW 1031 1 G0 ([]:List Int)) (G3d 1031 3 1 O O O) O (JLh (OW 1032 1 G0 ([]:List Int)) (G3d 1032 3 1 O O O) O (G7 (hK33 (Js fun hK34=>Jr fun hK35=>(Ys (E1 l) O (JLl H2 O O O fun hm49=>(Ys (G0 0) O (G7 (hK35 (Gv ?_)))))))))))))
    obtain⟨b52,kx52,hb52,hkx52,h⟩:=J0 h
    refine Hp (fun i52 (s52:(List Int))=>each b52 kx52 (List.drop i52 l) i52 s52=some r) (fun i52 s52=>[(1,E2 boxes),(2,E1 l),(3,Ec s),(10,G0 s27),(13,OW 1031 1 G0 s52),(14,OW 1032 1 G0 ([]:List Int)),(48,E1 l),(49,Ej l.length),(50,Ej i52)]) (fun i52 s52=>[(1031,.spare 3 1 s52.length s52.length),(1032,.spare 3 1 ([]:List Int).length ([]:List Int).length)]) (fun i52=>l.length - i52) 0 [] h ⟨(by repeat' constructor),⟨⟨_,rfl,.same⟩,⟨_,rfl,.same⟩,G⟩,rfl⟩ ?_
    clear h
    intro i52 s52 hi52 K52 e52
    refine Jr fun hK53=>(JLh (BL (decide ((i52:Int) < (l.length:Int)))) (Ja O O O) O (G7 (hK53 (Js fun hK54=>Gm O (fun hb=>?_) (fun hb=>?_)))))
    ·
     have hk52:=Jh hb
     obtain⟨y52,nx52,hy52,hn52,h⟩:=Hq hi52 hk52
     replace h:=Y6 hb52 h
     refine Gq (hK54 ?_)
     obtain⟨kj55,hkj55,h⟩:=Rc h
     refine Qk (fun j55:(List Int)=>kj55 j55=some r) (fun j55=>[(1,E2 boxes),(2,E1 l),(3,Ec s),(10,G0 s27),(13,OW 1031 1 G0 j55),(14,OW 1032 1 G0 ([]:List Int)),(48,E1 l),(49,Ej l.length),(50,Ej i52)]) (fun j55=>[(1031,.spare 3 1 j55.length j55.length),(1032,.spare 3 1 ([]:List Int).length ([]:List Int).length)]) (fun Kj55 ej55=>?_) ?_
     ·
      refine Gv (Jr fun hK56=>(JLh (Ed y52) (Ha (f:=Stowed.av) (xs:=l) (y:=y52) O O O H2 hy52 O) O (JLh (.agg (Stowed.cs y52)) (Gg Qx O O O) O (JLh (.ptr 1033 0) (Hu 1033 4 Jv O O) O (Hw (u:=.junk) (Hj (u:=.agg (Stowed.cs y52)) (ds:=[G0 y52.G9,G0 y52.Slot.G4,G0 y52.Slot.Tier,U8 y52.Slot.Half]) Rb O O O O O O O O) (G7 (hK56 ?_)))))))
      refine Gs [(1,E2 boxes),(2,E1 l),(3,Ec s),(10,G0 s27),(13,OW 1031 1 G0 s52),(14,OW 1032 1 G0 ([]:List Int)),(16,Ed y52),(48,E1 l),(49,Ej l.length),(50,Ej i52)] [(1031,.spare 3 1 s52.length s52.length),(1032,.spare 3 1 ([]:List Int).length ([]:List Int).length)] 1033 rfl rfl rfl ⟨⟨_,rfl,.same⟩,⟨_,rfl,.same⟩,G⟩ rfl (by repeat' (first | exact .ptr | constructor)) ?_
      refine Jr fun hK57=>(Ys (E2 boxes) O (JLh (Ed y52) (Gf Hg O O O) O (JLh (G0 y52.G9) (Gi Gb O O O) O ?_)))
      obtain⟨r58,hr58,h⟩:=Gd h
      refine JLh (G0 r58) (Gt O (Qq boxes y52.G9 r58 hr58) G30 ⟨O,O,O,O,G⟩) O (Ys (G0 s27) O (JLh (BL (decide (r58=s27))) (Jy O O O) O (G7 (hK57 (JCc O h (fun h hb=>?_) (fun h hb=>?_))))))
      ·
       refine G3 (Ys (OW 1031 1 G0 s52) O (JLh (Ed y52) (Gf Hg O O O) O (JLh (G0 y52.G9) (Gi Gb O O O) O (JLh (E0 [y52.G9]) (H8 (xs:=[G0 y52.G9]) O ⟨O,O,G⟩ Gp Jz O O O O) O ?_))))
       obtain⟨ha59,h⟩:=J6 h
       refine JLh (OW 1031 1 G0 (s52++[y52.G9])) (R6 (f:=G0) (xs:=s52) (ys:=[y52.G9]) O O O O Gp Zk ha59 (fun _=>O) (.inl O) O) O (Ys (OW 1031 1 G0 (s52++[y52.G9])) O (G7 (ej55 _ _ (s52++[y52.G9]) h ⟨(by repeat' constructor),⟨⟨_,rfl,.same⟩,⟨_,rfl,.same⟩,G⟩,rfl⟩)))
      ·
       refine Gq (ej55 _ _ s52 h ⟨(by repeat' constructor),⟨⟨_,rfl,.same⟩,⟨_,rfl,.same⟩,G⟩,rfl⟩)
     ·intro j55 h
      replace h:=app1 hkj55 h
      refine G3 (JLh (G0 ((i52+1:Nat):Int)) (Hx (Ho hk52 hm49) O O O) O (Ys (G0 ((i52+1:Nat):Int)) O (G7 (e52 _ _ (i52+1) j55 (app1 hn52 h) (by omega) ⟨(by repeat' constructor),⟨⟨_,rfl,.same⟩,⟨_,rfl,.same⟩,G⟩,rfl⟩))))
    ·
     have h:=app1 hkx52 (Hr hi52 (Hb hb))
     refine Ht (hK34 (Jr fun hK60=>(JLh (.agg (Gr.cs s)) (Gg H4 O O O) O (Ys (E2 boxes) O (Ys (E1 l) O (Ys (OW 1031 1 G0 s52) O ?_))))))
     obtain⟨r61,hr61,h⟩:=Gd h
     refine JLh (.tup [E0 r61.1,G0 r61.2]) (Gt O (Gdc.down F s boxes l s52 r61 hr61) H8e ⟨O,O,O,O,O,O,O,O,G⟩) O (Ys (.tup [E0 r61.1,G0 r61.2]) O (JLh (E0 r61.1) (Gn O O O) O (JLh (G0 r61.2) (Gn O O O) O (Ys (E0 r61.1) O (Ys (G0 r61.2) O (G7 (hK60 (Js fun hK62=>Jr fun hK63=>(Ys (E0 r61.1) O (JLl Gp O O O fun hm75=>(Ys (G0 0) O (G7 (hK63 (Gv ?_))))))))))))))
     obtain⟨b80,kx80,hb80,hkx80,h⟩:=J0 h
     refine Hp (fun i80 (s80:(List Int))=>each b80 kx80 (List.drop i80 r61.1) i80 s80=some r) (fun i80 s80=>[(1,E2 boxes),(10,G0 s27),(13,OW 1031 1 G0 s52),(14,OW 1032 1 G0 s80),(74,E0 r61.1),(75,Ej r61.1.length),(76,Ej i80)]) (fun i80 s80=>[(1031,.spare 3 1 s52.length s52.length),(1032,.spare 3 1 s80.length s80.length)]) (fun i80=>r61.1.length - i80) 0 [] h ⟨(by repeat' constructor),⟨⟨_,rfl,.same⟩,⟨_,rfl,.same⟩,G⟩,rfl⟩ ?_
     clear h
     intro i80 s80 hi80 K80 e80
     refine Jr fun hK81=>(JLh (BL (decide ((i80:Int) < (r61.1.length:Int)))) (Ja O O O) O (G7 (hK81 (Js fun hK82=>Gm O (fun hb=>?_) (fun hb=>?_)))))
     ·
      have hk80:=Jh hb
      obtain⟨y80,nx80,hy80,hn80,h⟩:=Hq hi80 hk80
      replace h:=Y6 hb80 h
      refine Gq (hK82 ?_)
      obtain⟨kj83,hkj83,h⟩:=Rc h
      refine Qk (fun j83:(List Int)=>kj83 j83=some r) (fun j83=>[(1,E2 boxes),(10,G0 s27),(13,OW 1031 1 G0 s52),(14,OW 1032 1 G0 j83),(74,E0 r61.1),(75,Ej r61.1.length),(76,Ej i80)]) (fun j83=>[(1031,.spare 3 1 s52.length s52.length),(1032,.spare 3 1 j83.length j83.length)]) (fun Kj83 ej83=>?_) ?_
      ·
       refine Gv (Jr fun hK84=>(JLh (.dptr [G0 y80]) (Ha (f:=G0) (xs:=r61.1) (y:=y80) O O O Gp hy80 O) O (JLh (G0 y80) (Gi Gb O O O) O (Ys (G0 y80) O (G7 (hK84 (Jr fun hK85=>(Ys (E2 boxes) O (Ys (G0 y80) O ?_)))))))))
       obtain⟨r86,hr86,h⟩:=Gd h
       refine JLh (G0 r86) (Gt O (Qq boxes y80 r86 hr86) G30 ⟨O,O,O,O,G⟩) O (Ys (G0 s27) O (JLh (BL (decide (r86≠s27))) (Zu O O O) O (G7 (hK85 (JCc O h (fun h hb=>?_) (fun h hb=>?_))))))
       ·
        refine G3 (Ys (OW 1032 1 G0 s80) O (Ys (G0 y80) O (JLh (E0 [y80]) (H8 (xs:=[G0 y80]) O ⟨O,O,G⟩ Gp Jz O O O O) O ?_)))
        obtain⟨ha87,h⟩:=J6 h
        refine JLh (OW 1032 1 G0 (s80++[y80])) (R6 (f:=G0) (xs:=s80) (ys:=[y80]) O O O O Gp Zk ha87 (fun _=>O) (.inl O) O) O (Ys (OW 1032 1 G0 (s80++[y80])) O (G7 (ej83 _ _ (s80++[y80]) h ⟨(by repeat' constructor),⟨⟨_,rfl,.same⟩,⟨_,rfl,.same⟩,G⟩,rfl⟩)))
       ·
        refine Gq (ej83 _ _ s80 h ⟨(by repeat' constructor),⟨⟨_,rfl,.same⟩,⟨_,rfl,.same⟩,G⟩,rfl⟩)
      ·intro j83 h
       replace h:=app1 hkj83 h
       refine G3 (JLh (G0 ((i80+1:Nat):Int)) (Hx (Ho hk80 hm75) O O O) O (Ys (G0 ((i80+1:Nat):Int)) O (G7 (e80 _ _ (i80+1) j83 (app1 hn80 h) (by omega) ⟨(by repeat' constructor),⟨⟨_,rfl,.same⟩,⟨_,rfl,.same⟩,G⟩,rfl⟩))))
     ·
      have h:=app1 hkx80 (Hr hi80 (Hb hb))
      refine Ht (hK62 (Jr fun hK88=>(Ys (G0 s27) O (Ys (OW 1031 1 G0 s52) O (Ys (OW 1032 1 G0 s80) O (Ys (G0 s27) O (Ys (OW 1031 1 G0 s52) O (Ys (OW 1032 1 G0 s80) O (Ys (G0 0) O (G7 (hK88 (Gw (⟨[G0 s27,E0 s52,E0 s80,G0 0],[],G,O,⟨⟨_,O,.conv (.same O)⟩,⟨_,O,.conv (.list O)⟩,⟨_,O,.conv (.list O)⟩,⟨_,O,.conv (.same O)⟩,G⟩,O,congrArg (fun r:Int×(List Int)×(List Int)×Int=>(.tup [G0 r.1,E0 r.2.1,E0 r.2.2.1,G0 r.2.2.2]:AV)) (Option.some.inj h)⟩)))))))))))))

def H24 (s:Gr) (boxes:List G9) (l:List Stowed) (b:G9):Option Unit:=
 some ()
theorem J8f (s:Gr) (boxes:List G9) (l:List Stowed) (b:G9) (r:Unit) (h:H24 s boxes l b=some r):Pure Ek 38 [.agg (Gr.cs s),E2 boxes,E1 l,.agg (G9.cs b)] (·=.fn 72 [.dptr (Gr.cs s),Ef b,.dptr [E2 boxes],.dptr [E1 l]]):=by
 unfold H24 at h
 refine H5 [.tmp 8] Tryz.func38 O O (Jr fun hK1=>(JLh (.ptr 1102 0) (Jj (cs:=(Gr.cs s)) 1102 O O O O O) O (JLh (.ptr 1103 0) (Jj (cs:=[E2 boxes]) 1103 O O O O O) O (JLh (.ptr 1104 0) (Jj (cs:=[E1 l]) 1104 O O O O O) O (JLh (.ptr 1105 0) (Jj (cs:=(G9.cs b)) 1105 O O O O O) O (Ys (.sc .nilFunc) O (G7 (hK1 ?_))))))))
 refine Gs [(4,Ec s),(5,.ptr 1103 0),(6,.ptr 1104 0),(7,.ptr 1105 0)] [(1103,.box 36 [E2 boxes]),(1104,.box 37 [E1 l]),(1105,.box 61 (G9.cs b))] 1102 rfl rfl rfl ⟨⟨_,rfl,.boxEq rfl rfl⟩,⟨_,rfl,.boxEq rfl rfl⟩,⟨_,rfl,.boxEq rfl rfl⟩,G⟩ rfl (by repeat' (first | exact .ptr | constructor)) ?_
 refine Gs [(4,Ec s),(5,.dptr [E2 boxes]),(6,.ptr 1104 0),(7,.ptr 1105 0)] [(1104,.box 37 [E1 l]),(1105,.box 61 (G9.cs b))] 1103 rfl rfl rfl ⟨⟨_,rfl,.boxEq rfl rfl⟩,⟨_,rfl,.boxEq rfl rfl⟩,G⟩ rfl (by repeat' (first | exact .ptr | constructor)) ?_
 refine Gs [(4,Ec s),(5,.dptr [E2 boxes]),(6,.dptr [E1 l]),(7,.ptr 1105 0)] [(1105,.box 61 (G9.cs b))] 1104 rfl rfl rfl ⟨⟨_,rfl,.boxEq rfl rfl⟩,G⟩ rfl (by repeat' (first | exact .ptr | constructor)) ?_
 refine Gs [(4,Ec s),(5,.dptr [E2 boxes]),(6,.dptr [E1 l]),(7,Ef b)] [] 1105 rfl rfl rfl G rfl (by repeat' (first | exact .ptr | constructor)) ?_
 refine Jr fun hK2=>(JLh (.fn 72 [.dptr (Gr.cs s),Ef b,.dptr [E2 boxes],.dptr [E1 l]]) (Yd (cs:=[.dptr (Gr.cs s),Ef b,.dptr [E2 boxes],.dptr [E1 l]]) O O) O (Ys (.fn 72 [.dptr (Gr.cs s),Ef b,.dptr [E2 boxes],.dptr [E1 l]]) O (G7 (hK2 ?_))))
 refine Gw ?_
 exact⟨[.fn 72 [.dptr (Gr.cs s),Ef b,.dptr [E2 boxes],.dptr [E1 l]]],[],G,O,⟨⟨_,O,.conv (.same O)⟩,G⟩,O,congrArg (fun _:Unit=>(.fn 72 [.dptr (Gr.cs s),Ef b,.dptr [E2 boxes],.dptr [E1 l]]:AV)) (Option.some.inj h)⟩

def Yq (F:Nat) (s:Gr) (boxes:List G9) (l:List Stowed) (id_:Int):Option ((List Slot)×Int×Int):=
 bnd (Q3 s boxes l) fun r4=>
 bif (!r4) then
 (some ([],0,2))
 else
 (bnd (Zs boxes id_) fun r7=>
  bif ((!r7.2)||((decide (r7.1.Size≠20))&&(decide (r7.1.Size≠40)))) then
  (some ([],0,6))
  else
  (bnd (G94 l id_) fun r12=>
   bif r12 then
   (some ([],0,96))
   else
   (bnd (H24 s boxes l r7.1) fun r18=>
    bnd (H4b F s r7.1 boxes l) fun ys35=>
    each (fun y35 i35 (s35:(List Slot)×Int×Nat) nx35=>
     bnd (Zm F s boxes y35.2 id_) fun r38=>
     jp (fun kj39=>
      bif ((decide ((s35.1.length:Int)=0))||(decide ((r38.length:Int) < s35.2.1))) then
      (kj39 ((s35.2.2+1),(r38.length:Int),[]))
      else
      (kj39 (s35.2.2,s35.2.1,s35.1))) fun(j39:Nat×Int×(List Slot))=>
     bif decide ((r38.length:Int)=j39.2.1) then
     (need (decide ((j39.2.2.length+[y35.1].length)*24≤140737488355328∧j39.2.2.length+[y35.1].length≤maxLen)) <|
      nx35 ((j39.2.2++[y35.1]),j39.2.1,(j39.1+1)))
     else
     (nx35 (j39.2.2,j39.2.1,j39.1)))
    (fun(s35:(List Slot)×Int×Nat)=>
     bif decide ((s35.1.length:Int)=0) then
     (some ([],0,4))
     else
     (some (s35.1,s35.2.1,0))) ys35 0 ([],0,0))))
theorem Zb (F:Nat) (s:Gr) (boxes:List G9) (l:List Stowed) (id_:Int) (r:(List Slot)×Int×Int) (h:Yq F s boxes l id_=some r):Pure Ek 16 [.agg (Gr.cs s),E2 boxes,E1 l,G0 id_] (·=.tup [E8 r.1,G0 r.2.1,G0 r.2.2]):=by
 unfold Yq at h
 refine H5 [.tmp 8,.tmp 9,.tmp 10] Tryz.func16 O O (Jr fun hK1=>(JLh (.ptr 1041 0) (Jj (cs:=(Gr.cs s)) 1041 O O O O O) O (JLh (.ptr 1042 0) (Jj (cs:=[E2 boxes]) 1042 O O O O O) O (JLh (.ptr 1043 0) (Jj (cs:=[G0 id_]) 1043 O O O O O) O (JLh (E8 ([]:List Slot)) (He 3 O O) O (Ys (G0 0) O (Ys (G0 0) O (G7 (hK1 ?_)))))))))
 refine Gs [(2,E1 l),(4,Ec s),(5,.ptr 1042 0),(7,.ptr 1043 0)] [(1042,.box 36 [E2 boxes]),(1043,.box 3 [G0 id_])] 1041 rfl rfl rfl ⟨⟨_,rfl,.boxEq rfl rfl⟩,⟨_,rfl,.boxEq rfl rfl⟩,G⟩ rfl (by repeat' (first | exact .ptr | constructor)) ?_
 refine Gs [(2,E1 l),(4,Ec s),(5,.dptr [E2 boxes]),(7,.ptr 1043 0)] [(1043,.box 3 [G0 id_])] 1042 rfl rfl rfl ⟨⟨_,rfl,.boxEq rfl rfl⟩,G⟩ rfl (by repeat' (first | exact .ptr | constructor)) ?_
 refine Gs [(2,E1 l),(4,Ec s),(5,.dptr [E2 boxes]),(7,.dptr [G0 id_])] [] 1043 rfl rfl rfl G rfl (by repeat' (first | exact .ptr | constructor)) (Js fun hK2=>Jr fun hK3=>(JLh (.agg (Gr.cs s)) (Gg H4 O O O) O (JLh (E2 boxes) (Gi Ye O O O) O (Ys (E1 l) O ?_))))
 obtain⟨r4,hr4,h⟩:=Gd h
 refine JLh (BL r4) (Gt O (Yn s boxes l r4 hr4) G31 ⟨O,O,O,O,O,O,G⟩) O (JLh (BL (!r4)) (Rm (b:=r4) O O) O (G7 (hK3 (JCc O h (fun h hb=>?_) (fun h hb=>?_)))))
 ·
  refine Jr fun hK5=>(JLh (E8 ([]:List Slot)) (He 3 O O) O (Ys (G0 0) O (Ys (G0 2) O (G7 (hK5 (Gw (⟨[E8 ([]:List Slot),G0 0,G0 2],[],G,O,⟨⟨_,O,.conv (.same O)⟩,⟨_,O,.conv (.same O)⟩,⟨_,O,.conv (.same O)⟩,G⟩,O,congrArg (fun r:(List Slot)×Int×Int=>(.tup [E8 r.1,G0 r.2.1,G0 r.2.2]:AV)) (Option.some.inj h)⟩)))))))
 ·
  refine Gq (hK2 (Jr fun hK6=>(JLh (E2 boxes) (Gi Ye O O O) O (JLh (G0 id_) (Gi Gb O O O) O ?_))))
  obtain⟨r7,hr7,h⟩:=Gd h
  refine JLh (.tup [.agg (G9.cs r7.1),BL r7.2]) (Gt O (G5b boxes id_ r7 hr7) Gcc ⟨O,O,O,O,G⟩) O (Ys (.tup [.agg (G9.cs r7.1),BL r7.2]) O (JLh (.agg (G9.cs r7.1)) (Gn O O O) O (JLh (BL r7.2) (Gn O O O) O (JLh (.ptr 1044 0) (Hu 1044 9 Ry O O) O (Hw (u:=.junk) (Hj (u:=.agg (G9.cs r7.1)) (ds:=(G9.cs r7.1)) Zw O O O O O O O O) (Ys (BL r7.2) O (G7 (hK6 ?_))))))))
  refine Gs [(2,E1 l),(4,Ec s),(5,.dptr [E2 boxes]),(7,.dptr [G0 id_]),(11,Ef r7.1),(12,BL r7.2)] [] 1044 rfl rfl rfl G rfl (by repeat' (first | exact .ptr | constructor)) (Js fun hK8=>Gv ?_)
  refine Jr fun hK9=>(Ys (BL r7.2) O (JLh (BL (!r7.2)) (Rm (b:=r7.2) O O) O (Ys (BL (!r7.2)) O (JLo (.dptr ((G9.cs r7.1).drop 2)) [] O .scf G (fun hc=>Gf Rn O O O) O (JLo (U8 r7.1.Size) [33] O .scf ⟨Ua,G⟩ (fun hc=>Gi J9 O O O) O (JLo (BL (decide (r7.1.Size≠20))) [34] O .scf ⟨Ua,G⟩ (fun hc=>Zu O O O) O (JLo (BL (decide (r7.1.Size≠20))) [35] O .scf ⟨Ua,G⟩ (fun hc=>G5 O O) O (JLo (.dptr ((G9.cs r7.1).drop 2)) [] O .optt G (fun hc=>Gf Rn O O O) O (JLo (U8 r7.1.Size) [37] O .optt ⟨Ua,G⟩ (fun hc=>Gi J9 O O O) O (JLo (BL (decide (r7.1.Size≠40))) [38] O .optt ⟨Ua,G⟩ (fun hc=>Zu O O O) O (Gc (u:=BL ((decide (r7.1.Size≠20))&&(decide (r7.1.Size≠40)))) [(36,BL (decide (r7.1.Size≠20))),(39,_)] O O O .scf ⟨.all id,.part,G⟩ (fun hc=>Q9 O O O O) ?_)))))))))))
  refine JLh (BL ((!r7.2)||((decide (r7.1.Size≠20))&&(decide (r7.1.Size≠40))))) (Zi O O O O) O (Ys (BL ((!r7.2)||((decide (r7.1.Size≠20))&&(decide (r7.1.Size≠40))))) O (G7 (hK9 (JCc O h (fun h hb=>?_) (fun h hb=>?_)))))
  ·
   refine Jr fun hK10=>(JLh (E8 ([]:List Slot)) (He 3 O O) O (Ys (G0 0) O (Ys (G0 6) O (G7 (hK10 (Gw (⟨[E8 ([]:List Slot),G0 0,G0 6],[],G,O,⟨⟨_,O,.conv (.same O)⟩,⟨_,O,.conv (.same O)⟩,⟨_,O,.conv (.same O)⟩,G⟩,O,congrArg (fun r:(List Slot)×Int×Int=>(.tup [E8 r.1,G0 r.2.1,G0 r.2.2]:AV)) (Option.some.inj h)⟩)))))))
  ·
   refine Jr fun hK11=>(Ys (E1 l) O (JLh (G0 id_) (Gi Gb O O O) O ?_))
   obtain⟨r12,hr12,h⟩:=Gd h
   refine JLh (BL r12) (Gt O (Hca l id_ r12 hr12) J4e ⟨O,O,O,O,G⟩) O (Ys (BL r12) O (G7 (hK11 (JCc O h (fun h hb=>?_) (fun h hb=>?_)))))
   ·
    refine Jr fun hK13=>(JLh (E8 ([]:List Slot)) (He 3 O O) O (Ys (G0 0) O (Ys (G0 96) O (G7 (hK13 (Gw (⟨[E8 ([]:List Slot),G0 0,G0 96],[],G,O,⟨⟨_,O,.conv (.same O)⟩,⟨_,O,.conv (.same O)⟩,⟨_,O,.conv (.same O)⟩,G⟩,O,congrArg (fun r:(List Slot)×Int×Int=>(.tup [E8 r.1,G0 r.2.1,G0 r.2.2]:AV)) (Option.some.inj h)⟩)))))))
   ·
    refine Gq (hK8 (Jr fun hK14=>(JLh (.ptr 1045 0) (G87 1045 [.sc (.slice none 0 0)] [.slice none 0 0] J2d ⟨.inl O,G⟩ O O) O (H25 1045 0 1048 47 3 O O O (cs':=[.own 1048 0 3 (([]:List Slot).map Slot.av)]) O (G7 (hK14 (Jr fun hK15=>(JLh (.ptr 1046 0) (Hu 1046 1 Jz O O) O (Hw (u:=.junk) (Hj (u:=G0 0) (ds:=[G0 0]) G40 O O O O O O O O) (G7 (hK15 (Js fun hK16=>?_))))))))))))
    refine Jr fun hK17=>(JLh (.agg (Gr.cs s)) (Gg H4 O O O) O (JLh (E2 boxes) (Gi Ye O O O) O (Ys (E1 l) O (JLh (.agg (G9.cs r7.1)) (Gg G41 O O O) O ?_))))
    obtain⟨r18,hr18,h⟩:=Gd h
    refine JLh (.fn 72 [.dptr (Gr.cs s),Ef r7.1,.dptr [E2 boxes],.dptr [E1 l]]) (Gt O (J8f s boxes l r7.1 r18 hr18) Jf5 ⟨O,O,O,O,O,O,O,O,G⟩) O (G7 (hK17 (Gv ?_)))
    obtain⟨ys35,hy_35,h⟩:=Gd h
    obtain⟨b35,kx35,hb35,hkx35,h⟩:=J0 h
    refine Hcc (ps:=[51,52]) [(4,Ec s),(5,.dptr [E2 boxes]),(7,.dptr [G0 id_]),(13,.ptr 1045 0),(14,.ptr 1046 0),(50,.fn 72 [.dptr (Gr.cs s),Ef r7.1,.dptr [E2 boxes],.dptr [E1 l]])] (ys35.map (fun y:Slot×(List Stowed)=>[.agg (Slot.cs y.1),E1 y.2])) (fun i35 (s35:(List Slot)×Int×Nat)=>each b35 kx35 (List.drop i35 ys35) i35 s35=some r) (fun s35=>[(1048,.spare 47 3 s35.2.2 s35.1.length),(1045,.box 62 [.own 1048 s35.2.2 3 (s35.1.map Slot.av)]),(1046,.box 3 [G0 s35.2.1])]) ([],0,0) rfl rfl rfl Je3 (Heb.down F s r7.1 boxes l ys35 hy_35) h ⟨(by repeat' constructor),⟨⟨_,rfl,.same⟩,⟨_,rfl,.boxL rfl ⟨.same rfl,trivial⟩⟩,⟨_,rfl,.boxL rfl ⟨.same rfl,trivial⟩⟩,trivial⟩,rfl⟩ rfl (fun us_ hus_=>by obtain⟨_,_,rfl⟩:=List.mem_map.1 hus_; rfl) (fun p_ hp_=>Nat.blt_eq.mp (by revert p_; decide)) (fun _=>(by repeat' constructor)) (fun _=>rfl) ?_ ?_
    ·
     intro i35 us_ s35 hu_ hi35 lr_ K35 e35
     obtain⟨hk35,rfl⟩:=mapf_at hu_
     obtain⟨y35,nx35,hy35,hn35,h⟩:=Hq hi35 hk35
     replace h:=Y6 hb35 h
     obtain⟨_,rfl⟩:=List.getElem?_eq_some_iff.1 hy35
     generalize ys35[i35]=y35 at h ⊢
     change JC _ _ _ _ [(52,E1 y35.2),(51,.agg (Slot.cs y35.1)),(4,Ec s),(5,.dptr [E2 boxes]),(7,.dptr [G0 id_]),(13,.ptr 1045 0),(14,.ptr 1046 0),(50,.fn 72 [.dptr (Gr.cs s),Ef r7.1,.dptr [E2 boxes],.dptr [E1 l]])] [(1048,.spare 47 3 s35.2.2 s35.1.length),(1045,.box 62 [.own 1048 s35.2.2 3 (s35.1.map Slot.av)]),(1046,.box 3 [G0 s35.2.1])]
     refine Jr fun hK36=>(JLh (.ptr 1047 0) (Hu 1047 3 Rz O O) O (Hw (u:=.junk) (Hj (u:=.agg (Slot.cs y35.1)) (ds:=[G0 y35.1.G4,G0 y35.1.Tier,U8 y35.1.Half]) G2f O O O O O O O O) (G7 (hK36 ?_))))
     refine Gs [(4,Ec s),(5,.dptr [E2 boxes]),(7,.dptr [G0 id_]),(13,.ptr 1045 0),(14,.ptr 1046 0),(15,Eh y35.1),(52,E1 y35.2)] [(1048,.spare 47 3 s35.2.2 s35.1.length),(1045,.box 62 [.own 1048 s35.2.2 3 (s35.1.map Slot.av)]),(1046,.box 3 [G0 s35.2.1])] 1047 rfl rfl rfl ⟨⟨_,rfl,.same⟩,⟨_,rfl,.boxEq rfl rfl⟩,⟨_,rfl,.boxEq rfl rfl⟩,G⟩ rfl (by repeat' (first | exact .ptr | constructor)) (G3 (Ys (E1 y35.2) O (G7 (Mid_go (Gv ?_)))))
     refine Jr fun hK37=>(JLh (.agg (Gr.cs s)) (Gg H4 O O O) O (JLh (E2 boxes) (Gi Ye O O O) O (Ys (E1 y35.2) O (JLh (G0 id_) (Gi Gb O O O) O ?_))))
     obtain⟨r38,hr38,h⟩:=Gd h
     refine JLh (E0 r38) (Gt O (Gf2 F s boxes y35.2 id_ r38 hr38) J4d ⟨O,O,O,O,O,O,O,O,G⟩) O (JLl Gp O O O fun hm58=>(Ys (Ej r38.length) O (G7 (hK37 ?_))))
     obtain⟨kj39,hkj39,h⟩:=Rc h
     refine Qk (fun j39:Nat×Int×(List Slot)=>kj39 j39=some r) (fun j39=>[(13,.ptr 1045 0),(14,.ptr 1046 0),(15,Eh y35.1),(17,Ej r38.length)]) (fun j39=>[(1048,.spare 47 3 j39.1 j39.2.2.length),(1046,.box 3 [G0 j39.2.1]),(1045,.box 62 [.own 1048 j39.1 3 (j39.2.2.map Slot.av)])]) (fun Kj39 ej39=>?_) ?_
     ·
      refine Jr fun hK40=>(JLh (.own 1048 s35.2.2 3 (s35.1.map Slot.av)) (R3 G11 O O O O) O (JLl J1 O O O fun hm60=>(JLh (BL (decide ((s35.1.length:Int)=0))) (Jy O O O) O (Ys (BL (decide ((s35.1.length:Int)=0))) O (JLo (Ej r38.length) [] O .scf G (fun hc=>G5 O O) O (JLo (G0 s35.2.1) [] O .scf G (fun hc=>R3 Gb O O O O) O (JLo (BL (decide ((r38.length:Int) < s35.2.1))) [63,64] O .scf ⟨Ua,Ua,G⟩ (fun hc=>Ja O O O) O (JLh (BL ((decide ((s35.1.length:Int)=0))||(decide ((r38.length:Int) < s35.2.1)))) (Zi O O O O) O (G7 (hK40 (JCc O h (fun h hb=>?_) (fun h hb=>?_))))))))))))
      ·
       refine G3 (Ys (Ej r38.length) O (Hw (u:=.junk) (Hj (u:=.sc (.slice none 0 0)) (ds:=[.sc (.slice none 0 0)]) H87 O O O O O O O O) (Jcb 1045 0 1048 47 3 s35.2.2 O O O (cs':=[.own 1048 (s35.2.2+1) 3 (([]:List Slot).map Slot.av)]) O (Hw (u:=.junk) (Hj (u:=Ej r38.length) (ds:=[Ej r38.length]) G40 O O O O O O O O) (G7 (ej39 _ _ ((s35.2.2+1),(r38.length:Int),[]) h ⟨(by repeat' constructor),⟨⟨_,rfl,.same⟩,⟨_,rfl,.boxL rfl ⟨.same rfl,G⟩⟩,⟨_,rfl,.boxL rfl ⟨.same rfl,G⟩⟩,G⟩,rfl⟩))))))
      ·
       refine Gq (ej39 _ _ (s35.2.2,s35.2.1,s35.1) h ⟨(by repeat' constructor),⟨⟨_,rfl,.same⟩,⟨_,rfl,.boxL rfl ⟨.same rfl,G⟩⟩,⟨_,rfl,.boxL rfl ⟨.same rfl,G⟩⟩,G⟩,rfl⟩)
     ·intro j39 h
      replace h:=app1 hkj39 h
      refine Jr fun hK41=>(Ys (Ej r38.length) O (JLh (G0 j39.2.1) (R3 Gb O O O O) O (JLh (BL (decide ((r38.length:Int)=j39.2.1))) (Jy O O O) O (G7 (hK41 (JCc O h (fun h hb=>?_) (fun h hb=>?_)))))))
      ·
       refine G3 (JLh (.own 1048 j39.1 3 (j39.2.2.map Slot.av)) (R3 G11 O O O O) O (JLh (.agg (Slot.cs y35.1)) (Gg J8 O O O) O (JLh (E8 [y35.1]) (H8 (xs:=[.agg (Slot.cs y35.1)]) O ⟨O,O,G⟩ J1 Rz O O O O) O ?_)))
       obtain⟨ha42,h⟩:=J6 h
       refine JLh (.own 1048 (j39.1+1) 3 ((j39.2.2++[y35.1]).map Slot.av)) (A_appendG (f:=Slot.av) (xs:=j39.2.2) (ys:=[y35.1]) O O O O J1 H8a ha42 (fun _=>O) (.inl O)) O (Hw (u:=.junk) (Hj (u:=.own 1048 (j39.1+1) 3 ((j39.2.2++[y35.1]).map Slot.av)) (ds:=[.own 1048 (j39.1+1) 3 ((j39.2.2++[y35.1]).map Slot.av)]) H87 O O O O O O O O) (G7 (e35 _ _ ((j39.2.2++[y35.1]),j39.2.1,(j39.1+1)) (app1 hn35 h) ⟨G,⟨⟨_,O,.same⟩,⟨_,O,.boxL O ⟨.same O,G⟩⟩,⟨_,O,.boxL O ⟨.same O,G⟩⟩,G⟩,O⟩)))
      ·
       refine Gq (e35 _ _ (j39.2.2,j39.2.1,j39.1) (app1 hn35 h) ⟨G,⟨⟨_,O,.same⟩,⟨_,O,.boxL O ⟨.same O,G⟩⟩,⟨_,O,.boxL O ⟨.same O,G⟩⟩,G⟩,O⟩)
    ·
     intro s35 h
     rw [List.length_map] at h
     replace h:=app1 hkx35 (Hr h (Nat.lt_irrefl _))
     refine hK16 (Js fun hK43=>Jr fun hK44=>(JLh (.own 1048 s35.2.2 3 (s35.1.map Slot.av)) (R3 G11 O O O O) O (JLl J1 O O O fun hm76=>(JLh (BL (decide ((s35.1.length:Int)=0))) (Jy O O O) O (G7 (hK44 (Yh (l':=[(13,.ptr 1045 0),(14,.ptr 1046 0),(77,BL (decide ((s35.1.length:Int)=0)))]) (L':=[(1045,.box 62 [E8 s35.1]),(1046,.box 3 [G0 s35.2.1])]) ⟨⟨.same O,.same O,.same O,G⟩,⟨⟨_,O,.boxL O ⟨.list O,G⟩⟩,⟨_,O,.boxL O ⟨.same O,G⟩⟩,G⟩,O⟩ (Gs [(13,.dptr [E8 s35.1]),(14,.ptr 1046 0),(77,BL (decide ((s35.1.length:Int)=0)))] [(1046,.box 3 [G0 s35.2.1])] 1045 rfl rfl rfl ⟨⟨_,rfl,.boxEq rfl rfl⟩,G⟩ rfl (by exact⟨.ptr,.conv (.same rfl),.conv (.same rfl),G⟩) ?_))))))))
     refine Gs [(13,.dptr [E8 s35.1]),(14,.dptr [G0 s35.2.1]),(77,BL (decide ((s35.1.length:Int)=0)))] [] 1046 rfl rfl rfl G rfl (by exact⟨.conv (.same rfl),.ptr,.conv (.same rfl),G⟩) (JCc O h (fun h hb=>?_) (fun h hb=>?_))
     ·
      refine Jr fun hK45=>(JLh (E8 ([]:List Slot)) (He 3 O O) O (Ys (G0 0) O (Ys (G0 4) O (G7 (hK45 (Gw (⟨[E8 ([]:List Slot),G0 0,G0 4],[],G,O,⟨⟨_,O,.conv (.same O)⟩,⟨_,O,.conv (.same O)⟩,⟨_,O,.conv (.same O)⟩,G⟩,O,congrArg (fun r:(List Slot)×Int×Int=>(.tup [E8 r.1,G0 r.2.1,G0 r.2.2]:AV)) (Option.some.inj h)⟩)))))))
     ·
      refine Gq (hK43 (Js fun hK46=>JC_d0 Qa (by kernel_rfl) (Dq (E8 s35.1) (Gi G11 O O O) O (Dq (G0 s35.2.1) (Gi Gb O O O) O (Dq (E8 s35.1) (G8 O O) O (Dq (G0 s35.2.1) (G8 O O) O (Dq (G0 0) (G8 O O) O (Dnil (hK46 (Gw (⟨[E8 s35.1,G0 s35.2.1,G0 0],[],G,O,⟨⟨_,O,.conv (.same O)⟩,⟨_,O,.conv (.same O)⟩,⟨_,O,.conv (.same O)⟩,G⟩,O,congrArg (fun r:(List Slot)×Int×Int=>(.tup [E8 r.1,G0 r.2.1,G0 r.2.2]:AV)) (Option.some.inj h)⟩)))))))))))

def J7 (a:List Int) (b:List Int):Option Bool:=
 bif decide ((a.length:Int)≠(b.length:Int)) then
 (some false)
 else
 (each (fun y24 i24 (s24:Unit) nx24=>
   Z2 b (i24:Int) fun y29=>
   bif decide (y24≠y29) then
   (some false)
   else
   (nx24 ()))
  (fun(s24:Unit)=>
   some true) a 0 ())
theorem Q1 (a:List Int) (b:List Int) (r:Bool) (h:J7 a b=some r):Pure Ek 18 [E0 a,E0 b] (·=BL r):=by
 unfold J7 at h
 refine H5 [.tmp 4] Tryz.func18 O O (Jr fun hK1=>(Ys (BL false) O (G7 (hK1 (Js fun hK2=>Jr fun hK3=>(Ys (E0 a) O (JLl Gp O O O fun hm7=>(Ys (E0 b) O (JLl Gp O O O fun hm9=>(JLh (BL (decide ((a.length:Int)≠(b.length:Int)))) (Zu O O O) O (G7 (hK3 (JCc O h (fun h hb=>?_) (fun h hb=>?_))))))))))))))
 ·
  refine Jr fun hK4=>(Ys (BL false) O (G7 (hK4 (Gw (fin1 BL h)))))
 ·
  refine Gq (hK2 (Js fun hK5=>Jr fun hK6=>(Ys (G0 0) O (G7 (hK6 (Gv ?_))))))
  obtain⟨b24,kx24,hb24,hkx24,h⟩:=J0 h
  refine Hp (fun i24 (s24:Unit)=>each b24 kx24 (List.drop i24 a) i24 s24=some r) (fun i24 s24=>[(0,E0 a),(1,E0 b),(5,Ej i24)]) (fun i24 s24=>[]) (fun i24=>a.length - i24) 0 () h ⟨⟨.same O,.same O,.same O,G⟩,G,O⟩ ?_
  clear h
  intro i24 s24 hi24 K24 e24
  refine Js fun hK25=>Jr fun hK26=>(Ys (Ej i24) O (Ys (E0 a) O (JLl Gp O O O fun hm13=>(JLh (BL (decide ((i24:Int) < (a.length:Int)))) (Ja O O O) O (G7 (hK26 (Gm O (fun hb=>?_) (fun hb=>?_))))))))
  ·
   have hk24:=Jh hb
   obtain⟨y24,nx24,hy24,hn24,h⟩:=Hq hi24 hk24
   replace h:=Y6 hb24 h
   refine Gq (hK25 (Js fun hK27=>Gv (Js fun hK28=>?_)))
   obtain⟨m30,y29,hm30,hy29,h⟩:=Z1 h
   refine JC_d0 Qa (by kernel_rfl) (Dq (E0 a) (G5 O O) O (Dq (Ej i24) (G5 O O) O (Dq (.dptr [G0 y24]) (Ha (f:=G0) (xs:=a) (y:=y24) O O O Gp hy24 O) O (Dq (G0 y24) (Gi Gb O O O) O (Dq (E0 b) (G5 O O) O (Dq (Ej i24) (G5 O O) O (Dq (.dptr [G0 y29]) (Ha (f:=G0) (xs:=b) (y:=y29) O O O Gp hy29 hm30) O (Dq (G0 y29) (Gi Gb O O O) O (Dq (BL (decide (y24≠y29))) (Zu O O O) O (Dnil (hK28 (JCc O h (fun h hb=>?_) (fun h hb=>?_)))))))))))))
   ·
    refine Jr fun hK31=>(Ys (BL false) O (G7 (hK31 (Gw (fin1 BL h)))))
   ·
    refine Gq (hK27 (G3 (Ys (Ej i24) O (JLh (G0 ((i24+1:Nat):Int)) (Hx (Ho hk24 hm13) O O O) O (Ys (G0 ((i24+1:Nat):Int)) O (G7 (e24 _ _ (i24+1) () (app1 hn24 h) (by omega) ⟨⟨.same rfl,.same rfl,.same rfl,G⟩,G,rfl⟩)))))))
  ·
   have h:=app1 hkx24 (Hr hi24 (Hb hb))
   refine Ht (hK5 (Jr fun hK32=>(Ys (BL true) O (G7 (hK32 (Gw (fin1 BL h)))))))

def G00 (a:List Slot) (b:List Slot):Option Bool:=
 bif decide ((a.length:Int)≠(b.length:Int)) then
 (some false)
 else
 (each (fun y24 i24 (s24:Unit) nx24=>
   Z2 b (i24:Int) fun y29=>
   bif (!decide (y24=y29)) then
   (some false)
   else
   (nx24 ()))
  (fun(s24:Unit)=>
   some true) a 0 ())
theorem Gde (a:List Slot) (b:List Slot) (r:Bool) (h:G00 a b=some r):Pure Ek 37 [E8 a,E8 b] (·=BL r):=by
 unfold G00 at h
 refine H5 [.tmp 4] Tryz.func37 O O (Jr fun hK1=>(Ys (BL false) O (G7 (hK1 (Js fun hK2=>Jr fun hK3=>(Ys (E8 a) O (JLl J1 O O O fun hm7=>(Ys (E8 b) O (JLl J1 O O O fun hm9=>(JLh (BL (decide ((a.length:Int)≠(b.length:Int)))) (Zu O O O) O (G7 (hK3 (JCc O h (fun h hb=>?_) (fun h hb=>?_))))))))))))))
 ·
  refine Jr fun hK4=>(Ys (BL false) O (G7 (hK4 (Gw (fin1 BL h)))))
 ·
  refine Gq (hK2 (Js fun hK5=>Jr fun hK6=>(Ys (G0 0) O (G7 (hK6 (Gv ?_))))))
  obtain⟨b24,kx24,hb24,hkx24,h⟩:=J0 h
  refine Hp (fun i24 (s24:Unit)=>each b24 kx24 (List.drop i24 a) i24 s24=some r) (fun i24 s24=>[(0,E8 a),(1,E8 b),(5,Ej i24)]) (fun i24 s24=>[]) (fun i24=>a.length - i24) 0 () h ⟨⟨.same O,.same O,.same O,G⟩,G,O⟩ ?_
  clear h
  intro i24 s24 hi24 K24 e24
  refine Js fun hK25=>Jr fun hK26=>(Ys (Ej i24) O (Ys (E8 a) O (JLl J1 O O O fun hm13=>(JLh (BL (decide ((i24:Int) < (a.length:Int)))) (Ja O O O) O (G7 (hK26 (Gm O (fun hb=>?_) (fun hb=>?_))))))))
  ·
   have hk24:=Jh hb
   obtain⟨y24,nx24,hy24,hn24,h⟩:=Hq hi24 hk24
   replace h:=Y6 hb24 h
   refine Gq (hK25 (Js fun hK27=>Gv (Js fun hK28=>?_)))
   obtain⟨m30,y29,hm30,hy29,h⟩:=Z1 h
   refine JC_d0 Qa (by kernel_rfl) (Dq (E8 a) (G5 O O) O (Dq (Ej i24) (G5 O O) O (Dq (Eh y24) (Ha (f:=Slot.av) (xs:=a) (y:=y24) O O O J1 hy24 O) O (Dq (.agg (Slot.cs y24)) (Gg J8 O O O) O (Dq (E8 b) (G5 O O) O (Dq (Ej i24) (G5 O O) O (Dq (Eh y29) (Ha (f:=Slot.av) (xs:=b) (y:=y29) O O O J1 hy29 hm30) O (Dq (.agg (Slot.cs y29)) (Gg J8 O O O) O (Dq (BL (!decide (y24=y29))) (A_neAgg (vs:=[.int .i64 y24.G4,.int .i64 y24.Tier,.int .u8 y24.Half]) (us:=[.int .i64 y29.G4,.int .i64 y29.Tier,.int .u8 y29.Half]) 4 O (tq_47 y24 y29) Geb H5b O O O) O (Dnil (hK28 (JCc O h (fun h hb=>?_) (fun h hb=>?_)))))))))))))
   ·
    refine Jr fun hK31=>(Ys (BL false) O (G7 (hK31 (Gw (fin1 BL h)))))
   ·
    refine Gq (hK27 (G3 (Ys (Ej i24) O (JLh (G0 ((i24+1:Nat):Int)) (Hx (Ho hk24 hm13) O O O) O (Ys (G0 ((i24+1:Nat):Int)) O (G7 (e24 _ _ (i24+1) () (app1 hn24 h) (by omega) ⟨⟨.same rfl,.same rfl,.same rfl,G⟩,G,rfl⟩)))))))
  ·
   have h:=app1 hkx24 (Hr hi24 (Hb hb))
   refine Ht (hK5 (Jr fun hK32=>(Ys (BL true) O (G7 (hK32 (Gw (fin1 BL h)))))))

def J3 (F:Nat) :Option Bool:=
 bnd (Zz) fun r3=>
 bnd (R2 1 0 0 0) fun r6=>
 bnd (R2 2 0 1 0) fun r7=>
 bnd (R2 3 2 1 0) fun r8=>
 bnd (R2 6 2 0 1) fun r9=>
 bnd (R2 7 2 0 2) fun r10=>
 bnd (Jq F r3 [(G9.mk 1 ByteArray.empty 40 false 0 0 1 0 false),(G9.mk 2 ByteArray.empty 40 false 0 0 2 0 false),(G9.mk 3 ByteArray.empty 40 false 0 0 3 0 false),(G9.mk 4 ByteArray.empty 40 false 0 0 1 0 false),(G9.mk 5 ByteArray.empty 40 false 0 0 1 0 false),(G9.mk 6 ByteArray.empty 20 false 0 0 1 0 false),(G9.mk 7 ByteArray.empty 20 false 0 0 2 0 false)] [r6,r7,r8,r9,r10] 2) fun r12=>
 bnd (Jq F r3 [(G9.mk 1 ByteArray.empty 40 false 0 0 1 0 false),(G9.mk 2 ByteArray.empty 40 false 0 0 2 0 false),(G9.mk 3 ByteArray.empty 40 false 0 0 3 0 false),(G9.mk 4 ByteArray.empty 40 false 0 0 1 0 false),(G9.mk 5 ByteArray.empty 40 false 0 0 1 0 false),(G9.mk 6 ByteArray.empty 20 false 0 0 1 0 false),(G9.mk 7 ByteArray.empty 20 false 0 0 2 0 false)] [r6,r7,r8,r9,r10] 3) fun r14=>
 bnd (Jq F r3 [(G9.mk 1 ByteArray.empty 40 false 0 0 1 0 false),(G9.mk 2 ByteArray.empty 40 false 0 0 2 0 false),(G9.mk 3 ByteArray.empty 40 false 0 0 3 0 false),(G9.mk 4 ByteArray.empty 40 false 0 0 1 0 false),(G9.mk 5 ByteArray.empty 40 false 0 0 1 0 false),(G9.mk 6 ByteArray.empty 20 false 0 0 1 0 false),(G9.mk 7 ByteArray.empty 20 false 0 0 2 0 false)] [r6,r7,r8,r9,r10] 7) fun r16=>
 bnd (Qz F r3 [(G9.mk 1 ByteArray.empty 40 false 0 0 1 0 false),(G9.mk 2 ByteArray.empty 40 false 0 0 2 0 false),(G9.mk 3 ByteArray.empty 40 false 0 0 3 0 false),(G9.mk 4 ByteArray.empty 40 false 0 0 1 0 false),(G9.mk 5 ByteArray.empty 40 false 0 0 1 0 false),(G9.mk 6 ByteArray.empty 20 false 0 0 1 0 false),(G9.mk 7 ByteArray.empty 20 false 0 0 2 0 false)] [r6,r7,r8,r9,r10]) fun r18=>
 bnd (Y1 F r3 [(G9.mk 1 ByteArray.empty 40 false 0 0 1 0 false),(G9.mk 2 ByteArray.empty 40 false 0 0 2 0 false),(G9.mk 3 ByteArray.empty 40 false 0 0 3 0 false),(G9.mk 4 ByteArray.empty 40 false 0 0 1 0 false),(G9.mk 5 ByteArray.empty 40 false 0 0 1 0 false),(G9.mk 6 ByteArray.empty 20 false 0 0 1 0 false),(G9.mk 7 ByteArray.empty 20 false 0 0 2 0 false)] [r6,r7,r8,r9,r10]) fun r20=>
 bnd (Yq F r3 [(G9.mk 1 ByteArray.empty 40 false 0 0 1 0 false),(G9.mk 2 ByteArray.empty 40 false 0 0 2 0 false),(G9.mk 3 ByteArray.empty 40 false 0 0 3 0 false),(G9.mk 4 ByteArray.empty 40 false 0 0 1 0 false),(G9.mk 5 ByteArray.empty 40 false 0 0 1 0 false),(G9.mk 6 ByteArray.empty 20 false 0 0 1 0 false),(G9.mk 7 ByteArray.empty 20 false 0 0 2 0 false)] [r6,r7,r8,r9,r10] 4) fun r22=>
 G0b (r12.2+r14.2) fun v25=>
 G0b (v25+r16.2) fun v26=>
 G0b (v26+r18.2) fun v27=>
 G0b (v27+r20.2.2.2) fun v28=>
 G0b (v28+r22.2.2) fun v29=>
 bnd (bif (!(decide (v29≠0))) then J7 r12.1 [1] else some default) fun r30=>
 bnd (bif (!((decide (v29≠0))||(!r30))) then J7 r14.1 [1,2,6,7] else some default) fun r31=>
 bnd (bif (!(((decide (v29≠0))||(!r30))||(!r31))) then J7 r16.1 [1] else some default) fun r32=>
 bnd (bif (!((((decide (v29≠0))||(!r30))||(!r31))||(!r32))) then J7 r18.1 [2,3,7] else some default) fun r33=>
 bif (((((decide (v29≠0))||(!r30))||(!r31))||(!r32))||(!r33)) then
 (some false)
 else
 (bnd (bif decide (r20.1=1) then J7 r20.2.1 [1,6] else some default) fun r36=>
  bnd (bif ((decide (r20.1=1))&&r36) then J7 r20.2.2.1 [2,3,7] else some default) fun r37=>
  bnd (bif ((((decide (r20.1=1))&&r36)&&r37)&&(decide (r22.2.1=0))) then G00 r22.1 [(Slot.mk 2 2 0),(Slot.mk 3 0 0),(Slot.mk 4 0 0)] else some default) fun r38=>
  some (((((decide (r20.1=1))&&r36)&&r37)&&(decide (r22.2.1=0)))&&r38))
theorem Qn (F:Nat)  (r:Bool) (h:J3 F =some r):Pure Ek 15 [] (·=BL r):=by
 unfold J3 at h
 refine H5 [.tmp 0] Tryz.func15 O O (Jr fun hK1=>(Ys (BL false) O (G7 (hK1 (Jr fun hK2=>?_)))))
 obtain⟨r3,hr3,h⟩:=Gd h
 refine JLh (.agg (Gr.cs r3)) (Gt O (Gdd  r3 hr3) Jf7 G) O (JLh (.ptr 1040 0) (Hu 1040 13 G0d O O) O (Hw (u:=.junk) (Hj (u:=.agg (Gr.cs r3)) (ds:=(Gr.cs r3)) Yy O O O O O O O O) (G7 (hK2 (Gs [(1,Ec r3)] [] 1040 rfl rfl rfl G rfl (by exact⟨.ptr,G⟩) ?_)))))
 refine Jr fun hK4=>(JLh (.agg [G0 1,ST ByteArray.empty,U8 40,BL false,G0 0,G0 0,G0 1,U8 0,BL false]) (Hz (cs:=[G0 1,ST ByteArray.empty,U8 40,BL false,G0 0,G0 0,G0 1,U8 0,BL false]) [(0,1),(1,1),(2,1),(3,1),(4,1),(5,1),(6,1),(7,1),(8,1)] [G0 0,ST ByteArray.empty,U8 0,BL false,G0 0,G0 0,G0 0,U8 0,BL false] [.int .i64 0,.string ByteArray.empty,.int .u8 0,.bool false,.int .i64 0,.int .i64 0,.int .i64 0,.int .u8 0,.bool false] Rr Yx ⟨.inl O,.inl O,.inl O,.inl O,.inl O,.inl O,.inl O,.inl O,.inl O,G⟩ O O) O (JLh (.agg [G0 2,ST ByteArray.empty,U8 40,BL false,G0 0,G0 0,G0 2,U8 0,BL false]) (Hz (cs:=[G0 2,ST ByteArray.empty,U8 40,BL false,G0 0,G0 0,G0 2,U8 0,BL false]) [(0,1),(1,1),(2,1),(3,1),(4,1),(5,1),(6,1),(7,1),(8,1)] [G0 0,ST ByteArray.empty,U8 0,BL false,G0 0,G0 0,G0 0,U8 0,BL false] [.int .i64 0,.string ByteArray.empty,.int .u8 0,.bool false,.int .i64 0,.int .i64 0,.int .i64 0,.int .u8 0,.bool false] Rr Yx ⟨.inl O,.inl O,.inl O,.inl O,.inl O,.inl O,.inl O,.inl O,.inl O,G⟩ O O) O (JLh (.agg [G0 3,ST ByteArray.empty,U8 40,BL false,G0 0,G0 0,G0 3,U8 0,BL false]) (Hz (cs:=[G0 3,ST ByteArray.empty,U8 40,BL false,G0 0,G0 0,G0 3,U8 0,BL false]) [(0,1),(1,1),(2,1),(3,1),(4,1),(5,1),(6,1),(7,1),(8,1)] [G0 0,ST ByteArray.empty,U8 0,BL false,G0 0,G0 0,G0 0,U8 0,BL false] [.int .i64 0,.string ByteArray.empty,.int .u8 0,.bool false,.int .i64 0,.int .i64 0,.int .i64 0,.int .u8 0,.bool false] Rr Yx ⟨.inl O,.inl O,.inl O,.inl O,.inl O,.inl O,.inl O,.inl O,.inl O,G⟩ O O) O (JLh (.agg [G0 4,ST ByteArray.empty,U8 40,BL false,G0 0,G0 0,G0 1,U8 0,BL false]) (Hz (cs:=[G0 4,ST ByteArray.empty,U8 40,BL false,G0 0,G0 0,G0 1,U8 0,BL false]) [(0,1),(1,1),(2,1),(3,1),(4,1),(5,1),(6,1),(7,1),(8,1)] [G0 0,ST ByteArray.empty,U8 0,BL false,G0 0,G0 0,G0 0,U8 0,BL false] [.int .i64 0,.string ByteArray.empty,.int .u8 0,.bool false,.int .i64 0,.int .i64 0,.int .i64 0,.int .u8 0,.bool false] Rr Yx ⟨.inl O,.inl O,.inl O,.inl O,.inl O,.inl O,.inl O,.inl O,.inl O,G⟩ O O) O (JLh (.agg [G0 5,ST ByteArray.empty,U8 40,BL false,G0 0,G0 0,G0 1,U8 0,BL false]) (Hz (cs:=[G0 5,ST ByteArray.empty,U8 40,BL false,G0 0,G0 0,G0 1,U8 0,BL false]) [(0,1),(1,1),(2,1),(3,1),(4,1),(5,1),(6,1),(7,1),(8,1)] [G0 0,ST ByteArray.empty,U8 0,BL false,G0 0,G0 0,G0 0,U8 0,BL false] [.int .i64 0,.string ByteArray.empty,.int .u8 0,.bool false,.int .i64 0,.int .i64 0,.int .i64 0,.int .u8 0,.bool false] Rr Yx ⟨.inl O,.inl O,.inl O,.inl O,.inl O,.inl O,.inl O,.inl O,.inl O,G⟩ O O) O (JLh (.agg [G0 6,ST ByteArray.empty,U8 20,BL false,G0 0,G0 0,G0 1,U8 0,BL false]) (Hz (cs:=[G0 6,ST ByteArray.empty,U8 20,BL false,G0 0,G0 0,G0 1,U8 0,BL false]) [(0,1),(1,1),(2,1),(3,1),(4,1),(5,1),(6,1),(7,1),(8,1)] [G0 0,ST ByteArray.empty,U8 0,BL false,G0 0,G0 0,G0 0,U8 0,BL false] [.int .i64 0,.string ByteArray.empty,.int .u8 0,.bool false,.int .i64 0,.int .i64 0,.int .i64 0,.int .u8 0,.bool false] Rr Yx ⟨.inl O,.inl O,.inl O,.inl O,.inl O,.inl O,.inl O,.inl O,.inl O,G⟩ O O) O (JLh (.agg [G0 7,ST ByteArray.empty,U8 20,BL false,G0 0,G0 0,G0 2,U8 0,BL false]) (Hz (cs:=[G0 7,ST ByteArray.empty,U8 20,BL false,G0 0,G0 0,G0 2,U8 0,BL false]) [(0,1),(1,1),(2,1),(3,1),(4,1),(5,1),(6,1),(7,1),(8,1)] [G0 0,ST ByteArray.empty,U8 0,BL false,G0 0,G0 0,G0 0,U8 0,BL false] [.int .i64 0,.string ByteArray.empty,.int .u8 0,.bool false,.int .i64 0,.int .i64 0,.int .i64 0,.int .u8 0,.bool false] Rr Yx ⟨.inl O,.inl O,.inl O,.inl O,.inl O,.inl O,.inl O,.inl O,.inl O,G⟩ O O) O (JLh (E2 [(G9.mk 1 ByteArray.empty 40 false 0 0 1 0 false),(G9.mk 2 ByteArray.empty 40 false 0 0 2 0 false),(G9.mk 3 ByteArray.empty 40 false 0 0 3 0 false),(G9.mk 4 ByteArray.empty 40 false 0 0 1 0 false),(G9.mk 5 ByteArray.empty 40 false 0 0 1 0 false),(G9.mk 6 ByteArray.empty 20 false 0 0 1 0 false),(G9.mk 7 ByteArray.empty 20 false 0 0 2 0 false)]) (H8 (xs:=[.agg [G0 1,ST ByteArray.empty,U8 40,BL false,G0 0,G0 0,G0 1,U8 0,BL false],.agg [G0 2,ST ByteArray.empty,U8 40,BL false,G0 0,G0 0,G0 2,U8 0,BL false],.agg [G0 3,ST ByteArray.empty,U8 40,BL false,G0 0,G0 0,G0 3,U8 0,BL false],.agg [G0 4,ST ByteArray.empty,U8 40,BL false,G0 0,G0 0,G0 1,U8 0,BL false],.agg [G0 5,ST ByteArray.empty,U8 40,BL false,G0 0,G0 0,G0 1,U8 0,BL false],.agg [G0 6,ST ByteArray.empty,U8 20,BL false,G0 0,G0 0,G0 1,U8 0,BL false],.agg [G0 7,ST ByteArray.empty,U8 20,BL false,G0 0,G0 0,G0 2,U8 0,BL false]]) O ⟨O,O,O,O,O,O,O,O,O,O,O,O,O,O,G⟩ Q7 Ry O O O O) O (Ys (E2 [(G9.mk 1 ByteArray.empty 40 false 0 0 1 0 false),(G9.mk 2 ByteArray.empty 40 false 0 0 2 0 false),(G9.mk 3 ByteArray.empty 40 false 0 0 3 0 false),(G9.mk 4 ByteArray.empty 40 false 0 0 1 0 false),(G9.mk 5 ByteArray.empty 40 false 0 0 1 0 false),(G9.mk 6 ByteArray.empty 20 false 0 0 1 0 false),(G9.mk 7 ByteArray.empty 20 false 0 0 2 0 false)]) O (G7 (hK4 ?_)))))))))))
 refine Jr fun hK5=>?_
 obtain⟨r6,hr6,h⟩:=Gd h
 refine JLh (.agg (Stowed.cs r6)) (Gt O (Y7 1 0 0 0 r6 hr6) Gcb ⟨O,O,O,O,O,O,O,O,G⟩) O ?_
 obtain⟨r7,hr7,h⟩:=Gd h
 refine JLh (.agg (Stowed.cs r7)) (Gt O (Y7 2 0 1 0 r7 hr7) Gcb ⟨O,O,O,O,O,O,O,O,G⟩) O ?_
 obtain⟨r8,hr8,h⟩:=Gd h
 refine JLh (.agg (Stowed.cs r8)) (Gt O (Y7 3 2 1 0 r8 hr8) Gcb ⟨O,O,O,O,O,O,O,O,G⟩) O ?_
 obtain⟨r9,hr9,h⟩:=Gd h
 refine JLh (.agg (Stowed.cs r9)) (Gt O (Y7 6 2 0 1 r9 hr9) Gcb ⟨O,O,O,O,O,O,O,O,G⟩) O ?_
 obtain⟨r10,hr10,h⟩:=Gd h
 refine JLh (.agg (Stowed.cs r10)) (Gt O (Y7 7 2 0 2 r10 hr10) Gcb ⟨O,O,O,O,O,O,O,O,G⟩) O (JLh (E1 [r6,r7,r8,r9,r10]) (H8 (xs:=[.agg (Stowed.cs r6),.agg (Stowed.cs r7),.agg (Stowed.cs r8),.agg (Stowed.cs r9),.agg (Stowed.cs r10)]) O ⟨O,O,O,O,O,O,O,O,O,O,G⟩ H2 Jv O O O O) O (Ys (E1 [r6,r7,r8,r9,r10]) O (G7 (hK5 ?_))))
 refine Jr fun hK11=>(JLh (.agg (Gr.cs r3)) (Gg H4 O O O) O (Ys (E2 [(G9.mk 1 ByteArray.empty 40 false 0 0 1 0 false),(G9.mk 2 ByteArray.empty 40 false 0 0 2 0 false),(G9.mk 3 ByteArray.empty 40 false 0 0 3 0 false),(G9.mk 4 ByteArray.empty 40 false 0 0 1 0 false),(G9.mk 5 ByteArray.empty 40 false 0 0 1 0 false),(G9.mk 6 ByteArray.empty 20 false 0 0 1 0 false),(G9.mk 7 ByteArray.empty 20 false 0 0 2 0 false)]) O (Ys (E1 [r6,r7,r8,r9,r10]) O ?_)))
 obtain⟨r12,hr12,h⟩:=Gd h
 refine JLh (.tup [E0 r12.1,G0 r12.2]) (Gt O (Q4 F r3 [(G9.mk 1 ByteArray.empty 40 false 0 0 1 0 false),(G9.mk 2 ByteArray.empty 40 false 0 0 2 0 false),(G9.mk 3 ByteArray.empty 40 false 0 0 3 0 false),(G9.mk 4 ByteArray.empty 40 false 0 0 1 0 false),(G9.mk 5 ByteArray.empty 40 false 0 0 1 0 false),(G9.mk 6 ByteArray.empty 20 false 0 0 1 0 false),(G9.mk 7 ByteArray.empty 20 false 0 0 2 0 false)] [r6,r7,r8,r9,r10] 2 r12 hr12) Zc ⟨O,O,O,O,O,O,O,O,G⟩) O (Ys (.tup [E0 r12.1,G0 r12.2]) O (JLh (E0 r12.1) (Gn O O O) O (JLh (G0 r12.2) (Gn O O O) O (Ys (E0 r12.1) O (Ys (G0 r12.2) O (G7 (hK11 ?_)))))))
 refine Jr fun hK13=>(JLh (.agg (Gr.cs r3)) (Gg H4 O O O) O (Ys (E2 [(G9.mk 1 ByteArray.empty 40 false 0 0 1 0 false),(G9.mk 2 ByteArray.empty 40 false 0 0 2 0 false),(G9.mk 3 ByteArray.empty 40 false 0 0 3 0 false),(G9.mk 4 ByteArray.empty 40 false 0 0 1 0 false),(G9.mk 5 ByteArray.empty 40 false 0 0 1 0 false),(G9.mk 6 ByteArray.empty 20 false 0 0 1 0 false),(G9.mk 7 ByteArray.empty 20 false 0 0 2 0 false)]) O (Ys (E1 [r6,r7,r8,r9,r10]) O ?_)))
 obtain⟨r14,hr14,h⟩:=Gd h
 refine JLh (.tup [E0 r14.1,G0 r14.2]) (Gt O (Q4 F r3 [(G9.mk 1 ByteArray.empty 40 false 0 0 1 0 false),(G9.mk 2 ByteArray.empty 40 false 0 0 2 0 false),(G9.mk 3 ByteArray.empty 40 false 0 0 3 0 false),(G9.mk 4 ByteArray.empty 40 false 0 0 1 0 false),(G9.mk 5 ByteArray.empty 40 false 0 0 1 0 false),(G9.mk 6 ByteArray.empty 20 false 0 0 1 0 false),(G9.mk 7 ByteArray.empty 20 false 0 0 2 0 false)] [r6,r7,r8,r9,r10] 3 r14 hr14) Zc ⟨O,O,O,O,O,O,O,O,G⟩) O (Ys (.tup [E0 r14.1,G0 r14.2]) O (JLh (E0 r14.1) (Gn O O O) O (JLh (G0 r14.2) (Gn O O O) O (Ys (E0 r14.1) O (Ys (G0 r14.2) O (G7 (hK13 ?_)))))))
 refine Jr fun hK15=>(JLh (.agg (Gr.cs r3)) (Gg H4 O O O) O (Ys (E2 [(G9.mk 1 ByteArray.empty 40 false 0 0 1 0 false),(G9.mk 2 ByteArray.empty 40 false 0 0 2 0 false),(G9.mk 3 ByteArray.empty 40 false 0 0 3 0 false),(G9.mk 4 ByteArray.empty 40 false 0 0 1 0 false),(G9.mk 5 ByteArray.empty 40 false 0 0 1 0 false),(G9.mk 6 ByteArray.empty 20 false 0 0 1 0 false),(G9.mk 7 ByteArray.empty 20 false 0 0 2 0 false)]) O (Ys (E1 [r6,r7,r8,r9,r10]) O ?_)))
 obtain⟨r16,hr16,h⟩:=Gd h
 refine JLh (.tup [E0 r16.1,G0 r16.2]) (Gt O (Q4 F r3 [(G9.mk 1 ByteArray.empty 40 false 0 0 1 0 false),(G9.mk 2 ByteArray.empty 40 false 0 0 2 0 false),(G9.mk 3 ByteArray.empty 40 false 0 0 3 0 false),(G9.mk 4 ByteArray.empty 40 false 0 0 1 0 false),(G9.mk 5 ByteArray.empty 40 false 0 0 1 0 false),(G9.mk 6 ByteArray.empty 20 false 0 0 1 0 false),(G9.mk 7 ByteArray.empty 20 false 0 0 2 0 false)] [r6,r7,r8,r9,r10] 7 r16 hr16) Zc ⟨O,O,O,O,O,O,O,O,G⟩) O (Ys (.tup [E0 r16.1,G0 r16.2]) O (JLh (E0 r16.1) (Gn O O O) O (JLh (G0 r16.2) (Gn O O O) O (Ys (E0 r16.1) O (Ys (G0 r16.2) O (G7 (hK15 ?_)))))))
 refine Jr fun hK17=>(JLh (.agg (Gr.cs r3)) (Gg H4 O O O) O (Ys (E2 [(G9.mk 1 ByteArray.empty 40 false 0 0 1 0 false),(G9.mk 2 ByteArray.empty 40 false 0 0 2 0 false),(G9.mk 3 ByteArray.empty 40 false 0 0 3 0 false),(G9.mk 4 ByteArray.empty 40 false 0 0 1 0 false),(G9.mk 5 ByteArray.empty 40 false 0 0 1 0 false),(G9.mk 6 ByteArray.empty 20 false 0 0 1 0 false),(G9.mk 7 ByteArray.empty 20 false 0 0 2 0 false)]) O (Ys (E1 [r6,r7,r8,r9,r10]) O ?_)))
 obtain⟨r18,hr18,h⟩:=Gd h
 refine JLh (.tup [E0 r18.1,G0 r18.2]) (Gt O (G16.down F r3 [(G9.mk 1 ByteArray.empty 40 false 0 0 1 0 false),(G9.mk 2 ByteArray.empty 40 false 0 0 2 0 false),(G9.mk 3 ByteArray.empty 40 false 0 0 3 0 false),(G9.mk 4 ByteArray.empty 40 false 0 0 1 0 false),(G9.mk 5 ByteArray.empty 40 false 0 0 1 0 false),(G9.mk 6 ByteArray.empty 20 false 0 0 1 0 false),(G9.mk 7 ByteArray.empty 20 false 0 0 2 0 false)] [r6,r7,r8,r9,r10] r18 hr18) H5c ⟨O,O,O,O,O,O,G⟩) O (Ys (.tup [E0 r18.1,G0 r18.2]) O (JLh (E0 r18.1) (Gn O O O) O (JLh (G0 r18.2) (Gn O O O) O (Ys (E0 r18.1) O (Ys (G0 r18.2) O (G7 (hK17 ?_)))))))
 refine Jr fun hK19=>(JLh (.agg (Gr.cs r3)) (Gg H4 O O O) O (Ys (E2 [(G9.mk 1 ByteArray.empty 40 false 0 0 1 0 false),(G9.mk 2 ByteArray.empty 40 false 0 0 2 0 false),(G9.mk 3 ByteArray.empty 40 false 0 0 3 0 false),(G9.mk 4 ByteArray.empty 40 false 0 0 1 0 false),(G9.mk 5 ByteArray.empty 40 false 0 0 1 0 false),(G9.mk 6 ByteArray.empty 20 false 0 0 1 0 false),(G9.mk 7 ByteArray.empty 20 false 0 0 2 0 false)]) O (Ys (E1 [r6,r7,r8,r9,r10]) O ?_)))
 obtain⟨r20,hr20,h⟩:=Gd h
 refine JLh (.tup [G0 r20.1,E0 r20.2.1,E0 r20.2.2.1,G0 r20.2.2.2]) (Gt O (G2a F r3 [(G9.mk 1 ByteArray.empty 40 false 0 0 1 0 false),(G9.mk 2 ByteArray.empty 40 false 0 0 2 0 false),(G9.mk 3 ByteArray.empty 40 false 0 0 3 0 false),(G9.mk 4 ByteArray.empty 40 false 0 0 1 0 false),(G9.mk 5 ByteArray.empty 40 false 0 0 1 0 false),(G9.mk 6 ByteArray.empty 20 false 0 0 1 0 false),(G9.mk 7 ByteArray.empty 20 false 0 0 2 0 false)] [r6,r7,r8,r9,r10] r20 hr20) H16 ⟨O,O,O,O,O,O,G⟩) O (Ys (.tup [G0 r20.1,E0 r20.2.1,E0 r20.2.2.1,G0 r20.2.2.2]) O (JLh (G0 r20.1) (Gn O O O) O (JLh (E0 r20.2.1) (Gn O O O) O (JLh (E0 r20.2.2.1) (Gn O O O) O (JLh (G0 r20.2.2.2) (Gn O O O) O (Ys (G0 r20.1) O (Ys (E0 r20.2.1) O (Ys (E0 r20.2.2.1) O (Ys (G0 r20.2.2.2) O (G7 (hK19 ?_)))))))))))
 refine Jr fun hK21=>(JLh (.agg (Gr.cs r3)) (Gg H4 O O O) O (Ys (E2 [(G9.mk 1 ByteArray.empty 40 false 0 0 1 0 false),(G9.mk 2 ByteArray.empty 40 false 0 0 2 0 false),(G9.mk 3 ByteArray.empty 40 false 0 0 3 0 false),(G9.mk 4 ByteArray.empty 40 false 0 0 1 0 false),(G9.mk 5 ByteArray.empty 40 false 0 0 1 0 false),(G9.mk 6 ByteArray.empty 20 false 0 0 1 0 false),(G9.mk 7 ByteArray.empty 20 false 0 0 2 0 false)]) O (Ys (E1 [r6,r7,r8,r9,r10]) O ?_)))
 obtain⟨r22,hr22,h⟩:=Gd h
 refine JLh (.tup [E8 r22.1,G0 r22.2.1,G0 r22.2.2]) (Gt O (Zb F r3 [(G9.mk 1 ByteArray.empty 40 false 0 0 1 0 false),(G9.mk 2 ByteArray.empty 40 false 0 0 2 0 false),(G9.mk 3 ByteArray.empty 40 false 0 0 3 0 false),(G9.mk 4 ByteArray.empty 40 false 0 0 1 0 false),(G9.mk 5 ByteArray.empty 40 false 0 0 1 0 false),(G9.mk 6 ByteArray.empty 20 false 0 0 1 0 false),(G9.mk 7 ByteArray.empty 20 false 0 0 2 0 false)] [r6,r7,r8,r9,r10] 4 r22 hr22) G8b ⟨O,O,O,O,O,O,O,O,G⟩) O (Ys (.tup [E8 r22.1,G0 r22.2.1,G0 r22.2.2]) O (JLh (E8 r22.1) (Gn O O O) O (JLh (G0 r22.2.1) (Gn O O O) O (JLh (G0 r22.2.2) (Gn O O O) O (Ys (E8 r22.1) O (Ys (G0 r22.2.1) O (Ys (G0 r22.2.2) O (G7 (hK21 (Js fun hK23=>Jr fun hK24=>(Ys (G0 r12.2) O (Ys (G0 r14.2) O ?_))))))))))))
 obtain⟨v25,hv25,h⟩:=Jn h
 refine JLh (G0 v25) (Hx hv25 O O O) O (Ys (G0 r16.2) O ?_)
 obtain⟨v26,hv26,h⟩:=Jn h
 refine JLh (G0 v26) (Hx hv26 O O O) O (Ys (G0 r18.2) O ?_)
 obtain⟨v27,hv27,h⟩:=Jn h
 refine JLh (G0 v27) (Hx hv27 O O O) O (Ys (G0 r20.2.2.2) O ?_)
 obtain⟨v28,hv28,h⟩:=Jn h
 refine JLh (G0 v28) (Hx hv28 O O O) O (Ys (G0 r22.2.2) O ?_)
 obtain⟨v29,hv29,h⟩:=Jn h
 refine JLh (G0 v29) (Hx hv29 O O O) O (JLh (BL (decide (v29≠0))) (Zu O O O) O (Ys (BL (decide (v29≠0))) O (JLo (E0 r12.1) [] O .scf G (fun hc=>G5 O O) O (JLo (E0 [1]) [] O .scf G (fun hc=>H8 (xs:=[G0 1]) O ⟨O,O,G⟩ Gp Jz O O O O) O ?_))))
 obtain⟨r30,hr30,h⟩:=Gd h
 refine JLo (BL r30) [92,93] O .scf ⟨Ua,Ua,G⟩ (fun hc=>Gt (args:=[E0 r12.1,E0 [1]]) O (Q1 r12.1 [1] r30 (H3 hc hr30)) G64 ⟨O,O,O,O,G⟩) O (JLo (BL (!r30)) [94] O .scf ⟨Ua,G⟩ (fun hc=>Rm (b:=r30) O O) O (JLh (BL ((decide (v29≠0))||(!r30))) (Zi O O O O) O (Ys (BL ((decide (v29≠0))||(!r30))) O (JLo (E0 r14.1) [] O .scf G (fun hc=>G5 O O) O (JLo (E0 [1,2,6,7]) [] O .scf G (fun hc=>H8 (xs:=[G0 1,G0 2,G0 6,G0 7]) O ⟨O,O,O,O,O,O,O,O,G⟩ Gp Jz O O O O) O ?_)))))
 obtain⟨r31,hr31,h⟩:=Gd h
 refine JLo (BL r31) [98,99] O .scf ⟨Ua,Ua,G⟩ (fun hc=>Gt (args:=[E0 r14.1,E0 [1,2,6,7]]) O (Q1 r14.1 [1,2,6,7] r31 (H3 hc hr31)) G64 ⟨O,O,O,O,G⟩) O (JLo (BL (!r31)) [100] O .scf ⟨Ua,G⟩ (fun hc=>Rm (b:=r31) O O) O (JLh (BL (((decide (v29≠0))||(!r30))||(!r31))) (Zi O O O O) O (Ys (BL (((decide (v29≠0))||(!r30))||(!r31))) O (JLo (E0 r16.1) [] O .scf G (fun hc=>G5 O O) O (JLo (E0 [1]) [] O .scf G (fun hc=>H8 (xs:=[G0 1]) O ⟨O,O,G⟩ Gp Jz O O O O) O ?_)))))
 obtain⟨r32,hr32,h⟩:=Gd h
 refine JLo (BL r32) [104,105] O .scf ⟨Ua,Ua,G⟩ (fun hc=>Gt (args:=[E0 r16.1,E0 [1]]) O (Q1 r16.1 [1] r32 (H3 hc hr32)) G64 ⟨O,O,O,O,G⟩) O (JLo (BL (!r32)) [106] O .scf ⟨Ua,G⟩ (fun hc=>Rm (b:=r32) O O) O (JLh (BL ((((decide (v29≠0))||(!r30))||(!r31))||(!r32))) (Zi O O O O) O (Ys (BL ((((decide (v29≠0))||(!r30))||(!r31))||(!r32))) O (JLo (E0 r18.1) [] O .scf G (fun hc=>G5 O O) O (JLo (E0 [2,3,7]) [] O .scf G (fun hc=>H8 (xs:=[G0 2,G0 3,G0 7]) O ⟨O,O,O,O,O,O,G⟩ Gp Jz O O O O) O ?_)))))
 obtain⟨r33,hr33,h⟩:=Gd h
 refine JLo (BL r33) [110,111] O .scf ⟨Ua,Ua,G⟩ (fun hc=>Gt (args:=[E0 r18.1,E0 [2,3,7]]) O (Q1 r18.1 [2,3,7] r33 (H3 hc hr33)) G64 ⟨O,O,O,O,G⟩) O (JLo (BL (!r33)) [112] O .scf ⟨Ua,G⟩ (fun hc=>Rm (b:=r33) O O) O (JLh (BL (((((decide (v29≠0))||(!r30))||(!r31))||(!r32))||(!r33))) (Zi O O O O) O (G7 (hK24 (JCc O h (fun h hb=>?_) (fun h hb=>?_))))))
 ·
  refine Jr fun hK34=>(Ys (BL false) O (G7 (hK34 (Gw (fin1 BL h)))))
 ·
  refine Gq (hK23 (Jr fun hK35=>(Ys (G0 r20.1) O (JLh (BL (decide (r20.1=1))) (Jy O O O) O (Ys (BL (decide (r20.1=1))) O (JLo (E0 r20.2.1) [] O .sct G (fun hc=>G5 O O) O (JLo (E0 [1,6]) [] O .sct G (fun hc=>H8 (xs:=[G0 1,G0 6]) O ⟨O,O,O,O,G⟩ Gp Jz O O O O) O ?_)))))))
  obtain⟨r36,hr36,h⟩:=Gd h
  refine JLo (BL r36) [118,119] O .sct ⟨Ua,Ua,G⟩ (fun hc=>Gt (args:=[E0 r20.2.1,E0 [1,6]]) O (Q1 r20.2.1 [1,6] r36 (H3 hc hr36)) G64 ⟨O,O,O,O,G⟩) O (JLh (BL ((decide (r20.1=1))&&r36)) (Q9 O O O O) O (Ys (BL ((decide (r20.1=1))&&r36)) O (JLo (E0 r20.2.2.1) [] O .sct G (fun hc=>G5 O O) O (JLo (E0 [2,3,7]) [] O .sct G (fun hc=>H8 (xs:=[G0 2,G0 3,G0 7]) O ⟨O,O,O,O,O,O,G⟩ Gp Jz O O O O) O ?_))))
  obtain⟨r37,hr37,h⟩:=Gd h
  refine JLo (BL r37) [123,124] O .sct ⟨Ua,Ua,G⟩ (fun hc=>Gt (args:=[E0 r20.2.2.1,E0 [2,3,7]]) O (Q1 r20.2.2.1 [2,3,7] r37 (H3 hc hr37)) G64 ⟨O,O,O,O,G⟩) O (JLh (BL (((decide (r20.1=1))&&r36)&&r37)) (Q9 O O O O) O (Ys (BL (((decide (r20.1=1))&&r36)&&r37)) O (JLo (G0 r22.2.1) [] O .sct G (fun hc=>G5 O O) O (JLo (BL (decide (r22.2.1=0))) [128] O .sct ⟨Ua,G⟩ (fun hc=>Jy O O O) O (JLh (BL ((((decide (r20.1=1))&&r36)&&r37)&&(decide (r22.2.1=0)))) (Q9 O O O O) O (Ys (BL ((((decide (r20.1=1))&&r36)&&r37)&&(decide (r22.2.1=0)))) O (JLo (E8 r22.1) [] O .sct G (fun hc=>G5 O O) O (JLo (.agg [G0 2,G0 2,U8 0]) [] O .sct G (fun hc=>Hz (cs:=[G0 2,G0 2,U8 0]) [(0,1),(1,1),(2,1)] [G0 0,G0 0,U8 0] [.int .i64 0,.int .i64 0,.int .u8 0] G13 G62 ⟨.inl O,.inl O,.inl O,G⟩ O O) O (JLo (.agg [G0 3,G0 0,U8 0]) [] O .sct G (fun hc=>Hz (cs:=[G0 3,G0 0,U8 0]) [(0,1),(1,1),(2,1)] [G0 0,G0 0,U8 0] [.int .i64 0,.int .i64 0,.int .u8 0] G13 G62 ⟨.inl O,.inl O,.inl O,G⟩ O O) O (JLo (.agg [G0 4,G0 0,U8 0]) [] O .sct G (fun hc=>Hz (cs:=[G0 4,G0 0,U8 0]) [(0,1),(1,1),(2,1)] [G0 0,G0 0,U8 0] [.int .i64 0,.int .i64 0,.int .u8 0] G13 G62 ⟨.inl O,.inl O,.inl O,G⟩ O O) O (JLo (E8 [(Slot.mk 2 2 0),(Slot.mk 3 0 0),(Slot.mk 4 0 0)]) [133,134,135] O .sct ⟨Ua,Ua,Ua,G⟩ (fun hc=>H8 (xs:=[.agg [G0 2,G0 2,U8 0],.agg [G0 3,G0 0,U8 0],.agg [G0 4,G0 0,U8 0]]) O ⟨O,O,O,O,O,O,G⟩ J1 Rz O O O O) O ?_)))))))))))
  obtain⟨r38,hr38,h⟩:=Gd h
  refine JLo (BL r38) [132,136] O .sct ⟨Ua,Ua,G⟩ (fun hc=>Gt (args:=[E8 r22.1,E8 [(Slot.mk 2 2 0),(Slot.mk 3 0 0),(Slot.mk 4 0 0)]]) O (Gde r22.1 [(Slot.mk 2 2 0),(Slot.mk 3 0 0),(Slot.mk 4 0 0)] r38 (H3 hc hr38)) Jf6 ⟨O,O,O,O,G⟩) O (JLh (BL (((((decide (r20.1=1))&&r36)&&r37)&&(decide (r22.2.1=0)))&&r38)) (Q9 O O O O) O (Ys (BL (((((decide (r20.1=1))&&r36)&&r37)&&(decide (r22.2.1=0)))&&r38)) O (G7 (hK35 (Gw (fin1 BL h))))))

end
end Go.Proofs.YtpgkkengffpnpaaGreat
