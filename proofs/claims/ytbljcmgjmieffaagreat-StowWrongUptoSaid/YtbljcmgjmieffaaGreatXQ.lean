/-
 Models of functions of the program,and that they return what the models say.
-/
import Derived.Test.YtbljcmgjmieffaaGreatOwnN
import Derived.Test.YtbljcmgjmieffaaGreatXP
set_option linter.unnecessarySimpa false
set_option maxRecDepth 100000
set_option linter.unusedVariables false
set_option linter.unusedSimpArgs false
namespace Go.Proofs.YtbljcmgjmieffaaGreat
open Go.RowKit
noncomputable section

namespace XQF
open XAF
open XCF
open XGF
open XBF
open XPF
theorem H11:Hf Ek 14=true:=by kernel_rfl
theorem H79:Hf Ek 20=true:=by kernel_rfl
theorem Jd4:Hf Ek 35=true:=by kernel_rfl
theorem Jce:Hf Ek 49=true:=by kernel_rfl
theorem Jb8:Y4 Ek 58 4 4=true:=by kernel_rfl
theorem J89:placesOf Ek 58=some [(0,1),(1,1),(2,1),(3,1)]:=by kernel_rfl
theorem Jb1:(Ek.info? 58).bind (fun i=>i.zero.map Value.cells)=some (List.toArray [.int .u8 0,.int .u8 0,.bool false,.bool false]):=by kernel_rfl
end XQF
open XAF
open XCF
open XGF
open XBF
open XPF
open XQF


theorem Zk (s:Gr) (l:List Ga) (most:Int) (r:(List Gb)×(List Stowed)) (h:Hz s l most=some r):Qp Ek 8 [.agg (Gr.cs s),Ea l,G0 most] [] (fun av L'=>av=.tup [OW 1027 9 Gb.av r.1,E1 r.2]∧L'=[(1027,.spare 67 9 r.1.length r.1.length)]):=by
 unfold Hz at h
 refine G04 [] [.tmp 6,.tmp 7] Tryz.func8 O O (H6a O) (Jr fun hK1=>(JLh (.ptr 1026 0) (Q9 (cs:=(Gr.cs s)) 1026 O O O O O) O (JLh (E2 ([]:List Gb)) (Hk 9 O O) O (JLh (E1 ([]:List Stowed)) (Hk 4 O O) O (G7 (hK1 ?_))))))
 refine Gt [(1,Ea l),(2,G0 most),(3,Ec s)] [] 1026 rfl rfl rfl G rfl (by exact⟨.conv (.same rfl),.conv (.same rfl),.ptr,G⟩) (Jr fun hK2=>(JLh (OW 1027 9 Gb.av ([]:List Gb)) (G81 1027 67 9 O O O) O (G7 (hK2 (Jr fun hK3=>(JLh (E1 ([]:List Stowed)) (Hk 4 O O) O (G7 (hK3 (Js fun hK4=>Jr fun hK5=>(Rt (Ea l) O (Rt (Ea l) O (JLl Z3 O O O fun hm18=>(Rt (G0 most) O (JLh (G0 (min (l.length:Int) most)) (J83 O O O) O ?_))))))))))))))
 obtain⟨m6,hm6,h⟩:=Gf h
 refine JLh (Ea (l.take m6)) (H24 (f:=Ga.av) (xs:=l) O O O Z3 (G41 hm6)) O (JLl Z3 O O O fun hm22=>(Rt (G0 0) O (G7 (hK5 (H1 ?_)))))
 obtain⟨b7,kx7,hb7,hkx7,h⟩:=Jj h
 refine J3 (fun i7 (s7:(List Gb)×(List Stowed))=>each b7 kx7 (List.drop i7 (l.take m6)) i7 s7=some r) (fun i7 s7=>[(3,Ec s),(8,OW 1027 9 Gb.av s7.1),(9,E1 s7.2),(21,Ea (l.take m6)),(22,G0 ((l.take m6).length:Int)),(23,Ej i7)]) (fun i7 s7=>[(1027,.spare 67 9 s7.1.length s7.1.length)]) (fun i7=>(l.take m6).length - i7) 0 ([],[]) h ⟨(by repeat' constructor),⟨⟨_,rfl,.same⟩,G⟩,rfl⟩ ?_
 clear h
 intro i7 s7 hi7 K7 e7
 refine Jr fun hK8=>(JLh (BL (decide ((i7:Int) < ((l.take m6).length:Int)))) (Q0 O O O) O (G7 (hK8 (Js fun hK9=>Gn O (fun hb=>?_) (fun hb=>?_)))))
 ·
  have hk7:=Qd hb
  obtain⟨y7,nx7,hy7,hn7,h⟩:=J4 hi7 hk7
  replace h:=Zz hb7 h
  refine Gs (hK9 ?_)
  obtain⟨kj10,hkj10,h⟩:=Yo h
  refine R9 (fun j10:(List Gb)×(List Stowed)=>kj10 j10=some r) (fun j10=>[(3,Ec s),(8,OW 1027 9 Gb.av j10.1),(9,E1 j10.2),(21,Ea (l.take m6)),(22,G0 ((l.take m6).length:Int)),(23,Ej i7)]) (fun j10=>[(1027,.spare 67 9 j10.1.length j10.1.length)]) (fun Kj10 ej10=>?_) ?_
  ·
   refine H1 (Jr fun hK11=>(Rt (Ej i7) O (JLh (Eg y7) (Ha (f:=Ga.av) (xs:=(l.take m6)) (y:=y7) O O O Z3 hy7 O) O (JLh (.agg (Ga.cs y7)) (Gh J7e O O O) O (JLh (.ptr 1028 0) (Ht 1028 4 H2e O O) O (Rt (Ej i7) O (Hu (u:=.junk) (Hj (u:=.agg (Ga.cs y7)) (ds:=[U8 y7.G3,U8 y7.Kilos,BL y7.Small,BL y7.High]) J18 O O O O O O O O) (G7 (hK11 ?_)))))))))
   refine Gt [(3,Ec s),(8,OW 1027 9 Gb.av s7.1),(9,E1 s7.2),(10,Ej i7),(11,Eg y7),(21,Ea (l.take m6)),(22,G0 ((l.take m6).length:Int)),(23,Ej i7)] [(1027,.spare 67 9 s7.1.length s7.1.length)] 1028 rfl rfl rfl ⟨⟨_,rfl,.same⟩,G⟩ rfl (by repeat' (first | exact .ptr | constructor)) (Jr fun hK12=>(Rt (Ej i7) O (JLh (G0 ((i7+1:Nat):Int)) (J0 (Hv hk7 hm22) O O O) O ?_)))
   obtain⟨v13,hv13,h⟩:=Jg h
   refine JLh (G0 v13) (Hf9 hv13 O O O) O (JLh (.dptr [BL y7.High]) (Gd Gef O O O) O (JLh (BL y7.High) (Gj Jw O O O) O (JLh (.dptr [U8 y7.Kilos,BL y7.Small,BL y7.High]) (Gd G53 O O O) O (JLh (U8 y7.Kilos) (Gj Hy O O O) O ?_))))
   obtain⟨v14,hv14,h⟩:=Jg h
   refine JLh (G0 v14) (G90 G08 G31 hv14 O O) O ?_
   obtain⟨v15,hv15,h⟩:=Jg h
   refine JLh (G0 v15) (Hf9 hv15 O O O) O ?_
   obtain⟨v16,hv16,h⟩:=Jg h
   refine JLh (G0 v16) (J0 hv16 O O O) O (JLh (.agg [G0 v13,ST ByteArray.empty,U8 40,BL y7.High,G0 v16,G0 0,G0 1,U8 0,BL false]) (Hg (cs:=[G0 v13,ST ByteArray.empty,U8 40,BL y7.High,G0 v16,G0 0,G0 1,U8 0,BL false]) [(0,1),(1,1),(2,1),(3,1),(4,1),(5,1),(6,1),(7,1),(8,1)] [G0 0,ST ByteArray.empty,U8 0,BL false,G0 0,G0 0,G0 0,U8 0,BL false] [.int .i64 0,.string ByteArray.empty,.int .u8 0,.bool false,.int .i64 0,.int .i64 0,.int .i64 0,.int .u8 0,.bool false] Qt Rk ⟨.inl O,.inl O,.inl O,.inl O,.inl O,.inl O,.inl O,.inl O,.inl O,G⟩ O O) O (JLh (.ptr 1029 0) (Ht 1029 9 Y3 O O) O (Hu (u:=.junk) (Hj (u:=.agg [G0 v13,ST ByteArray.empty,U8 40,BL y7.High,G0 v16,G0 0,G0 1,U8 0,BL false]) (ds:=[G0 v13,ST ByteArray.empty,U8 40,BL y7.High,G0 v16,G0 0,G0 1,U8 0,BL false]) G30 O O O O O O O O) (G7 (hK12 ?_)))))
   obtain⟨kj17,hkj17,h⟩:=Yo h
   refine R9 (fun j17:Int×Bool=>kj17 j17=some r) (fun j17=>[(3,Ec s),(8,OW 1027 9 Gb.av s7.1),(9,E1 s7.2),(11,Eg y7),(12,.ptr 1029 0),(21,Ea (l.take m6)),(22,G0 ((l.take m6).length:Int)),(23,Ej i7)]) (fun j17=>[(1027,.spare 67 9 s7.1.length s7.1.length),(1029,.box 67 [G0 v13,ST ByteArray.empty,U8 j17.1,BL j17.2,G0 v16,G0 0,G0 1,U8 0,BL false])]) (fun Kj17 ej17=>?_) ?_
   ·
    refine Jr fun hK18=>(JLh (.dptr [BL y7.Small,BL y7.High]) (Gd Gf0 O O O) O (JLh (BL y7.Small) (Gj Jw O O O) O (G7 (hK18 (JCc O h (fun h hb=>?_) (fun h hb=>?_))))))
    ·
     refine G4 (JLh (.ptr 1029 2) (Q8 Yc O O) O (Hu (u:=.junk) (Hj (u:=U8 20) (ds:=[G0 v13,ST ByteArray.empty,U8 20,BL y7.High,G0 v16,G0 0,G0 1,U8 0,BL false]) Gbc O O O O O O O O) (JLh (.ptr 1029 3) (Q8 G92 O O) O (Hu (u:=.junk) (Hj (u:=BL false) (ds:=[G0 v13,ST ByteArray.empty,U8 20,BL false,G0 v16,G0 0,G0 1,U8 0,BL false]) Hbc O O O O O O O O) (G7 (ej17 _ _ (20,false) h ⟨(by repeat' constructor),⟨⟨_,rfl,.same⟩,⟨_,rfl,.boxL rfl (by repeat' constructor)⟩,G⟩,rfl⟩))))))
    ·
     refine Gs (ej17 _ _ (40,y7.High) h ⟨(by repeat' constructor),⟨⟨_,rfl,.same⟩,⟨_,rfl,.boxL rfl (by repeat' constructor)⟩,G⟩,rfl⟩)
   ·intro j17 h
    replace h:=app1 hkj17 h
    refine Jr fun hK19=>(Rt (OW 1027 9 Gb.av s7.1) O (JLh (.agg [G0 v13,ST ByteArray.empty,U8 j17.1,BL j17.2,G0 v16,G0 0,G0 1,U8 0,BL false]) (G8f G66 O O O O) O (JLh (E2 [(Gb.mk v13 ByteArray.empty j17.1 j17.2 v16 0 1 0 false)]) (H5 (xs:=[.agg [G0 v13,ST ByteArray.empty,U8 j17.1,BL j17.2,G0 v16,G0 0,G0 1,U8 0,BL false]]) O ⟨O,O,G⟩ R7 Y3 O O O O) O ?_)))
    obtain⟨ha20,h⟩:=Ja h
    refine JLh (OW 1027 9 Gb.av (s7.1++[(Gb.mk v13 ByteArray.empty j17.1 j17.2 v16 0 1 0 false)])) (Y2 (f:=Gb.av) (xs:=s7.1) (ys:=[(Gb.mk v13 ByteArray.empty j17.1 j17.2 v16 0 1 0 false)]) O O O O R7 Gc6 ha20 (fun _=>O) (.inl O) O) O (Rt (OW 1027 9 Gb.av (s7.1++[(Gb.mk v13 ByteArray.empty j17.1 j17.2 v16 0 1 0 false)])) O (G7 (hK19 ?_)))
    refine Gt [(3,Ec s),(8,OW 1027 9 Gb.av (s7.1++[(Gb.mk v13 ByteArray.empty j17.1 j17.2 v16 0 1 0 false)])),(9,E1 s7.2),(11,Eg y7),(12,.dptr [G0 v13,ST ByteArray.empty,U8 j17.1,BL j17.2,G0 v16,G0 0,G0 1,U8 0,BL false]),(21,Ea (l.take m6)),(22,G0 ((l.take m6).length:Int)),(23,Ej i7)] [(1027,.spare 67 9 (s7.1++[(Gb.mk v13 ByteArray.empty j17.1 j17.2 v16 0 1 0 false)]).length (s7.1++[(Gb.mk v13 ByteArray.empty j17.1 j17.2 v16 0 1 0 false)]).length)] 1029 rfl rfl rfl ⟨⟨_,rfl,.same⟩,G⟩ rfl (by repeat' (first | exact .ptr | constructor)) ?_
    refine Jr fun hK21=>(JLh (.agg (Gr.cs s)) (Gh H3 O O O) O (JLh (.dptr [U8 j17.1,BL j17.2,G0 v16,G0 0,G0 1,U8 0,BL false]) (Gd Yc O O O) O (JLh (U8 j17.1) (Gj Hy O O O) O ?_)))
    obtain⟨r22,hr22,h⟩:=Gf h
    refine JLh (E8 r22) (Gu O (Hb1 s j17.1 r22 hr22) J38 ⟨O,O,O,O,G⟩) O (JLl Rm O O O fun hm51=>(Rt (G0 0) O (G7 (hK21 (H1 ?_)))))
    obtain⟨b49,kx49,hb49,hkx49,h⟩:=Jj h
    refine J3 (fun i49 (s49:(List Stowed))=>each b49 kx49 (List.drop i49 r22) i49 s49=some r) (fun i49 s49=>[(3,Ec s),(8,OW 1027 9 Gb.av (s7.1++[(Gb.mk v13 ByteArray.empty j17.1 j17.2 v16 0 1 0 false)])),(9,E1 s49),(11,Eg y7),(12,.dptr [G0 v13,ST ByteArray.empty,U8 j17.1,BL j17.2,G0 v16,G0 0,G0 1,U8 0,BL false]),(21,Ea (l.take m6)),(22,G0 ((l.take m6).length:Int)),(23,Ej i7),(50,E8 r22),(51,Ej r22.length),(52,Ej i49)]) (fun i49 s49=>[(1027,.spare 67 9 (s7.1++[(Gb.mk v13 ByteArray.empty j17.1 j17.2 v16 0 1 0 false)]).length (s7.1++[(Gb.mk v13 ByteArray.empty j17.1 j17.2 v16 0 1 0 false)]).length)]) (fun i49=>r22.length - i49) 0 s7.2 h ⟨(by repeat' constructor),⟨⟨_,rfl,.same⟩,G⟩,rfl⟩ ?_
    clear h
    intro i49 s49 hi49 K49 e49
    refine Jr fun hK50=>(JLh (BL (decide ((i49:Int) < (r22.length:Int)))) (Q0 O O O) O (G7 (hK50 (Js fun hK51=>Gn O (fun hb=>?_) (fun hb=>?_)))))
    ·
     have hk49:=Qd hb
     obtain⟨y49,nx49,hy49,hn49,h⟩:=J4 hi49 hk49
     replace h:=Zz hb49 h
     refine Gs (hK51 (Js fun hK52=>H1 (Jr fun hK53=>(JLh (Ei y49) (Ha (f:=Slot.av) (xs:=r22) (y:=y49) O O O Rm hy49 O) O (JLh (.agg (Slot.cs y49)) (Gh Qb O O O) O (JLh (.ptr 1030 0) (Ht 1030 3 G63 O O) O (Hu (u:=.junk) (Hj (u:=.agg (Slot.cs y49)) (ds:=[G0 y49.G3,G0 y49.Tier,U8 y49.Half]) H0c O O O O O O O O) (G7 (hK53 ?_)))))))))
     refine Gt [(3,Ec s),(8,OW 1027 9 Gb.av (s7.1++[(Gb.mk v13 ByteArray.empty j17.1 j17.2 v16 0 1 0 false)])),(9,E1 s49),(11,Eg y7),(12,.dptr [G0 v13,ST ByteArray.empty,U8 j17.1,BL j17.2,G0 v16,G0 0,G0 1,U8 0,BL false]),(14,Ei y49),(21,Ea (l.take m6)),(22,G0 ((l.take m6).length:Int)),(23,Ej i7),(50,E8 r22),(51,Ej r22.length),(52,Ej i49)] [(1027,.spare 67 9 (s7.1++[(Gb.mk v13 ByteArray.empty j17.1 j17.2 v16 0 1 0 false)]).length (s7.1++[(Gb.mk v13 ByteArray.empty j17.1 j17.2 v16 0 1 0 false)]).length)] 1030 rfl rfl rfl ⟨⟨_,rfl,.same⟩,G⟩ rfl (by repeat' (first | exact .ptr | constructor)) ?_
     refine Js fun hK54=>?_
     refine Rj (l':=[(3,Ec s),(8,OW 1027 9 Gb.av (s7.1++[(Gb.mk v13 ByteArray.empty j17.1 j17.2 v16 0 1 0 false)])),(9,E1 s49),(11,Eg y7),(12,.dptr [G0 v13,ST ByteArray.empty,U8 j17.1,BL j17.2,G0 v16,G0 0,G0 1,U8 0,BL false]),(14,Ei y49),(21,Ea (l.take m6)),(22,G0 ((l.take m6).length:Int)),(23,Ej i7),(50,E8 r22),(51,Ej r22.length),(52,Ej i49)]) (L':=[(1027,.spare 67 9 (s7.1++[(Gb.mk v13 ByteArray.empty j17.1 j17.2 v16 0 1 0 false)]).length (s7.1++[(Gb.mk v13 ByteArray.empty j17.1 j17.2 v16 0 1 0 false)]).length)]) ⟨(by repeat' constructor),⟨⟨_,rfl,.same⟩,G⟩,rfl⟩ ?_
     obtain⟨ha55,h⟩:=Ja h
     obtain⟨ha56,h⟩:=Ja h
     refine Jv [0,2,8] [0,0,0,0,0,0,0,0,0,3] [0,1,0,2,2,2,2,2,0,3] [[(1027,.spare 67 9 (s7.1++[(Gb.mk v13 ByteArray.empty j17.1 j17.2 v16 0 1 0 false)]).length (s7.1++[(Gb.mk v13 ByteArray.empty j17.1 j17.2 v16 0 1 0 false)]).length)],((1031,.spare 47 4 ([]:List Stowed).length ([]:List Stowed).length)::[(1027,.spare 67 9 (s7.1++[(Gb.mk v13 ByteArray.empty j17.1 j17.2 v16 0 1 0 false)]).length (s7.1++[(Gb.mk v13 ByteArray.empty j17.1 j17.2 v16 0 1 0 false)]).length)]),((1031,.spare 47 4 (([]:List Stowed)++s49).length (([]:List Stowed)++s49).length)::((1031,.spare 47 4 ([]:List Stowed).length ([]:List Stowed).length)::[(1027,.spare 67 9 (s7.1++[(Gb.mk v13 ByteArray.empty j17.1 j17.2 v16 0 1 0 false)]).length (s7.1++[(Gb.mk v13 ByteArray.empty j17.1 j17.2 v16 0 1 0 false)]).length)])),((1031,.spare 47 4 ((([]:List Stowed)++s49)++[(Stowed.mk v13 y49)]).length ((([]:List Stowed)++s49)++[(Stowed.mk v13 y49)]).length)::((1031,.spare 47 4 (([]:List Stowed)++s49).length (([]:List Stowed)++s49).length)::((1031,.spare 47 4 ([]:List Stowed).length ([]:List Stowed).length)::[(1027,.spare 67 9 (s7.1++[(Gb.mk v13 ByteArray.empty j17.1 j17.2 v16 0 1 0 false)]).length (s7.1++[(Gb.mk v13 ByteArray.empty j17.1 j17.2 v16 0 1 0 false)]).length)])))] Jx (by kernel_rfl) rfl rfl ?_
     refine J70 (u:=OW 1031 4 Stowed.av ([]:List Stowed)) O O O O (Gi (H07 1031 47 4 O O Gx) O) (Gm (u:=E1 s49) O O ⟨Gi (G5 O O) O,Gi (G5 O O) O,G⟩ (J70 (u:=OW 1031 4 Stowed.av (([]:List Stowed)++s49)) O O O O (Gi (G2a (f:=Stowed.av) (xs:=([]:List Stowed)) (ys:=s49) O O O O Gx G16 ha55 (fun _=>O) (.inl O)) O) (Gm (u:=.dptr [G0 v13,ST ByteArray.empty,U8 j17.1,BL j17.2,G0 v16,G0 0,G0 1,U8 0,BL false]) O O ⟨Gi (Gd Zu O O O) O,Gi (Gd Zu O O O) O,Gi (Gd Zu O O O) O,G⟩ (Gm (u:=G0 v13) O O ⟨Gi (Gj Gg O O O) O,Gi (Gj Gg O O O) O,Gi (Gj Gg O O O) O,G⟩ (Gm (u:=.agg (Slot.cs y49)) O O ⟨Gi (Gh Qb O O O) O,Gi (Gh Qb O O O) O,Gi (Gh Qb O O O) O,G⟩ (Gm (u:=.agg [G0 v13,G0 y49.G3,G0 y49.Tier,U8 y49.Half]) O O ⟨Gi (Hg (cs:=[G0 v13,G0 y49.G3,G0 y49.Tier,U8 y49.Half]) [(0,1),(1,3)] [G0 0,G0 0,G0 0,U8 0] [.int .i64 0,.int .i64 0,.int .i64 0,.int .u8 0] Ri Y8 ⟨.inl O,.inl O,.inl O,.inl O,G⟩ O O) O,Gi (Hg (cs:=[G0 v13,G0 y49.G3,G0 y49.Tier,U8 y49.Half]) [(0,1),(1,3)] [G0 0,G0 0,G0 0,U8 0] [.int .i64 0,.int .i64 0,.int .i64 0,.int .u8 0] Ri Y8 ⟨.inl O,.inl O,.inl O,.inl O,G⟩ O O) O,Gi (Hg (cs:=[G0 v13,G0 y49.G3,G0 y49.Tier,U8 y49.Half]) [(0,1),(1,3)] [G0 0,G0 0,G0 0,U8 0] [.int .i64 0,.int .i64 0,.int .i64 0,.int .u8 0] Ri Y8 ⟨.inl O,.inl O,.inl O,.inl O,G⟩ O O) O,G⟩ (Gm (u:=E1 [(Stowed.mk v13 y49)]) O O ⟨Gi (H5 (xs:=[.agg [G0 v13,G0 y49.G3,G0 y49.Tier,U8 y49.Half]]) O ⟨O,O,G⟩ Gx Q4 O O O O) O,Gi (H5 (xs:=[.agg [G0 v13,G0 y49.G3,G0 y49.Tier,U8 y49.Half]]) O ⟨O,O,G⟩ Gx Q4 O O O O) O,Gi (H5 (xs:=[.agg [G0 v13,G0 y49.G3,G0 y49.Tier,U8 y49.Half]]) O ⟨O,O,G⟩ Gx Q4 O O O O) O,G⟩ (J70 (u:=OW 1031 4 Stowed.av ((([]:List Stowed)++s49)++[(Stowed.mk v13 y49)])) O O O O (Gi (Y2 (f:=Stowed.av) (xs:=(([]:List Stowed)++s49)) (ys:=[(Stowed.mk v13 y49)]) O O O O Gx G16 ha56 (fun _=>O) (.inl O) O) O) (Gm (u:=OW 1031 4 Stowed.av ((([]:List Stowed)++s49)++[(Stowed.mk v13 y49)])) O O ⟨Gi (G8 O O) O,G⟩ (Y5 ?_))))))))))
     refine hK54 (Js fun hK57=>?_)
     refine Rj (l':=[(3,Ec s),(8,OW 1027 9 Gb.av (s7.1++[(Gb.mk v13 ByteArray.empty j17.1 j17.2 v16 0 1 0 false)])),(9,E1 s49),(11,Eg y7),(12,.dptr [G0 v13,ST ByteArray.empty,U8 j17.1,BL j17.2,G0 v16,G0 0,G0 1,U8 0,BL false]),(14,Ei y49),(15,OW 1031 4 Stowed.av ((([]:List Stowed)++s49)++[(Stowed.mk v13 y49)])),(21,Ea (l.take m6)),(22,G0 ((l.take m6).length:Int)),(23,Ej i7),(50,E8 r22),(51,Ej r22.length),(52,Ej i49)]) (L':=[(1027,.spare 67 9 (s7.1++[(Gb.mk v13 ByteArray.empty j17.1 j17.2 v16 0 1 0 false)]).length (s7.1++[(Gb.mk v13 ByteArray.empty j17.1 j17.2 v16 0 1 0 false)]).length),(1031,.spare 47 4 ((([]:List Stowed)++s49)++[(Stowed.mk v13 y49)]).length ((([]:List Stowed)++s49)++[(Stowed.mk v13 y49)]).length)]) ⟨(by repeat' constructor),⟨⟨_,rfl,.same⟩,⟨_,rfl,.same⟩,G⟩,rfl⟩ ?_
     obtain⟨v58,hv58,h⟩:=Jg h
     obtain⟨v59,hv59,h⟩:=Gf h
     obtain⟨r60,hr60,h⟩:=Gf h
     refine JC_d0 Jx (by kernel_rfl) (Dq (Ei y49) (Gd Jc O O O) O (Dq (G0 y49.G3) (Gj Gg O O O) O (Dq (Eg y7) (Gd Gf1 O O O) O (Dq (U8 y7.G3) (Gj Hy O O O) O (Dq (G0 v58) (G90 G08 G31 hv58 O O) O (Dq (Ec s) (Gd Ho O O O) O (Dq (E7 s.Columns) (Gj J1 O O O) O (Dq (Ej s.Columns.length) (Z1 (f:=G3.av) (xs:=s.Columns) Hs O O) O (Dq (G0 v59) (Gec (Jt hv59).1 (Jt hv59).2 O O O) O (Dq (BL (decide (y49.G3=v59))) (Jf O O O) O (Dq (BL (decide (y49.G3=v59))) (G5 O O) O (Do (.agg (Gr.cs s)) [] O .sct G (fun hc=>Gh H3 O O O) O (Do (OW 1027 9 Gb.av (s7.1++[(Gb.mk v13 ByteArray.empty j17.1 j17.2 v16 0 1 0 false)])) [] O .sct G (fun hc=>G5 O O) O ?_)))))))))))))
     refine Do (OW 1031 4 Stowed.av ((([]:List Stowed)++s49)++[(Stowed.mk v13 y49)])) [] O .sct G (fun hc=>G5 O O) O (Do (BL r60) [76,77,78] O .sct ⟨Ua,Ua,Ua,G⟩ (fun hc=>Gu (args:=[.agg (Gr.cs s),E2 (s7.1++[(Gb.mk v13 ByteArray.empty j17.1 j17.2 v16 0 1 0 false)]),E1 ((([]:List Stowed)++s49)++[(Stowed.mk v13 y49)])]) O (Zg s (s7.1++[(Gb.mk v13 ByteArray.empty j17.1 j17.2 v16 0 1 0 false)]) ((([]:List Stowed)++s49)++[(Stowed.mk v13 y49)]) r60 (H6 hc hr60)) G61 ⟨O,O,O,O,O,O,G⟩) O (Dq (BL ((decide (y49.G3=v59))&&r60)) (Q1 O O O O) O (Dnil ?_)))
     refine hK57 (JCc O h (fun h hb=>?_) (fun h hb=>?_))
     ·
      refine Jr fun hK61=>(Rt (OW 1031 4 Stowed.av ((([]:List Stowed)++s49)++[(Stowed.mk v13 y49)])) O (Rt (OW 1031 4 Stowed.av ((([]:List Stowed)++s49)++[(Stowed.mk v13 y49)])) O (G7 (hK61 (J8 (ej10 _ _ ((s7.1++[(Gb.mk v13 ByteArray.empty j17.1 j17.2 v16 0 1 0 false)]),((([]:List Stowed)++s49)++[(Stowed.mk v13 y49)])) h ⟨⟨.same O,.same O,.list O,.same O,.same O,.same O,G⟩,⟨⟨_,O,.same⟩,G⟩,O⟩))))))
     ·
      refine Gs (hK52 (G4 (JLh (G0 ((i49+1:Nat):Int)) (J0 (Hv hk49 hm51) O O O) O (Rt (G0 ((i49+1:Nat):Int)) O (G7 (e49 _ _ (i49+1) s49 (app1 hn49 h) (by omega) ⟨(by repeat' constructor),⟨⟨_,rfl,.same⟩,G⟩,rfl⟩))))))
    ·
     have h:=app1 hkx49 (J5 hi49 (Hi hb))
     refine J8 (ej10 _ _ ((s7.1++[(Gb.mk v13 ByteArray.empty j17.1 j17.2 v16 0 1 0 false)]),s49) h ⟨(by repeat' constructor),⟨⟨_,rfl,.same⟩,G⟩,rfl⟩)
  ·intro j10 h
   replace h:=app1 hkj10 h
   refine G4 (JLh (G0 ((i7+1:Nat):Int)) (J0 (Hv hk7 hm22) O O O) O (Rt (G0 ((i7+1:Nat):Int)) O (G7 (e7 _ _ (i7+1) (j10.1,j10.2) (app1 hn7 h) (by omega) ⟨(by repeat' constructor),⟨⟨_,rfl,.same⟩,G⟩,rfl⟩))))
 ·
  have h:=app1 hkx7 (J5 hi7 (Hi hb))
  refine J8 (hK4 (Jr fun hK62=>(Rt (OW 1027 9 Gb.av s7.1) O (Rt (E1 s7.2) O (Rt (OW 1027 9 Gb.av s7.1) O (Rt (E1 s7.2) O (G7 (hK62 (Gw ?_)))))))))
  obtain rfl:=Option.some.inj h
  exact⟨[OW 1027 9 Gb.av s7.1,E1 s7.2],[(1027,.spare 67 9 s7.1.length s7.1.length)],⟨⟨_,O,.same⟩,G⟩,O,⟨⟨_,O,.conv (.same O)⟩,⟨_,O,.conv (.same O)⟩,G⟩,O,O⟩

def Zq (s:Gr) (boxes:List Gb) (l:List Stowed) (open_:List Int) (id_:Int):Option ((List Stowed)×Int):=
 bnd (Qi s boxes l open_ id_) fun r4=>
 bif decide (r4≠0) then
 (some ([],r4))
 else
 (bnd (Ro l id_) fun r8=>
  bnd (Rg l r8) fun r9=>
  some (r9,0))
theorem Gf6 (s:Gr) (boxes:List Gb) (l:List Stowed) (open_:List Int) (id_:Int) (r:(List Stowed)×Int) (h:Zq s boxes l open_ id_=some r):Pure Ek 14 [.agg (Gr.cs s),E2 boxes,E1 l,E0 open_,G0 id_] (·=.tup [E1 r.1,G0 r.2]):=by
 unfold Zq at h
 refine H7 [.tmp 10,.tmp 11] Tryz.func14 O O (Jr fun hK1=>(JLh (.ptr 1043 0) (Q9 (cs:=(Gr.cs s)) 1043 O O O O O) O (JLh (E1 ([]:List Stowed)) (Hk 4 O O) O (Rt (G0 0) O (G7 (hK1 ?_))))))
 refine Gt [(1,E2 boxes),(2,E1 l),(3,E0 open_),(4,G0 id_),(5,Ec s)] [] 1043 rfl rfl rfl G rfl (by repeat' (first | exact .ptr | constructor)) (Js fun hK2=>?_)
 refine Jr fun hK3=>(JLh (.agg (Gr.cs s)) (Gh H3 O O O) O (Rt (E2 boxes) O (Rt (E1 l) O (Rt (E0 open_) O (Rt (G0 id_) O ?_)))))
 obtain⟨r4,hr4,h⟩:=Gf h
 refine JLh (G0 r4) (Gu O (Z7 s boxes l open_ id_ r4 hr4) G32 ⟨O,O,O,O,O,O,O,O,O,O,G⟩) O (Rt (G0 r4) O (G7 (hK3 (Jr fun hK5=>(Rt (G0 r4) O (JLh (BL (decide (r4≠0))) (G0f O O O) O (G7 (hK5 (JCc O h (fun h hb=>?_) (fun h hb=>?_))))))))))
 ·
  refine Jr fun hK6=>(Rt (G0 r4) O (JLh (E1 ([]:List Stowed)) (Hk 4 O O) O (Rt (G0 r4) O (G7 (hK6 (Gw (⟨[E1 ([]:List Stowed),G0 r4],[],G,O,⟨⟨_,O,.conv (.same O)⟩,⟨_,O,.conv (.same O)⟩,G⟩,O,congrArg (fun r:(List Stowed)×Int=>(.tup [E1 r.1,G0 r.2]:AV)) (Option.some.inj h)⟩)))))))
 ·
  refine Gs (hK2 (Jr fun hK7=>(Rt (E1 l) O (Rt (E1 l) O (Rt (G0 id_) O ?_)))))
  obtain⟨r8,hr8,h⟩:=Gf h
  refine JLh (G0 r8) (Gu O (G25 l id_ r8 hr8) G86 ⟨O,O,O,O,G⟩) O ?_
  obtain⟨r9,hr9,h⟩:=Gf h
  refine JLh (E1 r9) (Gu O (Gd5.down l r8 r9 hr9) Jd4 ⟨O,O,O,O,G⟩) O (Rt (E1 r9) O (Rt (G0 0) O (G7 (hK7 (Gw (⟨[E1 r9,G0 0],[],G,O,⟨⟨_,O,.conv (.same O)⟩,⟨_,O,.conv (.same O)⟩,G⟩,O,congrArg (fun r:(List Stowed)×Int=>(.tup [E1 r.1,G0 r.2]:AV)) (Option.some.inj h)⟩))))))

def G47 (F:Nat) (s:Gr) (boxes:List Gb) (l:List Stowed) (open_:List Int) (cover:Int):Option ((List Int)×Int):=
 bnd (Jq s boxes l open_) fun r4=>
 bif (!r4) then
 (some ([],2))
 else
 (bif ((decide (cover < 0))||(decide ((s.Covers.length:Int)≤cover))) then
  (some ([],6))
  else
  (bnd (Qk F open_ cover) fun r9=>
   bif (!r9.2) then
   (bnd (Qa open_) fun r13=>
    some (r13,0))
   else
   (bnd (G62 open_ r9.1) fun r15=>
    some (r15,0))))
theorem H4c (F:Nat) (s:Gr) (boxes:List Gb) (l:List Stowed) (open_:List Int) (cover:Int) (r:(List Int)×Int) (h:G47 F s boxes l open_ cover=some r):Pure Ek 20 [.agg (Gr.cs s),E2 boxes,E1 l,E0 open_,G0 cover] (·=.tup [E0 r.1,G0 r.2]):=by
 unfold G47 at h
 refine H7 [.tmp 10,.tmp 11] Tryz.func20 O O (Jr fun hK1=>(JLh (.ptr 1054 0) (Q9 (cs:=(Gr.cs s)) 1054 O O O O O) O (JLh (E0 ([]:List Int)) (Hk 1 O O) O (Rt (G0 0) O (G7 (hK1 ?_))))))
 refine Gt [(1,E2 boxes),(2,E1 l),(3,E0 open_),(4,G0 cover),(5,Ec s)] [] 1054 rfl rfl rfl G rfl (by repeat' (first | exact .ptr | constructor)) (Js fun hK2=>H1 ?_)
 refine Jr fun hK3=>(JLh (.agg (Gr.cs s)) (Gh H3 O O O) O (Rt (E2 boxes) O (Rt (E1 l) O (Rt (E0 open_) O ?_))))
 obtain⟨r4,hr4,h⟩:=Gf h
 refine JLh (BL r4) (Gu O (G0b s boxes l open_ r4 hr4) Gc7 ⟨O,O,O,O,O,O,O,O,G⟩) O (JLh (BL (!r4)) (Zs (b:=r4) O O) O (Rt (BL (!r4)) O (G7 (hK3 (JCc O h (fun h hb=>?_) (fun h hb=>?_))))))
 ·
  refine Jr fun hK5=>(JLh (E0 ([]:List Int)) (Hk 1 O O) O (Rt (G0 2) O (G7 (hK5 (Gw (⟨[E0 ([]:List Int),G0 2],[],G,O,⟨⟨_,O,.conv (.same O)⟩,⟨_,O,.conv (.same O)⟩,G⟩,O,congrArg (fun r:(List Int)×Int=>(.tup [E0 r.1,G0 r.2]:AV)) (Option.some.inj h)⟩))))))
 ·
  refine Jr fun hK6=>(Rt (G0 cover) O (JLh (BL (decide (cover < 0))) (Q0 O O O) O (Rt (BL (decide (cover < 0))) O (JLo (G0 cover) [] O .scf G (fun hc=>G5 O O) O (JLo (.dptr [E3 s.Covers,G0 s.Light.Kilos,G0 s.Light.X,G0 s.Light.Y,G0 s.Light.Z,E4 s.Rows,E5 s.Frames,E6 s.Tanks,G0 s.G2.Tolerance,G0 s.G2.Trim,G0 s.G2.List_,G0 s.G2.Stability]) [] O .scf G (fun hc=>Gd Hx O O O) O (JLo (E3 s.Covers) [26] O .scf ⟨Ua,G⟩ (fun hc=>Gj J9 O O O) O (JLo (Ej s.Covers.length) [27] O .scf ⟨Ua,G⟩ (fun hc=>Z1 (f:=G9.av) (xs:=s.Covers) J7 O O) O (JLo (BL (decide ((s.Covers.length:Int)≤cover))) [25,28] O .scf ⟨Ua,Ua,G⟩ (fun hc=>Gaf O O O) O (JLh (BL ((decide (cover < 0))||(decide ((s.Covers.length:Int)≤cover)))) (G11 O O O O) O (Rt (BL ((decide (cover < 0))||(decide ((s.Covers.length:Int)≤cover)))) O (G7 (hK6 ?_))))))))))))
  refine JCc O h (fun h hb=>?_) (fun h hb=>?_)
  ·
   refine Jr fun hK7=>(JLh (E0 ([]:List Int)) (Hk 1 O O) O (Rt (G0 6) O (G7 (hK7 (Gw (⟨[E0 ([]:List Int),G0 6],[],G,O,⟨⟨_,O,.conv (.same O)⟩,⟨_,O,.conv (.same O)⟩,G⟩,O,congrArg (fun r:(List Int)×Int=>(.tup [E0 r.1,G0 r.2]:AV)) (Option.some.inj h)⟩))))))
  ·
   refine Gs (hK2 (Jr fun hK8=>(Rt (E0 open_) O (Rt (G0 cover) O ?_))))
   obtain⟨r9,hr9,h⟩:=Gf h
   refine JLh (.tup [G0 r9.1,BL r9.2]) (Gu O (G2d F open_ cover r9 hr9) J35 ⟨O,O,O,O,G⟩) O (Rt (.tup [G0 r9.1,BL r9.2]) O (JLh (G0 r9.1) (Gv O O O) O (JLh (BL r9.2) (Gv O O O) O (Rt (G0 r9.1) O (Rt (BL r9.2) O (G7 (hK8 (Js fun hK10=>Jr fun hK11=>(Rt (BL r9.2) O (JLh (BL (!r9.2)) (Zs (b:=r9.2) O O) O (G7 (hK11 (JCc O h (fun h hb=>?_) (fun h hb=>?_))))))))))))))
   ·
    refine Jr fun hK12=>(Rt (E0 open_) O ?_)
    obtain⟨r13,hr13,h⟩:=Gf h
    refine JLh (E0 r13) (Gu O (Ga1 open_ r13 hr13) J34 ⟨O,O,G⟩) O (Rt (E0 r13) O (Rt (G0 0) O (G7 (hK12 (Gw (⟨[E0 r13,G0 0],[],G,O,⟨⟨_,O,.conv (.same O)⟩,⟨_,O,.conv (.same O)⟩,G⟩,O,congrArg (fun r:(List Int)×Int=>(.tup [E0 r.1,G0 r.2]:AV)) (Option.some.inj h)⟩))))))
   ·
    refine Gs (hK10 (Jr fun hK14=>(Rt (E0 open_) O (Rt (G0 r9.1) O ?_))))
    obtain⟨r15,hr15,h⟩:=Gf h
    refine JLh (E0 r15) (Gu O (H47.down open_ r9.1 r15 hr15) Jce ⟨O,O,O,O,G⟩) O (Rt (E0 r15) O (Rt (G0 0) O (G7 (hK14 (Gw (⟨[E0 r15,G0 0],[],G,O,⟨⟨_,O,.conv (.same O)⟩,⟨_,O,.conv (.same O)⟩,G⟩,O,congrArg (fun r:(List Int)×Int=>(.tup [E0 r.1,G0 r.2]:AV)) (Option.some.inj h)⟩))))))

def R0 (F:Nat) (l:List Gy) (covers:Int) (drops:List Ga) (way:Int) (n:Int):Option Bool:=
 bnd (Jy l covers) fun r3=>
 need (decide (([(Ga.mk 0 0 false false)].length+drops.length)*4≤140737488355328∧[(Ga.mk 0 0 false false)].length+drops.length≤maxLen)) <|
 bnd (Hz r3 ([(Ga.mk 0 0 false false)]++drops) 9) fun r6=>
 bif decide ((r6.2.length:Int)=0) then
 (some false)
 else
 (need (decide ((([]:List Stowed).length+r6.2.length)*32≤140737488355328∧([]:List Stowed).length+r6.2.length≤maxLen)) <|
  G1c (((([]:List Stowed)++r6.2).length:Int) - 1) fun v13=>
  Y9 (([]:List Stowed)++r6.2) v13 fun y14=>
  jp (fun kj15=>
   bnd (Gcc way 7) fun v17=>
   bif decide (v17=0) then
   (kj15 ((([]:List Stowed)++r6.2).set v13.toNat (Stowed.mk (min n 4) y14.Slot)))
   else
   (bif decide (v17=1) then
    (kj15 ((([]:List Stowed)++r6.2).set v13.toNat (Stowed.mk y14.Gb (Slot.mk (max n (r3.Columns.length:Int)) y14.Slot.Tier y14.Slot.Half))))
    else
    (bif decide (v17=2) then
     (kj15 ((([]:List Stowed)++r6.2).set v13.toNat (Stowed.mk y14.Gb (Slot.mk y14.Slot.G3 (min n (-1)) y14.Slot.Half))))
     else
     (bif decide (v17=3) then
      (kj15 ((([]:List Stowed)++r6.2).set v13.toNat (Stowed.mk y14.Gb (Slot.mk y14.Slot.G3 y14.Slot.Tier 3))))
      else
      (bif decide (v17=4) then
       (need (decide (((([]:List Stowed)++r6.2).length+[(Stowed.mk (max n 100) (Slot.mk 0 0 0))].length)*32≤140737488355328∧(([]:List Stowed)++r6.2).length+[(Stowed.mk (max n 100) (Slot.mk 0 0 0))].length≤maxLen)) <|
        kj15 ((([]:List Stowed)++r6.2)++[(Stowed.mk (max n 100) (Slot.mk 0 0 0))]))
       else
       (bif decide (v17=5) then
        (Y9 r6.2 0 fun y25=>
         need (decide (((([]:List Stowed)++r6.2).length+[y25].length)*32≤140737488355328∧(([]:List Stowed)++r6.2).length+[y25].length≤maxLen)) <|
         kj15 ((([]:List Stowed)++r6.2)++[y25]))
        else
        (bif decide (v17=6) then
         (Y9 (([]:List Stowed)++r6.2) 0 fun y29=>
          Y9 (([]:List Stowed)++r6.2) 0 fun y30=>
          kj15 ((([]:List Stowed)++r6.2).set (0:Int).toNat (Stowed.mk y30.Gb (Slot.mk y30.Slot.G3 y30.Slot.Tier (IntKind.u8.wrap (2 - (IntKind.u8.wrap ((y29.Slot.Half).tdiv 2))))))))
         else
         (kj15 (([]:List Stowed)++r6.2))))))))) fun(j15:(List Stowed))=>
  bnd (Qn F r3 r6.1 j15 []) fun r32=>
  bnd (Zq r3 r6.1 j15 [] 5) fun r34=>
  bnd (Q2 F r3 r6.1 j15 [] (Stowed.mk 0 (Slot.mk 0 0 0))) fun r36=>
  bnd (R8 F r3 r6.1 j15 [] 0) fun r38=>
  bnd (G47 F r3 r6.1 j15 [] 0) fun r40=>
  bnd (Q7 r3 r6.1 j15) fun r43=>
  bif (((((r43||(decide (r32.2≠2)))||(decide (r34.2≠r32.2)))||(decide (r36.2≠r32.2)))||(decide (r38.2≠r32.2)))||(decide (r40.2≠r32.2))) then
  (some false)
  else
  (bnd (Qn F r3 r6.1 r6.2 [(max n 100)]) fun r47=>
   Y9 r6.2 0 fun y49=>
   bnd (Q2 F r3 r6.1 r6.2 [] y49) fun r51=>
   Y9 [(max n (r3.Covers.length:Int))] 0 fun y53=>
   bnd (R8 F r3 r6.1 r6.2 [] y53) fun r55=>
   bnd (Yh r6.2 (min n 4)) fun r57=>
   need (decide ((r6.1.length+[(Gb.mk 3 ByteArray.empty 45 false 0 0 0 0 false),(Gb.mk 4 ByteArray.empty 20 false 0 0 0 0 false)].length)*64≤140737488355328∧r6.1.length+[(Gb.mk 3 ByteArray.empty 45 false 0 0 0 0 false),(Gb.mk 4 ByteArray.empty 20 false 0 0 0 0 false)].length≤maxLen)) <|
   bnd (Q2 F r3 (r6.1++[(Gb.mk 3 ByteArray.empty 45 false 0 0 0 0 false),(Gb.mk 4 ByteArray.empty 20 false 0 0 0 0 false)]) r6.2 [] (Stowed.mk 3 (Slot.mk 0 0 1))) fun r61=>
   bnd (Q2 F r3 (r6.1++[(Gb.mk 3 ByteArray.empty 45 false 0 0 0 0 false),(Gb.mk 4 ByteArray.empty 20 false 0 0 0 0 false)]) r6.2 [] (Stowed.mk 4 (Slot.mk 0 0 0))) fun r63=>
   bnd (Qi r3 (r6.1++[(Gb.mk 3 ByteArray.empty 45 false 0 0 0 0 false),(Gb.mk 4 ByteArray.empty 20 false 0 0 0 0 false)]) r6.2 [(max n (r3.Covers.length:Int))] 5) fun r65=>
   bnd (bif (((((((decide (r65=2))&&(decide (r47.2=6)))&&(decide (r51.2=96)))&&(decide (r55.2=6)))&&(decide (r57.2=6)))&&(decide (r61.2=6)))&&(decide (r63.2=97))) then Hr F else some default) fun r66=>
   some ((((((((decide (r65=2))&&(decide (r47.2=6)))&&(decide (r51.2=96)))&&(decide (r55.2=6)))&&(decide (r57.2=6)))&&(decide (r61.2=6)))&&(decide (r63.2=97)))&&r66)))
theorem Gac (F:Nat) (l:List Gy) (covers:Int) (drops:List Ga) (way:Int) (n:Int) (r:Bool) (h:R0 F l covers drops way n=some r):Pure Ek 6 [Eb l,.sc (.int .u32 covers),Ea drops,U8 way,G0 n] (·=BL r):=by
 unfold R0 at h
 refine H7 [.tmp 10] Tryz.func6 O O (Jr fun hK1=>(Rt (BL false) O (G7 (hK1 (Jr fun hK2=>(Rt (Eb l) O (Rt (.sc (.int .u32 covers)) O ?_)))))))
 obtain⟨r3,hr3,h⟩:=Gf h
 refine JLh (.agg (Gr.cs r3)) (Gu O (Rx l covers r3 hr3) H53 ⟨O,O,O,O,G⟩) O (JLh (.ptr 1021 0) (Ht 1021 13 G64 O O) O (Hu (u:=.junk) (Hj (u:=.agg (Gr.cs r3)) (ds:=(Gr.cs r3)) G13 O O O O O O O O) (G7 (hK2 (Gt [(2,Ea drops),(3,U8 way),(4,G0 n),(11,Ec r3)] [] 1021 rfl rfl rfl G rfl (by repeat' (first | exact .ptr | constructor)) (Js fun hK4=>?_))))))
 obtain⟨ha5,h⟩:=Ja h
 obtain⟨r6,hr6,h⟩:=Gf h
 refine Jv [2,4,5] [0,0,0,0,0,0,3,3,3,3,3] [2,0,0,1,0,0,3,3,3,3,3] [[],((1022,.spare 58 4 [(Ga.mk 0 0 false false)].length [(Ga.mk 0 0 false false)].length)::[]),((1022,.spare 58 4 ([(Ga.mk 0 0 false false)]++drops).length ([(Ga.mk 0 0 false false)]++drops).length)::((1022,.spare 58 4 [(Ga.mk 0 0 false false)].length [(Ga.mk 0 0 false false)].length)::[])),((1027,.spare 67 9 r6.1.length r6.1.length)::((1022,.spare 58 4 ([(Ga.mk 0 0 false false)]++drops).length ([(Ga.mk 0 0 false false)]++drops).length)::((1022,.spare 58 4 [(Ga.mk 0 0 false false)].length [(Ga.mk 0 0 false false)].length)::[])))] Jx (by kernel_rfl) rfl rfl ?_
 refine Gm (u:=.agg (Gr.cs r3)) O O ⟨Gi (Gh H3 O O O) O,Gi (Gh H3 O O O) O,Gi (Gh H3 O O O) O,G⟩ (Gm (u:=.agg [U8 0,U8 0,BL false,BL false]) O O ⟨Gi (Hg (cs:=[U8 0,U8 0,BL false,BL false]) [(0,1),(1,1),(2,1),(3,1)] [U8 0,U8 0,BL false,BL false] [.int .u8 0,.int .u8 0,.bool false,.bool false] J89 Jb1 ⟨.inl O,.inl O,.inl O,.inl O,G⟩ O O) O,G⟩ (J70 (u:=OW 1022 4 Ga.av [(Ga.mk 0 0 false false)]) O O O O (Gi (Je3 1022 (f:=Ga.av) [(Ga.mk 0 0 false false)] O ⟨O,O,G⟩ Z3 H2e O O O O O) O) (Gm (u:=Ea drops) O O ⟨Gi (G5 O O) O,Gi (G5 O O) O,G⟩ (J70 (u:=OW 1022 4 Ga.av ([(Ga.mk 0 0 false false)]++drops)) O O O O (Gi (G2a (f:=Ga.av) (xs:=[(Ga.mk 0 0 false false)]) (ys:=drops) O O O O Z3 Jb8 ha5 (fun _=>O) (.inl O)) O) (J70 (u:=.tup [OW 1027 9 Gb.av r6.1,E1 r6.2]) O O O O (Gi (G4b (args:=[.agg (Gr.cs r3),Ea ([(Ga.mk 0 0 false false)]++drops),G0 9]) (L0:=[]) (Lr:=[(1027,.spare 67 9 r6.1.length r6.1.length)]) O (Zk r3 ([(Ga.mk 0 0 false false)]++drops) 9 r6 hr6) H52 ⟨.inl O,O,.inr O,O,.inl O,O,G⟩ G O O O) O) (Gm (u:=.tup [OW 1027 9 Gb.av r6.1,E1 r6.2]) O O ⟨Gi (G5 O O) O,G⟩ (Gm (u:=OW 1027 9 Gb.av r6.1) O O ⟨Gi (Gv O O O) O,G⟩ (Gm (u:=E1 r6.2) O O ⟨Gi (Gv O O O) O,G⟩ (Gm (u:=OW 1027 9 Gb.av r6.1) O O ⟨Gi (G8 O O) O,G⟩ (Gm (u:=E1 r6.2) O O ⟨Gi (G8 O O) O,G⟩ (Y5 ?_)))))))))))
 refine hK4 (Js fun hK7=>Jr fun hK8=>(Rt (E1 r6.2) O (JLl Gx O O O fun hm52=>(JLh (BL (decide ((r6.2.length:Int)=0))) (Jf O O O) O (G7 (hK8 (JCc O h (fun h hb=>?_) (fun h hb=>?_))))))))
 ·
  refine Jr fun hK9=>(Rt (BL false) O (G7 (hK9 (Gw (fin1 BL h)))))
 ·
  refine Gs (hK7 (Jr fun hK10=>(JLh (.vec 1023 (([]:List Stowed).length) 4 (([]:List Stowed).length)) (A_vlit 1023 47 4 O O Gx) O (Rt (E1 r6.2) O ?_))))
  obtain⟨ha11,h⟩:=Ja h
  refine JLh (.vec 1023 ((([]:List Stowed)++r6.2).length+1) 4 ((([]:List Stowed)++r6.2).length)) (G1b (f:=Stowed.av) (xs:=([]:List Stowed)) (ys:=r6.2) (ver:=(([]:List Stowed).length)) (ver1:=((([]:List Stowed)++r6.2).length+1)) rfl rfl rfl rfl Gx G16 ha11 (fun _=>rfl) (.inl rfl) (by simp)) O (Rt (.vec 1023 ((([]:List Stowed)++r6.2).length+1) 4 ((([]:List Stowed)++r6.2).length)) O (G7 (hK10 (Jr fun hK12=>(Rt (.vec 1023 ((([]:List Stowed)++r6.2).length+1) 4 ((([]:List Stowed)++r6.2).length)) O (Rt (.vec 1023 ((([]:List Stowed)++r6.2).length+1) 4 ((([]:List Stowed)++r6.2).length)) O (J6c (f:=Stowed.av) (xs:=(([]:List Stowed)++r6.2)) Gx O O O (fun hm59=>?_) O O O)))))))
  obtain⟨v13,hv13,h⟩:=Jg h
  refine JLh (G0 v13) (H06 hv13 O O O) O ?_
  obtain⟨y14,hmy14,hy14,h⟩:=H5d h
  refine JLh (.vptr 1023 ((([]:List Stowed)++r6.2).length+1) v13.toNat 0) (J11 (f:=Stowed.av) (xs:=(([]:List Stowed)++r6.2)) (y:=y14) O O O O Gx hy14 hmy14) O (Rt (.vptr 1023 ((([]:List Stowed)++r6.2).length+1) v13.toNat 0) O (G7 (hK12 ?_)))
  obtain⟨kj15,hkj15,h⟩:=Yo h
  refine R9 (fun q_:((List Stowed))×Nat=>kj15 q_.1=some r) (fun q_=>[(4,G0 n),(11,Ec r3),(12,OW 1027 9 Gb.av r6.1),(13,E1 r6.2),(14,.vec 1023 q_.2 4 q_.1.length)]) (fun q_=>[(1027,.spare 67 9 r6.1.length r6.1.length),(1023,.vec 47 4 q_.2 (q_.1.map Stowed.av))]) (fun Kj15 ej15=>?_) ?_
  ·
   refine Jr fun hK16=>(Rt (U8 way) O ?_)
   obtain⟨v17,hv17,h⟩:=Gf h
   refine JLh (U8 v17) (Gec (Jt hv17).1 (Jt hv17).2 O O O) O (G7 (hK16 (H1 (Jr fun hK18=>(JLh (BL (decide (v17=0))) (Jf O O O) O (Rt (BL (decide (v17=0))) O (G7 (hK18 (JCc O h (fun h hb=>?_) (fun h hb=>?_))))))))))
   ·
    refine G4 (Rt (.vptr 1023 ((([]:List Stowed)++r6.2).length+1) v13.toNat 0) O (Rt (G0 n) O (JLh (G0 (min n 4)) (J83 O O O) O (JLh (.vptr 1023 ((([]:List Stowed)++r6.2).length+1) v13.toNat 0) (J8d O O O) O (JLh (.vptr 1023 ((([]:List Stowed)++r6.2).length+1) v13.toNat 0) (G22 Hw O O O) O (Hu (u:=.junk) (Gc3 (f:=Stowed.av) (xs:=(([]:List Stowed)++r6.2)) (e:=y14) (z:=(Stowed.mk (min n 4) y14.Slot)) (u:=G0 (min n 4)) G3f O O O O hy14 O O O O O) (Qm 14 (f:=Stowed.av) (xs:=((([]:List Stowed)++r6.2).set v13.toNat (Stowed.mk (min n 4) y14.Slot))) O O (Qm 56 (f:=Stowed.av) (xs:=((([]:List Stowed)++r6.2).set v13.toNat (Stowed.mk (min n 4) y14.Slot))) O O ?_))))))))
    refine Qm 57 (f:=Stowed.av) (xs:=((([]:List Stowed)++r6.2).set v13.toNat (Stowed.mk (min n 4) y14.Slot))) O O (Qm 58 (f:=Stowed.av) (xs:=((([]:List Stowed)++r6.2).set v13.toNat (Stowed.mk (min n 4) y14.Slot))) O O (G7 (ej15 _ _ (((([]:List Stowed)++r6.2).set v13.toNat (Stowed.mk (min n 4) y14.Slot)),((([]:List Stowed)++r6.2).length+1)) h ⟨(by repeat' constructor),⟨⟨_,rfl,.same⟩,⟨_,rfl,.vec⟩,G⟩,rfl⟩)))
   ·
    refine Jr fun hK19=>(JLh (BL (decide (v17=1))) (Jf O O O) O (Rt (BL (decide (v17=1))) O (G7 (hK19 (JCc O h (fun h hb=>?_) (fun h hb=>?_))))))
    ·
     refine G4 ?_
     refine Rt (.vptr 1023 ((([]:List Stowed)++r6.2).length+1) v13.toNat 0) O (Rt (G0 n) O (JLh (Ec r3) (Gd Ho O O O) O (JLh (E7 r3.Columns) (Gj J1 O O O) O (JLl Hs O O O fun hm77=>(JLh (G0 (max n (r3.Columns.length:Int))) (Ja7 O O O) O (JLh (.vptr 1023 ((([]:List Stowed)++r6.2).length+1) v13.toNat 0) (J8d O O O) O (JLh (.vptr 1023 ((([]:List Stowed)++r6.2).length+1) v13.toNat 1) (G22 Hq O O O) O (JLh (.vptr 1023 ((([]:List Stowed)++r6.2).length+1) v13.toNat 1) (G22 Jc O O O) O (Hu (u:=.junk) (Gc3 (f:=Stowed.av) (xs:=(([]:List Stowed)++r6.2)) (e:=y14) (z:=(Stowed.mk y14.Gb (Slot.mk (max n (r3.Columns.length:Int)) y14.Slot.Tier y14.Slot.Half))) (u:=G0 (max n (r3.Columns.length:Int))) G3f O O O O hy14 O O O O O) ?_)))))))))
     refine Qm 14 (f:=Stowed.av) (xs:=((([]:List Stowed)++r6.2).set v13.toNat (Stowed.mk y14.Gb (Slot.mk (max n (r3.Columns.length:Int)) y14.Slot.Tier y14.Slot.Half)))) O O (Qm 56 (f:=Stowed.av) (xs:=((([]:List Stowed)++r6.2).set v13.toNat (Stowed.mk y14.Gb (Slot.mk (max n (r3.Columns.length:Int)) y14.Slot.Tier y14.Slot.Half)))) O O (Qm 57 (f:=Stowed.av) (xs:=((([]:List Stowed)++r6.2).set v13.toNat (Stowed.mk y14.Gb (Slot.mk (max n (r3.Columns.length:Int)) y14.Slot.Tier y14.Slot.Half)))) O O (Qm 58 (f:=Stowed.av) (xs:=((([]:List Stowed)++r6.2).set v13.toNat (Stowed.mk y14.Gb (Slot.mk (max n (r3.Columns.length:Int)) y14.Slot.Tier y14.Slot.Half)))) O O (G7 ?_))))
     exact ej15 _ _ (((([]:List Stowed)++r6.2).set v13.toNat (Stowed.mk y14.Gb (Slot.mk (max n (r3.Columns.length:Int)) y14.Slot.Tier y14.Slot.Half))),((([]:List Stowed)++r6.2).length+1)) h ⟨(by repeat' constructor),⟨⟨_,rfl,.same⟩,⟨_,rfl,.vec⟩,G⟩,rfl⟩
    ·
     refine Jr fun hK20=>(JLh (BL (decide (v17=2))) (Jf O O O) O (Rt (BL (decide (v17=2))) O (G7 (hK20 (JCc O h (fun h hb=>?_) (fun h hb=>?_))))))
     ·
      refine G4 (Rt (.vptr 1023 ((([]:List Stowed)++r6.2).length+1) v13.toNat 0) O (Rt (G0 n) O (JLh (G0 (min n (-1))) (J83 O O O) O (JLh (.vptr 1023 ((([]:List Stowed)++r6.2).length+1) v13.toNat 0) (J8d O O O) O (JLh (.vptr 1023 ((([]:List Stowed)++r6.2).length+1) v13.toNat 1) (G22 Hq O O O) O (JLh (.vptr 1023 ((([]:List Stowed)++r6.2).length+1) v13.toNat 2) (G22 Yd O O O) O (Hu (u:=.junk) (Gc3 (f:=Stowed.av) (xs:=(([]:List Stowed)++r6.2)) (e:=y14) (z:=(Stowed.mk y14.Gb (Slot.mk y14.Slot.G3 (min n (-1)) y14.Slot.Half))) (u:=G0 (min n (-1))) G3f O O O O hy14 O O O O O) (Qm 14 (f:=Stowed.av) (xs:=((([]:List Stowed)++r6.2).set v13.toNat (Stowed.mk y14.Gb (Slot.mk y14.Slot.G3 (min n (-1)) y14.Slot.Half)))) O O ?_))))))))
      refine Qm 56 (f:=Stowed.av) (xs:=((([]:List Stowed)++r6.2).set v13.toNat (Stowed.mk y14.Gb (Slot.mk y14.Slot.G3 (min n (-1)) y14.Slot.Half)))) O O (Qm 57 (f:=Stowed.av) (xs:=((([]:List Stowed)++r6.2).set v13.toNat (Stowed.mk y14.Gb (Slot.mk y14.Slot.G3 (min n (-1)) y14.Slot.Half)))) O O (Qm 58 (f:=Stowed.av) (xs:=((([]:List Stowed)++r6.2).set v13.toNat (Stowed.mk y14.Gb (Slot.mk y14.Slot.G3 (min n (-1)) y14.Slot.Half)))) O O (G7 (ej15 _ _ (((([]:List Stowed)++r6.2).set v13.toNat (Stowed.mk y14.Gb (Slot.mk y14.Slot.G3 (min n (-1)) y14.Slot.Half))),((([]:List Stowed)++r6.2).length+1)) h ⟨(by repeat' constructor),⟨⟨_,rfl,.same⟩,⟨_,rfl,.vec⟩,G⟩,rfl⟩))))
     ·
      refine Jr fun hK21=>(JLh (BL (decide (v17=3))) (Jf O O O) O (Rt (BL (decide (v17=3))) O (G7 (hK21 (JCc O h (fun h hb=>?_) (fun h hb=>?_))))))
      ·
       refine G4 (Rt (.vptr 1023 ((([]:List Stowed)++r6.2).length+1) v13.toNat 0) O (JLh (.vptr 1023 ((([]:List Stowed)++r6.2).length+1) v13.toNat 0) (J8d O O O) O (JLh (.vptr 1023 ((([]:List Stowed)++r6.2).length+1) v13.toNat 1) (G22 Hq O O O) O (JLh (.vptr 1023 ((([]:List Stowed)++r6.2).length+1) v13.toNat 3) (G22 Qq O O O) O (Hu (u:=.junk) (Gc3 (f:=Stowed.av) (xs:=(([]:List Stowed)++r6.2)) (e:=y14) (z:=(Stowed.mk y14.Gb (Slot.mk y14.Slot.G3 y14.Slot.Tier 3))) (u:=U8 3) Gbc O O O O hy14 O O O O O) (Qm 14 (f:=Stowed.av) (xs:=((([]:List Stowed)++r6.2).set v13.toNat (Stowed.mk y14.Gb (Slot.mk y14.Slot.G3 y14.Slot.Tier 3)))) O O ?_))))))
       refine Qm 56 (f:=Stowed.av) (xs:=((([]:List Stowed)++r6.2).set v13.toNat (Stowed.mk y14.Gb (Slot.mk y14.Slot.G3 y14.Slot.Tier 3)))) O O (Qm 57 (f:=Stowed.av) (xs:=((([]:List Stowed)++r6.2).set v13.toNat (Stowed.mk y14.Gb (Slot.mk y14.Slot.G3 y14.Slot.Tier 3)))) O O (Qm 58 (f:=Stowed.av) (xs:=((([]:List Stowed)++r6.2).set v13.toNat (Stowed.mk y14.Gb (Slot.mk y14.Slot.G3 y14.Slot.Tier 3)))) O O (G7 (ej15 _ _ (((([]:List Stowed)++r6.2).set v13.toNat (Stowed.mk y14.Gb (Slot.mk y14.Slot.G3 y14.Slot.Tier 3))),((([]:List Stowed)++r6.2).length+1)) h ⟨(by repeat' constructor),⟨⟨_,rfl,.same⟩,⟨_,rfl,.vec⟩,G⟩,rfl⟩))))
      ·
       refine Jr fun hK22=>(JLh (BL (decide (v17=4))) (Jf O O O) O (Rt (BL (decide (v17=4))) O (G7 (hK22 (JCc O h (fun h hb=>?_) (fun h hb=>?_))))))
       ·
        refine G4 (Rt (.vec 1023 ((([]:List Stowed)++r6.2).length+1) 4 ((([]:List Stowed)++r6.2).length)) O (Rt (G0 n) O (JLh (G0 (max n 100)) (Ja7 O O O) O (JLh (.agg [G0 0,G0 0,U8 0]) (Hg (cs:=[G0 0,G0 0,U8 0]) [(0,1),(1,1),(2,1)] [G0 0,G0 0,U8 0] [.int .i64 0,.int .i64 0,.int .u8 0] G15 G5e ⟨.inl O,.inl O,.inl O,G⟩ O O) O (JLh (.agg [G0 (max n 100),G0 0,G0 0,U8 0]) (Hg (cs:=[G0 (max n 100),G0 0,G0 0,U8 0]) [(0,1),(1,3)] [G0 0,G0 0,G0 0,U8 0] [.int .i64 0,.int .i64 0,.int .i64 0,.int .u8 0] Ri Y8 ⟨.inl O,.inl O,.inl O,.inl O,G⟩ O O) O (JLh (E1 [(Stowed.mk (max n 100) (Slot.mk 0 0 0))]) (H5 (xs:=[.agg [G0 (max n 100),G0 0,G0 0,U8 0]]) O ⟨O,O,G⟩ Gx Q4 O O O O) O ?_))))))
        obtain⟨ha23,h⟩:=Ja h
        refine JLh (.vec 1023 (((([]:List Stowed)++r6.2).length+1)+1) 4 (((([]:List Stowed)++r6.2)++[(Stowed.mk (max n 100) (Slot.mk 0 0 0))]).length)) (G1b (f:=Stowed.av) (xs:=(([]:List Stowed)++r6.2)) (ys:=[(Stowed.mk (max n 100) (Slot.mk 0 0 0))]) (ver:=((([]:List Stowed)++r6.2).length+1)) (ver1:=(((([]:List Stowed)++r6.2).length+1)+1)) rfl rfl rfl rfl Gx G16 ha23 (fun _=>rfl) (.inl rfl) (by simp)) O (Rt (.vec 1023 (((([]:List Stowed)++r6.2).length+1)+1) 4 (((([]:List Stowed)++r6.2)++[(Stowed.mk (max n 100) (Slot.mk 0 0 0))]).length)) O (G7 (ej15 _ _ (((([]:List Stowed)++r6.2)++[(Stowed.mk (max n 100) (Slot.mk 0 0 0))]),(((([]:List Stowed)++r6.2).length+1)+1)) h ⟨(by repeat' constructor),⟨⟨_,rfl,.same⟩,⟨_,rfl,.vec⟩,G⟩,rfl⟩)))
       ·
        refine Jr fun hK24=>(JLh (BL (decide (v17=5))) (Jf O O O) O (Rt (BL (decide (v17=5))) O (G7 (hK24 (JCc O h (fun h hb=>?_) (fun h hb=>?_))))))
        ·
         refine G4 (Rt (.vec 1023 ((([]:List Stowed)++r6.2).length+1) 4 ((([]:List Stowed)++r6.2).length)) O (Rt (E1 r6.2) O ?_))
         obtain⟨m26,y25,hm26,hy25,h⟩:=R3 h
         refine JLh (Ed y25) (Ha (f:=Stowed.av) (xs:=r6.2) (y:=y25) O O O Gx hy25 hm26) O (JLh (.agg (Stowed.cs y25)) (Gh Qw O O O) O (JLh (E1 [y25]) (H5 (xs:=[.agg (Stowed.cs y25)]) O ⟨O,O,G⟩ Gx Q4 O O O O) O ?_))
         obtain⟨ha27,h⟩:=Ja h
         refine JLh (.vec 1023 (((([]:List Stowed)++r6.2).length+1)+1) 4 (((([]:List Stowed)++r6.2)++[y25]).length)) (G1b (f:=Stowed.av) (xs:=(([]:List Stowed)++r6.2)) (ys:=[y25]) (ver:=((([]:List Stowed)++r6.2).length+1)) (ver1:=(((([]:List Stowed)++r6.2).length+1)+1)) rfl rfl rfl rfl Gx G16 ha27 (fun _=>rfl) (.inl rfl) (by simp)) O (Rt (.vec 1023 (((([]:List Stowed)++r6.2).length+1)+1) 4 (((([]:List Stowed)++r6.2)++[y25]).length)) O (G7 (ej15 _ _ (((([]:List Stowed)++r6.2)++[y25]),(((([]:List Stowed)++r6.2).length+1)+1)) h ⟨(by repeat' constructor),⟨⟨_,rfl,.same⟩,⟨_,rfl,.vec⟩,G⟩,rfl⟩)))
        ·
         refine Jr fun hK28=>(JLh (BL (decide (v17=6))) (Jf O O O) O (Rt (BL (decide (v17=6))) O (G7 (hK28 (JCc O h (fun h hb=>?_) (fun h hb=>?_))))))
         ·
          refine G4 (Rt (.vec 1023 ((([]:List Stowed)++r6.2).length+1) 4 ((([]:List Stowed)++r6.2).length)) O (Rt (.vec 1023 ((([]:List Stowed)++r6.2).length+1) 4 ((([]:List Stowed)++r6.2).length)) O ?_))
          obtain⟨y29,hmy29,hy29,h⟩:=H5d h
          refine JLh (.vptr 1023 ((([]:List Stowed)++r6.2).length+1) ((0:Int).toNat) 0) (J11 (f:=Stowed.av) (xs:=(([]:List Stowed)++r6.2)) (y:=y29) O O O O Gx hy29 hmy29) O (JLh (.vptr 1023 ((([]:List Stowed)++r6.2).length+1) ((0:Int).toNat) 1) (G22 Hq O O O) O (JLh (.vptr 1023 ((([]:List Stowed)++r6.2).length+1) ((0:Int).toNat) 3) (G22 Qq O O O) O (JLh (U8 y29.Slot.Half) (A_vloadM (f:=Stowed.av) (xs:=(([]:List Stowed)++r6.2)) (y:=y29) Hy O O O hy29 O O) O (JLh (U8 (IntKind.u8.wrap ((y29.Slot.Half).tdiv 2))) (A_quo (by decide) rfl rfl rfl rfl) O (JLh (U8 (IntKind.u8.wrap (2 - (IntKind.u8.wrap ((y29.Slot.Half).tdiv 2))))) (H06 O O O O) O ?_)))))
          obtain⟨y30,hmy30,hy30,h⟩:=H5d h
          refine JLh (.vptr 1023 ((([]:List Stowed)++r6.2).length+1) ((0:Int).toNat) 0) (J11 (f:=Stowed.av) (xs:=(([]:List Stowed)++r6.2)) (y:=y30) O O O O Gx hy30 hmy30) O (JLh (.vptr 1023 ((([]:List Stowed)++r6.2).length+1) ((0:Int).toNat) 1) (G22 Hq O O O) O (JLh (.vptr 1023 ((([]:List Stowed)++r6.2).length+1) ((0:Int).toNat) 3) (G22 Qq O O O) O (Hu (u:=.junk) (Gc3 (f:=Stowed.av) (xs:=(([]:List Stowed)++r6.2)) (e:=y30) (z:=(Stowed.mk y30.Gb (Slot.mk y30.Slot.G3 y30.Slot.Tier (IntKind.u8.wrap (2 - (IntKind.u8.wrap ((y29.Slot.Half).tdiv 2))))))) (u:=U8 (IntKind.u8.wrap (2 - (IntKind.u8.wrap ((y29.Slot.Half).tdiv 2))))) Gbc O O O O hy30 O O O O O) ?_)))
          refine Qm 14 (f:=Stowed.av) (xs:=((([]:List Stowed)++r6.2).set (0:Int).toNat (Stowed.mk y30.Gb (Slot.mk y30.Slot.G3 y30.Slot.Tier (IntKind.u8.wrap (2 - (IntKind.u8.wrap ((y29.Slot.Half).tdiv 2)))))))) O O (Qm 56 (f:=Stowed.av) (xs:=((([]:List Stowed)++r6.2).set (0:Int).toNat (Stowed.mk y30.Gb (Slot.mk y30.Slot.G3 y30.Slot.Tier (IntKind.u8.wrap (2 - (IntKind.u8.wrap ((y29.Slot.Half).tdiv 2)))))))) O O (Qm 57 (f:=Stowed.av) (xs:=((([]:List Stowed)++r6.2).set (0:Int).toNat (Stowed.mk y30.Gb (Slot.mk y30.Slot.G3 y30.Slot.Tier (IntKind.u8.wrap (2 - (IntKind.u8.wrap ((y29.Slot.Half).tdiv 2)))))))) O O ?_))
          refine Qm 58 (f:=Stowed.av) (xs:=((([]:List Stowed)++r6.2).set (0:Int).toNat (Stowed.mk y30.Gb (Slot.mk y30.Slot.G3 y30.Slot.Tier (IntKind.u8.wrap (2 - (IntKind.u8.wrap ((y29.Slot.Half).tdiv 2)))))))) O O (Qm 115 (f:=Stowed.av) (xs:=((([]:List Stowed)++r6.2).set (0:Int).toNat (Stowed.mk y30.Gb (Slot.mk y30.Slot.G3 y30.Slot.Tier (IntKind.u8.wrap (2 - (IntKind.u8.wrap ((y29.Slot.Half).tdiv 2)))))))) O O (Qm 116 (f:=Stowed.av) (xs:=((([]:List Stowed)++r6.2).set (0:Int).toNat (Stowed.mk y30.Gb (Slot.mk y30.Slot.G3 y30.Slot.Tier (IntKind.u8.wrap (2 - (IntKind.u8.wrap ((y29.Slot.Half).tdiv 2)))))))) O O (G7 ?_)))
          exact ej15 _ _ (((([]:List Stowed)++r6.2).set (0:Int).toNat (Stowed.mk y30.Gb (Slot.mk y30.Slot.G3 y30.Slot.Tier (IntKind.u8.wrap (2 - (IntKind.u8.wrap ((y29.Slot.Half).tdiv 2))))))),((([]:List Stowed)++r6.2).length+1)) h ⟨(by repeat' constructor),⟨⟨_,rfl,.same⟩,⟨_,rfl,.vec⟩,G⟩,rfl⟩
         ·
          refine Gs (ej15 _ _ ((([]:List Stowed)++r6.2),((([]:List Stowed)++r6.2).length+1)) h ⟨(by repeat' constructor),⟨⟨_,rfl,.same⟩,⟨_,rfl,.vec⟩,G⟩,rfl⟩)
  ·rintro⟨j15,gj15⟩ h
   replace h:=app1 hkj15 h
   refine Jr fun hK31=>(JLh (.agg (Gr.cs r3)) (Gh H3 O O O) O (Rt (OW 1027 9 Gb.av r6.1) O (Rt (.vec 1023 gj15 4 j15.length) O (Jdc [(4,G0 n),(11,Ec r3),(12,OW 1027 9 Gb.av r6.1),(13,E1 r6.2),(14,E1 j15),(127,.agg (Gr.cs r3)),(128,OW 1027 9 Gb.av r6.1),(129,E1 j15)] [(1027,.spare 67 9 r6.1.length r6.1.length)] 1023 rfl rfl ⟨⟨_,rfl,.same⟩,G⟩ rfl (by exact⟨.conv (.same rfl),.conv (.same rfl),.conv (.same rfl),.conv (.same rfl),.vec,.conv (.same rfl),.conv (.same rfl),.vec,G⟩) ?_))))
   obtain⟨r32,hr32,h⟩:=Gf h
   refine JLh (.tup [E0 r32.1,G0 r32.2]) (Y1 (args:=[.agg (Gr.cs r3),E2 r6.1,E1 j15,E0 ([]:List Int)]) O (Rw.down F r3 r6.1 j15 [] r32 hr32) G18 ⟨.inl O,O,.inl O,O,.inl O,O,.inr ⟨_,O,O⟩,O,G⟩) O (Rt (.tup [E0 r32.1,G0 r32.2]) O (JLh (E0 r32.1) (Gv O O O) O (JLh (G0 r32.2) (Gv O O O) O (Rt (E0 r32.1) O (Rt (G0 r32.2) O (G7 (hK31 (Jr fun hK33=>(JLh (.agg (Gr.cs r3)) (Gh H3 O O O) O (Rt (OW 1027 9 Gb.av r6.1) O (Rt (E1 j15) O ?_)))))))))))
   obtain⟨r34,hr34,h⟩:=Gf h
   refine JLh (.tup [E1 r34.1,G0 r34.2]) (Y1 (args:=[.agg (Gr.cs r3),E2 r6.1,E1 j15,E0 ([]:List Int),G0 5]) O (Gf6 r3 r6.1 j15 [] 5 r34 hr34) H11 ⟨.inl O,O,.inl O,O,.inl O,O,.inr ⟨_,O,O⟩,O,.inl O,O,G⟩) O (Rt (.tup [E1 r34.1,G0 r34.2]) O (JLh (E1 r34.1) (Gv O O O) O (JLh (G0 r34.2) (Gv O O O) O (Rt (E1 r34.1) O (Rt (G0 r34.2) O (G7 (hK33 (Jr fun hK35=>(JLh (.agg (Gr.cs r3)) (Gh H3 O O O) O (Rt (OW 1027 9 Gb.av r6.1) O (Rt (E1 j15) O (JLh (.agg [G0 0,G0 0,G0 0,U8 0]) (Hg (cs:=[G0 0,G0 0,G0 0,U8 0]) [(0,1),(1,3)] [G0 0,G0 0,G0 0,U8 0] [.int .i64 0,.int .i64 0,.int .i64 0,.int .u8 0] Ri Y8 ⟨.inl O,.inl O,.inl O,.inl O,G⟩ O O) O ?_))))))))))))
   obtain⟨r36,hr36,h⟩:=Gf h
   refine JLh (.tup [E1 r36.1,G0 r36.2]) (Y1 (args:=[.agg (Gr.cs r3),E2 r6.1,E1 j15,E0 ([]:List Int),.agg [G0 0,G0 0,G0 0,U8 0]]) O (Yg F r3 r6.1 j15 [] (Stowed.mk 0 (Slot.mk 0 0 0)) r36 hr36) Zx ⟨.inl O,O,.inl O,O,.inl O,O,.inr ⟨_,O,O⟩,O,.inl O,O,G⟩) O (Rt (.tup [E1 r36.1,G0 r36.2]) O (JLh (E1 r36.1) (Gv O O O) O (JLh (G0 r36.2) (Gv O O O) O (Rt (E1 r36.1) O (Rt (G0 r36.2) O (G7 (hK35 (Jr fun hK37=>(JLh (.agg (Gr.cs r3)) (Gh H3 O O O) O (Rt (OW 1027 9 Gb.av r6.1) O (Rt (E1 j15) O ?_)))))))))))
   obtain⟨r38,hr38,h⟩:=Gf h
   refine JLh (.tup [E0 r38.1,G0 r38.2]) (Y1 (args:=[.agg (Gr.cs r3),E2 r6.1,E1 j15,E0 ([]:List Int),G0 0]) O (G26 F r3 r6.1 j15 [] 0 r38 hr38) G87 ⟨.inl O,O,.inl O,O,.inl O,O,.inr ⟨_,O,O⟩,O,.inl O,O,G⟩) O (Rt (.tup [E0 r38.1,G0 r38.2]) O (JLh (E0 r38.1) (Gv O O O) O (JLh (G0 r38.2) (Gv O O O) O (Rt (E0 r38.1) O (Rt (G0 r38.2) O (G7 (hK37 (Jr fun hK39=>(JLh (.agg (Gr.cs r3)) (Gh H3 O O O) O (Rt (OW 1027 9 Gb.av r6.1) O (Rt (E1 j15) O ?_)))))))))))
   obtain⟨r40,hr40,h⟩:=Gf h
   refine JLh (.tup [E0 r40.1,G0 r40.2]) (Y1 (args:=[.agg (Gr.cs r3),E2 r6.1,E1 j15,E0 ([]:List Int),G0 0]) O (H4c F r3 r6.1 j15 [] 0 r40 hr40) H79 ⟨.inl O,O,.inl O,O,.inl O,O,.inr ⟨_,O,O⟩,O,.inl O,O,G⟩) O (Rt (.tup [E0 r40.1,G0 r40.2]) O (JLh (E0 r40.1) (Gv O O O) O (JLh (G0 r40.2) (Gv O O O) O (Rt (E0 r40.1) O (Rt (G0 r40.2) O (G7 (hK39 (Js fun hK41=>Jr fun hK42=>(JLh (.agg (Gr.cs r3)) (Gh H3 O O O) O (Rt (OW 1027 9 Gb.av r6.1) O (Rt (E1 j15) O ?_)))))))))))
   obtain⟨r43,hr43,h⟩:=Gf h
   refine JLh (BL r43) (Gu O (Zg r3 r6.1 j15 r43 hr43) G61 ⟨O,O,O,O,O,O,G⟩) O (Rt (BL r43) O (JLo (G0 r32.2) [] O .scf G (fun hc=>G5 O O) O (JLo (BL (decide (r32.2≠2))) [167] O .scf ⟨Ua,G⟩ (fun hc=>G0f O O O) O (JLh (BL (r43||(decide (r32.2≠2)))) (G11 O O O O) O (Rt (BL (r43||(decide (r32.2≠2)))) O (JLo (G0 r34.2) [] O .scf G (fun hc=>G5 O O) O (JLo (G0 r32.2) [] O .scf G (fun hc=>G5 O O) O (JLo (BL (decide (r34.2≠r32.2))) [171,172] O .scf ⟨Ua,Ua,G⟩ (fun hc=>G0f O O O) O (JLh (BL ((r43||(decide (r32.2≠2)))||(decide (r34.2≠r32.2)))) (G11 O O O O) O (Rt (BL ((r43||(decide (r32.2≠2)))||(decide (r34.2≠r32.2)))) O (JLo (G0 r36.2) [] O .scf G (fun hc=>G5 O O) O (JLo (G0 r32.2) [] O .scf G (fun hc=>G5 O O) O (JLo (BL (decide (r36.2≠r32.2))) [176,177] O .scf ⟨Ua,Ua,G⟩ (fun hc=>G0f O O O) O ?_)))))))))))))
   refine JLh (BL (((r43||(decide (r32.2≠2)))||(decide (r34.2≠r32.2)))||(decide (r36.2≠r32.2)))) (G11 O O O O) O (Rt (BL (((r43||(decide (r32.2≠2)))||(decide (r34.2≠r32.2)))||(decide (r36.2≠r32.2)))) O (JLo (G0 r38.2) [] O .scf G (fun hc=>G5 O O) O (JLo (G0 r32.2) [] O .scf G (fun hc=>G5 O O) O (JLo (BL (decide (r38.2≠r32.2))) [181,182] O .scf ⟨Ua,Ua,G⟩ (fun hc=>G0f O O O) O (JLh (BL ((((r43||(decide (r32.2≠2)))||(decide (r34.2≠r32.2)))||(decide (r36.2≠r32.2)))||(decide (r38.2≠r32.2)))) (G11 O O O O) O (Rt (BL ((((r43||(decide (r32.2≠2)))||(decide (r34.2≠r32.2)))||(decide (r36.2≠r32.2)))||(decide (r38.2≠r32.2)))) O (JLo (G0 r40.2) [] O .scf G (fun hc=>G5 O O) O (JLo (G0 r32.2) [] O .scf G (fun hc=>G5 O O) O (JLo (BL (decide (r40.2≠r32.2))) [186,187] O .scf ⟨Ua,Ua,G⟩ (fun hc=>G0f O O O) O (JLh (BL (((((r43||(decide (r32.2≠2)))||(decide (r34.2≠r32.2)))||(decide (r36.2≠r32.2)))||(decide (r38.2≠r32.2)))||(decide (r40.2≠r32.2)))) (G11 O O O O) O (G7 (hK42 ?_))))))))))))
   refine JCc O h (fun h hb=>?_) (fun h hb=>?_)
   ·
    refine Jr fun hK44=>(Rt (BL false) O (G7 (hK44 (Gw (fin1 BL h)))))
   ·
    refine Gs (hK41 (Jr fun hK45=>(Rt (G0 n) O (JLh (.dptr ((Gr.cs r3).drop 1)) (Gd Hx O O O) O (JLh (E3 r3.Covers) (Gj J9 O O O) O (JLl J7 O O O fun hm193=>(JLh (G0 (max n (r3.Covers.length:Int))) (Ja7 O O O) O (JLh (E0 [(max n (r3.Covers.length:Int))]) (H5 (xs:=[G0 (max n (r3.Covers.length:Int))]) O ⟨O,O,G⟩ Gq Jm O O O O) O (Rt (E0 [(max n (r3.Covers.length:Int))]) O (G7 (hK45 (Jr fun hK46=>(JLh (.agg (Gr.cs r3)) (Gh H3 O O O) O (Rt (OW 1027 9 Gb.av r6.1) O (Rt (E1 r6.2) O (Rt (G0 n) O (JLh (G0 (max n 100)) (Ja7 O O O) O (JLh (E0 [(max n 100)]) (H5 (xs:=[G0 (max n 100)]) O ⟨O,O,G⟩ Gq Jm O O O O) O ?_))))))))))))))))))
    obtain⟨r47,hr47,h⟩:=Gf h
    refine JLh (.tup [E0 r47.1,G0 r47.2]) (Gu O (Rw.down F r3 r6.1 r6.2 [(max n 100)] r47 hr47) G18 ⟨O,O,O,O,O,O,O,O,G⟩) O (Rt (.tup [E0 r47.1,G0 r47.2]) O (JLh (E0 r47.1) (Gv O O O) O (JLh (G0 r47.2) (Gv O O O) O (Rt (E0 r47.1) O (Rt (G0 r47.2) O (G7 (hK46 (Js fun hK48=>Rj (l':=[(4,G0 n),(11,Ec r3),(12,OW 1027 9 Gb.av r6.1),(13,E1 r6.2),(26,E0 [(max n (r3.Covers.length:Int))]),(28,G0 r47.2)]) (L':=[(1027,.spare 67 9 r6.1.length r6.1.length)]) ⟨(by repeat' constructor),⟨⟨_,rfl,.same⟩,G⟩,rfl⟩ ?_))))))))
    obtain⟨m50,y49,hm50,hy49,h⟩:=R3 h
    obtain⟨r51,hr51,h⟩:=Gf h
    refine JC_d0 Jx (by kernel_rfl) (Dq (.agg (Gr.cs r3)) (Gh H3 O O O) O (Dq (OW 1027 9 Gb.av r6.1) (G5 O O) O (Dq (E1 r6.2) (G5 O O) O (Dq (E1 r6.2) (G5 O O) O (Dq (Ed y49) (Ha (f:=Stowed.av) (xs:=r6.2) (y:=y49) O O O Gx hy49 hm50) O (Dq (.agg (Stowed.cs y49)) (Gh Qw O O O) O (Dq (.tup [E1 r51.1,G0 r51.2]) (Y1 (args:=[.agg (Gr.cs r3),E2 r6.1,E1 r6.2,E0 ([]:List Int),.agg (Stowed.cs y49)]) O (Yg F r3 r6.1 r6.2 [] y49 r51 hr51) Zx ⟨.inl O,O,.inl O,O,.inl O,O,.inr ⟨_,O,O⟩,O,.inl O,O,G⟩) O (Dq (.tup [E1 r51.1,G0 r51.2]) (G5 O O) O (Dq (E1 r51.1) (Gv O O O) O (Dq (G0 r51.2) (Gv O O O) O (Dq (E1 r51.1) (G8 O O) O (Dq (G0 r51.2) (G8 O O) O (Dnil ?_)))))))))))))
    refine hK48 (Js fun hK52=>Rj (l':=[(4,G0 n),(11,Ec r3),(12,OW 1027 9 Gb.av r6.1),(13,E1 r6.2),(26,E0 [(max n (r3.Covers.length:Int))]),(28,G0 r47.2),(30,G0 r51.2)]) (L':=[(1027,.spare 67 9 r6.1.length r6.1.length)]) ⟨(by repeat' constructor),⟨⟨_,rfl,.same⟩,G⟩,rfl⟩ ?_)
    obtain⟨m54,y53,hm54,hy53,h⟩:=R3 h
    obtain⟨r55,hr55,h⟩:=Gf h
    refine JC_d0 Jx (by kernel_rfl) (Dq (.agg (Gr.cs r3)) (Gh H3 O O O) O (Dq (OW 1027 9 Gb.av r6.1) (G5 O O) O (Dq (E1 r6.2) (G5 O O) O (Dq (E0 [(max n (r3.Covers.length:Int))]) (G5 O O) O (Dq (.dptr [G0 y53]) (Ha (f:=G0) (xs:=[(max n (r3.Covers.length:Int))]) (y:=y53) O O O Gq hy53 hm54) O (Dq (G0 y53) (Gj Gg O O O) O (Dq (.tup [E0 r55.1,G0 r55.2]) (Y1 (args:=[.agg (Gr.cs r3),E2 r6.1,E1 r6.2,E0 ([]:List Int),G0 y53]) O (G26 F r3 r6.1 r6.2 [] y53 r55 hr55) G87 ⟨.inl O,O,.inl O,O,.inl O,O,.inr ⟨_,O,O⟩,O,.inl O,O,G⟩) O (Dq (.tup [E0 r55.1,G0 r55.2]) (G5 O O) O (Dq (E0 r55.1) (Gv O O O) O (Dq (G0 r55.2) (Gv O O O) O (Dq (E0 r55.1) (G8 O O) O (Dq (G0 r55.2) (G8 O O) O (Dnil ?_)))))))))))))
    refine hK52 (Jr fun hK56=>(Rt (E1 r6.2) O (Rt (G0 n) O (JLh (G0 (min n 4)) (J83 O O O) O ?_))))
    obtain⟨r57,hr57,h⟩:=Gf h
    refine JLh (.tup [E0 r57.1,G0 r57.2]) (Gu O (G7c r6.2 (min n 4) r57 hr57) H12 ⟨O,O,O,O,G⟩) O (Rt (.tup [E0 r57.1,G0 r57.2]) O (JLh (E0 r57.1) (Gv O O O) O (JLh (G0 r57.2) (Gv O O O) O (Rt (E0 r57.1) O (Rt (G0 r57.2) O (G7 (hK56 ?_)))))))
    refine Jr fun hK58=>(Rt (OW 1027 9 Gb.av r6.1) O (JLh (.agg [G0 3,ST ByteArray.empty,U8 45,BL false,G0 0,G0 0,G0 0,U8 0,BL false]) (Hg (cs:=[G0 3,ST ByteArray.empty,U8 45,BL false,G0 0,G0 0,G0 0,U8 0,BL false]) [(0,1),(1,1),(2,1),(3,1),(4,1),(5,1),(6,1),(7,1),(8,1)] [G0 0,ST ByteArray.empty,U8 0,BL false,G0 0,G0 0,G0 0,U8 0,BL false] [.int .i64 0,.string ByteArray.empty,.int .u8 0,.bool false,.int .i64 0,.int .i64 0,.int .i64 0,.int .u8 0,.bool false] Qt Rk ⟨.inl O,.inl O,.inl O,.inl O,.inl O,.inl O,.inl O,.inl O,.inl O,G⟩ O O) O (JLh (.agg [G0 4,ST ByteArray.empty,U8 20,BL false,G0 0,G0 0,G0 0,U8 0,BL false]) (Hg (cs:=[G0 4,ST ByteArray.empty,U8 20,BL false,G0 0,G0 0,G0 0,U8 0,BL false]) [(0,1),(1,1),(2,1),(3,1),(4,1),(5,1),(6,1),(7,1),(8,1)] [G0 0,ST ByteArray.empty,U8 0,BL false,G0 0,G0 0,G0 0,U8 0,BL false] [.int .i64 0,.string ByteArray.empty,.int .u8 0,.bool false,.int .i64 0,.int .i64 0,.int .i64 0,.int .u8 0,.bool false] Qt Rk ⟨.inl O,.inl O,.inl O,.inl O,.inl O,.inl O,.inl O,.inl O,.inl O,G⟩ O O) O (JLh (E2 [(Gb.mk 3 ByteArray.empty 45 false 0 0 0 0 false),(Gb.mk 4 ByteArray.empty 20 false 0 0 0 0 false)]) (H5 (xs:=[.agg [G0 3,ST ByteArray.empty,U8 45,BL false,G0 0,G0 0,G0 0,U8 0,BL false],.agg [G0 4,ST ByteArray.empty,U8 20,BL false,G0 0,G0 0,G0 0,U8 0,BL false]]) O ⟨O,O,O,O,G⟩ R7 Y3 O O O O) O ?_))))
    obtain⟨ha59,h⟩:=Ja h
    refine JLh (OW 1027 9 Gb.av (r6.1++[(Gb.mk 3 ByteArray.empty 45 false 0 0 0 0 false),(Gb.mk 4 ByteArray.empty 20 false 0 0 0 0 false)])) (G2a (f:=Gb.av) (xs:=r6.1) (ys:=[(Gb.mk 3 ByteArray.empty 45 false 0 0 0 0 false),(Gb.mk 4 ByteArray.empty 20 false 0 0 0 0 false)]) O O O O R7 Gc6 ha59 (fun _=>O) (.inl O)) O (Rt (OW 1027 9 Gb.av (r6.1++[(Gb.mk 3 ByteArray.empty 45 false 0 0 0 0 false),(Gb.mk 4 ByteArray.empty 20 false 0 0 0 0 false)])) O (G7 (hK58 ?_)))
    refine Jr fun hK60=>(JLh (.agg (Gr.cs r3)) (Gh H3 O O O) O (Rt (OW 1027 9 Gb.av (r6.1++[(Gb.mk 3 ByteArray.empty 45 false 0 0 0 0 false),(Gb.mk 4 ByteArray.empty 20 false 0 0 0 0 false)])) O (Rt (E1 r6.2) O (JLh (.agg [G0 0,G0 0,U8 1]) (Hg (cs:=[G0 0,G0 0,U8 1]) [(0,1),(1,1),(2,1)] [G0 0,G0 0,U8 0] [.int .i64 0,.int .i64 0,.int .u8 0] G15 G5e ⟨.inl O,.inl O,.inl O,G⟩ O O) O (JLh (.agg [G0 3,G0 0,G0 0,U8 1]) (Hg (cs:=[G0 3,G0 0,G0 0,U8 1]) [(0,1),(1,3)] [G0 0,G0 0,G0 0,U8 0] [.int .i64 0,.int .i64 0,.int .i64 0,.int .u8 0] Ri Y8 ⟨.inl O,.inl O,.inl O,.inl O,G⟩ O O) O ?_)))))
    obtain⟨r61,hr61,h⟩:=Gf h
    refine JLh (.tup [E1 r61.1,G0 r61.2]) (Y1 (args:=[.agg (Gr.cs r3),E2 (r6.1++[(Gb.mk 3 ByteArray.empty 45 false 0 0 0 0 false),(Gb.mk 4 ByteArray.empty 20 false 0 0 0 0 false)]),E1 r6.2,E0 ([]:List Int),.agg [G0 3,G0 0,G0 0,U8 1]]) O (Yg F r3 (r6.1++[(Gb.mk 3 ByteArray.empty 45 false 0 0 0 0 false),(Gb.mk 4 ByteArray.empty 20 false 0 0 0 0 false)]) r6.2 [] (Stowed.mk 3 (Slot.mk 0 0 1)) r61 hr61) Zx ⟨.inl O,O,.inl O,O,.inl O,O,.inr ⟨_,O,O⟩,O,.inl O,O,G⟩) O (Rt (.tup [E1 r61.1,G0 r61.2]) O (JLh (E1 r61.1) (Gv O O O) O (JLh (G0 r61.2) (Gv O O O) O (Rt (E1 r61.1) O (Rt (G0 r61.2) O (G7 (hK60 ?_)))))))
    refine Jr fun hK62=>(JLh (.agg (Gr.cs r3)) (Gh H3 O O O) O (Rt (OW 1027 9 Gb.av (r6.1++[(Gb.mk 3 ByteArray.empty 45 false 0 0 0 0 false),(Gb.mk 4 ByteArray.empty 20 false 0 0 0 0 false)])) O (Rt (E1 r6.2) O (JLh (.agg [G0 0,G0 0,U8 0]) (Hg (cs:=[G0 0,G0 0,U8 0]) [(0,1),(1,1),(2,1)] [G0 0,G0 0,U8 0] [.int .i64 0,.int .i64 0,.int .u8 0] G15 G5e ⟨.inl O,.inl O,.inl O,G⟩ O O) O (JLh (.agg [G0 4,G0 0,G0 0,U8 0]) (Hg (cs:=[G0 4,G0 0,G0 0,U8 0]) [(0,1),(1,3)] [G0 0,G0 0,G0 0,U8 0] [.int .i64 0,.int .i64 0,.int .i64 0,.int .u8 0] Ri Y8 ⟨.inl O,.inl O,.inl O,.inl O,G⟩ O O) O ?_)))))
    obtain⟨r63,hr63,h⟩:=Gf h
    refine JLh (.tup [E1 r63.1,G0 r63.2]) (Y1 (args:=[.agg (Gr.cs r3),E2 (r6.1++[(Gb.mk 3 ByteArray.empty 45 false 0 0 0 0 false),(Gb.mk 4 ByteArray.empty 20 false 0 0 0 0 false)]),E1 r6.2,E0 ([]:List Int),.agg [G0 4,G0 0,G0 0,U8 0]]) O (Yg F r3 (r6.1++[(Gb.mk 3 ByteArray.empty 45 false 0 0 0 0 false),(Gb.mk 4 ByteArray.empty 20 false 0 0 0 0 false)]) r6.2 [] (Stowed.mk 4 (Slot.mk 0 0 0)) r63 hr63) Zx ⟨.inl O,O,.inl O,O,.inl O,O,.inr ⟨_,O,O⟩,O,.inl O,O,G⟩) O (Rt (.tup [E1 r63.1,G0 r63.2]) O (JLh (E1 r63.1) (Gv O O O) O (JLh (G0 r63.2) (Gv O O O) O (Rt (E1 r63.1) O (Rt (G0 r63.2) O (G7 (hK62 ?_)))))))
    refine Jr fun hK64=>(JLh (.agg (Gr.cs r3)) (Gh H3 O O O) O (Rt (OW 1027 9 Gb.av (r6.1++[(Gb.mk 3 ByteArray.empty 45 false 0 0 0 0 false),(Gb.mk 4 ByteArray.empty 20 false 0 0 0 0 false)])) O (Rt (E1 r6.2) O (Rt (E0 [(max n (r3.Covers.length:Int))]) O ?_))))
    obtain⟨r65,hr65,h⟩:=Gf h
    refine JLh (G0 r65) (Gu O (Z7 r3 (r6.1++[(Gb.mk 3 ByteArray.empty 45 false 0 0 0 0 false),(Gb.mk 4 ByteArray.empty 20 false 0 0 0 0 false)]) r6.2 [(max n (r3.Covers.length:Int))] 5 r65 hr65) G32 ⟨O,O,O,O,O,O,O,O,O,O,G⟩) O (JLh (BL (decide (r65=2))) (Jf O O O) O (Rt (BL (decide (r65=2))) O (JLo (G0 r47.2) [] O .sct G (fun hc=>G5 O O) O (JLo (BL (decide (r47.2=6))) [263] O .sct ⟨Ua,G⟩ (fun hc=>Jf O O O) O (JLh (BL ((decide (r65=2))&&(decide (r47.2=6)))) (Q1 O O O O) O (Rt (BL ((decide (r65=2))&&(decide (r47.2=6)))) O (JLo (G0 r51.2) [] O .sct G (fun hc=>G5 O O) O (JLo (BL (decide (r51.2=96))) [267] O .sct ⟨Ua,G⟩ (fun hc=>Jf O O O) O (JLh (BL (((decide (r65=2))&&(decide (r47.2=6)))&&(decide (r51.2=96)))) (Q1 O O O O) O (Rt (BL (((decide (r65=2))&&(decide (r47.2=6)))&&(decide (r51.2=96)))) O (JLo (G0 r55.2) [] O .sct G (fun hc=>G5 O O) O (JLo (BL (decide (r55.2=6))) [271] O .sct ⟨Ua,G⟩ (fun hc=>Jf O O O) O (JLh (BL ((((decide (r65=2))&&(decide (r47.2=6)))&&(decide (r51.2=96)))&&(decide (r55.2=6)))) (Q1 O O O O) O ?_)))))))))))))
    refine Rt (BL ((((decide (r65=2))&&(decide (r47.2=6)))&&(decide (r51.2=96)))&&(decide (r55.2=6)))) O (JLo (G0 r57.2) [] O .sct G (fun hc=>G5 O O) O (JLo (BL (decide (r57.2=6))) [275] O .sct ⟨Ua,G⟩ (fun hc=>Jf O O O) O (JLh (BL (((((decide (r65=2))&&(decide (r47.2=6)))&&(decide (r51.2=96)))&&(decide (r55.2=6)))&&(decide (r57.2=6)))) (Q1 O O O O) O (Rt (BL (((((decide (r65=2))&&(decide (r47.2=6)))&&(decide (r51.2=96)))&&(decide (r55.2=6)))&&(decide (r57.2=6)))) O (JLo (G0 r61.2) [] O .sct G (fun hc=>G5 O O) O (JLo (BL (decide (r61.2=6))) [279] O .sct ⟨Ua,G⟩ (fun hc=>Jf O O O) O (JLh (BL ((((((decide (r65=2))&&(decide (r47.2=6)))&&(decide (r51.2=96)))&&(decide (r55.2=6)))&&(decide (r57.2=6)))&&(decide (r61.2=6)))) (Q1 O O O O) O (Rt (BL ((((((decide (r65=2))&&(decide (r47.2=6)))&&(decide (r51.2=96)))&&(decide (r55.2=6)))&&(decide (r57.2=6)))&&(decide (r61.2=6)))) O (JLo (G0 r63.2) [] O .sct G (fun hc=>G5 O O) O (JLo (BL (decide (r63.2=97))) [283] O .sct ⟨Ua,G⟩ (fun hc=>Jf O O O) O (JLh (BL (((((((decide (r65=2))&&(decide (r47.2=6)))&&(decide (r51.2=96)))&&(decide (r55.2=6)))&&(decide (r57.2=6)))&&(decide (r61.2=6)))&&(decide (r63.2=97)))) (Q1 O O O O) O (Rt (BL (((((((decide (r65=2))&&(decide (r47.2=6)))&&(decide (r51.2=96)))&&(decide (r55.2=6)))&&(decide (r57.2=6)))&&(decide (r61.2=6)))&&(decide (r63.2=97)))) O ?_))))))))))))
    obtain⟨r66,hr66,h⟩:=Gf h
    refine JLo (BL r66) [] O .sct G (fun hc=>Gu (args:=[]) O (Jz F r66 (H6 hc hr66)) G65 G) O (JLh (BL ((((((((decide (r65=2))&&(decide (r47.2=6)))&&(decide (r51.2=96)))&&(decide (r55.2=6)))&&(decide (r57.2=6)))&&(decide (r61.2=6)))&&(decide (r63.2=97)))&&r66)) (Q1 O O O O) O (Rt (BL ((((((((decide (r65=2))&&(decide (r47.2=6)))&&(decide (r51.2=96)))&&(decide (r55.2=6)))&&(decide (r57.2=6)))&&(decide (r61.2=6)))&&(decide (r63.2=97)))&&r66)) O (G7 (hK64 (Gw (fin1 BL h))))))
end
end Go.Proofs.YtbljcmgjmieffaaGreat
