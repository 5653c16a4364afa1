/-
 Models of functions of the program,and that they return what the models say.
-/
import Derived.Test.YtbljcmgjmieffaaGreatXP
set_option linter.unnecessarySimpa false
set_option maxRecDepth 100000
set_option linter.unusedVariables false
set_option linter.unusedSimpArgs false
namespace Go.Proofs.YtbljcmgjmieffaaGreat
open Go.RowKit
noncomputable section

namespace XQF
open XAF
open XCF
open XGF
open XBF
open XPF
theorem Jb5:Hf Ek 49=true:=by kernel_rfl
end XQF
open XAF
open XCF
open XGF
open XBF
open XPF
open XQF


theorem G36 (s:Gt) (l:List Gg) (most:Int) (r:(List Ga)×(List Stowed)) (h:Jm s l most=some r):Qh Ek 8 [.agg (Gt.cs s),Ea l,G0 most] [] (fun av L'=>av=.tup [OW 1024 9 Ga.av r.1,E1 r.2]∧L'=[(1024,.spare 67 9 r.1.length r.1.length)]):=by
 unfold Jm at h
 refine Zq [] [.tmp 6,.tmp 7] Tryz.func8 O O (H54 O) (Jr fun hK1=>(JLh (.ptr 1023 0) (Q1 (cs:=(Gt.cs s)) 1023 O O O O O) O (JLh (E2 ([]:List Ga)) (Hi 9 O O) O (JLh (E1 ([]:List Stowed)) (Hi 4 O O) O (G7 (hK1 ?_))))))
 refine Gs [(1,Ea l),(2,G0 most),(3,Ec s)] [] 1023 rfl rfl rfl G rfl (by exact⟨.conv (.same rfl),.conv (.same rfl),.ptr,G⟩) (Jr fun hK2=>(JLh (OW 1024 9 Ga.av ([]:List Ga)) (G6c 1024 67 9 O O O) O (G7 (hK2 (Jr fun hK3=>(JLh (E1 ([]:List Stowed)) (Hi 4 O O) O (G7 (hK3 (Js fun hK4=>Jr fun hK5=>(Rc (Ea l) O (Rc (Ea l) O (JLl G00 O O O fun hm18=>(Rc (G0 most) O (JLh (G0 (min (l.length:Int) most)) (A_min O O O) O ?_))))))))))))))
 obtain⟨m6,hm6,h⟩:=Gf h
 refine JLh (Ea (l.take m6)) (H12 (f:=Gg.av) (xs:=l) O O O G00 (G28 hm6)) O (JLl G00 O O O fun hm22=>(Rc (G0 0) O (G7 (hK5 (Gx ?_)))))
 obtain⟨b7,kx7,hb7,hkx7,h⟩:=Jh h
 refine Hz (fun i7 (s7:(List Ga)×(List Stowed))=>each b7 kx7 (List.drop i7 (l.take m6)) i7 s7=some r) (fun i7 s7=>[(3,Ec s),(8,OW 1024 9 Ga.av s7.1),(9,E1 s7.2),(21,Ea (l.take m6)),(22,G0 ((l.take m6).length:Int)),(23,Ej i7)]) (fun i7 s7=>[(1024,.spare 67 9 s7.1.length s7.1.length)]) (fun i7=>(l.take m6).length - i7) 0 ([],[]) h ⟨(by repeat' constructor),⟨⟨_,rfl,.same⟩,G⟩,rfl⟩ ?_
 clear h
 intro i7 s7 hi7 K7 e7
 refine Jr fun hK8=>(JLh (BL (decide ((i7:Int) < ((l.take m6).length:Int)))) (Jt O O O) O (G7 (hK8 (Js fun hK9=>Gp O (fun hb=>?_) (fun hb=>?_)))))
 ·
  have hk7:=Q7 hb
  obtain⟨y7,nx7,hy7,hn7,h⟩:=J1 hi7 hk7
  replace h:=Zj hb7 h
  refine Gr (hK9 ?_)
  obtain⟨kj10,hkj10,h⟩:=Yh h
  refine R5 (fun j10:(List Ga)×(List Stowed)=>kj10 j10=some r) (fun j10=>[(3,Ec s),(8,OW 1024 9 Ga.av j10.1),(9,E1 j10.2),(21,Ea (l.take m6)),(22,G0 ((l.take m6).length:Int)),(23,Ej i7)]) (fun j10=>[(1024,.spare 67 9 j10.1.length j10.1.length)]) (fun Kj10 ej10=>?_) ?_
  ·
   refine Gx (Jr fun hK11=>(Rc (Ej i7) O (JLh (Eg y7) (H9 (f:=Gg.av) (xs:=(l.take m6)) (y:=y7) O O O G00 hy7 O) O (JLh (.agg (Gg.cs y7)) (Gh J69 O O O) O (JLh (.ptr 1025 0) (Hs 1025 4 Hc4 O O) O (Rc (Ej i7) O (J0 (u:=.junk) (Hh (u:=.agg (Gg.cs y7)) (ds:=[U8 y7.G3,U8 y7.Kilos,BL y7.Small,BL y7.High]) J02 O O O O O O O O) (G7 (hK11 ?_)))))))))
   refine Gs [(3,Ec s),(8,OW 1024 9 Ga.av s7.1),(9,E1 s7.2),(10,Ej i7),(11,Eg y7),(21,Ea (l.take m6)),(22,G0 ((l.take m6).length:Int)),(23,Ej i7)] [(1024,.spare 67 9 s7.1.length s7.1.length)] 1025 rfl rfl rfl ⟨⟨_,rfl,.same⟩,G⟩ rfl (by repeat' (first | exact .ptr | constructor)) (Jr fun hK12=>(Rc (Ej i7) O (JLh (G0 ((i7+1:Nat):Int)) (Hv (Hr hk7 hm22) O O O) O ?_)))
   obtain⟨v13,hv13,h⟩:=Jc h
   refine JLh (G0 v13) (He6 hv13 O O O) O (JLh (.dptr [BL y7.High]) (Gb Gdb O O O) O (JLh (BL y7.High) (Gi Jp O O O) O (JLh (.dptr [U8 y7.Kilos,BL y7.Small,BL y7.High]) (Gb G3d O O O) O (JLh (U8 y7.Kilos) (Gi Hw O O O) O ?_))))
   obtain⟨v14,hv14,h⟩:=Jc h
   refine JLh (G0 v14) (G7e Zt G19 hv14 O O) O ?_
   obtain⟨v15,hv15,h⟩:=Jc h
   refine JLh (G0 v15) (He6 hv15 O O O) O ?_
   obtain⟨v16,hv16,h⟩:=Jc h
   refine JLh (G0 v16) (Hv hv16 O O O) O (JLh (.agg [G0 v13,ST ByteArray.empty,U8 40,BL y7.High,G0 v16,G0 0,G0 1,U8 0,BL false]) (Hp (cs:=[G0 v13,ST ByteArray.empty,U8 40,BL y7.High,G0 v16,G0 0,G0 1,U8 0,BL false]) [(0,1),(1,1),(2,1),(3,1),(4,1),(5,1),(6,1),(7,1),(8,1)] [G0 0,ST ByteArray.empty,U8 0,BL false,G0 0,G0 0,G0 0,U8 0,BL false] [.int .i64 0,.string ByteArray.empty,.int .u8 0,.bool false,.int .i64 0,.int .i64 0,.int .i64 0,.int .u8 0,.bool false] R4 Rv ⟨.inl O,.inl O,.inl O,.inl O,.inl O,.inl O,.inl O,.inl O,.inl O,G⟩ O O) O (JLh (.ptr 1026 0) (Hs 1026 9 Y6 O O) O (J0 (u:=.junk) (Hh (u:=.agg [G0 v13,ST ByteArray.empty,U8 40,BL y7.High,G0 v16,G0 0,G0 1,U8 0,BL false]) (ds:=[G0 v13,ST ByteArray.empty,U8 40,BL y7.High,G0 v16,G0 0,G0 1,U8 0,BL false]) G17 O O O O O O O O) (G7 (hK12 ?_)))))
   obtain⟨kj17,hkj17,h⟩:=Yh h
   refine R5 (fun j17:Int×Bool=>kj17 j17=some r) (fun j17=>[(3,Ec s),(8,OW 1024 9 Ga.av s7.1),(9,E1 s7.2),(11,Eg y7),(12,.ptr 1026 0),(21,Ea (l.take m6)),(22,G0 ((l.take m6).length:Int)),(23,Ej i7)]) (fun j17=>[(1024,.spare 67 9 s7.1.length s7.1.length),(1026,.box 67 [G0 v13,ST ByteArray.empty,U8 j17.1,BL j17.2,G0 v16,G0 0,G0 1,U8 0,BL false])]) (fun Kj17 ej17=>?_) ?_
   ·
    refine Jr fun hK18=>(JLh (.dptr [BL y7.Small,BL y7.High]) (Gb Gdc O O O) O (JLh (BL y7.Small) (Gi Jp O O O) O (G7 (hK18 (JCc O h (fun h hb=>?_) (fun h hb=>?_))))))
    ·
     refine G4 (JLh (.ptr 1026 2) (Q0 Y0 O O) O (J0 (u:=.junk) (Hh (u:=U8 20) (ds:=[G0 v13,ST ByteArray.empty,U8 20,BL y7.High,G0 v16,G0 0,G0 1,U8 0,BL false]) H3d O O O O O O O O) (JLh (.ptr 1026 3) (Q0 G80 O O) O (J0 (u:=.junk) (Hh (u:=BL false) (ds:=[G0 v13,ST ByteArray.empty,U8 20,BL false,G0 v16,G0 0,G0 1,U8 0,BL false]) Ha5 O O O O O O O O) (G7 (ej17 _ _ (20,false) h ⟨(by repeat' constructor),⟨⟨_,rfl,.same⟩,⟨_,rfl,.boxL rfl (by repeat' constructor)⟩,G⟩,rfl⟩))))))
    ·
     refine Gr (ej17 _ _ (40,y7.High) h ⟨(by repeat' constructor),⟨⟨_,rfl,.same⟩,⟨_,rfl,.boxL rfl (by repeat' constructor)⟩,G⟩,rfl⟩)
   ·intro j17 h
    replace h:=app1 hkj17 h
    refine Jr fun hK19=>(Rc (OW 1024 9 Ga.av s7.1) O (JLh (.agg [G0 v13,ST ByteArray.empty,U8 j17.1,BL j17.2,G0 v16,G0 0,G0 1,U8 0,BL false]) (G7d G52 O O O O) O (JLh (E2 [(Ga.mk v13 ByteArray.empty j17.1 j17.2 v16 0 1 0 false)]) (H6 (xs:=[.agg [G0 v13,ST ByteArray.empty,U8 j17.1,BL j17.2,G0 v16,G0 0,G0 1,U8 0,BL false]]) O ⟨O,O,G⟩ Rq Y6 O O O O) O ?_)))
    obtain⟨ha20,h⟩:=Jk h
    refine JLh (OW 1024 9 Ga.av (s7.1++[(Ga.mk v13 ByteArray.empty j17.1 j17.2 v16 0 1 0 false)])) (Ro (f:=Ga.av) (xs:=s7.1) (ys:=[(Ga.mk v13 ByteArray.empty j17.1 j17.2 v16 0 1 0 false)]) O O O O Rq H00 ha20 (fun _=>O) (.inl O) O) O (Rc (OW 1024 9 Ga.av (s7.1++[(Ga.mk v13 ByteArray.empty j17.1 j17.2 v16 0 1 0 false)])) O (G7 (hK19 ?_)))
    refine Gs [(3,Ec s),(8,OW 1024 9 Ga.av (s7.1++[(Ga.mk v13 ByteArray.empty j17.1 j17.2 v16 0 1 0 false)])),(9,E1 s7.2),(11,Eg y7),(12,.dptr [G0 v13,ST ByteArray.empty,U8 j17.1,BL j17.2,G0 v16,G0 0,G0 1,U8 0,BL false]),(21,Ea (l.take m6)),(22,G0 ((l.take m6).length:Int)),(23,Ej i7)] [(1024,.spare 67 9 (s7.1++[(Ga.mk v13 ByteArray.empty j17.1 j17.2 v16 0 1 0 false)]).length (s7.1++[(Ga.mk v13 ByteArray.empty j17.1 j17.2 v16 0 1 0 false)]).length)] 1026 rfl rfl rfl ⟨⟨_,rfl,.same⟩,G⟩ rfl (by repeat' (first | exact .ptr | constructor)) ?_
    refine Jr fun hK21=>(JLh (.agg (Gt.cs s)) (Gh H7 O O O) O (JLh (.dptr [U8 j17.1,BL j17.2,G0 v16,G0 0,G0 1,U8 0,BL false]) (Gb Y0 O O O) O (JLh (U8 j17.1) (Gi Hw O O O) O ?_)))
    obtain⟨r22,hr22,h⟩:=Gf h
    refine JLh (E8 r22) (Gu O (H9b s j17.1 r22 hr22) J22 ⟨O,O,O,O,G⟩) O (JLl R6 O O O fun hm51=>(Rc (G0 0) O (G7 (hK21 (Gx ?_)))))
    obtain⟨b49,kx49,hb49,hkx49,h⟩:=Jh h
    refine Hz (fun i49 (s49:(List Stowed))=>each b49 kx49 (List.drop i49 r22) i49 s49=some r) (fun i49 s49=>[(3,Ec s),(8,OW 1024 9 Ga.av (s7.1++[(Ga.mk v13 ByteArray.empty j17.1 j17.2 v16 0 1 0 false)])),(9,E1 s49),(11,Eg y7),(12,.dptr [G0 v13,ST ByteArray.empty,U8 j17.1,BL j17.2,G0 v16,G0 0,G0 1,U8 0,BL false]),(21,Ea (l.take m6)),(22,G0 ((l.take m6).length:Int)),(23,Ej i7),(50,E8 r22),(51,Ej r22.length),(52,Ej i49)]) (fun i49 s49=>[(1024,.spare 67 9 (s7.1++[(Ga.mk v13 ByteArray.empty j17.1 j17.2 v16 0 1 0 false)]).length (s7.1++[(Ga.mk v13 ByteArray.empty j17.1 j17.2 v16 0 1 0 false)]).length)]) (fun i49=>r22.length - i49) 0 s7.2 h ⟨(by repeat' constructor),⟨⟨_,rfl,.same⟩,G⟩,rfl⟩ ?_
    clear h
    intro i49 s49 hi49 K49 e49
    refine Jr fun hK50=>(JLh (BL (decide ((i49:Int) < (r22.length:Int)))) (Jt O O O) O (G7 (hK50 (Js fun hK51=>Gp O (fun hb=>?_) (fun hb=>?_)))))
    ·
     have hk49:=Q7 hb
     obtain⟨y49,nx49,hy49,hn49,h⟩:=J1 hi49 hk49
     replace h:=Zj hb49 h
     refine Gr (hK51 (Js fun hK52=>Gx (Jr fun hK53=>(JLh (Ei y49) (H9 (f:=Slot.av) (xs:=r22) (y:=y49) O O O R6 hy49 O) O (JLh (.agg (Slot.cs y49)) (Gh Q4 O O O) O (JLh (.ptr 1027 0) (Hs 1027 3 G51 O O) O (J0 (u:=.junk) (Hh (u:=.agg (Slot.cs y49)) (ds:=[G0 y49.G3,G0 y49.Tier,U8 y49.Half]) Gfb O O O O O O O O) (G7 (hK53 ?_)))))))))
     refine Gs [(3,Ec s),(8,OW 1024 9 Ga.av (s7.1++[(Ga.mk v13 ByteArray.empty j17.1 j17.2 v16 0 1 0 false)])),(9,E1 s49),(11,Eg y7),(12,.dptr [G0 v13,ST ByteArray.empty,U8 j17.1,BL j17.2,G0 v16,G0 0,G0 1,U8 0,BL false]),(14,Ei y49),(21,Ea (l.take m6)),(22,G0 ((l.take m6).length:Int)),(23,Ej i7),(50,E8 r22),(51,Ej r22.length),(52,Ej i49)] [(1024,.spare 67 9 (s7.1++[(Ga.mk v13 ByteArray.empty j17.1 j17.2 v16 0 1 0 false)]).length (s7.1++[(Ga.mk v13 ByteArray.empty j17.1 j17.2 v16 0 1 0 false)]).length)] 1027 rfl rfl rfl ⟨⟨_,rfl,.same⟩,G⟩ rfl (by repeat' (first | exact .ptr | constructor)) ?_
     refine Js fun hK54=>?_
     refine Rn (l':=[(3,Ec s),(8,OW 1024 9 Ga.av (s7.1++[(Ga.mk v13 ByteArray.empty j17.1 j17.2 v16 0 1 0 false)])),(9,E1 s49),(11,Eg y7),(12,.dptr [G0 v13,ST ByteArray.empty,U8 j17.1,BL j17.2,G0 v16,G0 0,G0 1,U8 0,BL false]),(14,Ei y49),(21,Ea (l.take m6)),(22,G0 ((l.take m6).length:Int)),(23,Ej i7),(50,E8 r22),(51,Ej r22.length),(52,Ej i49)]) (L':=[(1024,.spare 67 9 (s7.1++[(Ga.mk v13 ByteArray.empty j17.1 j17.2 v16 0 1 0 false)]).length (s7.1++[(Ga.mk v13 ByteArray.empty j17.1 j17.2 v16 0 1 0 false)]).length)]) ⟨(by repeat' constructor),⟨⟨_,rfl,.same⟩,G⟩,rfl⟩ ?_
     obtain⟨ha55,h⟩:=Jk h
     obtain⟨ha56,h⟩:=Jk h
     refine Jy [0,2,8] [0,0,0,0,0,0,0,0,0,3] [0,1,0,2,2,2,2,2,0,3] [[(1024,.spare 67 9 (s7.1++[(Ga.mk v13 ByteArray.empty j17.1 j17.2 v16 0 1 0 false)]).length (s7.1++[(Ga.mk v13 ByteArray.empty j17.1 j17.2 v16 0 1 0 false)]).length)],((1028,.spare 47 4 ([]:List Stowed).length ([]:List Stowed).length)::[(1024,.spare 67 9 (s7.1++[(Ga.mk v13 ByteArray.empty j17.1 j17.2 v16 0 1 0 false)]).length (s7.1++[(Ga.mk v13 ByteArray.empty j17.1 j17.2 v16 0 1 0 false)]).length)]),((1028,.spare 47 4 (([]:List Stowed)++s49).length (([]:List Stowed)++s49).length)::((1028,.spare 47 4 ([]:List Stowed).length ([]:List Stowed).length)::[(1024,.spare 67 9 (s7.1++[(Ga.mk v13 ByteArray.empty j17.1 j17.2 v16 0 1 0 false)]).length (s7.1++[(Ga.mk v13 ByteArray.empty j17.1 j17.2 v16 0 1 0 false)]).length)])),((1028,.spare 47 4 ((([]:List Stowed)++s49)++[(Stowed.mk v13 y49)]).length ((([]:List Stowed)++s49)++[(Stowed.mk v13 y49)]).length)::((1028,.spare 47 4 (([]:List Stowed)++s49).length (([]:List Stowed)++s49).length)::((1028,.spare 47 4 ([]:List Stowed).length ([]:List Stowed).length)::[(1024,.spare 67 9 (s7.1++[(Ga.mk v13 ByteArray.empty j17.1 j17.2 v16 0 1 0 false)]).length (s7.1++[(Ga.mk v13 ByteArray.empty j17.1 j17.2 v16 0 1 0 false)]).length)])))] Jz (by kernel_rfl) rfl rfl ?_
     refine J6b (u:=OW 1028 4 Stowed.av ([]:List Stowed)) O O O O (Gk (Gf5 1028 47 4 O O H0) O) (Gn (u:=E1 s49) O O ⟨Gk (G5 O O) O,Gk (G5 O O) O,G⟩ (J6b (u:=OW 1028 4 Stowed.av (([]:List Stowed)++s49)) O O O O (Gk (G5b (f:=Stowed.av) (xs:=([]:List Stowed)) (ys:=s49) O O O O H0 G70 ha55 (fun _=>O) (.inl O)) O) (Gn (u:=.dptr [G0 v13,ST ByteArray.empty,U8 j17.1,BL j17.2,G0 v16,G0 0,G0 1,U8 0,BL false]) O O ⟨Gk (Gb Zf O O O) O,Gk (Gb Zf O O O) O,Gk (Gb Zf O O O) O,G⟩ (Gn (u:=G0 v13) O O ⟨Gk (Gi Gd O O O) O,Gk (Gi Gd O O O) O,Gk (Gi Gd O O O) O,G⟩ (Gn (u:=.agg (Slot.cs y49)) O O ⟨Gk (Gh Q4 O O O) O,Gk (Gh Q4 O O O) O,Gk (Gh Q4 O O O) O,G⟩ (Gn (u:=.agg [G0 v13,G0 y49.G3,G0 y49.Tier,U8 y49.Half]) O O ⟨Gk (Hp (cs:=[G0 v13,G0 y49.G3,G0 y49.Tier,U8 y49.Half]) [(0,1),(1,3)] [G0 0,G0 0,G0 0,U8 0] [.int .i64 0,.int .i64 0,.int .i64 0,.int .u8 0] Z6 G02 ⟨.inl O,.inl O,.inl O,.inl O,G⟩ O O) O,Gk (Hp (cs:=[G0 v13,G0 y49.G3,G0 y49.Tier,U8 y49.Half]) [(0,1),(1,3)] [G0 0,G0 0,G0 0,U8 0] [.int .i64 0,.int .i64 0,.int .i64 0,.int .u8 0] Z6 G02 ⟨.inl O,.inl O,.inl O,.inl O,G⟩ O O) O,Gk (Hp (cs:=[G0 v13,G0 y49.G3,G0 y49.Tier,U8 y49.Half]) [(0,1),(1,3)] [G0 0,G0 0,G0 0,U8 0] [.int .i64 0,.int .i64 0,.int .i64 0,.int .u8 0] Z6 G02 ⟨.inl O,.inl O,.inl O,.inl O,G⟩ O O) O,G⟩ (Gn (u:=E1 [(Stowed.mk v13 y49)]) O O ⟨Gk (H6 (xs:=[.agg [G0 v13,G0 y49.G3,G0 y49.Tier,U8 y49.Half]]) O ⟨O,O,G⟩ H0 Q8 O O O O) O,Gk (H6 (xs:=[.agg [G0 v13,G0 y49.G3,G0 y49.Tier,U8 y49.Half]]) O ⟨O,O,G⟩ H0 Q8 O O O O) O,Gk (H6 (xs:=[.agg [G0 v13,G0 y49.G3,G0 y49.Tier,U8 y49.Half]]) O ⟨O,O,G⟩ H0 Q8 O O O O) O,G⟩ (J6b (u:=OW 1028 4 Stowed.av ((([]:List Stowed)++s49)++[(Stowed.mk v13 y49)])) O O O O (Gk (Ro (f:=Stowed.av) (xs:=(([]:List Stowed)++s49)) (ys:=[(Stowed.mk v13 y49)]) O O O O H0 G70 ha56 (fun _=>O) (.inl O) O) O) (Gn (u:=OW 1028 4 Stowed.av ((([]:List Stowed)++s49)++[(Stowed.mk v13 y49)])) O O ⟨Gk (G8 O O) O,G⟩ (Yb ?_))))))))))
     refine hK54 (Js fun hK57=>?_)
     refine Rn (l':=[(3,Ec s),(8,OW 1024 9 Ga.av (s7.1++[(Ga.mk v13 ByteArray.empty j17.1 j17.2 v16 0 1 0 false)])),(9,E1 s49),(11,Eg y7),(12,.dptr [G0 v13,ST ByteArray.empty,U8 j17.1,BL j17.2,G0 v16,G0 0,G0 1,U8 0,BL false]),(14,Ei y49),(15,OW 1028 4 Stowed.av ((([]:List Stowed)++s49)++[(Stowed.mk v13 y49)])),(21,Ea (l.take m6)),(22,G0 ((l.take m6).length:Int)),(23,Ej i7),(50,E8 r22),(51,Ej r22.length),(52,Ej i49)]) (L':=[(1024,.spare 67 9 (s7.1++[(Ga.mk v13 ByteArray.empty j17.1 j17.2 v16 0 1 0 false)]).length (s7.1++[(Ga.mk v13 ByteArray.empty j17.1 j17.2 v16 0 1 0 false)]).length),(1028,.spare 47 4 ((([]:List Stowed)++s49)++[(Stowed.mk v13 y49)]).length ((([]:List Stowed)++s49)++[(Stowed.mk v13 y49)]).length)]) ⟨(by repeat' constructor),⟨⟨_,rfl,.same⟩,⟨_,rfl,.same⟩,G⟩,rfl⟩ ?_
     obtain⟨v58,hv58,h⟩:=Jc h
     obtain⟨v59,hv59,h⟩:=Gf h
     obtain⟨r60,hr60,h⟩:=Gf h
     refine JC_d0 Jz (by kernel_rfl) (Dq (Ei y49) (Gb Jf O O O) O (Dq (G0 y49.G3) (Gi Gd O O O) O (Dq (Eg y7) (Gb Gdd O O O) O (Dq (U8 y7.G3) (Gi Hw O O O) O (Dq (G0 v58) (G7e Zt G19 hv58 O O) O (Dq (Ec s) (Gb Hm O O O) O (Dq (E7 s.Columns) (Gi J4 O O O) O (Dq (Ej s.Columns.length) (Yo (f:=G3.av) (xs:=s.Columns) Hq O O) O (Dq (G0 v59) (Gf4 (Jw hv59).1 (Jw hv59).2 O O O) O (Dq (BL (decide (y49.G3=v59))) (Jx O O O) O (Dq (BL (decide (y49.G3=v59))) (G5 O O) O (Do (.agg (Gt.cs s)) [] O .sct G (fun hc=>Gh H7 O O O) O (Do (OW 1024 9 Ga.av (s7.1++[(Ga.mk v13 ByteArray.empty j17.1 j17.2 v16 0 1 0 false)])) [] O .sct G (fun hc=>G5 O O) O ?_)))))))))))))
     refine Do (OW 1028 4 Stowed.av ((([]:List Stowed)++s49)++[(Stowed.mk v13 y49)])) [] O .sct G (fun hc=>G5 O O) O (Do (BL r60) [76,77,78] O .sct ⟨Ua,Ua,Ua,G⟩ (fun hc=>Gu (args:=[.agg (Gt.cs s),E2 (s7.1++[(Ga.mk v13 ByteArray.empty j17.1 j17.2 v16 0 1 0 false)]),E1 ((([]:List Stowed)++s49)++[(Stowed.mk v13 y49)])]) O (Zv s (s7.1++[(Ga.mk v13 ByteArray.empty j17.1 j17.2 v16 0 1 0 false)]) ((([]:List Stowed)++s49)++[(Stowed.mk v13 y49)]) r60 (H4 hc hr60)) G73 ⟨O,O,O,O,O,O,G⟩) O (Dq (BL ((decide (y49.G3=v59))&&r60)) (Q6 O O O O) O (Dnil ?_)))
     refine hK57 (JCc O h (fun h hb=>?_) (fun h hb=>?_))
     ·
      refine Jr fun hK61=>(Rc (OW 1028 4 Stowed.av ((([]:List Stowed)++s49)++[(Stowed.mk v13 y49)])) O (Rc (OW 1028 4 Stowed.av ((([]:List Stowed)++s49)++[(Stowed.mk v13 y49)])) O (G7 (hK61 (J6 (ej10 _ _ ((s7.1++[(Ga.mk v13 ByteArray.empty j17.1 j17.2 v16 0 1 0 false)]),((([]:List Stowed)++s49)++[(Stowed.mk v13 y49)])) h ⟨⟨.same O,.same O,.list O,.same O,.same O,.same O,G⟩,⟨⟨_,O,.same⟩,G⟩,O⟩))))))
     ·
      refine Gr (hK52 (G4 (JLh (G0 ((i49+1:Nat):Int)) (Hv (Hr hk49 hm51) O O O) O (Rc (G0 ((i49+1:Nat):Int)) O (G7 (e49 _ _ (i49+1) s49 (app1 hn49 h) (by omega) ⟨(by repeat' constructor),⟨⟨_,rfl,.same⟩,G⟩,rfl⟩))))))
    ·
     have h:=app1 hkx49 (J2 hi49 (Hg hb))
     refine J6 (ej10 _ _ ((s7.1++[(Ga.mk v13 ByteArray.empty j17.1 j17.2 v16 0 1 0 false)]),s49) h ⟨(by repeat' constructor),⟨⟨_,rfl,.same⟩,G⟩,rfl⟩)
  ·intro j10 h
   replace h:=app1 hkj10 h
   refine G4 (JLh (G0 ((i7+1:Nat):Int)) (Hv (Hr hk7 hm22) O O O) O (Rc (G0 ((i7+1:Nat):Int)) O (G7 (e7 _ _ (i7+1) (j10.1,j10.2) (app1 hn7 h) (by omega) ⟨(by repeat' constructor),⟨⟨_,rfl,.same⟩,G⟩,rfl⟩))))
 ·
  have h:=app1 hkx7 (J2 hi7 (Hg hb))
  refine J6 (hK4 (Jr fun hK62=>(Rc (OW 1024 9 Ga.av s7.1) O (Rc (E1 s7.2) O (Rc (OW 1024 9 Ga.av s7.1) O (Rc (E1 s7.2) O (G7 (hK62 (Gv ?_)))))))))
  obtain rfl:=Option.some.inj h
  exact⟨[OW 1024 9 Ga.av s7.1,E1 s7.2],[(1024,.spare 67 9 s7.1.length s7.1.length)],⟨⟨_,O,.same⟩,G⟩,O,⟨⟨_,O,.conv (.same O)⟩,⟨_,O,.conv (.same O)⟩,G⟩,O,O⟩

def G68 (F:Nat) (s:Gt) (boxes:List Ga) (l:List Stowed) (open_:List Int) (cover:Int):Option ((List Int)×Int):=
 bnd (Qa s boxes l open_) fun r4=>
 bif (!r4) then
 (some ([],2))
 else
 (bif ((decide (cover < 0))||(decide ((s.Covers.length:Int)≤cover))) then
  (some ([],6))
  else
  (bnd (Qf F open_ cover) fun r9=>
   bif (!r9.2) then
   (bnd (Jn open_) fun r13=>
    some (r13,0))
   else
   (bnd (Yz open_ r9.1) fun r15=>
    some (r15,0))))
theorem J52 (F:Nat) (s:Gt) (boxes:List Ga) (l:List Stowed) (open_:List Int) (cover:Int) (r:(List Int)×Int) (h:G68 F s boxes l open_ cover=some r):Pure Ek 20 [.agg (Gt.cs s),E2 boxes,E1 l,E0 open_,G0 cover] (·=.tup [E0 r.1,G0 r.2]):=by
 unfold G68 at h
 refine H5 [.tmp 10,.tmp 11] Tryz.func20 O O (Jr fun hK1=>(JLh (.ptr 1051 0) (Q1 (cs:=(Gt.cs s)) 1051 O O O O O) O (JLh (E0 ([]:List Int)) (Hi 1 O O) O (Rc (G0 0) O (G7 (hK1 ?_))))))
 refine Gs [(1,E2 boxes),(2,E1 l),(3,E0 open_),(4,G0 cover),(5,Ec s)] [] 1051 rfl rfl rfl G rfl (by repeat' (first | exact .ptr | constructor)) (Js fun hK2=>Gx ?_)
 refine Jr fun hK3=>(JLh (.agg (Gt.cs s)) (Gh H7 O O O) O (Rc (E2 boxes) O (Rc (E1 l) O (Rc (E0 open_) O ?_))))
 obtain⟨r4,hr4,h⟩:=Gf h
 refine JLh (BL r4) (Gu O (Zu s boxes l open_ r4 hr4) Gb4 ⟨O,O,O,O,O,O,O,O,G⟩) O (JLh (BL (!r4)) (Ze (b:=r4) O O) O (Rc (BL (!r4)) O (G7 (hK3 (JCc O h (fun h hb=>?_) (fun h hb=>?_))))))
 ·
  refine Jr fun hK5=>(JLh (E0 ([]:List Int)) (Hi 1 O O) O (Rc (G0 2) O (G7 (hK5 (Gv (⟨[E0 ([]:List Int),G0 2],[],G,O,⟨⟨_,O,.conv (.same O)⟩,⟨_,O,.conv (.same O)⟩,G⟩,O,congrArg (fun r:(List Int)×Int=>(.tup [E0 r.1,G0 r.2]:AV)) (Option.some.inj h)⟩))))))
 ·
  refine Jr fun hK6=>(Rc (G0 cover) O (JLh (BL (decide (cover < 0))) (Jt O O O) O (Rc (BL (decide (cover < 0))) O (JLo (G0 cover) [] O .scf G (fun hc=>G5 O O) O (JLo (.dptr [E3 s.Covers,G0 s.Light.Kilos,G0 s.Light.X,G0 s.Light.Y,G0 s.Light.Z,E4 s.Rows,E5 s.Frames,E6 s.Tanks,G0 s.G2.Tolerance,G0 s.G2.Trim,G0 s.G2.List_,G0 s.G2.Stability]) [] O .scf G (fun hc=>Gb Hu O O O) O (JLo (E3 s.Covers) [26] O .scf ⟨Ua,G⟩ (fun hc=>Gi Ja O O O) O (JLo (Ej s.Covers.length) [27] O .scf ⟨Ua,G⟩ (fun hc=>Yo (f:=G9.av) (xs:=s.Covers) J8 O O) O (JLo (BL (decide ((s.Covers.length:Int)≤cover))) [25,28] O .scf ⟨Ua,Ua,G⟩ (fun hc=>G9d O O O) O (JLh (BL ((decide (cover < 0))||(decide ((s.Covers.length:Int)≤cover)))) (G24 O O O O) O (Rc (BL ((decide (cover < 0))||(decide ((s.Covers.length:Int)≤cover)))) O (G7 (hK6 ?_))))))))))))
  refine JCc O h (fun h hb=>?_) (fun h hb=>?_)
  ·
   refine Jr fun hK7=>(JLh (E0 ([]:List Int)) (Hi 1 O O) O (Rc (G0 6) O (G7 (hK7 (Gv (⟨[E0 ([]:List Int),G0 6],[],G,O,⟨⟨_,O,.conv (.same O)⟩,⟨_,O,.conv (.same O)⟩,G⟩,O,congrArg (fun r:(List Int)×Int=>(.tup [E0 r.1,G0 r.2]:AV)) (Option.some.inj h)⟩))))))
  ·
   refine Gr (hK2 (Jr fun hK8=>(Rc (E0 open_) O (Rc (G0 cover) O ?_))))
   obtain⟨r9,hr9,h⟩:=Gf h
   refine JLh (.tup [G0 r9.1,BL r9.2]) (Gu O (G14 F open_ cover r9 hr9) J1f ⟨O,O,O,O,G⟩) O (Rc (.tup [G0 r9.1,BL r9.2]) O (JLh (G0 r9.1) (H2 O O O) O (JLh (BL r9.2) (H2 O O O) O (Rc (G0 r9.1) O (Rc (BL r9.2) O (G7 (hK8 (Js fun hK10=>Jr fun hK11=>(Rc (BL r9.2) O (JLh (BL (!r9.2)) (Ze (b:=r9.2) O O) O (G7 (hK11 (JCc O h (fun h hb=>?_) (fun h hb=>?_))))))))))))))
   ·
    refine Jr fun hK12=>(Rc (E0 open_) O ?_)
    obtain⟨r13,hr13,h⟩:=Gf h
    refine JLh (E0 r13) (Gu O (G91 open_ r13 hr13) J1e ⟨O,O,G⟩) O (Rc (E0 r13) O (Rc (G0 0) O (G7 (hK12 (Gv (⟨[E0 r13,G0 0],[],G,O,⟨⟨_,O,.conv (.same O)⟩,⟨_,O,.conv (.same O)⟩,G⟩,O,congrArg (fun r:(List Int)×Int=>(.tup [E0 r.1,G0 r.2]:AV)) (Option.some.inj h)⟩))))))
   ·
    refine Gr (hK10 (Jr fun hK14=>(Rc (E0 open_) O (Rc (G0 r9.1) O ?_))))
    obtain⟨r15,hr15,h⟩:=Gf h
    refine JLh (E0 r15) (Gu O (H33.down open_ r9.1 r15 hr15) Jb5 ⟨O,O,O,O,G⟩) O (Rc (E0 r15) O (Rc (G0 0) O (G7 (hK14 (Gv (⟨[E0 r15,G0 0],[],G,O,⟨⟨_,O,.conv (.same O)⟩,⟨_,O,.conv (.same O)⟩,G⟩,O,congrArg (fun r:(List Int)×Int=>(.tup [E0 r.1,G0 r.2]:AV)) (Option.some.inj h)⟩))))))
end
end Go.Proofs.YtbljcmgjmieffaaGreat
