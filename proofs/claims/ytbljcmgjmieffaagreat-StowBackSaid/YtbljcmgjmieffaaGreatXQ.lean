/-
 Models of functions of the program,and that they return what the models say.
-/
import Derived.Test.YtbljcmgjmieffaaGreatXP
set_option linter.unnecessarySimpa false
set_option maxRecDepth 100000
set_option linter.unusedVariables false
set_option linter.unusedSimpArgs false
namespace Go.Proofs.YtbljcmgjmieffaaGreat
open Go.RowKit
noncomputable section

namespace XQF
open XAF
open XCF
open XGF
open XBF
open XPF
theorem Jb9:Hf Ek 35=true:=by kernel_rfl
end XQF
open XAF
open XCF
open XGF
open XBF
open XPF
open XQF


theorem G34 (s:Gt) (l:List Gg) (most:Int) (r:(List Ga)×(List Stowed)) (h:Jj s l most=some r):Qg Ek 8 [.agg (Gt.cs s),Ea l,G0 most] [] (fun av L'=>av=.tup [OW 1024 9 Ga.av r.1,E1 r.2]∧L'=[(1024,.spare 67 9 r.1.length r.1.length)]):=by
 unfold Jj at h
 refine Zp [] [.tmp 6,.tmp 7] Tryz.func8 O O (H55 O) (Jr fun hK1=>(JLh (.ptr 1023 0) (Jz (cs:=(Gt.cs s)) 1023 O O O O O) O (JLh (E2 ([]:List Ga)) (Hi 9 O O) O (JLh (E1 ([]:List Stowed)) (Hi 4 O O) O (G7 (hK1 ?_))))))
 refine Gs [(1,Ea l),(2,G0 most),(3,Ec s)] [] 1023 rfl rfl rfl G rfl (by exact⟨.conv (.same rfl),.conv (.same rfl),.ptr,G⟩) (Jr fun hK2=>(JLh (OW 1024 9 Ga.av ([]:List Ga)) (G68 1024 67 9 O O O) O (G7 (hK2 (Jr fun hK3=>(JLh (E1 ([]:List Stowed)) (Hi 4 O O) O (G7 (hK3 (Js fun hK4=>Jr fun hK5=>(Rc (Ea l) O (Rc (Ea l) O (JLl Zz O O O fun hm18=>(Rc (G0 most) O (JLh (G0 (min (l.length:Int) most)) (A_min O O O) O ?_))))))))))))))
 obtain⟨m6,hm6,h⟩:=Gf h
 refine JLh (Ea (l.take m6)) (H16 (f:=Gg.av) (xs:=l) O O O Zz (G29 hm6)) O (JLl Zz O O O fun hm22=>(Rc (G0 0) O (G7 (hK5 (Gx ?_)))))
 obtain⟨b7,kx7,hb7,hkx7,h⟩:=Jf h
 refine Hy (fun i7 (s7:(List Ga)×(List Stowed))=>each b7 kx7 (List.drop i7 (l.take m6)) i7 s7=some r) (fun i7 s7=>[(3,Ec s),(8,OW 1024 9 Ga.av s7.1),(9,E1 s7.2),(21,Ea (l.take m6)),(22,G0 ((l.take m6).length:Int)),(23,Ej i7)]) (fun i7 s7=>[(1024,.spare 67 9 s7.1.length s7.1.length)]) (fun i7=>(l.take m6).length - i7) 0 ([],[]) h ⟨(by repeat' constructor),⟨⟨_,rfl,.same⟩,G⟩,rfl⟩ ?_
 clear h
 intro i7 s7 hi7 K7 e7
 refine Jr fun hK8=>(JLh (BL (decide ((i7:Int) < ((l.take m6).length:Int)))) (Jp O O O) O (G7 (hK8 (Js fun hK9=>Gp O (fun hb=>?_) (fun hb=>?_)))))
 ·
  have hk7:=Q7 hb
  obtain⟨y7,nx7,hy7,hn7,h⟩:=J0 hi7 hk7
  replace h:=Zi hb7 h
  refine Gr (hK9 ?_)
  obtain⟨kj10,hkj10,h⟩:=Yf h
  refine R4 (fun j10:(List Ga)×(List Stowed)=>kj10 j10=some r) (fun j10=>[(3,Ec s),(8,OW 1024 9 Ga.av j10.1),(9,E1 j10.2),(21,Ea (l.take m6)),(22,G0 ((l.take m6).length:Int)),(23,Ej i7)]) (fun j10=>[(1024,.spare 67 9 j10.1.length j10.1.length)]) (fun Kj10 ej10=>?_) ?_
  ·
   refine Gx (Jr fun hK11=>(Rc (Ej i7) O (JLh (Ef y7) (H9 (f:=Gg.av) (xs:=(l.take m6)) (y:=y7) O O O Zz hy7 O) O (JLh (.agg (Gg.cs y7)) (Gh J67 O O O) O (JLh (.ptr 1025 0) (Hs 1025 4 Hc3 O O) O (Rc (Ej i7) O (Hz (u:=.junk) (Hh (u:=.agg (Gg.cs y7)) (ds:=[U8 y7.G3,U8 y7.Kilos,BL y7.Small,BL y7.High]) Hfe O O O O O O O O) (G7 (hK11 ?_)))))))))
   refine Gs [(3,Ec s),(8,OW 1024 9 Ga.av s7.1),(9,E1 s7.2),(10,Ej i7),(11,Ef y7),(21,Ea (l.take m6)),(22,G0 ((l.take m6).length:Int)),(23,Ej i7)] [(1024,.spare 67 9 s7.1.length s7.1.length)] 1025 rfl rfl rfl ⟨⟨_,rfl,.same⟩,G⟩ rfl (by repeat' (first | exact .ptr | constructor)) (Jr fun hK12=>(Rc (Ej i7) O (JLh (G0 ((i7+1:Nat):Int)) (Hv (Hr hk7 hm22) O O O) O ?_)))
   obtain⟨v13,hv13,h⟩:=Jb h
   refine JLh (G0 v13) (He3 hv13 O O O) O (JLh (.dptr [BL y7.High]) (Gb Gdb O O O) O (JLh (BL y7.High) (Gi Jn O O O) O (JLh (.dptr [U8 y7.Kilos,BL y7.Small,BL y7.High]) (Gb G3b O O O) O (JLh (U8 y7.Kilos) (Gi Hw O O O) O ?_))))
   obtain⟨v14,hv14,h⟩:=Jb h
   refine JLh (G0 v14) (G79 Zs G1a hv14 O O) O ?_
   obtain⟨v15,hv15,h⟩:=Jb h
   refine JLh (G0 v15) (He3 hv15 O O O) O ?_
   obtain⟨v16,hv16,h⟩:=Jb h
   refine JLh (G0 v16) (Hv hv16 O O O) O (JLh (.agg [G0 v13,ST ByteArray.empty,U8 40,BL y7.High,G0 v16,G0 0,G0 1,U8 0,BL false]) (Hp (cs:=[G0 v13,ST ByteArray.empty,U8 40,BL y7.High,G0 v16,G0 0,G0 1,U8 0,BL false]) [(0,1),(1,1),(2,1),(3,1),(4,1),(5,1),(6,1),(7,1),(8,1)] [G0 0,ST ByteArray.empty,U8 0,BL false,G0 0,G0 0,G0 0,U8 0,BL false] [.int .i64 0,.string ByteArray.empty,.int .u8 0,.bool false,.int .i64 0,.int .i64 0,.int .i64 0,.int .u8 0,.bool false] R3 Rv ⟨.inl O,.inl O,.inl O,.inl O,.inl O,.inl O,.inl O,.inl O,.inl O,G⟩ O O) O (JLh (.ptr 1026 0) (Hs 1026 9 Y4 O O) O (Hz (u:=.junk) (Hh (u:=.agg [G0 v13,ST ByteArray.empty,U8 40,BL y7.High,G0 v16,G0 0,G0 1,U8 0,BL false]) (ds:=[G0 v13,ST ByteArray.empty,U8 40,BL y7.High,G0 v16,G0 0,G0 1,U8 0,BL false]) G18 O O O O O O O O) (G7 (hK12 ?_)))))
   obtain⟨kj17,hkj17,h⟩:=Yf h
   refine R4 (fun j17:Int×Bool=>kj17 j17=some r) (fun j17=>[(3,Ec s),(8,OW 1024 9 Ga.av s7.1),(9,E1 s7.2),(11,Ef y7),(12,.ptr 1026 0),(21,Ea (l.take m6)),(22,G0 ((l.take m6).length:Int)),(23,Ej i7)]) (fun j17=>[(1024,.spare 67 9 s7.1.length s7.1.length),(1026,.box 67 [G0 v13,ST ByteArray.empty,U8 j17.1,BL j17.2,G0 v16,G0 0,G0 1,U8 0,BL false])]) (fun Kj17 ej17=>?_) ?_
   ·
    refine Jr fun hK18=>(JLh (.dptr [BL y7.Small,BL y7.High]) (Gb Gdc O O O) O (JLh (BL y7.Small) (Gi Jn O O O) O (G7 (hK18 (JCc O h (fun h hb=>?_) (fun h hb=>?_))))))
    ·
     refine G4 (JLh (.ptr 1026 2) (Jy Rz O O) O (Hz (u:=.junk) (Hh (u:=U8 20) (ds:=[G0 v13,ST ByteArray.empty,U8 20,BL y7.High,G0 v16,G0 0,G0 1,U8 0,BL false]) H3f O O O O O O O O) (JLh (.ptr 1026 3) (Jy G7b O O) O (Hz (u:=.junk) (Hh (u:=BL false) (ds:=[G0 v13,ST ByteArray.empty,U8 20,BL false,G0 v16,G0 0,G0 1,U8 0,BL false]) Ha3 O O O O O O O O) (G7 (ej17 _ _ (20,false) h ⟨(by repeat' constructor),⟨⟨_,rfl,.same⟩,⟨_,rfl,.boxL rfl (by repeat' constructor)⟩,G⟩,rfl⟩))))))
    ·
     refine Gr (ej17 _ _ (40,y7.High) h ⟨(by repeat' constructor),⟨⟨_,rfl,.same⟩,⟨_,rfl,.boxL rfl (by repeat' constructor)⟩,G⟩,rfl⟩)
   ·intro j17 h
    replace h:=app1 hkj17 h
    refine Jr fun hK19=>(Rc (OW 1024 9 Ga.av s7.1) O (JLh (.agg [G0 v13,ST ByteArray.empty,U8 j17.1,BL j17.2,G0 v16,G0 0,G0 1,U8 0,BL false]) (G78 G50 O O O O) O (JLh (E2 [(Ga.mk v13 ByteArray.empty j17.1 j17.2 v16 0 1 0 false)]) (H5 (xs:=[.agg [G0 v13,ST ByteArray.empty,U8 j17.1,BL j17.2,G0 v16,G0 0,G0 1,U8 0,BL false]]) O ⟨O,O,G⟩ Ro Y4 O O O O) O ?_)))
    obtain⟨ha20,h⟩:=Ji h
    refine JLh (OW 1024 9 Ga.av (s7.1++[(Ga.mk v13 ByteArray.empty j17.1 j17.2 v16 0 1 0 false)])) (Rn (f:=Ga.av) (xs:=s7.1) (ys:=[(Ga.mk v13 ByteArray.empty j17.1 j17.2 v16 0 1 0 false)]) O O O O Ro H03 ha20 (fun _=>O) (.inl O) O) O (Rc (OW 1024 9 Ga.av (s7.1++[(Ga.mk v13 ByteArray.empty j17.1 j17.2 v16 0 1 0 false)])) O (G7 (hK19 ?_)))
    refine Gs [(3,Ec s),(8,OW 1024 9 Ga.av (s7.1++[(Ga.mk v13 ByteArray.empty j17.1 j17.2 v16 0 1 0 false)])),(9,E1 s7.2),(11,Ef y7),(12,.dptr [G0 v13,ST ByteArray.empty,U8 j17.1,BL j17.2,G0 v16,G0 0,G0 1,U8 0,BL false]),(21,Ea (l.take m6)),(22,G0 ((l.take m6).length:Int)),(23,Ej i7)] [(1024,.spare 67 9 (s7.1++[(Ga.mk v13 ByteArray.empty j17.1 j17.2 v16 0 1 0 false)]).length (s7.1++[(Ga.mk v13 ByteArray.empty j17.1 j17.2 v16 0 1 0 false)]).length)] 1026 rfl rfl rfl ⟨⟨_,rfl,.same⟩,G⟩ rfl (by repeat' (first | exact .ptr | constructor)) ?_
    refine Jr fun hK21=>(JLh (.agg (Gt.cs s)) (Gh H6 O O O) O (JLh (.dptr [U8 j17.1,BL j17.2,G0 v16,G0 0,G0 1,U8 0,BL false]) (Gb Rz O O O) O (JLh (U8 j17.1) (Gi Hw O O O) O ?_)))
    obtain⟨r22,hr22,h⟩:=Gf h
    refine JLh (E8 r22) (Gu O (H97 s j17.1 r22 hr22) J1e ⟨O,O,O,O,G⟩) O (JLl R5 O O O fun hm51=>(Rc (G0 0) O (G7 (hK21 (Gx ?_)))))
    obtain⟨b49,kx49,hb49,hkx49,h⟩:=Jf h
    refine Hy (fun i49 (s49:(List Stowed))=>each b49 kx49 (List.drop i49 r22) i49 s49=some r) (fun i49 s49=>[(3,Ec s),(8,OW 1024 9 Ga.av (s7.1++[(Ga.mk v13 ByteArray.empty j17.1 j17.2 v16 0 1 0 false)])),(9,E1 s49),(11,Ef y7),(12,.dptr [G0 v13,ST ByteArray.empty,U8 j17.1,BL j17.2,G0 v16,G0 0,G0 1,U8 0,BL false]),(21,Ea (l.take m6)),(22,G0 ((l.take m6).length:Int)),(23,Ej i7),(50,E8 r22),(51,Ej r22.length),(52,Ej i49)]) (fun i49 s49=>[(1024,.spare 67 9 (s7.1++[(Ga.mk v13 ByteArray.empty j17.1 j17.2 v16 0 1 0 false)]).length (s7.1++[(Ga.mk v13 ByteArray.empty j17.1 j17.2 v16 0 1 0 false)]).length)]) (fun i49=>r22.length - i49) 0 s7.2 h ⟨(by repeat' constructor),⟨⟨_,rfl,.same⟩,G⟩,rfl⟩ ?_
    clear h
    intro i49 s49 hi49 K49 e49
    refine Jr fun hK50=>(JLh (BL (decide ((i49:Int) < (r22.length:Int)))) (Jp O O O) O (G7 (hK50 (Js fun hK51=>Gp O (fun hb=>?_) (fun hb=>?_)))))
    ·
     have hk49:=Q7 hb
     obtain⟨y49,nx49,hy49,hn49,h⟩:=J0 hi49 hk49
     replace h:=Zi hb49 h
     refine Gr (hK51 (Js fun hK52=>Gx (Jr fun hK53=>(JLh (Ei y49) (H9 (f:=Slot.av) (xs:=r22) (y:=y49) O O O R5 hy49 O) O (JLh (.agg (Slot.cs y49)) (Gh Q4 O O O) O (JLh (.ptr 1027 0) (Hs 1027 3 G4f O O) O (Hz (u:=.junk) (Hh (u:=.agg (Slot.cs y49)) (ds:=[G0 y49.G3,G0 y49.Tier,U8 y49.Half]) Gfe O O O O O O O O) (G7 (hK53 ?_)))))))))
     refine Gs [(3,Ec s),(8,OW 1024 9 Ga.av (s7.1++[(Ga.mk v13 ByteArray.empty j17.1 j17.2 v16 0 1 0 false)])),(9,E1 s49),(11,Ef y7),(12,.dptr [G0 v13,ST ByteArray.empty,U8 j17.1,BL j17.2,G0 v16,G0 0,G0 1,U8 0,BL false]),(14,Ei y49),(21,Ea (l.take m6)),(22,G0 ((l.take m6).length:Int)),(23,Ej i7),(50,E8 r22),(51,Ej r22.length),(52,Ej i49)] [(1024,.spare 67 9 (s7.1++[(Ga.mk v13 ByteArray.empty j17.1 j17.2 v16 0 1 0 false)]).length (s7.1++[(Ga.mk v13 ByteArray.empty j17.1 j17.2 v16 0 1 0 false)]).length)] 1027 rfl rfl rfl ⟨⟨_,rfl,.same⟩,G⟩ rfl (by repeat' (first | exact .ptr | constructor)) ?_
     refine Js fun hK54=>?_
     refine Rm (l':=[(3,Ec s),(8,OW 1024 9 Ga.av (s7.1++[(Ga.mk v13 ByteArray.empty j17.1 j17.2 v16 0 1 0 false)])),(9,E1 s49),(11,Ef y7),(12,.dptr [G0 v13,ST ByteArray.empty,U8 j17.1,BL j17.2,G0 v16,G0 0,G0 1,U8 0,BL false]),(14,Ei y49),(21,Ea (l.take m6)),(22,G0 ((l.take m6).length:Int)),(23,Ej i7),(50,E8 r22),(51,Ej r22.length),(52,Ej i49)]) (L':=[(1024,.spare 67 9 (s7.1++[(Ga.mk v13 ByteArray.empty j17.1 j17.2 v16 0 1 0 false)]).length (s7.1++[(Ga.mk v13 ByteArray.empty j17.1 j17.2 v16 0 1 0 false)]).length)]) ⟨(by repeat' constructor),⟨⟨_,rfl,.same⟩,G⟩,rfl⟩ ?_
     obtain⟨ha55,h⟩:=Ji h
     obtain⟨ha56,h⟩:=Ji h
     refine Jw [0,2,8] [0,0,0,0,0,0,0,0,0,3] [0,1,0,2,2,2,2,2,0,3] [[(1024,.spare 67 9 (s7.1++[(Ga.mk v13 ByteArray.empty j17.1 j17.2 v16 0 1 0 false)]).length (s7.1++[(Ga.mk v13 ByteArray.empty j17.1 j17.2 v16 0 1 0 false)]).length)],((1028,.spare 47 4 ([]:List Stowed).length ([]:List Stowed).length)::[(1024,.spare 67 9 (s7.1++[(Ga.mk v13 ByteArray.empty j17.1 j17.2 v16 0 1 0 false)]).length (s7.1++[(Ga.mk v13 ByteArray.empty j17.1 j17.2 v16 0 1 0 false)]).length)]),((1028,.spare 47 4 (([]:List Stowed)++s49).length (([]:List Stowed)++s49).length)::((1028,.spare 47 4 ([]:List Stowed).length ([]:List Stowed).length)::[(1024,.spare 67 9 (s7.1++[(Ga.mk v13 ByteArray.empty j17.1 j17.2 v16 0 1 0 false)]).length (s7.1++[(Ga.mk v13 ByteArray.empty j17.1 j17.2 v16 0 1 0 false)]).length)])),((1028,.spare 47 4 ((([]:List Stowed)++s49)++[(Stowed.mk v13 y49)]).length ((([]:List Stowed)++s49)++[(Stowed.mk v13 y49)]).length)::((1028,.spare 47 4 (([]:List Stowed)++s49).length (([]:List Stowed)++s49).length)::((1028,.spare 47 4 ([]:List Stowed).length ([]:List Stowed).length)::[(1024,.spare 67 9 (s7.1++[(Ga.mk v13 ByteArray.empty j17.1 j17.2 v16 0 1 0 false)]).length (s7.1++[(Ga.mk v13 ByteArray.empty j17.1 j17.2 v16 0 1 0 false)]).length)])))] Jx (by kernel_rfl) rfl rfl ?_
     refine J69 (u:=OW 1028 4 Stowed.av ([]:List Stowed)) O O O O (Gj (Gf7 1028 47 4 O O H0) O) (Gn (u:=E1 s49) O O ⟨Gj (G5 O O) O,Gj (G5 O O) O,G⟩ (J69 (u:=OW 1028 4 Stowed.av (([]:List Stowed)++s49)) O O O O (Gj (G5a (f:=Stowed.av) (xs:=([]:List Stowed)) (ys:=s49) O O O O H0 G6c ha55 (fun _=>O) (.inl O)) O) (Gn (u:=.dptr [G0 v13,ST ByteArray.empty,U8 j17.1,BL j17.2,G0 v16,G0 0,G0 1,U8 0,BL false]) O O ⟨Gj (Gb Ze O O O) O,Gj (Gb Ze O O O) O,Gj (Gb Ze O O O) O,G⟩ (Gn (u:=G0 v13) O O ⟨Gj (Gi Gd O O O) O,Gj (Gi Gd O O O) O,Gj (Gi Gd O O O) O,G⟩ (Gn (u:=.agg (Slot.cs y49)) O O ⟨Gj (Gh Q4 O O O) O,Gj (Gh Q4 O O O) O,Gj (Gh Q4 O O O) O,G⟩ (Gn (u:=.agg [G0 v13,G0 y49.G3,G0 y49.Tier,U8 y49.Half]) O O ⟨Gj (Hp (cs:=[G0 v13,G0 y49.G3,G0 y49.Tier,U8 y49.Half]) [(0,1),(1,3)] [G0 0,G0 0,G0 0,U8 0] [.int .i64 0,.int .i64 0,.int .i64 0,.int .u8 0] Z5 G02 ⟨.inl O,.inl O,.inl O,.inl O,G⟩ O O) O,Gj (Hp (cs:=[G0 v13,G0 y49.G3,G0 y49.Tier,U8 y49.Half]) [(0,1),(1,3)] [G0 0,G0 0,G0 0,U8 0] [.int .i64 0,.int .i64 0,.int .i64 0,.int .u8 0] Z5 G02 ⟨.inl O,.inl O,.inl O,.inl O,G⟩ O O) O,Gj (Hp (cs:=[G0 v13,G0 y49.G3,G0 y49.Tier,U8 y49.Half]) [(0,1),(1,3)] [G0 0,G0 0,G0 0,U8 0] [.int .i64 0,.int .i64 0,.int .i64 0,.int .u8 0] Z5 G02 ⟨.inl O,.inl O,.inl O,.inl O,G⟩ O O) O,G⟩ (Gn (u:=E1 [(Stowed.mk v13 y49)]) O O ⟨Gj (H5 (xs:=[.agg [G0 v13,G0 y49.G3,G0 y49.Tier,U8 y49.Half]]) O ⟨O,O,G⟩ H0 Q8 O O O O) O,Gj (H5 (xs:=[.agg [G0 v13,G0 y49.G3,G0 y49.Tier,U8 y49.Half]]) O ⟨O,O,G⟩ H0 Q8 O O O O) O,Gj (H5 (xs:=[.agg [G0 v13,G0 y49.G3,G0 y49.Tier,U8 y49.Half]]) O ⟨O,O,G⟩ H0 Q8 O O O O) O,G⟩ (J69 (u:=OW 1028 4 Stowed.av ((([]:List Stowed)++s49)++[(Stowed.mk v13 y49)])) O O O O (Gj (Rn (f:=Stowed.av) (xs:=(([]:List Stowed)++s49)) (ys:=[(Stowed.mk v13 y49)]) O O O O H0 G6c ha56 (fun _=>O) (.inl O) O) O) (Gn (u:=OW 1028 4 Stowed.av ((([]:List Stowed)++s49)++[(Stowed.mk v13 y49)])) O O ⟨Gj (G8 O O) O,G⟩ (Y9 ?_))))))))))
     refine hK54 (Js fun hK57=>?_)
     refine Rm (l':=[(3,Ec s),(8,OW 1024 9 Ga.av (s7.1++[(Ga.mk v13 ByteArray.empty j17.1 j17.2 v16 0 1 0 false)])),(9,E1 s49),(11,Ef y7),(12,.dptr [G0 v13,ST ByteArray.empty,U8 j17.1,BL j17.2,G0 v16,G0 0,G0 1,U8 0,BL false]),(14,Ei y49),(15,OW 1028 4 Stowed.av ((([]:List Stowed)++s49)++[(Stowed.mk v13 y49)])),(21,Ea (l.take m6)),(22,G0 ((l.take m6).length:Int)),(23,Ej i7),(50,E8 r22),(51,Ej r22.length),(52,Ej i49)]) (L':=[(1024,.spare 67 9 (s7.1++[(Ga.mk v13 ByteArray.empty j17.1 j17.2 v16 0 1 0 false)]).length (s7.1++[(Ga.mk v13 ByteArray.empty j17.1 j17.2 v16 0 1 0 false)]).length),(1028,.spare 47 4 ((([]:List Stowed)++s49)++[(Stowed.mk v13 y49)]).length ((([]:List Stowed)++s49)++[(Stowed.mk v13 y49)]).length)]) ⟨(by repeat' constructor),⟨⟨_,rfl,.same⟩,⟨_,rfl,.same⟩,G⟩,rfl⟩ ?_
     obtain⟨v58,hv58,h⟩:=Jb h
     obtain⟨v59,hv59,h⟩:=Gf h
     obtain⟨r60,hr60,h⟩:=Gf h
     refine JC_d0 Jx (by kernel_rfl) (Dq (Ei y49) (Gb Jd O O O) O (Dq (G0 y49.G3) (Gi Gd O O O) O (Dq (Ef y7) (Gb Gdd O O O) O (Dq (U8 y7.G3) (Gi Hw O O O) O (Dq (G0 v58) (G79 Zs G1a hv58 O O) O (Dq (Ec s) (Gb Hm O O O) O (Dq (E7 s.Columns) (Gi J3 O O O) O (Dq (Ej s.Columns.length) (Yn (f:=G3.av) (xs:=s.Columns) Hq O O) O (Dq (G0 v59) (Gf6 (Ju hv59).1 (Ju hv59).2 O O O) O (Dq (BL (decide (y49.G3=v59))) (Jv O O O) O (Dq (BL (decide (y49.G3=v59))) (G5 O O) O (Do (.agg (Gt.cs s)) [] O .sct G (fun hc=>Gh H6 O O O) O (Do (OW 1024 9 Ga.av (s7.1++[(Ga.mk v13 ByteArray.empty j17.1 j17.2 v16 0 1 0 false)])) [] O .sct G (fun hc=>G5 O O) O ?_)))))))))))))
     refine Do (OW 1028 4 Stowed.av ((([]:List Stowed)++s49)++[(Stowed.mk v13 y49)])) [] O .sct G (fun hc=>G5 O O) O (Do (BL r60) [76,77,78] O .sct ⟨Ua,Ua,Ua,G⟩ (fun hc=>Gu (args:=[.agg (Gt.cs s),E2 (s7.1++[(Ga.mk v13 ByteArray.empty j17.1 j17.2 v16 0 1 0 false)]),E1 ((([]:List Stowed)++s49)++[(Stowed.mk v13 y49)])]) O (Zu s (s7.1++[(Ga.mk v13 ByteArray.empty j17.1 j17.2 v16 0 1 0 false)]) ((([]:List Stowed)++s49)++[(Stowed.mk v13 y49)]) r60 (H3 hc hr60)) G6f ⟨O,O,O,O,O,O,G⟩) O (Dq (BL ((decide (y49.G3=v59))&&r60)) (Q6 O O O O) O (Dnil ?_)))
     refine hK57 (JCc O h (fun h hb=>?_) (fun h hb=>?_))
     ·
      refine Jr fun hK61=>(Rc (OW 1028 4 Stowed.av ((([]:List Stowed)++s49)++[(Stowed.mk v13 y49)])) O (Rc (OW 1028 4 Stowed.av ((([]:List Stowed)++s49)++[(Stowed.mk v13 y49)])) O (G7 (hK61 (J5 (ej10 _ _ ((s7.1++[(Ga.mk v13 ByteArray.empty j17.1 j17.2 v16 0 1 0 false)]),((([]:List Stowed)++s49)++[(Stowed.mk v13 y49)])) h ⟨⟨.same O,.same O,.list O,.same O,.same O,.same O,G⟩,⟨⟨_,O,.same⟩,G⟩,O⟩))))))
     ·
      refine Gr (hK52 (G4 (JLh (G0 ((i49+1:Nat):Int)) (Hv (Hr hk49 hm51) O O O) O (Rc (G0 ((i49+1:Nat):Int)) O (G7 (e49 _ _ (i49+1) s49 (app1 hn49 h) (by omega) ⟨(by repeat' constructor),⟨⟨_,rfl,.same⟩,G⟩,rfl⟩))))))
    ·
     have h:=app1 hkx49 (J1 hi49 (Hg hb))
     refine J5 (ej10 _ _ ((s7.1++[(Ga.mk v13 ByteArray.empty j17.1 j17.2 v16 0 1 0 false)]),s49) h ⟨(by repeat' constructor),⟨⟨_,rfl,.same⟩,G⟩,rfl⟩)
  ·intro j10 h
   replace h:=app1 hkj10 h
   refine G4 (JLh (G0 ((i7+1:Nat):Int)) (Hv (Hr hk7 hm22) O O O) O (Rc (G0 ((i7+1:Nat):Int)) O (G7 (e7 _ _ (i7+1) (j10.1,j10.2) (app1 hn7 h) (by omega) ⟨(by repeat' constructor),⟨⟨_,rfl,.same⟩,G⟩,rfl⟩))))
 ·
  have h:=app1 hkx7 (J1 hi7 (Hg hb))
  refine J5 (hK4 (Jr fun hK62=>(Rc (OW 1024 9 Ga.av s7.1) O (Rc (E1 s7.2) O (Rc (OW 1024 9 Ga.av s7.1) O (Rc (E1 s7.2) O (G7 (hK62 (Gv ?_)))))))))
  obtain rfl:=Option.some.inj h
  exact⟨[OW 1024 9 Ga.av s7.1,E1 s7.2],[(1024,.spare 67 9 s7.1.length s7.1.length)],⟨⟨_,O,.same⟩,G⟩,O,⟨⟨_,O,.conv (.same O)⟩,⟨_,O,.conv (.same O)⟩,G⟩,O,O⟩

def G55 (s:Gt) (boxes:List Ga) (l:List Stowed) (open_:List Int) (id_:Int):Option ((List Stowed)×Int):=
 bnd (Rq s boxes l open_ id_) fun r4=>
 bif decide (r4≠0) then
 (some ([],r4))
 else
 (bnd (R7 l id_) fun r8=>
  bnd (R2 l r8) fun r9=>
  some (r9,0))
theorem H59 (s:Gt) (boxes:List Ga) (l:List Stowed) (open_:List Int) (id_:Int) (r:(List Stowed)×Int) (h:G55 s boxes l open_ id_=some r):Pure Ek 14 [.agg (Gt.cs s),E2 boxes,E1 l,E0 open_,G0 id_] (·=.tup [E1 r.1,G0 r.2]):=by
 unfold G55 at h
 refine H4 [.tmp 10,.tmp 11] Tryz.func14 O O (Jr fun hK1=>(JLh (.ptr 1040 0) (Jz (cs:=(Gt.cs s)) 1040 O O O O O) O (JLh (E1 ([]:List Stowed)) (Hi 4 O O) O (Rc (G0 0) O (G7 (hK1 ?_))))))
 refine Gs [(1,E2 boxes),(2,E1 l),(3,E0 open_),(4,G0 id_),(5,Ec s)] [] 1040 rfl rfl rfl G rfl (by repeat' (first | exact .ptr | constructor)) (Js fun hK2=>?_)
 refine Jr fun hK3=>(JLh (.agg (Gt.cs s)) (Gh H6 O O O) O (Rc (E2 boxes) O (Rc (E1 l) O (Rc (E0 open_) O (Rc (G0 id_) O ?_)))))
 obtain⟨r4,hr4,h⟩:=Gf h
 refine JLh (G0 r4) (Gu O (Zk s boxes l open_ id_ r4 hr4) G4b ⟨O,O,O,O,O,O,O,O,O,O,G⟩) O (Rc (G0 r4) O (G7 (hK3 (Jr fun hK5=>(Rc (G0 r4) O (JLh (BL (decide (r4≠0))) (G36 O O O) O (G7 (hK5 (JCc O h (fun h hb=>?_) (fun h hb=>?_))))))))))
 ·
  refine Jr fun hK6=>(Rc (G0 r4) O (JLh (E1 ([]:List Stowed)) (Hi 4 O O) O (Rc (G0 r4) O (G7 (hK6 (Gv (⟨[E1 ([]:List Stowed),G0 r4],[],G,O,⟨⟨_,O,.conv (.same O)⟩,⟨_,O,.conv (.same O)⟩,G⟩,O,congrArg (fun r:(List Stowed)×Int=>(.tup [E1 r.1,G0 r.2]:AV)) (Option.some.inj h)⟩)))))))
 ·
  refine Gr (hK2 (Jr fun hK7=>(Rc (E1 l) O (Rc (E1 l) O (Rc (G0 id_) O ?_)))))
  obtain⟨r8,hr8,h⟩:=Gf h
  refine JLh (G0 r8) (Gu O (G0e l id_ r8 hr8) G6e ⟨O,O,O,O,G⟩) O ?_
  obtain⟨r9,hr9,h⟩:=Gf h
  refine JLh (E1 r9) (Gu O (Gbe.down l r8 r9 hr9) Jb9 ⟨O,O,O,O,G⟩) O (Rc (E1 r9) O (Rc (G0 0) O (G7 (hK7 (Gv (⟨[E1 r9,G0 0],[],G,O,⟨⟨_,O,.conv (.same O)⟩,⟨_,O,.conv (.same O)⟩,G⟩,O,congrArg (fun r:(List Stowed)×Int=>(.tup [E1 r.1,G0 r.2]:AV)) (Option.some.inj h)⟩))))))

end
end Go.Proofs.YtbljcmgjmieffaaGreat
