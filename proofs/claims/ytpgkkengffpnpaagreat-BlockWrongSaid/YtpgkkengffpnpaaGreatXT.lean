/-
 Models of functions of the program,and that they return what the models say.
-/
import Derived.Test.YtpgkkengffpnpaaGreatXS
set_option linter.unnecessarySimpa false
set_option maxRecDepth 100000
set_option maxHeartbeats 1000000
set_option linter.unusedVariables false
set_option linter.unusedSimpArgs false
namespace Go.Proofs.YtpgkkengffpnpaaGreat
open Go.RowKit
noncomputable section

namespace XTF
open XAF
open XCF
open XGF
open XHF
open XBF
open XPF
open XQF
open XRF
open XSF

end XTF
open XAF
open XCF
open XGF
open XHF
open XBF
open XPF
open XQF
open XRF
open XSF
open XTF

def Qy (F:Nat) (l:List Gy) (covers:Int) (drops:List Gi) (n:Int):Option Bool:=
 bnd (Jg l covers drops 9) fun r3=>
 need (decide ((([]:List Stowed).length+r3.2.2.length)*32≤140737488355328∧([]:List Stowed).length+r3.2.2.length≤maxLen)) <|
 need (decide (((([]:List Stowed)++r3.2.2).length+[(Stowed.mk 3 (Slot.mk 0 0 0))].length)*32≤140737488355328∧(([]:List Stowed)++r3.2.2).length+[(Stowed.mk 3 (Slot.mk 0 0 0))].length≤maxLen)) <|
 bnd (J4 F r3.1 r3.2.1 ((([]:List Stowed)++r3.2.2)++[(Stowed.mk 3 (Slot.mk 0 0 0))]) 5) fun r9=>
 bnd (Qh F r3.1 r3.2.1 ((([]:List Stowed)++r3.2.2)++[(Stowed.mk 3 (Slot.mk 0 0 0))])) fun r11=>
 bnd (Qf F r3.1 r3.2.1 ((([]:List Stowed)++r3.2.2)++[(Stowed.mk 3 (Slot.mk 0 0 0))])) fun r13=>
 bnd (Jh F r3.1 r3.2.1 ((([]:List Stowed)++r3.2.2)++[(Stowed.mk 3 (Slot.mk 0 0 0))]) 5) fun r15=>
 bnd (J4 F r3.1 r3.2.1 r3.2.2 (max n 100)) fun r17=>
 bnd (Qf F r3.1 r3.2.1 []) fun r19=>
 need (decide ((r3.2.1.length+[(G9.mk 3 ByteArray.empty 45 false 0 0 0 0 false)].length)*64≤140737488355328∧r3.2.1.length+[(G9.mk 3 ByteArray.empty 45 false 0 0 0 0 false)].length≤maxLen)) <|
 bnd (Jh F r3.1 (r3.2.1++[(G9.mk 3 ByteArray.empty 45 false 0 0 0 0 false)]) r3.2.2 3) fun r23=>
 bnd (Jh F r3.1 (r3.2.1++[(G9.mk 3 ByteArray.empty 45 false 0 0 0 0 false)]) r3.2.2 (min n 2)) fun r25=>
 jp (fun kj26=>
  bif decide (0 < (r3.2.2.length:Int)) then
  (Z2 r3.2.2 0 fun y29=>
   bnd (Jh F r3.1 (r3.2.1++[(G9.mk 3 ByteArray.empty 45 false 0 0 0 0 false)]) r3.2.2 y29.G9) fun r31=>
   bif decide (r31.2.2≠96) then
   (some false)
   else
   (kj26 ()))
  else
  (kj26 ())) fun(j26:Unit)=>
 bnd (bif ((((((((decide (r9.2=2))&&(decide (r11.2=r9.2)))&&(decide (r13.2.2.2=r9.2)))&&(decide (r15.2.2=r9.2)))&&(decide (r17.2=6)))&&(decide (r19.2.2.2=r17.2)))&&(decide (r23.2.2=r17.2)))&&(decide (r25.2.2=r17.2))) then G0d (r19.1+(r19.2.1.length:Int)) some else some 0) fun v35=>
 bnd (bif ((((((((decide (r9.2=2))&&(decide (r11.2=r9.2)))&&(decide (r13.2.2.2=r9.2)))&&(decide (r15.2.2=r9.2)))&&(decide (r17.2=6)))&&(decide (r19.2.2.2=r17.2)))&&(decide (r23.2.2=r17.2)))&&(decide (r25.2.2=r17.2))) then G0d (v35+(r19.2.2.1.length:Int)) some else some 0) fun v36=>
 bnd (bif (((((((((decide (r9.2=2))&&(decide (r11.2=r9.2)))&&(decide (r13.2.2.2=r9.2)))&&(decide (r15.2.2=r9.2)))&&(decide (r17.2=6)))&&(decide (r19.2.2.2=r17.2)))&&(decide (r23.2.2=r17.2)))&&(decide (r25.2.2=r17.2)))&&(decide (v36=0))) then J8 r19.2.1 r19.2.2.1 else some default) fun r37=>
 bnd (bif ((((((((((decide (r9.2=2))&&(decide (r11.2=r9.2)))&&(decide (r13.2.2.2=r9.2)))&&(decide (r15.2.2=r9.2)))&&(decide (r17.2=6)))&&(decide (r19.2.2.2=r17.2)))&&(decide (r23.2.2=r17.2)))&&(decide (r25.2.2=r17.2)))&&(decide (v36=0)))&&r37) then J1 F else some default) fun r38=>
 some (((((((((((decide (r9.2=2))&&(decide (r11.2=r9.2)))&&(decide (r13.2.2.2=r9.2)))&&(decide (r15.2.2=r9.2)))&&(decide (r17.2=6)))&&(decide (r19.2.2.2=r17.2)))&&(decide (r23.2.2=r17.2)))&&(decide (r25.2.2=r17.2)))&&(decide (v36=0)))&&r37)&&r38)
theorem Gac (F:Nat) (l:List Gy) (covers:Int) (drops:List Gi) (n:Int) (r:Bool) (h:Qy F l covers drops n=some r):Pure Ek 6 [Eb l,.sc (.int .u32 covers),E9 drops,G0 n] (·=BL r):=by
 unfold Qy at h
 refine H6 [.tmp 8] Tryz.func6 O O (Jr fun hK1=>(Yv (BL false) O (G7 (hK1 (Jr fun hK2=>(Yv (Eb l) O (Yv (.sc (.int .u32 covers)) O (Yv (E9 drops) O ?_))))))))
 obtain⟨r3,hr3,h⟩:=Gd h
 refine G68 O O O (He7 (args:=[Eb l,.sc (.int .u32 covers),E9 drops,G0 9]) (L0:=[]) (u:=fun p=>.tup [.agg (Gp.cs r3.1),.vec 1063 p 9 r3.2.1.length,E1 r3.2.2]) (Lr:=fun p=>[(1063,.vec 61 9 p (r3.2.1.map G9.av))]) O (G73 l covers drops 9 r3 hr3) H0c ⟨.inl O,O,.inl O,O,.inl O,O,.inl O,O,G⟩ G O (fun _=>O)) ?_
 rintro u_ L_ ⟨v4,rfl,rfl⟩
 refine Yv (.tup [.agg (Gp.cs r3.1),.vec 1063 v4 9 r3.2.1.length,E1 r3.2.2]) O (JLh (.agg (Gp.cs r3.1)) (Gn O O O) O (JLh (.vec 1063 v4 9 r3.2.1.length) (Gn O O O) O (JL_vownM (f:=G9.av) (xs:=r3.2.1) 45 1017 O O O (JLh (E1 r3.2.2) (Gn O O O) O (JLh (.ptr 1015 0) (Hu 1015 13 G14 O O) O (Hw (u:=.junk) (Hj (u:=.agg (Gp.cs r3.1)) (ds:=(Gp.cs r3.1)) Z1 O O O O O O O O) (Yv (OW 1017 9 G9.av r3.2.1) O (Yv (E1 r3.2.2) O (G7 (hK2 ?_))))))))))
 refine Gt [(3,G0 n),(9,Ec r3.1),(10,OW 1017 9 G9.av r3.2.1),(11,E1 r3.2.2)] [(1063,.vec 61 9 (v4+1) (([]:List G9).map G9.av)),(1017,.spare 61 9 r3.2.1.length r3.2.1.length)] 1015 rfl rfl rfl ⟨⟨_,rfl,.vec⟩,⟨_,rfl,.same⟩,G⟩ rfl (by repeat' (first | exact .ptr | constructor)) (Jr fun hK5=>(JLh (OW 1016 4 Stowed.av ([]:List Stowed)) (He2 1016 49 4 O O H2) O (Yv (E1 r3.2.2) O ?_)))
 obtain⟨ha6,h⟩:=J7 h
 refine JLh (OW 1016 4 Stowed.av (([]:List Stowed)++r3.2.2)) (H19 (f:=Stowed.av) (xs:=([]:List Stowed)) (ys:=r3.2.2) O O O O H2 G1c ha6 (fun _=>O) (.inl O)) O (JLh (.agg [G0 3,G0 0,G0 0,U8 0]) (Hz (cs:=[G0 3,G0 0,G0 0,U8 0]) [(0,1),(1,3)] [G0 0,G0 0,G0 0,U8 0] [.int .i64 0,.int .i64 0,.int .i64 0,.int .u8 0] Zr G18 ⟨.inl O,.inl O,.inl O,.inl O,G⟩ O O) O (JLh (E1 [(Stowed.mk 3 (Slot.mk 0 0 0))]) (H9 (xs:=[.agg [G0 3,G0 0,G0 0,U8 0]]) O ⟨O,O,G⟩ H2 Jx O O O O) O ?_))
 obtain⟨ha7,h⟩:=J7 h
 refine JLh (OW 1016 4 Stowed.av ((([]:List Stowed)++r3.2.2)++[(Stowed.mk 3 (Slot.mk 0 0 0))])) (Rc (f:=Stowed.av) (xs:=(([]:List Stowed)++r3.2.2)) (ys:=[(Stowed.mk 3 (Slot.mk 0 0 0))]) O O O O H2 G1c ha7 (fun _=>O) (.inl O) O) O (Yv (OW 1016 4 Stowed.av ((([]:List Stowed)++r3.2.2)++[(Stowed.mk 3 (Slot.mk 0 0 0))])) O (G7 (hK5 (Jr fun hK8=>(JLh (.agg (Gp.cs r3.1)) (Gh H5 O O O) O (Yv (OW 1017 9 G9.av r3.2.1) O (Yv (OW 1016 4 Stowed.av ((([]:List Stowed)++r3.2.2)++[(Stowed.mk 3 (Slot.mk 0 0 0))])) O ?_)))))))
 obtain⟨r9,hr9,h⟩:=Gd h
 refine JLh (.tup [E0 r9.1,G0 r9.2]) (Gu O (Q6 F r3.1 r3.2.1 ((([]:List Stowed)++r3.2.2)++[(Stowed.mk 3 (Slot.mk 0 0 0))]) 5 r9 hr9) Zg ⟨O,O,O,O,O,O,O,O,G⟩) O (Yv (.tup [E0 r9.1,G0 r9.2]) O (JLh (E0 r9.1) (Gn O O O) O (JLh (G0 r9.2) (Gn O O O) O (Yv (E0 r9.1) O (Yv (G0 r9.2) O (G7 (hK8 (Jr fun hK10=>(JLh (.agg (Gp.cs r3.1)) (Gh H5 O O O) O (Yv (OW 1017 9 G9.av r3.2.1) O (Yv (OW 1016 4 Stowed.av ((([]:List Stowed)++r3.2.2)++[(Stowed.mk 3 (Slot.mk 0 0 0))])) O ?_)))))))))))
 obtain⟨r11,hr11,h⟩:=Gd h
 refine JLh (.tup [E0 r11.1,G0 r11.2]) (Gu O (G1d.down F r3.1 r3.2.1 ((([]:List Stowed)++r3.2.2)++[(Stowed.mk 3 (Slot.mk 0 0 0))]) r11 hr11) H6a ⟨O,O,O,O,O,O,G⟩) O (Yv (.tup [E0 r11.1,G0 r11.2]) O (JLh (E0 r11.1) (Gn O O O) O (JLh (G0 r11.2) (Gn O O O) O (Yv (E0 r11.1) O (Yv (G0 r11.2) O (G7 (hK10 (Jr fun hK12=>(JLh (.agg (Gp.cs r3.1)) (Gh H5 O O O) O (Yv (OW 1017 9 G9.av r3.2.1) O (Yv (OW 1016 4 Stowed.av ((([]:List Stowed)++r3.2.2)++[(Stowed.mk 3 (Slot.mk 0 0 0))])) O ?_)))))))))))
 obtain⟨r13,hr13,h⟩:=Gd h
 refine JLh (.tup [G0 r13.1,E0 r13.2.1,E0 r13.2.2.1,G0 r13.2.2.2]) (Gu O (G32 F r3.1 r3.2.1 ((([]:List Stowed)++r3.2.2)++[(Stowed.mk 3 (Slot.mk 0 0 0))]) r13 hr13) H21 ⟨O,O,O,O,O,O,G⟩) O (Yv (.tup [G0 r13.1,E0 r13.2.1,E0 r13.2.2.1,G0 r13.2.2.2]) O (JLh (G0 r13.1) (Gn O O O) O (JLh (E0 r13.2.1) (Gn O O O) O (JLh (E0 r13.2.2.1) (Gn O O O) O (JLh (G0 r13.2.2.2) (Gn O O O) O (Yv (G0 r13.1) O (Yv (E0 r13.2.1) O (Yv (E0 r13.2.2.1) O (Yv (G0 r13.2.2.2) O (G7 (hK12 (Jr fun hK14=>(JLh (.agg (Gp.cs r3.1)) (Gh H5 O O O) O (Yv (OW 1017 9 G9.av r3.2.1) O (Yv (OW 1016 4 Stowed.av ((([]:List Stowed)++r3.2.2)++[(Stowed.mk 3 (Slot.mk 0 0 0))])) O ?_)))))))))))))))
 obtain⟨r15,hr15,h⟩:=Gd h
 refine JLh (.tup [E4 r15.1,G0 r15.2.1,G0 r15.2.2]) (Gu O (Zf F r3.1 r3.2.1 ((([]:List Stowed)++r3.2.2)++[(Stowed.mk 3 (Slot.mk 0 0 0))]) 5 r15 hr15) G94 ⟨O,O,O,O,O,O,O,O,G⟩) O (Yv (.tup [E4 r15.1,G0 r15.2.1,G0 r15.2.2]) O (JLh (E4 r15.1) (Gn O O O) O (JLh (G0 r15.2.1) (Gn O O O) O (JLh (G0 r15.2.2) (Gn O O O) O (Yv (E4 r15.1) O (Yv (G0 r15.2.1) O (Yv (G0 r15.2.2) O (G7 (hK14 (Jr fun hK16=>(JLh (.agg (Gp.cs r3.1)) (Gh H5 O O O) O (Yv (OW 1017 9 G9.av r3.2.1) O (Yv (E1 r3.2.2) O (Yv (G0 n) O (JLh (G0 (max n 100)) (A_max O O O) O ?_)))))))))))))))
 obtain⟨r17,hr17,h⟩:=Gd h
 refine JLh (.tup [E0 r17.1,G0 r17.2]) (Gu O (Q6 F r3.1 r3.2.1 r3.2.2 (max n 100) r17 hr17) Zg ⟨O,O,O,O,O,O,O,O,G⟩) O (Yv (.tup [E0 r17.1,G0 r17.2]) O (JLh (E0 r17.1) (Gn O O O) O (JLh (G0 r17.2) (Gn O O O) O (Yv (E0 r17.1) O (Yv (G0 r17.2) O (G7 (hK16 (Jr fun hK18=>(JLh (.agg (Gp.cs r3.1)) (Gh H5 O O O) O (Yv (OW 1017 9 G9.av r3.2.1) O ?_))))))))))
 obtain⟨r19,hr19,h⟩:=Gd h
 refine JLh (.tup [G0 r19.1,E0 r19.2.1,E0 r19.2.2.1,G0 r19.2.2.2]) (He6 (args:=[.agg (Gp.cs r3.1),E2 r3.2.1,E1 ([]:List Stowed)]) O (G32 F r3.1 r3.2.1 [] r19 hr19) H21 ⟨.inl O,O,.inl O,O,.inr ⟨_,O,O⟩,O,G⟩) O (Yv (.tup [G0 r19.1,E0 r19.2.1,E0 r19.2.2.1,G0 r19.2.2.2]) O (JLh (G0 r19.1) (Gn O O O) O (JLh (E0 r19.2.1) (Gn O O O) O (JLh (E0 r19.2.2.1) (Gn O O O) O (JLh (G0 r19.2.2.2) (Gn O O O) O (Yv (G0 r19.1) O (Yv (E0 r19.2.1) O (Yv (E0 r19.2.2.1) O (Yv (G0 r19.2.2.2) O (G7 (hK18 ?_)))))))))))
 refine Jr fun hK20=>(Yv (OW 1017 9 G9.av r3.2.1) O (JLh (.agg [G0 3,ST ByteArray.empty,U8 45,BL false,G0 0,G0 0,G0 0,U8 0,BL false]) (Hz (cs:=[G0 3,ST ByteArray.empty,U8 45,BL false,G0 0,G0 0,G0 0,U8 0,BL false]) [(0,1),(1,1),(2,1),(3,1),(4,1),(5,1),(6,1),(7,1),(8,1)] [G0 0,ST ByteArray.empty,U8 0,BL false,G0 0,G0 0,G0 0,U8 0,BL false] [.int .i64 0,.string ByteArray.empty,.int .u8 0,.bool false,.int .i64 0,.int .i64 0,.int .i64 0,.int .u8 0,.bool false] Rx Z0 ⟨.inl O,.inl O,.inl O,.inl O,.inl O,.inl O,.inl O,.inl O,.inl O,G⟩ O O) O (JLh (E2 [(G9.mk 3 ByteArray.empty 45 false 0 0 0 0 false)]) (H9 (xs:=[.agg [G0 3,ST ByteArray.empty,U8 45,BL false,G0 0,G0 0,G0 0,U8 0,BL false]]) O ⟨O,O,G⟩ Qb Y5 O O O O) O ?_)))
 obtain⟨ha21,h⟩:=J7 h
 refine JLh (OW 1017 9 G9.av (r3.2.1++[(G9.mk 3 ByteArray.empty 45 false 0 0 0 0 false)])) (Rc (f:=G9.av) (xs:=r3.2.1) (ys:=[(G9.mk 3 ByteArray.empty 45 false 0 0 0 0 false)]) O O O O Qb H96 ha21 (fun _=>O) (.inl O) O) O (Yv (OW 1017 9 G9.av (r3.2.1++[(G9.mk 3 ByteArray.empty 45 false 0 0 0 0 false)])) O (G7 (hK20 (Jr fun hK22=>(JLh (.agg (Gp.cs r3.1)) (Gh H5 O O O) O (Yv (OW 1017 9 G9.av (r3.2.1++[(G9.mk 3 ByteArray.empty 45 false 0 0 0 0 false)])) O (Yv (E1 r3.2.2) O ?_)))))))
 obtain⟨r23,hr23,h⟩:=Gd h
 refine JLh (.tup [E4 r23.1,G0 r23.2.1,G0 r23.2.2]) (Gu O (Zf F r3.1 (r3.2.1++[(G9.mk 3 ByteArray.empty 45 false 0 0 0 0 false)]) r3.2.2 3 r23 hr23) G94 ⟨O,O,O,O,O,O,O,O,G⟩) O (Yv (.tup [E4 r23.1,G0 r23.2.1,G0 r23.2.2]) O (JLh (E4 r23.1) (Gn O O O) O (JLh (G0 r23.2.1) (Gn O O O) O (JLh (G0 r23.2.2) (Gn O O O) O (Yv (E4 r23.1) O (Yv (G0 r23.2.1) O (Yv (G0 r23.2.2) O (G7 (hK22 (Jr fun hK24=>(JLh (.agg (Gp.cs r3.1)) (Gh H5 O O O) O (Yv (OW 1017 9 G9.av (r3.2.1++[(G9.mk 3 ByteArray.empty 45 false 0 0 0 0 false)])) O (Yv (E1 r3.2.2) O (Yv (G0 n) O (JLh (G0 (min n 2)) (A_min O O O) O ?_)))))))))))))))
 obtain⟨r25,hr25,h⟩:=Gd h
 refine JLh (.tup [E4 r25.1,G0 r25.2.1,G0 r25.2.2]) (Gu O (Zf F r3.1 (r3.2.1++[(G9.mk 3 ByteArray.empty 45 false 0 0 0 0 false)]) r3.2.2 (min n 2) r25 hr25) G94 ⟨O,O,O,O,O,O,O,O,G⟩) O (Yv (.tup [E4 r25.1,G0 r25.2.1,G0 r25.2.2]) O (JLh (E4 r25.1) (Gn O O O) O (JLh (G0 r25.2.1) (Gn O O O) O (JLh (G0 r25.2.2) (Gn O O O) O (Yv (E4 r25.1) O (Yv (G0 r25.2.1) O (Yv (G0 r25.2.2) O (G7 (hK24 ?_)))))))))
 obtain⟨kj26,hkj26,h⟩:=Rm h
 refine Qr (fun j26:Unit=>kj26 j26=some r) (fun j26=>[(14,G0 r9.2),(16,G0 r11.2),(20,G0 r13.2.2.2),(23,G0 r15.2.2),(25,G0 r17.2),(26,G0 r19.1),(27,E0 r19.2.1),(28,E0 r19.2.2.1),(29,G0 r19.2.2.2),(32,G0 r23.2.2),(35,G0 r25.2.2)]) (fun j26=>[(1063,.vec 61 9 (v4+1) (([]:List G9).map G9.av))]) (fun Kj26 ej26=>?_) ?_
 ·
  refine Jr fun hK27=>(Yv (E1 r3.2.2) O (JLl H2 O O O fun hm124=>(JLh (BL (decide (0 < (r3.2.2.length:Int)))) (G35 O O O) O (G7 (hK27 (JCc O h (fun h hb=>?_) (fun h hb=>?_)))))))
  ·
   refine Js fun hK28=>?_
   refine Yk (l':=[(9,Ec r3.1),(10,OW 1017 9 G9.av (r3.2.1++[(G9.mk 3 ByteArray.empty 45 false 0 0 0 0 false)])),(11,E1 r3.2.2),(14,G0 r9.2),(16,G0 r11.2),(20,G0 r13.2.2.2),(23,G0 r15.2.2),(25,G0 r17.2),(26,G0 r19.1),(27,E0 r19.2.1),(28,E0 r19.2.2.1),(29,G0 r19.2.2.2),(32,G0 r23.2.2),(35,G0 r25.2.2)]) (L':=[(1063,.vec 61 9 (v4+1) (([]:List G9).map G9.av)),(1017,.spare 61 9 (r3.2.1++[(G9.mk 3 ByteArray.empty 45 false 0 0 0 0 false)]).length (r3.2.1++[(G9.mk 3 ByteArray.empty 45 false 0 0 0 0 false)]).length),(1016,.spare 49 4 ((([]:List Stowed)++r3.2.2)++[(Stowed.mk 3 (Slot.mk 0 0 0))]).length ((([]:List Stowed)++r3.2.2)++[(Stowed.mk 3 (Slot.mk 0 0 0))]).length)]) ⟨(by repeat' constructor),⟨⟨_,rfl,.vec⟩,⟨_,rfl,.same⟩,⟨_,rfl,.same⟩,G⟩,rfl⟩ ?_
   obtain⟨m30,y29,hm30,hy29,h⟩:=Z5 h
   obtain⟨r31,hr31,h⟩:=Gd h
   refine JC_d0 Qg (by kernel_rfl) (Dq (.agg (Gp.cs r3.1)) (Gh H5 O O O) O (Dq (OW 1017 9 G9.av (r3.2.1++[(G9.mk 3 ByteArray.empty 45 false 0 0 0 0 false)])) (G5 O O) O (Dq (E1 r3.2.2) (G5 O O) O (Dq (E1 r3.2.2) (G5 O O) O (Dq (Ed y29) (Hb (f:=Stowed.av) (xs:=r3.2.2) (y:=y29) O O O H2 hy29 hm30) O (Dq (Ed y29) (Gf Hg O O O) O (Dq (G0 y29.G9) (Gj Gb O O O) O (Dq (.tup [E4 r31.1,G0 r31.2.1,G0 r31.2.2]) (Gu (args:=[.agg (Gp.cs r3.1),E2 (r3.2.1++[(G9.mk 3 ByteArray.empty 45 false 0 0 0 0 false)]),E1 r3.2.2,G0 y29.G9]) O (Zf F r3.1 (r3.2.1++[(G9.mk 3 ByteArray.empty 45 false 0 0 0 0 false)]) r3.2.2 y29.G9 r31 hr31) G94 ⟨O,O,O,O,O,O,O,O,G⟩) O (Dq (.tup [E4 r31.1,G0 r31.2.1,G0 r31.2.2]) (G5 O O) O (Dq (E4 r31.1) (Gn O O O) O (Dq (G0 r31.2.1) (Gn O O O) O (Dq (G0 r31.2.2) (Gn O O O) O (Dq (E4 r31.1) (G8 O O) O ?_)))))))))))))
   refine Dq (G0 r31.2.1) (G8 O O) O (Dq (G0 r31.2.2) (G8 O O) O (Dnil (hK28 (Jr fun hK32=>(Yv (G0 r31.2.2) O (JLh (BL (decide (r31.2.2≠96))) (Zy O O O) O (G7 (hK32 (JCc O h (fun h hb=>?_) (fun h hb=>?_))))))))))
   ·
    refine Jr fun hK33=>(Yv (BL false) O (G7 (hK33 (Gx (fin1 BL h)))))
   ·
    refine Gr (ej26 _ _ () h ⟨(by repeat' constructor),⟨⟨_,rfl,.vec⟩,G⟩,rfl⟩)
  ·
   refine Gr (ej26 _ _ () h ⟨(by repeat' constructor),⟨⟨_,rfl,.vec⟩,G⟩,rfl⟩)
 ·intro j26 h
  replace h:=app1 hkj26 h
  refine Jr fun hK34=>(Yv (G0 r9.2) O (JLh (BL (decide (r9.2=2))) (Q0 O O O) O (Yv (BL (decide (r9.2=2))) O (JLo (G0 r11.2) [] O .sct G (fun hc=>G5 O O) O (JLo (G0 r9.2) [] O .sct G (fun hc=>G5 O O) O (JLo (BL (decide (r11.2=r9.2))) [143,144] O .sct ⟨Ua,Ua,G⟩ (fun hc=>Q0 O O O) O (JLh (BL ((decide (r9.2=2))&&(decide (r11.2=r9.2)))) (Qd O O O O) O (Yv (BL ((decide (r9.2=2))&&(decide (r11.2=r9.2)))) O (JLo (G0 r13.2.2.2) [] O .sct G (fun hc=>G5 O O) O (JLo (G0 r9.2) [] O .sct G (fun hc=>G5 O O) O (JLo (BL (decide (r13.2.2.2=r9.2))) [148,149] O .sct ⟨Ua,Ua,G⟩ (fun hc=>Q0 O O O) O (JLh (BL (((decide (r9.2=2))&&(decide (r11.2=r9.2)))&&(decide (r13.2.2.2=r9.2)))) (Qd O O O O) O (Yv (BL (((decide (r9.2=2))&&(decide (r11.2=r9.2)))&&(decide (r13.2.2.2=r9.2)))) O ?_)))))))))))))
  refine JLo (G0 r15.2.2) [] O .sct G (fun hc=>G5 O O) O (JLo (G0 r9.2) [] O .sct G (fun hc=>G5 O O) O (JLo (BL (decide (r15.2.2=r9.2))) [153,154] O .sct ⟨Ua,Ua,G⟩ (fun hc=>Q0 O O O) O (JLh (BL ((((decide (r9.2=2))&&(decide (r11.2=r9.2)))&&(decide (r13.2.2.2=r9.2)))&&(decide (r15.2.2=r9.2)))) (Qd O O O O) O (Yv (BL ((((decide (r9.2=2))&&(decide (r11.2=r9.2)))&&(decide (r13.2.2.2=r9.2)))&&(decide (r15.2.2=r9.2)))) O (JLo (G0 r17.2) [] O .sct G (fun hc=>G5 O O) O (JLo (BL (decide (r17.2=6))) [158] O .sct ⟨Ua,G⟩ (fun hc=>Q0 O O O) O (JLh (BL (((((decide (r9.2=2))&&(decide (r11.2=r9.2)))&&(decide (r13.2.2.2=r9.2)))&&(decide (r15.2.2=r9.2)))&&(decide (r17.2=6)))) (Qd O O O O) O (Yv (BL (((((decide (r9.2=2))&&(decide (r11.2=r9.2)))&&(decide (r13.2.2.2=r9.2)))&&(decide (r15.2.2=r9.2)))&&(decide (r17.2=6)))) O (JLo (G0 r19.2.2.2) [] O .sct G (fun hc=>G5 O O) O (JLo (G0 r17.2) [] O .sct G (fun hc=>G5 O O) O (JLo (BL (decide (r19.2.2.2=r17.2))) [162,163] O .sct ⟨Ua,Ua,G⟩ (fun hc=>Q0 O O O) O (JLh (BL ((((((decide (r9.2=2))&&(decide (r11.2=r9.2)))&&(decide (r13.2.2.2=r9.2)))&&(decide (r15.2.2=r9.2)))&&(decide (r17.2=6)))&&(decide (r19.2.2.2=r17.2)))) (Qd O O O O) O (Yv (BL ((((((decide (r9.2=2))&&(decide (r11.2=r9.2)))&&(decide (r13.2.2.2=r9.2)))&&(decide (r15.2.2=r9.2)))&&(decide (r17.2=6)))&&(decide (r19.2.2.2=r17.2)))) O ?_)))))))))))))
  refine JLo (G0 r23.2.2) [] O .sct G (fun hc=>G5 O O) O (JLo (G0 r17.2) [] O .sct G (fun hc=>G5 O O) O (JLo (BL (decide (r23.2.2=r17.2))) [167,168] O .sct ⟨Ua,Ua,G⟩ (fun hc=>Q0 O O O) O (JLh (BL (((((((decide (r9.2=2))&&(decide (r11.2=r9.2)))&&(decide (r13.2.2.2=r9.2)))&&(decide (r15.2.2=r9.2)))&&(decide (r17.2=6)))&&(decide (r19.2.2.2=r17.2)))&&(decide (r23.2.2=r17.2)))) (Qd O O O O) O (Yv (BL (((((((decide (r9.2=2))&&(decide (r11.2=r9.2)))&&(decide (r13.2.2.2=r9.2)))&&(decide (r15.2.2=r9.2)))&&(decide (r17.2=6)))&&(decide (r19.2.2.2=r17.2)))&&(decide (r23.2.2=r17.2)))) O (JLo (G0 r25.2.2) [] O .sct G (fun hc=>G5 O O) O (JLo (G0 r17.2) [] O .sct G (fun hc=>G5 O O) O (JLo (BL (decide (r25.2.2=r17.2))) [172,173] O .sct ⟨Ua,Ua,G⟩ (fun hc=>Q0 O O O) O (JLh (BL ((((((((decide (r9.2=2))&&(decide (r11.2=r9.2)))&&(decide (r13.2.2.2=r9.2)))&&(decide (r15.2.2=r9.2)))&&(decide (r17.2=6)))&&(decide (r19.2.2.2=r17.2)))&&(decide (r23.2.2=r17.2)))&&(decide (r25.2.2=r17.2)))) (Qd O O O O) O (Yv (BL ((((((((decide (r9.2=2))&&(decide (r11.2=r9.2)))&&(decide (r13.2.2.2=r9.2)))&&(decide (r15.2.2=r9.2)))&&(decide (r17.2=6)))&&(decide (r19.2.2.2=r17.2)))&&(decide (r23.2.2=r17.2)))&&(decide (r25.2.2=r17.2)))) O (JLo (G0 r19.1) [] O .sct G (fun hc=>G5 O O) O (JLo (E0 r19.2.1) [] O .sct G (fun hc=>G5 O O) O (JLo (Ej r19.2.1.length) [178] O .sct ⟨Ua,G⟩ (fun hc=>Zj (f:=G0) (xs:=r19.2.1) Gq O O) O ?_))))))))))))
  obtain⟨v35,hv35,h⟩:=Gd h
  refine JLo (G0 v35) [177,179] O .sct ⟨Ua,Ua,G⟩ (fun hc=>Hx (Ga9 (H4 hc hv35)) O O O) O (JLo (E0 r19.2.2.1) [] O .sct G (fun hc=>G5 O O) O (JLo (Ej r19.2.2.1.length) [181] O .sct ⟨Ua,G⟩ (fun hc=>Zj (f:=G0) (xs:=r19.2.2.1) Gq O O) O ?_))
  obtain⟨v36,hv36,h⟩:=Gd h
  refine JLo (G0 v36) [180,182] O .sct ⟨Ua,Ua,G⟩ (fun hc=>Hx (Ga9 (H4 hc hv36)) O O O) O (JLo (BL (decide (v36=0))) [183] O .sct ⟨Ua,G⟩ (fun hc=>Q0 O O O) O (JLh (BL (((((((((decide (r9.2=2))&&(decide (r11.2=r9.2)))&&(decide (r13.2.2.2=r9.2)))&&(decide (r15.2.2=r9.2)))&&(decide (r17.2=6)))&&(decide (r19.2.2.2=r17.2)))&&(decide (r23.2.2=r17.2)))&&(decide (r25.2.2=r17.2)))&&(decide (v36=0)))) (Qd O O O O) O (Yv (BL (((((((((decide (r9.2=2))&&(decide (r11.2=r9.2)))&&(decide (r13.2.2.2=r9.2)))&&(decide (r15.2.2=r9.2)))&&(decide (r17.2=6)))&&(decide (r19.2.2.2=r17.2)))&&(decide (r23.2.2=r17.2)))&&(decide (r25.2.2=r17.2)))&&(decide (v36=0)))) O (JLo (E0 r19.2.1) [] O .sct G (fun hc=>G5 O O) O (JLo (E0 r19.2.2.1) [] O .sct G (fun hc=>G5 O O) O ?_)))))
  obtain⟨r37,hr37,h⟩:=Gd h
  refine JLo (BL r37) [187,188] O .sct ⟨Ua,Ua,G⟩ (fun hc=>Gu (args:=[E0 r19.2.1,E0 r19.2.2.1]) O (Q4 r19.2.1 r19.2.2.1 r37 (H4 hc hr37)) G6c ⟨O,O,O,O,G⟩) O (JLh (BL ((((((((((decide (r9.2=2))&&(decide (r11.2=r9.2)))&&(decide (r13.2.2.2=r9.2)))&&(decide (r15.2.2=r9.2)))&&(decide (r17.2=6)))&&(decide (r19.2.2.2=r17.2)))&&(decide (r23.2.2=r17.2)))&&(decide (r25.2.2=r17.2)))&&(decide (v36=0)))&&r37)) (Qd O O O O) O (Yv (BL ((((((((((decide (r9.2=2))&&(decide (r11.2=r9.2)))&&(decide (r13.2.2.2=r9.2)))&&(decide (r15.2.2=r9.2)))&&(decide (r17.2=6)))&&(decide (r19.2.2.2=r17.2)))&&(decide (r23.2.2=r17.2)))&&(decide (r25.2.2=r17.2)))&&(decide (v36=0)))&&r37)) O ?_))
  obtain⟨r38,hr38,h⟩:=Gd h
  refine JLo (BL r38) [] O .sct G (fun hc=>Gu (args:=[]) O (Qt F r38 (H4 hc hr38)) G95 G) O (JLh (BL (((((((((((decide (r9.2=2))&&(decide (r11.2=r9.2)))&&(decide (r13.2.2.2=r9.2)))&&(decide (r15.2.2=r9.2)))&&(decide (r17.2=6)))&&(decide (r19.2.2.2=r17.2)))&&(decide (r23.2.2=r17.2)))&&(decide (r25.2.2=r17.2)))&&(decide (v36=0)))&&r37)&&r38)) (Qd O O O O) O (Yv (BL (((((((((((decide (r9.2=2))&&(decide (r11.2=r9.2)))&&(decide (r13.2.2.2=r9.2)))&&(decide (r15.2.2=r9.2)))&&(decide (r17.2=6)))&&(decide (r19.2.2.2=r17.2)))&&(decide (r23.2.2=r17.2)))&&(decide (r25.2.2=r17.2)))&&(decide (v36=0)))&&r37)&&r38)) O (G7 (hK34 (Gx (fin1 BL h))))))
end
end Go.Proofs.YtpgkkengffpnpaaGreat
