/-
 Models of functions of the program,and that they return what the models say.
-/
import Derived.Test.YtfkilljboodoaaaGreatXDa
set_option maxRecDepth 100000
set_option linter.unusedVariables false
set_option linter.unusedSimpArgs false
namespace Go.Proofs.YtfkilljboodoaaaGreat
open Go.RowKit
noncomputable section
open XAF
open XLF
open XBF
open XDF

def Zk (F:Nat) :Option Bool:=
 bnd (Q9 1) fun r6=>
 bnd (Y9 F r6 [(H4.mk 1 ByteArray.empty 40 false 0 0 2 0 false),(H4.mk 2 ByteArray.empty 40 false 0 1 3 0 false)] [(G6.mk 0 2),(G6.mk 1 3)]) fun r7=>
 bnd (Q9 2) fun r9=>
 bnd (Y9 F r9 [(H4.mk 1 ByteArray.empty 40 false 0 0 2 0 false),(H4.mk 2 ByteArray.empty 40 false 0 1 3 0 false)] [(G6.mk 0 2),(G6.mk 1 3)]) fun r10=>
 bnd (Q9 1) fun r12=>
 bnd (Y9 F r12 [(H4.mk 1 ByteArray.empty 20 false 0 0 2 0 false),(H4.mk 2 ByteArray.empty 20 false 0 0 2 0 false),(H4.mk 3 ByteArray.empty 20 false 0 0 2 0 false),(H4.mk 4 ByteArray.empty 20 false 0 1 3 0 false)] [(G6.mk 0 2),(G6.mk 1 3)]) fun r13=>
 bnd (Q9 1) fun r15=>
 bnd (H7b F r15 [(H4.mk 1 ByteArray.empty 40 false 0 0 2 0 false),(H4.mk 2 ByteArray.empty 40 false 0 1 3 0 false)]) fun r16=>
 bnd (Q9 1) fun r18=>
 Qe [(G6.mk 0 2),(G6.mk 1 3)] 1 fun y19=>
 Qe [(G6.mk 0 2),(G6.mk 1 3)] 0 fun y21=>
 bnd (Y9 F r18 [(H4.mk 1 ByteArray.empty 40 false 0 0 2 0 false),(H4.mk 2 ByteArray.empty 40 false 0 1 3 0 false)] [y19,y21]) fun r23=>
 bnd (Q9 1) fun r25=>
 Qe [(G6.mk 0 2),(G6.mk 1 3)] 0 fun y26=>
 bnd (Gc6 F r25 [(H4.mk 1 ByteArray.empty 40 false 0 0 2 0 false),(H4.mk 2 ByteArray.empty 40 false 0 1 3 0 false)] ([[(G6.mk 0 2),(G6.mk 1 3)],[y26]])) fun r28=>
 bnd (Q9 1) fun r30=>
 bnd (G19 r30 3 1) fun r31=>
 Rm (r7.2+r10.2) fun v33=>
 Rm (v33+r13.2) fun v34=>
 Rm (v34+r16.2.2) fun v35=>
 Rm (v35+r31.2) fun v36=>
 bnd (bif ((((((decide (v36=0))&&(decide (r7.1=1)))&&(decide (r10.1=0)))&&(decide (r13.1=1)))&&(decide (r16.2.1=1)))&&(decide ((r16.1.length:Int)=1))) then Qe r16.1 0 some else some default) fun y37=>
 bnd (bif ((((((decide (v36=0))&&(decide (r7.1=1)))&&(decide (r10.1=0)))&&(decide (r13.1=1)))&&(decide (r16.2.1=1)))&&(decide ((r16.1.length:Int)=1))) then Qm y37 [(G6.mk 0 2),(G6.mk 1 3)] else some default) fun r38=>
 bnd (bif ((((((((((decide (v36=0))&&(decide (r7.1=1)))&&(decide (r10.1=0)))&&(decide (r13.1=1)))&&(decide (r16.2.1=1)))&&(decide ((r16.1.length:Int)=1)))&&r38)&&(decide (r23.2=270)))&&(decide (r28.2=271)))&&(decide (r31.1=4))) then Qe [(G6.mk 0 2),(G6.mk 1 3)] 0 some else some default) fun y39=>
 bnd (bif ((((((((((decide (v36=0))&&(decide (r7.1=1)))&&(decide (r10.1=0)))&&(decide (r13.1=1)))&&(decide (r16.2.1=1)))&&(decide ((r16.1.length:Int)=1)))&&r38)&&(decide (r23.2=270)))&&(decide (r28.2=271)))&&(decide (r31.1=4))) then Qe [(G6.mk 0 2),(G6.mk 1 3)] 1 some else some default) fun y40=>
 bnd (bif ((((((((((decide (v36=0))&&(decide (r7.1=1)))&&(decide (r10.1=0)))&&(decide (r13.1=1)))&&(decide (r16.2.1=1)))&&(decide ((r16.1.length:Int)=1)))&&r38)&&(decide (r23.2=270)))&&(decide (r28.2=271)))&&(decide (r31.1=4))) then G39 y39 y40 else some default) fun r41=>
 bnd (bif (((((((((((decide (v36=0))&&(decide (r7.1=1)))&&(decide (r10.1=0)))&&(decide (r13.1=1)))&&(decide (r16.2.1=1)))&&(decide ((r16.1.length:Int)=1)))&&r38)&&(decide (r23.2=270)))&&(decide (r28.2=271)))&&(decide (r31.1=4)))&&r41) then Qe [(G6.mk 0 2),(G6.mk 1 3)] 1 some else some default) fun y42=>
 bnd (bif (((((((((((decide (v36=0))&&(decide (r7.1=1)))&&(decide (r10.1=0)))&&(decide (r13.1=1)))&&(decide (r16.2.1=1)))&&(decide ((r16.1.length:Int)=1)))&&r38)&&(decide (r23.2=270)))&&(decide (r28.2=271)))&&(decide (r31.1=4)))&&r41) then Qe [(G6.mk 0 2),(G6.mk 1 3)] 0 some else some default) fun y43=>
 bnd (bif (((((((((((decide (v36=0))&&(decide (r7.1=1)))&&(decide (r10.1=0)))&&(decide (r13.1=1)))&&(decide (r16.2.1=1)))&&(decide ((r16.1.length:Int)=1)))&&r38)&&(decide (r23.2=270)))&&(decide (r28.2=271)))&&(decide (r31.1=4)))&&r41) then G39 y42 y43 else some default) fun r44=>
 bnd (bif ((((((((((((decide (v36=0))&&(decide (r7.1=1)))&&(decide (r10.1=0)))&&(decide (r13.1=1)))&&(decide (r16.2.1=1)))&&(decide ((r16.1.length:Int)=1)))&&r38)&&(decide (r23.2=270)))&&(decide (r28.2=271)))&&(decide (r31.1=4)))&&r41)&&(!r44)) then Qp [(H4.mk 1 ByteArray.empty 20 false 0 0 2 0 false),(H4.mk 2 ByteArray.empty 20 false 0 0 2 0 false),(H4.mk 3 ByteArray.empty 20 false 0 0 2 0 false),(H4.mk 4 ByteArray.empty 20 false 0 1 3 0 false)] else some default) fun r45=>
 some (((((((((((((decide (v36=0))&&(decide (r7.1=1)))&&(decide (r10.1=0)))&&(decide (r13.1=1)))&&(decide (r16.2.1=1)))&&(decide ((r16.1.length:Int)=1)))&&r38)&&(decide (r23.2=270)))&&(decide (r28.2=271)))&&(decide (r31.1=4)))&&r41)&&(!r44))&&(decide ((r45.length:Int)=2)))
theorem G82 (F:Nat)  (r:Bool) (h:Zk F =some r):Pure Tryz.prog 35 [] (·=BL r):=by
 unfold Zk at h
 refine H1 [.tmp 0] Tryz.func35 G G (G5 fun K1 hK1=>G3 (JLh (BL false) (G8 G G) G (G9 (hK1 _ _ ?_))))
 refine G5 fun K2 hK2=>G3 (JLh (.agg [G1 1,ST ByteArray.empty,U8 40,BL false,G1 0,G1 0,G1 2,U8 0,BL false]) (Q0 (cs:=[G1 1,ST ByteArray.empty,U8 40,BL false,G1 0,G1 0,G1 2,U8 0,BL false]) [(0,1),(1,1),(2,1),(3,1),(4,1),(5,1),(6,1),(7,1),(8,1)] [G1 0,ST ByteArray.empty,U8 0,BL false,G1 0,G1 0,G1 0,U8 0,BL false] [.int .i64 0,.string ByteArray.empty,.int .u8 0,.bool false,.int .i64 0,.int .i64 0,.int .i64 0,.int .u8 0,.bool false] G36 G46 ⟨.inl G,.inl G,.inl G,.inl G,.inl G,.inl G,.inl G,.inl G,.inl G,ø⟩ G G) G (JLh (.agg [G1 2,ST ByteArray.empty,U8 40,BL false,G1 0,G1 1,G1 3,U8 0,BL false]) (Q0 (cs:=[G1 2,ST ByteArray.empty,U8 40,BL false,G1 0,G1 1,G1 3,U8 0,BL false]) [(0,1),(1,1),(2,1),(3,1),(4,1),(5,1),(6,1),(7,1),(8,1)] [G1 0,ST ByteArray.empty,U8 0,BL false,G1 0,G1 0,G1 0,U8 0,BL false] [.int .i64 0,.string ByteArray.empty,.int .u8 0,.bool false,.int .i64 0,.int .i64 0,.int .i64 0,.int .u8 0,.bool false] G36 G46 ⟨.inl G,.inl G,.inl G,.inl G,.inl G,.inl G,.inl G,.inl G,.inl G,ø⟩ G G) G (JLh (E2 [(H4.mk 1 ByteArray.empty 40 false 0 0 2 0 false),(H4.mk 2 ByteArray.empty 40 false 0 1 3 0 false)]) (Hs (xs:=[.agg [G1 1,ST ByteArray.empty,U8 40,BL false,G1 0,G1 0,G1 2,U8 0,BL false],.agg [G1 2,ST ByteArray.empty,U8 40,BL false,G1 0,G1 1,G1 3,U8 0,BL false]]) G ⟨G,G,G,G,ø⟩ Ht G49 G G G G) G (JLh (E2 [(H4.mk 1 ByteArray.empty 40 false 0 0 2 0 false),(H4.mk 2 ByteArray.empty 40 false 0 1 3 0 false)]) (G8 G G) G (G9 (hK2 _ _ ?_))))))
 refine G5 fun K3 hK3=>G3 (JLh (.agg [G1 0,G1 2]) (Q0 (cs:=[G1 0,G1 2]) [(0,1),(1,1)] [G1 0,G1 0] [.int .i64 0,.int .i64 0] G4b G5e ⟨.inl G,.inl G,ø⟩ G G) G (JLh (.agg [G1 1,G1 3]) (Q0 (cs:=[G1 1,G1 3]) [(0,1),(1,1)] [G1 0,G1 0] [.int .i64 0,.int .i64 0] G4b G5e ⟨.inl G,.inl G,ø⟩ G G) G (JLh (E1 [(G6.mk 0 2),(G6.mk 1 3)]) (Hs (xs:=[.agg [G1 0,G1 2],.agg [G1 1,G1 3]]) G ⟨G,G,G,G,ø⟩ Ha Zx G G G G) G (JLh (E1 [(G6.mk 0 2),(G6.mk 1 3)]) (G8 G G) G (G9 (hK3 _ _ ?_))))))
 refine G5 fun K4 hK4=>G3 (JLh (.agg [G1 1,ST ByteArray.empty,U8 20,BL false,G1 0,G1 0,G1 2,U8 0,BL false]) (Q0 (cs:=[G1 1,ST ByteArray.empty,U8 20,BL false,G1 0,G1 0,G1 2,U8 0,BL false]) [(0,1),(1,1),(2,1),(3,1),(4,1),(5,1),(6,1),(7,1),(8,1)] [G1 0,ST ByteArray.empty,U8 0,BL false,G1 0,G1 0,G1 0,U8 0,BL false] [.int .i64 0,.string ByteArray.empty,.int .u8 0,.bool false,.int .i64 0,.int .i64 0,.int .i64 0,.int .u8 0,.bool false] G36 G46 ⟨.inl G,.inl G,.inl G,.inl G,.inl G,.inl G,.inl G,.inl G,.inl G,ø⟩ G G) G (JLh (.agg [G1 2,ST ByteArray.empty,U8 20,BL false,G1 0,G1 0,G1 2,U8 0,BL false]) (Q0 (cs:=[G1 2,ST ByteArray.empty,U8 20,BL false,G1 0,G1 0,G1 2,U8 0,BL false]) [(0,1),(1,1),(2,1),(3,1),(4,1),(5,1),(6,1),(7,1),(8,1)] [G1 0,ST ByteArray.empty,U8 0,BL false,G1 0,G1 0,G1 0,U8 0,BL false] [.int .i64 0,.string ByteArray.empty,.int .u8 0,.bool false,.int .i64 0,.int .i64 0,.int .i64 0,.int .u8 0,.bool false] G36 G46 ⟨.inl G,.inl G,.inl G,.inl G,.inl G,.inl G,.inl G,.inl G,.inl G,ø⟩ G G) G (JLh (.agg [G1 3,ST ByteArray.empty,U8 20,BL false,G1 0,G1 0,G1 2,U8 0,BL false]) (Q0 (cs:=[G1 3,ST ByteArray.empty,U8 20,BL false,G1 0,G1 0,G1 2,U8 0,BL false]) [(0,1),(1,1),(2,1),(3,1),(4,1),(5,1),(6,1),(7,1),(8,1)] [G1 0,ST ByteArray.empty,U8 0,BL false,G1 0,G1 0,G1 0,U8 0,BL false] [.int .i64 0,.string ByteArray.empty,.int .u8 0,.bool false,.int .i64 0,.int .i64 0,.int .i64 0,.int .u8 0,.bool false] G36 G46 ⟨.inl G,.inl G,.inl G,.inl G,.inl G,.inl G,.inl G,.inl G,.inl G,ø⟩ G G) G (JLh (.agg [G1 4,ST ByteArray.empty,U8 20,BL false,G1 0,G1 1,G1 3,U8 0,BL false]) (Q0 (cs:=[G1 4,ST ByteArray.empty,U8 20,BL false,G1 0,G1 1,G1 3,U8 0,BL false]) [(0,1),(1,1),(2,1),(3,1),(4,1),(5,1),(6,1),(7,1),(8,1)] [G1 0,ST ByteArray.empty,U8 0,BL false,G1 0,G1 0,G1 0,U8 0,BL false] [.int .i64 0,.string ByteArray.empty,.int .u8 0,.bool false,.int .i64 0,.int .i64 0,.int .i64 0,.int .u8 0,.bool false] G36 G46 ⟨.inl G,.inl G,.inl G,.inl G,.inl G,.inl G,.inl G,.inl G,.inl G,ø⟩ G G) G (JLh (E2 [(H4.mk 1 ByteArray.empty 20 false 0 0 2 0 false),(H4.mk 2 ByteArray.empty 20 false 0 0 2 0 false),(H4.mk 3 ByteArray.empty 20 false 0 0 2 0 false),(H4.mk 4 ByteArray.empty 20 false 0 1 3 0 false)]) (Hs (xs:=[.agg [G1 1,ST ByteArray.empty,U8 20,BL false,G1 0,G1 0,G1 2,U8 0,BL false],.agg [G1 2,ST ByteArray.empty,U8 20,BL false,G1 0,G1 0,G1 2,U8 0,BL false],.agg [G1 3,ST ByteArray.empty,U8 20,BL false,G1 0,G1 0,G1 2,U8 0,BL false],.agg [G1 4,ST ByteArray.empty,U8 20,BL false,G1 0,G1 1,G1 3,U8 0,BL false]]) G ⟨G,G,G,G,G,G,G,G,ø⟩ Ht G49 G G G G) G (JLh (E2 [(H4.mk 1 ByteArray.empty 20 false 0 0 2 0 false),(H4.mk 2 ByteArray.empty 20 false 0 0 2 0 false),(H4.mk 3 ByteArray.empty 20 false 0 0 2 0 false),(H4.mk 4 ByteArray.empty 20 false 0 1 3 0 false)]) (G8 G G) G (G9 (hK4 _ _ ?_))))))))
 refine G5 fun K5 hK5=>G3 ?_
 obtain⟨r6,hr6,h⟩:=Gf h
 refine JLh (.agg (J0.cs r6)) (Gs (args:=[G1 1]) G (Qt 1 r6 hr6) G95 ⟨G,G,ø⟩) G (JLh (E2 [(H4.mk 1 ByteArray.empty 40 false 0 0 2 0 false),(H4.mk 2 ByteArray.empty 40 false 0 1 3 0 false)]) (G4 G G) G (JLh (E1 [(G6.mk 0 2),(G6.mk 1 3)]) (G4 G G) G ?_))
 obtain⟨r7,hr7,h⟩:=Gf h
 refine JLh (.tup [G1 r7.1,G1 r7.2]) (Gs (args:=[.agg (J0.cs r6),E2 [(H4.mk 1 ByteArray.empty 40 false 0 0 2 0 false),(H4.mk 2 ByteArray.empty 40 false 0 1 3 0 false)],E1 [(G6.mk 0 2),(G6.mk 1 3)]]) G (G45 F r6 [(H4.mk 1 ByteArray.empty 40 false 0 0 2 0 false),(H4.mk 2 ByteArray.empty 40 false 0 1 3 0 false)] [(G6.mk 0 2),(G6.mk 1 3)] r7 hr7) Gfd ⟨G,G,G,G,G,G,ø⟩) G (JLh (.tup [G1 r7.1,G1 r7.2]) (G4 G G) G (JLh (G1 r7.1) (Hm G G G) G (JLh (G1 r7.2) (Hm G G G) G (JLh (G1 r7.1) (G8 G G) G (JLh (G1 r7.2) (G8 G G) G (G9 (hK5 _ _ (G5 fun K8 hK8=>G3 ?_))))))))
 obtain⟨r9,hr9,h⟩:=Gf h
 refine JLh (.agg (J0.cs r9)) (Gs (args:=[G1 2]) G (Qt 2 r9 hr9) G95 ⟨G,G,ø⟩) G (JLh (E2 [(H4.mk 1 ByteArray.empty 40 false 0 0 2 0 false),(H4.mk 2 ByteArray.empty 40 false 0 1 3 0 false)]) (G4 G G) G (JLh (E1 [(G6.mk 0 2),(G6.mk 1 3)]) (G4 G G) G ?_))
 obtain⟨r10,hr10,h⟩:=Gf h
 refine JLh (.tup [G1 r10.1,G1 r10.2]) (Gs (args:=[.agg (J0.cs r9),E2 [(H4.mk 1 ByteArray.empty 40 false 0 0 2 0 false),(H4.mk 2 ByteArray.empty 40 false 0 1 3 0 false)],E1 [(G6.mk 0 2),(G6.mk 1 3)]]) G (G45 F r9 [(H4.mk 1 ByteArray.empty 40 false 0 0 2 0 false),(H4.mk 2 ByteArray.empty 40 false 0 1 3 0 false)] [(G6.mk 0 2),(G6.mk 1 3)] r10 hr10) Gfd ⟨G,G,G,G,G,G,ø⟩) G (JLh (.tup [G1 r10.1,G1 r10.2]) (G4 G G) G (JLh (G1 r10.1) (Hm G G G) G (JLh (G1 r10.2) (Hm G G G) G (JLh (G1 r10.1) (G8 G G) G (JLh (G1 r10.2) (G8 G G) G (G9 (hK8 _ _ (G5 fun K11 hK11=>G3 ?_))))))))
 obtain⟨r12,hr12,h⟩:=Gf h
 refine JLh (.agg (J0.cs r12)) (Gs (args:=[G1 1]) G (Qt 1 r12 hr12) G95 ⟨G,G,ø⟩) G (JLh (E2 [(H4.mk 1 ByteArray.empty 20 false 0 0 2 0 false),(H4.mk 2 ByteArray.empty 20 false 0 0 2 0 false),(H4.mk 3 ByteArray.empty 20 false 0 0 2 0 false),(H4.mk 4 ByteArray.empty 20 false 0 1 3 0 false)]) (G4 G G) G (JLh (E1 [(G6.mk 0 2),(G6.mk 1 3)]) (G4 G G) G ?_))
 obtain⟨r13,hr13,h⟩:=Gf h
 refine JLh (.tup [G1 r13.1,G1 r13.2]) (Gs (args:=[.agg (J0.cs r12),E2 [(H4.mk 1 ByteArray.empty 20 false 0 0 2 0 false),(H4.mk 2 ByteArray.empty 20 false 0 0 2 0 false),(H4.mk 3 ByteArray.empty 20 false 0 0 2 0 false),(H4.mk 4 ByteArray.empty 20 false 0 1 3 0 false)],E1 [(G6.mk 0 2),(G6.mk 1 3)]]) G (G45 F r12 [(H4.mk 1 ByteArray.empty 20 false 0 0 2 0 false),(H4.mk 2 ByteArray.empty 20 false 0 0 2 0 false),(H4.mk 3 ByteArray.empty 20 false 0 0 2 0 false),(H4.mk 4 ByteArray.empty 20 false 0 1 3 0 false)] [(G6.mk 0 2),(G6.mk 1 3)] r13 hr13) Gfd ⟨G,G,G,G,G,G,ø⟩) G (JLh (.tup [G1 r13.1,G1 r13.2]) (G4 G G) G (JLh (G1 r13.1) (Hm G G G) G (JLh (G1 r13.2) (Hm G G G) G (JLh (G1 r13.1) (G8 G G) G (JLh (G1 r13.2) (G8 G G) G (G9 (hK11 _ _ ?_)))))))
 refine G5 fun K14 hK14=>G3 ?_
 obtain⟨r15,hr15,h⟩:=Gf h
 refine JLh (.agg (J0.cs r15)) (Gs (args:=[G1 1]) G (Qt 1 r15 hr15) G95 ⟨G,G,ø⟩) G (JLh (E2 [(H4.mk 1 ByteArray.empty 40 false 0 0 2 0 false),(H4.mk 2 ByteArray.empty 40 false 0 1 3 0 false)]) (G4 G G) G ?_)
 obtain⟨r16,hr16,h⟩:=Gf h
 refine JLh (.tup [LS 1 (E1) r16.1,G1 r16.2.1,G1 r16.2.2]) (Gs (args:=[.agg (J0.cs r15),E2 [(H4.mk 1 ByteArray.empty 40 false 0 0 2 0 false),(H4.mk 2 ByteArray.empty 40 false 0 1 3 0 false)]]) G (Ja1 F r15 [(H4.mk 1 ByteArray.empty 40 false 0 0 2 0 false),(H4.mk 2 ByteArray.empty 40 false 0 1 3 0 false)] r16 hr16) Q03 ⟨G,G,G,G,ø⟩) G (JLh (.tup [LS 1 (E1) r16.1,G1 r16.2.1,G1 r16.2.2]) (G4 G G) G (JLh (LS 1 (E1) r16.1) (Hm G G G) G (JLh (G1 r16.2.1) (Hm G G G) G (JLh (G1 r16.2.2) (Hm G G G) G (JLh (LS 1 (E1) r16.1) (G8 G G) G (JLh (G1 r16.2.1) (G8 G G) G (JLh (G1 r16.2.2) (G8 G G) G (G9 (hK14 _ _ (G5 (fun K17 hK17=>?_)))))))))))
 obtain⟨r18,hr18,h⟩:=Gf h
 obtain⟨m20,y19,hm20,hy19,h⟩:=Q6 h
 obtain⟨m22,y21,hm22,hy21,h⟩:=Q6 h
 obtain⟨r23,hr23,h⟩:=Gf h
 refine Jc [] [0,0,0,0,0,0,0,0,0,0,0,0,0,0,0] [0,0,0,0,0,0,0,0,0,0,0,0,0,0,0] [[]] J3 (by kernel_rfl) rfl rfl ?_
 refine Gb (u:=.agg (J0.cs r18)) G G ⟨Gh (Gs (args:=[G1 1]) G (Qt 1 r18 hr18) G95 ⟨G,G,ø⟩) G,ø⟩ (Gb (u:=E2 [(H4.mk 1 ByteArray.empty 40 false 0 0 2 0 false),(H4.mk 2 ByteArray.empty 40 false 0 1 3 0 false)]) G G ⟨Gh (G4 G G) G,ø⟩ (Gb (u:=E1 [(G6.mk 0 2),(G6.mk 1 3)]) G G ⟨Gh (G4 G G) G,ø⟩ (Gb (u:=.dptr [G1 y19.Load,G1 y19.Discharge]) G G ⟨Gh (Gv (f:=G6.av) (xs:=[(G6.mk 0 2),(G6.mk 1 3)]) (y:=y19) G G G Ha hy19 hm20) G,ø⟩ (Gb (u:=.agg [G1 y19.Load,G1 y19.Discharge]) G G ⟨Gh (Gi Ho G G G) G,ø⟩ (Gb (u:=E1 [(G6.mk 0 2),(G6.mk 1 3)]) G G ⟨Gh (G4 G G) G,ø⟩ (Gb (u:=.dptr [G1 y21.Load,G1 y21.Discharge]) G G ⟨Gh (Gv (f:=G6.av) (xs:=[(G6.mk 0 2),(G6.mk 1 3)]) (y:=y21) G G G Ha hy21 hm22) G,ø⟩ (Gb (u:=.agg [G1 y21.Load,G1 y21.Discharge]) G G ⟨Gh (Gi Ho G G G) G,ø⟩ (Gb (u:=E1 [y19,y21]) G G ⟨Gh (Hs (xs:=[.agg [G1 y19.Load,G1 y19.Discharge],.agg [G1 y21.Load,G1 y21.Discharge]]) G ⟨G,G,G,G,ø⟩ Ha Zx G G G G) G,ø⟩ (Gb (u:=.tup [G1 r23.1,G1 r23.2]) G G ⟨Gh (Gs (args:=[.agg (J0.cs r18),E2 [(H4.mk 1 ByteArray.empty 40 false 0 0 2 0 false),(H4.mk 2 ByteArray.empty 40 false 0 1 3 0 false)],E1 [y19,y21]]) G (G45 F r18 [(H4.mk 1 ByteArray.empty 40 false 0 0 2 0 false),(H4.mk 2 ByteArray.empty 40 false 0 1 3 0 false)] [y19,y21] r23 hr23) Gfd ⟨G,G,G,G,G,G,ø⟩) G,ø⟩ (Gb (u:=.tup [G1 r23.1,G1 r23.2]) G G ⟨Gh (G4 G G) G,ø⟩ (Gb (u:=G1 r23.1) G G ⟨Gh (Hm G G G) G,ø⟩ (Gb (u:=G1 r23.2) G G ⟨Gh (Hm G G G) G,ø⟩ (Gb (u:=G1 r23.1) G G ⟨Gh (G8 G G) G,ø⟩ ?_)))))))))))))
 refine Gb (u:=G1 r23.2) G G ⟨Gh (G8 G G) G,ø⟩ (Rb (hK17 _ _ (G5 (fun K24 hK24=>?_))))
 obtain⟨r25,hr25,h⟩:=Gf h
 obtain⟨m27,y26,hm27,hy26,h⟩:=Q6 h
 obtain⟨r28,hr28,h⟩:=Gf h
 refine Jc [] [0,0,0,0,0,0,0,0,0,0,0,0,0,0] [0,0,0,0,0,0,0,0,0,0,0,0,0,0] [[]] J3 (by kernel_rfl) rfl rfl ?_
 refine Gb (u:=.agg (J0.cs r25)) G G ⟨Gh (Gs (args:=[G1 1]) G (Qt 1 r25 hr25) G95 ⟨G,G,ø⟩) G,ø⟩ (Gb (u:=E2 [(H4.mk 1 ByteArray.empty 40 false 0 0 2 0 false),(H4.mk 2 ByteArray.empty 40 false 0 1 3 0 false)]) G G ⟨Gh (G4 G G) G,ø⟩ (Gb (u:=E1 [(G6.mk 0 2),(G6.mk 1 3)]) G G ⟨Gh (G4 G G) G,ø⟩ (Gb (u:=E1 [(G6.mk 0 2),(G6.mk 1 3)]) G G ⟨Gh (G4 G G) G,ø⟩ (Gb (u:=.dptr [G1 y26.Load,G1 y26.Discharge]) G G ⟨Gh (Gv (f:=G6.av) (xs:=[(G6.mk 0 2),(G6.mk 1 3)]) (y:=y26) G G G Ha hy26 hm27) G,ø⟩ (Gb (u:=.agg [G1 y26.Load,G1 y26.Discharge]) G G ⟨Gh (Gi Ho G G G) G,ø⟩ (Gb (u:=E1 [y26]) G G ⟨Gh (Hs (xs:=[.agg [G1 y26.Load,G1 y26.Discharge]]) G ⟨G,G,ø⟩ Ha Zx G G G G) G,ø⟩ (Gb (u:=LS 1 (E1) ([[(G6.mk 0 2),(G6.mk 1 3)],[y26]])) G G ⟨Gh (Hs (xs:=[E1 [(G6.mk 0 2),(G6.mk 1 3)],E1 [y26]]) G ⟨G,G,G,G,ø⟩ J1 H2e G G G G) G,ø⟩ (Gb (u:=.tup [G1 r28.1,G1 r28.2]) G G ⟨Gh (Gs (args:=[.agg (J0.cs r25),E2 [(H4.mk 1 ByteArray.empty 40 false 0 0 2 0 false),(H4.mk 2 ByteArray.empty 40 false 0 1 3 0 false)],LS 1 (E1) ([[(G6.mk 0 2),(G6.mk 1 3)],[y26]])]) G (H7f.down F r25 [(H4.mk 1 ByteArray.empty 40 false 0 0 2 0 false),(H4.mk 2 ByteArray.empty 40 false 0 1 3 0 false)] ([[(G6.mk 0 2),(G6.mk 1 3)],[y26]]) r28 hr28) J76 ⟨G,G,G,G,G,G,ø⟩) G,ø⟩ (Gb (u:=.tup [G1 r28.1,G1 r28.2]) G G ⟨Gh (G4 G G) G,ø⟩ (Gb (u:=G1 r28.1) G G ⟨Gh (Hm G G G) G,ø⟩ (Gb (u:=G1 r28.2) G G ⟨Gh (Hm G G G) G,ø⟩ (Gb (u:=G1 r28.1) G G ⟨Gh (G8 G G) G,ø⟩ (Gb (u:=G1 r28.2) G G ⟨Gh (G8 G G) G,ø⟩ (Rb ?_))))))))))))))
 refine hK24 _ _ (G5 fun K29 hK29=>G3 ?_)
 obtain⟨r30,hr30,h⟩:=Gf h
 refine JLh (.agg (J0.cs r30)) (Gs (args:=[G1 1]) G (Qt 1 r30 hr30) G95 ⟨G,G,ø⟩) G ?_
 obtain⟨r31,hr31,h⟩:=Gf h
 refine JLh (.tup [G1 r31.1,G1 r31.2]) (Gs (args:=[.agg (J0.cs r30),G1 3,G1 1]) G (Hab r30 3 1 r31 hr31) J77 ⟨G,G,G,G,G,G,ø⟩) G (JLh (.tup [G1 r31.1,G1 r31.2]) (G4 G G) G (JLh (G1 r31.1) (Hm G G G) G (JLh (G1 r31.2) (Hm G G G) G (JLh (G1 r31.1) (G8 G G) G (JLh (G1 r31.2) (G8 G G) G (G9 (hK29 _ _ (G5 (fun K32 hK32=>?_)))))))))
 obtain⟨v33,hv33,h⟩:=Hf h
 obtain⟨v34,hv34,h⟩:=Hf h
 obtain⟨v35,hv35,h⟩:=Hf h
 obtain⟨v36,hv36,h⟩:=Hf h
 obtain⟨y37,hy37,h⟩:=Gf h
 obtain⟨r38,hr38,h⟩:=Gf h
 obtain⟨y39,hy39,h⟩:=Gf h
 obtain⟨y40,hy40,h⟩:=Gf h
 obtain⟨r41,hr41,h⟩:=Gf h
 obtain⟨y42,hy42,h⟩:=Gf h
 obtain⟨y43,hy43,h⟩:=Gf h
 obtain⟨r44,hr44,h⟩:=Gf h
 obtain⟨r45,hr45,h⟩:=Gf h
 refine Jc [] [0,0,0,0,0,0,0,0,0,0,0,0,0,0,0,0,0,0,0,0,0,0,0,0,0,0,0,0,0,0,0,0,0,0,0,0,0,0,0,0,0,0,0,0,0,0,0,0,0,0,0,0,0,0,0,0,0,0,0,0,0,0,0,0,0,0,0,0,0,0,0,0,0,0,0,0] [0,0,0,0,0,0,0,0,0,0,0,0,0,0,0,0,0,0,0,0,0,0,0,0,0,0,0,0,0,0,0,0,0,0,0,0,0,0,0,0,0,0,0,0,0,0,0,0,0,0,0,0,0,0,0,0,0,0,0,0,0,0,0,0,0,0,0,0,0,0,0,0,0,0,0,0] [[]] J3 (by kernel_rfl) rfl rfl ?_
 refine Gb (u:=G1 r7.2) G G ⟨Gh (G4 G G) G,ø⟩ (Gb (u:=G1 r10.2) G G ⟨Gh (G4 G G) G,ø⟩ (Gb (u:=G1 v33) G G ⟨Gh (Hj hv33 G G G) G,ø⟩ (Gb (u:=G1 r13.2) G G ⟨Gh (G4 G G) G,ø⟩ (Gb (u:=G1 v34) G G ⟨Gh (Hj hv34 G G G) G,ø⟩ (Gb (u:=G1 r16.2.2) G G ⟨Gh (G4 G G) G,ø⟩ (Gb (u:=G1 v35) G G ⟨Gh (Hj hv35 G G G) G,ø⟩ (Gb (u:=G1 r31.2) G G ⟨Gh (G4 G G) G,ø⟩ (Gb (u:=G1 v36) G G ⟨Gh (Hj hv36 G G G) G,ø⟩ (Gb (u:=BL (decide (v36=0))) G G ⟨Gh (Rt G G G) G,ø⟩ (Gb (u:=BL (decide (v36=0))) G G ⟨Gh (G4 G G) G,ø⟩ (Gb (u:=.opt (decide (v36=0)) (G1 r7.1)) G G ⟨Gg [] G G G .sct ø (fun hc=>G4 G G) G,ø⟩ (Gb (u:=.opt (decide (v36=0)) (BL (decide (r7.1=1)))) G G ⟨Gg [(99,G1 r7.1)] G G G .sct ⟨.all id,ø⟩ (fun hc=>Rt G G G) G,ø⟩ (Gb (u:=BL ((decide (v36=0))&&(decide (r7.1=1)))) G G ⟨Gh (J7 G G G G) G,ø⟩ ?_)))))))))))))
 refine Gb (u:=BL ((decide (v36=0))&&(decide (r7.1=1)))) G G ⟨Gh (G4 G G) G,ø⟩ (Gb (u:=.opt ((decide (v36=0))&&(decide (r7.1=1))) (G1 r10.1)) G G ⟨Gg [] G G G .sct ø (fun hc=>G4 G G) G,ø⟩ (Gb (u:=.opt ((decide (v36=0))&&(decide (r7.1=1))) (BL (decide (r10.1=0)))) G G ⟨Gg [(103,G1 r10.1)] G G G .sct ⟨.all id,ø⟩ (fun hc=>Rt G G G) G,ø⟩ (Gb (u:=BL (((decide (v36=0))&&(decide (r7.1=1)))&&(decide (r10.1=0)))) G G ⟨Gh (J7 G G G G) G,ø⟩ (Gb (u:=BL (((decide (v36=0))&&(decide (r7.1=1)))&&(decide (r10.1=0)))) G G ⟨Gh (G4 G G) G,ø⟩ (Gb (u:=.opt (((decide (v36=0))&&(decide (r7.1=1)))&&(decide (r10.1=0))) (G1 r13.1)) G G ⟨Gg [] G G G .sct ø (fun hc=>G4 G G) G,ø⟩ (Gb (u:=.opt (((decide (v36=0))&&(decide (r7.1=1)))&&(decide (r10.1=0))) (BL (decide (r13.1=1)))) G G ⟨Gg [(107,G1 r13.1)] G G G .sct ⟨.all id,ø⟩ (fun hc=>Rt G G G) G,ø⟩ (Gb (u:=BL ((((decide (v36=0))&&(decide (r7.1=1)))&&(decide (r10.1=0)))&&(decide (r13.1=1)))) G G ⟨Gh (J7 G G G G) G,ø⟩ (Gb (u:=BL ((((decide (v36=0))&&(decide (r7.1=1)))&&(decide (r10.1=0)))&&(decide (r13.1=1)))) G G ⟨Gh (G4 G G) G,ø⟩ (Gb (u:=.opt ((((decide (v36=0))&&(decide (r7.1=1)))&&(decide (r10.1=0)))&&(decide (r13.1=1))) (G1 r16.2.1)) G G ⟨Gg [] G G G .sct ø (fun hc=>G4 G G) G,ø⟩ (Gb (u:=.opt ((((decide (v36=0))&&(decide (r7.1=1)))&&(decide (r10.1=0)))&&(decide (r13.1=1))) (BL (decide (r16.2.1=1)))) G G ⟨Gg [(111,G1 r16.2.1)] G G G .sct ⟨.all id,ø⟩ (fun hc=>Rt G G G) G,ø⟩ (Gb (u:=BL (((((decide (v36=0))&&(decide (r7.1=1)))&&(decide (r10.1=0)))&&(decide (r13.1=1)))&&(decide (r16.2.1=1)))) G G ⟨Gh (J7 G G G G) G,ø⟩ (Gb (u:=BL (((((decide (v36=0))&&(decide (r7.1=1)))&&(decide (r10.1=0)))&&(decide (r13.1=1)))&&(decide (r16.2.1=1)))) G G ⟨Gh (G4 G G) G,ø⟩ (Gb (u:=.opt (((((decide (v36=0))&&(decide (r7.1=1)))&&(decide (r10.1=0)))&&(decide (r13.1=1)))&&(decide (r16.2.1=1))) (LS 1 (E1) r16.1)) G G ⟨Gg [] G G G .sct ø (fun hc=>G4 G G) G,ø⟩ ?_)))))))))))))
 refine Gb (u:=.opt (((((decide (v36=0))&&(decide (r7.1=1)))&&(decide (r10.1=0)))&&(decide (r13.1=1)))&&(decide (r16.2.1=1))) (En r16.1.length)) G G ⟨Gg [(115,LS 1 (E1) r16.1)] G G G .sct ⟨.all id,ø⟩ (fun hc=>Jp (f:=(E1)) (xs:=r16.1) J1 G G) G,ø⟩ (Gb (u:=.opt (((((decide (v36=0))&&(decide (r7.1=1)))&&(decide (r10.1=0)))&&(decide (r13.1=1)))&&(decide (r16.2.1=1))) (BL (decide ((r16.1.length:Int)=1)))) G G ⟨Gg [(116,En r16.1.length)] G G G .sct ⟨.all id,ø⟩ (fun hc=>Rt G G G) G,ø⟩ (Gb (u:=BL ((((((decide (v36=0))&&(decide (r7.1=1)))&&(decide (r10.1=0)))&&(decide (r13.1=1)))&&(decide (r16.2.1=1)))&&(decide ((r16.1.length:Int)=1)))) G G ⟨Gh (J7 G G G G) G,ø⟩ (Gb (u:=BL ((((((decide (v36=0))&&(decide (r7.1=1)))&&(decide (r10.1=0)))&&(decide (r13.1=1)))&&(decide (r16.2.1=1)))&&(decide ((r16.1.length:Int)=1)))) G G ⟨Gh (G4 G G) G,ø⟩ (Gb (u:=.opt ((((((decide (v36=0))&&(decide (r7.1=1)))&&(decide (r10.1=0)))&&(decide (r13.1=1)))&&(decide (r16.2.1=1)))&&(decide ((r16.1.length:Int)=1))) (LS 1 (E1) r16.1)) G G ⟨Gg [] G G G .sct ø (fun hc=>G4 G G) G,ø⟩ (Gb (u:=.opt ((((((decide (v36=0))&&(decide (r7.1=1)))&&(decide (r10.1=0)))&&(decide (r13.1=1)))&&(decide (r16.2.1=1)))&&(decide ((r16.1.length:Int)=1))) (.dptr [E1 y37])) G G ⟨Gg [(120,LS 1 (E1) r16.1)] G G G .sct ⟨.all id,ø⟩ (fun hc=>(match Q2 (Gy hc hy37) with | ⟨_,hm_,hy_⟩=>Gv (f:=(E1)) (xs:=r16.1) (y:=y37) G G G J1 hy_ hm_)) G,ø⟩ (Gb (u:=.opt ((((((decide (v36=0))&&(decide (r7.1=1)))&&(decide (r10.1=0)))&&(decide (r13.1=1)))&&(decide (r16.2.1=1)))&&(decide ((r16.1.length:Int)=1))) (E1 y37)) G G ⟨Gg [(121,.dptr [E1 y37])] G G G .sct ⟨.all id,ø⟩ (fun hc=>Gk Rv G G G) G,ø⟩ (Gb (u:=.opt ((((((decide (v36=0))&&(decide (r7.1=1)))&&(decide (r10.1=0)))&&(decide (r13.1=1)))&&(decide (r16.2.1=1)))&&(decide ((r16.1.length:Int)=1))) (E1 [(G6.mk 0 2),(G6.mk 1 3)])) G G ⟨Gg [] G G G .sct ø (fun hc=>G4 G G) G,ø⟩ (Gb (u:=.opt ((((((decide (v36=0))&&(decide (r7.1=1)))&&(decide (r10.1=0)))&&(decide (r13.1=1)))&&(decide (r16.2.1=1)))&&(decide ((r16.1.length:Int)=1))) (BL r38)) G G ⟨Gg [(122,E1 y37),(123,E1 [(G6.mk 0 2),(G6.mk 1 3)])] G G G .sct ⟨.all id,.all id,ø⟩ (fun hc=>Gs (args:=[E1 y37,E1 [(G6.mk 0 2),(G6.mk 1 3)]]) G (G5c y37 [(G6.mk 0 2),(G6.mk 1 3)] r38 (Gy hc hr38)) J72 ⟨G,G,G,G,ø⟩) G,ø⟩ (Gb (u:=BL (((((((decide (v36=0))&&(decide (r7.1=1)))&&(decide (r10.1=0)))&&(decide (r13.1=1)))&&(decide (r16.2.1=1)))&&(decide ((r16.1.length:Int)=1)))&&r38)) G G ⟨Gh (J7 G G G G) G,ø⟩ (Gb (u:=BL (((((((decide (v36=0))&&(decide (r7.1=1)))&&(decide (r10.1=0)))&&(decide (r13.1=1)))&&(decide (r16.2.1=1)))&&(decide ((r16.1.length:Int)=1)))&&r38)) G G ⟨Gh (G4 G G) G,ø⟩ (Gb (u:=.opt (((((((decide (v36=0))&&(decide (r7.1=1)))&&(decide (r10.1=0)))&&(decide (r13.1=1)))&&(decide (r16.2.1=1)))&&(decide ((r16.1.length:Int)=1)))&&r38) (G1 r23.2)) G G ⟨Gg [] G G G .sct ø (fun hc=>G4 G G) G,ø⟩ (Gb (u:=.opt (((((((decide (v36=0))&&(decide (r7.1=1)))&&(decide (r10.1=0)))&&(decide (r13.1=1)))&&(decide (r16.2.1=1)))&&(decide ((r16.1.length:Int)=1)))&&r38) (BL (decide (r23.2=270)))) G G ⟨Gg [(127,G1 r23.2)] G G G .sct ⟨.all id,ø⟩ (fun hc=>Rt G G G) G,ø⟩ (Gb (u:=BL ((((((((decide (v36=0))&&(decide (r7.1=1)))&&(decide (r10.1=0)))&&(decide (r13.1=1)))&&(decide (r16.2.1=1)))&&(decide ((r16.1.length:Int)=1)))&&r38)&&(decide (r23.2=270)))) G G ⟨Gh (J7 G G G G) G,ø⟩ ?_)))))))))))))
 refine Gb (u:=BL ((((((((decide (v36=0))&&(decide (r7.1=1)))&&(decide (r10.1=0)))&&(decide (r13.1=1)))&&(decide (r16.2.1=1)))&&(decide ((r16.1.length:Int)=1)))&&r38)&&(decide (r23.2=270)))) G G ⟨Gh (G4 G G) G,ø⟩ (Gb (u:=.opt ((((((((decide (v36=0))&&(decide (r7.1=1)))&&(decide (r10.1=0)))&&(decide (r13.1=1)))&&(decide (r16.2.1=1)))&&(decide ((r16.1.length:Int)=1)))&&r38)&&(decide (r23.2=270))) (G1 r28.2)) G G ⟨Gg [] G G G .sct ø (fun hc=>G4 G G) G,ø⟩ (Gb (u:=.opt ((((((((decide (v36=0))&&(decide (r7.1=1)))&&(decide (r10.1=0)))&&(decide (r13.1=1)))&&(decide (r16.2.1=1)))&&(decide ((r16.1.length:Int)=1)))&&r38)&&(decide (r23.2=270))) (BL (decide (r28.2=271)))) G G ⟨Gg [(131,G1 r28.2)] G G G .sct ⟨.all id,ø⟩ (fun hc=>Rt G G G) G,ø⟩ (Gb (u:=BL (((((((((decide (v36=0))&&(decide (r7.1=1)))&&(decide (r10.1=0)))&&(decide (r13.1=1)))&&(decide (r16.2.1=1)))&&(decide ((r16.1.length:Int)=1)))&&r38)&&(decide (r23.2=270)))&&(decide (r28.2=271)))) G G ⟨Gh (J7 G G G G) G,ø⟩ (Gb (u:=BL (((((((((decide (v36=0))&&(decide (r7.1=1)))&&(decide (r10.1=0)))&&(decide (r13.1=1)))&&(decide (r16.2.1=1)))&&(decide ((r16.1.length:Int)=1)))&&r38)&&(decide (r23.2=270)))&&(decide (r28.2=271)))) G G ⟨Gh (G4 G G) G,ø⟩ (Gb (u:=.opt (((((((((decide (v36=0))&&(decide (r7.1=1)))&&(decide (r10.1=0)))&&(decide (r13.1=1)))&&(decide (r16.2.1=1)))&&(decide ((r16.1.length:Int)=1)))&&r38)&&(decide (r23.2=270)))&&(decide (r28.2=271))) (G1 r31.1)) G G ⟨Gg [] G G G .sct ø (fun hc=>G4 G G) G,ø⟩ (Gb (u:=.opt (((((((((decide (v36=0))&&(decide (r7.1=1)))&&(decide (r10.1=0)))&&(decide (r13.1=1)))&&(decide (r16.2.1=1)))&&(decide ((r16.1.length:Int)=1)))&&r38)&&(decide (r23.2=270)))&&(decide (r28.2=271))) (BL (decide (r31.1=4)))) G G ⟨Gg [(135,G1 r31.1)] G G G .sct ⟨.all id,ø⟩ (fun hc=>Rt G G G) G,ø⟩ (Gb (u:=BL ((((((((((decide (v36=0))&&(decide (r7.1=1)))&&(decide (r10.1=0)))&&(decide (r13.1=1)))&&(decide (r16.2.1=1)))&&(decide ((r16.1.length:Int)=1)))&&r38)&&(decide (r23.2=270)))&&(decide (r28.2=271)))&&(decide (r31.1=4)))) G G ⟨Gh (J7 G G G G) G,ø⟩ (Gb (u:=BL ((((((((((decide (v36=0))&&(decide (r7.1=1)))&&(decide (r10.1=0)))&&(decide (r13.1=1)))&&(decide (r16.2.1=1)))&&(decide ((r16.1.length:Int)=1)))&&r38)&&(decide (r23.2=270)))&&(decide (r28.2=271)))&&(decide (r31.1=4)))) G G ⟨Gh (G4 G G) G,ø⟩ (Gb (u:=.opt ((((((((((decide (v36=0))&&(decide (r7.1=1)))&&(decide (r10.1=0)))&&(decide (r13.1=1)))&&(decide (r16.2.1=1)))&&(decide ((r16.1.length:Int)=1)))&&r38)&&(decide (r23.2=270)))&&(decide (r28.2=271)))&&(decide (r31.1=4))) (E1 [(G6.mk 0 2),(G6.mk 1 3)])) G G ⟨Gg [] G G G .sct ø (fun hc=>G4 G G) G,ø⟩ (Gb (u:=.opt ((((((((((decide (v36=0))&&(decide (r7.1=1)))&&(decide (r10.1=0)))&&(decide (r13.1=1)))&&(decide (r16.2.1=1)))&&(decide ((r16.1.length:Int)=1)))&&r38)&&(decide (r23.2=270)))&&(decide (r28.2=271)))&&(decide (r31.1=4))) (.dptr [G1 y39.Load,G1 y39.Discharge])) G G ⟨Gg [(139,E1 [(G6.mk 0 2),(G6.mk 1 3)])] G G G .sct ⟨.all id,ø⟩ (fun hc=>(match Q2 (Gy hc hy39) with | ⟨_,hm_,hy_⟩=>Gv (f:=G6.av) (xs:=[(G6.mk 0 2),(G6.mk 1 3)]) (y:=y39) G G G Ha hy_ hm_)) G,ø⟩ (Gb (u:=.opt ((((((((((decide (v36=0))&&(decide (r7.1=1)))&&(decide (r10.1=0)))&&(decide (r13.1=1)))&&(decide (r16.2.1=1)))&&(decide ((r16.1.length:Int)=1)))&&r38)&&(decide (r23.2=270)))&&(decide (r28.2=271)))&&(decide (r31.1=4))) (.agg [G1 y39.Load,G1 y39.Discharge])) G G ⟨Gg [(140,.dptr [G1 y39.Load,G1 y39.Discharge])] G G G .sct ⟨.all id,ø⟩ (fun hc=>Gi Ho G G G) G,ø⟩ (Gb (u:=.opt ((((((((((decide (v36=0))&&(decide (r7.1=1)))&&(decide (r10.1=0)))&&(decide (r13.1=1)))&&(decide (r16.2.1=1)))&&(decide ((r16.1.length:Int)=1)))&&r38)&&(decide (r23.2=270)))&&(decide (r28.2=271)))&&(decide (r31.1=4))) (E1 [(G6.mk 0 2),(G6.mk 1 3)])) G G ⟨Gg [] G G G .sct ø (fun hc=>G4 G G) G,ø⟩ (Gb (u:=.opt ((((((((((decide (v36=0))&&(decide (r7.1=1)))&&(decide (r10.1=0)))&&(decide (r13.1=1)))&&(decide (r16.2.1=1)))&&(decide ((r16.1.length:Int)=1)))&&r38)&&(decide (r23.2=270)))&&(decide (r28.2=271)))&&(decide (r31.1=4))) (.dptr [G1 y40.Load,G1 y40.Discharge])) G G ⟨Gg [(142,E1 [(G6.mk 0 2),(G6.mk 1 3)])] G G G .sct ⟨.all id,ø⟩ (fun hc=>(match Q2 (Gy hc hy40) with | ⟨_,hm_,hy_⟩=>Gv (f:=G6.av) (xs:=[(G6.mk 0 2),(G6.mk 1 3)]) (y:=y40) G G G Ha hy_ hm_)) G,ø⟩ ?_)))))))))))))
 refine Gb (u:=.opt ((((((((((decide (v36=0))&&(decide (r7.1=1)))&&(decide (r10.1=0)))&&(decide (r13.1=1)))&&(decide (r16.2.1=1)))&&(decide ((r16.1.length:Int)=1)))&&r38)&&(decide (r23.2=270)))&&(decide (r28.2=271)))&&(decide (r31.1=4))) (.agg [G1 y40.Load,G1 y40.Discharge])) G G ⟨Gg [(143,.dptr [G1 y40.Load,G1 y40.Discharge])] G G G .sct ⟨.all id,ø⟩ (fun hc=>Gi Ho G G G) G,ø⟩ (Gb (u:=.opt ((((((((((decide (v36=0))&&(decide (r7.1=1)))&&(decide (r10.1=0)))&&(decide (r13.1=1)))&&(decide (r16.2.1=1)))&&(decide ((r16.1.length:Int)=1)))&&r38)&&(decide (r23.2=270)))&&(decide (r28.2=271)))&&(decide (r31.1=4))) (BL r41)) G G ⟨Gg [(141,.agg [G1 y39.Load,G1 y39.Discharge]),(144,.agg [G1 y40.Load,G1 y40.Discharge])] G G G .sct ⟨.all id,.all id,ø⟩ (fun hc=>Gs (args:=[.agg [G1 y39.Load,G1 y39.Discharge],.agg [G1 y40.Load,G1 y40.Discharge]]) G (G90 y39 y40 r41 (Gy hc hr41)) H61 ⟨G,G,G,G,ø⟩) G,ø⟩ (Gb (u:=BL (((((((((((decide (v36=0))&&(decide (r7.1=1)))&&(decide (r10.1=0)))&&(decide (r13.1=1)))&&(decide (r16.2.1=1)))&&(decide ((r16.1.length:Int)=1)))&&r38)&&(decide (r23.2=270)))&&(decide (r28.2=271)))&&(decide (r31.1=4)))&&r41)) G G ⟨Gh (J7 G G G G) G,ø⟩ (Gb (u:=BL (((((((((((decide (v36=0))&&(decide (r7.1=1)))&&(decide (r10.1=0)))&&(decide (r13.1=1)))&&(decide (r16.2.1=1)))&&(decide ((r16.1.length:Int)=1)))&&r38)&&(decide (r23.2=270)))&&(decide (r28.2=271)))&&(decide (r31.1=4)))&&r41)) G G ⟨Gh (G4 G G) G,ø⟩ (Gb (u:=.opt (((((((((((decide (v36=0))&&(decide (r7.1=1)))&&(decide (r10.1=0)))&&(decide (r13.1=1)))&&(decide (r16.2.1=1)))&&(decide ((r16.1.length:Int)=1)))&&r38)&&(decide (r23.2=270)))&&(decide (r28.2=271)))&&(decide (r31.1=4)))&&r41) (E1 [(G6.mk 0 2),(G6.mk 1 3)])) G G ⟨Gg [] G G G .sct ø (fun hc=>G4 G G) G,ø⟩ (Gb (u:=.opt (((((((((((decide (v36=0))&&(decide (r7.1=1)))&&(decide (r10.1=0)))&&(decide (r13.1=1)))&&(decide (r16.2.1=1)))&&(decide ((r16.1.length:Int)=1)))&&r38)&&(decide (r23.2=270)))&&(decide (r28.2=271)))&&(decide (r31.1=4)))&&r41) (.dptr [G1 y42.Load,G1 y42.Discharge])) G G ⟨Gg [(148,E1 [(G6.mk 0 2),(G6.mk 1 3)])] G G G .sct ⟨.all id,ø⟩ (fun hc=>(match Q2 (Gy hc hy42) with | ⟨_,hm_,hy_⟩=>Gv (f:=G6.av) (xs:=[(G6.mk 0 2),(G6.mk 1 3)]) (y:=y42) G G G Ha hy_ hm_)) G,ø⟩ (Gb (u:=.opt (((((((((((decide (v36=0))&&(decide (r7.1=1)))&&(decide (r10.1=0)))&&(decide (r13.1=1)))&&(decide (r16.2.1=1)))&&(decide ((r16.1.length:Int)=1)))&&r38)&&(decide (r23.2=270)))&&(decide (r28.2=271)))&&(decide (r31.1=4)))&&r41) (.agg [G1 y42.Load,G1 y42.Discharge])) G G ⟨Gg [(149,.dptr [G1 y42.Load,G1 y42.Discharge])] G G G .sct ⟨.all id,ø⟩ (fun hc=>Gi Ho G G G) G,ø⟩ (Gb (u:=.opt (((((((((((decide (v36=0))&&(decide (r7.1=1)))&&(decide (r10.1=0)))&&(decide (r13.1=1)))&&(decide (r16.2.1=1)))&&(decide ((r16.1.length:Int)=1)))&&r38)&&(decide (r23.2=270)))&&(decide (r28.2=271)))&&(decide (r31.1=4)))&&r41) (E1 [(G6.mk 0 2),(G6.mk 1 3)])) G G ⟨Gg [] G G G .sct ø (fun hc=>G4 G G) G,ø⟩ (Gb (u:=.opt (((((((((((decide (v36=0))&&(decide (r7.1=1)))&&(decide (r10.1=0)))&&(decide (r13.1=1)))&&(decide (r16.2.1=1)))&&(decide ((r16.1.length:Int)=1)))&&r38)&&(decide (r23.2=270)))&&(decide (r28.2=271)))&&(decide (r31.1=4)))&&r41) (.dptr [G1 y43.Load,G1 y43.Discharge])) G G ⟨Gg [(151,E1 [(G6.mk 0 2),(G6.mk 1 3)])] G G G .sct ⟨.all id,ø⟩ (fun hc=>(match Q2 (Gy hc hy43) with | ⟨_,hm_,hy_⟩=>Gv (f:=G6.av) (xs:=[(G6.mk 0 2),(G6.mk 1 3)]) (y:=y43) G G G Ha hy_ hm_)) G,ø⟩ (Gb (u:=.opt (((((((((((decide (v36=0))&&(decide (r7.1=1)))&&(decide (r10.1=0)))&&(decide (r13.1=1)))&&(decide (r16.2.1=1)))&&(decide ((r16.1.length:Int)=1)))&&r38)&&(decide (r23.2=270)))&&(decide (r28.2=271)))&&(decide (r31.1=4)))&&r41) (.agg [G1 y43.Load,G1 y43.Discharge])) G G ⟨Gg [(152,.dptr [G1 y43.Load,G1 y43.Discharge])] G G G .sct ⟨.all id,ø⟩ (fun hc=>Gi Ho G G G) G,ø⟩ (Gb (u:=.opt (((((((((((decide (v36=0))&&(decide (r7.1=1)))&&(decide (r10.1=0)))&&(decide (r13.1=1)))&&(decide (r16.2.1=1)))&&(decide ((r16.1.length:Int)=1)))&&r38)&&(decide (r23.2=270)))&&(decide (r28.2=271)))&&(decide (r31.1=4)))&&r41) (BL r44)) G G ⟨Gg [(150,.agg [G1 y42.Load,G1 y42.Discharge]),(153,.agg [G1 y43.Load,G1 y43.Discharge])] G G G .sct ⟨.all id,.all id,ø⟩ (fun hc=>Gs (args:=[.agg [G1 y42.Load,G1 y42.Discharge],.agg [G1 y43.Load,G1 y43.Discharge]]) G (G90 y42 y43 r44 (Gy hc hr44)) H61 ⟨G,G,G,G,ø⟩) G,ø⟩ (Gb (u:=.opt (((((((((((decide (v36=0))&&(decide (r7.1=1)))&&(decide (r10.1=0)))&&(decide (r13.1=1)))&&(decide (r16.2.1=1)))&&(decide ((r16.1.length:Int)=1)))&&r38)&&(decide (r23.2=270)))&&(decide (r28.2=271)))&&(decide (r31.1=4)))&&r41) (BL (!r44))) G G ⟨Gg [(154,BL r44)] G G G .sct ⟨.all id,ø⟩ (fun hc=>Yu (b:=r44) G G) G,ø⟩ (Gb (u:=BL ((((((((((((decide (v36=0))&&(decide (r7.1=1)))&&(decide (r10.1=0)))&&(decide (r13.1=1)))&&(decide (r16.2.1=1)))&&(decide ((r16.1.length:Int)=1)))&&r38)&&(decide (r23.2=270)))&&(decide (r28.2=271)))&&(decide (r31.1=4)))&&r41)&&(!r44))) G G ⟨Gh (J7 G G G G) G,ø⟩ (Gb (u:=BL ((((((((((((decide (v36=0))&&(decide (r7.1=1)))&&(decide (r10.1=0)))&&(decide (r13.1=1)))&&(decide (r16.2.1=1)))&&(decide ((r16.1.length:Int)=1)))&&r38)&&(decide (r23.2=270)))&&(decide (r28.2=271)))&&(decide (r31.1=4)))&&r41)&&(!r44))) G G ⟨Gh (G4 G G) G,ø⟩ ?_)))))))))))))
 refine Gb (u:=.opt ((((((((((((decide (v36=0))&&(decide (r7.1=1)))&&(decide (r10.1=0)))&&(decide (r13.1=1)))&&(decide (r16.2.1=1)))&&(decide ((r16.1.length:Int)=1)))&&r38)&&(decide (r23.2=270)))&&(decide (r28.2=271)))&&(decide (r31.1=4)))&&r41)&&(!r44)) (E2 [(H4.mk 1 ByteArray.empty 20 false 0 0 2 0 false),(H4.mk 2 ByteArray.empty 20 false 0 0 2 0 false),(H4.mk 3 ByteArray.empty 20 false 0 0 2 0 false),(H4.mk 4 ByteArray.empty 20 false 0 1 3 0 false)])) G G ⟨Gg [] G G G .sct ø (fun hc=>G4 G G) G,ø⟩ (Gb (u:=.opt ((((((((((((decide (v36=0))&&(decide (r7.1=1)))&&(decide (r10.1=0)))&&(decide (r13.1=1)))&&(decide (r16.2.1=1)))&&(decide ((r16.1.length:Int)=1)))&&r38)&&(decide (r23.2=270)))&&(decide (r28.2=271)))&&(decide (r31.1=4)))&&r41)&&(!r44)) (E3 r45)) G G ⟨Gg [(158,E2 [(H4.mk 1 ByteArray.empty 20 false 0 0 2 0 false),(H4.mk 2 ByteArray.empty 20 false 0 0 2 0 false),(H4.mk 3 ByteArray.empty 20 false 0 0 2 0 false),(H4.mk 4 ByteArray.empty 20 false 0 1 3 0 false)])] G G G .sct ⟨.all id,ø⟩ (fun hc=>Gs (args:=[E2 [(H4.mk 1 ByteArray.empty 20 false 0 0 2 0 false),(H4.mk 2 ByteArray.empty 20 false 0 0 2 0 false),(H4.mk 3 ByteArray.empty 20 false 0 0 2 0 false),(H4.mk 4 ByteArray.empty 20 false 0 1 3 0 false)]]) G (G6e.down [(H4.mk 1 ByteArray.empty 20 false 0 0 2 0 false),(H4.mk 2 ByteArray.empty 20 false 0 0 2 0 false),(H4.mk 3 ByteArray.empty 20 false 0 0 2 0 false),(H4.mk 4 ByteArray.empty 20 false 0 1 3 0 false)] r45 (Gy hc hr45)) Gfe ⟨G,G,ø⟩) G,ø⟩ (Gb (u:=.opt ((((((((((((decide (v36=0))&&(decide (r7.1=1)))&&(decide (r10.1=0)))&&(decide (r13.1=1)))&&(decide (r16.2.1=1)))&&(decide ((r16.1.length:Int)=1)))&&r38)&&(decide (r23.2=270)))&&(decide (r28.2=271)))&&(decide (r31.1=4)))&&r41)&&(!r44)) (En r45.length)) G G ⟨Gg [(159,E3 r45)] G G G .sct ⟨.all id,ø⟩ (fun hc=>Jp (f:=G2.av) (xs:=r45) H8 G G) G,ø⟩ (Gb (u:=.opt ((((((((((((decide (v36=0))&&(decide (r7.1=1)))&&(decide (r10.1=0)))&&(decide (r13.1=1)))&&(decide (r16.2.1=1)))&&(decide ((r16.1.length:Int)=1)))&&r38)&&(decide (r23.2=270)))&&(decide (r28.2=271)))&&(decide (r31.1=4)))&&r41)&&(!r44)) (BL (decide ((r45.length:Int)=2)))) G G ⟨Gg [(160,En r45.length)] G G G .sct ⟨.all id,ø⟩ (fun hc=>Rt G G G) G,ø⟩ (Gb (u:=BL (((((((((((((decide (v36=0))&&(decide (r7.1=1)))&&(decide (r10.1=0)))&&(decide (r13.1=1)))&&(decide (r16.2.1=1)))&&(decide ((r16.1.length:Int)=1)))&&r38)&&(decide (r23.2=270)))&&(decide (r28.2=271)))&&(decide (r31.1=4)))&&r41)&&(!r44))&&(decide ((r45.length:Int)=2)))) G G ⟨Gh (J7 G G G G) G,ø⟩ (Gb (u:=BL (((((((((((((decide (v36=0))&&(decide (r7.1=1)))&&(decide (r10.1=0)))&&(decide (r13.1=1)))&&(decide (r16.2.1=1)))&&(decide ((r16.1.length:Int)=1)))&&r38)&&(decide (r23.2=270)))&&(decide (r28.2=271)))&&(decide (r31.1=4)))&&r41)&&(!r44))&&(decide ((r45.length:Int)=2)))) G G ⟨Gh (G8 G G) G,ø⟩ (Rb ?_))))))
 refine hK32 _ _ (Gx (⟨[BL (((((((((((((decide (v36=0))&&(decide (r7.1=1)))&&(decide (r10.1=0)))&&(decide (r13.1=1)))&&(decide (r16.2.1=1)))&&(decide ((r16.1.length:Int)=1)))&&r38)&&(decide (r23.2=270)))&&(decide (r28.2=271)))&&(decide (r31.1=4)))&&r41)&&(!r44))&&(decide ((r45.length:Int)=2)))],[],ø,G,⟨⟨_,G,.conv (.same G)⟩,ø⟩,G,congrArg (fun r:Bool=>(BL r:AV)) (Option.some.inj h)⟩))

def Jq (boxes:List H4) (g:G6) (size:Int):Option Int:=
 each (fun y22 i22 (s22:Int) nx22=>
  jp (fun kj25=>
   bif (((decide (y22.Load=g.Load))&&(decide (y22.Discharge=g.Discharge)))&&(decide (y22.Size=size))) then
   (Rm (s22+1) fun v27=>
    kj25 v27)
   else
   (kj25 s22)) fun(j25:Int)=>
  nx22 j25)
 (fun(s22:Int)=>
  some s22) boxes 0 0
theorem Q5 (boxes:List H4) (g:G6) (size:Int) (r:Int) (h:Jq boxes g size=some r):Pure Tryz.prog 105 [E2 boxes,.agg [G1 g.Load,G1 g.Discharge],U8 size] (·=G1 r):=by
 unfold Jq at h
 refine H1 [.tmp 6] Tryz.func105 G G (G5 fun K1 hK1=>G3 (JLh (.ptr 1075 0) (Qi (u:=.agg [G1 g.Load,G1 g.Discharge]) (cs:=[G1 g.Load,G1 g.Discharge]) 1075 G G G G G) G (JLh (G1 0) (G8 G G) G (G9 (hK1 _ _ (Gz [(0,E2 boxes),(2,U8 size),(4,.dptr [G1 g.Load,G1 g.Discharge])] [] 1075 rfl rfl rfl ø rfl (by exact⟨.conv (.same rfl),.conv (.same rfl),.ptr,ø⟩) (G5 fun K2 hK2=>G3 (JLh (G1 0) (G8 G G) G (G9 (hK2 _ _ (G5 (fun K3 hK3=>G5 fun K4 hK4=>G3 (JLh (G1 0) (G8 G G) G (G9 (hK4 _ _ (Gn ?_))))))))))))))))
 obtain⟨b22,kx22,hb22,hkx22,h⟩:=J9 h
 refine H7 (fun i22 (s22:Int)=>each b22 kx22 (List.drop i22 boxes) i22 s22=some r) (fun i22 s22=>[(0,E2 boxes),(2,U8 size),(4,.dptr [G1 g.Load,G1 g.Discharge]),(7,G1 s22),(8,En i22)]) (fun i22 s22=>[]) (fun i22=>boxes.length - i22) 0 0 h ⟨(by repeat' constructor),ø,rfl⟩ ?_
 clear h
 intro i22 s22 hi22 K22 e22
 refine G5 (fun K23 hK23=>G5 fun K24 hK24=>G3 (JLh (En i22) (G4 G G) G (JLh (E2 boxes) (G4 G G) G (H0 (f:=H4.av) (xs:=boxes) Ht G G (fun hm11=>?_) G G G))))
 refine JLh (BL (decide ((i22:Int) < (boxes.length:Int)))) (Hx G G G) G (G9 (hK24 _ _ (Gp G (fun hb=>?_) (fun hb=>?_))))
 ·
  have hk22:=Jm hb
  obtain⟨y22,nx22,hy22,hn22,h⟩:=Hy hi22 hk22
  replace h:=Zn hb22 h
  refine Gq (hK23 _ _ ?_)
  obtain⟨kj25,hkj25,h⟩:=G40 h
  refine G0b (fun j25:Int=>kj25 j25=some r) (fun j25=>[(0,E2 boxes),(2,U8 size),(4,.dptr [G1 g.Load,G1 g.Discharge]),(7,G1 j25),(8,En i22)]) (fun j25=>[]) (fun Kj25 ej25=>?_) ?_
  ·
   refine Gn (G5 (fun K26 hK26=>Jc [] [0,0,0,0,0,0,0,0,0,0,0,0,0,0,0,0,0,0,0,0,0,0,0,0,0,0,0] [0,0,0,0,0,0,0,0,0,0,0,0,0,0,0,0,0,0,0,0,0,0,0,0,0,0,0] [[]] J3 (by kernel_rfl) rfl rfl ?_))
   refine Gb (u:=E2 boxes) G G ⟨Gh (G4 G G) G,ø⟩ (Gb (u:=En i22) G G ⟨Gh (G4 G G) G,ø⟩ (Gb (u:=Eg y22) G G ⟨Gh (Gv (f:=H4.av) (xs:=boxes) (y:=y22) G G G Ht hy22 G) G,ø⟩ (Gb (u:=.dptr ((H4.cs y22).drop 5)) G G ⟨Gh (Ge Zf G G G) G,ø⟩ (Gb (u:=G1 y22.Load) G G ⟨Gh (Gk Gc G G G) G,ø⟩ (Gb (u:=.dptr [G1 g.Load,G1 g.Discharge]) G G ⟨Gh (Ge Jv G G G) G,ø⟩ (Gb (u:=G1 g.Load) G G ⟨Gh (Gk Gc G G G) G,ø⟩ (Gb (u:=BL (decide (y22.Load=g.Load))) G G ⟨Gh (Rt G G G) G,ø⟩ (Gb (u:=BL (decide (y22.Load=g.Load))) G G ⟨Gh (G4 G G) G,ø⟩ (Gb (u:=.opt (decide (y22.Load=g.Load)) (E2 boxes)) G G ⟨Gg [] G G G .sct ø (fun hc=>G4 G G) G,ø⟩ (Gb (u:=.opt (decide (y22.Load=g.Load)) (En i22)) G G ⟨Gg [] G G G .sct ø (fun hc=>G4 G G) G,ø⟩ (Gb (u:=.opt (decide (y22.Load=g.Load)) (Eg y22)) G G ⟨Gg [(24,E2 boxes),(25,En i22)] G G G .sct ⟨.all id,.all id,ø⟩ (fun hc=>Gv (f:=H4.av) (xs:=boxes) (y:=y22) G G G Ht hy22 G) G,ø⟩ (Gb (u:=.opt (decide (y22.Load=g.Load)) (.dptr ((H4.cs y22).drop 6))) G G ⟨Gg [(26,Eg y22)] G G G .sct ⟨.all id,ø⟩ (fun hc=>Ge Ze G G G) G,ø⟩ (Gb (u:=.opt (decide (y22.Load=g.Load)) (G1 y22.Discharge)) G G ⟨Gg [(27,.dptr ((H4.cs y22).drop 6))] G G G .sct ⟨.all id,ø⟩ (fun hc=>Gk Gc G G G) G,ø⟩ ?_)))))))))))))
   refine Gb (u:=.opt (decide (y22.Load=g.Load)) (.dptr [G1 g.Discharge])) G G ⟨Gg [] G G G .sct ø (fun hc=>Ge Qb G G G) G,ø⟩ (Gb (u:=.opt (decide (y22.Load=g.Load)) (G1 g.Discharge)) G G ⟨Gg [(29,.dptr [G1 g.Discharge])] G G G .sct ⟨.all id,ø⟩ (fun hc=>Gk Gc G G G) G,ø⟩ (Gb (u:=.opt (decide (y22.Load=g.Load)) (BL (decide (y22.Discharge=g.Discharge)))) G G ⟨Gg [(28,G1 y22.Discharge),(30,G1 g.Discharge)] G G G .sct ⟨.all id,.all id,ø⟩ (fun hc=>Rt G G G) G,ø⟩ (Gb (u:=BL ((decide (y22.Load=g.Load))&&(decide (y22.Discharge=g.Discharge)))) G G ⟨Gh (J7 G G G G) G,ø⟩ (Gb (u:=BL ((decide (y22.Load=g.Load))&&(decide (y22.Discharge=g.Discharge)))) G G ⟨Gh (G4 G G) G,ø⟩ (Gb (u:=.opt ((decide (y22.Load=g.Load))&&(decide (y22.Discharge=g.Discharge))) (E2 boxes)) G G ⟨Gg [] G G G .sct ø (fun hc=>G4 G G) G,ø⟩ (Gb (u:=.opt ((decide (y22.Load=g.Load))&&(decide (y22.Discharge=g.Discharge))) (En i22)) G G ⟨Gg [] G G G .sct ø (fun hc=>G4 G G) G,ø⟩ (Gb (u:=.opt ((decide (y22.Load=g.Load))&&(decide (y22.Discharge=g.Discharge))) (Eg y22)) G G ⟨Gg [(34,E2 boxes),(35,En i22)] G G G .sct ⟨.all id,.all id,ø⟩ (fun hc=>Gv (f:=H4.av) (xs:=boxes) (y:=y22) G G G Ht hy22 G) G,ø⟩ (Gb (u:=.opt ((decide (y22.Load=g.Load))&&(decide (y22.Discharge=g.Discharge))) (.dptr ((H4.cs y22).drop 2))) G G ⟨Gg [(36,Eg y22)] G G G .sct ⟨.all id,ø⟩ (fun hc=>Ge Zz G G G) G,ø⟩ (Gb (u:=.opt ((decide (y22.Load=g.Load))&&(decide (y22.Discharge=g.Discharge))) (U8 y22.Size)) G G ⟨Gg [(37,.dptr ((H4.cs y22).drop 2))] G G G .sct ⟨.all id,ø⟩ (fun hc=>Gk G47 G G G) G,ø⟩ (Gb (u:=.opt ((decide (y22.Load=g.Load))&&(decide (y22.Discharge=g.Discharge))) (U8 size)) G G ⟨Gg [] G G G .sct ø (fun hc=>G4 G G) G,ø⟩ (Gb (u:=.opt ((decide (y22.Load=g.Load))&&(decide (y22.Discharge=g.Discharge))) (BL (decide (y22.Size=size)))) G G ⟨Gg [(38,U8 y22.Size),(39,U8 size)] G G G .sct ⟨.all id,.all id,ø⟩ (fun hc=>Rt G G G) G,ø⟩ (Gb (u:=BL (((decide (y22.Load=g.Load))&&(decide (y22.Discharge=g.Discharge)))&&(decide (y22.Size=size)))) G G ⟨Gh (J7 G G G G) G,ø⟩ (Rb ?_)))))))))))))
   refine hK26 _ _ (Gp G (fun hb=>?_) (fun hb=>?_))
   ·
    replace h:=Gy hb h
    refine G3 (JLh (G1 s22) (G4 G G) G ?_)
    obtain⟨v27,hv27,h⟩:=Hf h
    refine JLh (G1 v27) (Hj hv27 G G G) G (JLh (G1 v27) (G8 G G) G (G9 (ej25 _ _ v27 h ⟨(by repeat' constructor),ø,rfl⟩)))
   ·
    replace h:=Hp hb h
    refine Gq (ej25 _ _ s22 h ⟨(by repeat' constructor),ø,rfl⟩)
  ·intro j25 h
   replace h:=app1 hkj25 h
   refine G3 (JLh (En i22) (G4 G G) G (JLh (G1 ((i22+1:Nat):Int)) (Hj (Hi hk22 hm11) G G G) G (JLh (G1 ((i22+1:Nat):Int)) (G8 G G) G (G9 (e22 _ _ (i22+1) j25 (app1 hn22 h) (by omega) ⟨(by repeat' constructor),ø,rfl⟩)))))
 ·
  have h:=app1 hkx22 (Hz hi22 (Hg hb))
  refine Hc (hK3 _ _ (G5 fun K28 hK28=>G3 (JLh (G1 s22) (G4 G G) G (JLh (G1 s22) (G8 G G) G (G9 (hK28 _ _ (Gx (⟨[G1 s22],[],ø,G,⟨⟨_,G,.conv (.same G)⟩,ø⟩,G,congrArg (fun r:Int=>(G1 r:AV)) (Option.some.inj h)⟩))))))))

def Qy (a:G6) (b:G6):Option Bool:=
 some ((decide (a.Load < b.Load))||((decide (a.Load=b.Load))&&(decide (a.Discharge < b.Discharge))))
theorem G9f (a:G6) (b:G6) (r:Bool) (h:Qy a b=some r):Pure Tryz.prog 106 [.agg [G1 a.Load,G1 a.Discharge],.agg [G1 b.Load,G1 b.Discharge]] (·=BL r):=by
 unfold Qy at h
 refine H1 [.tmp 4] Tryz.func106 G G (G5 fun K1 hK1=>G3 (JLh (.ptr 1076 0) (Qi (u:=.agg [G1 a.Load,G1 a.Discharge]) (cs:=[G1 a.Load,G1 a.Discharge]) 1076 G G G G G) G (JLh (.ptr 1077 0) (Qi (u:=.agg [G1 b.Load,G1 b.Discharge]) (cs:=[G1 b.Load,G1 b.Discharge]) 1077 G G G G G) G (JLh (BL false) (G8 G G) G (G9 (hK1 _ _ (Gz [(2,.dptr [G1 a.Load,G1 a.Discharge]),(3,.ptr 1077 0)] [(1077,.box 72 [G1 b.Load,G1 b.Discharge])] 1076 rfl rfl rfl ⟨⟨_,rfl,.boxEq rfl rfl⟩,ø⟩ rfl (by exact⟨.ptr,.conv (.same rfl),ø⟩) (Gz [(2,.dptr [G1 a.Load,G1 a.Discharge]),(3,.dptr [G1 b.Load,G1 b.Discharge])] [] 1077 rfl rfl rfl ø rfl (by exact⟨.conv (.same rfl),.ptr,ø⟩) ?_))))))))
 refine G5 fun K2 hK2=>G3 (JLh (.dptr [G1 a.Load,G1 a.Discharge]) (Ge Jv G G G) G (JLh (G1 a.Load) (Gk Gc G G G) G (JLh (.dptr [G1 b.Load,G1 b.Discharge]) (Ge Jv G G G) G (JLh (G1 b.Load) (Gk Gc G G G) G (JLh (BL (decide (a.Load < b.Load))) (Hx G G G) G (JLh (BL (decide (a.Load < b.Load))) (G4 G G) G (Gd (u:=.dptr [G1 a.Load,G1 a.Discharge]) [] G G G .scf ø (fun hc=>Ge Jv G G G) ?_)))))))
 refine Gd (u:=G1 a.Load) [(11,.dptr [G1 a.Load,G1 a.Discharge])] G G G .scf ⟨.all id,ø⟩ (fun hc=>Gk Gc G G G) ?_
 refine Gd (u:=.dptr [G1 b.Load,G1 b.Discharge]) [] G G G .scf ø (fun hc=>Ge Jv G G G) ?_
 refine Gd (u:=G1 b.Load) [(13,.dptr [G1 b.Load,G1 b.Discharge])] G G G .scf ⟨.all id,ø⟩ (fun hc=>Gk Gc G G G) ?_
 refine Gd (u:=BL (decide (a.Load=b.Load))) [(12,G1 a.Load),(14,G1 b.Load)] G G G .scf ⟨.all id,.all id,ø⟩ (fun hc=>Rt G G G) ?_
 refine Gd (u:=BL (decide (a.Load=b.Load))) [(15,BL (decide (a.Load=b.Load)))] G G G .scf ⟨.all id,ø⟩ (fun hc=>G4 G G) ?_
 refine Gd (u:=.dptr [G1 a.Discharge]) [] G G G .optt ø (fun hc=>Ge Qb G G G) ?_
 refine Gd (u:=G1 a.Discharge) [(17,.dptr [G1 a.Discharge])] G G G .optt ⟨.all id,ø⟩ (fun hc=>Gk Gc G G G) ?_
 refine Gd (u:=.dptr [G1 b.Discharge]) [] G G G .optt ø (fun hc=>Ge Qb G G G) ?_
 refine Gd (u:=G1 b.Discharge) [(19,.dptr [G1 b.Discharge])] G G G .optt ⟨.all id,ø⟩ (fun hc=>Gk Gc G G G) ?_
 refine Gd (u:=BL (decide (a.Discharge < b.Discharge))) [(18,G1 a.Discharge),(20,G1 b.Discharge)] G G G .optt ⟨.all id,.all id,ø⟩ (fun hc=>Hx G G G) ?_
 refine Gd (u:=BL ((decide (a.Load=b.Load))&&(decide (a.Discharge < b.Discharge)))) [(16,BL (decide (a.Load=b.Load))),(21,_)] G G G .scf ⟨.all id,.part,ø⟩ (fun hc=>J7 G G G G) ?_
 refine JLh (BL ((decide (a.Load < b.Load))||((decide (a.Load=b.Load))&&(decide (a.Discharge < b.Discharge))))) (Z5 G G G G) G (JLh (BL ((decide (a.Load < b.Load))||((decide (a.Load=b.Load))&&(decide (a.Discharge < b.Discharge))))) (G8 G G) G (G9 (hK2 _ _ (Gx (⟨[BL ((decide (a.Load < b.Load))||((decide (a.Load=b.Load))&&(decide (a.Discharge < b.Discharge))))],[],ø,G,⟨⟨_,G,.conv (.same G)⟩,ø⟩,G,congrArg (fun r:Bool=>(BL r:AV)) (Option.some.inj h)⟩)))))

def Y2 (F:Nat) (boxes:List H4):Option (List Gj):=
 loop (fun nx3 (s3:(List Gj))=>
  each (fun y102 i102 (s102:Bool×Int×Int×Int×Int) nx102=>
   jp (fun kj105=>
    bnd (Jq boxes (G6.mk y102.Load y102.Discharge) 40) fun r108=>
    bnd (Jq boxes (G6.mk y102.Load y102.Discharge) 20) fun r109=>
    Rm (r108+r109) fun v112=>
    bnd (bif ((!(decide (v112=0)))&&(decide (0 < (s3.length:Int)))) then Rm ((s3.length:Int) - 1) some else some 0) fun v113=>
    bnd (bif ((!(decide (v112=0)))&&(decide (0 < (s3.length:Int)))) then Qe s3 v113 some else some default) fun y114=>
    bnd (bif ((!(decide (v112=0)))&&(decide (0 < (s3.length:Int)))) then Qy y114.G6 (G6.mk y102.Load y102.Discharge) else some default) fun r115=>
    bnd (bif ((!((decide (v112=0))||((decide (0 < (s3.length:Int)))&&(!r115))))&&s102.1) then Qy (G6.mk y102.Load y102.Discharge) (G6.mk s102.2.1 s102.2.2.1) else some default) fun r116=>
    bif (((decide (v112=0))||((decide (0 < (s3.length:Int)))&&(!r115)))||(s102.1&&(!r116))) then
    (kj105 (s102.1,s102.2.1,s102.2.2.1,s102.2.2.2.1,s102.2.2.2.2))
    else
    (kj105 (true,y102.Load,y102.Discharge,r108,r109))) fun(j105:Bool×Int×Int×Int×Int)=>
   nx102 (j105.1,j105.2.1,j105.2.2.1,j105.2.2.2.1,j105.2.2.2.2))
  (fun(s102:Bool×Int×Int×Int×Int)=>
   bif (!s102.1) then
   (some s3)
   else
   (need (decide ((s3.length+[(Gj.mk (G6.mk s102.2.1 s102.2.2.1) s102.2.2.2.1 s102.2.2.2.2)].length)*32≤140737488355328∧s3.length+[(Gj.mk (G6.mk s102.2.1 s102.2.2.1) s102.2.2.2.1 s102.2.2.2.2)].length≤maxLen)) <|
    nx3 (s3++[(Gj.mk (G6.mk s102.2.1 s102.2.2.1) s102.2.2.2.1 s102.2.2.2.2)]))) boxes 0 (false,0,0,0,0)) F []
theorem H1e (F:Nat) (boxes:List H4) (r:(List Gj)) (h:Y2 F boxes=some r):Pure Tryz.prog 38 [E2 boxes] (·=E9 r):=by
 unfold Y2 at h
 refine H1 [.tmp 2] Tryz.func38 G G (G5 fun K1 hK1=>G3 (JLh (E9 ([]:List Gj)) (Rs 4 G G) G (G9 (hK1 _ _ (G5 fun K2 hK2=>G3 (JLh (OW 1025 4 Gj.av ([]:List Gj)) (G89 1025 82 4 G G G) G (G9 (hK2 _ _ (Gn ?_)))))))))
 obtain⟨b3,hb3,h⟩:=G16 h
 refine H7 (fun i3 (s3:(List Gj))=>loop b3 i3 s3=some r) (fun i3 s3=>[(0,E2 boxes),(3,OW 1025 4 Gj.av s3)]) (fun i3 s3=>[(1025,.spare 82 4 s3.length s3.length)]) (fun i3=>i3) F [] h ⟨⟨.same G,.same G,ø⟩,⟨⟨_,G,.same⟩,ø⟩,G⟩ ?_
 clear h
 intro i3 s3 hi3 K3 e3
 obtain⟨m3,nx3,hm_3,hn3,h⟩:=Zg hi3
 replace h:=H78 hb3 h
 refine Gn (G5 fun K4 hK4=>G3 (JLh (.ptr 1026 0) (G15 1026 [G1 0,G1 0,G1 0,G1 0] [.int .i64 0,.int .i64 0,.int .i64 0,.int .i64 0] Gba ⟨.inl G,.inl G,.inl G,.inl G,ø⟩ G G) G (G9 (hK4 _ _ (G5 fun K5 hK5=>G3 (JLh (BL false) (G8 G G) G (G9 (hK5 _ _ (G5 (fun K6 hK6=>G5 fun K7 hK7=>G3 (JLh (G1 0) (G8 G G) G (G9 (hK7 _ _ (Gn ?_))))))))))))))
 obtain⟨b102,kx102,hb102,hkx102,h⟩:=J9 h
 refine H7 (fun i102 (s102:Bool×Int×Int×Int×Int)=>each b102 kx102 (List.drop i102 boxes) i102 s102=some r) (fun i102 s102=>[(0,E2 boxes),(3,OW 1025 4 Gj.av s3),(4,.ptr 1026 0),(5,BL s102.1),(6,En i102)]) (fun i102 s102=>[(1025,.spare 82 4 s3.length s3.length),(1026,.box 82 [G1 s102.2.1,G1 s102.2.2.1,G1 s102.2.2.2.1,G1 s102.2.2.2.2])]) (fun i102=>boxes.length - i102) 0 (false,0,0,0,0) h ⟨(by repeat' constructor),⟨⟨_,rfl,.same⟩,⟨_,rfl,.boxL rfl (by repeat' constructor)⟩,ø⟩,rfl⟩ ?_
 clear h
 intro i102 s102 hi102 K102 e102
 refine G5 (fun K103 hK103=>G5 fun K104 hK104=>G3 (JLh (En i102) (G4 G G) G (JLh (E2 boxes) (G4 G G) G (H0 (f:=H4.av) (xs:=boxes) Ht G G (fun hm11=>?_) G G G))))
 refine JLh (BL (decide ((i102:Int) < (boxes.length:Int)))) (Hx G G G) G (G9 (hK104 _ _ (Gp G (fun hb=>?_) (fun hb=>?_))))
 ·
  have hk102:=Jm hb
  obtain⟨y102,nx102,hy102,hn102,h⟩:=Hy hi102 hk102
  replace h:=Zn hb102 h
  refine Gq (hK103 _ _ ?_)
  obtain⟨kj105,hkj105,h⟩:=G40 h
  refine G0b (fun j105:Bool×Int×Int×Int×Int=>kj105 j105=some r) (fun j105=>[(0,E2 boxes),(3,OW 1025 4 Gj.av s3),(4,.ptr 1026 0),(5,BL j105.1),(6,En i102)]) (fun j105=>[(1025,.spare 82 4 s3.length s3.length),(1026,.box 82 [G1 j105.2.1,G1 j105.2.2.1,G1 j105.2.2.2.1,G1 j105.2.2.2.2])]) (fun Kj105 ej105=>?_) ?_
  ·
   refine Gn (G5 (fun K106 hK106=>Z9 (l':=[(0,E2 boxes),(3,OW 1025 4 Gj.av s3),(4,.ptr 1026 0),(5,BL s102.1),(6,En i102)]) (L':=[(1025,.spare 82 4 s3.length s3.length),(1026,.box 82 [G1 s102.2.1,G1 s102.2.2.1,G1 s102.2.2.2.1,G1 s102.2.2.2.2])]) ⟨(by repeat' constructor),⟨⟨_,rfl,.same⟩,⟨_,rfl,.boxL rfl (by repeat' constructor)⟩,ø⟩,rfl⟩ ?_))
   refine Jc [11,12] [0,0,0,0,0,0,0,0,0,0,0,0,0] [1,1,1,1,1,1,1,1,1,1,1,0,0] [[(1025,.spare 82 4 s3.length s3.length),(1026,.box 82 [G1 s102.2.1,G1 s102.2.2.1,G1 s102.2.2.2.1,G1 s102.2.2.2.2])],((1027,.box 72 [.junk,.junk])::[(1025,.spare 82 4 s3.length s3.length),(1026,.box 82 [G1 s102.2.1,G1 s102.2.2.1,G1 s102.2.2.2.1,G1 s102.2.2.2.2])]),((1027,.box 72 [G1 y102.Load,G1 y102.Discharge])::((1027,.box 72 [.junk,.junk])::[(1025,.spare 82 4 s3.length s3.length),(1026,.box 82 [G1 s102.2.1,G1 s102.2.2.1,G1 s102.2.2.2.1,G1 s102.2.2.2.2])]))] J3 (by kernel_rfl) rfl rfl ?_
   refine Gb (u:=E2 boxes) G G ⟨Gh (G4 G G) G,Gh (G4 G G) G,ø⟩ (Gb (u:=En i102) G G ⟨Gh (G4 G G) G,Gh (G4 G G) G,ø⟩ (Gb (u:=Eg y102) G G ⟨Gh (Gv (f:=H4.av) (xs:=boxes) (y:=y102) G G G Ht hy102 G) G,Gh (Gv (f:=H4.av) (xs:=boxes) (y:=y102) G G G Ht hy102 G) G,ø⟩ (Gb (u:=.dptr ((H4.cs y102).drop 5)) G G ⟨Gh (Ge Zf G G G) G,Gh (Ge Zf G G G) G,ø⟩ (Gb (u:=G1 y102.Load) G G ⟨Gh (Gk Gc G G G) G,Gh (Gk Gc G G G) G,ø⟩ (Gb (u:=E2 boxes) G G ⟨Gh (G4 G G) G,Gh (G4 G G) G,ø⟩ (Gb (u:=En i102) G G ⟨Gh (G4 G G) G,Gh (G4 G G) G,ø⟩ (Gb (u:=Eg y102) G G ⟨Gh (Gv (f:=H4.av) (xs:=boxes) (y:=y102) G G G Ht hy102 G) G,Gh (Gv (f:=H4.av) (xs:=boxes) (y:=y102) G G G Ht hy102 G) G,ø⟩ (Gb (u:=.dptr ((H4.cs y102).drop 6)) G G ⟨Gh (Ge Ze G G G) G,Gh (Ge Ze G G G) G,ø⟩ (Gb (u:=G1 y102.Discharge) G G ⟨Gh (Gk Gc G G G) G,Gh (Gk Gc G G G) G,ø⟩ (Gb (u:=.agg [G1 y102.Load,G1 y102.Discharge]) G G ⟨Gh (Q0 (cs:=[G1 y102.Load,G1 y102.Discharge]) [(0,1),(1,1)] [G1 0,G1 0] [.int .i64 0,.int .i64 0] G4b G5e ⟨.inl G,.inl G,ø⟩ G G) G,Gh (Q0 (cs:=[G1 y102.Load,G1 y102.Discharge]) [(0,1),(1,1)] [G1 0,G1 0] [.int .i64 0,.int .i64 0] G4b G5e ⟨.inl G,.inl G,ø⟩ G G) G,ø⟩ (D_w (u:=.ptr 1027 0) G G G G (Gh (Jn 1027 2 Zx G G) G) (Jbc (u:=.junk) G G G G (Gh (J4 (u:=.agg [G1 y102.Load,G1 y102.Discharge]) (ds:=[G1 y102.Load,G1 y102.Discharge]) G5f G G G G G G G G) G) (Rb ?_)))))))))))))
   refine hK106 _ _ (Gz [(0,E2 boxes),(3,OW 1025 4 Gj.av s3),(4,.ptr 1026 0),(5,BL s102.1),(6,En i102),(7,.dptr [G1 y102.Load,G1 y102.Discharge])] [(1025,.spare 82 4 s3.length s3.length),(1026,.box 82 [G1 s102.2.1,G1 s102.2.2.1,G1 s102.2.2.2.1,G1 s102.2.2.2.2])] 1027 rfl rfl rfl ⟨⟨_,rfl,.same⟩,⟨_,rfl,.boxEq rfl rfl⟩,ø⟩ rfl (by repeat' (first | exact .ptr | constructor)) (G5 (fun K107 hK107=>?_)))
   refine Z9 (l':=[(0,E2 boxes),(3,OW 1025 4 Gj.av s3),(4,.ptr 1026 0),(5,BL s102.1),(6,En i102),(7,.dptr [G1 y102.Load,G1 y102.Discharge])]) (L':=[(1025,.spare 82 4 s3.length s3.length),(1026,.box 82 [G1 s102.2.1,G1 s102.2.2.1,G1 s102.2.2.2.1,G1 s102.2.2.2.2])]) ⟨(by repeat' constructor),⟨⟨_,rfl,.same⟩,⟨_,rfl,.boxL rfl (by repeat' constructor)⟩,ø⟩,rfl⟩ ?_
   obtain⟨r108,hr108,h⟩:=Gf h
   obtain⟨r109,hr109,h⟩:=Gf h
   refine Jc [8,9] [0,0,0,0,0,0,0,0,0,0] [1,1,1,1,1,1,1,1,0,0] [[(1025,.spare 82 4 s3.length s3.length),(1026,.box 82 [G1 s102.2.1,G1 s102.2.2.1,G1 s102.2.2.2.1,G1 s102.2.2.2.2])],((1028,.box 82 [.junk,.junk,.junk,.junk])::[(1025,.spare 82 4 s3.length s3.length),(1026,.box 82 [G1 s102.2.1,G1 s102.2.2.1,G1 s102.2.2.2.1,G1 s102.2.2.2.2])]),((1028,.box 82 [G1 y102.Load,G1 y102.Discharge,G1 r108,G1 r109])::((1028,.box 82 [.junk,.junk,.junk,.junk])::[(1025,.spare 82 4 s3.length s3.length),(1026,.box 82 [G1 s102.2.1,G1 s102.2.2.1,G1 s102.2.2.2.1,G1 s102.2.2.2.2])]))] J3 (by kernel_rfl) rfl rfl ?_
   refine Gb (u:=.agg [G1 y102.Load,G1 y102.Discharge]) G G ⟨Gh (Gi Ho G G G) G,Gh (Gi Ho G G G) G,ø⟩ (Gb (u:=E2 boxes) G G ⟨Gh (G4 G G) G,Gh (G4 G G) G,ø⟩ (Gb (u:=.agg [G1 y102.Load,G1 y102.Discharge]) G G ⟨Gh (Gi Ho G G G) G,Gh (Gi Ho G G G) G,ø⟩ (Gb (u:=G1 r108) G G ⟨Gh (Gs (args:=[E2 boxes,.agg [G1 y102.Load,G1 y102.Discharge],U8 40]) G (Q5 boxes (G6.mk y102.Load y102.Discharge) 40 r108 hr108) G48 ⟨G,G,G,G,G,G,ø⟩) G,Gh (Gs (args:=[E2 boxes,.agg [G1 y102.Load,G1 y102.Discharge],U8 40]) G (Q5 boxes (G6.mk y102.Load y102.Discharge) 40 r108 hr108) G48 ⟨G,G,G,G,G,G,ø⟩) G,ø⟩ (Gb (u:=E2 boxes) G G ⟨Gh (G4 G G) G,Gh (G4 G G) G,ø⟩ (Gb (u:=.agg [G1 y102.Load,G1 y102.Discharge]) G G ⟨Gh (Gi Ho G G G) G,Gh (Gi Ho G G G) G,ø⟩ (Gb (u:=G1 r109) G G ⟨Gh (Gs (args:=[E2 boxes,.agg [G1 y102.Load,G1 y102.Discharge],U8 20]) G (Q5 boxes (G6.mk y102.Load y102.Discharge) 20 r109 hr109) G48 ⟨G,G,G,G,G,G,ø⟩) G,Gh (Gs (args:=[E2 boxes,.agg [G1 y102.Load,G1 y102.Discharge],U8 20]) G (Q5 boxes (G6.mk y102.Load y102.Discharge) 20 r109 hr109) G48 ⟨G,G,G,G,G,G,ø⟩) G,ø⟩ (Gb (u:=.agg [G1 y102.Load,G1 y102.Discharge,G1 r108,G1 r109]) G G ⟨Gh (Q0 (cs:=[G1 y102.Load,G1 y102.Discharge,G1 r108,G1 r109]) [(0,2),(2,1),(3,1)] [G1 0,G1 0,G1 0,G1 0] [.int .i64 0,.int .i64 0,.int .i64 0,.int .i64 0] Ge6 Gba ⟨.inl G,.inl G,.inl G,.inl G,ø⟩ G G) G,Gh (Q0 (cs:=[G1 y102.Load,G1 y102.Discharge,G1 r108,G1 r109]) [(0,2),(2,1),(3,1)] [G1 0,G1 0,G1 0,G1 0] [.int .i64 0,.int .i64 0,.int .i64 0,.int .i64 0] Ge6 Gba ⟨.inl G,.inl G,.inl G,.inl G,ø⟩ G G) G,ø⟩ (D_w (u:=.ptr 1028 0) G G G G (Gh (Jn 1028 4 Gc8 G G) G) (Jbc (u:=.junk) G G G G (Gh (J4 (u:=.agg [G1 y102.Load,G1 y102.Discharge,G1 r108,G1 r109]) (ds:=[G1 y102.Load,G1 y102.Discharge,G1 r108,G1 r109]) Gfa G G G G G G G G) G) (Rb ?_))))))))))
   refine hK107 _ _ (Gz [(0,E2 boxes),(3,OW 1025 4 Gj.av s3),(4,.ptr 1026 0),(5,BL s102.1),(6,En i102),(7,.dptr [G1 y102.Load,G1 y102.Discharge]),(8,.dptr [G1 y102.Load,G1 y102.Discharge,G1 r108,G1 r109])] [(1025,.spare 82 4 s3.length s3.length),(1026,.box 82 [G1 s102.2.1,G1 s102.2.2.1,G1 s102.2.2.2.1,G1 s102.2.2.2.2])] 1028 rfl rfl rfl ⟨⟨_,rfl,.same⟩,⟨_,rfl,.boxEq rfl rfl⟩,ø⟩ rfl (by repeat' (first | exact .ptr | constructor)) (G5 (fun K110 hK110=>G5 (fun K111 hK111=>?_))))
   refine Z9 (l':=[(0,E2 boxes),(3,OW 1025 4 Gj.av s3),(4,.ptr 1026 0),(5,BL s102.1),(6,En i102),(7,.dptr [G1 y102.Load,G1 y102.Discharge]),(8,.dptr [G1 y102.Load,G1 y102.Discharge,G1 r108,G1 r109])]) (L':=[(1025,.spare 82 4 s3.length s3.length),(1026,.box 82 [G1 s102.2.1,G1 s102.2.2.1,G1 s102.2.2.2.1,G1 s102.2.2.2.2])]) ⟨(by repeat' constructor),⟨⟨_,rfl,.same⟩,⟨_,rfl,.boxL rfl (by repeat' constructor)⟩,ø⟩,rfl⟩ ?_
   obtain⟨v112,hv112,h⟩:=Hf h
   obtain⟨v113,hv113,h⟩:=Gf h
   obtain⟨y114,hy114,h⟩:=Gf h
   obtain⟨r115,hr115,h⟩:=Gf h
   obtain⟨r116,hr116,h⟩:=Gf h
   refine Jc [] [0,0,0,0,0,0,0,0,0,0,0,0,0,0,0,0,0,0,0,0,0,0,0,0,0,0,0,0,0,0,0,0,0] [0,0,0,0,0,0,0,0,0,0,0,0,0,0,0,0,0,0,0,0,0,0,0,0,0,0,0,0,0,0,0,0,0] [[(1025,.spare 82 4 s3.length s3.length),(1026,.box 82 [G1 s102.2.1,G1 s102.2.2.1,G1 s102.2.2.2.1,G1 s102.2.2.2.2])]] J3 (by kernel_rfl) rfl rfl ?_
   refine Gb (u:=.dptr [G1 r108,G1 r109]) G G ⟨Gh (Ge G7b G G G) G,ø⟩ (Gb (u:=G1 r108) G G ⟨Gh (Gk Gc G G G) G,ø⟩ (Gb (u:=.dptr [G1 r109]) G G ⟨Gh (Ge G7a G G G) G,ø⟩ (Gb (u:=G1 r109) G G ⟨Gh (Gk Gc G G G) G,ø⟩ (Gb (u:=G1 v112) G G ⟨Gh (Hj hv112 G G G) G,ø⟩ (Gb (u:=BL (decide (v112=0))) G G ⟨Gh (Rt G G G) G,ø⟩ (Gb (u:=BL (decide (v112=0))) G G ⟨Gh (G4 G G) G,ø⟩ (Gb (u:=.opt (!(decide (v112=0))) (OW 1025 4 Gj.av s3)) G G ⟨Gg [] G G G .scf ø (fun hc=>G4 G G) G,ø⟩ (Gb (u:=.opt (!(decide (v112=0))) (En s3.length)) G G ⟨Gg [(41,OW 1025 4 Gj.av s3)] G G G .scf ⟨.all id,ø⟩ (fun hc=>Jp (f:=Gj.av) (xs:=s3) Yi G G) G,ø⟩ (Gb (u:=.opt (!(decide (v112=0))) (BL (decide (0 < (s3.length:Int))))) G G ⟨Gg [(42,En s3.length)] G G G .scf ⟨.all id,ø⟩ (fun hc=>Ya G G G) G,ø⟩ (Gb (u:=.opt (!(decide (v112=0))) (BL (decide (0 < (s3.length:Int))))) G G ⟨Gg [(43,BL (decide (0 < (s3.length:Int))))] G G G .scf ⟨.all id,ø⟩ (fun hc=>G4 G G) G,ø⟩ (Gb (u:=.opt ((!(decide (v112=0)))&&(decide (0 < (s3.length:Int)))) (OW 1025 4 Gj.av s3)) G G ⟨Gg [] G G G .optt ø (fun hc=>G4 G G) G,ø⟩ (Gb (u:=.opt ((!(decide (v112=0)))&&(decide (0 < (s3.length:Int)))) (OW 1025 4 Gj.av s3)) G G ⟨Gg [] G G G .optt ø (fun hc=>G4 G G) G,ø⟩ (Gb (u:=.opt ((!(decide (v112=0)))&&(decide (0 < (s3.length:Int)))) (En s3.length)) G G ⟨Gg [(46,OW 1025 4 Gj.av s3)] G G G .optt ⟨.all id,ø⟩ (fun hc=>Jp (f:=Gj.av) (xs:=s3) Yi G G) G,ø⟩ ?_)))))))))))))
   refine Gb (u:=.opt ((!(decide (v112=0)))&&(decide (0 < (s3.length:Int)))) (G1 v113)) G G ⟨Gg [(47,En s3.length)] G G G .optt ⟨.all id,ø⟩ (fun hc=>G1e (G02 (Gy hc hv113)) G G G) G,ø⟩ (Gb (u:=.opt ((!(decide (v112=0)))&&(decide (0 < (s3.length:Int)))) (Ei y114)) G G ⟨Gg [(45,OW 1025 4 Gj.av s3),(48,G1 v113)] G G G .optt ⟨.all id,.all id,ø⟩ (fun hc=>(match Q2 (Gy hc hy114) with | ⟨_,hm_,hy_⟩=>Gv (f:=Gj.av) (xs:=s3) (y:=y114) G G G Yi hy_ hm_)) G,ø⟩ (Gb (u:=.opt ((!(decide (v112=0)))&&(decide (0 < (s3.length:Int)))) (Ei y114)) G G ⟨Gg [(49,Ei y114)] G G G .optt ⟨.all id,ø⟩ (fun hc=>Ge Hc1 G G G) G,ø⟩ (Gb (u:=.opt ((!(decide (v112=0)))&&(decide (0 < (s3.length:Int)))) (.agg [G1 y114.G6.Load,G1 y114.G6.Discharge])) G G ⟨Gg [(50,Ei y114)] G G G .optt ⟨.all id,ø⟩ (fun hc=>Gi Ho G G G) G,ø⟩ (Gb (u:=.opt ((!(decide (v112=0)))&&(decide (0 < (s3.length:Int)))) (.agg [G1 y102.Load,G1 y102.Discharge])) G G ⟨Gg [] G G G .optt ø (fun hc=>Gi Ho G G G) G,ø⟩ (Gb (u:=.opt ((!(decide (v112=0)))&&(decide (0 < (s3.length:Int)))) (BL r115)) G G ⟨Gg [(51,.agg [G1 y114.G6.Load,G1 y114.G6.Discharge]),(52,.agg [G1 y102.Load,G1 y102.Discharge])] G G G .optt ⟨.all id,.all id,ø⟩ (fun hc=>Gs (args:=[.agg [G1 y114.G6.Load,G1 y114.G6.Discharge],.agg [G1 y102.Load,G1 y102.Discharge]]) G (G9f y114.G6 (G6.mk y102.Load y102.Discharge) r115 (Gy hc hr115)) J32 ⟨G,G,G,G,ø⟩) G,ø⟩ (Gb (u:=.opt ((!(decide (v112=0)))&&(decide (0 < (s3.length:Int)))) (BL (!r115))) G G ⟨Gg [(53,BL r115)] G G G .optt ⟨.all id,ø⟩ (fun hc=>Yu (b:=r115) G G) G,ø⟩ (Gb (u:=.opt (!(decide (v112=0))) (BL ((decide (0 < (s3.length:Int)))&&(!r115)))) G G ⟨Gg [(44,BL (decide (0 < (s3.length:Int)))),(54,_)] G G G .scf ⟨.all id,.part,ø⟩ (fun hc=>J7 G G G G) G,ø⟩ (Gb (u:=BL ((decide (v112=0))||((decide (0 < (s3.length:Int)))&&(!r115)))) G G ⟨Gh (Z5 G G G G) G,ø⟩ (Gb (u:=BL ((decide (v112=0))||((decide (0 < (s3.length:Int)))&&(!r115)))) G G ⟨Gh (G4 G G) G,ø⟩ (Gb (u:=.opt (!((decide (v112=0))||((decide (0 < (s3.length:Int)))&&(!r115)))) (BL s102.1)) G G ⟨Gg [] G G G .scf ø (fun hc=>G4 G G) G,ø⟩ (Gb (u:=.opt (!((decide (v112=0))||((decide (0 < (s3.length:Int)))&&(!r115)))) (BL s102.1)) G G ⟨Gg [(58,BL s102.1)] G G G .scf ⟨.all id,ø⟩ (fun hc=>G4 G G) G,ø⟩ (Gb (u:=.opt ((!((decide (v112=0))||((decide (0 < (s3.length:Int)))&&(!r115))))&&s102.1) (.agg [G1 y102.Load,G1 y102.Discharge])) G G ⟨Gg [] G G G .optt ø (fun hc=>Gi Ho G G G) G,ø⟩ (Gb (u:=.opt ((!((decide (v112=0))||((decide (0 < (s3.length:Int)))&&(!r115))))&&s102.1) (.ptr 1026 0)) G G ⟨Gg [] G G G .optt ø (fun hc=>Qr Hc1 G G) G,ø⟩ ?_)))))))))))))
   refine Gb (u:=.opt ((!((decide (v112=0))||((decide (0 < (s3.length:Int)))&&(!r115))))&&s102.1) (.agg [G1 s102.2.1,G1 s102.2.2.1])) G G ⟨Gg [(61,.ptr 1026 0)] G G G .optt ⟨.all id,ø⟩ (fun hc=>H7d Ho G G G G) G,ø⟩ (Gb (u:=.opt ((!((decide (v112=0))||((decide (0 < (s3.length:Int)))&&(!r115))))&&s102.1) (BL r116)) G G ⟨Gg [(60,.agg [G1 y102.Load,G1 y102.Discharge]),(62,.agg [G1 s102.2.1,G1 s102.2.2.1])] G G G .optt ⟨.all id,.all id,ø⟩ (fun hc=>Gs (args:=[.agg [G1 y102.Load,G1 y102.Discharge],.agg [G1 s102.2.1,G1 s102.2.2.1]]) G (G9f (G6.mk y102.Load y102.Discharge) (G6.mk s102.2.1 s102.2.2.1) r116 (Gy hc hr116)) J32 ⟨G,G,G,G,ø⟩) G,ø⟩ (Gb (u:=.opt ((!((decide (v112=0))||((decide (0 < (s3.length:Int)))&&(!r115))))&&s102.1) (BL (!r116))) G G ⟨Gg [(63,BL r116)] G G G .optt ⟨.all id,ø⟩ (fun hc=>Yu (b:=r116) G G) G,ø⟩ (Gb (u:=.opt (!((decide (v112=0))||((decide (0 < (s3.length:Int)))&&(!r115)))) (BL (s102.1&&(!r116)))) G G ⟨Gg [(59,BL s102.1),(64,_)] G G G .scf ⟨.all id,.part,ø⟩ (fun hc=>J7 G G G G) G,ø⟩ (Gb (u:=BL (((decide (v112=0))||((decide (0 < (s3.length:Int)))&&(!r115)))||(s102.1&&(!r116)))) G G ⟨Gh (Z5 G G G G) G,ø⟩ (Rb ?_)))))
   refine hK111 _ _ (Gp G (fun hb=>?_) (fun hb=>?_))
   ·
    replace h:=Gy hb h
    refine Hc (ej105 _ _ (s102.1,s102.2.1,s102.2.2.1,s102.2.2.2.1,s102.2.2.2.2) h ⟨(by repeat' constructor),⟨⟨_,rfl,.same⟩,⟨_,rfl,.boxL rfl (by repeat' constructor)⟩,ø⟩,rfl⟩)
   ·
    replace h:=Hp hb h
    refine Gq (hK110 _ _ (G3 (JLh (.agg [G1 y102.Load,G1 y102.Discharge,G1 r108,G1 r109]) (Gi Gf5 G G G) G (Jb (u:=.junk) (J4 (u:=.agg [G1 y102.Load,G1 y102.Discharge,G1 r108,G1 r109]) (ds:=[G1 y102.Load,G1 y102.Discharge,G1 r108,G1 r109]) Gfa G G G G G G G G) (JLh (BL true) (G8 G G) G (G9 (ej105 _ _ (true,y102.Load,y102.Discharge,r108,r109) h ⟨(by repeat' constructor),⟨⟨_,rfl,.same⟩,⟨_,rfl,.boxL rfl (by repeat' constructor)⟩,ø⟩,rfl⟩)))))))
  ·intro j105 h
   replace h:=app1 hkj105 h
   refine G3 (JLh (En i102) (G4 G G) G (JLh (G1 ((i102+1:Nat):Int)) (Hj (Hi hk102 hm11) G G G) G (JLh (G1 ((i102+1:Nat):Int)) (G8 G G) G (G9 (e102 _ _ (i102+1) (j105.1,j105.2.1,j105.2.2.1,j105.2.2.2.1,j105.2.2.2.2) (app1 hn102 h) (by omega) ⟨(by repeat' constructor),⟨⟨_,rfl,.same⟩,⟨_,rfl,.boxL rfl (by repeat' constructor)⟩,ø⟩,rfl⟩)))))
 ·
  have h:=app1 hkx102 (Hz hi102 (Hg hb))
  refine Hc (hK6 _ _ (G5 (fun K117 hK117=>G5 fun K118 hK118=>G3 (JLh (BL s102.1) (G4 G G) G (JLh (BL (!s102.1)) (Yu (b:=s102.1) G G) G (G9 (hK118 _ _ (Gz [(0,E2 boxes),(3,OW 1025 4 Gj.av s3),(4,.dptr [G1 s102.2.1,G1 s102.2.2.1,G1 s102.2.2.2.1,G1 s102.2.2.2.2]),(69,BL (!s102.1))] [(1025,.spare 82 4 s3.length s3.length)] 1026 rfl rfl rfl ⟨⟨_,rfl,.same⟩,ø⟩ rfl (by repeat' (first | exact .ptr | constructor)) (Gp G (fun hb=>?_) (fun hb=>?_))))))))))
  ·
   replace h:=Gy hb h
   refine G5 fun K119 hK119=>G3 (JLh (OW 1025 4 Gj.av s3) (G4 G G) G (JLh (OW 1025 4 Gj.av s3) (G8 G G) G (G9 (hK119 _ _ (Gx (⟨[E9 s3],[],ø,G,⟨⟨_,G,.conv (.list G)⟩,ø⟩,G,congrArg (fun r:(List Gj)=>(E9 r:AV)) (Option.some.inj h)⟩))))))
  ·
   replace h:=Hp hb h
   refine Gq (hK117 _ _ (G3 (JLh (OW 1025 4 Gj.av s3) (G4 G G) G (JLh (.agg [G1 s102.2.1,G1 s102.2.2.1,G1 s102.2.2.2.1,G1 s102.2.2.2.2]) (Gi Gf5 G G G) G (JLh (E9 [(Gj.mk (G6.mk s102.2.1 s102.2.2.1) s102.2.2.2.1 s102.2.2.2.2)]) (Hs (xs:=[.agg [G1 s102.2.1,G1 s102.2.2.1,G1 s102.2.2.2.1,G1 s102.2.2.2.2]]) G ⟨G,G,ø⟩ Yi Gc8 G G G G) G ?_)))))
   obtain⟨ha120,h⟩:=Hr h
   refine JLh (OW 1025 4 Gj.av (s3++[(Gj.mk (G6.mk s102.2.1 s102.2.2.1) s102.2.2.2.1 s102.2.2.2.2)])) (Qx (f:=Gj.av) (xs:=s3) (ys:=[(Gj.mk (G6.mk s102.2.1 s102.2.2.1) s102.2.2.2.1 s102.2.2.2.2)]) G G G G Yi J71 ha120 (fun _=>G) (.inl G) G) G (JLh (OW 1025 4 Gj.av (s3++[(Gj.mk (G6.mk s102.2.1 s102.2.2.1) s102.2.2.2.1 s102.2.2.2.2)])) (G8 G G) G (G9 (e3 _ _ m3 (s3++[(Gj.mk (G6.mk s102.2.1 s102.2.2.1) s102.2.2.2.1 s102.2.2.2.2)]) (app1 hn3 h) (by omega) ⟨⟨.same rfl,.same rfl,ø⟩,⟨⟨_,rfl,.same⟩,ø⟩,rfl⟩)))

def Zi (a:G6) (b:G6):Option Bool:=
 some (((decide (a.Load < b.Load))&&(decide (b.Load < a.Discharge)))&&(decide (a.Discharge < b.Discharge)))
theorem G80 (a:G6) (b:G6) (r:Bool) (h:Zi a b=some r):Pure Tryz.prog 40 [.agg [G1 a.Load,G1 a.Discharge],.agg [G1 b.Load,G1 b.Discharge]] (·=BL r):=by
 unfold Zi at h
 refine H1 [.tmp 4] Tryz.func40 G G (G5 fun K1 hK1=>G3 (JLh (.ptr 1031 0) (Qi (u:=.agg [G1 a.Load,G1 a.Discharge]) (cs:=[G1 a.Load,G1 a.Discharge]) 1031 G G G G G) G (JLh (.ptr 1032 0) (Qi (u:=.agg [G1 b.Load,G1 b.Discharge]) (cs:=[G1 b.Load,G1 b.Discharge]) 1032 G G G G G) G (JLh (BL false) (G8 G G) G (G9 (hK1 _ _ (Gz [(2,.dptr [G1 a.Load,G1 a.Discharge]),(3,.ptr 1032 0)] [(1032,.box 72 [G1 b.Load,G1 b.Discharge])] 1031 rfl rfl rfl ⟨⟨_,rfl,.boxEq rfl rfl⟩,ø⟩ rfl (by exact⟨.ptr,.conv (.same rfl),ø⟩) (Gz [(2,.dptr [G1 a.Load,G1 a.Discharge]),(3,.dptr [G1 b.Load,G1 b.Discharge])] [] 1032 rfl rfl rfl ø rfl (by exact⟨.conv (.same rfl),.ptr,ø⟩) ?_))))))))
 refine G5 fun K2 hK2=>G3 (JLh (.dptr [G1 a.Load,G1 a.Discharge]) (Ge Jv G G G) G (JLh (G1 a.Load) (Gk Gc G G G) G (JLh (.dptr [G1 b.Load,G1 b.Discharge]) (Ge Jv G G G) G (JLh (G1 b.Load) (Gk Gc G G G) G (JLh (BL (decide (a.Load < b.Load))) (Hx G G G) G (JLh (BL (decide (a.Load < b.Load))) (G4 G G) G (Gd (u:=.dptr [G1 b.Load,G1 b.Discharge]) [] G G G .sct ø (fun hc=>Ge Jv G G G) ?_)))))))
 refine Gd (u:=G1 b.Load) [(11,.dptr [G1 b.Load,G1 b.Discharge])] G G G .sct ⟨.all id,ø⟩ (fun hc=>Gk Gc G G G) ?_
 refine Gd (u:=.dptr [G1 a.Discharge]) [] G G G .sct ø (fun hc=>Ge Qb G G G) ?_
 refine Gd (u:=G1 a.Discharge) [(13,.dptr [G1 a.Discharge])] G G G .sct ⟨.all id,ø⟩ (fun hc=>Gk Gc G G G) ?_
 refine Gd (u:=BL (decide (b.Load < a.Discharge))) [(12,G1 b.Load),(14,G1 a.Discharge)] G G G .sct ⟨.all id,.all id,ø⟩ (fun hc=>Hx G G G) ?_
 refine JLh (BL ((decide (a.Load < b.Load))&&(decide (b.Load < a.Discharge)))) (J7 G G G G) G (JLh (BL ((decide (a.Load < b.Load))&&(decide (b.Load < a.Discharge)))) (G4 G G) G (Gd (u:=.dptr [G1 a.Discharge]) [] G G G .sct ø (fun hc=>Ge Qb G G G) ?_))
 refine Gd (u:=G1 a.Discharge) [(18,.dptr [G1 a.Discharge])] G G G .sct ⟨.all id,ø⟩ (fun hc=>Gk Gc G G G) ?_
 refine Gd (u:=.dptr [G1 b.Discharge]) [] G G G .sct ø (fun hc=>Ge Qb G G G) ?_
 refine Gd (u:=G1 b.Discharge) [(20,.dptr [G1 b.Discharge])] G G G .sct ⟨.all id,ø⟩ (fun hc=>Gk Gc G G G) ?_
 refine Gd (u:=BL (decide (a.Discharge < b.Discharge))) [(19,G1 a.Discharge),(21,G1 b.Discharge)] G G G .sct ⟨.all id,.all id,ø⟩ (fun hc=>Hx G G G) ?_
 refine JLh (BL (((decide (a.Load < b.Load))&&(decide (b.Load < a.Discharge)))&&(decide (a.Discharge < b.Discharge)))) (J7 G G G G) G (JLh (BL (((decide (a.Load < b.Load))&&(decide (b.Load < a.Discharge)))&&(decide (a.Discharge < b.Discharge)))) (G8 G G) G (G9 (hK2 _ _ (Gx (⟨[BL (((decide (a.Load < b.Load))&&(decide (b.Load < a.Discharge)))&&(decide (a.Discharge < b.Discharge)))],[],ø,G,⟨⟨_,G,.conv (.same G)⟩,ø⟩,G,congrArg (fun r:Bool=>(BL r:AV)) (Option.some.inj h)⟩)))))

def Hu (n:Int) (low:Int) (high:Int):Option Bool:=
 some ((decide (low≤n))&&(decide (n≤high)))
theorem J6 (n:Int) (low:Int) (high:Int) (r:Bool) (h:Hu n low high=some r):Pure Tryz.prog 157 [G1 n,G1 low,G1 high] (·=BL r):=by
 unfold Hu at h
 refine H1 [.tmp 6] Tryz.func157 G G (G5 fun K1 hK1=>G3 (JLh (BL false) (G8 G G) G (G9 (hK1 _ _ (G5 fun K2 hK2=>G3 (JLh (G1 n) (G4 G G) G (JLh (G1 low) (G4 G G) G (JLh (BL (decide (low≤n))) (G28 G G G) G (JLh (BL (decide (low≤n))) (G4 G G) G (Gd (u:=G1 n) [] G G G .sct ø (fun hc=>G4 G G) ?_))))))))))
 refine Gd (u:=G1 high) [] G G G .sct ø (fun hc=>G4 G G) ?_
 refine Gd (u:=BL (decide (n≤high))) [(11,G1 n),(12,G1 high)] G G G .sct ⟨.all id,.all id,ø⟩ (fun hc=>H81 G G G) ?_
 refine JLh (BL ((decide (low≤n))&&(decide (n≤high)))) (J7 G G G G) G (JLh (BL ((decide (low≤n))&&(decide (n≤high)))) (G8 G G) G (G9 (hK2 _ _ (Gx (⟨[BL ((decide (low≤n))&&(decide (n≤high)))],[],ø,G,⟨⟨_,G,.conv (.same G)⟩,ø⟩,G,congrArg (fun r:Bool=>(BL r:AV)) (Option.some.inj h)⟩)))))

def Yx (c:Ga):Option Bool:=
 each (fun y41 i41 (s41:Unit) nx41=>
  bif ((decide (y41 < 0))||(decide (c.Tiers≤y41))) then
  (some false)
  else
  (bnd (bif decide (0 < (i41:Int)) then Rm ((i41:Int) - 1) some else some 0) fun v49=>
   bnd (bif decide (0 < (i41:Int)) then Qe c.Plugs v49 some else some default) fun y50=>
   bif ((decide (0 < (i41:Int)))&&(decide (y41≤y50))) then
   (some false)
   else
   (nx41 ())))
 (fun(s41:Unit)=>
  bnd (Hu c.X (-500000) 500000) fun r53=>
  bnd (bif r53 then Hu c.Y (-500000) 500000 else some default) fun r54=>
  bnd (bif (r53&&r54) then Hu c.Z (-500000) 500000 else some default) fun r55=>
  bnd (Hu c.Kilos20 0 500000000) fun r57=>
  bnd (bif r57 then Hu c.Kilos40 0 500000000 else some default) fun r58=>
  bnd (bif (r57&&r58) then Hu c.Lash 0 1000000000000 else some default) fun r59=>
  bnd (Hu c.Bay 0 39) fun r61=>
  bnd (bif r61 then Hu c.Row 0 30 else some default) fun r62=>
  bnd (bif (r61&&r62) then Hu c.Tiers 1 10 else some default) fun r63=>
  bnd (bif ((r61&&r62)&&r63) then Hu c.Height 0 40000 else some default) fun r64=>
  some (((((r61&&r62)&&r63)&&r64)&&((r57&&r58)&&r59))&&((r53&&r54)&&r55))) c.Plugs 0 ()
theorem H21 (c:Ga) (r:Bool) (h:Yx c=some r):Pure Tryz.prog 158 [.agg (Ga.cs c)] (·=BL r):=by
 unfold Yx at h
 refine H1 [.tmp 2] Tryz.func158 G G (G5 fun K1 hK1=>G3 (JLh (.ptr 1115 0) (Qi (u:=.agg (Ga.cs c)) (cs:=(Ga.cs c)) 1115 G G G G G) G (JLh (BL false) (G8 G G) G (G9 (hK1 _ _ (Gz [(1,Ef c)] [] 1115 rfl rfl rfl ø rfl (by exact⟨.ptr,ø⟩) (G5 (fun K2 hK2=>G5 fun K3 hK3=>G3 (JLh (G1 0) (G8 G G) G (G9 (hK3 _ _ (Gn ?_))))))))))))
 obtain⟨b41,kx41,hb41,hkx41,h⟩:=J9 h
 refine H7 (fun i41 (s41:Unit)=>each b41 kx41 (List.drop i41 c.Plugs) i41 s41=some r) (fun i41 s41=>[(1,Ef c),(3,En i41)]) (fun i41 s41=>[]) (fun i41=>c.Plugs.length - i41) 0 () h ⟨⟨.same G,.same G,ø⟩,ø,G⟩ ?_
 clear h
 intro i41 s41 hi41 K41 e41
 refine G5 (fun K42 hK42=>G5 fun K43 hK43=>G3 (JLh (En i41) (G4 G G) G (JLh (.dptr [E0 c.Plugs,G1 c.X,G1 c.Y,G1 c.Z]) (Ge Qo G G G) G (JLh (E0 c.Plugs) (Gk Hv G G G) G (H0 (f:=G1) (xs:=c.Plugs) Gt G G (fun hm9=>?_) G G G)))))
 refine JLh (BL (decide ((i41:Int) < (c.Plugs.length:Int)))) (Hx G G G) G (G9 (hK43 _ _ (Gp G (fun hb=>?_) (fun hb=>?_))))
 ·
  have hk41:=Jm hb
  obtain⟨y41,nx41,hy41,hn41,h⟩:=Hy hi41 hk41
  replace h:=Zn hb41 h
  refine Gq (hK42 _ _ (G5 (fun K44 hK44=>Gn (G5 (fun K45 hK45=>G5 (fun K46 hK46=>Jc [] [0,0,0,0,0,0,0,0,0,0,0,0,0,0,0,0] [0,0,0,0,0,0,0,0,0,0,0,0,0,0,0,0] [[]] J3 (by kernel_rfl) rfl rfl ?_))))))
  refine Gb (u:=.dptr [E0 c.Plugs,G1 c.X,G1 c.Y,G1 c.Z]) G G ⟨Gh (Ge Qo G G G) G,ø⟩ (Gb (u:=E0 c.Plugs) G G ⟨Gh (Gk Hv G G G) G,ø⟩ (Gb (u:=En i41) G G ⟨Gh (G4 G G) G,ø⟩ (Gb (u:=.dptr [G1 y41]) G G ⟨Gh (Gv (f:=G1) (xs:=c.Plugs) (y:=y41) G G G Gt hy41 G) G,ø⟩ (Gb (u:=G1 y41) G G ⟨Gh (Gk Gc G G G) G,ø⟩ (Gb (u:=BL (decide (y41 < 0))) G G ⟨Gh (Hx G G G) G,ø⟩ (Gb (u:=BL (decide (y41 < 0))) G G ⟨Gh (G4 G G) G,ø⟩ (Gb (u:=.opt (!(decide (y41 < 0))) (.dptr [E0 c.Plugs,G1 c.X,G1 c.Y,G1 c.Z])) G G ⟨Gg [] G G G .scf ø (fun hc=>Ge Qo G G G) G,ø⟩ (Gb (u:=.opt (!(decide (y41 < 0))) (E0 c.Plugs)) G G ⟨Gg [(20,.dptr [E0 c.Plugs,G1 c.X,G1 c.Y,G1 c.Z])] G G G .scf ⟨.all id,ø⟩ (fun hc=>Gk Hv G G G) G,ø⟩ (Gb (u:=.opt (!(decide (y41 < 0))) (En i41)) G G ⟨Gg [] G G G .scf ø (fun hc=>G4 G G) G,ø⟩ (Gb (u:=.opt (!(decide (y41 < 0))) (.dptr [G1 y41])) G G ⟨Gg [(21,E0 c.Plugs),(22,En i41)] G G G .scf ⟨.all id,.all id,ø⟩ (fun hc=>Gv (f:=G1) (xs:=c.Plugs) (y:=y41) G G G Gt hy41 G) G,ø⟩ (Gb (u:=.opt (!(decide (y41 < 0))) (G1 y41)) G G ⟨Gg [(23,.dptr [G1 y41])] G G G .scf ⟨.all id,ø⟩ (fun hc=>Gk Gc G G G) G,ø⟩ (Gb (u:=.opt (!(decide (y41 < 0))) (.dptr [G1 c.Tiers,G1 c.Height,G1 c.Kilos20,G1 c.Kilos40,G1 c.Lash,E0 c.Plugs,G1 c.X,G1 c.Y,G1 c.Z])) G G ⟨Gg [] G G G .scf ø (fun hc=>Ge Yn G G G) G,ø⟩ (Gb (u:=.opt (!(decide (y41 < 0))) (G1 c.Tiers)) G G ⟨Gg [(25,.dptr [G1 c.Tiers,G1 c.Height,G1 c.Kilos20,G1 c.Kilos40,G1 c.Lash,E0 c.Plugs,G1 c.X,G1 c.Y,G1 c.Z])] G G G .scf ⟨.all id,ø⟩ (fun hc=>Gk Gc G G G) G,ø⟩ ?_)))))))))))))
  refine Gb (u:=.opt (!(decide (y41 < 0))) (BL (decide (c.Tiers≤y41)))) G G ⟨Gg [(24,G1 y41),(26,G1 c.Tiers)] G G G .scf ⟨.all id,.all id,ø⟩ (fun hc=>G28 G G G) G,ø⟩ (Gb (u:=BL ((decide (y41 < 0))||(decide (c.Tiers≤y41)))) G G ⟨Gh (Z5 G G G G) G,ø⟩ (Rb (hK46 _ _ (Gp G (fun hb=>?_) (fun hb=>?_)))))
  ·
   replace h:=Gy hb h
   refine G5 fun K47 hK47=>G3 (JLh (BL false) (G8 G G) G (G9 (hK47 _ _ (Gx (⟨[BL false],[],ø,G,⟨⟨_,G,.conv (.same G)⟩,ø⟩,G,congrArg (fun r:Bool=>(BL r:AV)) (Option.some.inj h)⟩)))))
  ·
   replace h:=Hp hb h
   refine Gq (hK45 _ _ (G5 (fun K48 hK48=>?_)))
   obtain⟨v49,hv49,h⟩:=Gf h
   obtain⟨y50,hy50,h⟩:=Gf h
   refine Jc [] [0,0,0,0,0,0,0,0,0,0,0,0,0,0,0,0] [0,0,0,0,0,0,0,0,0,0,0,0,0,0,0,0] [[]] J3 (by kernel_rfl) rfl rfl ?_
   refine Gb (u:=En i41) G G ⟨Gh (G4 G G) G,ø⟩ (Gb (u:=BL (decide (0 < (i41:Int)))) G G ⟨Gh (Ya G G G) G,ø⟩ (Gb (u:=BL (decide (0 < (i41:Int)))) G G ⟨Gh (G4 G G) G,ø⟩ (Gb (u:=.opt (decide (0 < (i41:Int))) (.dptr [E0 c.Plugs,G1 c.X,G1 c.Y,G1 c.Z])) G G ⟨Gg [] G G G .sct ø (fun hc=>Ge Qo G G G) G,ø⟩ (Gb (u:=.opt (decide (0 < (i41:Int))) (E0 c.Plugs)) G G ⟨Gg [(32,.dptr [E0 c.Plugs,G1 c.X,G1 c.Y,G1 c.Z])] G G G .sct ⟨.all id,ø⟩ (fun hc=>Gk Hv G G G) G,ø⟩ (Gb (u:=.opt (decide (0 < (i41:Int))) (En i41)) G G ⟨Gg [] G G G .sct ø (fun hc=>G4 G G) G,ø⟩ (Gb (u:=.opt (decide (0 < (i41:Int))) (G1 v49)) G G ⟨Gg [(34,En i41)] G G G .sct ⟨.all id,ø⟩ (fun hc=>G1e (G02 (Gy hc hv49)) G G G) G,ø⟩ (Gb (u:=.opt (decide (0 < (i41:Int))) (.dptr [G1 y50])) G G ⟨Gg [(33,E0 c.Plugs),(35,G1 v49)] G G G .sct ⟨.all id,.all id,ø⟩ (fun hc=>(match Q2 (Gy hc hy50) with | ⟨_,hm_,hy_⟩=>Gv (f:=G1) (xs:=c.Plugs) (y:=y50) G G G Gt hy_ hm_)) G,ø⟩ (Gb (u:=.opt (decide (0 < (i41:Int))) (G1 y50)) G G ⟨Gg [(36,.dptr [G1 y50])] G G G .sct ⟨.all id,ø⟩ (fun hc=>Gk Gc G G G) G,ø⟩ (Gb (u:=.opt (decide (0 < (i41:Int))) (.dptr [E0 c.Plugs,G1 c.X,G1 c.Y,G1 c.Z])) G G ⟨Gg [] G G G .sct ø (fun hc=>Ge Qo G G G) G,ø⟩ (Gb (u:=.opt (decide (0 < (i41:Int))) (E0 c.Plugs)) G G ⟨Gg [(38,.dptr [E0 c.Plugs,G1 c.X,G1 c.Y,G1 c.Z])] G G G .sct ⟨.all id,ø⟩ (fun hc=>Gk Hv G G G) G,ø⟩ (Gb (u:=.opt (decide (0 < (i41:Int))) (En i41)) G G ⟨Gg [] G G G .sct ø (fun hc=>G4 G G) G,ø⟩ (Gb (u:=.opt (decide (0 < (i41:Int))) (.dptr [G1 y41])) G G ⟨Gg [(39,E0 c.Plugs),(40,En i41)] G G G .sct ⟨.all id,.all id,ø⟩ (fun hc=>Gv (f:=G1) (xs:=c.Plugs) (y:=y41) G G G Gt hy41 G) G,ø⟩ (Gb (u:=.opt (decide (0 < (i41:Int))) (G1 y41)) G G ⟨Gg [(41,.dptr [G1 y41])] G G G .sct ⟨.all id,ø⟩ (fun hc=>Gk Gc G G G) G,ø⟩ ?_)))))))))))))
   refine Gb (u:=.opt (decide (0 < (i41:Int))) (BL (decide (y41≤y50)))) G G ⟨Gg [(37,G1 y50),(42,G1 y41)] G G G .sct ⟨.all id,.all id,ø⟩ (fun hc=>G28 G G G) G,ø⟩ (Gb (u:=BL ((decide (0 < (i41:Int)))&&(decide (y41≤y50)))) G G ⟨Gh (J7 G G G G) G,ø⟩ (Rb (hK48 _ _ (Gp G (fun hb=>?_) (fun hb=>?_)))))
   ·
    replace h:=Gy hb h
    refine G5 fun K51 hK51=>G3 (JLh (BL false) (G8 G G) G (G9 (hK51 _ _ (Gx (⟨[BL false],[],ø,G,⟨⟨_,G,.conv (.same G)⟩,ø⟩,G,congrArg (fun r:Bool=>(BL r:AV)) (Option.some.inj h)⟩)))))
   ·
    replace h:=Hp hb h
    refine Gq (hK44 _ _ (G3 (JLh (En i41) (G4 G G) G (JLh (G1 ((i41+1:Nat):Int)) (Hj (Hi hk41 hm9) G G G) G (JLh (G1 ((i41+1:Nat):Int)) (G8 G G) G (G9 (e41 _ _ (i41+1) () (app1 hn41 h) (by omega) ⟨⟨.same rfl,.same rfl,ø⟩,ø,rfl⟩)))))))
 ·
  have h:=app1 hkx41 (Hz hi41 (Hg hb))
  refine Hc (hK2 _ _ (G5 fun K52 hK52=>G3 (JLh (.dptr [G1 c.X,G1 c.Y,G1 c.Z]) (Ge Ga6 G G G) G (JLh (G1 c.X) (Gk Gc G G G) G ?_))))
  obtain⟨r53,hr53,h⟩:=Gf h
  refine JLh (BL r53) (Gs (args:=[G1 c.X,G1 (-500000),G1 500000]) G (J6 c.X (-500000) 500000 r53 hr53) Yw ⟨G,G,G,G,G,G,ø⟩) G (JLh (BL r53) (G4 G G) G (Gd (u:=.dptr [G1 c.Y,G1 c.Z]) [] G G G .sct ø (fun hc=>Ge G8b G G G) ?_))
  refine Gd (u:=G1 c.Y) [(49,.dptr [G1 c.Y,G1 c.Z])] G G G .sct ⟨.all id,ø⟩ (fun hc=>Gk Gc G G G) ?_
  obtain⟨r54,hr54,h⟩:=Gf h
  refine Gd (u:=BL r54) [(50,G1 c.Y)] G G G .sct ⟨.all id,ø⟩ (fun hc=>Gs (args:=[G1 c.Y,G1 (-500000),G1 500000]) G (J6 c.Y (-500000) 500000 r54 (Gy hc hr54)) Yw ⟨G,G,G,G,G,G,ø⟩) ?_
  refine JLh (BL (r53&&r54)) (J7 G G G G) G (JLh (BL (r53&&r54)) (G4 G G) G (Gd (u:=.dptr [G1 c.Z]) [] G G G .sct ø (fun hc=>Ge G8a G G G) ?_))
  refine Gd (u:=G1 c.Z) [(54,.dptr [G1 c.Z])] G G G .sct ⟨.all id,ø⟩ (fun hc=>Gk Gc G G G) ?_
  obtain⟨r55,hr55,h⟩:=Gf h
  refine Gd (u:=BL r55) [(55,G1 c.Z)] G G G .sct ⟨.all id,ø⟩ (fun hc=>Gs (args:=[G1 c.Z,G1 (-500000),G1 500000]) G (J6 c.Z (-500000) 500000 r55 (Gy hc hr55)) Yw ⟨G,G,G,G,G,G,ø⟩) ?_
  refine JLh (BL ((r53&&r54)&&r55)) (J7 G G G G) G (JLh (BL ((r53&&r54)&&r55)) (G8 G G) G (G9 (hK52 _ _ (G5 fun K56 hK56=>G3 (JLh (.dptr [G1 c.Kilos20,G1 c.Kilos40,G1 c.Lash,E0 c.Plugs,G1 c.X,G1 c.Y,G1 c.Z]) (Ge Ga9 G G G) G (JLh (G1 c.Kilos20) (Gk Gc G G G) G ?_))))))
  obtain⟨r57,hr57,h⟩:=Gf h
  refine JLh (BL r57) (Gs (args:=[G1 c.Kilos20,G1 0,G1 500000000]) G (J6 c.Kilos20 0 500000000 r57 hr57) Yw ⟨G,G,G,G,G,G,ø⟩) G (JLh (BL r57) (G4 G G) G (Gd (u:=.dptr [G1 c.Kilos40,G1 c.Lash,E0 c.Plugs,G1 c.X,G1 c.Y,G1 c.Z]) [] G G G .sct ø (fun hc=>Ge Ga8 G G G) ?_))
  refine Gd (u:=G1 c.Kilos40) [(62,.dptr [G1 c.Kilos40,G1 c.Lash,E0 c.Plugs,G1 c.X,G1 c.Y,G1 c.Z])] G G G .sct ⟨.all id,ø⟩ (fun hc=>Gk Gc G G G) ?_
  obtain⟨r58,hr58,h⟩:=Gf h
  refine Gd (u:=BL r58) [(63,G1 c.Kilos40)] G G G .sct ⟨.all id,ø⟩ (fun hc=>Gs (args:=[G1 c.Kilos40,G1 0,G1 500000000]) G (J6 c.Kilos40 0 500000000 r58 (Gy hc hr58)) Yw ⟨G,G,G,G,G,G,ø⟩) ?_
  refine JLh (BL (r57&&r58)) (J7 G G G G) G (JLh (BL (r57&&r58)) (G4 G G) G (Gd (u:=.dptr [G1 c.Lash,E0 c.Plugs,G1 c.X,G1 c.Y,G1 c.Z]) [] G G G .sct ø (fun hc=>Ge Ga7 G G G) ?_))
  refine Gd (u:=G1 c.Lash) [(67,.dptr [G1 c.Lash,E0 c.Plugs,G1 c.X,G1 c.Y,G1 c.Z])] G G G .sct ⟨.all id,ø⟩ (fun hc=>Gk Gc G G G) ?_
  obtain⟨r59,hr59,h⟩:=Gf h
  refine Gd (u:=BL r59) [(68,G1 c.Lash)] G G G .sct ⟨.all id,ø⟩ (fun hc=>Gs (args:=[G1 c.Lash,G1 0,G1 1000000000000]) G (J6 c.Lash 0 1000000000000 r59 (Gy hc hr59)) Yw ⟨G,G,G,G,G,G,ø⟩) ?_
  refine JLh (BL ((r57&&r58)&&r59)) (J7 G G G G) G (JLh (BL ((r57&&r58)&&r59)) (G8 G G) G (G9 (hK56 _ _ (G5 fun K60 hK60=>G3 (JLh (Ef c) (Ge G22 G G G) G (JLh (G1 c.Bay) (Gk Gc G G G) G ?_))))))
  obtain⟨r61,hr61,h⟩:=Gf h
  refine JLh (BL r61) (Gs (args:=[G1 c.Bay,G1 0,G1 39]) G (J6 c.Bay 0 39 r61 hr61) Yw ⟨G,G,G,G,G,G,ø⟩) G (JLh (BL r61) (G4 G G) G (Gd (u:=.dptr [G1 c.Row,BL c.Deck,G1 c.Tiers,G1 c.Height,G1 c.Kilos20,G1 c.Kilos40,G1 c.Lash,E0 c.Plugs,G1 c.X,G1 c.Y,G1 c.Z]) [] G G G .sct ø (fun hc=>Ge G21 G G G) ?_))
  refine Gd (u:=G1 c.Row) [(75,.dptr [G1 c.Row,BL c.Deck,G1 c.Tiers,G1 c.Height,G1 c.Kilos20,G1 c.Kilos40,G1 c.Lash,E0 c.Plugs,G1 c.X,G1 c.Y,G1 c.Z])] G G G .sct ⟨.all id,ø⟩ (fun hc=>Gk Gc G G G) ?_
  obtain⟨r62,hr62,h⟩:=Gf h
  refine Gd (u:=BL r62) [(76,G1 c.Row)] G G G .sct ⟨.all id,ø⟩ (fun hc=>Gs (args:=[G1 c.Row,G1 0,G1 30]) G (J6 c.Row 0 30 r62 (Gy hc hr62)) Yw ⟨G,G,G,G,G,G,ø⟩) ?_
  refine JLh (BL (r61&&r62)) (J7 G G G G) G (JLh (BL (r61&&r62)) (G4 G G) G (Gd (u:=.dptr [G1 c.Tiers,G1 c.Height,G1 c.Kilos20,G1 c.Kilos40,G1 c.Lash,E0 c.Plugs,G1 c.X,G1 c.Y,G1 c.Z]) [] G G G .sct ø (fun hc=>Ge Yn G G G) ?_))
  refine Gd (u:=G1 c.Tiers) [(80,.dptr [G1 c.Tiers,G1 c.Height,G1 c.Kilos20,G1 c.Kilos40,G1 c.Lash,E0 c.Plugs,G1 c.X,G1 c.Y,G1 c.Z])] G G G .sct ⟨.all id,ø⟩ (fun hc=>Gk Gc G G G) ?_
  obtain⟨r63,hr63,h⟩:=Gf h
  refine Gd (u:=BL r63) [(81,G1 c.Tiers)] G G G .sct ⟨.all id,ø⟩ (fun hc=>Gs (args:=[G1 c.Tiers,G1 1,G1 10]) G (J6 c.Tiers 1 10 r63 (Gy hc hr63)) Yw ⟨G,G,G,G,G,G,ø⟩) ?_
  refine JLh (BL ((r61&&r62)&&r63)) (J7 G G G G) G (JLh (BL ((r61&&r62)&&r63)) (G4 G G) G (Gd (u:=.dptr [G1 c.Height,G1 c.Kilos20,G1 c.Kilos40,G1 c.Lash,E0 c.Plugs,G1 c.X,G1 c.Y,G1 c.Z]) [] G G G .sct ø (fun hc=>Ge Gaa G G G) ?_))
  refine Gd (u:=G1 c.Height) [(85,.dptr [G1 c.Height,G1 c.Kilos20,G1 c.Kilos40,G1 c.Lash,E0 c.Plugs,G1 c.X,G1 c.Y,G1 c.Z])] G G G .sct ⟨.all id,ø⟩ (fun hc=>Gk Gc G G G) ?_
  obtain⟨r64,hr64,h⟩:=Gf h
  refine Gd (u:=BL r64) [(86,G1 c.Height)] G G G .sct ⟨.all id,ø⟩ (fun hc=>Gs (args:=[G1 c.Height,G1 0,G1 40000]) G (J6 c.Height 0 40000 r64 (Gy hc hr64)) Yw ⟨G,G,G,G,G,G,ø⟩) ?_
  refine JLh (BL (((r61&&r62)&&r63)&&r64)) (J7 G G G G) G (JLh (BL (((r61&&r62)&&r63)&&r64)) (G4 G G) G (Gd (u:=BL ((r57&&r58)&&r59)) [] G G G .sct ø (fun hc=>G4 G G) ?_))
  refine JLh (BL ((((r61&&r62)&&r63)&&r64)&&((r57&&r58)&&r59))) (J7 G G G G) G (JLh (BL ((((r61&&r62)&&r63)&&r64)&&((r57&&r58)&&r59))) (G4 G G) G (Gd (u:=BL ((r53&&r54)&&r55)) [] G G G .sct ø (fun hc=>G4 G G) ?_))
  refine JLh (BL (((((r61&&r62)&&r63)&&r64)&&((r57&&r58)&&r59))&&((r53&&r54)&&r55))) (J7 G G G G) G (JLh (BL (((((r61&&r62)&&r63)&&r64)&&((r57&&r58)&&r59))&&((r53&&r54)&&r55))) (G8 G G) G (G9 (hK60 _ _ (Gx (⟨[BL (((((r61&&r62)&&r63)&&r64)&&((r57&&r58)&&r59))&&((r53&&r54)&&r55))],[],ø,G,⟨⟨_,G,.conv (.same G)⟩,ø⟩,G,congrArg (fun r:Bool=>(BL r:AV)) (Option.some.inj h)⟩)))))

def R3 (rows:List Int) (row:Int):Option Bool:=
 each (fun y17 i17 (s17:Unit) nx17=>
  bif decide (y17=row) then
  (some true)
  else
  (nx17 ()))
 (fun(s17:Unit)=>
  some false) rows 0 ()
theorem H20 (rows:List Int) (row:Int) (r:Bool) (h:R3 rows row=some r):Pure Tryz.prog 159 [E0 rows,G1 row] (·=BL r):=by
 unfold R3 at h
 refine H1 [.tmp 4] Tryz.func159 G G (G5 fun K1 hK1=>G3 (JLh (BL false) (G8 G G) G (G9 (hK1 _ _ (G5 (fun K2 hK2=>G5 fun K3 hK3=>G3 (JLh (G1 0) (G8 G G) G (G9 (hK3 _ _ (Gn ?_))))))))))
 obtain⟨b17,kx17,hb17,hkx17,h⟩:=J9 h
 refine H7 (fun i17 (s17:Unit)=>each b17 kx17 (List.drop i17 rows) i17 s17=some r) (fun i17 s17=>[(0,E0 rows),(1,G1 row),(5,En i17)]) (fun i17 s17=>[]) (fun i17=>rows.length - i17) 0 () h ⟨⟨.same G,.same G,.same G,ø⟩,ø,G⟩ ?_
 clear h
 intro i17 s17 hi17 K17 e17
 refine G5 (fun K18 hK18=>G5 fun K19 hK19=>G3 (JLh (En i17) (G4 G G) G (JLh (E0 rows) (G4 G G) G (H0 (f:=G1) (xs:=rows) Gt G G (fun hm8=>?_) G G G))))
 refine JLh (BL (decide ((i17:Int) < (rows.length:Int)))) (Hx G G G) G (G9 (hK19 _ _ (Gp G (fun hb=>?_) (fun hb=>?_))))
 ·
  have hk17:=Jm hb
  obtain⟨y17,nx17,hy17,hn17,h⟩:=Hy hi17 hk17
  replace h:=Zn hb17 h
  refine Gq (hK18 _ _ (G5 (fun K20 hK20=>Gn (G5 fun K21 hK21=>G3 (JLh (E0 rows) (G4 G G) G (JLh (En i17) (G4 G G) G (JLh (.dptr [G1 y17]) (Gv (f:=G1) (xs:=rows) (y:=y17) G G G Gt hy17 G) G (JLh (G1 y17) (Gk Gc G G G) G (JLh (G1 row) (G4 G G) G (JLh (BL (decide (y17=row))) (Rt G G G) G (G9 (hK21 _ _ (Gp G (fun hb=>?_) (fun hb=>?_))))))))))))))
  ·
   replace h:=Gy hb h
   refine G5 fun K22 hK22=>G3 (JLh (BL true) (G8 G G) G (G9 (hK22 _ _ (Gx (⟨[BL true],[],ø,G,⟨⟨_,G,.conv (.same G)⟩,ø⟩,G,congrArg (fun r:Bool=>(BL r:AV)) (Option.some.inj h)⟩)))))
  ·
   replace h:=Hp hb h
   refine Gq (hK20 _ _ (G3 (JLh (En i17) (G4 G G) G (JLh (G1 ((i17+1:Nat):Int)) (Hj (Hi hk17 hm8) G G G) G (JLh (G1 ((i17+1:Nat):Int)) (G8 G G) G (G9 (e17 _ _ (i17+1) () (app1 hn17 h) (by omega) ⟨⟨.same rfl,.same rfl,.same rfl,ø⟩,ø,rfl⟩)))))))
 ·
  have h:=app1 hkx17 (Hz hi17 (Hg hb))
  refine Hc (hK2 _ _ (G5 fun K23 hK23=>G3 (JLh (BL false) (G8 G G) G (G9 (hK23 _ _ (Gx (⟨[BL false],[],ø,G,⟨⟨_,G,.conv (.same G)⟩,ø⟩,G,congrArg (fun r:Bool=>(BL r:AV)) (Option.some.inj h)⟩)))))))

def Ri (F:Nat) (s:J0):Option Bool:=
 bnd (Hu (s.Columns.length:Int) 1 200) fun r4=>
 bif ((!r4)||(decide (40 < (s.Covers.length:Int)))) then
 (some false)
 else
 (each (fun y8 i8 (s8:Unit) nx8=>
   bnd (Yx y8) fun r14=>
   bif (!r14) then
   (some false)
   else
   (need (decide ((i8:Int)≤9223372036854775807)) <|
    upto (fun i34 (s34:Unit) nx34=>
     Qe s.Columns (i34:Int) fun y39=>
     bnd (bif decide (y39.Bay=y8.Bay) then Qe s.Columns (i34:Int) some else some default) fun y41=>
     bnd (bif ((decide (y39.Bay=y8.Bay))&&(decide (y41.Row=y8.Row))) then Qe s.Columns (i34:Int) some else some default) fun y42=>
     bif (((decide (y39.Bay=y8.Bay))&&(decide (y41.Row=y8.Row)))&&(y42.Deck==y8.Deck)) then
     (some false)
     else
     (nx34 ()))
    (fun(s34:Unit)=>
     nx8 ()) (i8:Int).toNat 0 ()))
  (fun(s8:Unit)=>
   each (fun y46 i46 (s46:Unit) nx46=>
    bnd (Hu y46.Bay 0 39) fun r53=>
    bif ((!r53)||(decide ((y46.Rows.length:Int)=0))) then
    (some false)
    else
    (each (fun y56 i56 (s56:Unit) nx56=>
      bnd (Hu y56 0 30) fun r62=>
      bnd (bif ((!(!r62))&&(decide (0 < (i56:Int)))) then Rm ((i56:Int) - 1) some else some 0) fun v63=>
      bnd (bif ((!(!r62))&&(decide (0 < (i56:Int)))) then Qe y46.Rows v63 some else some default) fun y64=>
      bif ((!r62)||((decide (0 < (i56:Int)))&&(decide (y56≤y64)))) then
      (some false)
      else
      (need (decide ((i46:Int)≤9223372036854775807)) <|
       upto (fun i84 (s84:Unit) nx84=>
        Qe s.Covers (i84:Int) fun y89=>
        bnd (bif decide (y89.Bay=y46.Bay) then Qe s.Covers (i84:Int) some else some default) fun y91=>
        bnd (bif decide (y89.Bay=y46.Bay) then R3 y91.Rows y56 else some default) fun r92=>
        bif ((decide (y89.Bay=y46.Bay))&&r92) then
        (some false)
        else
        (nx84 ()))
       (fun(s84:Unit)=>
        nx56 ()) (i46:Int).toNat 0 ()))
     (fun(s56:Unit)=>
      nx46 ()) y46.Rows 0 ()))
   (fun(s46:Unit)=>
    some true) s.Covers 0 ()) s.Columns 0 ())
theorem G81 (F:Nat) (s:J0) (r:Bool) (h:Ri F s=some r):Pure Tryz.prog 75 [.agg (J0.cs s)] (·=BL r):=by
 unfold Ri at h
 refine H1 [.tmp 2] Tryz.func75 G G (G5 fun K1 hK1=>G3 (JLh (.ptr 1063 0) (Qi (u:=.agg (J0.cs s)) (cs:=(J0.cs s)) 1063 G G G G G) G (JLh (BL false) (G8 G G) G (G9 (hK1 _ _ ?_)))))
 refine Gz [(1,Ed s)] [] 1063 rfl rfl rfl ø rfl (by exact⟨.ptr,ø⟩) (G5 (fun K2 hK2=>G5 fun K3 hK3=>G3 (JLh (Ed s) (Ge Hw G G G) G (JLh (E5 s.Columns) (Gk J8 G G G) G (H0 (f:=Ga.av) (xs:=s.Columns) Hb G G (fun hm11=>?_) G G G)))))
 obtain⟨r4,hr4,h⟩:=Gf h
 refine JLh (BL r4) (Gs (args:=[En s.Columns.length,G1 1,G1 200]) G (J6 (s.Columns.length:Int) 1 200 r4 hr4) Yw ⟨G,G,G,G,G,G,ø⟩) G (JLh (BL (!r4)) (Yu (b:=r4) G G) G (JLh (BL (!r4)) (G4 G G) G (Gd (u:=.dptr [E4 s.Covers,G1 s.Light.Kilos,G1 s.Light.X,G1 s.Light.Y,G1 s.Light.Z,E7 s.Rows,E6 s.Frames,E8 s.Tanks,G1 s.G7.Tolerance,G1 s.G7.Trim,G1 s.G7.List_,G1 s.G7.Stability]) [] G G G .scf ø (fun hc=>Ge Qs G G G) ?_)))
 refine Gd (u:=E4 s.Covers) [(15,.dptr [E4 s.Covers,G1 s.Light.Kilos,G1 s.Light.X,G1 s.Light.Y,G1 s.Light.Z,E7 s.Rows,E6 s.Frames,E8 s.Tanks,G1 s.G7.Tolerance,G1 s.G7.Trim,G1 s.G7.List_,G1 s.G7.Stability])] G G G .scf ⟨.all id,ø⟩ (fun hc=>Gk Rw G G G) ?_
 refine Gd (u:=En s.Covers.length) [(16,E4 s.Covers)] G G G .scf ⟨.all id,ø⟩ (fun hc=>Jp (f:=Gm.av) (xs:=s.Covers) J2 G G) ?_
 refine Gd (u:=BL (decide (40 < (s.Covers.length:Int)))) [(17,En s.Covers.length)] G G G .scf ⟨.all id,ø⟩ (fun hc=>Ya G G G) ?_
 refine JLh (BL ((!r4)||(decide (40 < (s.Covers.length:Int))))) (Z5 G G G G) G (G9 (hK3 _ _ (Gp G (fun hb=>?_) (fun hb=>?_))))
 ·
  replace h:=Gy hb h
  refine G5 fun K5 hK5=>G3 (JLh (BL false) (G8 G G) G (G9 (hK5 _ _ (Gx (⟨[BL false],[],ø,G,⟨⟨_,G,.conv (.same G)⟩,ø⟩,G,congrArg (fun r:Bool=>(BL r:AV)) (Option.some.inj h)⟩)))))
 ·
  replace h:=Hp hb h
  refine Gq (hK2 _ _ (G5 (fun K6 hK6=>G5 fun K7 hK7=>G3 (JLh (G1 0) (G8 G G) G (G9 (hK7 _ _ (Gn ?_)))))))
  obtain⟨b8,kx8,hb8,hkx8,h⟩:=J9 h
  refine H7 (fun i8 (s8:Unit)=>each b8 kx8 (List.drop i8 s.Columns) i8 s8=some r) (fun i8 s8=>[(1,Ed s),(3,En i8)]) (fun i8 s8=>[]) (fun i8=>s.Columns.length - i8) 0 () h ⟨⟨.same G,.same G,ø⟩,ø,G⟩ ?_
  clear h
  intro i8 s8 hi8 K8 e8
  refine G5 (fun K9 hK9=>G5 fun K10 hK10=>G3 (JLh (En i8) (G4 G G) G (JLh (Ed s) (Ge Hw G G G) G (JLh (E5 s.Columns) (Gk J8 G G G) G (H0 (f:=Ga.av) (xs:=s.Columns) Hb G G (fun hm23=>?_) G G G)))))
  refine JLh (BL (decide ((i8:Int) < (s.Columns.length:Int)))) (Hx G G G) G (G9 (hK10 _ _ (Gp G (fun hb=>?_) (fun hb=>?_))))
  ·
   have hk8:=Jm hb
   obtain⟨y8,nx8,hy8,hn8,h⟩:=Hy hi8 hk8
   replace h:=Zn hb8 h
   refine Gq (hK9 _ _ (G5 (fun K11 hK11=>Gn (G5 (fun K12 hK12=>G5 fun K13 hK13=>G3 (JLh (Ed s) (Ge Hw G G G) G (JLh (E5 s.Columns) (Gk J8 G G G) G (JLh (En i8) (G4 G G) G (JLh (Ef y8) (Gv (f:=Ga.av) (xs:=s.Columns) (y:=y8) G G G Hb hy8 G) G (JLh (.agg (Ga.cs y8)) (Gi Y6 G G G) G ?_))))))))))
   obtain⟨r14,hr14,h⟩:=Gf h
   refine JLh (BL r14) (Gs (args:=[.agg (Ga.cs y8)]) G (H21 y8 r14 hr14) Jda ⟨G,G,ø⟩) G (JLh (BL (!r14)) (Yu (b:=r14) G G) G (G9 (hK13 _ _ (Gp G (fun hb=>?_) (fun hb=>?_)))))
   ·
    replace h:=Gy hb h
    refine G5 fun K15 hK15=>G3 (JLh (BL false) (G8 G G) G (G9 (hK15 _ _ (Gx (⟨[BL false],[],ø,G,⟨⟨_,G,.conv (.same G)⟩,ø⟩,G,congrArg (fun r:Bool=>(BL r:AV)) (Option.some.inj h)⟩)))))
   ·
    replace h:=Hp hb h
    refine Gq (hK12 _ _ (G5 fun K16 hK16=>G3 (JLh (G1 0) (G8 G G) G (G9 (hK16 _ _ (Gn ?_))))))
    obtain⟨hx34,h⟩:=Hr h
    obtain⟨b34,kx34,hb34,hkx34,h⟩:=G59 h
    refine H7 (fun i34 (s34:Unit)=>upto b34 kx34 ((i8:Int).toNat - i34) i34 s34=some r) (fun i34 s34=>[(1,Ed s),(3,En i8),(4,En i34)]) (fun i34 s34=>[]) (fun i34=>(i8:Int).toNat - i34) 0 () h ⟨⟨.same G,.same G,.same G,ø⟩,ø,G⟩ ?_
    clear h
    intro i34 s34 hi34 K34 e34
    refine G5 (fun K35 hK35=>G5 fun K36 hK36=>G3 (JLh (En i34) (G4 G G) G (JLh (En i8) (G4 G G) G (JLh (BL (decide ((i34:Int) < (i8:Int)))) (Hx G G G) G (G9 (hK36 _ _ (Gp G (fun hb=>?_) (fun hb=>?_))))))))
    ·
     have hk34:=G33 hb
     obtain⟨nx34,hn34,h⟩:=G2f hi34 hk34
     replace h:=H82 hb34 h
     refine Gq (hK35 _ _ (G5 (fun K37 hK37=>Gn (G5 (fun K38 hK38=>?_)))))
     obtain⟨m40,y39,hm40,hy39,h⟩:=Q6 h
     obtain⟨y41,hy41,h⟩:=Gf h
     obtain⟨y42,hy42,h⟩:=Gf h
     refine Jc [] [0,0,0,0,0,0,0,0,0,0,0,0,0,0,0,0,0,0,0,0,0,0,0,0,0,0,0,0,0,0,0,0,0,0,0,0,0,0,0,0,0,0,0] [0,0,0,0,0,0,0,0,0,0,0,0,0,0,0,0,0,0,0,0,0,0,0,0,0,0,0,0,0,0,0,0,0,0,0,0,0,0,0,0,0,0,0] [[]] J3 (by kernel_rfl) rfl rfl ?_
     refine Gb (u:=Ed s) G G ⟨Gh (Ge Hw G G G) G,ø⟩ (Gb (u:=E5 s.Columns) G G ⟨Gh (Gk J8 G G G) G,ø⟩ (Gb (u:=En i34) G G ⟨Gh (G4 G G) G,ø⟩ (Gb (u:=Ef y39) G G ⟨Gh (Gv (f:=Ga.av) (xs:=s.Columns) (y:=y39) G G G Hb hy39 hm40) G,ø⟩ (Gb (u:=Ef y39) G G ⟨Gh (Ge G22 G G G) G,ø⟩ (Gb (u:=G1 y39.Bay) G G ⟨Gh (Gk Gc G G G) G,ø⟩ (Gb (u:=Ed s) G G ⟨Gh (Ge Hw G G G) G,ø⟩ (Gb (u:=E5 s.Columns) G G ⟨Gh (Gk J8 G G G) G,ø⟩ (Gb (u:=En i8) G G ⟨Gh (G4 G G) G,ø⟩ (Gb (u:=Ef y8) G G ⟨Gh (Gv (f:=Ga.av) (xs:=s.Columns) (y:=y8) G G G Hb hy8 G) G,ø⟩ (Gb (u:=Ef y8) G G ⟨Gh (Ge G22 G G G) G,ø⟩ (Gb (u:=G1 y8.Bay) G G ⟨Gh (Gk Gc G G G) G,ø⟩ (Gb (u:=BL (decide (y39.Bay=y8.Bay))) G G ⟨Gh (Rt G G G) G,ø⟩ (Gb (u:=BL (decide (y39.Bay=y8.Bay))) G G ⟨Gh (G4 G G) G,ø⟩ ?_)))))))))))))
     refine Gb (u:=.opt (decide (y39.Bay=y8.Bay)) (Ed s)) G G ⟨Gg [] G G G .sct ø (fun hc=>Ge Hw G G G) G,ø⟩ (Gb (u:=.opt (decide (y39.Bay=y8.Bay)) (E5 s.Columns)) G G ⟨Gg [(53,Ed s)] G G G .sct ⟨.all id,ø⟩ (fun hc=>Gk J8 G G G) G,ø⟩ (Gb (u:=.opt (decide (y39.Bay=y8.Bay)) (En i34)) G G ⟨Gg [] G G G .sct ø (fun hc=>G4 G G) G,ø⟩ (Gb (u:=.opt (decide (y39.Bay=y8.Bay)) (Ef y41)) G G ⟨Gg [(54,E5 s.Columns),(55,En i34)] G G G .sct ⟨.all id,.all id,ø⟩ (fun hc=>(match Q2 (Gy hc hy41) with | ⟨_,hm_,hy_⟩=>Gv (f:=Ga.av) (xs:=s.Columns) (y:=y41) G G G Hb hy_ hm_)) G,ø⟩ (Gb (u:=.opt (decide (y39.Bay=y8.Bay)) (.dptr ((Ga.cs y41).drop 1))) G G ⟨Gg [(56,Ef y41)] G G G .sct ⟨.all id,ø⟩ (fun hc=>Ge G21 G G G) G,ø⟩ (Gb (u:=.opt (decide (y39.Bay=y8.Bay)) (G1 y41.Row)) G G ⟨Gg [(57,.dptr ((Ga.cs y41).drop 1))] G G G .sct ⟨.all id,ø⟩ (fun hc=>Gk Gc G G G) G,ø⟩ (Gb (u:=.opt (decide (y39.Bay=y8.Bay)) (Ed s)) G G ⟨Gg [] G G G .sct ø (fun hc=>Ge Hw G G G) G,ø⟩ (Gb (u:=.opt (decide (y39.Bay=y8.Bay)) (E5 s.Columns)) G G ⟨Gg [(59,Ed s)] G G G .sct ⟨.all id,ø⟩ (fun hc=>Gk J8 G G G) G,ø⟩ (Gb (u:=.opt (decide (y39.Bay=y8.Bay)) (En i8)) G G ⟨Gg [] G G G .sct ø (fun hc=>G4 G G) G,ø⟩ (Gb (u:=.opt (decide (y39.Bay=y8.Bay)) (Ef y8)) G G ⟨Gg [(60,E5 s.Columns),(61,En i8)] G G G .sct ⟨.all id,.all id,ø⟩ (fun hc=>Gv (f:=Ga.av) (xs:=s.Columns) (y:=y8) G G G Hb hy8 G) G,ø⟩ (Gb (u:=.opt (decide (y39.Bay=y8.Bay)) (.dptr ((Ga.cs y8).drop 1))) G G ⟨Gg [(62,Ef y8)] G G G .sct ⟨.all id,ø⟩ (fun hc=>Ge G21 G G G) G,ø⟩ (Gb (u:=.opt (decide (y39.Bay=y8.Bay)) (G1 y8.Row)) G G ⟨Gg [(63,.dptr ((Ga.cs y8).drop 1))] G G G .sct ⟨.all id,ø⟩ (fun hc=>Gk Gc G G G) G,ø⟩ (Gb (u:=.opt (decide (y39.Bay=y8.Bay)) (BL (decide (y41.Row=y8.Row)))) G G ⟨Gg [(58,G1 y41.Row),(64,G1 y8.Row)] G G G .sct ⟨.all id,.all id,ø⟩ (fun hc=>Rt G G G) G,ø⟩ (Gb (u:=BL ((decide (y39.Bay=y8.Bay))&&(decide (y41.Row=y8.Row)))) G G ⟨Gh (J7 G G G G) G,ø⟩ ?_)))))))))))))
     refine Gb (u:=BL ((decide (y39.Bay=y8.Bay))&&(decide (y41.Row=y8.Row)))) G G ⟨Gh (G4 G G) G,ø⟩ (Gb (u:=.opt ((decide (y39.Bay=y8.Bay))&&(decide (y41.Row=y8.Row))) (Ed s)) G G ⟨Gg [] G G G .sct ø (fun hc=>Ge Hw G G G) G,ø⟩ (Gb (u:=.opt ((decide (y39.Bay=y8.Bay))&&(decide (y41.Row=y8.Row))) (E5 s.Columns)) G G ⟨Gg [(68,Ed s)] G G G .sct ⟨.all id,ø⟩ (fun hc=>Gk J8 G G G) G,ø⟩ (Gb (u:=.opt ((decide (y39.Bay=y8.Bay))&&(decide (y41.Row=y8.Row))) (En i34)) G G ⟨Gg [] G G G .sct ø (fun hc=>G4 G G) G,ø⟩ (Gb (u:=.opt ((decide (y39.Bay=y8.Bay))&&(decide (y41.Row=y8.Row))) (Ef y42)) G G ⟨Gg [(69,E5 s.Columns),(70,En i34)] G G G .sct ⟨.all id,.all id,ø⟩ (fun hc=>(match Q2 (Gy hc hy42) with | ⟨_,hm_,hy_⟩=>Gv (f:=Ga.av) (xs:=s.Columns) (y:=y42) G G G Hb hy_ hm_)) G,ø⟩ (Gb (u:=.opt ((decide (y39.Bay=y8.Bay))&&(decide (y41.Row=y8.Row))) (.dptr ((Ga.cs y42).drop 2))) G G ⟨Gg [(71,Ef y42)] G G G .sct ⟨.all id,ø⟩ (fun hc=>Ge G61 G G G) G,ø⟩ (Gb (u:=.opt ((decide (y39.Bay=y8.Bay))&&(decide (y41.Row=y8.Row))) (BL y42.Deck)) G G ⟨Gg [(72,.dptr ((Ga.cs y42).drop 2))] G G G .sct ⟨.all id,ø⟩ (fun hc=>Gk G60 G G G) G,ø⟩ (Gb (u:=.opt ((decide (y39.Bay=y8.Bay))&&(decide (y41.Row=y8.Row))) (Ed s)) G G ⟨Gg [] G G G .sct ø (fun hc=>Ge Hw G G G) G,ø⟩ (Gb (u:=.opt ((decide (y39.Bay=y8.Bay))&&(decide (y41.Row=y8.Row))) (E5 s.Columns)) G G ⟨Gg [(74,Ed s)] G G G .sct ⟨.all id,ø⟩ (fun hc=>Gk J8 G G G) G,ø⟩ (Gb (u:=.opt ((decide (y39.Bay=y8.Bay))&&(decide (y41.Row=y8.Row))) (En i8)) G G ⟨Gg [] G G G .sct ø (fun hc=>G4 G G) G,ø⟩ (Gb (u:=.opt ((decide (y39.Bay=y8.Bay))&&(decide (y41.Row=y8.Row))) (Ef y8)) G G ⟨Gg [(75,E5 s.Columns),(76,En i8)] G G G .sct ⟨.all id,.all id,ø⟩ (fun hc=>Gv (f:=Ga.av) (xs:=s.Columns) (y:=y8) G G G Hb hy8 G) G,ø⟩ (Gb (u:=.opt ((decide (y39.Bay=y8.Bay))&&(decide (y41.Row=y8.Row))) (.dptr ((Ga.cs y8).drop 2))) G G ⟨Gg [(77,Ef y8)] G G G .sct ⟨.all id,ø⟩ (fun hc=>Ge G61 G G G) G,ø⟩ (Gb (u:=.opt ((decide (y39.Bay=y8.Bay))&&(decide (y41.Row=y8.Row))) (BL y8.Deck)) G G ⟨Gg [(78,.dptr ((Ga.cs y8).drop 2))] G G G .sct ⟨.all id,ø⟩ (fun hc=>Gk G60 G G G) G,ø⟩ (Gb (u:=.opt ((decide (y39.Bay=y8.Bay))&&(decide (y41.Row=y8.Row))) (BL (y42.Deck==y8.Deck))) G G ⟨Gg [(73,BL y42.Deck),(79,BL y8.Deck)] G G G .sct ⟨.all id,.all id,ø⟩ (fun hc=>Jef Hfe G G G) G,ø⟩ ?_)))))))))))))
     refine Gb (u:=BL (((decide (y39.Bay=y8.Bay))&&(decide (y41.Row=y8.Row)))&&(y42.Deck==y8.Deck))) G G ⟨Gh (J7 G G G G) G,ø⟩ (Rb (hK38 _ _ (Gp G (fun hb=>?_) (fun hb=>?_))))
     ·
      replace h:=Gy hb h
      refine G5 fun K43 hK43=>G3 (JLh (BL false) (G8 G G) G (G9 (hK43 _ _ (Gx (⟨[BL false],[],ø,G,⟨⟨_,G,.conv (.same G)⟩,ø⟩,G,congrArg (fun r:Bool=>(BL r:AV)) (Option.some.inj h)⟩)))))
     ·
      replace h:=Hp hb h
      refine Gq (hK37 _ _ (G3 (JLh (En i34) (G4 G G) G (JLh (G1 ((i34+1:Nat):Int)) (Hj (Hi hk34 (G07 hx34)) G G G) G (JLh (G1 ((i34+1:Nat):Int)) (G8 G G) G (G9 (e34 _ _ (i34+1) () (app1 hn34 h) (by omega) ⟨⟨.same rfl,.same rfl,.same rfl,ø⟩,ø,rfl⟩)))))))
    ·
     have h:=app1 hkx34 (G30 hi34 (Rx hb))
     refine Hc (hK11 _ _ (G3 (JLh (En i8) (G4 G G) G (JLh (G1 ((i8+1:Nat):Int)) (Hj (Hi hk8 hm23) G G G) G (JLh (G1 ((i8+1:Nat):Int)) (G8 G G) G (G9 (e8 _ _ (i8+1) () (app1 hn8 h) (by omega) ⟨⟨.same rfl,.same rfl,ø⟩,ø,rfl⟩)))))))
  ·
   have h:=app1 hkx8 (Hz hi8 (Hg hb))
   refine Hc (hK6 _ _ (G5 (fun K44 hK44=>G5 fun K45 hK45=>G3 (JLh (G1 0) (G8 G G) G (G9 (hK45 _ _ (Gn ?_)))))))
   obtain⟨b46,kx46,hb46,hkx46,h⟩:=J9 h
   refine H7 (fun i46 (s46:Unit)=>each b46 kx46 (List.drop i46 s.Covers) i46 s46=some r) (fun i46 s46=>[(1,Ed s),(5,En i46)]) (fun i46 s46=>[]) (fun i46=>s.Covers.length - i46) 0 () h ⟨⟨.same G,.same G,ø⟩,ø,G⟩ ?_
   clear h
   intro i46 s46 hi46 K46 e46
   refine G5 (fun K47 hK47=>G5 fun K48 hK48=>G3 (JLh (En i46) (G4 G G) G (JLh (.dptr [E4 s.Covers,G1 s.Light.Kilos,G1 s.Light.X,G1 s.Light.Y,G1 s.Light.Z,E7 s.Rows,E6 s.Frames,E8 s.Tanks,G1 s.G7.Tolerance,G1 s.G7.Trim,G1 s.G7.List_,G1 s.G7.Stability]) (Ge Qs G G G) G (JLh (E4 s.Covers) (Gk Rw G G G) G (H0 (f:=Gm.av) (xs:=s.Covers) J2 G G (fun hm85=>?_) G G G)))))
   refine JLh (BL (decide ((i46:Int) < (s.Covers.length:Int)))) (Hx G G G) G (G9 (hK48 _ _ (Gp G (fun hb=>?_) (fun hb=>?_))))
   ·
    have hk46:=Jm hb
    obtain⟨y46,nx46,hy46,hn46,h⟩:=Hy hi46 hk46
    replace h:=Zn hb46 h
    refine Gq (hK47 _ _ (G5 (fun K49 hK49=>Gn ?_)))
    refine G5 fun K50 hK50=>G3 (JLh (.dptr [E4 s.Covers,G1 s.Light.Kilos,G1 s.Light.X,G1 s.Light.Y,G1 s.Light.Z,E7 s.Rows,E6 s.Frames,E8 s.Tanks,G1 s.G7.Tolerance,G1 s.G7.Trim,G1 s.G7.List_,G1 s.G7.Stability]) (Ge Qs G G G) G (JLh (E4 s.Covers) (Gk Rw G G G) G (JLh (En i46) (G4 G G) G (JLh (.dptr [G1 y46.Bay,E0 y46.Rows]) (Gv (f:=Gm.av) (xs:=s.Covers) (y:=y46) G G G J2 hy46 G) G (JLh (.agg [G1 y46.Bay,E0 y46.Rows]) (Gi Yv G G G) G (JLh (.ptr 1064 0) (Jn 1064 2 G67 G G) G (Jb (u:=.junk) (J4 (u:=.agg [G1 y46.Bay,E0 y46.Rows]) (ds:=[G1 y46.Bay,E0 y46.Rows]) G98 G G G G G G G G) (G9 (hK50 _ _ ?_)))))))))
    refine Gz [(1,Ed s),(5,En i46),(6,.dptr [G1 y46.Bay,E0 y46.Rows])] [] 1064 rfl rfl rfl ø rfl (by exact⟨.conv (.same rfl),.conv (.same rfl),.ptr,ø⟩) (G5 (fun K51 hK51=>G5 fun K52 hK52=>G3 (JLh (.dptr [G1 y46.Bay,E0 y46.Rows]) (Ge G00 G G G) G (JLh (G1 y46.Bay) (Gk Gc G G G) G ?_))))
    obtain⟨r53,hr53,h⟩:=Gf h
    refine JLh (BL r53) (Gs (args:=[G1 y46.Bay,G1 0,G1 39]) G (J6 y46.Bay 0 39 r53 hr53) Yw ⟨G,G,G,G,G,G,ø⟩) G (JLh (BL (!r53)) (Yu (b:=r53) G G) G (JLh (BL (!r53)) (G4 G G) G (Gd (u:=.dptr [E0 y46.Rows]) [] G G G .scf ø (fun hc=>Ge Jz G G G) ?_)))
    refine Gd (u:=E0 y46.Rows) [(99,.dptr [E0 y46.Rows])] G G G .scf ⟨.all id,ø⟩ (fun hc=>Gk Hv G G G) ?_
    refine Gd (u:=En y46.Rows.length) [(100,E0 y46.Rows)] G G G .scf ⟨.all id,ø⟩ (fun hc=>Jp (f:=G1) (xs:=y46.Rows) Gt G G) ?_
    refine Gd (u:=BL (decide ((y46.Rows.length:Int)=0))) [(101,En y46.Rows.length)] G G G .scf ⟨.all id,ø⟩ (fun hc=>Rt G G G) ?_
    refine JLh (BL ((!r53)||(decide ((y46.Rows.length:Int)=0)))) (Z5 G G G G) G (G9 (hK52 _ _ (Gp G (fun hb=>?_) (fun hb=>?_))))
    ·
     replace h:=Gy hb h
     refine G5 fun K54 hK54=>G3 (JLh (BL false) (G8 G G) G (G9 (hK54 _ _ (Gx (⟨[BL false],[],ø,G,⟨⟨_,G,.conv (.same G)⟩,ø⟩,G,congrArg (fun r:Bool=>(BL r:AV)) (Option.some.inj h)⟩)))))
    ·
     replace h:=Hp hb h
     refine Gq (hK51 _ _ (G5 fun K55 hK55=>G3 (JLh (G1 0) (G8 G G) G (G9 (hK55 _ _ (Gn ?_))))))
     obtain⟨b56,kx56,hb56,hkx56,h⟩:=J9 h
     refine H7 (fun i56 (s56:Unit)=>each b56 kx56 (List.drop i56 y46.Rows) i56 s56=some r) (fun i56 s56=>[(1,Ed s),(5,En i46),(6,.dptr [G1 y46.Bay,E0 y46.Rows]),(7,En i56)]) (fun i56 s56=>[]) (fun i56=>y46.Rows.length - i56) 0 () h ⟨(by repeat' constructor),ø,rfl⟩ ?_
     clear h
     intro i56 s56 hi56 K56 e56
     refine G5 (fun K57 hK57=>G5 fun K58 hK58=>G3 (JLh (En i56) (G4 G G) G (JLh (.dptr [E0 y46.Rows]) (Ge Jz G G G) G (JLh (E0 y46.Rows) (Gk Hv G G G) G (H0 (f:=G1) (xs:=y46.Rows) Gt G G (fun hm107=>?_) G G G)))))
     refine JLh (BL (decide ((i56:Int) < (y46.Rows.length:Int)))) (Hx G G G) G (G9 (hK58 _ _ (Gp G (fun hb=>?_) (fun hb=>?_))))
     ·
      have hk56:=Jm hb
      obtain⟨y56,nx56,hy56,hn56,h⟩:=Hy hi56 hk56
      replace h:=Zn hb56 h
      refine Gq (hK57 _ _ (G5 (fun K59 hK59=>Gn (G5 (fun K60 hK60=>G5 (fun K61 hK61=>?_))))))
      obtain⟨r62,hr62,h⟩:=Gf h
      obtain⟨v63,hv63,h⟩:=Gf h
      obtain⟨y64,hy64,h⟩:=Gf h
      refine Jc [] [0,0,0,0,0,0,0,0,0,0,0,0,0,0,0,0,0,0,0,0,0,0,0,0,0] [0,0,0,0,0,0,0,0,0,0,0,0,0,0,0,0,0,0,0,0,0,0,0,0,0] [[]] J3 (by kernel_rfl) rfl rfl ?_
      refine Gb (u:=.dptr [E0 y46.Rows]) G G ⟨Gh (Ge Jz G G G) G,ø⟩ (Gb (u:=E0 y46.Rows) G G ⟨Gh (Gk Hv G G G) G,ø⟩ (Gb (u:=En i56) G G ⟨Gh (G4 G G) G,ø⟩ (Gb (u:=.dptr [G1 y56]) G G ⟨Gh (Gv (f:=G1) (xs:=y46.Rows) (y:=y56) G G G Gt hy56 G) G,ø⟩ (Gb (u:=G1 y56) G G ⟨Gh (Gk Gc G G G) G,ø⟩ (Gb (u:=BL r62) G G ⟨Gh (Gs (args:=[G1 y56,G1 0,G1 30]) G (J6 y56 0 30 r62 hr62) Yw ⟨G,G,G,G,G,G,ø⟩) G,ø⟩ (Gb (u:=BL (!r62)) G G ⟨Gh (Yu (b:=r62) G G) G,ø⟩ (Gb (u:=BL (!r62)) G G ⟨Gh (G4 G G) G,ø⟩ (Gb (u:=.opt (!(!r62)) (En i56)) G G ⟨Gg [] G G G .scf ø (fun hc=>G4 G G) G,ø⟩ (Gb (u:=.opt (!(!r62)) (BL (decide (0 < (i56:Int))))) G G ⟨Gg [(119,En i56)] G G G .scf ⟨.all id,ø⟩ (fun hc=>Ya G G G) G,ø⟩ (Gb (u:=.opt (!(!r62)) (BL (decide (0 < (i56:Int))))) G G ⟨Gg [(120,BL (decide (0 < (i56:Int))))] G G G .scf ⟨.all id,ø⟩ (fun hc=>G4 G G) G,ø⟩ (Gb (u:=.opt ((!(!r62))&&(decide (0 < (i56:Int)))) (.dptr [E0 y46.Rows])) G G ⟨Gg [] G G G .optt ø (fun hc=>Ge Jz G G G) G,ø⟩ (Gb (u:=.opt ((!(!r62))&&(decide (0 < (i56:Int)))) (E0 y46.Rows)) G G ⟨Gg [(122,.dptr [E0 y46.Rows])] G G G .optt ⟨.all id,ø⟩ (fun hc=>Gk Hv G G G) G,ø⟩ (Gb (u:=.opt ((!(!r62))&&(decide (0 < (i56:Int)))) (En i56)) G G ⟨Gg [] G G G .optt ø (fun hc=>G4 G G) G,ø⟩ ?_)))))))))))))
      refine Gb (u:=.opt ((!(!r62))&&(decide (0 < (i56:Int)))) (G1 v63)) G G ⟨Gg [(124,En i56)] G G G .optt ⟨.all id,ø⟩ (fun hc=>G1e (G02 (Gy hc hv63)) G G G) G,ø⟩ (Gb (u:=.opt ((!(!r62))&&(decide (0 < (i56:Int)))) (.dptr [G1 y64])) G G ⟨Gg [(123,E0 y46.Rows),(125,G1 v63)] G G G .optt ⟨.all id,.all id,ø⟩ (fun hc=>(match Q2 (Gy hc hy64) with | ⟨_,hm_,hy_⟩=>Gv (f:=G1) (xs:=y46.Rows) (y:=y64) G G G Gt hy_ hm_)) G,ø⟩ (Gb (u:=.opt ((!(!r62))&&(decide (0 < (i56:Int)))) (G1 y64)) G G ⟨Gg [(126,.dptr [G1 y64])] G G G .optt ⟨.all id,ø⟩ (fun hc=>Gk Gc G G G) G,ø⟩ (Gb (u:=.opt ((!(!r62))&&(decide (0 < (i56:Int)))) (.dptr [E0 y46.Rows])) G G ⟨Gg [] G G G .optt ø (fun hc=>Ge Jz G G G) G,ø⟩ (Gb (u:=.opt ((!(!r62))&&(decide (0 < (i56:Int)))) (E0 y46.Rows)) G G ⟨Gg [(128,.dptr [E0 y46.Rows])] G G G .optt ⟨.all id,ø⟩ (fun hc=>Gk Hv G G G) G,ø⟩ (Gb (u:=.opt ((!(!r62))&&(decide (0 < (i56:Int)))) (En i56)) G G ⟨Gg [] G G G .optt ø (fun hc=>G4 G G) G,ø⟩ (Gb (u:=.opt ((!(!r62))&&(decide (0 < (i56:Int)))) (.dptr [G1 y56])) G G ⟨Gg [(129,E0 y46.Rows),(130,En i56)] G G G .optt ⟨.all id,.all id,ø⟩ (fun hc=>Gv (f:=G1) (xs:=y46.Rows) (y:=y56) G G G Gt hy56 G) G,ø⟩ (Gb (u:=.opt ((!(!r62))&&(decide (0 < (i56:Int)))) (G1 y56)) G G ⟨Gg [(131,.dptr [G1 y56])] G G G .optt ⟨.all id,ø⟩ (fun hc=>Gk Gc G G G) G,ø⟩ (Gb (u:=.opt ((!(!r62))&&(decide (0 < (i56:Int)))) (BL (decide (y56≤y64)))) G G ⟨Gg [(127,G1 y64),(132,G1 y56)] G G G .optt ⟨.all id,.all id,ø⟩ (fun hc=>G28 G G G) G,ø⟩ (Gb (u:=.opt (!(!r62)) (BL ((decide (0 < (i56:Int)))&&(decide (y56≤y64))))) G G ⟨Gg [(121,BL (decide (0 < (i56:Int)))),(133,_)] G G G .scf ⟨.all id,.part,ø⟩ (fun hc=>J7 G G G G) G,ø⟩ (Gb (u:=BL ((!r62)||((decide (0 < (i56:Int)))&&(decide (y56≤y64))))) G G ⟨Gh (Z5 G G G G) G,ø⟩ (Rb ?_)))))))))))
      refine hK61 _ _ (Gp G (fun hb=>?_) (fun hb=>?_))
      ·
       replace h:=Gy hb h
       refine G5 fun K65 hK65=>G3 (JLh (BL false) (G8 G G) G (G9 (hK65 _ _ (Gx (⟨[BL false],[],ø,G,⟨⟨_,G,.conv (.same G)⟩,ø⟩,G,congrArg (fun r:Bool=>(BL r:AV)) (Option.some.inj h)⟩)))))
      ·
       replace h:=Hp hb h
       refine Gq (hK60 _ _ (G5 fun K66 hK66=>G3 (JLh (G1 0) (G8 G G) G (G9 (hK66 _ _ (Gn ?_))))))
       obtain⟨hx84,h⟩:=Hr h
       obtain⟨b84,kx84,hb84,hkx84,h⟩:=G59 h
       refine H7 (fun i84 (s84:Unit)=>upto b84 kx84 ((i46:Int).toNat - i84) i84 s84=some r) (fun i84 s84=>[(1,Ed s),(5,En i46),(6,.dptr [G1 y46.Bay,E0 y46.Rows]),(7,En i56),(8,En i84)]) (fun i84 s84=>[]) (fun i84=>(i46:Int).toNat - i84) 0 () h ⟨(by repeat' constructor),ø,rfl⟩ ?_
       clear h
       intro i84 s84 hi84 K84 e84
       refine G5 (fun K85 hK85=>G5 fun K86 hK86=>G3 (JLh (En i84) (G4 G G) G (JLh (En i46) (G4 G G) G (JLh (BL (decide ((i84:Int) < (i46:Int)))) (Hx G G G) G (G9 (hK86 _ _ (Gp G (fun hb=>?_) (fun hb=>?_))))))))
       ·
        have hk84:=G33 hb
        obtain⟨nx84,hn84,h⟩:=G2f hi84 hk84
        replace h:=H82 hb84 h
        refine Gq (hK85 _ _ (G5 (fun K87 hK87=>Gn (G5 (fun K88 hK88=>?_)))))
        obtain⟨m90,y89,hm90,hy89,h⟩:=Q6 h
        obtain⟨y91,hy91,h⟩:=Gf h
        obtain⟨r92,hr92,h⟩:=Gf h
        refine Jc [] [0,0,0,0,0,0,0,0,0,0,0,0,0,0,0,0,0,0,0,0,0,0,0] [0,0,0,0,0,0,0,0,0,0,0,0,0,0,0,0,0,0,0,0,0,0,0] [[]] J3 (by kernel_rfl) rfl rfl ?_
        refine Gb (u:=.dptr [E4 s.Covers,G1 s.Light.Kilos,G1 s.Light.X,G1 s.Light.Y,G1 s.Light.Z,E7 s.Rows,E6 s.Frames,E8 s.Tanks,G1 s.G7.Tolerance,G1 s.G7.Trim,G1 s.G7.List_,G1 s.G7.Stability]) G G ⟨Gh (Ge Qs G G G) G,ø⟩ (Gb (u:=E4 s.Covers) G G ⟨Gh (Gk Rw G G G) G,ø⟩ (Gb (u:=En i84) G G ⟨Gh (G4 G G) G,ø⟩ (Gb (u:=.dptr [G1 y89.Bay,E0 y89.Rows]) G G ⟨Gh (Gv (f:=Gm.av) (xs:=s.Covers) (y:=y89) G G G J2 hy89 hm90) G,ø⟩ (Gb (u:=.dptr [G1 y89.Bay,E0 y89.Rows]) G G ⟨Gh (Ge G00 G G G) G,ø⟩ (Gb (u:=G1 y89.Bay) G G ⟨Gh (Gk Gc G G G) G,ø⟩ (Gb (u:=.dptr [G1 y46.Bay,E0 y46.Rows]) G G ⟨Gh (Ge G00 G G G) G,ø⟩ (Gb (u:=G1 y46.Bay) G G ⟨Gh (Gk Gc G G G) G,ø⟩ (Gb (u:=BL (decide (y89.Bay=y46.Bay))) G G ⟨Gh (Rt G G G) G,ø⟩ (Gb (u:=BL (decide (y89.Bay=y46.Bay))) G G ⟨Gh (G4 G G) G,ø⟩ (Gb (u:=.opt (decide (y89.Bay=y46.Bay)) (.dptr [E4 s.Covers,G1 s.Light.Kilos,G1 s.Light.X,G1 s.Light.Y,G1 s.Light.Z,E7 s.Rows,E6 s.Frames,E8 s.Tanks,G1 s.G7.Tolerance,G1 s.G7.Trim,G1 s.G7.List_,G1 s.G7.Stability])) G G ⟨Gg [] G G G .sct ø (fun hc=>Ge Qs G G G) G,ø⟩ (Gb (u:=.opt (decide (y89.Bay=y46.Bay)) (E4 s.Covers)) G G ⟨Gg [(151,.dptr [E4 s.Covers,G1 s.Light.Kilos,G1 s.Light.X,G1 s.Light.Y,G1 s.Light.Z,E7 s.Rows,E6 s.Frames,E8 s.Tanks,G1 s.G7.Tolerance,G1 s.G7.Trim,G1 s.G7.List_,G1 s.G7.Stability])] G G G .sct ⟨.all id,ø⟩ (fun hc=>Gk Rw G G G) G,ø⟩ (Gb (u:=.opt (decide (y89.Bay=y46.Bay)) (En i84)) G G ⟨Gg [] G G G .sct ø (fun hc=>G4 G G) G,ø⟩ (Gb (u:=.opt (decide (y89.Bay=y46.Bay)) (.dptr [G1 y91.Bay,E0 y91.Rows])) G G ⟨Gg [(152,E4 s.Covers),(153,En i84)] G G G .sct ⟨.all id,.all id,ø⟩ (fun hc=>(match Q2 (Gy hc hy91) with | ⟨_,hm_,hy_⟩=>Gv (f:=Gm.av) (xs:=s.Covers) (y:=y91) G G G J2 hy_ hm_)) G,ø⟩ ?_)))))))))))))
        refine Gb (u:=.opt (decide (y89.Bay=y46.Bay)) (.dptr [E0 y91.Rows])) G G ⟨Gg [(154,.dptr [G1 y91.Bay,E0 y91.Rows])] G G G .sct ⟨.all id,ø⟩ (fun hc=>Ge Jz G G G) G,ø⟩ (Gb (u:=.opt (decide (y89.Bay=y46.Bay)) (E0 y91.Rows)) G G ⟨Gg [(155,.dptr [E0 y91.Rows])] G G G .sct ⟨.all id,ø⟩ (fun hc=>Gk Hv G G G) G,ø⟩ (Gb (u:=.opt (decide (y89.Bay=y46.Bay)) (.dptr [E0 y46.Rows])) G G ⟨Gg [] G G G .sct ø (fun hc=>Ge Jz G G G) G,ø⟩ (Gb (u:=.opt (decide (y89.Bay=y46.Bay)) (E0 y46.Rows)) G G ⟨Gg [(157,.dptr [E0 y46.Rows])] G G G .sct ⟨.all id,ø⟩ (fun hc=>Gk Hv G G G) G,ø⟩ (Gb (u:=.opt (decide (y89.Bay=y46.Bay)) (En i56)) G G ⟨Gg [] G G G .sct ø (fun hc=>G4 G G) G,ø⟩ (Gb (u:=.opt (decide (y89.Bay=y46.Bay)) (.dptr [G1 y56])) G G ⟨Gg [(158,E0 y46.Rows),(159,En i56)] G G G .sct ⟨.all id,.all id,ø⟩ (fun hc=>Gv (f:=G1) (xs:=y46.Rows) (y:=y56) G G G Gt hy56 G) G,ø⟩ (Gb (u:=.opt (decide (y89.Bay=y46.Bay)) (G1 y56)) G G ⟨Gg [(160,.dptr [G1 y56])] G G G .sct ⟨.all id,ø⟩ (fun hc=>Gk Gc G G G) G,ø⟩ (Gb (u:=.opt (decide (y89.Bay=y46.Bay)) (BL r92)) G G ⟨Gg [(156,E0 y91.Rows),(161,G1 y56)] G G G .sct ⟨.all id,.all id,ø⟩ (fun hc=>Gs (args:=[E0 y91.Rows,G1 y56]) G (H20 y91.Rows y56 r92 (Gy hc hr92)) Jd9 ⟨G,G,G,G,ø⟩) G,ø⟩ (Gb (u:=BL ((decide (y89.Bay=y46.Bay))&&r92)) G G ⟨Gh (J7 G G G G) G,ø⟩ (Rb ?_)))))))))
        refine hK88 _ _ (Gp G (fun hb=>?_) (fun hb=>?_))
        ·
         replace h:=Gy hb h
         refine G5 fun K93 hK93=>G3 (JLh (BL false) (G8 G G) G (G9 (hK93 _ _ (Gx (⟨[BL false],[],ø,G,⟨⟨_,G,.conv (.same G)⟩,ø⟩,G,congrArg (fun r:Bool=>(BL r:AV)) (Option.some.inj h)⟩)))))
        ·
         replace h:=Hp hb h
         refine Gq (hK87 _ _ (G3 (JLh (En i84) (G4 G G) G (JLh (G1 ((i84+1:Nat):Int)) (Hj (Hi hk84 (G07 hx84)) G G G) G (JLh (G1 ((i84+1:Nat):Int)) (G8 G G) G (G9 (e84 _ _ (i84+1) () (app1 hn84 h) (by omega) ⟨(by repeat' constructor),ø,rfl⟩)))))))
       ·
        have h:=app1 hkx84 (G30 hi84 (Rx hb))
        refine Hc (hK59 _ _ (G3 (JLh (En i56) (G4 G G) G (JLh (G1 ((i56+1:Nat):Int)) (Hj (Hi hk56 hm107) G G G) G (JLh (G1 ((i56+1:Nat):Int)) (G8 G G) G (G9 (e56 _ _ (i56+1) () (app1 hn56 h) (by omega) ⟨(by repeat' constructor),ø,rfl⟩)))))))
     ·
      have h:=app1 hkx56 (Hz hi56 (Hg hb))
      refine Hc (hK49 _ _ (G3 (JLh (En i46) (G4 G G) G (JLh (G1 ((i46+1:Nat):Int)) (Hj (Hi hk46 hm85) G G G) G (JLh (G1 ((i46+1:Nat):Int)) (G8 G G) G (G9 (e46 _ _ (i46+1) () (app1 hn46 h) (by omega) ⟨⟨.same rfl,.same rfl,ø⟩,ø,rfl⟩)))))))
   ·
    have h:=app1 hkx46 (Hz hi46 (Hg hb))
    refine Hc (hK44 _ _ (G5 fun K94 hK94=>G3 (JLh (BL true) (G8 G G) G (G9 (hK94 _ _ (Gx (⟨[BL true],[],ø,G,⟨⟨_,G,.conv (.same G)⟩,ø⟩,G,congrArg (fun r:Bool=>(BL r:AV)) (Option.some.inj h)⟩)))))))

def Ro (s:J0):Option Int:=
 each (fun y18 i18 (s18:Int) nx18=>
  jp (fun kj21=>
   bif ((decide ((i18:Int)=0))||(decide (s18 < y18.Tiers))) then
   (kj21 y18.Tiers)
   else
   (kj21 s18)) fun(j21:Int)=>
  nx18 j21)
 (fun(s18:Int)=>
  some s18) s.Columns 0 0
theorem G63 (s:J0) (r:Int) (h:Ro s=some r):Pure Tryz.prog 110 [.agg (J0.cs s)] (·=G1 r):=by
 unfold Ro at h
 refine H1 [.tmp 2] Tryz.func110 G G (G5 fun K1 hK1=>G3 (JLh (.ptr 1080 0) (Qi (u:=.agg (J0.cs s)) (cs:=(J0.cs s)) 1080 G G G G G) G (JLh (G1 0) (G8 G G) G (G9 (hK1 _ _ ?_)))))
 refine Gz [(1,Ed s)] [] 1080 rfl rfl rfl ø rfl (by exact⟨.ptr,ø⟩) (G5 fun K2 hK2=>G3 (JLh (G1 0) (G8 G G) G (G9 (hK2 _ _ (G5 (fun K3 hK3=>G5 fun K4 hK4=>G3 (JLh (G1 0) (G8 G G) G (G9 (hK4 _ _ (Gn ?_))))))))))
 obtain⟨b18,kx18,hb18,hkx18,h⟩:=J9 h
 refine H7 (fun i18 (s18:Int)=>each b18 kx18 (List.drop i18 s.Columns) i18 s18=some r) (fun i18 s18=>[(1,Ed s),(3,G1 s18),(4,En i18)]) (fun i18 s18=>[]) (fun i18=>s.Columns.length - i18) 0 0 h ⟨⟨.same G,.same G,.same G,ø⟩,ø,G⟩ ?_
 clear h
 intro i18 s18 hi18 K18 e18
 refine G5 (fun K19 hK19=>G5 fun K20 hK20=>G3 (JLh (En i18) (G4 G G) G (JLh (Ed s) (Ge Hw G G G) G (JLh (E5 s.Columns) (Gk J8 G G G) G (H0 (f:=Ga.av) (xs:=s.Columns) Hb G G (fun hm8=>?_) G G G)))))
 refine JLh (BL (decide ((i18:Int) < (s.Columns.length:Int)))) (Hx G G G) G (G9 (hK20 _ _ (Gp G (fun hb=>?_) (fun hb=>?_))))
 ·
  have hk18:=Jm hb
  obtain⟨y18,nx18,hy18,hn18,h⟩:=Hy hi18 hk18
  replace h:=Zn hb18 h
  refine Gq (hK19 _ _ ?_)
  obtain⟨kj21,hkj21,h⟩:=G40 h
  refine G0b (fun j21:Int=>kj21 j21=some r) (fun j21=>[(1,Ed s),(3,G1 j21),(4,En i18)]) (fun j21=>[]) (fun Kj21 ej21=>?_) ?_
  ·
   refine Gn (G5 fun K22 hK22=>G3 (JLh (En i18) (G4 G G) G (JLh (BL (decide ((i18:Int)=0))) (Rt G G G) G (JLh (BL (decide ((i18:Int)=0))) (G4 G G) G (Gd (u:=Ed s) [] G G G .scf ø (fun hc=>Ge Hw G G G) ?_)))))
   refine Gd (u:=E5 s.Columns) [(15,Ed s)] G G G .scf ⟨.all id,ø⟩ (fun hc=>Gk J8 G G G) ?_
   refine Gd (u:=En i18) [] G G G .scf ø (fun hc=>G4 G G) ?_
   refine Gd (u:=Ef y18) [(16,E5 s.Columns),(17,En i18)] G G G .scf ⟨.all id,.all id,ø⟩ (fun hc=>Gv (f:=Ga.av) (xs:=s.Columns) (y:=y18) G G G Hb hy18 G) ?_
   refine Gd (u:=.dptr ((Ga.cs y18).drop 3)) [(18,Ef y18)] G G G .scf ⟨.all id,ø⟩ (fun hc=>Ge Yn G G G) ?_
   refine Gd (u:=G1 y18.Tiers) [(19,.dptr ((Ga.cs y18).drop 3))] G G G .scf ⟨.all id,ø⟩ (fun hc=>Gk Gc G G G) ?_
   refine Gd (u:=G1 s18) [] G G G .scf ø (fun hc=>G4 G G) ?_
   refine Gd (u:=BL (decide (s18 < y18.Tiers))) [(20,G1 y18.Tiers),(21,G1 s18)] G G G .scf ⟨.all id,.all id,ø⟩ (fun hc=>Ya G G G) ?_
   refine JLh (BL ((decide ((i18:Int)=0))||(decide (s18 < y18.Tiers)))) (Z5 G G G G) G (G9 (hK22 _ _ (Gp G (fun hb=>?_) (fun hb=>?_))))
   ·
    replace h:=Gy hb h
    refine G3 (JLh (Ed s) (Ge Hw G G G) G (JLh (E5 s.Columns) (Gk J8 G G G) G (JLh (En i18) (G4 G G) G (JLh (Ef y18) (Gv (f:=Ga.av) (xs:=s.Columns) (y:=y18) G G G Hb hy18 G) G (JLh (.dptr ((Ga.cs y18).drop 3)) (Ge Yn G G G) G (JLh (G1 y18.Tiers) (Gk Gc G G G) G (JLh (G1 y18.Tiers) (G8 G G) G (G9 (ej21 _ _ y18.Tiers h ⟨⟨.same G,.same G,.same G,ø⟩,ø,G⟩)))))))))
   ·
    replace h:=Hp hb h
    refine Gq (ej21 _ _ s18 h ⟨⟨.same G,.same G,.same G,ø⟩,ø,G⟩)
  ·intro j21 h
   replace h:=app1 hkj21 h
   refine G3 (JLh (En i18) (G4 G G) G (JLh (G1 ((i18+1:Nat):Int)) (Hj (Hi hk18 hm8) G G G) G (JLh (G1 ((i18+1:Nat):Int)) (G8 G G) G (G9 (e18 _ _ (i18+1) j21 (app1 hn18 h) (by omega) ⟨⟨.same rfl,.same rfl,.same rfl,ø⟩,ø,rfl⟩)))))
 ·
  have h:=app1 hkx18 (Hz hi18 (Hg hb))
  refine Hc (hK3 _ _ (G5 fun K23 hK23=>G3 (JLh (G1 s18) (G4 G G) G (JLh (G1 s18) (G8 G G) G (G9 (hK23 _ _ (Gx (⟨[G1 s18],[],ø,G,⟨⟨_,G,.conv (.same G)⟩,ø⟩,G,congrArg (fun r:Int=>(G1 r:AV)) (Option.some.inj h)⟩))))))))

def Yk (F:Nat) (tiers:Int) (whole:Int) (half:Int):Option Int:=
 loop (fun nx12 (s12:Int)=>
  bnd (J83 s12 2) fun v15=>
  Rm (v15*tiers) fun v16=>
  bif decide (v16 < whole) then
  (Rm (s12+2) fun v17=>
   nx12 v17)
  else
  (loop (fun nx30 (s30:Int)=>
    Rm (s30*tiers) fun v33=>
    Rm (2*whole) fun v34=>
    Rm (v34+half) fun v35=>
    bif decide (v33 < v35) then
    (Rm (s30+1) fun v36=>
     nx30 v36)
    else
    (bif decide (s30 < s12) then
     (some s12)
     else
     (some s30))) F 0)) F 0
theorem G9e (F:Nat) (tiers:Int) (whole:Int) (half:Int) (r:Int) (h:Yk F tiers whole half=some r):Pure Tryz.prog 109 [G1 tiers,G1 whole,G1 half] (·=G1 r):=by
 unfold Yk at h
 refine H1 [.tmp 6] Tryz.func109 G G (G5 fun K1 hK1=>G3 (JLh (G1 0) (G8 G G) G (G9 (hK1 _ _ (G5 fun K2 hK2=>G3 (JLh (G1 0) (G8 G G) G (G9 (hK2 _ _ (G5 (fun K3 hK3=>Gn ?_))))))))))
 obtain⟨b12,hb12,h⟩:=G16 h
 refine H7 (fun i12 (s12:Int)=>loop b12 i12 s12=some r) (fun i12 s12=>[(0,G1 tiers),(1,G1 whole),(2,G1 half),(7,G1 s12)]) (fun i12 s12=>[]) (fun i12=>i12) F 0 h ⟨(by repeat' constructor),ø,rfl⟩ ?_
 clear h
 intro i12 s12 hi12 K12 e12
 obtain⟨m12,nx12,hm_12,hn12,h⟩:=Zg hi12
 replace h:=H78 hb12 h
 refine G5 (fun K13 hK13=>G5 fun K14 hK14=>G3 (JLh (G1 s12) (G4 G G) G ?_))
 obtain⟨v15,hv15,h⟩:=Gf h
 refine JLh (G1 v15) (A_quo (Gf6 hv15).1 (Gf6 hv15).2 G G G) G (JLh (G1 tiers) (G4 G G) G ?_)
 obtain⟨v16,hv16,h⟩:=Hf h
 refine JLh (G1 v16) (G77 hv16 G G G) G (JLh (G1 whole) (G4 G G) G (JLh (BL (decide (v16 < whole))) (Hx G G G) G (G9 (hK14 _ _ (Gp G (fun hb=>?_) (fun hb=>?_))))))
 ·
  replace h:=Gy hb h
  refine Gq (hK13 _ _ (Gn (G3 (JLh (G1 s12) (G4 G G) G ?_))))
  obtain⟨v17,hv17,h⟩:=Hf h
  refine JLh (G1 v17) (Hj hv17 G G G) G (JLh (G1 v17) (G8 G G) G (G9 (e12 _ _ m12 v17 (app1 hn12 h) (by omega) ⟨(by repeat' constructor),ø,rfl⟩)))
 ·
  replace h:=Hp hb h
  refine Hc (hK3 _ _ (G5 fun K18 hK18=>G3 (JLh (G1 0) (G8 G G) G (G9 (hK18 _ _ (G5 (fun K19 hK19=>Gn ?_)))))))
  obtain⟨b30,hb30,h⟩:=G16 h
  refine H7 (fun i30 (s30:Int)=>loop b30 i30 s30=some r) (fun i30 s30=>[(0,G1 tiers),(1,G1 whole),(2,G1 half),(7,G1 s12),(8,G1 s30)]) (fun i30 s30=>[]) (fun i30=>i30) F 0 h ⟨(by repeat' constructor),ø,rfl⟩ ?_
  clear h
  intro i30 s30 hi30 K30 e30
  obtain⟨m30,nx30,hm_30,hn30,h⟩:=Zg hi30
  replace h:=H78 hb30 h
  refine G5 (fun K31 hK31=>G5 fun K32 hK32=>G3 (JLh (G1 s30) (G4 G G) G (JLh (G1 tiers) (G4 G G) G ?_)))
  obtain⟨v33,hv33,h⟩:=Hf h
  refine JLh (G1 v33) (G77 hv33 G G G) G (JLh (G1 whole) (G4 G G) G ?_)
  obtain⟨v34,hv34,h⟩:=Hf h
  refine JLh (G1 v34) (G77 hv34 G G G) G (JLh (G1 half) (G4 G G) G ?_)
  obtain⟨v35,hv35,h⟩:=Hf h
  refine JLh (G1 v35) (Hj hv35 G G G) G (JLh (BL (decide (v33 < v35))) (Hx G G G) G (G9 (hK32 _ _ (Gp G (fun hb=>?_) (fun hb=>?_)))))
  ·
   replace h:=Gy hb h
   refine Gq (hK31 _ _ (Gn (G3 (JLh (G1 s30) (G4 G G) G ?_))))
   obtain⟨v36,hv36,h⟩:=Hf h
   refine JLh (G1 v36) (Hj hv36 G G G) G (JLh (G1 v36) (G8 G G) G (G9 (e30 _ _ m30 v36 (app1 hn30 h) (by omega) ⟨(by repeat' constructor),ø,rfl⟩)))
  ·
   replace h:=Hp hb h
   refine Hc (hK19 _ _ (G5 (fun K37 hK37=>G5 fun K38 hK38=>G3 (JLh (G1 s12) (G4 G G) G (JLh (G1 s30) (G4 G G) G (JLh (BL (decide (s30 < s12))) (Ya G G G) G (G9 (hK38 _ _ (Gp G (fun hb=>?_) (fun hb=>?_))))))))))
   ·
    replace h:=Gy hb h
    refine G5 fun K39 hK39=>G3 (JLh (G1 s12) (G4 G G) G (JLh (G1 s12) (G8 G G) G (G9 (hK39 _ _ (Gx (⟨[G1 s12],[],ø,G,⟨⟨_,G,.conv (.same G)⟩,ø⟩,G,congrArg (fun r:Int=>(G1 r:AV)) (Option.some.inj h)⟩))))))
   ·
    replace h:=Hp hb h
    refine Gq (hK37 _ _ (G5 fun K40 hK40=>G3 (JLh (G1 s30) (G4 G G) G (JLh (G1 s30) (G8 G G) G (G9 (hK40 _ _ (Gx (⟨[G1 s30],[],ø,G,⟨⟨_,G,.conv (.same G)⟩,ø⟩,G,congrArg (fun r:Int=>(G1 r:AV)) (Option.some.inj h)⟩))))))))

def Qz (F:Nat) (s:J0) (whole:Int) (half:Int):Option (Int×Int):=
 bnd (Ri F s) fun r4=>
 bif (((((!r4)||(decide (whole < 0)))||(decide (half < 0)))||(decide (2000 < whole)))||(decide (2000 < half))) then
 (some (0,2))
 else
 (bnd (Ro s) fun r7=>
  bnd (Yk F r7 whole half) fun r8=>
  some (r8,0))
theorem H52 (F:Nat) (s:J0) (whole:Int) (half:Int) (r:Int×Int) (h:Qz F s whole half=some r):Pure Tryz.prog 42 [.agg (J0.cs s),G1 whole,G1 half] (·=.tup [G1 r.1,G1 r.2]):=by
 unfold Qz at h
 refine H1 [.tmp 6,.tmp 7] Tryz.func42 G G (G5 fun K1 hK1=>G3 (JLh (.ptr 1034 0) (Qi (u:=.agg (J0.cs s)) (cs:=(J0.cs s)) 1034 G G G G G) G (JLh (G1 0) (G8 G G) G (JLh (G1 0) (G8 G G) G (G9 (hK1 _ _ ?_))))))
 refine Gz [(1,G1 whole),(2,G1 half),(3,Ed s)] [] 1034 rfl rfl rfl ø rfl (by exact⟨.conv (.same rfl),.conv (.same rfl),.ptr,ø⟩) (G5 (fun K2 hK2=>G5 fun K3 hK3=>G3 (JLh (.agg (J0.cs s)) (Gi Jd G G G) G ?_)))
 obtain⟨r4,hr4,h⟩:=Gf h
 refine JLh (BL r4) (Gs (args:=[.agg (J0.cs s)]) G (G81 F s r4 hr4) J73 ⟨G,G,ø⟩) G (JLh (BL (!r4)) (Yu (b:=r4) G G) G (JLh (BL (!r4)) (G4 G G) G (Gd (u:=G1 whole) [] G G G .scf ø (fun hc=>G4 G G) ?_)))
 refine Gd (u:=BL (decide (whole < 0))) [(12,G1 whole)] G G G .scf ⟨.all id,ø⟩ (fun hc=>Hx G G G) ?_
 refine JLh (BL ((!r4)||(decide (whole < 0)))) (Z5 G G G G) G (JLh (BL ((!r4)||(decide (whole < 0)))) (G4 G G) G (Gd (u:=G1 half) [] G G G .scf ø (fun hc=>G4 G G) ?_))
 refine Gd (u:=BL (decide (half < 0))) [(16,G1 half)] G G G .scf ⟨.all id,ø⟩ (fun hc=>Hx G G G) ?_
 refine JLh (BL (((!r4)||(decide (whole < 0)))||(decide (half < 0)))) (Z5 G G G G) G (JLh (BL (((!r4)||(decide (whole < 0)))||(decide (half < 0)))) (G4 G G) G (Gd (u:=G1 whole) [] G G G .scf ø (fun hc=>G4 G G) ?_))
 refine Gd (u:=BL (decide (2000 < whole))) [(20,G1 whole)] G G G .scf ⟨.all id,ø⟩ (fun hc=>Ya G G G) ?_
 refine JLh (BL ((((!r4)||(decide (whole < 0)))||(decide (half < 0)))||(decide (2000 < whole)))) (Z5 G G G G) G (JLh (BL ((((!r4)||(decide (whole < 0)))||(decide (half < 0)))||(decide (2000 < whole)))) (G4 G G) G (Gd (u:=G1 half) [] G G G .scf ø (fun hc=>G4 G G) ?_))
 refine Gd (u:=BL (decide (2000 < half))) [(24,G1 half)] G G G .scf ⟨.all id,ø⟩ (fun hc=>Ya G G G) ?_
 refine JLh (BL (((((!r4)||(decide (whole < 0)))||(decide (half < 0)))||(decide (2000 < whole)))||(decide (2000 < half)))) (Z5 G G G G) G (G9 (hK3 _ _ (Gp G (fun hb=>?_) (fun hb=>?_))))
 ·
  replace h:=Gy hb h
  refine G5 fun K5 hK5=>G3 (JLh (G1 0) (G8 G G) G (JLh (G1 2) (G8 G G) G (G9 (hK5 _ _ (Gx (⟨[G1 0,G1 2],[],ø,G,⟨⟨_,G,.conv (.same G)⟩,⟨_,G,.conv (.same G)⟩,ø⟩,G,congrArg (fun r:Int×Int=>(.tup [G1 r.1,G1 r.2]:AV)) (Option.some.inj h)⟩))))))
 ·
  replace h:=Hp hb h
  refine Gq (hK2 _ _ (G5 fun K6 hK6=>G3 (JLh (.agg (J0.cs s)) (Gi Jd G G G) G ?_)))
  obtain⟨r7,hr7,h⟩:=Gf h
  refine JLh (G1 r7) (Gs (args:=[.agg (J0.cs s)]) G (G63 s r7 hr7) J2f ⟨G,G,ø⟩) G (JLh (G1 whole) (G4 G G) G (JLh (G1 half) (G4 G G) G ?_))
  obtain⟨r8,hr8,h⟩:=Gf h
  refine JLh (G1 r8) (Gs (args:=[G1 r7,G1 whole,G1 half]) G (G9e F r7 whole half r8 hr8) J30 ⟨G,G,G,G,G,G,ø⟩) G (JLh (G1 r8) (G8 G G) G (JLh (G1 0) (G8 G G) G (G9 (hK6 _ _ (Gx (⟨[G1 r8,G1 0],[],ø,G,⟨⟨_,G,.conv (.same G)⟩,⟨_,G,.conv (.same G)⟩,ø⟩,G,congrArg (fun r:Int×Int=>(.tup [G1 r.1,G1 r.2]:AV)) (Option.some.inj h)⟩))))))

def Zj (boxes:List H4) (calls:Int):Option Bool:=
 bif (((decide (calls < 1))||(decide (20 < calls)))||(decide (2000 < (boxes.length:Int)))) then
 (some false)
 else
 (each (fun y50 i50 (s50:Unit) nx50=>
   bnd (bif ((!((decide (y50.ID < 1))||(decide (999999 < y50.ID))))&&(decide (0 < (i50:Int)))) then Rm ((i50:Int) - 1) some else some 0) fun v57=>
   bnd (bif ((!((decide (y50.ID < 1))||(decide (999999 < y50.ID))))&&(decide (0 < (i50:Int)))) then Qe boxes v57 some else some default) fun y58=>
   bif (((decide (y50.ID < 1))||(decide (999999 < y50.ID)))||((decide (0 < (i50:Int)))&&(decide (y50.ID≤y58.ID)))) then
   (some false)
   else
   (bif (((decide (y50.Size≠20))&&(decide (y50.Size≠40)))||((decide (y50.Size=20))&&y50.High)) then
    (some false)
    else
    (bif (((decide (y50.Load < 0))||(decide (y50.Discharge≤y50.Load)))||(decide (calls≤y50.Discharge))) then
     (some false)
     else
     (nx50 ()))))
  (fun(s50:Unit)=>
   some true) boxes 0 ())
theorem H45 (boxes:List H4) (calls:Int) (r:Bool) (h:Zj boxes calls=some r):Pure Tryz.prog 18 [E2 boxes,G1 calls] (·=BL r):=by
 unfold Zj at h
 refine H1 [.tmp 4] Tryz.func18 G G (G5 fun K1 hK1=>G3 (JLh (BL false) (G8 G G) G (G9 (hK1 _ _ (G5 (fun K2 hK2=>G5 fun K3 hK3=>G3 (JLh (G1 calls) (G4 G G) G (JLh (BL (decide (calls < 1))) (Hx G G G) G (JLh (BL (decide (calls < 1))) (G4 G G) G (Gd (u:=G1 calls) [] G G G .scf ø (fun hc=>G4 G G) ?_))))))))))
 refine Gd (u:=BL (decide (20 < calls))) [(10,G1 calls)] G G G .scf ⟨.all id,ø⟩ (fun hc=>Ya G G G) ?_
 refine JLh (BL ((decide (calls < 1))||(decide (20 < calls)))) (Z5 G G G G) G (JLh (BL ((decide (calls < 1))||(decide (20 < calls)))) (G4 G G) G (Gd (u:=E2 boxes) [] G G G .scf ø (fun hc=>G4 G G) ?_))
 refine Gd (u:=En boxes.length) [(14,E2 boxes)] G G G .scf ⟨.all id,ø⟩ (fun hc=>Jp (f:=H4.av) (xs:=boxes) Ht G G) ?_
 refine Gd (u:=BL (decide (2000 < (boxes.length:Int)))) [(15,En boxes.length)] G G G .scf ⟨.all id,ø⟩ (fun hc=>Ya G G G) ?_
 refine JLh (BL (((decide (calls < 1))||(decide (20 < calls)))||(decide (2000 < (boxes.length:Int))))) (Z5 G G G G) G (G9 (hK3 _ _ (Gp G (fun hb=>?_) (fun hb=>?_))))
 ·
  replace h:=Gy hb h
  refine G5 fun K4 hK4=>G3 (JLh (BL false) (G8 G G) G (G9 (hK4 _ _ (Gx (⟨[BL false],[],ø,G,⟨⟨_,G,.conv (.same G)⟩,ø⟩,G,congrArg (fun r:Bool=>(BL r:AV)) (Option.some.inj h)⟩)))))
 ·
  replace h:=Hp hb h
  refine Gq (hK2 _ _ (G5 (fun K5 hK5=>G5 fun K6 hK6=>G3 (JLh (G1 0) (G8 G G) G (G9 (hK6 _ _ (Gn ?_)))))))
  obtain⟨b50,kx50,hb50,hkx50,h⟩:=J9 h
  refine H7 (fun i50 (s50:Unit)=>each b50 kx50 (List.drop i50 boxes) i50 s50=some r) (fun i50 s50=>[(0,E2 boxes),(1,G1 calls),(5,En i50)]) (fun i50 s50=>[]) (fun i50=>boxes.length - i50) 0 () h ⟨⟨.same G,.same G,.same G,ø⟩,ø,G⟩ ?_
  clear h
  intro i50 s50 hi50 K50 e50
  refine G5 (fun K51 hK51=>G5 fun K52 hK52=>G3 (JLh (En i50) (G4 G G) G (JLh (E2 boxes) (G4 G G) G (H0 (f:=H4.av) (xs:=boxes) Ht G G (fun hm20=>?_) G G G))))
  refine JLh (BL (decide ((i50:Int) < (boxes.length:Int)))) (Hx G G G) G (G9 (hK52 _ _ (Gp G (fun hb=>?_) (fun hb=>?_))))
  ·
   have hk50:=Jm hb
   obtain⟨y50,nx50,hy50,hn50,h⟩:=Hy hi50 hk50
   replace h:=Zn hb50 h
   refine Gq (hK51 _ _ (G5 (fun K53 hK53=>Gn (G5 fun K54 hK54=>G3 (JLh (E2 boxes) (G4 G G) G (JLh (En i50) (G4 G G) G (JLh (Eg y50) (Gv (f:=H4.av) (xs:=boxes) (y:=y50) G G G Ht hy50 G) G (JLh (.agg (H4.cs y50)) (Gi G62 G G G) G (JLh (.ptr 1010 0) (Jn 1010 9 G49 G G) G (Jb (u:=.junk) (J4 (u:=.agg (H4.cs y50)) (ds:=(H4.cs y50)) Gc9 G G G G G G G G) (G9 (hK54 _ _ (Gz [(0,E2 boxes),(1,G1 calls),(5,En i50),(6,Eg y50)] [] 1010 rfl rfl rfl ø rfl (by repeat' (first | exact .ptr | constructor)) (G5 (fun K55 hK55=>G5 (fun K56 hK56=>?_))))))))))))))))
   obtain⟨v57,hv57,h⟩:=Gf h
   obtain⟨y58,hy58,h⟩:=Gf h
   refine Jc [] [0,0,0,0,0,0,0,0,0,0,0,0,0,0,0,0,0,0,0,0,0,0,0] [0,0,0,0,0,0,0,0,0,0,0,0,0,0,0,0,0,0,0,0,0,0,0] [[]] J3 (by kernel_rfl) rfl rfl ?_
   refine Gb (u:=Eg y50) G G ⟨Gh (Ge G20 G G G) G,ø⟩ (Gb (u:=G1 y50.ID) G G ⟨Gh (Gk Gc G G G) G,ø⟩ (Gb (u:=BL (decide (y50.ID < 1))) G G ⟨Gh (Hx G G G) G,ø⟩ (Gb (u:=BL (decide (y50.ID < 1))) G G ⟨Gh (G4 G G) G,ø⟩ (Gb (u:=.opt (!(decide (y50.ID < 1))) (Eg y50)) G G ⟨Gg [] G G G .scf ø (fun hc=>Ge G20 G G G) G,ø⟩ (Gb (u:=.opt (!(decide (y50.ID < 1))) (G1 y50.ID)) G G ⟨Gg [(32,Eg y50)] G G G .scf ⟨.all id,ø⟩ (fun hc=>Gk Gc G G G) G,ø⟩ (Gb (u:=.opt (!(decide (y50.ID < 1))) (BL (decide (999999 < y50.ID)))) G G ⟨Gg [(33,G1 y50.ID)] G G G .scf ⟨.all id,ø⟩ (fun hc=>Ya G G G) G,ø⟩ (Gb (u:=BL ((decide (y50.ID < 1))||(decide (999999 < y50.ID)))) G G ⟨Gh (Z5 G G G G) G,ø⟩ (Gb (u:=BL ((decide (y50.ID < 1))||(decide (999999 < y50.ID)))) G G ⟨Gh (G4 G G) G,ø⟩ (Gb (u:=.opt (!((decide (y50.ID < 1))||(decide (999999 < y50.ID)))) (En i50)) G G ⟨Gg [] G G G .scf ø (fun hc=>G4 G G) G,ø⟩ (Gb (u:=.opt (!((decide (y50.ID < 1))||(decide (999999 < y50.ID)))) (BL (decide (0 < (i50:Int))))) G G ⟨Gg [(37,En i50)] G G G .scf ⟨.all id,ø⟩ (fun hc=>Ya G G G) G,ø⟩ (Gb (u:=.opt (!((decide (y50.ID < 1))||(decide (999999 < y50.ID)))) (BL (decide (0 < (i50:Int))))) G G ⟨Gg [(38,BL (decide (0 < (i50:Int))))] G G G .scf ⟨.all id,ø⟩ (fun hc=>G4 G G) G,ø⟩ (Gb (u:=.opt ((!((decide (y50.ID < 1))||(decide (999999 < y50.ID))))&&(decide (0 < (i50:Int)))) (E2 boxes)) G G ⟨Gg [] G G G .optt ø (fun hc=>G4 G G) G,ø⟩ (Gb (u:=.opt ((!((decide (y50.ID < 1))||(decide (999999 < y50.ID))))&&(decide (0 < (i50:Int)))) (En i50)) G G ⟨Gg [] G G G .optt ø (fun hc=>G4 G G) G,ø⟩ ?_)))))))))))))
   refine Gb (u:=.opt ((!((decide (y50.ID < 1))||(decide (999999 < y50.ID))))&&(decide (0 < (i50:Int)))) (G1 v57)) G G ⟨Gg [(41,En i50)] G G G .optt ⟨.all id,ø⟩ (fun hc=>G1e (G02 (Gy hc hv57)) G G G) G,ø⟩ (Gb (u:=.opt ((!((decide (y50.ID < 1))||(decide (999999 < y50.ID))))&&(decide (0 < (i50:Int)))) (Eg y58)) G G ⟨Gg [(40,E2 boxes),(42,G1 v57)] G G G .optt ⟨.all id,.all id,ø⟩ (fun hc=>(match Q2 (Gy hc hy58) with | ⟨_,hm_,hy_⟩=>Gv (f:=H4.av) (xs:=boxes) (y:=y58) G G G Ht hy_ hm_)) G,ø⟩ (Gb (u:=.opt ((!((decide (y50.ID < 1))||(decide (999999 < y50.ID))))&&(decide (0 < (i50:Int)))) (Eg y58)) G G ⟨Gg [(43,Eg y58)] G G G .optt ⟨.all id,ø⟩ (fun hc=>Ge G20 G G G) G,ø⟩ (Gb (u:=.opt ((!((decide (y50.ID < 1))||(decide (999999 < y50.ID))))&&(decide (0 < (i50:Int)))) (G1 y58.ID)) G G ⟨Gg [(44,Eg y58)] G G G .optt ⟨.all id,ø⟩ (fun hc=>Gk Gc G G G) G,ø⟩ (Gb (u:=.opt ((!((decide (y50.ID < 1))||(decide (999999 < y50.ID))))&&(decide (0 < (i50:Int)))) (Eg y50)) G G ⟨Gg [] G G G .optt ø (fun hc=>Ge G20 G G G) G,ø⟩ (Gb (u:=.opt ((!((decide (y50.ID < 1))||(decide (999999 < y50.ID))))&&(decide (0 < (i50:Int)))) (G1 y50.ID)) G G ⟨Gg [(46,Eg y50)] G G G .optt ⟨.all id,ø⟩ (fun hc=>Gk Gc G G G) G,ø⟩ (Gb (u:=.opt ((!((decide (y50.ID < 1))||(decide (999999 < y50.ID))))&&(decide (0 < (i50:Int)))) (BL (decide (y50.ID≤y58.ID)))) G G ⟨Gg [(45,G1 y58.ID),(47,G1 y50.ID)] G G G .optt ⟨.all id,.all id,ø⟩ (fun hc=>G28 G G G) G,ø⟩ (Gb (u:=.opt (!((decide (y50.ID < 1))||(decide (999999 < y50.ID)))) (BL ((decide (0 < (i50:Int)))&&(decide (y50.ID≤y58.ID))))) G G ⟨Gg [(39,BL (decide (0 < (i50:Int)))),(48,_)] G G G .scf ⟨.all id,.part,ø⟩ (fun hc=>J7 G G G G) G,ø⟩ (Gb (u:=BL (((decide (y50.ID < 1))||(decide (999999 < y50.ID)))||((decide (0 < (i50:Int)))&&(decide (y50.ID≤y58.ID))))) G G ⟨Gh (Z5 G G G G) G,ø⟩ (Rb ?_)))))))))
   refine hK56 _ _ (Gp G (fun hb=>?_) (fun hb=>?_))
   ·
    replace h:=Gy hb h
    refine G5 fun K59 hK59=>G3 (JLh (BL false) (G8 G G) G (G9 (hK59 _ _ (Gx (⟨[BL false],[],ø,G,⟨⟨_,G,.conv (.same G)⟩,ø⟩,G,congrArg (fun r:Bool=>(BL r:AV)) (Option.some.inj h)⟩)))))
   ·
    replace h:=Hp hb h
    refine Gq (hK55 _ _ (G5 (fun K60 hK60=>G5 fun K61 hK61=>G3 (JLh (.dptr ((H4.cs y50).drop 2)) (Ge Zz G G G) G (JLh (U8 y50.Size) (Gk G47 G G G) G (JLh (BL (decide (y50.Size≠20))) (G14 G G G) G (JLh (BL (decide (y50.Size≠20))) (G4 G G) G (Gd (u:=.dptr ((H4.cs y50).drop 2)) [] G G G .sct ø (fun hc=>Ge Zz G G G) ?_))))))))
    refine Gd (u:=U8 y50.Size) [(55,.dptr ((H4.cs y50).drop 2))] G G G .sct ⟨.all id,ø⟩ (fun hc=>Gk G47 G G G) ?_
    refine Gd (u:=BL (decide (y50.Size≠40))) [(56,U8 y50.Size)] G G G .sct ⟨.all id,ø⟩ (fun hc=>G14 G G G) ?_
    refine JLh (BL ((decide (y50.Size≠20))&&(decide (y50.Size≠40)))) (J7 G G G G) G (JLh (BL ((decide (y50.Size≠20))&&(decide (y50.Size≠40)))) (G4 G G) G (Gd (u:=.dptr ((H4.cs y50).drop 2)) [] G G G .scf ø (fun hc=>Ge Zz G G G) ?_))
    refine Gd (u:=U8 y50.Size) [(60,.dptr ((H4.cs y50).drop 2))] G G G .scf ⟨.all id,ø⟩ (fun hc=>Gk G47 G G G) ?_
    refine Gd (u:=BL (decide (y50.Size=20))) [(61,U8 y50.Size)] G G G .scf ⟨.all id,ø⟩ (fun hc=>Rt G G G) ?_
    refine Gd (u:=BL (decide (y50.Size=20))) [(62,BL (decide (y50.Size=20)))] G G G .scf ⟨.all id,ø⟩ (fun hc=>G4 G G) ?_
    refine Gd (u:=.dptr ((H4.cs y50).drop 3)) [] G G G .optt ø (fun hc=>Ge H8d G G G) ?_
    refine Gd (u:=BL y50.High) [(64,.dptr ((H4.cs y50).drop 3))] G G G .optt ⟨.all id,ø⟩ (fun hc=>Gk G60 G G G) ?_
    refine Gd (u:=BL ((decide (y50.Size=20))&&y50.High)) [(63,BL (decide (y50.Size=20))),(65,_)] G G G .scf ⟨.all id,.part,ø⟩ (fun hc=>J7 G G G G) ?_
    refine JLh (BL (((decide (y50.Size≠20))&&(decide (y50.Size≠40)))||((decide (y50.Size=20))&&y50.High))) (Z5 G G G G) G (G9 (hK61 _ _ (Gp G (fun hb=>?_) (fun hb=>?_))))
    ·
     replace h:=Gy hb h
     refine G5 fun K62 hK62=>G3 (JLh (BL false) (G8 G G) G (G9 (hK62 _ _ (Gx (⟨[BL false],[],ø,G,⟨⟨_,G,.conv (.same G)⟩,ø⟩,G,congrArg (fun r:Bool=>(BL r:AV)) (Option.some.inj h)⟩)))))
    ·
     replace h:=Hp hb h
     refine Gq (hK60 _ _ (G5 fun K63 hK63=>G3 (JLh (.dptr ((H4.cs y50).drop 5)) (Ge Zf G G G) G (JLh (G1 y50.Load) (Gk Gc G G G) G (JLh (BL (decide (y50.Load < 0))) (Hx G G G) G (JLh (BL (decide (y50.Load < 0))) (G4 G G) G (Gd (u:=.dptr ((H4.cs y50).drop 6)) [] G G G .scf ø (fun hc=>Ge Ze G G G) ?_)))))))
     refine Gd (u:=G1 y50.Discharge) [(72,.dptr ((H4.cs y50).drop 6))] G G G .scf ⟨.all id,ø⟩ (fun hc=>Gk Gc G G G) ?_
     refine Gd (u:=.dptr ((H4.cs y50).drop 5)) [] G G G .scf ø (fun hc=>Ge Zf G G G) ?_
     refine Gd (u:=G1 y50.Load) [(74,.dptr ((H4.cs y50).drop 5))] G G G .scf ⟨.all id,ø⟩ (fun hc=>Gk Gc G G G) ?_
     refine Gd (u:=BL (decide (y50.Discharge≤y50.Load))) [(73,G1 y50.Discharge),(75,G1 y50.Load)] G G G .scf ⟨.all id,.all id,ø⟩ (fun hc=>H81 G G G) ?_
     refine JLh (BL ((decide (y50.Load < 0))||(decide (y50.Discharge≤y50.Load)))) (Z5 G G G G) G (JLh (BL ((decide (y50.Load < 0))||(decide (y50.Discharge≤y50.Load)))) (G4 G G) G (Gd (u:=.dptr ((H4.cs y50).drop 6)) [] G G G .scf ø (fun hc=>Ge Ze G G G) ?_))
     refine Gd (u:=G1 y50.Discharge) [(79,.dptr ((H4.cs y50).drop 6))] G G G .scf ⟨.all id,ø⟩ (fun hc=>Gk Gc G G G) ?_
     refine Gd (u:=G1 calls) [] G G G .scf ø (fun hc=>G4 G G) ?_
     refine Gd (u:=BL (decide (calls≤y50.Discharge))) [(80,G1 y50.Discharge),(81,G1 calls)] G G G .scf ⟨.all id,.all id,ø⟩ (fun hc=>G28 G G G) ?_
     refine JLh (BL (((decide (y50.Load < 0))||(decide (y50.Discharge≤y50.Load)))||(decide (calls≤y50.Discharge)))) (Z5 G G G G) G (G9 (hK63 _ _ (Gp G (fun hb=>?_) (fun hb=>?_))))
     ·
      replace h:=Gy hb h
      refine G5 fun K64 hK64=>G3 (JLh (BL false) (G8 G G) G (G9 (hK64 _ _ (Gx (⟨[BL false],[],ø,G,⟨⟨_,G,.conv (.same G)⟩,ø⟩,G,congrArg (fun r:Bool=>(BL r:AV)) (Option.some.inj h)⟩)))))
     ·
      replace h:=Hp hb h
      refine Gq (hK53 _ _ (G3 (JLh (En i50) (G4 G G) G (JLh (G1 ((i50+1:Nat):Int)) (Hj (Hi hk50 hm20) G G G) G (JLh (G1 ((i50+1:Nat):Int)) (G8 G G) G (G9 (e50 _ _ (i50+1) () (app1 hn50 h) (by omega) ⟨⟨.same rfl,.same rfl,.same rfl,ø⟩,ø,rfl⟩)))))))
  ·
   have h:=app1 hkx50 (Hz hi50 (Hg hb))
   refine Hc (hK5 _ _ (G5 fun K65 hK65=>G3 (JLh (BL true) (G8 G G) G (G9 (hK65 _ _ (Gx (⟨[BL true],[],ø,G,⟨⟨_,G,.conv (.same G)⟩,ø⟩,G,congrArg (fun r:Bool=>(BL r:AV)) (Option.some.inj h)⟩)))))))

def Qq (F:Nat) (s:J0) (boxes:List H4):Option Bool:=
 bnd (Ri F s) fun r3=>
 bnd (bif r3 then Zj boxes 20 else some default) fun r4=>
 some (r3&&r4)
theorem G7f (F:Nat) (s:J0) (boxes:List H4) (r:Bool) (h:Qq F s boxes=some r):Pure Tryz.prog 114 [.agg (J0.cs s),E2 boxes] (·=BL r):=by
 unfold Qq at h
 refine H1 [.tmp 4] Tryz.func114 G G (G5 fun K1 hK1=>G3 (JLh (.ptr 1089 0) (Qi (u:=.agg (J0.cs s)) (cs:=(J0.cs s)) 1089 G G G G G) G (JLh (BL false) (G8 G G) G (G9 (hK1 _ _ ?_)))))
 refine Gz [(1,E2 boxes),(2,Ed s)] [] 1089 rfl rfl rfl ø rfl (by exact⟨.conv (.same rfl),.ptr,ø⟩) (G5 fun K2 hK2=>G3 (JLh (.agg (J0.cs s)) (Gi Jd G G G) G ?_))
 obtain⟨r3,hr3,h⟩:=Gf h
 refine JLh (BL r3) (Gs (args:=[.agg (J0.cs s)]) G (G81 F s r3 hr3) J73 ⟨G,G,ø⟩) G (JLh (BL r3) (G4 G G) G (Gd (u:=E2 boxes) [] G G G .sct ø (fun hc=>G4 G G) ?_))
 obtain⟨r4,hr4,h⟩:=Gf h
 refine Gd (u:=BL r4) [(8,E2 boxes)] G G G .sct ⟨.all id,ø⟩ (fun hc=>Gs (args:=[E2 boxes,G1 20]) G (H45 boxes 20 r4 (Gy hc hr4)) Q0d ⟨G,G,G,G,ø⟩) ?_
 refine JLh (BL (r3&&r4)) (J7 G G G G) G (JLh (BL (r3&&r4)) (G8 G G) G (G9 (hK2 _ _ (Gx (⟨[BL (r3&&r4)],[],ø,G,⟨⟨_,G,.conv (.same G)⟩,ø⟩,G,congrArg (fun r:Bool=>(BL r:AV)) (Option.some.inj h)⟩)))))
end
end Go.Proofs.YtfkilljboodoaaaGreat
