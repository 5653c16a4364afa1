/-
 Models of functions of the program,and that they return what the models say.
-/
import Derived.Test.YtfkilljboodoaaaGreatXPb
set_option maxRecDepth 100000
set_option linter.unusedVariables false
set_option linter.unusedSimpArgs false
namespace Go.Proofs.YtfkilljboodoaaaGreat
open Go.RowKit
noncomputable section
open XAF
open XLF
open XPF

def Y2 (F:Nat) :Option Bool:=
 bnd (G2c) fun r3=>
 bnd (Js 1 4 0) fun r6=>
 bnd (Js 2 4 1) fun r7=>
 bnd (Js 2 4 1) fun r8=>
 bnd (Js 3 4 0) fun r9=>
 bnd (G2f F r3 [(Gv.mk 1 ByteArray.empty 40 false 0 0 1 0 false),(Gv.mk 2 ByteArray.empty 40 false 0 0 2 0 false),(Gv.mk 3 ByteArray.empty 40 false 0 1 2 0 false)] [r6,r7] [r8,r9]) fun r10=>
 bnd (Js 1 0 0) fun r12=>
 bnd (Js 2 3 0) fun r13=>
 bnd (Js 2 3 0) fun r14=>
 bnd (G2f F r3 [(Gv.mk 1 ByteArray.empty 40 false 0 0 1 0 false),(Gv.mk 2 ByteArray.empty 40 false 0 0 2 0 false),(Gv.mk 3 ByteArray.empty 40 false 0 1 2 0 false)] [r12,r13] [r14]) fun r15=>
 bnd (Js 1 4 0) fun r17=>
 bnd (Js 2 4 1) fun r18=>
 bnd (Js 2 4 1) fun r19=>
 bnd (Js 3 4 0) fun r20=>
 bnd (G9d F r3 [(Gv.mk 1 ByteArray.empty 40 false 0 0 1 0 false),(Gv.mk 2 ByteArray.empty 40 false 0 0 2 0 false),(Gv.mk 3 ByteArray.empty 40 false 0 1 2 0 false)] 3 (Gf1.mk ([[r17,r18],[r19,r20],[]]) [])) fun r22=>
 bnd (H5d F r3 [(Gv.mk 1 ByteArray.empty 40 false 0 0 1 0 false),(Gv.mk 2 ByteArray.empty 40 false 0 0 2 0 false),(Gv.mk 3 ByteArray.empty 40 false 0 1 2 0 false)] 3 (Gf1.mk ([[r17,r18],[r19,r20],[]]) [])) fun r24=>
 bnd (Gdb r3 [(Gv.mk 1 ByteArray.empty 40 false 0 0 1 0 false),(Gv.mk 2 ByteArray.empty 40 false 0 0 2 0 false),(Gv.mk 3 ByteArray.empty 40 false 0 1 2 0 false)] 4 (Gf1.mk ([[r17,r18],[r19,r20],[]]) [])) fun r26=>
 G32 (r10.2+r15.2) fun v28=>
 G32 (v28+r22.2) fun v29=>
 G32 (v29+r24.2) fun v30=>
 bnd (bif ((decide (v30=0))&&(decide (r26.2=231))) then J9 r10.1 [1,2,3] else some default) fun r31=>
 bnd (bif (((decide (v30=0))&&(decide (r26.2=231)))&&r31) then J9 r15.1 [1,2] else some default) fun r32=>
 bnd (bif ((((((decide (v30=0))&&(decide (r26.2=231)))&&r31)&&r32)&&(decide (r24.1=1)))&&(decide ((r22.1.length:Int)=3))) then Q3 r22.1 0 some else some default) fun y33=>
 bnd (bif ((((((decide (v30=0))&&(decide (r26.2=231)))&&r31)&&r32)&&(decide (r24.1=1)))&&(decide ((r22.1.length:Int)=3))) then Q3 r22.1 2 some else some default) fun y34=>
 bnd (bif ((((((decide (v30=0))&&(decide (r26.2=231)))&&r31)&&r32)&&(decide (r24.1=1)))&&(decide ((r22.1.length:Int)=3))) then G32 ((y33.length:Int)+(y34.length:Int)) some else some 0) fun v35=>
 bnd (bif (((((((decide (v30=0))&&(decide (r26.2=231)))&&r31)&&r32)&&(decide (r24.1=1)))&&(decide ((r22.1.length:Int)=3)))&&(decide (v35=0))) then Q3 r22.1 1 some else some default) fun y36=>
 bnd (bif (((((((decide (v30=0))&&(decide (r26.2=231)))&&r31)&&r32)&&(decide (r24.1=1)))&&(decide ((r22.1.length:Int)=3)))&&(decide (v35=0))) then J9 y36 [2] else some default) fun r37=>
 bnd (bif ((((((((decide (v30=0))&&(decide (r26.2=231)))&&r31)&&r32)&&(decide (r24.1=1)))&&(decide ((r22.1.length:Int)=3)))&&(decide (v35=0)))&&r37) then Gb2 [(Gv.mk 1 ByteArray.empty 40 false 0 0 1 0 false),(Gv.mk 2 ByteArray.empty 40 false 0 0 2 0 false),(Gv.mk 3 ByteArray.empty 40 false 0 1 2 0 false)] 1 else some default) fun r38=>
 bnd (bif ((((((((decide (v30=0))&&(decide (r26.2=231)))&&r31)&&r32)&&(decide (r24.1=1)))&&(decide ((r22.1.length:Int)=3)))&&(decide (v35=0)))&&r37) then J9 r38 [2,3] else some default) fun r39=>
 some (((((((((decide (v30=0))&&(decide (r26.2=231)))&&r31)&&r32)&&(decide (r24.1=1)))&&(decide ((r22.1.length:Int)=3)))&&(decide (v35=0)))&&r37)&&r39)
theorem G71 (F:Nat)  (r:Bool) (h:Y2 F =some r):Pure Tryz.prog 11 [] (·=BL r):=by
 unfold Y2 at h
 refine H1 [.tmp 0] Tryz.func11 O O (G7 fun K1 hK1=>G2 (JLh (BL false) (G9 O O) O (G8 (hK1 _ _ (G7 fun K2 hK2=>G2 ?_)))))
 obtain⟨r3,hr3,h⟩:=Gf h
 refine JLh (.agg (Hb.cs r3)) (Gq (args:=[]) O (Gf3  r3 hr3) Q09 G) O (JLh (.ptr 1006 0) (Jb 1006 13 J11 O O) O (J4 (u:=.junk) (Ht (u:=.agg (Hb.cs r3)) (ds:=(Hb.cs r3)) H47 O O O O O O O O) (G8 (hK2 _ _ (Gx [(1,Ee r3)] [] 1006 rfl rfl rfl G rfl (by exact⟨.ptr,G⟩) ?_)))))
 refine G7 fun K4 hK4=>G2 (JLh (.agg [G0 1,ST ByteArray.empty,U8 40,BL false,G0 0,G0 0,G0 1,U8 0,BL false]) (Jv (cs:=[G0 1,ST ByteArray.empty,U8 40,BL false,G0 0,G0 0,G0 1,U8 0,BL false]) [(0,1),(1,1),(2,1),(3,1),(4,1),(5,1),(6,1),(7,1),(8,1)] [G0 0,ST ByteArray.empty,U8 0,BL false,G0 0,G0 0,G0 0,U8 0,BL false] [.int .i64 0,.string ByteArray.empty,.int .u8 0,.bool false,.int .i64 0,.int .i64 0,.int .i64 0,.int .u8 0,.bool false] G48 G21 ⟨.inl O,.inl O,.inl O,.inl O,.inl O,.inl O,.inl O,.inl O,.inl O,G⟩ O O) O (JLh (.agg [G0 2,ST ByteArray.empty,U8 40,BL false,G0 0,G0 0,G0 2,U8 0,BL false]) (Jv (cs:=[G0 2,ST ByteArray.empty,U8 40,BL false,G0 0,G0 0,G0 2,U8 0,BL false]) [(0,1),(1,1),(2,1),(3,1),(4,1),(5,1),(6,1),(7,1),(8,1)] [G0 0,ST ByteArray.empty,U8 0,BL false,G0 0,G0 0,G0 0,U8 0,BL false] [.int .i64 0,.string ByteArray.empty,.int .u8 0,.bool false,.int .i64 0,.int .i64 0,.int .i64 0,.int .u8 0,.bool false] G48 G21 ⟨.inl O,.inl O,.inl O,.inl O,.inl O,.inl O,.inl O,.inl O,.inl O,G⟩ O O) O (JLh (.agg [G0 3,ST ByteArray.empty,U8 40,BL false,G0 0,G0 1,G0 2,U8 0,BL false]) (Jv (cs:=[G0 3,ST ByteArray.empty,U8 40,BL false,G0 0,G0 1,G0 2,U8 0,BL false]) [(0,1),(1,1),(2,1),(3,1),(4,1),(5,1),(6,1),(7,1),(8,1)] [G0 0,ST ByteArray.empty,U8 0,BL false,G0 0,G0 0,G0 0,U8 0,BL false] [.int .i64 0,.string ByteArray.empty,.int .u8 0,.bool false,.int .i64 0,.int .i64 0,.int .i64 0,.int .u8 0,.bool false] G48 G21 ⟨.inl O,.inl O,.inl O,.inl O,.inl O,.inl O,.inl O,.inl O,.inl O,G⟩ O O) O (JLh (E2 [(Gv.mk 1 ByteArray.empty 40 false 0 0 1 0 false),(Gv.mk 2 ByteArray.empty 40 false 0 0 2 0 false),(Gv.mk 3 ByteArray.empty 40 false 0 1 2 0 false)]) (Hm (xs:=[.agg [G0 1,ST ByteArray.empty,U8 40,BL false,G0 0,G0 0,G0 1,U8 0,BL false],.agg [G0 2,ST ByteArray.empty,U8 40,BL false,G0 0,G0 0,G0 2,U8 0,BL false],.agg [G0 3,ST ByteArray.empty,U8 40,BL false,G0 0,G0 1,G0 2,U8 0,BL false]]) O ⟨O,O,O,O,O,O,G⟩ J5 G1f O O O O) O (JLh (E2 [(Gv.mk 1 ByteArray.empty 40 false 0 0 1 0 false),(Gv.mk 2 ByteArray.empty 40 false 0 0 2 0 false),(Gv.mk 3 ByteArray.empty 40 false 0 1 2 0 false)]) (G9 O O) O (G8 (hK4 _ _ ?_)))))))
 refine G7 (fun K5 hK5=>?_)
 obtain⟨r6,hr6,h⟩:=Gf h
 obtain⟨r7,hr7,h⟩:=Gf h
 obtain⟨r8,hr8,h⟩:=Gf h
 obtain⟨r9,hr9,h⟩:=Gf h
 obtain⟨r10,hr10,h⟩:=Gf h
 refine Q6 [] [0,0,0,0,0,0,0,0,0,0,0,0,0,0] [0,0,0,0,0,0,0,0,0,0,0,0,0,0] [[]] Jk (by kernel_rfl) rfl rfl ?_
 refine Gc (u:=.agg (Hb.cs r3)) O O ⟨Gw (Gj J8 O O O) O,G⟩ (Gc (u:=E2 [(Gv.mk 1 ByteArray.empty 40 false 0 0 1 0 false),(Gv.mk 2 ByteArray.empty 40 false 0 0 2 0 false),(Gv.mk 3 ByteArray.empty 40 false 0 1 2 0 false)]) O O ⟨Gw (G5 O O) O,G⟩ (Gc (u:=.agg (G6.cs r6)) O O ⟨Gw (Gq (args:=[G0 1,G0 4,G0 0]) O (Ju 1 4 0 r6 hr6) G15 ⟨O,O,O,O,O,O,G⟩) O,G⟩ (Gc (u:=.agg (G6.cs r7)) O O ⟨Gw (Gq (args:=[G0 2,G0 4,G0 1]) O (Ju 2 4 1 r7 hr7) G15 ⟨O,O,O,O,O,O,G⟩) O,G⟩ (Gc (u:=E0 [r6,r7]) O O ⟨Gw (Hm (xs:=[.agg (G6.cs r6),.agg (G6.cs r7)]) O ⟨O,O,O,O,G⟩ H2 R9 O O O O) O,G⟩ (Gc (u:=.agg (G6.cs r8)) O O ⟨Gw (Gq (args:=[G0 2,G0 4,G0 1]) O (Ju 2 4 1 r8 hr8) G15 ⟨O,O,O,O,O,O,G⟩) O,G⟩ (Gc (u:=.agg (G6.cs r9)) O O ⟨Gw (Gq (args:=[G0 3,G0 4,G0 0]) O (Ju 3 4 0 r9 hr9) G15 ⟨O,O,O,O,O,O,G⟩) O,G⟩ (Gc (u:=E0 [r8,r9]) O O ⟨Gw (Hm (xs:=[.agg (G6.cs r8),.agg (G6.cs r9)]) O ⟨O,O,O,O,G⟩ H2 R9 O O O O) O,G⟩ (Gc (u:=.tup [E1 r10.1,G0 r10.2]) O O ⟨Gw (Gq (args:=[.agg (Hb.cs r3),E2 [(Gv.mk 1 ByteArray.empty 40 false 0 0 1 0 false),(Gv.mk 2 ByteArray.empty 40 false 0 0 2 0 false),(Gv.mk 3 ByteArray.empty 40 false 0 1 2 0 false)],E0 [r6,r7],E0 [r8,r9]]) O (Gca F r3 [(Gv.mk 1 ByteArray.empty 40 false 0 0 1 0 false),(Gv.mk 2 ByteArray.empty 40 false 0 0 2 0 false),(Gv.mk 3 ByteArray.empty 40 false 0 1 2 0 false)] [r6,r7] [r8,r9] r10 hr10) Hbc ⟨O,O,O,O,O,O,O,O,G⟩) O,G⟩ (Gc (u:=.tup [E1 r10.1,G0 r10.2]) O O ⟨Gw (G5 O O) O,G⟩ (Gc (u:=E1 r10.1) O O ⟨Gw (J1 O O O) O,G⟩ (Gc (u:=G0 r10.2) O O ⟨Gw (J1 O O O) O,G⟩ (Gc (u:=E1 r10.1) O O ⟨Gw (G9 O O) O,G⟩ (Gc (u:=G0 r10.2) O O ⟨Gw (G9 O O) O,G⟩ (Yz ?_))))))))))))))
 refine hK5 _ _ (G7 (fun K11 hK11=>?_))
 obtain⟨r12,hr12,h⟩:=Gf h
 obtain⟨r13,hr13,h⟩:=Gf h
 obtain⟨r14,hr14,h⟩:=Gf h
 obtain⟨r15,hr15,h⟩:=Gf h
 refine Q6 [] [0,0,0,0,0,0,0,0,0,0,0,0,0] [0,0,0,0,0,0,0,0,0,0,0,0,0] [[]] Jk (by kernel_rfl) rfl rfl ?_
 refine Gc (u:=.agg (Hb.cs r3)) O O ⟨Gw (Gj J8 O O O) O,G⟩ (Gc (u:=E2 [(Gv.mk 1 ByteArray.empty 40 false 0 0 1 0 false),(Gv.mk 2 ByteArray.empty 40 false 0 0 2 0 false),(Gv.mk 3 ByteArray.empty 40 false 0 1 2 0 false)]) O O ⟨Gw (G5 O O) O,G⟩ (Gc (u:=.agg (G6.cs r12)) O O ⟨Gw (Gq (args:=[G0 1,G0 0,G0 0]) O (Ju 1 0 0 r12 hr12) G15 ⟨O,O,O,O,O,O,G⟩) O,G⟩ (Gc (u:=.agg (G6.cs r13)) O O ⟨Gw (Gq (args:=[G0 2,G0 3,G0 0]) O (Ju 2 3 0 r13 hr13) G15 ⟨O,O,O,O,O,O,G⟩) O,G⟩ (Gc (u:=E0 [r12,r13]) O O ⟨Gw (Hm (xs:=[.agg (G6.cs r12),.agg (G6.cs r13)]) O ⟨O,O,O,O,G⟩ H2 R9 O O O O) O,G⟩ (Gc (u:=.agg (G6.cs r14)) O O ⟨Gw (Gq (args:=[G0 2,G0 3,G0 0]) O (Ju 2 3 0 r14 hr14) G15 ⟨O,O,O,O,O,O,G⟩) O,G⟩ (Gc (u:=E0 [r14]) O O ⟨Gw (Hm (xs:=[.agg (G6.cs r14)]) O ⟨O,O,G⟩ H2 R9 O O O O) O,G⟩ (Gc (u:=.tup [E1 r15.1,G0 r15.2]) O O ⟨Gw (Gq (args:=[.agg (Hb.cs r3),E2 [(Gv.mk 1 ByteArray.empty 40 false 0 0 1 0 false),(Gv.mk 2 ByteArray.empty 40 false 0 0 2 0 false),(Gv.mk 3 ByteArray.empty 40 false 0 1 2 0 false)],E0 [r12,r13],E0 [r14]]) O (Gca F r3 [(Gv.mk 1 ByteArray.empty 40 false 0 0 1 0 false),(Gv.mk 2 ByteArray.empty 40 false 0 0 2 0 false),(Gv.mk 3 ByteArray.empty 40 false 0 1 2 0 false)] [r12,r13] [r14] r15 hr15) Hbc ⟨O,O,O,O,O,O,O,O,G⟩) O,G⟩ (Gc (u:=.tup [E1 r15.1,G0 r15.2]) O O ⟨Gw (G5 O O) O,G⟩ (Gc (u:=E1 r15.1) O O ⟨Gw (J1 O O O) O,G⟩ (Gc (u:=G0 r15.2) O O ⟨Gw (J1 O O O) O,G⟩ (Gc (u:=E1 r15.1) O O ⟨Gw (G9 O O) O,G⟩ (Gc (u:=G0 r15.2) O O ⟨Gw (G9 O O) O,G⟩ (Yz ?_)))))))))))))
 refine hK11 _ _ (G7 fun K16 hK16=>G2 ?_)
 obtain⟨r17,hr17,h⟩:=Gf h
 refine JLh (.agg (G6.cs r17)) (Gq (args:=[G0 1,G0 4,G0 0]) O (Ju 1 4 0 r17 hr17) G15 ⟨O,O,O,O,O,O,G⟩) O ?_
 obtain⟨r18,hr18,h⟩:=Gf h
 refine JLh (.agg (G6.cs r18)) (Gq (args:=[G0 2,G0 4,G0 1]) O (Ju 2 4 1 r18 hr18) G15 ⟨O,O,O,O,O,O,G⟩) O (JLh (E0 [r17,r18]) (Hm (xs:=[.agg (G6.cs r17),.agg (G6.cs r18)]) O ⟨O,O,O,O,G⟩ H2 R9 O O O O) O ?_)
 obtain⟨r19,hr19,h⟩:=Gf h
 refine JLh (.agg (G6.cs r19)) (Gq (args:=[G0 2,G0 4,G0 1]) O (Ju 2 4 1 r19 hr19) G15 ⟨O,O,O,O,O,O,G⟩) O ?_
 obtain⟨r20,hr20,h⟩:=Gf h
 refine JLh (.agg (G6.cs r20)) (Gq (args:=[G0 3,G0 4,G0 0]) O (Ju 3 4 0 r20 hr20) G15 ⟨O,O,O,O,O,O,G⟩) O (JLh (E0 [r19,r20]) (Hm (xs:=[.agg (G6.cs r19),.agg (G6.cs r20)]) O ⟨O,O,O,O,G⟩ H2 R9 O O O O) O (JLh (LS 1 (E0) ([[r17,r18],[r19,r20],[]])) (Ja2 (xs:=[E0 [r17,r18],E0 [r19,r20],E0 ([]:List G6)]) O ⟨.inl O,O,.inl O,O,.inr ⟨_,O,O⟩,O,G⟩ Rg Gb4 O O O O) O (JLh (.agg [LS 1 (E0) ([[r17,r18],[r19,r20],[]]),LS 1 (E1) ([]:List (List Int))]) (Jv (cs:=[LS 1 (E0) ([[r17,r18],[r19,r20],[]]),LS 1 (E1) ([]:List (List Int))]) [(0,1),(1,1)] [LS 1 (E0) ([]:List (List G6)),LS 1 (E1) ([]:List (List Int))] [.slice none 0 0,.slice none 0 0] Jab Jec ⟨.inr ⟨_,O,O⟩,.inr ⟨_,O,O⟩,G⟩ O O) O (JLh (.ptr 1007 0) (Jb 1007 2 Jb2 O O) O (J4 (u:=.junk) (Ht (u:=.agg [LS 1 (E0) ([[r17,r18],[r19,r20],[]]),LS 1 (E1) ([]:List (List Int))]) (ds:=[LS 1 (E0) ([[r17,r18],[r19,r20],[]]),LS 1 (E1) ([]:List (List Int))]) Jee O O O O O O O O) (G8 (hK16 _ _ ?_)))))))
 refine Gx [(1,Ee r3),(2,E2 [(Gv.mk 1 ByteArray.empty 40 false 0 0 1 0 false),(Gv.mk 2 ByteArray.empty 40 false 0 0 2 0 false),(Gv.mk 3 ByteArray.empty 40 false 0 1 2 0 false)]),(3,E1 r10.1),(4,G0 r10.2),(5,E1 r15.1),(6,G0 r15.2),(7,.dptr [LS 1 (E0) ([[r17,r18],[r19,r20],[]]),LS 1 (E1) ([]:List (List Int))])] [] 1007 rfl rfl rfl G rfl (by repeat' (first | exact .ptr | constructor)) ?_
 refine G7 fun K21 hK21=>G2 (JLh (.agg (Hb.cs r3)) (Gj J8 O O O) O (JLh (E2 [(Gv.mk 1 ByteArray.empty 40 false 0 0 1 0 false),(Gv.mk 2 ByteArray.empty 40 false 0 0 2 0 false),(Gv.mk 3 ByteArray.empty 40 false 0 1 2 0 false)]) (G5 O O) O (JLh (.agg [LS 1 (E0) ([[r17,r18],[r19,r20],[]]),LS 1 (E1) ([]:List (List Int))]) (Gj Gde O O O) O ?_)))
 obtain⟨r22,hr22,h⟩:=Gf h
 refine JLh (.tup [LS 1 (E1) r22.1,G0 r22.2]) (Gq (args:=[.agg (Hb.cs r3),E2 [(Gv.mk 1 ByteArray.empty 40 false 0 0 1 0 false),(Gv.mk 2 ByteArray.empty 40 false 0 0 2 0 false),(Gv.mk 3 ByteArray.empty 40 false 0 1 2 0 false)],G0 3,.agg [LS 1 (E0) ([[r17,r18],[r19,r20],[]]),LS 1 (E1) ([]:List (List Int))]]) O (H3c F r3 [(Gv.mk 1 ByteArray.empty 40 false 0 0 1 0 false),(Gv.mk 2 ByteArray.empty 40 false 0 0 2 0 false),(Gv.mk 3 ByteArray.empty 40 false 0 1 2 0 false)] 3 (Gf1.mk ([[r17,r18],[r19,r20],[]]) []) r22 hr22) J66 ⟨O,O,O,O,O,O,O,O,G⟩) O (JLh (.tup [LS 1 (E1) r22.1,G0 r22.2]) (G5 O O) O (JLh (LS 1 (E1) r22.1) (J1 O O O) O (JLh (G0 r22.2) (J1 O O O) O (JLh (LS 1 (E1) r22.1) (G9 O O) O (JLh (G0 r22.2) (G9 O O) O (G8 (hK21 _ _ ?_)))))))
 refine G7 fun K23 hK23=>G2 (JLh (.agg (Hb.cs r3)) (Gj J8 O O O) O (JLh (E2 [(Gv.mk 1 ByteArray.empty 40 false 0 0 1 0 false),(Gv.mk 2 ByteArray.empty 40 false 0 0 2 0 false),(Gv.mk 3 ByteArray.empty 40 false 0 1 2 0 false)]) (G5 O O) O (JLh (.agg [LS 1 (E0) ([[r17,r18],[r19,r20],[]]),LS 1 (E1) ([]:List (List Int))]) (Gj Gde O O O) O ?_)))
 obtain⟨r24,hr24,h⟩:=Gf h
 refine JLh (.tup [G0 r24.1,G0 r24.2]) (Gq (args:=[.agg (Hb.cs r3),E2 [(Gv.mk 1 ByteArray.empty 40 false 0 0 1 0 false),(Gv.mk 2 ByteArray.empty 40 false 0 0 2 0 false),(Gv.mk 3 ByteArray.empty 40 false 0 1 2 0 false)],G0 3,.agg [LS 1 (E0) ([[r17,r18],[r19,r20],[]]),LS 1 (E1) ([]:List (List Int))]]) O (J8e F r3 [(Gv.mk 1 ByteArray.empty 40 false 0 0 1 0 false),(Gv.mk 2 ByteArray.empty 40 false 0 0 2 0 false),(Gv.mk 3 ByteArray.empty 40 false 0 1 2 0 false)] 3 (Gf1.mk ([[r17,r18],[r19,r20],[]]) []) r24 hr24) Q0d ⟨O,O,O,O,O,O,O,O,G⟩) O (JLh (.tup [G0 r24.1,G0 r24.2]) (G5 O O) O (JLh (G0 r24.1) (J1 O O O) O (JLh (G0 r24.2) (J1 O O O) O (JLh (G0 r24.1) (G9 O O) O (JLh (G0 r24.2) (G9 O O) O (G8 (hK23 _ _ ?_)))))))
 refine G7 fun K25 hK25=>G2 (JLh (.agg (Hb.cs r3)) (Gj J8 O O O) O (JLh (E2 [(Gv.mk 1 ByteArray.empty 40 false 0 0 1 0 false),(Gv.mk 2 ByteArray.empty 40 false 0 0 2 0 false),(Gv.mk 3 ByteArray.empty 40 false 0 1 2 0 false)]) (G5 O O) O (JLh (.agg [LS 1 (E0) ([[r17,r18],[r19,r20],[]]),LS 1 (E1) ([]:List (List Int))]) (Gj Gde O O O) O ?_)))
 obtain⟨r26,hr26,h⟩:=Gf h
 refine JLh (.tup [G0 r26.1,G0 r26.2]) (Gq (args:=[.agg (Hb.cs r3),E2 [(Gv.mk 1 ByteArray.empty 40 false 0 0 1 0 false),(Gv.mk 2 ByteArray.empty 40 false 0 0 2 0 false),(Gv.mk 3 ByteArray.empty 40 false 0 1 2 0 false)],G0 4,.agg [LS 1 (E0) ([[r17,r18],[r19,r20],[]]),LS 1 (E1) ([]:List (List Int))]]) O (H90 r3 [(Gv.mk 1 ByteArray.empty 40 false 0 0 1 0 false),(Gv.mk 2 ByteArray.empty 40 false 0 0 2 0 false),(Gv.mk 3 ByteArray.empty 40 false 0 1 2 0 false)] 4 (Gf1.mk ([[r17,r18],[r19,r20],[]]) []) r26 hr26) J68 ⟨O,O,O,O,O,O,O,O,G⟩) O (JLh (.tup [G0 r26.1,G0 r26.2]) (G5 O O) O (JLh (G0 r26.1) (J1 O O O) O (JLh (G0 r26.2) (J1 O O O) O (JLh (G0 r26.1) (G9 O O) O (JLh (G0 r26.2) (G9 O O) O (G8 (hK25 _ _ (G7 (fun K27 hK27=>?_)))))))))
 obtain⟨v28,hv28,h⟩:=Qw h
 obtain⟨v29,hv29,h⟩:=Qw h
 obtain⟨v30,hv30,h⟩:=Qw h
 obtain⟨r31,hr31,h⟩:=Gf h
 obtain⟨r32,hr32,h⟩:=Gf h
 obtain⟨y33,hy33,h⟩:=Gf h
 obtain⟨y34,hy34,h⟩:=Gf h
 obtain⟨v35,hv35,h⟩:=Gf h
 obtain⟨y36,hy36,h⟩:=Gf h
 obtain⟨r37,hr37,h⟩:=Gf h
 obtain⟨r38,hr38,h⟩:=Gf h
 obtain⟨r39,hr39,h⟩:=Gf h
 refine Q6 [] [0,0,0,0,0,0,0,0,0,0,0,0,0,0,0,0,0,0,0,0,0,0,0,0,0,0,0,0,0,0,0,0,0,0,0,0,0,0,0,0,0,0,0,0,0,0,0,0,0,0,0,0,0,0,0,0,0] [0,0,0,0,0,0,0,0,0,0,0,0,0,0,0,0,0,0,0,0,0,0,0,0,0,0,0,0,0,0,0,0,0,0,0,0,0,0,0,0,0,0,0,0,0,0,0,0,0,0,0,0,0,0,0,0,0] [[]] Jk (by kernel_rfl) rfl rfl ?_
 refine Gc (u:=G0 r10.2) O O ⟨Gw (G5 O O) O,G⟩ (Gc (u:=G0 r15.2) O O ⟨Gw (G5 O O) O,G⟩ (Gc (u:=G0 v28) O O ⟨Gw (Hy hv28 O O O) O,G⟩ (Gc (u:=G0 r22.2) O O ⟨Gw (G5 O O) O,G⟩ (Gc (u:=G0 v29) O O ⟨Gw (Hy hv29 O O O) O,G⟩ (Gc (u:=G0 r24.2) O O ⟨Gw (G5 O O) O,G⟩ (Gc (u:=G0 v30) O O ⟨Gw (Hy hv30 O O O) O,G⟩ (Gc (u:=BL (decide (v30=0))) O O ⟨Gw (Jx O O O) O,G⟩ (Gc (u:=BL (decide (v30=0))) O O ⟨Gw (G5 O O) O,G⟩ (Gc (u:=.opt (decide (v30=0)) (G0 r26.2)) O O ⟨Ge [] O O O .sct G (fun hc=>G5 O O) O,G⟩ (Gc (u:=.opt (decide (v30=0)) (BL (decide (r26.2=231)))) O O ⟨Ge [(80,G0 r26.2)] O O O .sct ⟨.all id,G⟩ (fun hc=>Jx O O O) O,G⟩ (Gc (u:=BL ((decide (v30=0))&&(decide (r26.2=231)))) O O ⟨Gw (Hx O O O O) O,G⟩ (Gc (u:=BL ((decide (v30=0))&&(decide (r26.2=231)))) O O ⟨Gw (G5 O O) O,G⟩ (Gc (u:=.opt ((decide (v30=0))&&(decide (r26.2=231))) (E1 r10.1)) O O ⟨Ge [] O O O .sct G (fun hc=>G5 O O) O,G⟩ ?_)))))))))))))
 refine Gc (u:=.opt ((decide (v30=0))&&(decide (r26.2=231))) (E1 [1,2,3])) O O ⟨Ge [] O O O .sct G (fun hc=>Hm (xs:=[G0 1,G0 2,G0 3]) O ⟨O,O,O,O,O,O,G⟩ H0 G13 O O O O) O,G⟩ (Gc (u:=.opt ((decide (v30=0))&&(decide (r26.2=231))) (BL r31)) O O ⟨Ge [(84,E1 r10.1),(85,E1 [1,2,3])] O O O .sct ⟨.all id,.all id,G⟩ (fun hc=>Gq (args:=[E1 r10.1,E1 [1,2,3]]) O (Q9 r10.1 [1,2,3] r31 (Gz hc hr31)) G55 ⟨O,O,O,O,G⟩) O,G⟩ (Gc (u:=BL (((decide (v30=0))&&(decide (r26.2=231)))&&r31)) O O ⟨Gw (Hx O O O O) O,G⟩ (Gc (u:=BL (((decide (v30=0))&&(decide (r26.2=231)))&&r31)) O O ⟨Gw (G5 O O) O,G⟩ (Gc (u:=.opt (((decide (v30=0))&&(decide (r26.2=231)))&&r31) (E1 r15.1)) O O ⟨Ge [] O O O .sct G (fun hc=>G5 O O) O,G⟩ (Gc (u:=.opt (((decide (v30=0))&&(decide (r26.2=231)))&&r31) (E1 [1,2])) O O ⟨Ge [] O O O .sct G (fun hc=>Hm (xs:=[G0 1,G0 2]) O ⟨O,O,O,O,G⟩ H0 G13 O O O O) O,G⟩ (Gc (u:=.opt (((decide (v30=0))&&(decide (r26.2=231)))&&r31) (BL r32)) O O ⟨Ge [(89,E1 r15.1),(90,E1 [1,2])] O O O .sct ⟨.all id,.all id,G⟩ (fun hc=>Gq (args:=[E1 r15.1,E1 [1,2]]) O (Q9 r15.1 [1,2] r32 (Gz hc hr32)) G55 ⟨O,O,O,O,G⟩) O,G⟩ (Gc (u:=BL ((((decide (v30=0))&&(decide (r26.2=231)))&&r31)&&r32)) O O ⟨Gw (Hx O O O O) O,G⟩ (Gc (u:=BL ((((decide (v30=0))&&(decide (r26.2=231)))&&r31)&&r32)) O O ⟨Gw (G5 O O) O,G⟩ (Gc (u:=.opt ((((decide (v30=0))&&(decide (r26.2=231)))&&r31)&&r32) (G0 r24.1)) O O ⟨Ge [] O O O .sct G (fun hc=>G5 O O) O,G⟩ (Gc (u:=.opt ((((decide (v30=0))&&(decide (r26.2=231)))&&r31)&&r32) (BL (decide (r24.1=1)))) O O ⟨Ge [(94,G0 r24.1)] O O O .sct ⟨.all id,G⟩ (fun hc=>Jx O O O) O,G⟩ (Gc (u:=BL (((((decide (v30=0))&&(decide (r26.2=231)))&&r31)&&r32)&&(decide (r24.1=1)))) O O ⟨Gw (Hx O O O O) O,G⟩ (Gc (u:=BL (((((decide (v30=0))&&(decide (r26.2=231)))&&r31)&&r32)&&(decide (r24.1=1)))) O O ⟨Gw (G5 O O) O,G⟩ (Gc (u:=.opt (((((decide (v30=0))&&(decide (r26.2=231)))&&r31)&&r32)&&(decide (r24.1=1))) (LS 1 (E1) r22.1)) O O ⟨Ge [] O O O .sct G (fun hc=>G5 O O) O,G⟩ ?_)))))))))))))
 refine Gc (u:=.opt (((((decide (v30=0))&&(decide (r26.2=231)))&&r31)&&r32)&&(decide (r24.1=1))) (En r22.1.length)) O O ⟨Ge [(98,LS 1 (E1) r22.1)] O O O .sct ⟨.all id,G⟩ (fun hc=>Qt (f:=(E1)) (xs:=r22.1) G3b O O) O,G⟩ (Gc (u:=.opt (((((decide (v30=0))&&(decide (r26.2=231)))&&r31)&&r32)&&(decide (r24.1=1))) (BL (decide ((r22.1.length:Int)=3)))) O O ⟨Ge [(99,En r22.1.length)] O O O .sct ⟨.all id,G⟩ (fun hc=>Jx O O O) O,G⟩ (Gc (u:=BL ((((((decide (v30=0))&&(decide (r26.2=231)))&&r31)&&r32)&&(decide (r24.1=1)))&&(decide ((r22.1.length:Int)=3)))) O O ⟨Gw (Hx O O O O) O,G⟩ (Gc (u:=BL ((((((decide (v30=0))&&(decide (r26.2=231)))&&r31)&&r32)&&(decide (r24.1=1)))&&(decide ((r22.1.length:Int)=3)))) O O ⟨Gw (G5 O O) O,G⟩ (Gc (u:=.opt ((((((decide (v30=0))&&(decide (r26.2=231)))&&r31)&&r32)&&(decide (r24.1=1)))&&(decide ((r22.1.length:Int)=3))) (LS 1 (E1) r22.1)) O O ⟨Ge [] O O O .sct G (fun hc=>G5 O O) O,G⟩ (Gc (u:=.opt ((((((decide (v30=0))&&(decide (r26.2=231)))&&r31)&&r32)&&(decide (r24.1=1)))&&(decide ((r22.1.length:Int)=3))) (.dptr [E1 y33])) O O ⟨Ge [(103,LS 1 (E1) r22.1)] O O O .sct ⟨.all id,G⟩ (fun hc=>(match Jf (Gz hc hy33) with | ⟨_,hm_,hy_⟩=>Gt (f:=(E1)) (xs:=r22.1) (y:=y33) O O O G3b hy_ hm_)) O,G⟩ (Gc (u:=.opt ((((((decide (v30=0))&&(decide (r26.2=231)))&&r31)&&r32)&&(decide (r24.1=1)))&&(decide ((r22.1.length:Int)=3))) (E1 y33)) O O ⟨Ge [(104,.dptr [E1 y33])] O O O .sct ⟨.all id,G⟩ (fun hc=>Gh Hg O O O) O,G⟩ (Gc (u:=.opt ((((((decide (v30=0))&&(decide (r26.2=231)))&&r31)&&r32)&&(decide (r24.1=1)))&&(decide ((r22.1.length:Int)=3))) (En y33.length)) O O ⟨Ge [(105,E1 y33)] O O O .sct ⟨.all id,G⟩ (fun hc=>Qt (f:=G0) (xs:=y33) H0 O O) O,G⟩ (Gc (u:=.opt ((((((decide (v30=0))&&(decide (r26.2=231)))&&r31)&&r32)&&(decide (r24.1=1)))&&(decide ((r22.1.length:Int)=3))) (LS 1 (E1) r22.1)) O O ⟨Ge [] O O O .sct G (fun hc=>G5 O O) O,G⟩ (Gc (u:=.opt ((((((decide (v30=0))&&(decide (r26.2=231)))&&r31)&&r32)&&(decide (r24.1=1)))&&(decide ((r22.1.length:Int)=3))) (.dptr [E1 y34])) O O ⟨Ge [(107,LS 1 (E1) r22.1)] O O O .sct ⟨.all id,G⟩ (fun hc=>(match Jf (Gz hc hy34) with | ⟨_,hm_,hy_⟩=>Gt (f:=(E1)) (xs:=r22.1) (y:=y34) O O O G3b hy_ hm_)) O,G⟩ (Gc (u:=.opt ((((((decide (v30=0))&&(decide (r26.2=231)))&&r31)&&r32)&&(decide (r24.1=1)))&&(decide ((r22.1.length:Int)=3))) (E1 y34)) O O ⟨Ge [(108,.dptr [E1 y34])] O O O .sct ⟨.all id,G⟩ (fun hc=>Gh Hg O O O) O,G⟩ (Gc (u:=.opt ((((((decide (v30=0))&&(decide (r26.2=231)))&&r31)&&r32)&&(decide (r24.1=1)))&&(decide ((r22.1.length:Int)=3))) (En y34.length)) O O ⟨Ge [(109,E1 y34)] O O O .sct ⟨.all id,G⟩ (fun hc=>Qt (f:=G0) (xs:=y34) H0 O O) O,G⟩ (Gc (u:=.opt ((((((decide (v30=0))&&(decide (r26.2=231)))&&r31)&&r32)&&(decide (r24.1=1)))&&(decide ((r22.1.length:Int)=3))) (G0 v35)) O O ⟨Ge [(106,En y33.length),(110,En y34.length)] O O O .sct ⟨.all id,.all id,G⟩ (fun hc=>Hy (G04 (Gz hc hv35)) O O O) O,G⟩ (Gc (u:=.opt ((((((decide (v30=0))&&(decide (r26.2=231)))&&r31)&&r32)&&(decide (r24.1=1)))&&(decide ((r22.1.length:Int)=3))) (BL (decide (v35=0)))) O O ⟨Ge [(111,G0 v35)] O O O .sct ⟨.all id,G⟩ (fun hc=>Jx O O O) O,G⟩ ?_)))))))))))))
 refine Gc (u:=BL (((((((decide (v30=0))&&(decide (r26.2=231)))&&r31)&&r32)&&(decide (r24.1=1)))&&(decide ((r22.1.length:Int)=3)))&&(decide (v35=0)))) O O ⟨Gw (Hx O O O O) O,G⟩ (Gc (u:=BL (((((((decide (v30=0))&&(decide (r26.2=231)))&&r31)&&r32)&&(decide (r24.1=1)))&&(decide ((r22.1.length:Int)=3)))&&(decide (v35=0)))) O O ⟨Gw (G5 O O) O,G⟩ (Gc (u:=.opt (((((((decide (v30=0))&&(decide (r26.2=231)))&&r31)&&r32)&&(decide (r24.1=1)))&&(decide ((r22.1.length:Int)=3)))&&(decide (v35=0))) (LS 1 (E1) r22.1)) O O ⟨Ge [] O O O .sct G (fun hc=>G5 O O) O,G⟩ (Gc (u:=.opt (((((((decide (v30=0))&&(decide (r26.2=231)))&&r31)&&r32)&&(decide (r24.1=1)))&&(decide ((r22.1.length:Int)=3)))&&(decide (v35=0))) (.dptr [E1 y36])) O O ⟨Ge [(115,LS 1 (E1) r22.1)] O O O .sct ⟨.all id,G⟩ (fun hc=>(match Jf (Gz hc hy36) with | ⟨_,hm_,hy_⟩=>Gt (f:=(E1)) (xs:=r22.1) (y:=y36) O O O G3b hy_ hm_)) O,G⟩ (Gc (u:=.opt (((((((decide (v30=0))&&(decide (r26.2=231)))&&r31)&&r32)&&(decide (r24.1=1)))&&(decide ((r22.1.length:Int)=3)))&&(decide (v35=0))) (E1 y36)) O O ⟨Ge [(116,.dptr [E1 y36])] O O O .sct ⟨.all id,G⟩ (fun hc=>Gh Hg O O O) O,G⟩ (Gc (u:=.opt (((((((decide (v30=0))&&(decide (r26.2=231)))&&r31)&&r32)&&(decide (r24.1=1)))&&(decide ((r22.1.length:Int)=3)))&&(decide (v35=0))) (E1 [2])) O O ⟨Ge [] O O O .sct G (fun hc=>Hm (xs:=[G0 2]) O ⟨O,O,G⟩ H0 G13 O O O O) O,G⟩ (Gc (u:=.opt (((((((decide (v30=0))&&(decide (r26.2=231)))&&r31)&&r32)&&(decide (r24.1=1)))&&(decide ((r22.1.length:Int)=3)))&&(decide (v35=0))) (BL r37)) O O ⟨Ge [(117,E1 y36),(118,E1 [2])] O O O .sct ⟨.all id,.all id,G⟩ (fun hc=>Gq (args:=[E1 y36,E1 [2]]) O (Q9 y36 [2] r37 (Gz hc hr37)) G55 ⟨O,O,O,O,G⟩) O,G⟩ (Gc (u:=BL ((((((((decide (v30=0))&&(decide (r26.2=231)))&&r31)&&r32)&&(decide (r24.1=1)))&&(decide ((r22.1.length:Int)=3)))&&(decide (v35=0)))&&r37)) O O ⟨Gw (Hx O O O O) O,G⟩ (Gc (u:=BL ((((((((decide (v30=0))&&(decide (r26.2=231)))&&r31)&&r32)&&(decide (r24.1=1)))&&(decide ((r22.1.length:Int)=3)))&&(decide (v35=0)))&&r37)) O O ⟨Gw (G5 O O) O,G⟩ (Gc (u:=.opt ((((((((decide (v30=0))&&(decide (r26.2=231)))&&r31)&&r32)&&(decide (r24.1=1)))&&(decide ((r22.1.length:Int)=3)))&&(decide (v35=0)))&&r37) (E2 [(Gv.mk 1 ByteArray.empty 40 false 0 0 1 0 false),(Gv.mk 2 ByteArray.empty 40 false 0 0 2 0 false),(Gv.mk 3 ByteArray.empty 40 false 0 1 2 0 false)])) O O ⟨Ge [] O O O .sct G (fun hc=>G5 O O) O,G⟩ (Gc (u:=.opt ((((((((decide (v30=0))&&(decide (r26.2=231)))&&r31)&&r32)&&(decide (r24.1=1)))&&(decide ((r22.1.length:Int)=3)))&&(decide (v35=0)))&&r37) (E1 r38)) O O ⟨Ge [(122,E2 [(Gv.mk 1 ByteArray.empty 40 false 0 0 1 0 false),(Gv.mk 2 ByteArray.empty 40 false 0 0 2 0 false),(Gv.mk 3 ByteArray.empty 40 false 0 1 2 0 false)])] O O O .sct ⟨.all id,G⟩ (fun hc=>Gq (args:=[E2 [(Gv.mk 1 ByteArray.empty 40 false 0 0 1 0 false),(Gv.mk 2 ByteArray.empty 40 false 0 0 2 0 false),(Gv.mk 3 ByteArray.empty 40 false 0 1 2 0 false)],G0 1]) O (H65 [(Gv.mk 1 ByteArray.empty 40 false 0 0 1 0 false),(Gv.mk 2 ByteArray.empty 40 false 0 0 2 0 false),(Gv.mk 3 ByteArray.empty 40 false 0 1 2 0 false)] 1 r38 (Gz hc hr38)) J67 ⟨O,O,O,O,G⟩) O,G⟩ (Gc (u:=.opt ((((((((decide (v30=0))&&(decide (r26.2=231)))&&r31)&&r32)&&(decide (r24.1=1)))&&(decide ((r22.1.length:Int)=3)))&&(decide (v35=0)))&&r37) (E1 [2,3])) O O ⟨Ge [] O O O .sct G (fun hc=>Hm (xs:=[G0 2,G0 3]) O ⟨O,O,O,O,G⟩ H0 G13 O O O O) O,G⟩ (Gc (u:=.opt ((((((((decide (v30=0))&&(decide (r26.2=231)))&&r31)&&r32)&&(decide (r24.1=1)))&&(decide ((r22.1.length:Int)=3)))&&(decide (v35=0)))&&r37) (BL r39)) O O ⟨Ge [(123,E1 r38),(124,E1 [2,3])] O O O .sct ⟨.all id,.all id,G⟩ (fun hc=>Gq (args:=[E1 r38,E1 [2,3]]) O (Q9 r38 [2,3] r39 (Gz hc hr39)) G55 ⟨O,O,O,O,G⟩) O,G⟩ (Gc (u:=BL (((((((((decide (v30=0))&&(decide (r26.2=231)))&&r31)&&r32)&&(decide (r24.1=1)))&&(decide ((r22.1.length:Int)=3)))&&(decide (v35=0)))&&r37)&&r39)) O O ⟨Gw (Hx O O O O) O,G⟩ ?_)))))))))))))
 refine Gc (u:=BL (((((((((decide (v30=0))&&(decide (r26.2=231)))&&r31)&&r32)&&(decide (r24.1=1)))&&(decide ((r22.1.length:Int)=3)))&&(decide (v35=0)))&&r37)&&r39)) O O ⟨Gw (G9 O O) O,G⟩ (Yz (hK27 _ _ (Gu (⟨[BL (((((((((decide (v30=0))&&(decide (r26.2=231)))&&r31)&&r32)&&(decide (r24.1=1)))&&(decide ((r22.1.length:Int)=3)))&&(decide (v35=0)))&&r37)&&r39)],[],G,O,⟨⟨_,O,.conv (.same O)⟩,G⟩,O,congrArg (fun r:Bool=>(BL r:AV)) (Option.some.inj h)⟩))))

def Hs (n:Int) (low:Int) (high:Int):Option Bool:=
 some ((decide (low≤n))&&(decide (n≤high)))
theorem J3 (n:Int) (low:Int) (high:Int) (r:Bool) (h:Hs n low high=some r):Pure Tryz.prog 157 [G0 n,G0 low,G0 high] (·=BL r):=by
 unfold Hs at h
 refine H1 [.tmp 6] Tryz.func157 O O (G7 fun K1 hK1=>G2 (JLh (BL false) (G9 O O) O (G8 (hK1 _ _ (G7 fun K2 hK2=>G2 (JLh (G0 n) (G5 O O) O (JLh (G0 low) (G5 O O) O (JLh (BL (decide (low≤n))) (G29 O O O) O (JLh (BL (decide (low≤n))) (G5 O O) O (Ga (u:=G0 n) [] O O O .sct G (fun hc=>G5 O O) ?_))))))))))
 refine Ga (u:=G0 high) [] O O O .sct G (fun hc=>G5 O O) ?_
 refine Ga (u:=BL (decide (n≤high))) [(11,G0 n),(12,G0 high)] O O O .sct ⟨.all id,.all id,G⟩ (fun hc=>H98 O O O) ?_
 refine JLh (BL ((decide (low≤n))&&(decide (n≤high)))) (Hx O O O O) O (JLh (BL ((decide (low≤n))&&(decide (n≤high)))) (G9 O O) O (G8 (hK2 _ _ (Gu (⟨[BL ((decide (low≤n))&&(decide (n≤high)))],[],G,O,⟨⟨_,O,.conv (.same O)⟩,G⟩,O,congrArg (fun r:Bool=>(BL r:AV)) (Option.some.inj h)⟩)))))

def Yr (c:G4):Option Bool:=
 each (fun y41 i41 (s41:Unit) nx41=>
  bif ((decide (y41 < 0))||(decide (c.Tiers≤y41))) then
  (some false)
  else
  (bnd (bif decide (0 < (i41:Int)) then G32 ((i41:Int) - 1) some else some 0) fun v49=>
   bnd (bif decide (0 < (i41:Int)) then Q3 c.Plugs v49 some else some default) fun y50=>
   bif ((decide (0 < (i41:Int)))&&(decide (y41≤y50))) then
   (some false)
   else
   (nx41 ())))
 (fun(s41:Unit)=>
  bnd (Hs c.X (-500000) 500000) fun r53=>
  bnd (bif r53 then Hs c.Y (-500000) 500000 else some default) fun r54=>
  bnd (bif (r53&&r54) then Hs c.Z (-500000) 500000 else some default) fun r55=>
  bnd (Hs c.Kilos20 0 500000000) fun r57=>
  bnd (bif r57 then Hs c.Kilos40 0 500000000 else some default) fun r58=>
  bnd (bif (r57&&r58) then Hs c.Lash 0 1000000000000 else some default) fun r59=>
  bnd (Hs c.Bay 0 39) fun r61=>
  bnd (bif r61 then Hs c.Row 0 30 else some default) fun r62=>
  bnd (bif (r61&&r62) then Hs c.Tiers 1 10 else some default) fun r63=>
  bnd (bif ((r61&&r62)&&r63) then Hs c.Height 0 40000 else some default) fun r64=>
  some (((((r61&&r62)&&r63)&&r64)&&((r57&&r58)&&r59))&&((r53&&r54)&&r55))) c.Plugs 0 ()
theorem H04 (c:G4) (r:Bool) (h:Yr c=some r):Pure Tryz.prog 158 [.agg (G4.cs c)] (·=BL r):=by
 unfold Yr at h
 refine H1 [.tmp 2] Tryz.func158 O O (G7 fun K1 hK1=>G2 (JLh (.ptr 1102 0) (Jy (u:=.agg (G4.cs c)) (cs:=(G4.cs c)) 1102 O O O O O) O (JLh (BL false) (G9 O O) O (G8 (hK1 _ _ (Gx [(1,Eh c)] [] 1102 rfl rfl rfl G rfl (by exact⟨.ptr,G⟩) (G7 (fun K2 hK2=>G7 fun K3 hK3=>G2 (JLh (G0 0) (G9 O O) O (G8 (hK3 _ _ (Gk ?_))))))))))))
 obtain⟨b41,kx41,hb41,hkx41,h⟩:=Hw h
 refine Hc (fun i41 (s41:Unit)=>each b41 kx41 (List.drop i41 c.Plugs) i41 s41=some r) (fun i41 s41=>[(1,Eh c),(3,En i41)]) (fun i41 s41=>[]) (fun i41=>c.Plugs.length - i41) 0 () h ⟨⟨.same O,.same O,G⟩,G,O⟩ ?_
 clear h
 intro i41 s41 hi41 K41 e41
 refine G7 (fun K42 hK42=>G7 fun K43 hK43=>G2 (JLh (En i41) (G5 O O) O (JLh (.dptr [E1 c.Plugs,G0 c.X,G0 c.Y,G0 c.Z]) (Gb Qp O O O) O (JLh (E1 c.Plugs) (Gh Hg O O O) O (H3 (f:=G0) (xs:=c.Plugs) H0 O O (fun hm9=>?_) O O O)))))
 refine JLh (BL (decide ((i41:Int) < (c.Plugs.length:Int)))) (J2 O O O) O (G8 (hK43 _ _ (Gn O (fun hb=>?_) (fun hb=>?_))))
 ·
  have hk41:=Jc hb
  obtain⟨y41,nx41,hy41,hn41,h⟩:=Hn hi41 hk41
  replace h:=Yb hb41 h
  refine Gp (hK42 _ _ (G7 (fun K44 hK44=>Gk (G7 (fun K45 hK45=>G7 (fun K46 hK46=>Q6 [] [0,0,0,0,0,0,0,0,0,0,0,0,0,0,0,0] [0,0,0,0,0,0,0,0,0,0,0,0,0,0,0,0] [[]] Jk (by kernel_rfl) rfl rfl ?_))))))
  refine Gc (u:=.dptr [E1 c.Plugs,G0 c.X,G0 c.Y,G0 c.Z]) O O ⟨Gw (Gb Qp O O O) O,G⟩ (Gc (u:=E1 c.Plugs) O O ⟨Gw (Gh Hg O O O) O,G⟩ (Gc (u:=En i41) O O ⟨Gw (G5 O O) O,G⟩ (Gc (u:=.dptr [G0 y41]) O O ⟨Gw (Gt (f:=G0) (xs:=c.Plugs) (y:=y41) O O O H0 hy41 O) O,G⟩ (Gc (u:=G0 y41) O O ⟨Gw (Gh Gd O O O) O,G⟩ (Gc (u:=BL (decide (y41 < 0))) O O ⟨Gw (J2 O O O) O,G⟩ (Gc (u:=BL (decide (y41 < 0))) O O ⟨Gw (G5 O O) O,G⟩ (Gc (u:=.opt (!(decide (y41 < 0))) (.dptr [E1 c.Plugs,G0 c.X,G0 c.Y,G0 c.Z])) O O ⟨Ge [] O O O .scf G (fun hc=>Gb Qp O O O) O,G⟩ (Gc (u:=.opt (!(decide (y41 < 0))) (E1 c.Plugs)) O O ⟨Ge [(20,.dptr [E1 c.Plugs,G0 c.X,G0 c.Y,G0 c.Z])] O O O .scf ⟨.all id,G⟩ (fun hc=>Gh Hg O O O) O,G⟩ (Gc (u:=.opt (!(decide (y41 < 0))) (En i41)) O O ⟨Ge [] O O O .scf G (fun hc=>G5 O O) O,G⟩ (Gc (u:=.opt (!(decide (y41 < 0))) (.dptr [G0 y41])) O O ⟨Ge [(21,E1 c.Plugs),(22,En i41)] O O O .scf ⟨.all id,.all id,G⟩ (fun hc=>Gt (f:=G0) (xs:=c.Plugs) (y:=y41) O O O H0 hy41 O) O,G⟩ (Gc (u:=.opt (!(decide (y41 < 0))) (G0 y41)) O O ⟨Ge [(23,.dptr [G0 y41])] O O O .scf ⟨.all id,G⟩ (fun hc=>Gh Gd O O O) O,G⟩ (Gc (u:=.opt (!(decide (y41 < 0))) (.dptr [G0 c.Tiers,G0 c.Height,G0 c.Kilos20,G0 c.Kilos40,G0 c.Lash,E1 c.Plugs,G0 c.X,G0 c.Y,G0 c.Z])) O O ⟨Ge [] O O O .scf G (fun hc=>Gb Z1 O O O) O,G⟩ (Gc (u:=.opt (!(decide (y41 < 0))) (G0 c.Tiers)) O O ⟨Ge [(25,.dptr [G0 c.Tiers,G0 c.Height,G0 c.Kilos20,G0 c.Kilos40,G0 c.Lash,E1 c.Plugs,G0 c.X,G0 c.Y,G0 c.Z])] O O O .scf ⟨.all id,G⟩ (fun hc=>Gh Gd O O O) O,G⟩ ?_)))))))))))))
  refine Gc (u:=.opt (!(decide (y41 < 0))) (BL (decide (c.Tiers≤y41)))) O O ⟨Ge [(24,G0 y41),(26,G0 c.Tiers)] O O O .scf ⟨.all id,.all id,G⟩ (fun hc=>G29 O O O) O,G⟩ (Gc (u:=BL ((decide (y41 < 0))||(decide (c.Tiers≤y41)))) O O ⟨Gw (Rn O O O O) O,G⟩ (Yz (hK46 _ _ (Gn O (fun hb=>?_) (fun hb=>?_)))))
  ·
   replace h:=Gz hb h
   refine G7 fun K47 hK47=>G2 (JLh (BL false) (G9 O O) O (G8 (hK47 _ _ (Gu (⟨[BL false],[],G,O,⟨⟨_,O,.conv (.same O)⟩,G⟩,O,congrArg (fun r:Bool=>(BL r:AV)) (Option.some.inj h)⟩)))))
  ·
   replace h:=Hv hb h
   refine Gp (hK45 _ _ (G7 (fun K48 hK48=>?_)))
   obtain⟨v49,hv49,h⟩:=Gf h
   obtain⟨y50,hy50,h⟩:=Gf h
   refine Q6 [] [0,0,0,0,0,0,0,0,0,0,0,0,0,0,0,0] [0,0,0,0,0,0,0,0,0,0,0,0,0,0,0,0] [[]] Jk (by kernel_rfl) rfl rfl ?_
   refine Gc (u:=En i41) O O ⟨Gw (G5 O O) O,G⟩ (Gc (u:=BL (decide (0 < (i41:Int)))) O O ⟨Gw (G31 O O O) O,G⟩ (Gc (u:=BL (decide (0 < (i41:Int)))) O O ⟨Gw (G5 O O) O,G⟩ (Gc (u:=.opt (decide (0 < (i41:Int))) (.dptr [E1 c.Plugs,G0 c.X,G0 c.Y,G0 c.Z])) O O ⟨Ge [] O O O .sct G (fun hc=>Gb Qp O O O) O,G⟩ (Gc (u:=.opt (decide (0 < (i41:Int))) (E1 c.Plugs)) O O ⟨Ge [(32,.dptr [E1 c.Plugs,G0 c.X,G0 c.Y,G0 c.Z])] O O O .sct ⟨.all id,G⟩ (fun hc=>Gh Hg O O O) O,G⟩ (Gc (u:=.opt (decide (0 < (i41:Int))) (En i41)) O O ⟨Ge [] O O O .sct G (fun hc=>G5 O O) O,G⟩ (Gc (u:=.opt (decide (0 < (i41:Int))) (G0 v49)) O O ⟨Ge [(34,En i41)] O O O .sct ⟨.all id,G⟩ (fun hc=>Gcb (G04 (Gz hc hv49)) O O O) O,G⟩ (Gc (u:=.opt (decide (0 < (i41:Int))) (.dptr [G0 y50])) O O ⟨Ge [(33,E1 c.Plugs),(35,G0 v49)] O O O .sct ⟨.all id,.all id,G⟩ (fun hc=>(match Jf (Gz hc hy50) with | ⟨_,hm_,hy_⟩=>Gt (f:=G0) (xs:=c.Plugs) (y:=y50) O O O H0 hy_ hm_)) O,G⟩ (Gc (u:=.opt (decide (0 < (i41:Int))) (G0 y50)) O O ⟨Ge [(36,.dptr [G0 y50])] O O O .sct ⟨.all id,G⟩ (fun hc=>Gh Gd O O O) O,G⟩ (Gc (u:=.opt (decide (0 < (i41:Int))) (.dptr [E1 c.Plugs,G0 c.X,G0 c.Y,G0 c.Z])) O O ⟨Ge [] O O O .sct G (fun hc=>Gb Qp O O O) O,G⟩ (Gc (u:=.opt (decide (0 < (i41:Int))) (E1 c.Plugs)) O O ⟨Ge [(38,.dptr [E1 c.Plugs,G0 c.X,G0 c.Y,G0 c.Z])] O O O .sct ⟨.all id,G⟩ (fun hc=>Gh Hg O O O) O,G⟩ (Gc (u:=.opt (decide (0 < (i41:Int))) (En i41)) O O ⟨Ge [] O O O .sct G (fun hc=>G5 O O) O,G⟩ (Gc (u:=.opt (decide (0 < (i41:Int))) (.dptr [G0 y41])) O O ⟨Ge [(39,E1 c.Plugs),(40,En i41)] O O O .sct ⟨.all id,.all id,G⟩ (fun hc=>Gt (f:=G0) (xs:=c.Plugs) (y:=y41) O O O H0 hy41 O) O,G⟩ (Gc (u:=.opt (decide (0 < (i41:Int))) (G0 y41)) O O ⟨Ge [(41,.dptr [G0 y41])] O O O .sct ⟨.all id,G⟩ (fun hc=>Gh Gd O O O) O,G⟩ ?_)))))))))))))
   refine Gc (u:=.opt (decide (0 < (i41:Int))) (BL (decide (y41≤y50)))) O O ⟨Ge [(37,G0 y50),(42,G0 y41)] O O O .sct ⟨.all id,.all id,G⟩ (fun hc=>G29 O O O) O,G⟩ (Gc (u:=BL ((decide (0 < (i41:Int)))&&(decide (y41≤y50)))) O O ⟨Gw (Hx O O O O) O,G⟩ (Yz (hK48 _ _ (Gn O (fun hb=>?_) (fun hb=>?_)))))
   ·
    replace h:=Gz hb h
    refine G7 fun K51 hK51=>G2 (JLh (BL false) (G9 O O) O (G8 (hK51 _ _ (Gu (⟨[BL false],[],G,O,⟨⟨_,O,.conv (.same O)⟩,G⟩,O,congrArg (fun r:Bool=>(BL r:AV)) (Option.some.inj h)⟩)))))
   ·
    replace h:=Hv hb h
    refine Gp (hK44 _ _ (G2 (JLh (En i41) (G5 O O) O (JLh (G0 ((i41+1:Nat):Int)) (Hy (He hk41 hm9) O O O) O (JLh (G0 ((i41+1:Nat):Int)) (G9 O O) O (G8 (e41 _ _ (i41+1) () (app1 hn41 h) (by omega) ⟨⟨.same rfl,.same rfl,G⟩,G,rfl⟩)))))))
 ·
  have h:=app1 hkx41 (Ho hi41 (H9 hb))
  refine Hk (hK2 _ _ (G7 fun K52 hK52=>G2 (JLh (.dptr [G0 c.X,G0 c.Y,G0 c.Z]) (Gb G90 O O O) O (JLh (G0 c.X) (Gh Gd O O O) O ?_))))
  obtain⟨r53,hr53,h⟩:=Gf h
  refine JLh (BL r53) (Gq (args:=[G0 c.X,G0 (-500000),G0 500000]) O (J3 c.X (-500000) 500000 r53 hr53) Yp ⟨O,O,O,O,O,O,G⟩) O (JLh (BL r53) (G5 O O) O (Ga (u:=.dptr [G0 c.Y,G0 c.Z]) [] O O O .sct G (fun hc=>Gb G7a O O O) ?_))
  refine Ga (u:=G0 c.Y) [(49,.dptr [G0 c.Y,G0 c.Z])] O O O .sct ⟨.all id,G⟩ (fun hc=>Gh Gd O O O) ?_
  obtain⟨r54,hr54,h⟩:=Gf h
  refine Ga (u:=BL r54) [(50,G0 c.Y)] O O O .sct ⟨.all id,G⟩ (fun hc=>Gq (args:=[G0 c.Y,G0 (-500000),G0 500000]) O (J3 c.Y (-500000) 500000 r54 (Gz hc hr54)) Yp ⟨O,O,O,O,O,O,G⟩) ?_
  refine JLh (BL (r53&&r54)) (Hx O O O O) O (JLh (BL (r53&&r54)) (G5 O O) O (Ga (u:=.dptr [G0 c.Z]) [] O O O .sct G (fun hc=>Gb G79 O O O) ?_))
  refine Ga (u:=G0 c.Z) [(54,.dptr [G0 c.Z])] O O O .sct ⟨.all id,G⟩ (fun hc=>Gh Gd O O O) ?_
  obtain⟨r55,hr55,h⟩:=Gf h
  refine Ga (u:=BL r55) [(55,G0 c.Z)] O O O .sct ⟨.all id,G⟩ (fun hc=>Gq (args:=[G0 c.Z,G0 (-500000),G0 500000]) O (J3 c.Z (-500000) 500000 r55 (Gz hc hr55)) Yp ⟨O,O,O,O,O,O,G⟩) ?_
  refine JLh (BL ((r53&&r54)&&r55)) (Hx O O O O) O (JLh (BL ((r53&&r54)&&r55)) (G9 O O) O (G8 (hK52 _ _ (G7 fun K56 hK56=>G2 (JLh (.dptr [G0 c.Kilos20,G0 c.Kilos40,G0 c.Lash,E1 c.Plugs,G0 c.X,G0 c.Y,G0 c.Z]) (Gb G93 O O O) O (JLh (G0 c.Kilos20) (Gh Gd O O O) O ?_))))))
  obtain⟨r57,hr57,h⟩:=Gf h
  refine JLh (BL r57) (Gq (args:=[G0 c.Kilos20,G0 0,G0 500000000]) O (J3 c.Kilos20 0 500000000 r57 hr57) Yp ⟨O,O,O,O,O,O,G⟩) O (JLh (BL r57) (G5 O O) O (Ga (u:=.dptr [G0 c.Kilos40,G0 c.Lash,E1 c.Plugs,G0 c.X,G0 c.Y,G0 c.Z]) [] O O O .sct G (fun hc=>Gb G92 O O O) ?_))
  refine Ga (u:=G0 c.Kilos40) [(62,.dptr [G0 c.Kilos40,G0 c.Lash,E1 c.Plugs,G0 c.X,G0 c.Y,G0 c.Z])] O O O .sct ⟨.all id,G⟩ (fun hc=>Gh Gd O O O) ?_
  obtain⟨r58,hr58,h⟩:=Gf h
  refine Ga (u:=BL r58) [(63,G0 c.Kilos40)] O O O .sct ⟨.all id,G⟩ (fun hc=>Gq (args:=[G0 c.Kilos40,G0 0,G0 500000000]) O (J3 c.Kilos40 0 500000000 r58 (Gz hc hr58)) Yp ⟨O,O,O,O,O,O,G⟩) ?_
  refine JLh (BL (r57&&r58)) (Hx O O O O) O (JLh (BL (r57&&r58)) (G5 O O) O (Ga (u:=.dptr [G0 c.Lash,E1 c.Plugs,G0 c.X,G0 c.Y,G0 c.Z]) [] O O O .sct G (fun hc=>Gb G91 O O O) ?_))
  refine Ga (u:=G0 c.Lash) [(67,.dptr [G0 c.Lash,E1 c.Plugs,G0 c.X,G0 c.Y,G0 c.Z])] O O O .sct ⟨.all id,G⟩ (fun hc=>Gh Gd O O O) ?_
  obtain⟨r59,hr59,h⟩:=Gf h
  refine Ga (u:=BL r59) [(68,G0 c.Lash)] O O O .sct ⟨.all id,G⟩ (fun hc=>Gq (args:=[G0 c.Lash,G0 0,G0 1000000000000]) O (J3 c.Lash 0 1000000000000 r59 (Gz hc hr59)) Yp ⟨O,O,O,O,O,O,G⟩) ?_
  refine JLh (BL ((r57&&r58)&&r59)) (Hx O O O O) O (JLh (BL ((r57&&r58)&&r59)) (G9 O O) O (G8 (hK56 _ _ (G7 fun K60 hK60=>G2 (JLh (Eh c) (Gb Z4 O O O) O (JLh (G0 c.Bay) (Gh Gd O O O) O ?_))))))
  obtain⟨r61,hr61,h⟩:=Gf h
  refine JLh (BL r61) (Gq (args:=[G0 c.Bay,G0 0,G0 39]) O (J3 c.Bay 0 39 r61 hr61) Yp ⟨O,O,O,O,O,O,G⟩) O (JLh (BL r61) (G5 O O) O (Ga (u:=.dptr [G0 c.Row,BL c.Deck,G0 c.Tiers,G0 c.Height,G0 c.Kilos20,G0 c.Kilos40,G0 c.Lash,E1 c.Plugs,G0 c.X,G0 c.Y,G0 c.Z]) [] O O O .sct G (fun hc=>Gb Z3 O O O) ?_))
  refine Ga (u:=G0 c.Row) [(75,.dptr [G0 c.Row,BL c.Deck,G0 c.Tiers,G0 c.Height,G0 c.Kilos20,G0 c.Kilos40,G0 c.Lash,E1 c.Plugs,G0 c.X,G0 c.Y,G0 c.Z])] O O O .sct ⟨.all id,G⟩ (fun hc=>Gh Gd O O O) ?_
  obtain⟨r62,hr62,h⟩:=Gf h
  refine Ga (u:=BL r62) [(76,G0 c.Row)] O O O .sct ⟨.all id,G⟩ (fun hc=>Gq (args:=[G0 c.Row,G0 0,G0 30]) O (J3 c.Row 0 30 r62 (Gz hc hr62)) Yp ⟨O,O,O,O,O,O,G⟩) ?_
  refine JLh (BL (r61&&r62)) (Hx O O O O) O (JLh (BL (r61&&r62)) (G5 O O) O (Ga (u:=.dptr [G0 c.Tiers,G0 c.Height,G0 c.Kilos20,G0 c.Kilos40,G0 c.Lash,E1 c.Plugs,G0 c.X,G0 c.Y,G0 c.Z]) [] O O O .sct G (fun hc=>Gb Z1 O O O) ?_))
  refine Ga (u:=G0 c.Tiers) [(80,.dptr [G0 c.Tiers,G0 c.Height,G0 c.Kilos20,G0 c.Kilos40,G0 c.Lash,E1 c.Plugs,G0 c.X,G0 c.Y,G0 c.Z])] O O O .sct ⟨.all id,G⟩ (fun hc=>Gh Gd O O O) ?_
  obtain⟨r63,hr63,h⟩:=Gf h
  refine Ga (u:=BL r63) [(81,G0 c.Tiers)] O O O .sct ⟨.all id,G⟩ (fun hc=>Gq (args:=[G0 c.Tiers,G0 1,G0 10]) O (J3 c.Tiers 1 10 r63 (Gz hc hr63)) Yp ⟨O,O,O,O,O,O,G⟩) ?_
  refine JLh (BL ((r61&&r62)&&r63)) (Hx O O O O) O (JLh (BL ((r61&&r62)&&r63)) (G5 O O) O (Ga (u:=.dptr [G0 c.Height,G0 c.Kilos20,G0 c.Kilos40,G0 c.Lash,E1 c.Plugs,G0 c.X,G0 c.Y,G0 c.Z]) [] O O O .sct G (fun hc=>Gb Zu O O O) ?_))
  refine Ga (u:=G0 c.Height) [(85,.dptr [G0 c.Height,G0 c.Kilos20,G0 c.Kilos40,G0 c.Lash,E1 c.Plugs,G0 c.X,G0 c.Y,G0 c.Z])] O O O .sct ⟨.all id,G⟩ (fun hc=>Gh Gd O O O) ?_
  obtain⟨r64,hr64,h⟩:=Gf h
  refine Ga (u:=BL r64) [(86,G0 c.Height)] O O O .sct ⟨.all id,G⟩ (fun hc=>Gq (args:=[G0 c.Height,G0 0,G0 40000]) O (J3 c.Height 0 40000 r64 (Gz hc hr64)) Yp ⟨O,O,O,O,O,O,G⟩) ?_
  refine JLh (BL (((r61&&r62)&&r63)&&r64)) (Hx O O O O) O (JLh (BL (((r61&&r62)&&r63)&&r64)) (G5 O O) O (Ga (u:=BL ((r57&&r58)&&r59)) [] O O O .sct G (fun hc=>G5 O O) ?_))
  refine JLh (BL ((((r61&&r62)&&r63)&&r64)&&((r57&&r58)&&r59))) (Hx O O O O) O (JLh (BL ((((r61&&r62)&&r63)&&r64)&&((r57&&r58)&&r59))) (G5 O O) O (Ga (u:=BL ((r53&&r54)&&r55)) [] O O O .sct G (fun hc=>G5 O O) ?_))
  refine JLh (BL (((((r61&&r62)&&r63)&&r64)&&((r57&&r58)&&r59))&&((r53&&r54)&&r55))) (Hx O O O O) O (JLh (BL (((((r61&&r62)&&r63)&&r64)&&((r57&&r58)&&r59))&&((r53&&r54)&&r55))) (G9 O O) O (G8 (hK60 _ _ (Gu (⟨[BL (((((r61&&r62)&&r63)&&r64)&&((r57&&r58)&&r59))&&((r53&&r54)&&r55))],[],G,O,⟨⟨_,O,.conv (.same O)⟩,G⟩,O,congrArg (fun r:Bool=>(BL r:AV)) (Option.some.inj h)⟩)))))

def Q5 (rows:List Int) (row:Int):Option Bool:=
 each (fun y17 i17 (s17:Unit) nx17=>
  bif decide (y17=row) then
  (some true)
  else
  (nx17 ()))
 (fun(s17:Unit)=>
  some false) rows 0 ()
theorem G67 (rows:List Int) (row:Int) (r:Bool) (h:Q5 rows row=some r):Pure Tryz.prog 159 [E1 rows,G0 row] (·=BL r):=by
 unfold Q5 at h
 refine H1 [.tmp 4] Tryz.func159 O O (G7 fun K1 hK1=>G2 (JLh (BL false) (G9 O O) O (G8 (hK1 _ _ (G7 (fun K2 hK2=>G7 fun K3 hK3=>G2 (JLh (G0 0) (G9 O O) O (G8 (hK3 _ _ (Gk ?_))))))))))
 obtain⟨b17,kx17,hb17,hkx17,h⟩:=Hw h
 refine Hc (fun i17 (s17:Unit)=>each b17 kx17 (List.drop i17 rows) i17 s17=some r) (fun i17 s17=>[(0,E1 rows),(1,G0 row),(5,En i17)]) (fun i17 s17=>[]) (fun i17=>rows.length - i17) 0 () h ⟨⟨.same O,.same O,.same O,G⟩,G,O⟩ ?_
 clear h
 intro i17 s17 hi17 K17 e17
 refine G7 (fun K18 hK18=>G7 fun K19 hK19=>G2 (JLh (En i17) (G5 O O) O (JLh (E1 rows) (G5 O O) O (H3 (f:=G0) (xs:=rows) H0 O O (fun hm8=>?_) O O O))))
 refine JLh (BL (decide ((i17:Int) < (rows.length:Int)))) (J2 O O O) O (G8 (hK19 _ _ (Gn O (fun hb=>?_) (fun hb=>?_))))
 ·
  have hk17:=Jc hb
  obtain⟨y17,nx17,hy17,hn17,h⟩:=Hn hi17 hk17
  replace h:=Yb hb17 h
  refine Gp (hK18 _ _ (G7 (fun K20 hK20=>Gk (G7 fun K21 hK21=>G2 (JLh (E1 rows) (G5 O O) O (JLh (En i17) (G5 O O) O (JLh (.dptr [G0 y17]) (Gt (f:=G0) (xs:=rows) (y:=y17) O O O H0 hy17 O) O (JLh (G0 y17) (Gh Gd O O O) O (JLh (G0 row) (G5 O O) O (JLh (BL (decide (y17=row))) (Jx O O O) O (G8 (hK21 _ _ (Gn O (fun hb=>?_) (fun hb=>?_))))))))))))))
  ·
   replace h:=Gz hb h
   refine G7 fun K22 hK22=>G2 (JLh (BL true) (G9 O O) O (G8 (hK22 _ _ (Gu (⟨[BL true],[],G,O,⟨⟨_,O,.conv (.same O)⟩,G⟩,O,congrArg (fun r:Bool=>(BL r:AV)) (Option.some.inj h)⟩)))))
  ·
   replace h:=Hv hb h
   refine Gp (hK20 _ _ (G2 (JLh (En i17) (G5 O O) O (JLh (G0 ((i17+1:Nat):Int)) (Hy (He hk17 hm8) O O O) O (JLh (G0 ((i17+1:Nat):Int)) (G9 O O) O (G8 (e17 _ _ (i17+1) () (app1 hn17 h) (by omega) ⟨⟨.same rfl,.same rfl,.same rfl,G⟩,G,rfl⟩)))))))
 ·
  have h:=app1 hkx17 (Ho hi17 (H9 hb))
  refine Hk (hK2 _ _ (G7 fun K23 hK23=>G2 (JLh (BL false) (G9 O O) O (G8 (hK23 _ _ (Gu (⟨[BL false],[],G,O,⟨⟨_,O,.conv (.same O)⟩,G⟩,O,congrArg (fun r:Bool=>(BL r:AV)) (Option.some.inj h)⟩)))))))

def Z9 (F:Nat) (s:Hb):Option Bool:=
 bnd (Hs (s.Columns.length:Int) 1 200) fun r4=>
 bif ((!r4)||(decide (40 < (s.Covers.length:Int)))) then
 (some false)
 else
 (each (fun y8 i8 (s8:Unit) nx8=>
   bnd (Yr y8) fun r14=>
   bif (!r14) then
   (some false)
   else
   (need (decide ((i8:Int)≤9223372036854775807)) <|
    upto (fun i34 (s34:Unit) nx34=>
     Q3 s.Columns (i34:Int) fun y39=>
     bnd (bif decide (y39.Bay=y8.Bay) then Q3 s.Columns (i34:Int) some else some default) fun y41=>
     bnd (bif ((decide (y39.Bay=y8.Bay))&&(decide (y41.Row=y8.Row))) then Q3 s.Columns (i34:Int) some else some default) fun y42=>
     bif (((decide (y39.Bay=y8.Bay))&&(decide (y41.Row=y8.Row)))&&(y42.Deck==y8.Deck)) then
     (some false)
     else
     (nx34 ()))
    (fun(s34:Unit)=>
     nx8 ()) (i8:Int).toNat 0 ()))
  (fun(s8:Unit)=>
   each (fun y46 i46 (s46:Unit) nx46=>
    bnd (Hs y46.Bay 0 39) fun r53=>
    bif ((!r53)||(decide ((y46.Rows.length:Int)=0))) then
    (some false)
    else
    (each (fun y56 i56 (s56:Unit) nx56=>
      bnd (Hs y56 0 30) fun r62=>
      bnd (bif ((!(!r62))&&(decide (0 < (i56:Int)))) then G32 ((i56:Int) - 1) some else some 0) fun v63=>
      bnd (bif ((!(!r62))&&(decide (0 < (i56:Int)))) then Q3 y46.Rows v63 some else some default) fun y64=>
      bif ((!r62)||((decide (0 < (i56:Int)))&&(decide (y56≤y64)))) then
      (some false)
      else
      (need (decide ((i46:Int)≤9223372036854775807)) <|
       upto (fun i84 (s84:Unit) nx84=>
        Q3 s.Covers (i84:Int) fun y89=>
        bnd (bif decide (y89.Bay=y46.Bay) then Q3 s.Covers (i84:Int) some else some default) fun y91=>
        bnd (bif decide (y89.Bay=y46.Bay) then Q5 y91.Rows y56 else some default) fun r92=>
        bif ((decide (y89.Bay=y46.Bay))&&r92) then
        (some false)
        else
        (nx84 ()))
       (fun(s84:Unit)=>
        nx56 ()) (i46:Int).toNat 0 ()))
     (fun(s56:Unit)=>
      nx46 ()) y46.Rows 0 ()))
   (fun(s46:Unit)=>
    some true) s.Covers 0 ()) s.Columns 0 ())
theorem H28 (F:Nat) (s:Hb) (r:Bool) (h:Z9 F s=some r):Pure Tryz.prog 75 [.agg (Hb.cs s)] (·=BL r):=by
 unfold Z9 at h
 refine H1 [.tmp 2] Tryz.func75 O O (G7 fun K1 hK1=>G2 (JLh (.ptr 1053 0) (Jy (u:=.agg (Hb.cs s)) (cs:=(Hb.cs s)) 1053 O O O O O) O (JLh (BL false) (G9 O O) O (G8 (hK1 _ _ ?_)))))
 refine Gx [(1,Ee s)] [] 1053 rfl rfl rfl G rfl (by exact⟨.ptr,G⟩) (G7 (fun K2 hK2=>G7 fun K3 hK3=>G2 (JLh (Ee s) (Gb Hi O O O) O (JLh (E3 s.Columns) (Gh Hq O O O) O (H3 (f:=G4.av) (xs:=s.Columns) H7 O O (fun hm11=>?_) O O O)))))
 obtain⟨r4,hr4,h⟩:=Gf h
 refine JLh (BL r4) (Gq (args:=[En s.Columns.length,G0 1,G0 200]) O (J3 (s.Columns.length:Int) 1 200 r4 hr4) Yp ⟨O,O,O,O,O,O,G⟩) O (JLh (BL (!r4)) (Qv (b:=r4) O O) O (JLh (BL (!r4)) (G5 O O) O (Ga (u:=.dptr [E4 s.Covers,G0 s.Light.Kilos,G0 s.Light.X,G0 s.Light.Y,G0 s.Light.Z,E6 s.Rows,E5 s.Frames,E7 s.Tanks,G0 s.G3.Tolerance,G0 s.G3.Trim,G0 s.G3.List_,G0 s.G3.Stability]) [] O O O .scf G (fun hc=>Gb Jz O O O) ?_)))
 refine Ga (u:=E4 s.Covers) [(15,.dptr [E4 s.Covers,G0 s.Light.Kilos,G0 s.Light.X,G0 s.Light.Y,G0 s.Light.Z,E6 s.Rows,E5 s.Frames,E7 s.Tanks,G0 s.G3.Tolerance,G0 s.G3.Trim,G0 s.G3.List_,G0 s.G3.Stability])] O O O .scf ⟨.all id,G⟩ (fun hc=>Gh Qh O O O) ?_
 refine Ga (u:=En s.Covers.length) [(16,E4 s.Covers)] O O O .scf ⟨.all id,G⟩ (fun hc=>Qt (f:=Gg.av) (xs:=s.Covers) Hp O O) ?_
 refine Ga (u:=BL (decide (40 < (s.Covers.length:Int)))) [(17,En s.Covers.length)] O O O .scf ⟨.all id,G⟩ (fun hc=>G31 O O O) ?_
 refine JLh (BL ((!r4)||(decide (40 < (s.Covers.length:Int))))) (Rn O O O O) O (G8 (hK3 _ _ (Gn O (fun hb=>?_) (fun hb=>?_))))
 ·
  replace h:=Gz hb h
  refine G7 fun K5 hK5=>G2 (JLh (BL false) (G9 O O) O (G8 (hK5 _ _ (Gu (⟨[BL false],[],G,O,⟨⟨_,O,.conv (.same O)⟩,G⟩,O,congrArg (fun r:Bool=>(BL r:AV)) (Option.some.inj h)⟩)))))
 ·
  replace h:=Hv hb h
  refine Gp (hK2 _ _ (G7 (fun K6 hK6=>G7 fun K7 hK7=>G2 (JLh (G0 0) (G9 O O) O (G8 (hK7 _ _ (Gk ?_)))))))
  obtain⟨b8,kx8,hb8,hkx8,h⟩:=Hw h
  refine Hc (fun i8 (s8:Unit)=>each b8 kx8 (List.drop i8 s.Columns) i8 s8=some r) (fun i8 s8=>[(1,Ee s),(3,En i8)]) (fun i8 s8=>[]) (fun i8=>s.Columns.length - i8) 0 () h ⟨⟨.same O,.same O,G⟩,G,O⟩ ?_
  clear h
  intro i8 s8 hi8 K8 e8
  refine G7 (fun K9 hK9=>G7 fun K10 hK10=>G2 (JLh (En i8) (G5 O O) O (JLh (Ee s) (Gb Hi O O O) O (JLh (E3 s.Columns) (Gh Hq O O O) O (H3 (f:=G4.av) (xs:=s.Columns) H7 O O (fun hm23=>?_) O O O)))))
  refine JLh (BL (decide ((i8:Int) < (s.Columns.length:Int)))) (J2 O O O) O (G8 (hK10 _ _ (Gn O (fun hb=>?_) (fun hb=>?_))))
  ·
   have hk8:=Jc hb
   obtain⟨y8,nx8,hy8,hn8,h⟩:=Hn hi8 hk8
   replace h:=Yb hb8 h
   refine Gp (hK9 _ _ (G7 (fun K11 hK11=>Gk (G7 (fun K12 hK12=>G7 fun K13 hK13=>G2 (JLh (Ee s) (Gb Hi O O O) O (JLh (E3 s.Columns) (Gh Hq O O O) O (JLh (En i8) (G5 O O) O (JLh (Eh y8) (Gt (f:=G4.av) (xs:=s.Columns) (y:=y8) O O O H7 hy8 O) O (JLh (.agg (G4.cs y8)) (Gj Rr O O O) O ?_))))))))))
   obtain⟨r14,hr14,h⟩:=Gf h
   refine JLh (BL r14) (Gq (args:=[.agg (G4.cs y8)]) O (H04 y8 r14 hr14) Jdb ⟨O,O,G⟩) O (JLh (BL (!r14)) (Qv (b:=r14) O O) O (G8 (hK13 _ _ (Gn O (fun hb=>?_) (fun hb=>?_)))))
   ·
    replace h:=Gz hb h
    refine G7 fun K15 hK15=>G2 (JLh (BL false) (G9 O O) O (G8 (hK15 _ _ (Gu (⟨[BL false],[],G,O,⟨⟨_,O,.conv (.same O)⟩,G⟩,O,congrArg (fun r:Bool=>(BL r:AV)) (Option.some.inj h)⟩)))))
   ·
    replace h:=Hv hb h
    refine Gp (hK12 _ _ (G7 fun K16 hK16=>G2 (JLh (G0 0) (G9 O O) O (G8 (hK16 _ _ (Gk ?_))))))
    obtain⟨hx34,h⟩:=J6 h
    obtain⟨b34,kx34,hb34,hkx34,h⟩:=G5d h
    refine Hc (fun i34 (s34:Unit)=>upto b34 kx34 ((i8:Int).toNat - i34) i34 s34=some r) (fun i34 s34=>[(1,Ee s),(3,En i8),(4,En i34)]) (fun i34 s34=>[]) (fun i34=>(i8:Int).toNat - i34) 0 () h ⟨⟨.same O,.same O,.same O,G⟩,G,O⟩ ?_
    clear h
    intro i34 s34 hi34 K34 e34
    refine G7 (fun K35 hK35=>G7 fun K36 hK36=>G2 (JLh (En i34) (G5 O O) O (JLh (En i8) (G5 O O) O (JLh (BL (decide ((i34:Int) < (i8:Int)))) (J2 O O O) O (G8 (hK36 _ _ (Gn O (fun hb=>?_) (fun hb=>?_))))))))
    ·
     have hk34:=G37 hb
     obtain⟨nx34,hn34,h⟩:=G34 hi34 hk34
     replace h:=Heb hb34 h
     refine Gp (hK35 _ _ (G7 (fun K37 hK37=>Gk (G7 (fun K38 hK38=>?_)))))
     obtain⟨m40,y39,hm40,hy39,h⟩:=Y3 h
     obtain⟨y41,hy41,h⟩:=Gf h
     obtain⟨y42,hy42,h⟩:=Gf h
     refine Q6 [] [0,0,0,0,0,0,0,0,0,0,0,0,0,0,0,0,0,0,0,0,0,0,0,0,0,0,0,0,0,0,0,0,0,0,0,0,0,0,0,0,0,0,0] [0,0,0,0,0,0,0,0,0,0,0,0,0,0,0,0,0,0,0,0,0,0,0,0,0,0,0,0,0,0,0,0,0,0,0,0,0,0,0,0,0,0,0] [[]] Jk (by kernel_rfl) rfl rfl ?_
     refine Gc (u:=Ee s) O O ⟨Gw (Gb Hi O O O) O,G⟩ (Gc (u:=E3 s.Columns) O O ⟨Gw (Gh Hq O O O) O,G⟩ (Gc (u:=En i34) O O ⟨Gw (G5 O O) O,G⟩ (Gc (u:=Eh y39) O O ⟨Gw (Gt (f:=G4.av) (xs:=s.Columns) (y:=y39) O O O H7 hy39 hm40) O,G⟩ (Gc (u:=Eh y39) O O ⟨Gw (Gb Z4 O O O) O,G⟩ (Gc (u:=G0 y39.Bay) O O ⟨Gw (Gh Gd O O O) O,G⟩ (Gc (u:=Ee s) O O ⟨Gw (Gb Hi O O O) O,G⟩ (Gc (u:=E3 s.Columns) O O ⟨Gw (Gh Hq O O O) O,G⟩ (Gc (u:=En i8) O O ⟨Gw (G5 O O) O,G⟩ (Gc (u:=Eh y8) O O ⟨Gw (Gt (f:=G4.av) (xs:=s.Columns) (y:=y8) O O O H7 hy8 O) O,G⟩ (Gc (u:=Eh y8) O O ⟨Gw (Gb Z4 O O O) O,G⟩ (Gc (u:=G0 y8.Bay) O O ⟨Gw (Gh Gd O O O) O,G⟩ (Gc (u:=BL (decide (y39.Bay=y8.Bay))) O O ⟨Gw (Jx O O O) O,G⟩ (Gc (u:=BL (decide (y39.Bay=y8.Bay))) O O ⟨Gw (G5 O O) O,G⟩ ?_)))))))))))))
     refine Gc (u:=.opt (decide (y39.Bay=y8.Bay)) (Ee s)) O O ⟨Ge [] O O O .sct G (fun hc=>Gb Hi O O O) O,G⟩ (Gc (u:=.opt (decide (y39.Bay=y8.Bay)) (E3 s.Columns)) O O ⟨Ge [(53,Ee s)] O O O .sct ⟨.all id,G⟩ (fun hc=>Gh Hq O O O) O,G⟩ (Gc (u:=.opt (decide (y39.Bay=y8.Bay)) (En i34)) O O ⟨Ge [] O O O .sct G (fun hc=>G5 O O) O,G⟩ (Gc (u:=.opt (decide (y39.Bay=y8.Bay)) (Eh y41)) O O ⟨Ge [(54,E3 s.Columns),(55,En i34)] O O O .sct ⟨.all id,.all id,G⟩ (fun hc=>(match Jf (Gz hc hy41) with | ⟨_,hm_,hy_⟩=>Gt (f:=G4.av) (xs:=s.Columns) (y:=y41) O O O H7 hy_ hm_)) O,G⟩ (Gc (u:=.opt (decide (y39.Bay=y8.Bay)) (.dptr ((G4.cs y41).drop 1))) O O ⟨Ge [(56,Eh y41)] O O O .sct ⟨.all id,G⟩ (fun hc=>Gb Z3 O O O) O,G⟩ (Gc (u:=.opt (decide (y39.Bay=y8.Bay)) (G0 y41.Row)) O O ⟨Ge [(57,.dptr ((G4.cs y41).drop 1))] O O O .sct ⟨.all id,G⟩ (fun hc=>Gh Gd O O O) O,G⟩ (Gc (u:=.opt (decide (y39.Bay=y8.Bay)) (Ee s)) O O ⟨Ge [] O O O .sct G (fun hc=>Gb Hi O O O) O,G⟩ (Gc (u:=.opt (decide (y39.Bay=y8.Bay)) (E3 s.Columns)) O O ⟨Ge [(59,Ee s)] O O O .sct ⟨.all id,G⟩ (fun hc=>Gh Hq O O O) O,G⟩ (Gc (u:=.opt (decide (y39.Bay=y8.Bay)) (En i8)) O O ⟨Ge [] O O O .sct G (fun hc=>G5 O O) O,G⟩ (Gc (u:=.opt (decide (y39.Bay=y8.Bay)) (Eh y8)) O O ⟨Ge [(60,E3 s.Columns),(61,En i8)] O O O .sct ⟨.all id,.all id,G⟩ (fun hc=>Gt (f:=G4.av) (xs:=s.Columns) (y:=y8) O O O H7 hy8 O) O,G⟩ (Gc (u:=.opt (decide (y39.Bay=y8.Bay)) (.dptr ((G4.cs y8).drop 1))) O O ⟨Ge [(62,Eh y8)] O O O .sct ⟨.all id,G⟩ (fun hc=>Gb Z3 O O O) O,G⟩ (Gc (u:=.opt (decide (y39.Bay=y8.Bay)) (G0 y8.Row)) O O ⟨Ge [(63,.dptr ((G4.cs y8).drop 1))] O O O .sct ⟨.all id,G⟩ (fun hc=>Gh Gd O O O) O,G⟩ (Gc (u:=.opt (decide (y39.Bay=y8.Bay)) (BL (decide (y41.Row=y8.Row)))) O O ⟨Ge [(58,G0 y41.Row),(64,G0 y8.Row)] O O O .sct ⟨.all id,.all id,G⟩ (fun hc=>Jx O O O) O,G⟩ (Gc (u:=BL ((decide (y39.Bay=y8.Bay))&&(decide (y41.Row=y8.Row)))) O O ⟨Gw (Hx O O O O) O,G⟩ ?_)))))))))))))
     refine Gc (u:=BL ((decide (y39.Bay=y8.Bay))&&(decide (y41.Row=y8.Row)))) O O ⟨Gw (G5 O O) O,G⟩ (Gc (u:=.opt ((decide (y39.Bay=y8.Bay))&&(decide (y41.Row=y8.Row))) (Ee s)) O O ⟨Ge [] O O O .sct G (fun hc=>Gb Hi O O O) O,G⟩ (Gc (u:=.opt ((decide (y39.Bay=y8.Bay))&&(decide (y41.Row=y8.Row))) (E3 s.Columns)) O O ⟨Ge [(68,Ee s)] O O O .sct ⟨.all id,G⟩ (fun hc=>Gh Hq O O O) O,G⟩ (Gc (u:=.opt ((decide (y39.Bay=y8.Bay))&&(decide (y41.Row=y8.Row))) (En i34)) O O ⟨Ge [] O O O .sct G (fun hc=>G5 O O) O,G⟩ (Gc (u:=.opt ((decide (y39.Bay=y8.Bay))&&(decide (y41.Row=y8.Row))) (Eh y42)) O O ⟨Ge [(69,E3 s.Columns),(70,En i34)] O O O .sct ⟨.all id,.all id,G⟩ (fun hc=>(match Jf (Gz hc hy42) with | ⟨_,hm_,hy_⟩=>Gt (f:=G4.av) (xs:=s.Columns) (y:=y42) O O O H7 hy_ hm_)) O,G⟩ (Gc (u:=.opt ((decide (y39.Bay=y8.Bay))&&(decide (y41.Row=y8.Row))) (.dptr ((G4.cs y42).drop 2))) O O ⟨Ge [(71,Eh y42)] O O O .sct ⟨.all id,G⟩ (fun hc=>Gb Z2 O O O) O,G⟩ (Gc (u:=.opt ((decide (y39.Bay=y8.Bay))&&(decide (y41.Row=y8.Row))) (BL y42.Deck)) O O ⟨Ge [(72,.dptr ((G4.cs y42).drop 2))] O O O .sct ⟨.all id,G⟩ (fun hc=>Gh Rq O O O) O,G⟩ (Gc (u:=.opt ((decide (y39.Bay=y8.Bay))&&(decide (y41.Row=y8.Row))) (Ee s)) O O ⟨Ge [] O O O .sct G (fun hc=>Gb Hi O O O) O,G⟩ (Gc (u:=.opt ((decide (y39.Bay=y8.Bay))&&(decide (y41.Row=y8.Row))) (E3 s.Columns)) O O ⟨Ge [(74,Ee s)] O O O .sct ⟨.all id,G⟩ (fun hc=>Gh Hq O O O) O,G⟩ (Gc (u:=.opt ((decide (y39.Bay=y8.Bay))&&(decide (y41.Row=y8.Row))) (En i8)) O O ⟨Ge [] O O O .sct G (fun hc=>G5 O O) O,G⟩ (Gc (u:=.opt ((decide (y39.Bay=y8.Bay))&&(decide (y41.Row=y8.Row))) (Eh y8)) O O ⟨Ge [(75,E3 s.Columns),(76,En i8)] O O O .sct ⟨.all id,.all id,G⟩ (fun hc=>Gt (f:=G4.av) (xs:=s.Columns) (y:=y8) O O O H7 hy8 O) O,G⟩ (Gc (u:=.opt ((decide (y39.Bay=y8.Bay))&&(decide (y41.Row=y8.Row))) (.dptr ((G4.cs y8).drop 2))) O O ⟨Ge [(77,Eh y8)] O O O .sct ⟨.all id,G⟩ (fun hc=>Gb Z2 O O O) O,G⟩ (Gc (u:=.opt ((decide (y39.Bay=y8.Bay))&&(decide (y41.Row=y8.Row))) (BL y8.Deck)) O O ⟨Ge [(78,.dptr ((G4.cs y8).drop 2))] O O O .sct ⟨.all id,G⟩ (fun hc=>Gh Rq O O O) O,G⟩ (Gc (u:=.opt ((decide (y39.Bay=y8.Bay))&&(decide (y41.Row=y8.Row))) (BL (y42.Deck==y8.Deck))) O O ⟨Ge [(73,BL y42.Deck),(79,BL y8.Deck)] O O O .sct ⟨.all id,.all id,G⟩ (fun hc=>Jeb H9b O O O) O,G⟩ ?_)))))))))))))
     refine Gc (u:=BL (((decide (y39.Bay=y8.Bay))&&(decide (y41.Row=y8.Row)))&&(y42.Deck==y8.Deck))) O O ⟨Gw (Hx O O O O) O,G⟩ (Yz (hK38 _ _ (Gn O (fun hb=>?_) (fun hb=>?_))))
     ·
      replace h:=Gz hb h
      refine G7 fun K43 hK43=>G2 (JLh (BL false) (G9 O O) O (G8 (hK43 _ _ (Gu (⟨[BL false],[],G,O,⟨⟨_,O,.conv (.same O)⟩,G⟩,O,congrArg (fun r:Bool=>(BL r:AV)) (Option.some.inj h)⟩)))))
     ·
      replace h:=Hv hb h
      refine Gp (hK37 _ _ (G2 (JLh (En i34) (G5 O O) O (JLh (G0 ((i34+1:Nat):Int)) (Hy (He hk34 (G11 hx34)) O O O) O (JLh (G0 ((i34+1:Nat):Int)) (G9 O O) O (G8 (e34 _ _ (i34+1) () (app1 hn34 h) (by omega) ⟨⟨.same rfl,.same rfl,.same rfl,G⟩,G,rfl⟩)))))))
    ·
     have h:=app1 hkx34 (G35 hi34 (Ry hb))
     refine Hk (hK11 _ _ (G2 (JLh (En i8) (G5 O O) O (JLh (G0 ((i8+1:Nat):Int)) (Hy (He hk8 hm23) O O O) O (JLh (G0 ((i8+1:Nat):Int)) (G9 O O) O (G8 (e8 _ _ (i8+1) () (app1 hn8 h) (by omega) ⟨⟨.same rfl,.same rfl,G⟩,G,rfl⟩)))))))
  ·
   have h:=app1 hkx8 (Ho hi8 (H9 hb))
   refine Hk (hK6 _ _ (G7 (fun K44 hK44=>G7 fun K45 hK45=>G2 (JLh (G0 0) (G9 O O) O (G8 (hK45 _ _ (Gk ?_)))))))
   obtain⟨b46,kx46,hb46,hkx46,h⟩:=Hw h
   refine Hc (fun i46 (s46:Unit)=>each b46 kx46 (List.drop i46 s.Covers) i46 s46=some r) (fun i46 s46=>[(1,Ee s),(5,En i46)]) (fun i46 s46=>[]) (fun i46=>s.Covers.length - i46) 0 () h ⟨⟨.same O,.same O,G⟩,G,O⟩ ?_
   clear h
   intro i46 s46 hi46 K46 e46
   refine G7 (fun K47 hK47=>G7 fun K48 hK48=>G2 (JLh (En i46) (G5 O O) O (JLh (.dptr [E4 s.Covers,G0 s.Light.Kilos,G0 s.Light.X,G0 s.Light.Y,G0 s.Light.Z,E6 s.Rows,E5 s.Frames,E7 s.Tanks,G0 s.G3.Tolerance,G0 s.G3.Trim,G0 s.G3.List_,G0 s.G3.Stability]) (Gb Jz O O O) O (JLh (E4 s.Covers) (Gh Qh O O O) O (H3 (f:=Gg.av) (xs:=s.Covers) Hp O O (fun hm85=>?_) O O O)))))
   refine JLh (BL (decide ((i46:Int) < (s.Covers.length:Int)))) (J2 O O O) O (G8 (hK48 _ _ (Gn O (fun hb=>?_) (fun hb=>?_))))
   ·
    have hk46:=Jc hb
    obtain⟨y46,nx46,hy46,hn46,h⟩:=Hn hi46 hk46
    replace h:=Yb hb46 h
    refine Gp (hK47 _ _ (G7 (fun K49 hK49=>Gk ?_)))
    refine G7 fun K50 hK50=>G2 (JLh (.dptr [E4 s.Covers,G0 s.Light.Kilos,G0 s.Light.X,G0 s.Light.Y,G0 s.Light.Z,E6 s.Rows,E5 s.Frames,E7 s.Tanks,G0 s.G3.Tolerance,G0 s.G3.Trim,G0 s.G3.List_,G0 s.G3.Stability]) (Gb Jz O O O) O (JLh (E4 s.Covers) (Gh Qh O O O) O (JLh (En i46) (G5 O O) O (JLh (.dptr [G0 y46.Bay,E1 y46.Rows]) (Gt (f:=Gg.av) (xs:=s.Covers) (y:=y46) O O O Hp hy46 O) O (JLh (.agg [G0 y46.Bay,E1 y46.Rows]) (Gj Rh O O O) O (JLh (.ptr 1054 0) (Jb 1054 2 G20 O O) O (J4 (u:=.junk) (Ht (u:=.agg [G0 y46.Bay,E1 y46.Rows]) (ds:=[G0 y46.Bay,E1 y46.Rows]) G54 O O O O O O O O) (G8 (hK50 _ _ ?_)))))))))
    refine Gx [(1,Ee s),(5,En i46),(6,.dptr [G0 y46.Bay,E1 y46.Rows])] [] 1054 rfl rfl rfl G rfl (by exact⟨.conv (.same rfl),.conv (.same rfl),.ptr,G⟩) (G7 (fun K51 hK51=>G7 fun K52 hK52=>G2 (JLh (.dptr [G0 y46.Bay,E1 y46.Rows]) (Gb Yf O O O) O (JLh (G0 y46.Bay) (Gh Gd O O O) O ?_))))
    obtain⟨r53,hr53,h⟩:=Gf h
    refine JLh (BL r53) (Gq (args:=[G0 y46.Bay,G0 0,G0 39]) O (J3 y46.Bay 0 39 r53 hr53) Yp ⟨O,O,O,O,O,O,G⟩) O (JLh (BL (!r53)) (Qv (b:=r53) O O) O (JLh (BL (!r53)) (G5 O O) O (Ga (u:=.dptr [E1 y46.Rows]) [] O O O .scf G (fun hc=>Gb Jr O O O) ?_)))
    refine Ga (u:=E1 y46.Rows) [(99,.dptr [E1 y46.Rows])] O O O .scf ⟨.all id,G⟩ (fun hc=>Gh Hg O O O) ?_
    refine Ga (u:=En y46.Rows.length) [(100,E1 y46.Rows)] O O O .scf ⟨.all id,G⟩ (fun hc=>Qt (f:=G0) (xs:=y46.Rows) H0 O O) ?_
    refine Ga (u:=BL (decide ((y46.Rows.length:Int)=0))) [(101,En y46.Rows.length)] O O O .scf ⟨.all id,G⟩ (fun hc=>Jx O O O) ?_
    refine JLh (BL ((!r53)||(decide ((y46.Rows.length:Int)=0)))) (Rn O O O O) O (G8 (hK52 _ _ (Gn O (fun hb=>?_) (fun hb=>?_))))
    ·
     replace h:=Gz hb h
     refine G7 fun K54 hK54=>G2 (JLh (BL false) (G9 O O) O (G8 (hK54 _ _ (Gu (⟨[BL false],[],G,O,⟨⟨_,O,.conv (.same O)⟩,G⟩,O,congrArg (fun r:Bool=>(BL r:AV)) (Option.some.inj h)⟩)))))
    ·
     replace h:=Hv hb h
     refine Gp (hK51 _ _ (G7 fun K55 hK55=>G2 (JLh (G0 0) (G9 O O) O (G8 (hK55 _ _ (Gk ?_))))))
     obtain⟨b56,kx56,hb56,hkx56,h⟩:=Hw h
     refine Hc (fun i56 (s56:Unit)=>each b56 kx56 (List.drop i56 y46.Rows) i56 s56=some r) (fun i56 s56=>[(1,Ee s),(5,En i46),(6,.dptr [G0 y46.Bay,E1 y46.Rows]),(7,En i56)]) (fun i56 s56=>[]) (fun i56=>y46.Rows.length - i56) 0 () h ⟨(by repeat' constructor),G,rfl⟩ ?_
     clear h
     intro i56 s56 hi56 K56 e56
     refine G7 (fun K57 hK57=>G7 fun K58 hK58=>G2 (JLh (En i56) (G5 O O) O (JLh (.dptr [E1 y46.Rows]) (Gb Jr O O O) O (JLh (E1 y46.Rows) (Gh Hg O O O) O (H3 (f:=G0) (xs:=y46.Rows) H0 O O (fun hm107=>?_) O O O)))))
     refine JLh (BL (decide ((i56:Int) < (y46.Rows.length:Int)))) (J2 O O O) O (G8 (hK58 _ _ (Gn O (fun hb=>?_) (fun hb=>?_))))
     ·
      have hk56:=Jc hb
      obtain⟨y56,nx56,hy56,hn56,h⟩:=Hn hi56 hk56
      replace h:=Yb hb56 h
      refine Gp (hK57 _ _ (G7 (fun K59 hK59=>Gk (G7 (fun K60 hK60=>G7 (fun K61 hK61=>?_))))))
      obtain⟨r62,hr62,h⟩:=Gf h
      obtain⟨v63,hv63,h⟩:=Gf h
      obtain⟨y64,hy64,h⟩:=Gf h
      refine Q6 [] [0,0,0,0,0,0,0,0,0,0,0,0,0,0,0,0,0,0,0,0,0,0,0,0,0] [0,0,0,0,0,0,0,0,0,0,0,0,0,0,0,0,0,0,0,0,0,0,0,0,0] [[]] Jk (by kernel_rfl) rfl rfl ?_
      refine Gc (u:=.dptr [E1 y46.Rows]) O O ⟨Gw (Gb Jr O O O) O,G⟩ (Gc (u:=E1 y46.Rows) O O ⟨Gw (Gh Hg O O O) O,G⟩ (Gc (u:=En i56) O O ⟨Gw (G5 O O) O,G⟩ (Gc (u:=.dptr [G0 y56]) O O ⟨Gw (Gt (f:=G0) (xs:=y46.Rows) (y:=y56) O O O H0 hy56 O) O,G⟩ (Gc (u:=G0 y56) O O ⟨Gw (Gh Gd O O O) O,G⟩ (Gc (u:=BL r62) O O ⟨Gw (Gq (args:=[G0 y56,G0 0,G0 30]) O (J3 y56 0 30 r62 hr62) Yp ⟨O,O,O,O,O,O,G⟩) O,G⟩ (Gc (u:=BL (!r62)) O O ⟨Gw (Qv (b:=r62) O O) O,G⟩ (Gc (u:=BL (!r62)) O O ⟨Gw (G5 O O) O,G⟩ (Gc (u:=.opt (!(!r62)) (En i56)) O O ⟨Ge [] O O O .scf G (fun hc=>G5 O O) O,G⟩ (Gc (u:=.opt (!(!r62)) (BL (decide (0 < (i56:Int))))) O O ⟨Ge [(119,En i56)] O O O .scf ⟨.all id,G⟩ (fun hc=>G31 O O O) O,G⟩ (Gc (u:=.opt (!(!r62)) (BL (decide (0 < (i56:Int))))) O O ⟨Ge [(120,BL (decide (0 < (i56:Int))))] O O O .scf ⟨.all id,G⟩ (fun hc=>G5 O O) O,G⟩ (Gc (u:=.opt ((!(!r62))&&(decide (0 < (i56:Int)))) (.dptr [E1 y46.Rows])) O O ⟨Ge [] O O O .optt G (fun hc=>Gb Jr O O O) O,G⟩ (Gc (u:=.opt ((!(!r62))&&(decide (0 < (i56:Int)))) (E1 y46.Rows)) O O ⟨Ge [(122,.dptr [E1 y46.Rows])] O O O .optt ⟨.all id,G⟩ (fun hc=>Gh Hg O O O) O,G⟩ (Gc (u:=.opt ((!(!r62))&&(decide (0 < (i56:Int)))) (En i56)) O O ⟨Ge [] O O O .optt G (fun hc=>G5 O O) O,G⟩ ?_)))))))))))))
      refine Gc (u:=.opt ((!(!r62))&&(decide (0 < (i56:Int)))) (G0 v63)) O O ⟨Ge [(124,En i56)] O O O .optt ⟨.all id,G⟩ (fun hc=>Gcb (G04 (Gz hc hv63)) O O O) O,G⟩ (Gc (u:=.opt ((!(!r62))&&(decide (0 < (i56:Int)))) (.dptr [G0 y64])) O O ⟨Ge [(123,E1 y46.Rows),(125,G0 v63)] O O O .optt ⟨.all id,.all id,G⟩ (fun hc=>(match Jf (Gz hc hy64) with | ⟨_,hm_,hy_⟩=>Gt (f:=G0) (xs:=y46.Rows) (y:=y64) O O O H0 hy_ hm_)) O,G⟩ (Gc (u:=.opt ((!(!r62))&&(decide (0 < (i56:Int)))) (G0 y64)) O O ⟨Ge [(126,.dptr [G0 y64])] O O O .optt ⟨.all id,G⟩ (fun hc=>Gh Gd O O O) O,G⟩ (Gc (u:=.opt ((!(!r62))&&(decide (0 < (i56:Int)))) (.dptr [E1 y46.Rows])) O O ⟨Ge [] O O O .optt G (fun hc=>Gb Jr O O O) O,G⟩ (Gc (u:=.opt ((!(!r62))&&(decide (0 < (i56:Int)))) (E1 y46.Rows)) O O ⟨Ge [(128,.dptr [E1 y46.Rows])] O O O .optt ⟨.all id,G⟩ (fun hc=>Gh Hg O O O) O,G⟩ (Gc (u:=.opt ((!(!r62))&&(decide (0 < (i56:Int)))) (En i56)) O O ⟨Ge [] O O O .optt G (fun hc=>G5 O O) O,G⟩ (Gc (u:=.opt ((!(!r62))&&(decide (0 < (i56:Int)))) (.dptr [G0 y56])) O O ⟨Ge [(129,E1 y46.Rows),(130,En i56)] O O O .optt ⟨.all id,.all id,G⟩ (fun hc=>Gt (f:=G0) (xs:=y46.Rows) (y:=y56) O O O H0 hy56 O) O,G⟩ (Gc (u:=.opt ((!(!r62))&&(decide (0 < (i56:Int)))) (G0 y56)) O O ⟨Ge [(131,.dptr [G0 y56])] O O O .optt ⟨.all id,G⟩ (fun hc=>Gh Gd O O O) O,G⟩ (Gc (u:=.opt ((!(!r62))&&(decide (0 < (i56:Int)))) (BL (decide (y56≤y64)))) O O ⟨Ge [(127,G0 y64),(132,G0 y56)] O O O .optt ⟨.all id,.all id,G⟩ (fun hc=>G29 O O O) O,G⟩ (Gc (u:=.opt (!(!r62)) (BL ((decide (0 < (i56:Int)))&&(decide (y56≤y64))))) O O ⟨Ge [(121,BL (decide (0 < (i56:Int)))),(133,_)] O O O .scf ⟨.all id,.part,G⟩ (fun hc=>Hx O O O O) O,G⟩ (Gc (u:=BL ((!r62)||((decide (0 < (i56:Int)))&&(decide (y56≤y64))))) O O ⟨Gw (Rn O O O O) O,G⟩ (Yz ?_)))))))))))
      refine hK61 _ _ (Gn O (fun hb=>?_) (fun hb=>?_))
      ·
       replace h:=Gz hb h
       refine G7 fun K65 hK65=>G2 (JLh (BL false) (G9 O O) O (G8 (hK65 _ _ (Gu (⟨[BL false],[],G,O,⟨⟨_,O,.conv (.same O)⟩,G⟩,O,congrArg (fun r:Bool=>(BL r:AV)) (Option.some.inj h)⟩)))))
      ·
       replace h:=Hv hb h
       refine Gp (hK60 _ _ (G7 fun K66 hK66=>G2 (JLh (G0 0) (G9 O O) O (G8 (hK66 _ _ (Gk ?_))))))
       obtain⟨hx84,h⟩:=J6 h
       obtain⟨b84,kx84,hb84,hkx84,h⟩:=G5d h
       refine Hc (fun i84 (s84:Unit)=>upto b84 kx84 ((i46:Int).toNat - i84) i84 s84=some r) (fun i84 s84=>[(1,Ee s),(5,En i46),(6,.dptr [G0 y46.Bay,E1 y46.Rows]),(7,En i56),(8,En i84)]) (fun i84 s84=>[]) (fun i84=>(i46:Int).toNat - i84) 0 () h ⟨(by repeat' constructor),G,rfl⟩ ?_
       clear h
       intro i84 s84 hi84 K84 e84
       refine G7 (fun K85 hK85=>G7 fun K86 hK86=>G2 (JLh (En i84) (G5 O O) O (JLh (En i46) (G5 O O) O (JLh (BL (decide ((i84:Int) < (i46:Int)))) (J2 O O O) O (G8 (hK86 _ _ (Gn O (fun hb=>?_) (fun hb=>?_))))))))
       ·
        have hk84:=G37 hb
        obtain⟨nx84,hn84,h⟩:=G34 hi84 hk84
        replace h:=Heb hb84 h
        refine Gp (hK85 _ _ (G7 (fun K87 hK87=>Gk (G7 (fun K88 hK88=>?_)))))
        obtain⟨m90,y89,hm90,hy89,h⟩:=Y3 h
        obtain⟨y91,hy91,h⟩:=Gf h
        obtain⟨r92,hr92,h⟩:=Gf h
        refine Q6 [] [0,0,0,0,0,0,0,0,0,0,0,0,0,0,0,0,0,0,0,0,0,0,0] [0,0,0,0,0,0,0,0,0,0,0,0,0,0,0,0,0,0,0,0,0,0,0] [[]] Jk (by kernel_rfl) rfl rfl ?_
        refine Gc (u:=.dptr [E4 s.Covers,G0 s.Light.Kilos,G0 s.Light.X,G0 s.Light.Y,G0 s.Light.Z,E6 s.Rows,E5 s.Frames,E7 s.Tanks,G0 s.G3.Tolerance,G0 s.G3.Trim,G0 s.G3.List_,G0 s.G3.Stability]) O O ⟨Gw (Gb Jz O O O) O,G⟩ (Gc (u:=E4 s.Covers) O O ⟨Gw (Gh Qh O O O) O,G⟩ (Gc (u:=En i84) O O ⟨Gw (G5 O O) O,G⟩ (Gc (u:=.dptr [G0 y89.Bay,E1 y89.Rows]) O O ⟨Gw (Gt (f:=Gg.av) (xs:=s.Covers) (y:=y89) O O O Hp hy89 hm90) O,G⟩ (Gc (u:=.dptr [G0 y89.Bay,E1 y89.Rows]) O O ⟨Gw (Gb Yf O O O) O,G⟩ (Gc (u:=G0 y89.Bay) O O ⟨Gw (Gh Gd O O O) O,G⟩ (Gc (u:=.dptr [G0 y46.Bay,E1 y46.Rows]) O O ⟨Gw (Gb Yf O O O) O,G⟩ (Gc (u:=G0 y46.Bay) O O ⟨Gw (Gh Gd O O O) O,G⟩ (Gc (u:=BL (decide (y89.Bay=y46.Bay))) O O ⟨Gw (Jx O O O) O,G⟩ (Gc (u:=BL (decide (y89.Bay=y46.Bay))) O O ⟨Gw (G5 O O) O,G⟩ (Gc (u:=.opt (decide (y89.Bay=y46.Bay)) (.dptr [E4 s.Covers,G0 s.Light.Kilos,G0 s.Light.X,G0 s.Light.Y,G0 s.Light.Z,E6 s.Rows,E5 s.Frames,E7 s.Tanks,G0 s.G3.Tolerance,G0 s.G3.Trim,G0 s.G3.List_,G0 s.G3.Stability])) O O ⟨Ge [] O O O .sct G (fun hc=>Gb Jz O O O) O,G⟩ (Gc (u:=.opt (decide (y89.Bay=y46.Bay)) (E4 s.Covers)) O O ⟨Ge [(151,.dptr [E4 s.Covers,G0 s.Light.Kilos,G0 s.Light.X,G0 s.Light.Y,G0 s.Light.Z,E6 s.Rows,E5 s.Frames,E7 s.Tanks,G0 s.G3.Tolerance,G0 s.G3.Trim,G0 s.G3.List_,G0 s.G3.Stability])] O O O .sct ⟨.all id,G⟩ (fun hc=>Gh Qh O O O) O,G⟩ (Gc (u:=.opt (decide (y89.Bay=y46.Bay)) (En i84)) O O ⟨Ge [] O O O .sct G (fun hc=>G5 O O) O,G⟩ (Gc (u:=.opt (decide (y89.Bay=y46.Bay)) (.dptr [G0 y91.Bay,E1 y91.Rows])) O O ⟨Ge [(152,E4 s.Covers),(153,En i84)] O O O .sct ⟨.all id,.all id,G⟩ (fun hc=>(match Jf (Gz hc hy91) with | ⟨_,hm_,hy_⟩=>Gt (f:=Gg.av) (xs:=s.Covers) (y:=y91) O O O Hp hy_ hm_)) O,G⟩ ?_)))))))))))))
        refine Gc (u:=.opt (decide (y89.Bay=y46.Bay)) (.dptr [E1 y91.Rows])) O O ⟨Ge [(154,.dptr [G0 y91.Bay,E1 y91.Rows])] O O O .sct ⟨.all id,G⟩ (fun hc=>Gb Jr O O O) O,G⟩ (Gc (u:=.opt (decide (y89.Bay=y46.Bay)) (E1 y91.Rows)) O O ⟨Ge [(155,.dptr [E1 y91.Rows])] O O O .sct ⟨.all id,G⟩ (fun hc=>Gh Hg O O O) O,G⟩ (Gc (u:=.opt (decide (y89.Bay=y46.Bay)) (.dptr [E1 y46.Rows])) O O ⟨Ge [] O O O .sct G (fun hc=>Gb Jr O O O) O,G⟩ (Gc (u:=.opt (decide (y89.Bay=y46.Bay)) (E1 y46.Rows)) O O ⟨Ge [(157,.dptr [E1 y46.Rows])] O O O .sct ⟨.all id,G⟩ (fun hc=>Gh Hg O O O) O,G⟩ (Gc (u:=.opt (decide (y89.Bay=y46.Bay)) (En i56)) O O ⟨Ge [] O O O .sct G (fun hc=>G5 O O) O,G⟩ (Gc (u:=.opt (decide (y89.Bay=y46.Bay)) (.dptr [G0 y56])) O O ⟨Ge [(158,E1 y46.Rows),(159,En i56)] O O O .sct ⟨.all id,.all id,G⟩ (fun hc=>Gt (f:=G0) (xs:=y46.Rows) (y:=y56) O O O H0 hy56 O) O,G⟩ (Gc (u:=.opt (decide (y89.Bay=y46.Bay)) (G0 y56)) O O ⟨Ge [(160,.dptr [G0 y56])] O O O .sct ⟨.all id,G⟩ (fun hc=>Gh Gd O O O) O,G⟩ (Gc (u:=.opt (decide (y89.Bay=y46.Bay)) (BL r92)) O O ⟨Ge [(156,E1 y91.Rows),(161,G0 y56)] O O O .sct ⟨.all id,.all id,G⟩ (fun hc=>Gq (args:=[E1 y91.Rows,G0 y56]) O (G67 y91.Rows y56 r92 (Gz hc hr92)) J22 ⟨O,O,O,O,G⟩) O,G⟩ (Gc (u:=BL ((decide (y89.Bay=y46.Bay))&&r92)) O O ⟨Gw (Hx O O O O) O,G⟩ (Yz ?_)))))))))
        refine hK88 _ _ (Gn O (fun hb=>?_) (fun hb=>?_))
        ·
         replace h:=Gz hb h
         refine G7 fun K93 hK93=>G2 (JLh (BL false) (G9 O O) O (G8 (hK93 _ _ (Gu (⟨[BL false],[],G,O,⟨⟨_,O,.conv (.same O)⟩,G⟩,O,congrArg (fun r:Bool=>(BL r:AV)) (Option.some.inj h)⟩)))))
        ·
         replace h:=Hv hb h
         refine Gp (hK87 _ _ (G2 (JLh (En i84) (G5 O O) O (JLh (G0 ((i84+1:Nat):Int)) (Hy (He hk84 (G11 hx84)) O O O) O (JLh (G0 ((i84+1:Nat):Int)) (G9 O O) O (G8 (e84 _ _ (i84+1) () (app1 hn84 h) (by omega) ⟨(by repeat' constructor),G,rfl⟩)))))))
       ·
        have h:=app1 hkx84 (G35 hi84 (Ry hb))
        refine Hk (hK59 _ _ (G2 (JLh (En i56) (G5 O O) O (JLh (G0 ((i56+1:Nat):Int)) (Hy (He hk56 hm107) O O O) O (JLh (G0 ((i56+1:Nat):Int)) (G9 O O) O (G8 (e56 _ _ (i56+1) () (app1 hn56 h) (by omega) ⟨(by repeat' constructor),G,rfl⟩)))))))
     ·
      have h:=app1 hkx56 (Ho hi56 (H9 hb))
      refine Hk (hK49 _ _ (G2 (JLh (En i46) (G5 O O) O (JLh (G0 ((i46+1:Nat):Int)) (Hy (He hk46 hm85) O O O) O (JLh (G0 ((i46+1:Nat):Int)) (G9 O O) O (G8 (e46 _ _ (i46+1) () (app1 hn46 h) (by omega) ⟨⟨.same rfl,.same rfl,G⟩,G,rfl⟩)))))))
   ·
    have h:=app1 hkx46 (Ho hi46 (H9 hb))
    refine Hk (hK44 _ _ (G7 fun K94 hK94=>G2 (JLh (BL true) (G9 O O) O (G8 (hK94 _ _ (Gu (⟨[BL true],[],G,O,⟨⟨_,O,.conv (.same O)⟩,G⟩,O,congrArg (fun r:Bool=>(BL r:AV)) (Option.some.inj h)⟩)))))))

def Yc (boxes:List Gv) (id_:Int):Option (Gv×Bool):=
 each (fun y21 i21 (s21:Unit) nx21=>
  bif decide (y21.ID=id_) then
  (some (y21,true))
  else
  (nx21 ()))
 (fun(s21:Unit)=>
  some ((Gv.mk 0 ByteArray.empty 0 false 0 0 0 0 false),false)) boxes 0 ()
theorem G87 (boxes:List Gv) (id_:Int) (r:Gv×Bool) (h:Yc boxes id_=some r):Pure Tryz.prog 160 [E2 boxes,G0 id_] (·=.tup [.agg (Gv.cs r.1),BL r.2]):=by
 unfold Yc at h
 refine H1 [.cell 4 117,.tmp 5] Tryz.func160 O O (G7 fun K1 hK1=>G2 (JLh (.ptr 1103 0) (Zc 1103 [G0 0,ST ByteArray.empty,U8 0,BL false,G0 0,G0 0,G0 0,U8 0,BL false] [.int .i64 0,.string ByteArray.empty,.int .u8 0,.bool false,.int .i64 0,.int .i64 0,.int .i64 0,.int .u8 0,.bool false] G21 ⟨.inl O,.inl O,.inl O,.inl O,.inl O,.inl O,.inl O,.inl O,.inl O,G⟩ O O) O (JLh (BL false) (G9 O O) O (G8 (hK1 _ _ (G7 (fun K2 hK2=>G7 fun K3 hK3=>G2 (JLh (G0 0) (G9 O O) O (G8 (hK3 _ _ (Gk ?_)))))))))))
 obtain⟨b21,kx21,hb21,hkx21,h⟩:=Hw h
 refine Hc (fun i21 (s21:Unit)=>each b21 kx21 (List.drop i21 boxes) i21 s21=some r) (fun i21 s21=>[(0,E2 boxes),(1,G0 id_),(4,.ptr 1103 0),(6,En i21)]) (fun i21 s21=>[(1103,.box 117 [G0 0,ST ByteArray.empty,U8 0,BL false,G0 0,G0 0,G0 0,U8 0,BL false])]) (fun i21=>boxes.length - i21) 0 () h ⟨(by repeat' constructor),⟨⟨_,rfl,.boxL rfl (by repeat' constructor)⟩,G⟩,rfl⟩ ?_
 clear h
 intro i21 s21 hi21 K21 e21
 refine G7 (fun K22 hK22=>G7 fun K23 hK23=>G2 (JLh (En i21) (G5 O O) O (JLh (E2 boxes) (G5 O O) O (H3 (f:=Gv.av) (xs:=boxes) J5 O O (fun hm9=>?_) O O O))))
 refine JLh (BL (decide ((i21:Int) < (boxes.length:Int)))) (J2 O O O) O (G8 (hK23 _ _ (Gn O (fun hb=>?_) (fun hb=>?_))))
 ·
  have hk21:=Jc hb
  obtain⟨y21,nx21,hy21,hn21,h⟩:=Hn hi21 hk21
  replace h:=Yb hb21 h
  refine Gp (hK22 _ _ (G7 (fun K24 hK24=>Gk (G7 fun K25 hK25=>G2 (JLh (E2 boxes) (G5 O O) O (JLh (En i21) (G5 O O) O (JLh (Ei y21) (Gt (f:=Gv.av) (xs:=boxes) (y:=y21) O O O J5 hy21 O) O (JLh (Ei y21) (Gb G14 O O O) O (JLh (G0 y21.ID) (Gh Gd O O O) O (JLh (G0 id_) (G5 O O) O (JLh (BL (decide (y21.ID=id_))) (Jx O O O) O (G8 (hK25 _ _ (Gn O (fun hb=>?_) (fun hb=>?_)))))))))))))))
  ·
   replace h:=Gz hb h
   refine G7 fun K26 hK26=>G2 (JLh (E2 boxes) (G5 O O) O (JLh (En i21) (G5 O O) O (JLh (Ei y21) (Gt (f:=Gv.av) (xs:=boxes) (y:=y21) O O O J5 hy21 O) O (JLh (.agg (Gv.cs y21)) (Gj Z5 O O O) O (J4 (u:=.junk) (Ht (u:=.agg (Gv.cs y21)) (ds:=(Gv.cs y21)) Zt O O O O O O O O) (JLh (BL true) (G9 O O) O (G8 (hK26 _ _ (Gu (⟨[.agg (Gv.cs y21),BL true],[],G,O,⟨⟨_,⟨_,_,_,_,O,O,O,.inl ⟨Z5,O⟩⟩,.conv (.same O)⟩,⟨_,O,.conv (.same O)⟩,G⟩,O,congrArg (fun r:Gv×Bool=>(.tup [.agg (Gv.cs r.1),BL r.2]:AV)) (Option.some.inj h)⟩))))))))))
  ·
   replace h:=Hv hb h
   refine Gp (hK24 _ _ (G2 (JLh (En i21) (G5 O O) O (JLh (G0 ((i21+1:Nat):Int)) (Hy (He hk21 hm9) O O O) O (JLh (G0 ((i21+1:Nat):Int)) (G9 O O) O (G8 (e21 _ _ (i21+1) () (app1 hn21 h) (by omega) ⟨(by repeat' constructor),⟨⟨_,rfl,.boxL rfl (by repeat' constructor)⟩,G⟩,rfl⟩)))))))
 ·
  have h:=app1 hkx21 (Ho hi21 (H9 hb))
  refine Hk (hK2 _ _ ?_)
  refine G7 fun K27 hK27=>G2 (JLh (.agg [G0 0,ST ByteArray.empty,U8 0,BL false,G0 0,G0 0,G0 0,U8 0,BL false]) (Jv (cs:=[G0 0,ST ByteArray.empty,U8 0,BL false,G0 0,G0 0,G0 0,U8 0,BL false]) [(0,1),(1,1),(2,1),(3,1),(4,1),(5,1),(6,1),(7,1),(8,1)] [G0 0,ST ByteArray.empty,U8 0,BL false,G0 0,G0 0,G0 0,U8 0,BL false] [.int .i64 0,.string ByteArray.empty,.int .u8 0,.bool false,.int .i64 0,.int .i64 0,.int .i64 0,.int .u8 0,.bool false] G48 G21 ⟨.inl O,.inl O,.inl O,.inl O,.inl O,.inl O,.inl O,.inl O,.inl O,G⟩ O O) O (J4 (u:=.junk) (Ht (u:=.agg [G0 0,ST ByteArray.empty,U8 0,BL false,G0 0,G0 0,G0 0,U8 0,BL false]) (ds:=[G0 0,ST ByteArray.empty,U8 0,BL false,G0 0,G0 0,G0 0,U8 0,BL false]) Zt O O O O O O O O) (JLh (BL false) (G9 O O) O (G8 (hK27 _ _ ?_)))))
  refine Gu (⟨[.agg [G0 0,ST ByteArray.empty,U8 0,BL false,G0 0,G0 0,G0 0,U8 0,BL false],BL false],[],G,O,⟨⟨_,⟨_,_,_,_,O,O,O,.inl ⟨Z5,O⟩⟩,.conv (.same O)⟩,⟨_,O,.conv (.same O)⟩,G⟩,O,congrArg (fun r:Gv×Bool=>(.tup [.agg (Gv.cs r.1),BL r.2]:AV)) (Option.some.inj h)⟩)

def Z8 (s:Hb) (x:Slot) (size:Int):Option Bool:=
 bnd (bif (!(((decide (x.G4 < 0))||(decide ((s.Columns.length:Int)≤x.G4)))||(decide (x.Tier < 0)))) then Q3 s.Columns x.G4 some else some default) fun y4=>
 bif ((((decide (x.G4 < 0))||(decide ((s.Columns.length:Int)≤x.G4)))||(decide (x.Tier < 0)))||(decide (y4.Tiers≤x.Tier))) then
 (some false)
 else
 (some (((decide (size=40))&&(decide (x.Half=0)))||((decide (size=20))&&((decide (x.Half=1))||(decide (x.Half=2))))))
theorem H27 (s:Hb) (x:Slot) (size:Int) (r:Bool) (h:Z8 s x size=some r):Pure Tryz.prog 161 [.agg (Hb.cs s),.agg [G0 x.G4,G0 x.Tier,U8 x.Half],G0 size] (·=BL r):=by
 unfold Z8 at h
 refine H1 [.tmp 6] Tryz.func161 O O ?_
 refine G7 fun K1 hK1=>G2 (JLh (.ptr 1104 0) (Jy (u:=.agg (Hb.cs s)) (cs:=(Hb.cs s)) 1104 O O O O O) O (JLh (.ptr 1105 0) (Jy (u:=.agg [G0 x.G4,G0 x.Tier,U8 x.Half]) (cs:=[G0 x.G4,G0 x.Tier,U8 x.Half]) 1105 O O O O O) O (JLh (BL false) (G9 O O) O (G8 (hK1 _ _ ?_)))))
 refine Gx [(2,G0 size),(3,Ee s),(4,.ptr 1105 0)] [(1105,.box 119 [G0 x.G4,G0 x.Tier,U8 x.Half])] 1104 rfl rfl rfl ⟨⟨_,rfl,.boxEq rfl rfl⟩,G⟩ rfl (by exact⟨.conv (.same rfl),.ptr,.conv (.same rfl),G⟩) ?_
 refine Gx [(2,G0 size),(3,Ee s),(4,.dptr [G0 x.G4,G0 x.Tier,U8 x.Half])] [] 1105 rfl rfl rfl G rfl (by exact⟨.conv (.same rfl),.conv (.same rfl),.ptr,G⟩) (G7 (fun K2 hK2=>G7 (fun K3 hK3=>?_)))
 obtain⟨y4,hy4,h⟩:=Gf h
 refine Q6 [] [0,0,0,0,0,0,0,0,0,0,0,0,0,0,0,0,0,0,0,0,0,0,0,0,0,0,0,0] [0,0,0,0,0,0,0,0,0,0,0,0,0,0,0,0,0,0,0,0,0,0,0,0,0,0,0,0] [[]] Jk (by kernel_rfl) rfl rfl ?_
 refine Gc (u:=.dptr [G0 x.G4,G0 x.Tier,U8 x.Half]) O O ⟨Gw (Gb J0 O O O) O,G⟩ (Gc (u:=G0 x.G4) O O ⟨Gw (Gh Gd O O O) O,G⟩ (Gc (u:=BL (decide (x.G4 < 0))) O O ⟨Gw (J2 O O O) O,G⟩ (Gc (u:=BL (decide (x.G4 < 0))) O O ⟨Gw (G5 O O) O,G⟩ (Gc (u:=.opt (!(decide (x.G4 < 0))) (.dptr [G0 x.G4,G0 x.Tier,U8 x.Half])) O O ⟨Ge [] O O O .scf G (fun hc=>Gb J0 O O O) O,G⟩ (Gc (u:=.opt (!(decide (x.G4 < 0))) (G0 x.G4)) O O ⟨Ge [(11,.dptr [G0 x.G4,G0 x.Tier,U8 x.Half])] O O O .scf ⟨.all id,G⟩ (fun hc=>Gh Gd O O O) O,G⟩ (Gc (u:=.opt (!(decide (x.G4 < 0))) (Ee s)) O O ⟨Ge [] O O O .scf G (fun hc=>Gb Hi O O O) O,G⟩ (Gc (u:=.opt (!(decide (x.G4 < 0))) (E3 s.Columns)) O O ⟨Ge [(13,Ee s)] O O O .scf ⟨.all id,G⟩ (fun hc=>Gh Hq O O O) O,G⟩ (Gc (u:=.opt (!(decide (x.G4 < 0))) (En s.Columns.length)) O O ⟨Ge [(14,E3 s.Columns)] O O O .scf ⟨.all id,G⟩ (fun hc=>Qt (f:=G4.av) (xs:=s.Columns) H7 O O) O,G⟩ (Gc (u:=.opt (!(decide (x.G4 < 0))) (BL (decide ((s.Columns.length:Int)≤x.G4)))) O O ⟨Ge [(12,G0 x.G4),(15,En s.Columns.length)] O O O .scf ⟨.all id,.all id,G⟩ (fun hc=>G29 O O O) O,G⟩ (Gc (u:=BL ((decide (x.G4 < 0))||(decide ((s.Columns.length:Int)≤x.G4)))) O O ⟨Gw (Rn O O O O) O,G⟩ (Gc (u:=BL ((decide (x.G4 < 0))||(decide ((s.Columns.length:Int)≤x.G4)))) O O ⟨Gw (G5 O O) O,G⟩ (Gc (u:=.opt (!((decide (x.G4 < 0))||(decide ((s.Columns.length:Int)≤x.G4)))) (.dptr [G0 x.Tier,U8 x.Half])) O O ⟨Ge [] O O O .scf G (fun hc=>Gb Q2 O O O) O,G⟩ (Gc (u:=.opt (!((decide (x.G4 < 0))||(decide ((s.Columns.length:Int)≤x.G4)))) (G0 x.Tier)) O O ⟨Ge [(19,.dptr [G0 x.Tier,U8 x.Half])] O O O .scf ⟨.all id,G⟩ (fun hc=>Gh Gd O O O) O,G⟩ ?_)))))))))))))
 refine Gc (u:=.opt (!((decide (x.G4 < 0))||(decide ((s.Columns.length:Int)≤x.G4)))) (BL (decide (x.Tier < 0)))) O O ⟨Ge [(20,G0 x.Tier)] O O O .scf ⟨.all id,G⟩ (fun hc=>J2 O O O) O,G⟩ (Gc (u:=BL (((decide (x.G4 < 0))||(decide ((s.Columns.length:Int)≤x.G4)))||(decide (x.Tier < 0)))) O O ⟨Gw (Rn O O O O) O,G⟩ (Gc (u:=BL (((decide (x.G4 < 0))||(decide ((s.Columns.length:Int)≤x.G4)))||(decide (x.Tier < 0)))) O O ⟨Gw (G5 O O) O,G⟩ (Gc (u:=.opt (!(((decide (x.G4 < 0))||(decide ((s.Columns.length:Int)≤x.G4)))||(decide (x.Tier < 0)))) (.dptr [G0 x.Tier,U8 x.Half])) O O ⟨Ge [] O O O .scf G (fun hc=>Gb Q2 O O O) O,G⟩ (Gc (u:=.opt (!(((decide (x.G4 < 0))||(decide ((s.Columns.length:Int)≤x.G4)))||(decide (x.Tier < 0)))) (G0 x.Tier)) O O ⟨Ge [(24,.dptr [G0 x.Tier,U8 x.Half])] O O O .scf ⟨.all id,G⟩ (fun hc=>Gh Gd O O O) O,G⟩ (Gc (u:=.opt (!(((decide (x.G4 < 0))||(decide ((s.Columns.length:Int)≤x.G4)))||(decide (x.Tier < 0)))) (Ee s)) O O ⟨Ge [] O O O .scf G (fun hc=>Gb Hi O O O) O,G⟩ (Gc (u:=.opt (!(((decide (x.G4 < 0))||(decide ((s.Columns.length:Int)≤x.G4)))||(decide (x.Tier < 0)))) (E3 s.Columns)) O O ⟨Ge [(26,Ee s)] O O O .scf ⟨.all id,G⟩ (fun hc=>Gh Hq O O O) O,G⟩ (Gc (u:=.opt (!(((decide (x.G4 < 0))||(decide ((s.Columns.length:Int)≤x.G4)))||(decide (x.Tier < 0)))) (.dptr [G0 x.G4,G0 x.Tier,U8 x.Half])) O O ⟨Ge [] O O O .scf G (fun hc=>Gb J0 O O O) O,G⟩ (Gc (u:=.opt (!(((decide (x.G4 < 0))||(decide ((s.Columns.length:Int)≤x.G4)))||(decide (x.Tier < 0)))) (G0 x.G4)) O O ⟨Ge [(28,.dptr [G0 x.G4,G0 x.Tier,U8 x.Half])] O O O .scf ⟨.all id,G⟩ (fun hc=>Gh Gd O O O) O,G⟩ (Gc (u:=.opt (!(((decide (x.G4 < 0))||(decide ((s.Columns.length:Int)≤x.G4)))||(decide (x.Tier < 0)))) (Eh y4)) O O ⟨Ge [(27,E3 s.Columns),(29,G0 x.G4)] O O O .scf ⟨.all id,.all id,G⟩ (fun hc=>(match Jf (Gz hc hy4) with | ⟨_,hm_,hy_⟩=>Gt (f:=G4.av) (xs:=s.Columns) (y:=y4) O O O H7 hy_ hm_)) O,G⟩ (Gc (u:=.opt (!(((decide (x.G4 < 0))||(decide ((s.Columns.length:Int)≤x.G4)))||(decide (x.Tier < 0)))) (.dptr ((G4.cs y4).drop 3))) O O ⟨Ge [(30,Eh y4)] O O O .scf ⟨.all id,G⟩ (fun hc=>Gb Z1 O O O) O,G⟩ (Gc (u:=.opt (!(((decide (x.G4 < 0))||(decide ((s.Columns.length:Int)≤x.G4)))||(decide (x.Tier < 0)))) (G0 y4.Tiers)) O O ⟨Ge [(31,.dptr ((G4.cs y4).drop 3))] O O O .scf ⟨.all id,G⟩ (fun hc=>Gh Gd O O O) O,G⟩ (Gc (u:=.opt (!(((decide (x.G4 < 0))||(decide ((s.Columns.length:Int)≤x.G4)))||(decide (x.Tier < 0)))) (BL (decide (y4.Tiers≤x.Tier)))) O O ⟨Ge [(25,G0 x.Tier),(32,G0 y4.Tiers)] O O O .scf ⟨.all id,.all id,G⟩ (fun hc=>G29 O O O) O,G⟩ (Gc (u:=BL ((((decide (x.G4 < 0))||(decide ((s.Columns.length:Int)≤x.G4)))||(decide (x.Tier < 0)))||(decide (y4.Tiers≤x.Tier)))) O O ⟨Gw (Rn O O O O) O,G⟩ (Yz ?_))))))))))))))
 refine hK3 _ _ (Gn O (fun hb=>?_) (fun hb=>?_))
 ·
  replace h:=Gz hb h
  refine G7 fun K5 hK5=>G2 (JLh (BL false) (G9 O O) O (G8 (hK5 _ _ (Gu (⟨[BL false],[],G,O,⟨⟨_,O,.conv (.same O)⟩,G⟩,O,congrArg (fun r:Bool=>(BL r:AV)) (Option.some.inj h)⟩)))))
 ·
  replace h:=Hv hb h
  refine Gp (hK2 _ _ (G7 fun K6 hK6=>G2 (JLh (G0 size) (G5 O O) O (JLh (BL (decide (size=40))) (Jx O O O) O (JLh (BL (decide (size=40))) (G5 O O) O (Ga (u:=.dptr [U8 x.Half]) [] O O O .sct G (fun hc=>Gb Jd O O O) ?_))))))
  refine Ga (u:=U8 x.Half) [(38,.dptr [U8 x.Half])] O O O .sct ⟨.all id,G⟩ (fun hc=>Gh Jn O O O) ?_
  refine Ga (u:=BL (decide (x.Half=0))) [(39,U8 x.Half)] O O O .sct ⟨.all id,G⟩ (fun hc=>Jx O O O) ?_
  refine JLh (BL ((decide (size=40))&&(decide (x.Half=0)))) (Hx O O O O) O (JLh (BL ((decide (size=40))&&(decide (x.Half=0)))) (G5 O O) O (Ga (u:=G0 size) [] O O O .scf G (fun hc=>G5 O O) ?_))
  refine Ga (u:=BL (decide (size=20))) [(43,G0 size)] O O O .scf ⟨.all id,G⟩ (fun hc=>Jx O O O) ?_
  refine Ga (u:=BL (decide (size=20))) [(44,BL (decide (size=20)))] O O O .scf ⟨.all id,G⟩ (fun hc=>G5 O O) ?_
  refine Ga (u:=.dptr [U8 x.Half]) [] O O O .optt G (fun hc=>Gb Jd O O O) ?_
  refine Ga (u:=U8 x.Half) [(46,.dptr [U8 x.Half])] O O O .optt ⟨.all id,G⟩ (fun hc=>Gh Jn O O O) ?_
  refine Ga (u:=BL (decide (x.Half=1))) [(47,U8 x.Half)] O O O .optt ⟨.all id,G⟩ (fun hc=>Jx O O O) ?_
  refine Ga (u:=BL (decide (x.Half=1))) [(48,BL (decide (x.Half=1)))] O O O .optt ⟨.all id,G⟩ (fun hc=>G5 O O) ?_
  refine Ga (u:=.dptr [U8 x.Half]) [] O O O .optf G (fun hc=>Gb Jd O O O) ?_
  refine Ga (u:=U8 x.Half) [(50,.dptr [U8 x.Half])] O O O .optf ⟨.all id,G⟩ (fun hc=>Gh Jn O O O) ?_
  refine Ga (u:=BL (decide (x.Half=2))) [(51,U8 x.Half)] O O O .optf ⟨.all id,G⟩ (fun hc=>Jx O O O) ?_
  refine Ga (u:=BL ((decide (x.Half=1))||(decide (x.Half=2)))) [(49,BL (decide (x.Half=1))),(52,_)] O O O .optt ⟨.all id,.part,G⟩ (fun hc=>Rn O O O O) ?_
  refine Ga (u:=BL ((decide (size=20))&&((decide (x.Half=1))||(decide (x.Half=2))))) [(45,BL (decide (size=20))),(53,_)] O O O .scf ⟨.all id,.part,G⟩ (fun hc=>Hx O O O O) ?_
  refine JLh (BL (((decide (size=40))&&(decide (x.Half=0)))||((decide (size=20))&&((decide (x.Half=1))||(decide (x.Half=2)))))) (Rn O O O O) O (JLh (BL (((decide (size=40))&&(decide (x.Half=0)))||((decide (size=20))&&((decide (x.Half=1))||(decide (x.Half=2)))))) (G9 O O) O (G8 (hK6 _ _ (Gu (⟨[BL (((decide (size=40))&&(decide (x.Half=0)))||((decide (size=20))&&((decide (x.Half=1))||(decide (x.Half=2)))))],[],G,O,⟨⟨_,O,.conv (.same O)⟩,G⟩,O,congrArg (fun r:Bool=>(BL r:AV)) (Option.some.inj h)⟩)))))

def Z7 (l:List G6):Option (List Slot):=
 each (fun y16 i16 (s16:(List Slot)) nx16=>
  need (decide ((s16.length+[y16.Slot].length)*24≤140737488355328∧s16.length+[y16.Slot].length≤maxLen)) <|
  nx16 (s16++[y16.Slot]))
 (fun(s16:(List Slot))=>
  some s16) l 0 []
theorem H26 (l:List G6) (r:(List Slot)) (h:Z7 l=some r):Pure Tryz.prog 163 [E0 l] (·=E8 r):=by
 unfold Z7 at h
 refine H1 [.tmp 2] Tryz.func163 O O (G7 fun K1 hK1=>G2 (JLh (E8 ([]:List Slot)) (R4 3 O O) O (G8 (hK1 _ _ (G7 fun K2 hK2=>G2 (JLh (OW 1107 3 Slot.av ([]:List Slot)) (H3f 1107 119 3 O O O) O (G8 (hK2 _ _ (G7 (fun K3 hK3=>G7 fun K4 hK4=>G2 (JLh (G0 0) (G9 O O) O (G8 (hK4 _ _ (Gk ?_))))))))))))))
 obtain⟨b16,kx16,hb16,hkx16,h⟩:=Hw h
 refine Hc (fun i16 (s16:(List Slot))=>each b16 kx16 (List.drop i16 l) i16 s16=some r) (fun i16 s16=>[(0,E0 l),(3,OW 1107 3 Slot.av s16),(4,En i16)]) (fun i16 s16=>[(1107,.spare 119 3 s16.length s16.length)]) (fun i16=>l.length - i16) 0 [] h ⟨⟨.same O,.same O,.same O,G⟩,⟨⟨_,O,.same⟩,G⟩,O⟩ ?_
 clear h
 intro i16 s16 hi16 K16 e16
 refine G7 (fun K17 hK17=>G7 fun K18 hK18=>G2 (JLh (En i16) (G5 O O) O (JLh (E0 l) (G5 O O) O (H3 (f:=G6.av) (xs:=l) H2 O O (fun hm7=>?_) O O O))))
 refine JLh (BL (decide ((i16:Int) < (l.length:Int)))) (J2 O O O) O (G8 (hK18 _ _ (Gn O (fun hb=>?_) (fun hb=>?_))))
 ·
  have hk16:=Jc hb
  obtain⟨y16,nx16,hy16,hn16,h⟩:=Hn hi16 hk16
  replace h:=Yb hb16 h
  refine Gp (hK17 _ _ (G7 (fun K19 hK19=>Gk (G2 (JLh (OW 1107 3 Slot.av s16) (G5 O O) O (JLh (E0 l) (G5 O O) O (JLh (En i16) (G5 O O) O (JLh (Ef y16) (Gt (f:=G6.av) (xs:=l) (y:=y16) O O O H2 hy16 O) O (JLh (Eg y16.Slot) (Gb Hz O O O) O (JLh (.agg (Slot.cs y16.Slot)) (Gj Jh O O O) O (JLh (E8 [y16.Slot]) (Hm (xs:=[.agg (Slot.cs y16.Slot)]) O ⟨O,O,G⟩ Rx Zo O O O O) O ?_)))))))))))
  obtain⟨ha20,h⟩:=J6 h
  refine JLh (OW 1107 3 Slot.av (s16++[y16.Slot])) (Yd (f:=Slot.av) (xs:=s16) (ys:=[y16.Slot]) O O O O Rx J17 ha20 (fun _=>O) (.inl O) O) O (JLh (OW 1107 3 Slot.av (s16++[y16.Slot])) (G9 O O) O (G8 (hK19 _ _ (G2 (JLh (En i16) (G5 O O) O (JLh (G0 ((i16+1:Nat):Int)) (Hy (He hk16 hm7) O O O) O (JLh (G0 ((i16+1:Nat):Int)) (G9 O O) O (G8 (e16 _ _ (i16+1) (s16++[y16.Slot]) (app1 hn16 h) (by omega) ⟨⟨.same rfl,.same rfl,.same rfl,G⟩,⟨⟨_,rfl,.same⟩,G⟩,rfl⟩)))))))))
 ·
  have h:=app1 hkx16 (Ho hi16 (H9 hb))
  refine Hk (hK3 _ _ (G7 fun K21 hK21=>G2 (JLh (OW 1107 3 Slot.av s16) (G5 O O) O (JLh (OW 1107 3 Slot.av s16) (G9 O O) O (G8 (hK21 _ _ (Gu (⟨[E8 s16],[],G,O,⟨⟨_,O,.conv (.list O)⟩,G⟩,O,congrArg (fun r:(List Slot)=>(E8 r:AV)) (Option.some.inj h)⟩))))))))

def R5 (l:List Slot) (x:Slot) (half:Int):Option Bool:=
 each (fun y23 i23 (s23:Unit) nx23=>
  bnd (bif decide (y23.G4=x.G4) then G32 (x.Tier - 1) some else some 0) fun v28=>
  bif (((decide (y23.G4=x.G4))&&(decide (y23.Tier=v28)))&&(decide (y23.Half=half))) then
  (some true)
  else
  (nx23 ()))
 (fun(s23:Unit)=>
  some false) l 0 ()
theorem G09 (l:List Slot) (x:Slot) (half:Int) (r:Bool) (h:R5 l x half=some r):Pure Tryz.prog 250 [E8 l,.agg [G0 x.G4,G0 x.Tier,U8 x.Half],U8 half] (·=BL r):=by
 unfold R5 at h
 refine H1 [.tmp 6] Tryz.func250 O O (G7 fun K1 hK1=>G2 (JLh (.ptr 1140 0) (Jy (u:=.agg [G0 x.G4,G0 x.Tier,U8 x.Half]) (cs:=[G0 x.G4,G0 x.Tier,U8 x.Half]) 1140 O O O O O) O (JLh (BL false) (G9 O O) O (G8 (hK1 _ _ (Gx [(0,E8 l),(2,U8 half),(4,.dptr [G0 x.G4,G0 x.Tier,U8 x.Half])] [] 1140 rfl rfl rfl G rfl (by exact⟨.conv (.same rfl),.conv (.same rfl),.ptr,G⟩) (G7 (fun K2 hK2=>G7 fun K3 hK3=>G2 (JLh (G0 0) (G9 O O) O (G8 (hK3 _ _ (Gk ?_))))))))))))
 obtain⟨b23,kx23,hb23,hkx23,h⟩:=Hw h
 refine Hc (fun i23 (s23:Unit)=>each b23 kx23 (List.drop i23 l) i23 s23=some r) (fun i23 s23=>[(0,E8 l),(2,U8 half),(4,.dptr [G0 x.G4,G0 x.Tier,U8 x.Half]),(7,En i23)]) (fun i23 s23=>[]) (fun i23=>l.length - i23) 0 () h ⟨(by repeat' constructor),G,rfl⟩ ?_
 clear h
 intro i23 s23 hi23 K23 e23
 refine G7 (fun K24 hK24=>G7 fun K25 hK25=>G2 (JLh (En i23) (G5 O O) O (JLh (E8 l) (G5 O O) O (H3 (f:=Slot.av) (xs:=l) Rx O O (fun hm10=>?_) O O O))))
 refine JLh (BL (decide ((i23:Int) < (l.length:Int)))) (J2 O O O) O (G8 (hK25 _ _ (Gn O (fun hb=>?_) (fun hb=>?_))))
 ·
  have hk23:=Jc hb
  obtain⟨y23,nx23,hy23,hn23,h⟩:=Hn hi23 hk23
  replace h:=Yb hb23 h
  refine Gp (hK24 _ _ (G7 (fun K26 hK26=>Gk (G7 (fun K27 hK27=>?_)))))
  obtain⟨v28,hv28,h⟩:=Gf h
  refine Q6 [] [0,0,0,0,0,0,0,0,0,0,0,0,0,0,0,0,0,0,0,0,0,0,0,0,0,0,0,0] [0,0,0,0,0,0,0,0,0,0,0,0,0,0,0,0,0,0,0,0,0,0,0,0,0,0,0,0] [[]] Jk (by kernel_rfl) rfl rfl ?_
  refine Gc (u:=E8 l) O O ⟨Gw (G5 O O) O,G⟩ (Gc (u:=En i23) O O ⟨Gw (G5 O O) O,G⟩ (Gc (u:=Eg y23) O O ⟨Gw (Gt (f:=Slot.av) (xs:=l) (y:=y23) O O O Rx hy23 O) O,G⟩ (Gc (u:=Eg y23) O O ⟨Gw (Gb J0 O O O) O,G⟩ (Gc (u:=G0 y23.G4) O O ⟨Gw (Gh Gd O O O) O,G⟩ (Gc (u:=.dptr [G0 x.G4,G0 x.Tier,U8 x.Half]) O O ⟨Gw (Gb J0 O O O) O,G⟩ (Gc (u:=G0 x.G4) O O ⟨Gw (Gh Gd O O O) O,G⟩ (Gc (u:=BL (decide (y23.G4=x.G4))) O O ⟨Gw (Jx O O O) O,G⟩ (Gc (u:=BL (decide (y23.G4=x.G4))) O O ⟨Gw (G5 O O) O,G⟩ (Gc (u:=.opt (decide (y23.G4=x.G4)) (E8 l)) O O ⟨Ge [] O O O .sct G (fun hc=>G5 O O) O,G⟩ (Gc (u:=.opt (decide (y23.G4=x.G4)) (En i23)) O O ⟨Ge [] O O O .sct G (fun hc=>G5 O O) O,G⟩ (Gc (u:=.opt (decide (y23.G4=x.G4)) (Eg y23)) O O ⟨Ge [(23,E8 l),(24,En i23)] O O O .sct ⟨.all id,.all id,G⟩ (fun hc=>Gt (f:=Slot.av) (xs:=l) (y:=y23) O O O Rx hy23 O) O,G⟩ (Gc (u:=.opt (decide (y23.G4=x.G4)) (.dptr [G0 y23.Tier,U8 y23.Half])) O O ⟨Ge [(25,Eg y23)] O O O .sct ⟨.all id,G⟩ (fun hc=>Gb Q2 O O O) O,G⟩ (Gc (u:=.opt (decide (y23.G4=x.G4)) (G0 y23.Tier)) O O ⟨Ge [(26,.dptr [G0 y23.Tier,U8 y23.Half])] O O O .sct ⟨.all id,G⟩ (fun hc=>Gh Gd O O O) O,G⟩ ?_)))))))))))))
  refine Gc (u:=.opt (decide (y23.G4=x.G4)) (.dptr [G0 x.Tier,U8 x.Half])) O O ⟨Ge [] O O O .sct G (fun hc=>Gb Q2 O O O) O,G⟩ (Gc (u:=.opt (decide (y23.G4=x.G4)) (G0 x.Tier)) O O ⟨Ge [(28,.dptr [G0 x.Tier,U8 x.Half])] O O O .sct ⟨.all id,G⟩ (fun hc=>Gh Gd O O O) O,G⟩ (Gc (u:=.opt (decide (y23.G4=x.G4)) (G0 v28)) O O ⟨Ge [(29,G0 x.Tier)] O O O .sct ⟨.all id,G⟩ (fun hc=>Gcb (G04 (Gz hc hv28)) O O O) O,G⟩ (Gc (u:=.opt (decide (y23.G4=x.G4)) (BL (decide (y23.Tier=v28)))) O O ⟨Ge [(27,G0 y23.Tier),(30,G0 v28)] O O O .sct ⟨.all id,.all id,G⟩ (fun hc=>Jx O O O) O,G⟩ (Gc (u:=BL ((decide (y23.G4=x.G4))&&(decide (y23.Tier=v28)))) O O ⟨Gw (Hx O O O O) O,G⟩ (Gc (u:=BL ((decide (y23.G4=x.G4))&&(decide (y23.Tier=v28)))) O O ⟨Gw (G5 O O) O,G⟩ (Gc (u:=.opt ((decide (y23.G4=x.G4))&&(decide (y23.Tier=v28))) (E8 l)) O O ⟨Ge [] O O O .sct G (fun hc=>G5 O O) O,G⟩ (Gc (u:=.opt ((decide (y23.G4=x.G4))&&(decide (y23.Tier=v28))) (En i23)) O O ⟨Ge [] O O O .sct G (fun hc=>G5 O O) O,G⟩ (Gc (u:=.opt ((decide (y23.G4=x.G4))&&(decide (y23.Tier=v28))) (Eg y23)) O O ⟨Ge [(34,E8 l),(35,En i23)] O O O .sct ⟨.all id,.all id,G⟩ (fun hc=>Gt (f:=Slot.av) (xs:=l) (y:=y23) O O O Rx hy23 O) O,G⟩ (Gc (u:=.opt ((decide (y23.G4=x.G4))&&(decide (y23.Tier=v28))) (.dptr [U8 y23.Half])) O O ⟨Ge [(36,Eg y23)] O O O .sct ⟨.all id,G⟩ (fun hc=>Gb Jd O O O) O,G⟩ (Gc (u:=.opt ((decide (y23.G4=x.G4))&&(decide (y23.Tier=v28))) (U8 y23.Half)) O O ⟨Ge [(37,.dptr [U8 y23.Half])] O O O .sct ⟨.all id,G⟩ (fun hc=>Gh Jn O O O) O,G⟩ (Gc (u:=.opt ((decide (y23.G4=x.G4))&&(decide (y23.Tier=v28))) (U8 half)) O O ⟨Ge [] O O O .sct G (fun hc=>G5 O O) O,G⟩ (Gc (u:=.opt ((decide (y23.G4=x.G4))&&(decide (y23.Tier=v28))) (BL (decide (y23.Half=half)))) O O ⟨Ge [(38,U8 y23.Half),(39,U8 half)] O O O .sct ⟨.all id,.all id,G⟩ (fun hc=>Jx O O O) O,G⟩ (Gc (u:=BL (((decide (y23.G4=x.G4))&&(decide (y23.Tier=v28)))&&(decide (y23.Half=half)))) O O ⟨Gw (Hx O O O O) O,G⟩ (Yz ?_))))))))))))))
  refine hK27 _ _ (Gn O (fun hb=>?_) (fun hb=>?_))
  ·
   replace h:=Gz hb h
   refine G7 fun K29 hK29=>G2 (JLh (BL true) (G9 O O) O (G8 (hK29 _ _ (Gu (⟨[BL true],[],G,O,⟨⟨_,O,.conv (.same O)⟩,G⟩,O,congrArg (fun r:Bool=>(BL r:AV)) (Option.some.inj h)⟩)))))
  ·
   replace h:=Hv hb h
   refine Gp (hK26 _ _ (G2 (JLh (En i23) (G5 O O) O (JLh (G0 ((i23+1:Nat):Int)) (Hy (He hk23 hm10) O O O) O (JLh (G0 ((i23+1:Nat):Int)) (G9 O O) O (G8 (e23 _ _ (i23+1) () (app1 hn23 h) (by omega) ⟨(by repeat' constructor),G,rfl⟩)))))))
 ·
  have h:=app1 hkx23 (Ho hi23 (H9 hb))
  refine Hk (hK2 _ _ (G7 fun K30 hK30=>G2 (JLh (BL false) (G9 O O) O (G8 (hK30 _ _ (Gu (⟨[BL false],[],G,O,⟨⟨_,O,.conv (.same O)⟩,G⟩,O,congrArg (fun r:Bool=>(BL r:AV)) (Option.some.inj h)⟩)))))))

def Zj (x:Slot) (l:List Slot):Option Bool:=
 bif decide (x.Tier≤0) then
 (some true)
 else
 (bif decide (x.Half=0) then
  (bnd (R5 l x 0) fun r8=>
   bnd (bif (!r8) then R5 l x 1 else some default) fun r9=>
   bnd (bif ((!r8)&&r9) then R5 l x 2 else some default) fun r10=>
   some (r8||(r9&&r10)))
  else
  (bnd (R5 l x x.Half) fun r12=>
   some r12))
theorem H39 (x:Slot) (l:List Slot) (r:Bool) (h:Zj x l=some r):Pure Tryz.prog 162 [.agg [G0 x.G4,G0 x.Tier,U8 x.Half],E8 l] (·=BL r):=by
 unfold Zj at h
 refine H1 [.tmp 4] Tryz.func162 O O (G7 fun K1 hK1=>G2 (JLh (.ptr 1106 0) (Jy (u:=.agg [G0 x.G4,G0 x.Tier,U8 x.Half]) (cs:=[G0 x.G4,G0 x.Tier,U8 x.Half]) 1106 O O O O O) O (JLh (BL false) (G9 O O) O (G8 (hK1 _ _ (Gx [(1,E8 l),(2,.dptr [G0 x.G4,G0 x.Tier,U8 x.Half])] [] 1106 rfl rfl rfl G rfl (by exact⟨.conv (.same rfl),.ptr,G⟩) (G7 (fun K2 hK2=>G7 fun K3 hK3=>G2 (JLh (.dptr [G0 x.Tier,U8 x.Half]) (Gb Q2 O O O) O (JLh (G0 x.Tier) (Gh Gd O O O) O (JLh (BL (decide (x.Tier≤0))) (H98 O O O) O (G8 (hK3 _ _ (Gn O (fun hb=>?_) (fun hb=>?_)))))))))))))))
 ·
  replace h:=Gz hb h
  refine G7 fun K4 hK4=>G2 (JLh (BL true) (G9 O O) O (G8 (hK4 _ _ (Gu (⟨[BL true],[],G,O,⟨⟨_,O,.conv (.same O)⟩,G⟩,O,congrArg (fun r:Bool=>(BL r:AV)) (Option.some.inj h)⟩)))))
 ·
  replace h:=Hv hb h
  refine Gp (hK2 _ _ (G7 (fun K5 hK5=>G7 fun K6 hK6=>G2 (JLh (.dptr [U8 x.Half]) (Gb Jd O O O) O (JLh (U8 x.Half) (Gh Jn O O O) O (JLh (BL (decide (x.Half=0))) (Jx O O O) O (G8 (hK6 _ _ (Gn O (fun hb=>?_) (fun hb=>?_))))))))))
  ·
   replace h:=Gz hb h
   refine G7 fun K7 hK7=>G2 (JLh (E8 l) (G5 O O) O (JLh (.agg [G0 x.G4,G0 x.Tier,U8 x.Half]) (Gj Jh O O O) O ?_))
   obtain⟨r8,hr8,h⟩:=Gf h
   refine JLh (BL r8) (Gq (args:=[E8 l,.agg [G0 x.G4,G0 x.Tier,U8 x.Half],U8 0]) O (G09 l x 0 r8 hr8) H13 ⟨O,O,O,O,O,O,G⟩) O (JLh (BL r8) (G5 O O) O (Ga (u:=E8 l) [] O O O .scf G (fun hc=>G5 O O) ?_))
   refine Ga (u:=.agg [G0 x.G4,G0 x.Tier,U8 x.Half]) [] O O O .scf G (fun hc=>Gj Jh O O O) ?_
   obtain⟨r9,hr9,h⟩:=Gf h
   refine Ga (u:=BL r9) [(15,E8 l),(16,.agg [G0 x.G4,G0 x.Tier,U8 x.Half])] O O O .scf ⟨.all id,.all id,G⟩ (fun hc=>Gq (args:=[E8 l,.agg [G0 x.G4,G0 x.Tier,U8 x.Half],U8 1]) O (G09 l x 1 r9 (Gz hc hr9)) H13 ⟨O,O,O,O,O,O,G⟩) ?_
   refine Ga (u:=BL r9) [(17,BL r9)] O O O .scf ⟨.all id,G⟩ (fun hc=>G5 O O) ?_
   refine Ga (u:=E8 l) [] O O O .optt G (fun hc=>G5 O O) ?_
   refine Ga (u:=.agg [G0 x.G4,G0 x.Tier,U8 x.Half]) [] O O O .optt G (fun hc=>Gj Jh O O O) ?_
   obtain⟨r10,hr10,h⟩:=Gf h
   refine Ga (u:=BL r10) [(19,E8 l),(20,.agg [G0 x.G4,G0 x.Tier,U8 x.Half])] O O O .optt ⟨.all id,.all id,G⟩ (fun hc=>Gq (args:=[E8 l,.agg [G0 x.G4,G0 x.Tier,U8 x.Half],U8 2]) O (G09 l x 2 r10 (Gz hc hr10)) H13 ⟨O,O,O,O,O,O,G⟩) ?_
   refine Ga (u:=BL (r9&&r10)) [(18,BL r9),(21,_)] O O O .scf ⟨.all id,.part,G⟩ (fun hc=>Hx O O O O) ?_
   refine JLh (BL (r8||(r9&&r10))) (Rn O O O O) O (JLh (BL (r8||(r9&&r10))) (G9 O O) O (G8 (hK7 _ _ (Gu (⟨[BL (r8||(r9&&r10))],[],G,O,⟨⟨_,O,.conv (.same O)⟩,G⟩,O,congrArg (fun r:Bool=>(BL r:AV)) (Option.some.inj h)⟩)))))
  ·
   replace h:=Hv hb h
   refine Gp (hK5 _ _ (G7 fun K11 hK11=>G2 (JLh (E8 l) (G5 O O) O (JLh (.agg [G0 x.G4,G0 x.Tier,U8 x.Half]) (Gj Jh O O O) O (JLh (.dptr [U8 x.Half]) (Gb Jd O O O) O (JLh (U8 x.Half) (Gh Jn O O O) O ?_))))))
   obtain⟨r12,hr12,h⟩:=Gf h
   refine JLh (BL r12) (Gq (args:=[E8 l,.agg [G0 x.G4,G0 x.Tier,U8 x.Half],U8 x.Half]) O (G09 l x x.Half r12 hr12) H13 ⟨O,O,O,O,O,O,G⟩) O (JLh (BL r12) (G9 O O) O (G8 (hK11 _ _ (Gu (⟨[BL r12],[],G,O,⟨⟨_,O,.conv (.same O)⟩,G⟩,O,congrArg (fun r:Bool=>(BL r:AV)) (Option.some.inj h)⟩)))))

def Qy (a:Int) (b:Int):Option Bool:=
 some (((decide (a=b))||(decide (a=0)))||(decide (b=0)))
theorem G66 (a:Int) (b:Int) (r:Bool) (h:Qy a b=some r):Pure Tryz.prog 251 [U8 a,U8 b] (·=BL r):=by
 unfold Qy at h
 refine H1 [.tmp 4] Tryz.func251 O O (G7 fun K1 hK1=>G2 (JLh (BL false) (G9 O O) O (G8 (hK1 _ _ (G7 fun K2 hK2=>G2 (JLh (U8 a) (G5 O O) O (JLh (U8 b) (G5 O O) O (JLh (BL (decide (a=b))) (Jx O O O) O (JLh (BL (decide (a=b))) (G5 O O) O (Ga (u:=U8 a) [] O O O .scf G (fun hc=>G5 O O) ?_))))))))))
 refine Ga (u:=BL (decide (a=0))) [(9,U8 a)] O O O .scf ⟨.all id,G⟩ (fun hc=>Jx O O O) ?_
 refine JLh (BL ((decide (a=b))||(decide (a=0)))) (Rn O O O O) O (JLh (BL ((decide (a=b))||(decide (a=0)))) (G5 O O) O (Ga (u:=U8 b) [] O O O .scf G (fun hc=>G5 O O) ?_))
 refine Ga (u:=BL (decide (b=0))) [(13,U8 b)] O O O .scf ⟨.all id,G⟩ (fun hc=>Jx O O O) ?_
 refine JLh (BL (((decide (a=b))||(decide (a=0)))||(decide (b=0)))) (Rn O O O O) O (JLh (BL (((decide (a=b))||(decide (a=0)))||(decide (b=0)))) (G9 O O) O (G8 (hK2 _ _ (Gu (⟨[BL (((decide (a=b))||(decide (a=0)))||(decide (b=0)))],[],G,O,⟨⟨_,O,.conv (.same O)⟩,G⟩,O,congrArg (fun r:Bool=>(BL r:AV)) (Option.some.inj h)⟩)))))

def Zi (a:Slot) (b:Slot):Option Bool:=
 bnd (bif ((decide (a.G4=b.G4))&&(decide (a.Tier=b.Tier))) then Qy a.Half b.Half else some default) fun r3=>
 some (((decide (a.G4=b.G4))&&(decide (a.Tier=b.Tier)))&&r3)
theorem H38 (a:Slot) (b:Slot) (r:Bool) (h:Zi a b=some r):Pure Tryz.prog 164 [.agg [G0 a.G4,G0 a.Tier,U8 a.Half],.agg [G0 b.G4,G0 b.Tier,U8 b.Half]] (·=BL r):=by
 unfold Zi at h
 refine H1 [.tmp 4] Tryz.func164 O O (G7 fun K1 hK1=>G2 (JLh (.ptr 1108 0) (Jy (u:=.agg [G0 a.G4,G0 a.Tier,U8 a.Half]) (cs:=[G0 a.G4,G0 a.Tier,U8 a.Half]) 1108 O O O O O) O (JLh (.ptr 1109 0) (Jy (u:=.agg [G0 b.G4,G0 b.Tier,U8 b.Half]) (cs:=[G0 b.G4,G0 b.Tier,U8 b.Half]) 1109 O O O O O) O (JLh (BL false) (G9 O O) O (G8 (hK1 _ _ (Gx [(2,.dptr [G0 a.G4,G0 a.Tier,U8 a.Half]),(3,.ptr 1109 0)] [(1109,.box 119 [G0 b.G4,G0 b.Tier,U8 b.Half])] 1108 rfl rfl rfl ⟨⟨_,rfl,.boxEq rfl rfl⟩,G⟩ rfl (by exact⟨.ptr,.conv (.same rfl),G⟩) (Gx [(2,.dptr [G0 a.G4,G0 a.Tier,U8 a.Half]),(3,.dptr [G0 b.G4,G0 b.Tier,U8 b.Half])] [] 1109 rfl rfl rfl G rfl (by exact⟨.conv (.same rfl),.ptr,G⟩) ?_))))))))
 refine G7 fun K2 hK2=>G2 (JLh (.dptr [G0 a.G4,G0 a.Tier,U8 a.Half]) (Gb J0 O O O) O (JLh (G0 a.G4) (Gh Gd O O O) O (JLh (.dptr [G0 b.G4,G0 b.Tier,U8 b.Half]) (Gb J0 O O O) O (JLh (G0 b.G4) (Gh Gd O O O) O (JLh (BL (decide (a.G4=b.G4))) (Jx O O O) O (JLh (BL (decide (a.G4=b.G4))) (G5 O O) O (Ga (u:=.dptr [G0 a.Tier,U8 a.Half]) [] O O O .sct G (fun hc=>Gb Q2 O O O) ?_)))))))
 refine Ga (u:=G0 a.Tier) [(11,.dptr [G0 a.Tier,U8 a.Half])] O O O .sct ⟨.all id,G⟩ (fun hc=>Gh Gd O O O) ?_
 refine Ga (u:=.dptr [G0 b.Tier,U8 b.Half]) [] O O O .sct G (fun hc=>Gb Q2 O O O) ?_
 refine Ga (u:=G0 b.Tier) [(13,.dptr [G0 b.Tier,U8 b.Half])] O O O .sct ⟨.all id,G⟩ (fun hc=>Gh Gd O O O) ?_
 refine Ga (u:=BL (decide (a.Tier=b.Tier))) [(12,G0 a.Tier),(14,G0 b.Tier)] O O O .sct ⟨.all id,.all id,G⟩ (fun hc=>Jx O O O) ?_
 refine JLh (BL ((decide (a.G4=b.G4))&&(decide (a.Tier=b.Tier)))) (Hx O O O O) O (JLh (BL ((decide (a.G4=b.G4))&&(decide (a.Tier=b.Tier)))) (G5 O O) O (Ga (u:=.dptr [U8 a.Half]) [] O O O .sct G (fun hc=>Gb Jd O O O) ?_))
 refine Ga (u:=U8 a.Half) [(18,.dptr [U8 a.Half])] O O O .sct ⟨.all id,G⟩ (fun hc=>Gh Jn O O O) ?_
 refine Ga (u:=.dptr [U8 b.Half]) [] O O O .sct G (fun hc=>Gb Jd O O O) ?_
 refine Ga (u:=U8 b.Half) [(20,.dptr [U8 b.Half])] O O O .sct ⟨.all id,G⟩ (fun hc=>Gh Jn O O O) ?_
 obtain⟨r3,hr3,h⟩:=Gf h
 refine Ga (u:=BL r3) [(19,U8 a.Half),(21,U8 b.Half)] O O O .sct ⟨.all id,.all id,G⟩ (fun hc=>Gq (args:=[U8 a.Half,U8 b.Half]) O (G66 a.Half b.Half r3 (Gz hc hr3)) J1a ⟨O,O,O,O,G⟩) ?_
 refine JLh (BL (((decide (a.G4=b.G4))&&(decide (a.Tier=b.Tier)))&&r3)) (Hx O O O O) O (JLh (BL (((decide (a.G4=b.G4))&&(decide (a.Tier=b.Tier)))&&r3)) (G9 O O) O (G8 (hK2 _ _ (Gu (⟨[BL (((decide (a.G4=b.G4))&&(decide (a.Tier=b.Tier)))&&r3)],[],G,O,⟨⟨_,O,.conv (.same O)⟩,G⟩,O,congrArg (fun r:Bool=>(BL r:AV)) (Option.some.inj h)⟩)))))

def Qx (boxes:List Gv) (l:List G6) (column:Int) (half:Int):Option Int:=
 each (fun y42 i42 (s42:Int) nx42=>
  jp (fun kj45=>
   bnd (Yc boxes y42.Gv) fun r47=>
   bif (((!r47.2)||(decide (y42.Slot.G4≠column)))||((decide (y42.Slot.Half≠half))&&(decide (y42.Slot.Half≠0)))) then
   (kj45 s42)
   else
   (bif r47.1.High then
    (G32 (s42+2896) fun v51=>
     kj45 v51)
    else
    (G32 (s42+2591) fun v52=>
     kj45 v52))) fun(j45:Int)=>
  nx42 j45)
 (fun(s42:Int)=>
  some s42) l 0 0
theorem G65 (boxes:List Gv) (l:List G6) (column:Int) (half:Int) (r:Int) (h:Qx boxes l column half=some r):Pure Tryz.prog 252 [E2 boxes,E0 l,G0 column,U8 half] (·=G0 r):=by
 unfold Qx at h
 refine H1 [.tmp 8] Tryz.func252 O O (G7 fun K1 hK1=>G2 (JLh (G0 0) (G9 O O) O (G8 (hK1 _ _ (G7 fun K2 hK2=>G2 (JLh (G0 0) (G9 O O) O (G8 (hK2 _ _ (G7 (fun K3 hK3=>G7 fun K4 hK4=>G2 (JLh (G0 0) (G9 O O) O (G8 (hK4 _ _ (Gk ?_))))))))))))))
 obtain⟨b42,kx42,hb42,hkx42,h⟩:=Hw h
 refine Hc (fun i42 (s42:Int)=>each b42 kx42 (List.drop i42 l) i42 s42=some r) (fun i42 s42=>[(0,E2 boxes),(1,E0 l),(2,G0 column),(3,U8 half),(9,G0 s42),(10,En i42)]) (fun i42 s42=>[]) (fun i42=>l.length - i42) 0 0 h ⟨(by repeat' constructor),G,rfl⟩ ?_
 clear h
 intro i42 s42 hi42 K42 e42
 refine G7 (fun K43 hK43=>G7 fun K44 hK44=>G2 (JLh (En i42) (G5 O O) O (JLh (E0 l) (G5 O O) O (H3 (f:=G6.av) (xs:=l) H2 O O (fun hm15=>?_) O O O))))
 refine JLh (BL (decide ((i42:Int) < (l.length:Int)))) (J2 O O O) O (G8 (hK44 _ _ (Gn O (fun hb=>?_) (fun hb=>?_))))
 ·
  have hk42:=Jc hb
  obtain⟨y42,nx42,hy42,hn42,h⟩:=Hn hi42 hk42
  replace h:=Yb hb42 h
  refine Gp (hK43 _ _ ?_)
  obtain⟨kj45,hkj45,h⟩:=G69 h
  refine G33 (fun j45:Int=>kj45 j45=some r) (fun j45=>[(0,E2 boxes),(1,E0 l),(2,G0 column),(3,U8 half),(9,G0 j45),(10,En i42)]) (fun j45=>[]) (fun Kj45 ej45=>?_) ?_
  ·
   refine Gk (G7 fun K46 hK46=>G2 (JLh (E2 boxes) (G5 O O) O (JLh (E0 l) (G5 O O) O (JLh (En i42) (G5 O O) O (JLh (Ef y42) (Gt (f:=G6.av) (xs:=l) (y:=y42) O O O H2 hy42 O) O (JLh (Ef y42) (Gb Jq O O O) O (JLh (G0 y42.Gv) (Gh Gd O O O) O ?_)))))))
   obtain⟨r47,hr47,h⟩:=Gf h
   refine JLh (.tup [.agg (Gv.cs r47.1),BL r47.2]) (Gq (args:=[E2 boxes,G0 y42.Gv]) O (G87 boxes y42.Gv r47 hr47) J21 ⟨O,O,O,O,G⟩) O (JLh (.tup [.agg (Gv.cs r47.1),BL r47.2]) (G5 O O) O (JLh (.agg (Gv.cs r47.1)) (J1 O O O) O (JLh (BL r47.2) (J1 O O O) O (JLh (.ptr 1141 0) (Jb 1141 9 G1f O O) O (J4 (u:=.junk) (Ht (u:=.agg (Gv.cs r47.1)) (ds:=(Gv.cs r47.1)) Zt O O O O O O O O) (JLh (BL r47.2) (G9 O O) O (G8 (hK46 _ _ ?_))))))))
   refine Gx [(0,E2 boxes),(1,E0 l),(2,G0 column),(3,U8 half),(9,G0 s42),(10,En i42),(11,Ei r47.1),(12,BL r47.2)] [] 1141 rfl rfl rfl G rfl (by repeat' (first | exact .ptr | constructor)) (G7 (fun K48 hK48=>G7 fun K49 hK49=>G2 (JLh (BL r47.2) (G5 O O) O (JLh (BL (!r47.2)) (Qv (b:=r47.2) O O) O (JLh (BL (!r47.2)) (G5 O O) O (Ga (u:=E0 l) [] O O O .scf G (fun hc=>G5 O O) ?_))))))
   refine Ga (u:=En i42) [] O O O .scf G (fun hc=>G5 O O) ?_
   refine Ga (u:=Ef y42) [(32,E0 l),(33,En i42)] O O O .scf ⟨.all id,.all id,G⟩ (fun hc=>Gt (f:=G6.av) (xs:=l) (y:=y42) O O O H2 hy42 O) ?_
   refine Ga (u:=Eg y42.Slot) [(34,Ef y42)] O O O .scf ⟨.all id,G⟩ (fun hc=>Gb Hz O O O) ?_
   refine Ga (u:=Eg y42.Slot) [(35,Eg y42.Slot)] O O O .scf ⟨.all id,G⟩ (fun hc=>Gb J0 O O O) ?_
   refine Ga (u:=G0 y42.Slot.G4) [(36,Eg y42.Slot)] O O O .scf ⟨.all id,G⟩ (fun hc=>Gh Gd O O O) ?_
   refine Ga (u:=G0 column) [] O O O .scf G (fun hc=>G5 O O) ?_
   refine Ga (u:=BL (decide (y42.Slot.G4≠column))) [(37,G0 y42.Slot.G4),(38,G0 column)] O O O .scf ⟨.all id,.all id,G⟩ (fun hc=>G5c O O O) ?_
   refine JLh (BL ((!r47.2)||(decide (y42.Slot.G4≠column)))) (Rn O O O O) O (JLh (BL ((!r47.2)||(decide (y42.Slot.G4≠column)))) (G5 O O) O (Ga (u:=E0 l) [] O O O .scf G (fun hc=>G5 O O) ?_))
   refine Ga (u:=En i42) [] O O O .scf G (fun hc=>G5 O O) ?_
   refine Ga (u:=Ef y42) [(42,E0 l),(43,En i42)] O O O .scf ⟨.all id,.all id,G⟩ (fun hc=>Gt (f:=G6.av) (xs:=l) (y:=y42) O O O H2 hy42 O) ?_
   refine Ga (u:=Eg y42.Slot) [(44,Ef y42)] O O O .scf ⟨.all id,G⟩ (fun hc=>Gb Hz O O O) ?_
   refine Ga (u:=.dptr [U8 y42.Slot.Half]) [(45,Eg y42.Slot)] O O O .scf ⟨.all id,G⟩ (fun hc=>Gb Jd O O O) ?_
   refine Ga (u:=U8 y42.Slot.Half) [(46,.dptr [U8 y42.Slot.Half])] O O O .scf ⟨.all id,G⟩ (fun hc=>Gh Jn O O O) ?_
   refine Ga (u:=U8 half) [] O O O .scf G (fun hc=>G5 O O) ?_
   refine Ga (u:=BL (decide (y42.Slot.Half≠half))) [(47,U8 y42.Slot.Half),(48,U8 half)] O O O .scf ⟨.all id,.all id,G⟩ (fun hc=>G5c O O O) ?_
   refine Ga (u:=BL (decide (y42.Slot.Half≠half))) [(49,BL (decide (y42.Slot.Half≠half)))] O O O .scf ⟨.all id,G⟩ (fun hc=>G5 O O) ?_
   refine Ga (u:=E0 l) [] O O O .optt G (fun hc=>G5 O O) ?_
   refine Ga (u:=En i42) [] O O O .optt G (fun hc=>G5 O O) ?_
   refine Ga (u:=Ef y42) [(51,E0 l),(52,En i42)] O O O .optt ⟨.all id,.all id,G⟩ (fun hc=>Gt (f:=G6.av) (xs:=l) (y:=y42) O O O H2 hy42 O) ?_
   refine Ga (u:=Eg y42.Slot) [(53,Ef y42)] O O O .optt ⟨.all id,G⟩ (fun hc=>Gb Hz O O O) ?_
   refine Ga (u:=.dptr [U8 y42.Slot.Half]) [(54,Eg y42.Slot)] O O O .optt ⟨.all id,G⟩ (fun hc=>Gb Jd O O O) ?_
   refine Ga (u:=U8 y42.Slot.Half) [(55,.dptr [U8 y42.Slot.Half])] O O O .optt ⟨.all id,G⟩ (fun hc=>Gh Jn O O O) ?_
   refine Ga (u:=BL (decide (y42.Slot.Half≠0))) [(56,U8 y42.Slot.Half)] O O O .optt ⟨.all id,G⟩ (fun hc=>G5c O O O) ?_
   refine Ga (u:=BL ((decide (y42.Slot.Half≠half))&&(decide (y42.Slot.Half≠0)))) [(50,BL (decide (y42.Slot.Half≠half))),(57,_)] O O O .scf ⟨.all id,.part,G⟩ (fun hc=>Hx O O O O) ?_
   refine JLh (BL (((!r47.2)||(decide (y42.Slot.G4≠column)))||((decide (y42.Slot.Half≠half))&&(decide (y42.Slot.Half≠0))))) (Rn O O O O) O (G8 (hK49 _ _ (Gn O (fun hb=>?_) (fun hb=>?_))))
   ·
    replace h:=Gz hb h
    refine Hk (ej45 _ _ s42 h ⟨(by repeat' constructor),G,rfl⟩)
   ·
    replace h:=Hv hb h
    refine Gp (hK48 _ _ (G7 fun K50 hK50=>G2 (JLh (.dptr ((Gv.cs r47.1).drop 3)) (Gb Ge3 O O O) O (JLh (BL r47.1.High) (Gh Rq O O O) O (G8 (hK50 _ _ (Gn O (fun hb=>?_) (fun hb=>?_))))))))
    ·
     replace h:=Gz hb h
     refine G2 (JLh (G0 s42) (G5 O O) O ?_)
     obtain⟨v51,hv51,h⟩:=Qw h
     refine JLh (G0 v51) (Hy hv51 O O O) O (JLh (G0 v51) (G9 O O) O (G8 (ej45 _ _ v51 h ⟨(by repeat' constructor),G,rfl⟩)))
    ·
     replace h:=Hv hb h
     refine G2 (JLh (G0 s42) (G5 O O) O ?_)
     obtain⟨v52,hv52,h⟩:=Qw h
     refine JLh (G0 v52) (Hy hv52 O O O) O (JLh (G0 v52) (G9 O O) O (G8 (ej45 _ _ v52 h ⟨(by repeat' constructor),G,rfl⟩)))
  ·intro j45 h
   replace h:=app1 hkj45 h
   refine G2 (JLh (En i42) (G5 O O) O (JLh (G0 ((i42+1:Nat):Int)) (Hy (He hk42 hm15) O O O) O (JLh (G0 ((i42+1:Nat):Int)) (G9 O O) O (G8 (e42 _ _ (i42+1) j45 (app1 hn42 h) (by omega) ⟨(by repeat' constructor),G,rfl⟩)))))
 ·
  have h:=app1 hkx42 (Ho hi42 (H9 hb))
  refine Hk (hK3 _ _ (G7 fun K53 hK53=>G2 (JLh (G0 s42) (G5 O O) O (JLh (G0 s42) (G9 O O) O (G8 (hK53 _ _ (Gu (⟨[G0 s42],[],G,O,⟨⟨_,O,.conv (.same O)⟩,G⟩,O,congrArg (fun r:Int=>(G0 r:AV)) (Option.some.inj h)⟩))))))))

def Zg (s:Hb) (boxes:List Gv) (l:List G6) (c:Int):Option Bool:=
 Q3 s.Columns c fun y4=>
 bif decide (y4.Height=0) then
 (some false)
 else
 (bnd (Qx boxes l c 1) fun r8=>
  Q3 s.Columns c fun y9=>
  bnd (bif (!(decide (y9.Height < r8))) then Qx boxes l c 2 else some default) fun r11=>
  bnd (bif (!(decide (y9.Height < r8))) then Q3 s.Columns c some else some default) fun y12=>
  some ((decide (y9.Height < r8))||(decide (y12.Height < r11))))
theorem H36 (s:Hb) (boxes:List Gv) (l:List G6) (c:Int) (r:Bool) (h:Zg s boxes l c=some r):Pure Tryz.prog 165 [.agg (Hb.cs s),E2 boxes,E0 l,G0 c] (·=BL r):=by
 unfold Zg at h
 refine H1 [.tmp 8] Tryz.func165 O O (G7 fun K1 hK1=>G2 (JLh (.ptr 1110 0) (Jy (u:=.agg (Hb.cs s)) (cs:=(Hb.cs s)) 1110 O O O O O) O (JLh (BL false) (G9 O O) O (G8 (hK1 _ _ ?_)))))
 refine Gx [(1,E2 boxes),(2,E0 l),(3,G0 c),(4,Ee s)] [] 1110 rfl rfl rfl G rfl (by repeat' (first | exact .ptr | constructor)) (G7 (fun K2 hK2=>?_))
 refine G7 fun K3 hK3=>G2 (JLh (Ee s) (Gb Hi O O O) O (JLh (E3 s.Columns) (Gh Hq O O O) O (JLh (G0 c) (G5 O O) O ?_)))
 obtain⟨m5,y4,hm5,hy4,h⟩:=Y3 h
 refine JLh (Eh y4) (Gt (f:=G4.av) (xs:=s.Columns) (y:=y4) O O O H7 hy4 hm5) O (JLh (.dptr ((G4.cs y4).drop 4)) (Gb Zu O O O) O (JLh (G0 y4.Height) (Gh Gd O O O) O (JLh (BL (decide (y4.Height=0))) (Jx O O O) O (G8 (hK3 _ _ (Gn O (fun hb=>?_) (fun hb=>?_)))))))
 ·
  replace h:=Gz hb h
  refine G7 fun K6 hK6=>G2 (JLh (BL false) (G9 O O) O (G8 (hK6 _ _ (Gu (⟨[BL false],[],G,O,⟨⟨_,O,.conv (.same O)⟩,G⟩,O,congrArg (fun r:Bool=>(BL r:AV)) (Option.some.inj h)⟩)))))
 ·
  replace h:=Hv hb h
  refine Gp (hK2 _ _ (G7 (fun K7 hK7=>?_)))
  obtain⟨r8,hr8,h⟩:=Gf h
  obtain⟨m10,y9,hm10,hy9,h⟩:=Y3 h
  obtain⟨r11,hr11,h⟩:=Gf h
  obtain⟨y12,hy12,h⟩:=Gf h
  refine Q6 [] [0,0,0,0,0,0,0,0,0,0,0,0,0,0,0,0,0,0,0,0,0,0,0,0,0] [0,0,0,0,0,0,0,0,0,0,0,0,0,0,0,0,0,0,0,0,0,0,0,0,0] [[]] Jk (by kernel_rfl) rfl rfl ?_
  refine Gc (u:=E2 boxes) O O ⟨Gw (G5 O O) O,G⟩ (Gc (u:=E0 l) O O ⟨Gw (G5 O O) O,G⟩ (Gc (u:=G0 c) O O ⟨Gw (G5 O O) O,G⟩ (Gc (u:=G0 r8) O O ⟨Gw (Gq (args:=[E2 boxes,E0 l,G0 c,U8 1]) O (G65 boxes l c 1 r8 hr8) J19 ⟨O,O,O,O,O,O,O,O,G⟩) O,G⟩ (Gc (u:=Ee s) O O ⟨Gw (Gb Hi O O O) O,G⟩ (Gc (u:=E3 s.Columns) O O ⟨Gw (Gh Hq O O O) O,G⟩ (Gc (u:=G0 c) O O ⟨Gw (G5 O O) O,G⟩ (Gc (u:=Eh y9) O O ⟨Gw (Gt (f:=G4.av) (xs:=s.Columns) (y:=y9) O O O H7 hy9 hm10) O,G⟩ (Gc (u:=.dptr ((G4.cs y9).drop 4)) O O ⟨Gw (Gb Zu O O O) O,G⟩ (Gc (u:=G0 y9.Height) O O ⟨Gw (Gh Gd O O O) O,G⟩ (Gc (u:=BL (decide (y9.Height < r8))) O O ⟨Gw (G31 O O O) O,G⟩ (Gc (u:=BL (decide (y9.Height < r8))) O O ⟨Gw (G5 O O) O,G⟩ (Gc (u:=.opt (!(decide (y9.Height < r8))) (E2 boxes)) O O ⟨Ge [] O O O .scf G (fun hc=>G5 O O) O,G⟩ (Gc (u:=.opt (!(decide (y9.Height < r8))) (E0 l)) O O ⟨Ge [] O O O .scf G (fun hc=>G5 O O) O,G⟩ ?_)))))))))))))
  refine Gc (u:=.opt (!(decide (y9.Height < r8))) (G0 c)) O O ⟨Ge [] O O O .scf G (fun hc=>G5 O O) O,G⟩ (Gc (u:=.opt (!(decide (y9.Height < r8))) (G0 r11)) O O ⟨Ge [(28,E2 boxes),(29,E0 l),(30,G0 c)] O O O .scf ⟨.all id,.all id,.all id,G⟩ (fun hc=>Gq (args:=[E2 boxes,E0 l,G0 c,U8 2]) O (G65 boxes l c 2 r11 (Gz hc hr11)) J19 ⟨O,O,O,O,O,O,O,O,G⟩) O,G⟩ (Gc (u:=.opt (!(decide (y9.Height < r8))) (Ee s)) O O ⟨Ge [] O O O .scf G (fun hc=>Gb Hi O O O) O,G⟩ (Gc (u:=.opt (!(decide (y9.Height < r8))) (E3 s.Columns)) O O ⟨Ge [(32,Ee s)] O O O .scf ⟨.all id,G⟩ (fun hc=>Gh Hq O O O) O,G⟩ (Gc (u:=.opt (!(decide (y9.Height < r8))) (G0 c)) O O ⟨Ge [] O O O .scf G (fun hc=>G5 O O) O,G⟩ (Gc (u:=.opt (!(decide (y9.Height < r8))) (Eh y12)) O O ⟨Ge [(33,E3 s.Columns),(34,G0 c)] O O O .scf ⟨.all id,.all id,G⟩ (fun hc=>(match Jf (Gz hc hy12) with | ⟨_,hm_,hy_⟩=>Gt (f:=G4.av) (xs:=s.Columns) (y:=y12) O O O H7 hy_ hm_)) O,G⟩ (Gc (u:=.opt (!(decide (y9.Height < r8))) (.dptr ((G4.cs y12).drop 4))) O O ⟨Ge [(35,Eh y12)] O O O .scf ⟨.all id,G⟩ (fun hc=>Gb Zu O O O) O,G⟩ (Gc (u:=.opt (!(decide (y9.Height < r8))) (G0 y12.Height)) O O ⟨Ge [(36,.dptr ((G4.cs y12).drop 4))] O O O .scf ⟨.all id,G⟩ (fun hc=>Gh Gd O O O) O,G⟩ (Gc (u:=.opt (!(decide (y9.Height < r8))) (BL (decide (y12.Height < r11)))) O O ⟨Ge [(31,G0 r11),(37,G0 y12.Height)] O O O .scf ⟨.all id,.all id,G⟩ (fun hc=>G31 O O O) O,G⟩ (Gc (u:=BL ((decide (y9.Height < r8))||(decide (y12.Height < r11)))) O O ⟨Gw (Rn O O O O) O,G⟩ (Gc (u:=BL ((decide (y9.Height < r8))||(decide (y12.Height < r11)))) O O ⟨Gw (G9 O O) O,G⟩ (Yz ?_)))))))))))
  refine hK7 _ _ (Gu (⟨[BL ((decide (y9.Height < r8))||(decide (y12.Height < r11)))],[],G,O,⟨⟨_,O,.conv (.same O)⟩,G⟩,O,congrArg (fun r:Bool=>(BL r:AV)) (Option.some.inj h)⟩))

def Y1 (F:Nat) (s:Hb) (boxes:List Gv) (l:List G6):Option Bool:=
 bnd (Z9 F s) fun r4=>
 bif (!r4) then
 (some false)
 else
 (each (fun y8 i8 (s8:Unit) nx8=>
   bnd (Yc boxes y8.Gv) fun r13=>
   bnd (bif (!(!r13.2)) then G32 (r13.1.Size) some else some 0) fun v16=>
   bnd (bif (!(!r13.2)) then Z8 s y8.Slot v16 else some default) fun r17=>
   bnd (bif (!((!r13.2)||(!r17))) then Z7 l else some default) fun r18=>
   bnd (bif (!((!r13.2)||(!r17))) then Zj y8.Slot r18 else some default) fun r19=>
   bif (((!r13.2)||(!r17))||(!r19)) then
   (some false)
   else
   (need (decide ((i8:Int)≤9223372036854775807)) <|
    upto (fun i39 (s39:Unit) nx39=>
     Q3 l (i39:Int) fun y44=>
     bnd (bif (!(decide (y8.Gv≤y44.Gv))) then Q3 l (i39:Int) some else some default) fun y46=>
     bnd (bif (!(decide (y8.Gv≤y44.Gv))) then Zi y46.Slot y8.Slot else some default) fun r47=>
     bif ((decide (y8.Gv≤y44.Gv))||r47) then
     (some false)
     else
     (nx39 ()))
    (fun(s39:Unit)=>
     nx8 ()) (i8:Int).toNat 0 ()))
  (fun(s8:Unit)=>
   each (fun y62 i62 (s62:Unit) nx62=>
    bnd (Zg s boxes l (i62:Int)) fun r67=>
    bif r67 then
    (some false)
    else
    (nx62 ()))
   (fun(s62:Unit)=>
    some true) s.Columns 0 ()) l 0 ())
theorem G70 (F:Nat) (s:Hb) (boxes:List Gv) (l:List G6) (r:Bool) (h:Y1 F s boxes l=some r):Pure Tryz.prog 76 [.agg (Hb.cs s),E2 boxes,E0 l] (·=BL r):=by
 unfold Y1 at h
 refine H1 [.tmp 6] Tryz.func76 O O (G7 fun K1 hK1=>G2 (JLh (.ptr 1055 0) (Jy (u:=.agg (Hb.cs s)) (cs:=(Hb.cs s)) 1055 O O O O O) O (JLh (BL false) (G9 O O) O (G8 (hK1 _ _ ?_)))))
 refine Gx [(1,E2 boxes),(2,E0 l),(3,Ee s)] [] 1055 rfl rfl rfl G rfl (by exact⟨.conv (.same rfl),.conv (.same rfl),.ptr,G⟩) (G7 (fun K2 hK2=>G7 fun K3 hK3=>G2 (JLh (.agg (Hb.cs s)) (Gj J8 O O O) O ?_)))
 obtain⟨r4,hr4,h⟩:=Gf h
 refine JLh (BL r4) (Gq (args:=[.agg (Hb.cs s)]) O (H28 F s r4 hr4) Q01 ⟨O,O,G⟩) O (JLh (BL (!r4)) (Qv (b:=r4) O O) O (G8 (hK3 _ _ (Gn O (fun hb=>?_) (fun hb=>?_)))))
 ·
  replace h:=Gz hb h
  refine G7 fun K5 hK5=>G2 (JLh (BL false) (G9 O O) O (G8 (hK5 _ _ (Gu (⟨[BL false],[],G,O,⟨⟨_,O,.conv (.same O)⟩,G⟩,O,congrArg (fun r:Bool=>(BL r:AV)) (Option.some.inj h)⟩)))))
 ·
  replace h:=Hv hb h
  refine Gp (hK2 _ _ (G7 (fun K6 hK6=>G7 fun K7 hK7=>G2 (JLh (G0 0) (G9 O O) O (G8 (hK7 _ _ (Gk ?_)))))))
  obtain⟨b8,kx8,hb8,hkx8,h⟩:=Hw h
  refine Hc (fun i8 (s8:Unit)=>each b8 kx8 (List.drop i8 l) i8 s8=some r) (fun i8 s8=>[(1,E2 boxes),(2,E0 l),(3,Ee s),(7,En i8)]) (fun i8 s8=>[]) (fun i8=>l.length - i8) 0 () h ⟨(by repeat' constructor),G,rfl⟩ ?_
  clear h
  intro i8 s8 hi8 K8 e8
  refine G7 (fun K9 hK9=>G7 fun K10 hK10=>G2 (JLh (En i8) (G5 O O) O (JLh (E0 l) (G5 O O) O (H3 (f:=G6.av) (xs:=l) H2 O O (fun hm17=>?_) O O O))))
  refine JLh (BL (decide ((i8:Int) < (l.length:Int)))) (J2 O O O) O (G8 (hK10 _ _ (Gn O (fun hb=>?_) (fun hb=>?_))))
  ·
   have hk8:=Jc hb
   obtain⟨y8,nx8,hy8,hn8,h⟩:=Hn hi8 hk8
   replace h:=Yb hb8 h
   refine Gp (hK9 _ _ (G7 (fun K11 hK11=>Gk (G7 fun K12 hK12=>G2 (JLh (E2 boxes) (G5 O O) O (JLh (E0 l) (G5 O O) O (JLh (En i8) (G5 O O) O (JLh (Ef y8) (Gt (f:=G6.av) (xs:=l) (y:=y8) O O O H2 hy8 O) O (JLh (Ef y8) (Gb Jq O O O) O (JLh (G0 y8.Gv) (Gh Gd O O O) O ?_))))))))))
   obtain⟨r13,hr13,h⟩:=Gf h
   refine JLh (.tup [.agg (Gv.cs r13.1),BL r13.2]) (Gq (args:=[E2 boxes,G0 y8.Gv]) O (G87 boxes y8.Gv r13 hr13) J21 ⟨O,O,O,O,G⟩) O (JLh (.tup [.agg (Gv.cs r13.1),BL r13.2]) (G5 O O) O (JLh (.agg (Gv.cs r13.1)) (J1 O O O) O (JLh (BL r13.2) (J1 O O O) O (JLh (.ptr 1056 0) (Jb 1056 9 G1f O O) O (J4 (u:=.junk) (Ht (u:=.agg (Gv.cs r13.1)) (ds:=(Gv.cs r13.1)) Zt O O O O O O O O) (JLh (BL r13.2) (G9 O O) O (G8 (hK12 _ _ ?_))))))))
   refine Gx [(1,E2 boxes),(2,E0 l),(3,Ee s),(7,En i8),(8,Ei r13.1),(9,BL r13.2)] [] 1056 rfl rfl rfl G rfl (by repeat' (first | exact .ptr | constructor)) (G7 (fun K14 hK14=>G7 (fun K15 hK15=>?_)))
   obtain⟨v16,hv16,h⟩:=Gf h
   obtain⟨r17,hr17,h⟩:=Gf h
   obtain⟨r18,hr18,h⟩:=Gf h
   obtain⟨r19,hr19,h⟩:=Gf h
   refine Q6 [] [0,0,0,0,0,0,0,0,0,0,0,0,0,0,0,0,0,0,0,0,0,0,0,0,0,0] [0,0,0,0,0,0,0,0,0,0,0,0,0,0,0,0,0,0,0,0,0,0,0,0,0,0] [[]] Jk (by kernel_rfl) rfl rfl ?_
   refine Gc (u:=BL r13.2) O O ⟨Gw (G5 O O) O,G⟩ (Gc (u:=BL (!r13.2)) O O ⟨Gw (Qv (b:=r13.2) O O) O,G⟩ (Gc (u:=BL (!r13.2)) O O ⟨Gw (G5 O O) O,G⟩ (Gc (u:=.opt (!(!r13.2)) (.agg (Hb.cs s))) O O ⟨Ge [] O O O .scf G (fun hc=>Gj J8 O O O) O,G⟩ (Gc (u:=.opt (!(!r13.2)) (E0 l)) O O ⟨Ge [] O O O .scf G (fun hc=>G5 O O) O,G⟩ (Gc (u:=.opt (!(!r13.2)) (En i8)) O O ⟨Ge [] O O O .scf G (fun hc=>G5 O O) O,G⟩ (Gc (u:=.opt (!(!r13.2)) (Ef y8)) O O ⟨Ge [(35,E0 l),(36,En i8)] O O O .scf ⟨.all id,.all id,G⟩ (fun hc=>Gt (f:=G6.av) (xs:=l) (y:=y8) O O O H2 hy8 O) O,G⟩ (Gc (u:=.opt (!(!r13.2)) (Eg y8.Slot)) O O ⟨Ge [(37,Ef y8)] O O O .scf ⟨.all id,G⟩ (fun hc=>Gb Hz O O O) O,G⟩ (Gc (u:=.opt (!(!r13.2)) (.agg (Slot.cs y8.Slot))) O O ⟨Ge [(38,Eg y8.Slot)] O O O .scf ⟨.all id,G⟩ (fun hc=>Gj Jh O O O) O,G⟩ (Gc (u:=.opt (!(!r13.2)) (.dptr ((Gv.cs r13.1).drop 2))) O O ⟨Ge [] O O O .scf G (fun hc=>Gb G8f O O O) O,G⟩ (Gc (u:=.opt (!(!r13.2)) (U8 r13.1.Size)) O O ⟨Ge [(40,.dptr ((Gv.cs r13.1).drop 2))] O O O .scf ⟨.all id,G⟩ (fun hc=>Gh Jn O O O) O,G⟩ (Gc (u:=.opt (!(!r13.2)) (G0 v16)) O O ⟨Ge [(41,U8 r13.1.Size)] O O O .scf ⟨.all id,G⟩ (fun hc=>A_conv tf_int_3 tf_int_5 (G04 (Gz hc hv16)) O O) O,G⟩ (Gc (u:=.opt (!(!r13.2)) (BL r17)) O O ⟨Ge [(34,.agg (Hb.cs s)),(39,.agg (Slot.cs y8.Slot)),(42,G0 v16)] O O O .scf ⟨.all id,.all id,.all id,G⟩ (fun hc=>Gq (args:=[.agg (Hb.cs s),.agg (Slot.cs y8.Slot),G0 v16]) O (H27 s y8.Slot v16 r17 (Gz hc hr17)) Jda ⟨O,O,O,O,O,O,G⟩) O,G⟩ (Gc (u:=.opt (!(!r13.2)) (BL (!r17))) O O ⟨Ge [(43,BL r17)] O O O .scf ⟨.all id,G⟩ (fun hc=>Qv (b:=r17) O O) O,G⟩ ?_)))))))))))))
   refine Gc (u:=BL ((!r13.2)||(!r17))) O O ⟨Gw (Rn O O O O) O,G⟩ (Gc (u:=BL ((!r13.2)||(!r17))) O O ⟨Gw (G5 O O) O,G⟩ (Gc (u:=.opt (!((!r13.2)||(!r17))) (E0 l)) O O ⟨Ge [] O O O .scf G (fun hc=>G5 O O) O,G⟩ (Gc (u:=.opt (!((!r13.2)||(!r17))) (En i8)) O O ⟨Ge [] O O O .scf G (fun hc=>G5 O O) O,G⟩ (Gc (u:=.opt (!((!r13.2)||(!r17))) (Ef y8)) O O ⟨Ge [(47,E0 l),(48,En i8)] O O O .scf ⟨.all id,.all id,G⟩ (fun hc=>Gt (f:=G6.av) (xs:=l) (y:=y8) O O O H2 hy8 O) O,G⟩ (Gc (u:=.opt (!((!r13.2)||(!r17))) (Eg y8.Slot)) O O ⟨Ge [(49,Ef y8)] O O O .scf ⟨.all id,G⟩ (fun hc=>Gb Hz O O O) O,G⟩ (Gc (u:=.opt (!((!r13.2)||(!r17))) (.agg (Slot.cs y8.Slot))) O O ⟨Ge [(50,Eg y8.Slot)] O O O .scf ⟨.all id,G⟩ (fun hc=>Gj Jh O O O) O,G⟩ (Gc (u:=.opt (!((!r13.2)||(!r17))) (E0 l)) O O ⟨Ge [] O O O .scf G (fun hc=>G5 O O) O,G⟩ (Gc (u:=.opt (!((!r13.2)||(!r17))) (E8 r18)) O O ⟨Ge [(52,E0 l)] O O O .scf ⟨.all id,G⟩ (fun hc=>Gq (args:=[E0 l]) O (H26 l r18 (Gz hc hr18)) Jd8 ⟨O,O,G⟩) O,G⟩ (Gc (u:=.opt (!((!r13.2)||(!r17))) (BL r19)) O O ⟨Ge [(51,.agg (Slot.cs y8.Slot)),(53,E8 r18)] O O O .scf ⟨.all id,.all id,G⟩ (fun hc=>Gq (args:=[.agg (Slot.cs y8.Slot),E8 r18]) O (H39 y8.Slot r18 r19 (Gz hc hr19)) Jd9 ⟨O,O,O,O,G⟩) O,G⟩ (Gc (u:=.opt (!((!r13.2)||(!r17))) (BL (!r19))) O O ⟨Ge [(54,BL r19)] O O O .scf ⟨.all id,G⟩ (fun hc=>Qv (b:=r19) O O) O,G⟩ (Gc (u:=BL (((!r13.2)||(!r17))||(!r19))) O O ⟨Gw (Rn O O O O) O,G⟩ (Yz ?_))))))))))))
   refine hK15 _ _ (Gn O (fun hb=>?_) (fun hb=>?_))
   ·
    replace h:=Gz hb h
    refine G7 fun K20 hK20=>G2 (JLh (BL false) (G9 O O) O (G8 (hK20 _ _ (Gu (⟨[BL false],[],G,O,⟨⟨_,O,.conv (.same O)⟩,G⟩,O,congrArg (fun r:Bool=>(BL r:AV)) (Option.some.inj h)⟩)))))
   ·
    replace h:=Hv hb h
    refine Gp (hK14 _ _ (G7 fun K21 hK21=>G2 (JLh (G0 0) (G9 O O) O (G8 (hK21 _ _ (Gk ?_))))))
    obtain⟨hx39,h⟩:=J6 h
    obtain⟨b39,kx39,hb39,hkx39,h⟩:=G5d h
    refine Hc (fun i39 (s39:Unit)=>upto b39 kx39 ((i8:Int).toNat - i39) i39 s39=some r) (fun i39 s39=>[(1,E2 boxes),(2,E0 l),(3,Ee s),(7,En i8),(10,En i39)]) (fun i39 s39=>[]) (fun i39=>(i8:Int).toNat - i39) 0 () h ⟨(by repeat' constructor),G,rfl⟩ ?_
    clear h
    intro i39 s39 hi39 K39 e39
    refine G7 (fun K40 hK40=>G7 fun K41 hK41=>G2 (JLh (En i39) (G5 O O) O (JLh (En i8) (G5 O O) O (JLh (BL (decide ((i39:Int) < (i8:Int)))) (J2 O O O) O (G8 (hK41 _ _ (Gn O (fun hb=>?_) (fun hb=>?_))))))))
    ·
     have hk39:=G37 hb
     obtain⟨nx39,hn39,h⟩:=G34 hi39 hk39
     replace h:=Heb hb39 h
     refine Gp (hK40 _ _ (G7 (fun K42 hK42=>Gk (G7 (fun K43 hK43=>?_)))))
     obtain⟨m45,y44,hm45,hy44,h⟩:=Y3 h
     obtain⟨y46,hy46,h⟩:=Gf h
     obtain⟨r47,hr47,h⟩:=Gf h
     refine Q6 [] [0,0,0,0,0,0,0,0,0,0,0,0,0,0,0,0,0,0,0,0,0,0,0,0] [0,0,0,0,0,0,0,0,0,0,0,0,0,0,0,0,0,0,0,0,0,0,0,0] [[]] Jk (by kernel_rfl) rfl rfl ?_
     refine Gc (u:=E0 l) O O ⟨Gw (G5 O O) O,G⟩ (Gc (u:=En i39) O O ⟨Gw (G5 O O) O,G⟩ (Gc (u:=Ef y44) O O ⟨Gw (Gt (f:=G6.av) (xs:=l) (y:=y44) O O O H2 hy44 hm45) O,G⟩ (Gc (u:=Ef y44) O O ⟨Gw (Gb Jq O O O) O,G⟩ (Gc (u:=G0 y44.Gv) O O ⟨Gw (Gh Gd O O O) O,G⟩ (Gc (u:=E0 l) O O ⟨Gw (G5 O O) O,G⟩ (Gc (u:=En i8) O O ⟨Gw (G5 O O) O,G⟩ (Gc (u:=Ef y8) O O ⟨Gw (Gt (f:=G6.av) (xs:=l) (y:=y8) O O O H2 hy8 O) O,G⟩ (Gc (u:=Ef y8) O O ⟨Gw (Gb Jq O O O) O,G⟩ (Gc (u:=G0 y8.Gv) O O ⟨Gw (Gh Gd O O O) O,G⟩ (Gc (u:=BL (decide (y8.Gv≤y44.Gv))) O O ⟨Gw (G29 O O O) O,G⟩ (Gc (u:=BL (decide (y8.Gv≤y44.Gv))) O O ⟨Gw (G5 O O) O,G⟩ (Gc (u:=.opt (!(decide (y8.Gv≤y44.Gv))) (E0 l)) O O ⟨Ge [] O O O .scf G (fun hc=>G5 O O) O,G⟩ (Gc (u:=.opt (!(decide (y8.Gv≤y44.Gv))) (En i39)) O O ⟨Ge [] O O O .scf G (fun hc=>G5 O O) O,G⟩ ?_)))))))))))))
     refine Gc (u:=.opt (!(decide (y8.Gv≤y44.Gv))) (Ef y46)) O O ⟨Ge [(74,E0 l),(75,En i39)] O O O .scf ⟨.all id,.all id,G⟩ (fun hc=>(match Jf (Gz hc hy46) with | ⟨_,hm_,hy_⟩=>Gt (f:=G6.av) (xs:=l) (y:=y46) O O O H2 hy_ hm_)) O,G⟩ (Gc (u:=.opt (!(decide (y8.Gv≤y44.Gv))) (Eg y46.Slot)) O O ⟨Ge [(76,Ef y46)] O O O .scf ⟨.all id,G⟩ (fun hc=>Gb Hz O O O) O,G⟩ (Gc (u:=.opt (!(decide (y8.Gv≤y44.Gv))) (.agg (Slot.cs y46.Slot))) O O ⟨Ge [(77,Eg y46.Slot)] O O O .scf ⟨.all id,G⟩ (fun hc=>Gj Jh O O O) O,G⟩ (Gc (u:=.opt (!(decide (y8.Gv≤y44.Gv))) (E0 l)) O O ⟨Ge [] O O O .scf G (fun hc=>G5 O O) O,G⟩ (Gc (u:=.opt (!(decide (y8.Gv≤y44.Gv))) (En i8)) O O ⟨Ge [] O O O .scf G (fun hc=>G5 O O) O,G⟩ (Gc (u:=.opt (!(decide (y8.Gv≤y44.Gv))) (Ef y8)) O O ⟨Ge [(79,E0 l),(80,En i8)] O O O .scf ⟨.all id,.all id,G⟩ (fun hc=>Gt (f:=G6.av) (xs:=l) (y:=y8) O O O H2 hy8 O) O,G⟩ (Gc (u:=.opt (!(decide (y8.Gv≤y44.Gv))) (Eg y8.Slot)) O O ⟨Ge [(81,Ef y8)] O O O .scf ⟨.all id,G⟩ (fun hc=>Gb Hz O O O) O,G⟩ (Gc (u:=.opt (!(decide (y8.Gv≤y44.Gv))) (.agg (Slot.cs y8.Slot))) O O ⟨Ge [(82,Eg y8.Slot)] O O O .scf ⟨.all id,G⟩ (fun hc=>Gj Jh O O O) O,G⟩ (Gc (u:=.opt (!(decide (y8.Gv≤y44.Gv))) (BL r47)) O O ⟨Ge [(78,.agg (Slot.cs y46.Slot)),(83,.agg (Slot.cs y8.Slot))] O O O .scf ⟨.all id,.all id,G⟩ (fun hc=>Gq (args:=[.agg (Slot.cs y46.Slot),.agg (Slot.cs y8.Slot)]) O (H38 y46.Slot y8.Slot r47 (Gz hc hr47)) Jd7 ⟨O,O,O,O,G⟩) O,G⟩ (Gc (u:=BL ((decide (y8.Gv≤y44.Gv))||r47)) O O ⟨Gw (Rn O O O O) O,G⟩ (Yz ?_))))))))))
     refine hK43 _ _ (Gn O (fun hb=>?_) (fun hb=>?_))
     ·
      replace h:=Gz hb h
      refine G7 fun K48 hK48=>G2 (JLh (BL false) (G9 O O) O (G8 (hK48 _ _ (Gu (⟨[BL false],[],G,O,⟨⟨_,O,.conv (.same O)⟩,G⟩,O,congrArg (fun r:Bool=>(BL r:AV)) (Option.some.inj h)⟩)))))
     ·
      replace h:=Hv hb h
      refine Gp (hK42 _ _ (G2 (JLh (En i39) (G5 O O) O (JLh (G0 ((i39+1:Nat):Int)) (Hy (He hk39 (G11 hx39)) O O O) O (JLh (G0 ((i39+1:Nat):Int)) (G9 O O) O (G8 (e39 _ _ (i39+1) () (app1 hn39 h) (by omega) ⟨(by repeat' constructor),G,rfl⟩)))))))
    ·
     have h:=app1 hkx39 (G35 hi39 (Ry hb))
     refine Hk (hK11 _ _ (G2 (JLh (En i8) (G5 O O) O (JLh (G0 ((i8+1:Nat):Int)) (Hy (He hk8 hm17) O O O) O (JLh (G0 ((i8+1:Nat):Int)) (G9 O O) O (G8 (e8 _ _ (i8+1) () (app1 hn8 h) (by omega) ⟨(by repeat' constructor),G,rfl⟩)))))))
  ·
   have h:=app1 hkx8 (Ho hi8 (H9 hb))
   refine Hk (hK6 _ _ (G7 (fun K49 hK49=>G7 fun K50 hK50=>G2 (JLh (G0 0) (G9 O O) O (G8 (hK50 _ _ (Gk ?_)))))))
   obtain⟨b62,kx62,hb62,hkx62,h⟩:=Hw h
   refine Hc (fun i62 (s62:Unit)=>each b62 kx62 (List.drop i62 s.Columns) i62 s62=some r) (fun i62 s62=>[(1,E2 boxes),(2,E0 l),(3,Ee s),(11,En i62)]) (fun i62 s62=>[]) (fun i62=>s.Columns.length - i62) 0 () h ⟨(by repeat' constructor),G,rfl⟩ ?_
   clear h
   intro i62 s62 hi62 K62 e62
   refine G7 (fun K63 hK63=>G7 fun K64 hK64=>G2 (JLh (En i62) (G5 O O) O (JLh (Ee s) (Gb Hi O O O) O (JLh (E3 s.Columns) (Gh Hq O O O) O (H3 (f:=G4.av) (xs:=s.Columns) H7 O O (fun hm89=>?_) O O O)))))
   refine JLh (BL (decide ((i62:Int) < (s.Columns.length:Int)))) (J2 O O O) O (G8 (hK64 _ _ (Gn O (fun hb=>?_) (fun hb=>?_))))
   ·
    have hk62:=Jc hb
    obtain⟨y62,nx62,hy62,hn62,h⟩:=Hn hi62 hk62
    replace h:=Yb hb62 h
    refine Gp (hK63 _ _ (G7 (fun K65 hK65=>Gk (G7 fun K66 hK66=>G2 (JLh (.agg (Hb.cs s)) (Gj J8 O O O) O (JLh (E2 boxes) (G5 O O) O (JLh (E0 l) (G5 O O) O (JLh (En i62) (G5 O O) O ?_))))))))
    obtain⟨r67,hr67,h⟩:=Gf h
    refine JLh (BL r67) (Gq (args:=[.agg (Hb.cs s),E2 boxes,E0 l,En i62]) O (H36 s boxes l (i62:Int) r67 hr67) Jd6 ⟨O,O,O,O,O,O,O,O,G⟩) O (G8 (hK66 _ _ (Gn O (fun hb=>?_) (fun hb=>?_))))
    ·
     replace h:=Gz hb h
     refine G7 fun K68 hK68=>G2 (JLh (BL false) (G9 O O) O (G8 (hK68 _ _ (Gu (⟨[BL false],[],G,O,⟨⟨_,O,.conv (.same O)⟩,G⟩,O,congrArg (fun r:Bool=>(BL r:AV)) (Option.some.inj h)⟩)))))
    ·
     replace h:=Hv hb h
     refine Gp (hK65 _ _ (G2 (JLh (En i62) (G5 O O) O (JLh (G0 ((i62+1:Nat):Int)) (Hy (He hk62 hm89) O O O) O (JLh (G0 ((i62+1:Nat):Int)) (G9 O O) O (G8 (e62 _ _ (i62+1) () (app1 hn62 h) (by omega) ⟨(by repeat' constructor),G,rfl⟩)))))))
   ·
    have h:=app1 hkx62 (Ho hi62 (H9 hb))
    refine Hk (hK49 _ _ (G7 fun K69 hK69=>G2 (JLh (BL true) (G9 O O) O (G8 (hK69 _ _ (Gu (⟨[BL true],[],G,O,⟨⟨_,O,.conv (.same O)⟩,G⟩,O,congrArg (fun r:Bool=>(BL r:AV)) (Option.some.inj h)⟩)))))))

def Ja (l:List G6) (id_:Int):Option Int:=
 each (fun y17 i17 (s17:Unit) nx17=>
  bif decide (y17.Gv=id_) then
  (some (i17:Int))
  else
  (nx17 ()))
 (fun(s17:Unit)=>
  some (-1)) l 0 ()
theorem Ri (l:List G6) (id_:Int) (r:Int) (h:Ja l id_=some r):Pure Tryz.prog 77 [E0 l,G0 id_] (·=G0 r):=by
 unfold Ja at h
 refine H1 [.tmp 4] Tryz.func77 O O (G7 fun K1 hK1=>G2 (JLh (G0 0) (G9 O O) O (G8 (hK1 _ _ (G7 (fun K2 hK2=>G7 fun K3 hK3=>G2 (JLh (G0 0) (G9 O O) O (G8 (hK3 _ _ (Gk ?_))))))))))
 obtain⟨b17,kx17,hb17,hkx17,h⟩:=Hw h
 refine Hc (fun i17 (s17:Unit)=>each b17 kx17 (List.drop i17 l) i17 s17=some r) (fun i17 s17=>[(0,E0 l),(1,G0 id_),(5,En i17)]) (fun i17 s17=>[]) (fun i17=>l.length - i17) 0 () h ⟨⟨.same O,.same O,.same O,G⟩,G,O⟩ ?_
 clear h
 intro i17 s17 hi17 K17 e17
 refine G7 (fun K18 hK18=>G7 fun K19 hK19=>G2 (JLh (En i17) (G5 O O) O (JLh (E0 l) (G5 O O) O (H3 (f:=G6.av) (xs:=l) H2 O O (fun hm8=>?_) O O O))))
 refine JLh (BL (decide ((i17:Int) < (l.length:Int)))) (J2 O O O) O (G8 (hK19 _ _ (Gn O (fun hb=>?_) (fun hb=>?_))))
 ·
  have hk17:=Jc hb
  obtain⟨y17,nx17,hy17,hn17,h⟩:=Hn hi17 hk17
  replace h:=Yb hb17 h
  refine Gp (hK18 _ _ (G7 (fun K20 hK20=>Gk (G7 fun K21 hK21=>G2 (JLh (E0 l) (G5 O O) O (JLh (En i17) (G5 O O) O (JLh (Ef y17) (Gt (f:=G6.av) (xs:=l) (y:=y17) O O O H2 hy17 O) O (JLh (Ef y17) (Gb Jq O O O) O (JLh (G0 y17.Gv) (Gh Gd O O O) O (JLh (G0 id_) (G5 O O) O (JLh (BL (decide (y17.Gv=id_))) (Jx O O O) O (G8 (hK21 _ _ (Gn O (fun hb=>?_) (fun hb=>?_)))))))))))))))
  ·
   replace h:=Gz hb h
   refine G7 fun K22 hK22=>G2 (JLh (En i17) (G5 O O) O (JLh (En i17) (G9 O O) O (G8 (hK22 _ _ (Gu (⟨[En i17],[],G,O,⟨⟨_,O,.conv (.same O)⟩,G⟩,O,congrArg (fun r:Int=>(G0 r:AV)) (Option.some.inj h)⟩))))))
  ·
   replace h:=Hv hb h
   refine Gp (hK20 _ _ (G2 (JLh (En i17) (G5 O O) O (JLh (G0 ((i17+1:Nat):Int)) (Hy (He hk17 hm8) O O O) O (JLh (G0 ((i17+1:Nat):Int)) (G9 O O) O (G8 (e17 _ _ (i17+1) () (app1 hn17 h) (by omega) ⟨⟨.same rfl,.same rfl,.same rfl,G⟩,G,rfl⟩)))))))
 ·
  have h:=app1 hkx17 (Ho hi17 (H9 hb))
  refine Hk (hK2 _ _ (G7 fun K23 hK23=>G2 (JLh (G0 (-1)) (G9 O O) O (G8 (hK23 _ _ (Gu (⟨[G0 (-1)],[],G,O,⟨⟨_,O,.conv (.same O)⟩,G⟩,O,congrArg (fun r:Int=>(G0 r:AV)) (Option.some.inj h)⟩)))))))
end
end Go.Proofs.YtfkilljboodoaaaGreat
