/-
 Models of functions of the program,and that they return what the models say.
-/
import Derived.Test.YtbljcmgjmieffaaGreatXPa
set_option linter.unnecessarySimpa false
set_option maxRecDepth 100000
set_option linter.unusedVariables false
set_option linter.unusedSimpArgs false
namespace Go.Proofs.YtbljcmgjmieffaaGreat
open Go.RowKit
noncomputable section
open XAF
open XCF
open XGF
open XBF
open XPF

def Q1 (F:Nat) :Option Bool:=
 bnd (Yd) fun r3=>
 bnd (Ji 1 0 0 0) fun r6=>
 bnd (Ji 2 0 1 0) fun r7=>
 bnd (Ji 3 2 1 0) fun r8=>
 bnd (Ji 6 2 0 1) fun r9=>
 bnd (Ji 7 2 0 2) fun r10=>
 bnd (Q0 F r3 [(Gb.mk 1 ByteArray.empty 40 false 0 0 0 0 false),(Gb.mk 2 ByteArray.empty 40 false 0 0 0 0 false),(Gb.mk 3 ByteArray.empty 40 false 0 0 0 0 false),(Gb.mk 4 ByteArray.empty 40 false 0 0 0 0 false),(Gb.mk 5 ByteArray.empty 40 false 0 0 0 0 false),(Gb.mk 6 ByteArray.empty 20 false 0 0 0 0 false),(Gb.mk 7 ByteArray.empty 20 false 0 0 0 0 false)] [r6,r7,r8,r9,r10] [1]) fun r12=>
 bnd (Q0 F r3 [(Gb.mk 1 ByteArray.empty 40 false 0 0 0 0 false),(Gb.mk 2 ByteArray.empty 40 false 0 0 0 0 false),(Gb.mk 3 ByteArray.empty 40 false 0 0 0 0 false),(Gb.mk 4 ByteArray.empty 40 false 0 0 0 0 false),(Gb.mk 5 ByteArray.empty 40 false 0 0 0 0 false),(Gb.mk 6 ByteArray.empty 20 false 0 0 0 0 false),(Gb.mk 7 ByteArray.empty 20 false 0 0 0 0 false)] [r6,r7,r8,r9,r10] [2]) fun r14=>
 bnd (Q0 F r3 [(Gb.mk 1 ByteArray.empty 40 false 0 0 0 0 false),(Gb.mk 2 ByteArray.empty 40 false 0 0 0 0 false),(Gb.mk 3 ByteArray.empty 40 false 0 0 0 0 false),(Gb.mk 4 ByteArray.empty 40 false 0 0 0 0 false),(Gb.mk 5 ByteArray.empty 40 false 0 0 0 0 false),(Gb.mk 6 ByteArray.empty 20 false 0 0 0 0 false),(Gb.mk 7 ByteArray.empty 20 false 0 0 0 0 false)] [r6,r7,r8,r9,r10] [7]) fun r16=>
 bnd (H02 F r3 [(Gb.mk 1 ByteArray.empty 40 false 0 0 0 0 false),(Gb.mk 2 ByteArray.empty 40 false 0 0 0 0 false),(Gb.mk 3 ByteArray.empty 40 false 0 0 0 0 false),(Gb.mk 4 ByteArray.empty 40 false 0 0 0 0 false),(Gb.mk 5 ByteArray.empty 40 false 0 0 0 0 false),(Gb.mk 6 ByteArray.empty 20 false 0 0 0 0 false),(Gb.mk 7 ByteArray.empty 20 false 0 0 0 0 false)] [r6,r7,r8,r9,r10] [] 0) fun r18=>
 bnd (Ji 4 2 2 0) fun r20=>
 bnd (Gdc F r3 [(Gb.mk 1 ByteArray.empty 40 false 0 0 0 0 false),(Gb.mk 2 ByteArray.empty 40 false 0 0 0 0 false),(Gb.mk 3 ByteArray.empty 40 false 0 0 0 0 false),(Gb.mk 4 ByteArray.empty 40 false 0 0 0 0 false),(Gb.mk 5 ByteArray.empty 40 false 0 0 0 0 false),(Gb.mk 6 ByteArray.empty 20 false 0 0 0 0 false),(Gb.mk 7 ByteArray.empty 20 false 0 0 0 0 false)] [r6,r7,r8,r9,r10] [] r20) fun r21=>
 bnd (Ji 5 3 1 0) fun r23=>
 bnd (Gdc F r3 [(Gb.mk 1 ByteArray.empty 40 false 0 0 0 0 false),(Gb.mk 2 ByteArray.empty 40 false 0 0 0 0 false),(Gb.mk 3 ByteArray.empty 40 false 0 0 0 0 false),(Gb.mk 4 ByteArray.empty 40 false 0 0 0 0 false),(Gb.mk 5 ByteArray.empty 40 false 0 0 0 0 false),(Gb.mk 6 ByteArray.empty 20 false 0 0 0 0 false),(Gb.mk 7 ByteArray.empty 20 false 0 0 0 0 false)] [r6,r7,r8,r9,r10] [] r23) fun r24=>
 bnd (Rk r3 [(Gb.mk 1 ByteArray.empty 40 false 0 0 0 0 false),(Gb.mk 2 ByteArray.empty 40 false 0 0 0 0 false),(Gb.mk 3 ByteArray.empty 40 false 0 0 0 0 false),(Gb.mk 4 ByteArray.empty 40 false 0 0 0 0 false),(Gb.mk 5 ByteArray.empty 40 false 0 0 0 0 false),(Gb.mk 6 ByteArray.empty 20 false 0 0 0 0 false),(Gb.mk 7 ByteArray.empty 20 false 0 0 0 0 false)] [r6,r7,r8,r9,r10]) fun r26=>
 bnd (bif r26 then Zf (r12.2+r14.2) some else some 0) fun v27=>
 bnd (bif r26 then Zf (v27+r16.2) some else some 0) fun v28=>
 bnd (bif r26 then Zf (v28+r21.2) some else some 0) fun v29=>
 bnd (bif (r26&&(decide (v29=0))) then Jb r12.1 [1,2,3,6,7] else some default) fun r30=>
 bnd (bif ((r26&&(decide (v29=0)))&&r30) then Jb r14.1 [2,3,6,7] else some default) fun r31=>
 bnd (bif (((r26&&(decide (v29=0)))&&r30)&&r31) then Jb r16.1 [3,7] else some default) fun r32=>
 bnd (bif (((((((r26&&(decide (v29=0)))&&r30)&&r31)&&r32)&&(decide (r18.2=95)))&&(decide ((r21.1.length:Int)=6)))&&(decide (r24.2=93))) then G55 r3 [(Gb.mk 1 ByteArray.empty 40 false 0 0 0 0 false),(Gb.mk 2 ByteArray.empty 40 false 0 0 0 0 false),(Gb.mk 3 ByteArray.empty 40 false 0 0 0 0 false),(Gb.mk 4 ByteArray.empty 40 false 0 0 0 0 false),(Gb.mk 5 ByteArray.empty 40 false 0 0 0 0 false),(Gb.mk 6 ByteArray.empty 20 false 0 0 0 0 false),(Gb.mk 7 ByteArray.empty 20 false 0 0 0 0 false)] [r6,r7,r8,r9,r10] [] 2 else some default) fun r33=>
 bnd (bif ((((((((r26&&(decide (v29=0)))&&r30)&&r31)&&r32)&&(decide (r18.2=95)))&&(decide ((r21.1.length:Int)=6)))&&(decide (r24.2=93)))&&(decide (r33=91))) then G55 r3 [(Gb.mk 1 ByteArray.empty 40 false 0 0 0 0 false),(Gb.mk 2 ByteArray.empty 40 false 0 0 0 0 false),(Gb.mk 3 ByteArray.empty 40 false 0 0 0 0 false),(Gb.mk 4 ByteArray.empty 40 false 0 0 0 0 false),(Gb.mk 5 ByteArray.empty 40 false 0 0 0 0 false),(Gb.mk 6 ByteArray.empty 20 false 0 0 0 0 false),(Gb.mk 7 ByteArray.empty 20 false 0 0 0 0 false)] [r6,r7,r8,r9,r10] [] 6 else some default) fun r34=>
 bnd (bif (((((((((r26&&(decide (v29=0)))&&r30)&&r31)&&r32)&&(decide (r18.2=95)))&&(decide ((r21.1.length:Int)=6)))&&(decide (r24.2=93)))&&(decide (r33=91)))&&(decide (r34=90))) then G55 r3 [(Gb.mk 1 ByteArray.empty 40 false 0 0 0 0 false),(Gb.mk 2 ByteArray.empty 40 false 0 0 0 0 false),(Gb.mk 3 ByteArray.empty 40 false 0 0 0 0 false),(Gb.mk 4 ByteArray.empty 40 false 0 0 0 0 false),(Gb.mk 5 ByteArray.empty 40 false 0 0 0 0 false),(Gb.mk 6 ByteArray.empty 20 false 0 0 0 0 false),(Gb.mk 7 ByteArray.empty 20 false 0 0 0 0 false)] [r6,r7,r8,r9,r10] [] 3 else some default) fun r35=>
 some ((((((((((r26&&(decide (v29=0)))&&r30)&&r31)&&r32)&&(decide (r18.2=95)))&&(decide ((r21.1.length:Int)=6)))&&(decide (r24.2=93)))&&(decide (r33=91)))&&(decide (r34=90)))&&(decide (r35=0)))
theorem G0f (F:Nat)  (r:Bool) (h:Q1 F =some r):Pure Ek 9 [] (·=BL r):=by
 unfold Q1 at h
 refine H1 [.tmp 0] Tryz.func9 O O (Jr fun hK1=>(Qk (BL false) O (G7 (hK1 (Jr fun hK2=>?_)))))
 obtain⟨r3,hr3,h⟩:=Gf h
 refine JLh (.agg (Gw.cs r3)) (Gv O (G8f  r3 hr3) J7a G) O (JLh (.ptr 1016 0) (Jd 1016 13 Ge7 O O) O (J5 (u:=.junk) (Hp (u:=.agg (Gw.cs r3)) (ds:=(Gw.cs r3)) G3a O O O O O O O O) (G7 (hK2 (Gt [(1,Ec r3)] [] 1016 rfl rfl rfl G rfl (by exact⟨.ptr,G⟩) ?_)))))
 refine Jr fun hK4=>(JLh (.agg [G0 1,ST ByteArray.empty,U8 40,BL false,G0 0,G0 0,G0 0,U8 0,BL false]) (Ho (cs:=[G0 1,ST ByteArray.empty,U8 40,BL false,G0 0,G0 0,G0 0,U8 0,BL false]) [(0,1),(1,1),(2,1),(3,1),(4,1),(5,1),(6,1),(7,1),(8,1)] [G0 0,ST ByteArray.empty,U8 0,BL false,G0 0,G0 0,G0 0,U8 0,BL false] [.int .i64 0,.string ByteArray.empty,.int .u8 0,.bool false,.int .i64 0,.int .i64 0,.int .i64 0,.int .u8 0,.bool false] Ri Yb ⟨.inl O,.inl O,.inl O,.inl O,.inl O,.inl O,.inl O,.inl O,.inl O,G⟩ O O) O (JLh (.agg [G0 2,ST ByteArray.empty,U8 40,BL false,G0 0,G0 0,G0 0,U8 0,BL false]) (Ho (cs:=[G0 2,ST ByteArray.empty,U8 40,BL false,G0 0,G0 0,G0 0,U8 0,BL false]) [(0,1),(1,1),(2,1),(3,1),(4,1),(5,1),(6,1),(7,1),(8,1)] [G0 0,ST ByteArray.empty,U8 0,BL false,G0 0,G0 0,G0 0,U8 0,BL false] [.int .i64 0,.string ByteArray.empty,.int .u8 0,.bool false,.int .i64 0,.int .i64 0,.int .i64 0,.int .u8 0,.bool false] Ri Yb ⟨.inl O,.inl O,.inl O,.inl O,.inl O,.inl O,.inl O,.inl O,.inl O,G⟩ O O) O (JLh (.agg [G0 3,ST ByteArray.empty,U8 40,BL false,G0 0,G0 0,G0 0,U8 0,BL false]) (Ho (cs:=[G0 3,ST ByteArray.empty,U8 40,BL false,G0 0,G0 0,G0 0,U8 0,BL false]) [(0,1),(1,1),(2,1),(3,1),(4,1),(5,1),(6,1),(7,1),(8,1)] [G0 0,ST ByteArray.empty,U8 0,BL false,G0 0,G0 0,G0 0,U8 0,BL false] [.int .i64 0,.string ByteArray.empty,.int .u8 0,.bool false,.int .i64 0,.int .i64 0,.int .i64 0,.int .u8 0,.bool false] Ri Yb ⟨.inl O,.inl O,.inl O,.inl O,.inl O,.inl O,.inl O,.inl O,.inl O,G⟩ O O) O (JLh (.agg [G0 4,ST ByteArray.empty,U8 40,BL false,G0 0,G0 0,G0 0,U8 0,BL false]) (Ho (cs:=[G0 4,ST ByteArray.empty,U8 40,BL false,G0 0,G0 0,G0 0,U8 0,BL false]) [(0,1),(1,1),(2,1),(3,1),(4,1),(5,1),(6,1),(7,1),(8,1)] [G0 0,ST ByteArray.empty,U8 0,BL false,G0 0,G0 0,G0 0,U8 0,BL false] [.int .i64 0,.string ByteArray.empty,.int .u8 0,.bool false,.int .i64 0,.int .i64 0,.int .i64 0,.int .u8 0,.bool false] Ri Yb ⟨.inl O,.inl O,.inl O,.inl O,.inl O,.inl O,.inl O,.inl O,.inl O,G⟩ O O) O (JLh (.agg [G0 5,ST ByteArray.empty,U8 40,BL false,G0 0,G0 0,G0 0,U8 0,BL false]) (Ho (cs:=[G0 5,ST ByteArray.empty,U8 40,BL false,G0 0,G0 0,G0 0,U8 0,BL false]) [(0,1),(1,1),(2,1),(3,1),(4,1),(5,1),(6,1),(7,1),(8,1)] [G0 0,ST ByteArray.empty,U8 0,BL false,G0 0,G0 0,G0 0,U8 0,BL false] [.int .i64 0,.string ByteArray.empty,.int .u8 0,.bool false,.int .i64 0,.int .i64 0,.int .i64 0,.int .u8 0,.bool false] Ri Yb ⟨.inl O,.inl O,.inl O,.inl O,.inl O,.inl O,.inl O,.inl O,.inl O,G⟩ O O) O (JLh (.agg [G0 6,ST ByteArray.empty,U8 20,BL false,G0 0,G0 0,G0 0,U8 0,BL false]) (Ho (cs:=[G0 6,ST ByteArray.empty,U8 20,BL false,G0 0,G0 0,G0 0,U8 0,BL false]) [(0,1),(1,1),(2,1),(3,1),(4,1),(5,1),(6,1),(7,1),(8,1)] [G0 0,ST ByteArray.empty,U8 0,BL false,G0 0,G0 0,G0 0,U8 0,BL false] [.int .i64 0,.string ByteArray.empty,.int .u8 0,.bool false,.int .i64 0,.int .i64 0,.int .i64 0,.int .u8 0,.bool false] Ri Yb ⟨.inl O,.inl O,.inl O,.inl O,.inl O,.inl O,.inl O,.inl O,.inl O,G⟩ O O) O (JLh (.agg [G0 7,ST ByteArray.empty,U8 20,BL false,G0 0,G0 0,G0 0,U8 0,BL false]) (Ho (cs:=[G0 7,ST ByteArray.empty,U8 20,BL false,G0 0,G0 0,G0 0,U8 0,BL false]) [(0,1),(1,1),(2,1),(3,1),(4,1),(5,1),(6,1),(7,1),(8,1)] [G0 0,ST ByteArray.empty,U8 0,BL false,G0 0,G0 0,G0 0,U8 0,BL false] [.int .i64 0,.string ByteArray.empty,.int .u8 0,.bool false,.int .i64 0,.int .i64 0,.int .i64 0,.int .u8 0,.bool false] Ri Yb ⟨.inl O,.inl O,.inl O,.inl O,.inl O,.inl O,.inl O,.inl O,.inl O,G⟩ O O) O (JLh (E2 [(Gb.mk 1 ByteArray.empty 40 false 0 0 0 0 false),(Gb.mk 2 ByteArray.empty 40 false 0 0 0 0 false),(Gb.mk 3 ByteArray.empty 40 false 0 0 0 0 false),(Gb.mk 4 ByteArray.empty 40 false 0 0 0 0 false),(Gb.mk 5 ByteArray.empty 40 false 0 0 0 0 false),(Gb.mk 6 ByteArray.empty 20 false 0 0 0 0 false),(Gb.mk 7 ByteArray.empty 20 false 0 0 0 0 false)]) (H4 (xs:=[.agg [G0 1,ST ByteArray.empty,U8 40,BL false,G0 0,G0 0,G0 0,U8 0,BL false],.agg [G0 2,ST ByteArray.empty,U8 40,BL false,G0 0,G0 0,G0 0,U8 0,BL false],.agg [G0 3,ST ByteArray.empty,U8 40,BL false,G0 0,G0 0,G0 0,U8 0,BL false],.agg [G0 4,ST ByteArray.empty,U8 40,BL false,G0 0,G0 0,G0 0,U8 0,BL false],.agg [G0 5,ST ByteArray.empty,U8 40,BL false,G0 0,G0 0,G0 0,U8 0,BL false],.agg [G0 6,ST ByteArray.empty,U8 20,BL false,G0 0,G0 0,G0 0,U8 0,BL false],.agg [G0 7,ST ByteArray.empty,U8 20,BL false,G0 0,G0 0,G0 0,U8 0,BL false]]) O ⟨O,O,O,O,O,O,O,O,O,O,O,O,O,O,G⟩ G21 G20 O O O O) O (Qk (E2 [(Gb.mk 1 ByteArray.empty 40 false 0 0 0 0 false),(Gb.mk 2 ByteArray.empty 40 false 0 0 0 0 false),(Gb.mk 3 ByteArray.empty 40 false 0 0 0 0 false),(Gb.mk 4 ByteArray.empty 40 false 0 0 0 0 false),(Gb.mk 5 ByteArray.empty 40 false 0 0 0 0 false),(Gb.mk 6 ByteArray.empty 20 false 0 0 0 0 false),(Gb.mk 7 ByteArray.empty 20 false 0 0 0 0 false)]) O (G7 (hK4 ?_)))))))))))
 refine Jr fun hK5=>?_
 obtain⟨r6,hr6,h⟩:=Gf h
 refine JLh (.agg (Stowed.cs r6)) (Gv O (Jp 1 0 0 0 r6 hr6) G1c ⟨O,O,O,O,O,O,O,O,G⟩) O ?_
 obtain⟨r7,hr7,h⟩:=Gf h
 refine JLh (.agg (Stowed.cs r7)) (Gv O (Jp 2 0 1 0 r7 hr7) G1c ⟨O,O,O,O,O,O,O,O,G⟩) O ?_
 obtain⟨r8,hr8,h⟩:=Gf h
 refine JLh (.agg (Stowed.cs r8)) (Gv O (Jp 3 2 1 0 r8 hr8) G1c ⟨O,O,O,O,O,O,O,O,G⟩) O ?_
 obtain⟨r9,hr9,h⟩:=Gf h
 refine JLh (.agg (Stowed.cs r9)) (Gv O (Jp 6 2 0 1 r9 hr9) G1c ⟨O,O,O,O,O,O,O,O,G⟩) O ?_
 obtain⟨r10,hr10,h⟩:=Gf h
 refine JLh (.agg (Stowed.cs r10)) (Gv O (Jp 7 2 0 2 r10 hr10) G1c ⟨O,O,O,O,O,O,O,O,G⟩) O (JLh (E1 [r6,r7,r8,r9,r10]) (H4 (xs:=[.agg (Stowed.cs r6),.agg (Stowed.cs r7),.agg (Stowed.cs r8),.agg (Stowed.cs r9),.agg (Stowed.cs r10)]) O ⟨O,O,O,O,O,O,O,O,O,O,G⟩ H9 R5 O O O O) O (Qk (E1 [r6,r7,r8,r9,r10]) O (G7 (hK5 ?_))))
 refine Jr fun hK11=>(JLh (.agg (Gw.cs r3)) (Gj Hd O O O) O (Qk (E2 [(Gb.mk 1 ByteArray.empty 40 false 0 0 0 0 false),(Gb.mk 2 ByteArray.empty 40 false 0 0 0 0 false),(Gb.mk 3 ByteArray.empty 40 false 0 0 0 0 false),(Gb.mk 4 ByteArray.empty 40 false 0 0 0 0 false),(Gb.mk 5 ByteArray.empty 40 false 0 0 0 0 false),(Gb.mk 6 ByteArray.empty 20 false 0 0 0 0 false),(Gb.mk 7 ByteArray.empty 20 false 0 0 0 0 false)]) O (Qk (E1 [r6,r7,r8,r9,r10]) O (JLh (E0 [1]) (H4 (xs:=[G0 1]) O ⟨O,O,G⟩ Gh Jj O O O O) O ?_))))
 obtain⟨r12,hr12,h⟩:=Gf h
 refine JLh (.tup [E0 r12.1,G0 r12.2]) (Gv O (Rw.down F r3 [(Gb.mk 1 ByteArray.empty 40 false 0 0 0 0 false),(Gb.mk 2 ByteArray.empty 40 false 0 0 0 0 false),(Gb.mk 3 ByteArray.empty 40 false 0 0 0 0 false),(Gb.mk 4 ByteArray.empty 40 false 0 0 0 0 false),(Gb.mk 5 ByteArray.empty 40 false 0 0 0 0 false),(Gb.mk 6 ByteArray.empty 20 false 0 0 0 0 false),(Gb.mk 7 ByteArray.empty 20 false 0 0 0 0 false)] [r6,r7,r8,r9,r10] [1] r12 hr12) G1d ⟨O,O,O,O,O,O,O,O,G⟩) O (Qk (.tup [E0 r12.1,G0 r12.2]) O (JLh (E0 r12.1) (H8 O O O) O (JLh (G0 r12.2) (H8 O O O) O (Qk (E0 r12.1) O (Qk (G0 r12.2) O (G7 (hK11 ?_)))))))
 refine Jr fun hK13=>(JLh (.agg (Gw.cs r3)) (Gj Hd O O O) O (Qk (E2 [(Gb.mk 1 ByteArray.empty 40 false 0 0 0 0 false),(Gb.mk 2 ByteArray.empty 40 false 0 0 0 0 false),(Gb.mk 3 ByteArray.empty 40 false 0 0 0 0 false),(Gb.mk 4 ByteArray.empty 40 false 0 0 0 0 false),(Gb.mk 5 ByteArray.empty 40 false 0 0 0 0 false),(Gb.mk 6 ByteArray.empty 20 false 0 0 0 0 false),(Gb.mk 7 ByteArray.empty 20 false 0 0 0 0 false)]) O (Qk (E1 [r6,r7,r8,r9,r10]) O (JLh (E0 [2]) (H4 (xs:=[G0 2]) O ⟨O,O,G⟩ Gh Jj O O O O) O ?_))))
 obtain⟨r14,hr14,h⟩:=Gf h
 refine JLh (.tup [E0 r14.1,G0 r14.2]) (Gv O (Rw.down F r3 [(Gb.mk 1 ByteArray.empty 40 false 0 0 0 0 false),(Gb.mk 2 ByteArray.empty 40 false 0 0 0 0 false),(Gb.mk 3 ByteArray.empty 40 false 0 0 0 0 false),(Gb.mk 4 ByteArray.empty 40 false 0 0 0 0 false),(Gb.mk 5 ByteArray.empty 40 false 0 0 0 0 false),(Gb.mk 6 ByteArray.empty 20 false 0 0 0 0 false),(Gb.mk 7 ByteArray.empty 20 false 0 0 0 0 false)] [r6,r7,r8,r9,r10] [2] r14 hr14) G1d ⟨O,O,O,O,O,O,O,O,G⟩) O (Qk (.tup [E0 r14.1,G0 r14.2]) O (JLh (E0 r14.1) (H8 O O O) O (JLh (G0 r14.2) (H8 O O O) O (Qk (E0 r14.1) O (Qk (G0 r14.2) O (G7 (hK13 ?_)))))))
 refine Jr fun hK15=>(JLh (.agg (Gw.cs r3)) (Gj Hd O O O) O (Qk (E2 [(Gb.mk 1 ByteArray.empty 40 false 0 0 0 0 false),(Gb.mk 2 ByteArray.empty 40 false 0 0 0 0 false),(Gb.mk 3 ByteArray.empty 40 false 0 0 0 0 false),(Gb.mk 4 ByteArray.empty 40 false 0 0 0 0 false),(Gb.mk 5 ByteArray.empty 40 false 0 0 0 0 false),(Gb.mk 6 ByteArray.empty 20 false 0 0 0 0 false),(Gb.mk 7 ByteArray.empty 20 false 0 0 0 0 false)]) O (Qk (E1 [r6,r7,r8,r9,r10]) O (JLh (E0 [7]) (H4 (xs:=[G0 7]) O ⟨O,O,G⟩ Gh Jj O O O O) O ?_))))
 obtain⟨r16,hr16,h⟩:=Gf h
 refine JLh (.tup [E0 r16.1,G0 r16.2]) (Gv O (Rw.down F r3 [(Gb.mk 1 ByteArray.empty 40 false 0 0 0 0 false),(Gb.mk 2 ByteArray.empty 40 false 0 0 0 0 false),(Gb.mk 3 ByteArray.empty 40 false 0 0 0 0 false),(Gb.mk 4 ByteArray.empty 40 false 0 0 0 0 false),(Gb.mk 5 ByteArray.empty 40 false 0 0 0 0 false),(Gb.mk 6 ByteArray.empty 20 false 0 0 0 0 false),(Gb.mk 7 ByteArray.empty 20 false 0 0 0 0 false)] [r6,r7,r8,r9,r10] [7] r16 hr16) G1d ⟨O,O,O,O,O,O,O,O,G⟩) O (Qk (.tup [E0 r16.1,G0 r16.2]) O (JLh (E0 r16.1) (H8 O O O) O (JLh (G0 r16.2) (H8 O O O) O (Qk (E0 r16.1) O (Qk (G0 r16.2) O (G7 (hK15 ?_)))))))
 refine Jr fun hK17=>(JLh (.agg (Gw.cs r3)) (Gj Hd O O O) O (Qk (E2 [(Gb.mk 1 ByteArray.empty 40 false 0 0 0 0 false),(Gb.mk 2 ByteArray.empty 40 false 0 0 0 0 false),(Gb.mk 3 ByteArray.empty 40 false 0 0 0 0 false),(Gb.mk 4 ByteArray.empty 40 false 0 0 0 0 false),(Gb.mk 5 ByteArray.empty 40 false 0 0 0 0 false),(Gb.mk 6 ByteArray.empty 20 false 0 0 0 0 false),(Gb.mk 7 ByteArray.empty 20 false 0 0 0 0 false)]) O (Qk (E1 [r6,r7,r8,r9,r10]) O ?_)))
 obtain⟨r18,hr18,h⟩:=Gf h
 refine JLh (.tup [E0 r18.1,G0 r18.2]) (G96 (args:=[.agg (Gw.cs r3),E2 [(Gb.mk 1 ByteArray.empty 40 false 0 0 0 0 false),(Gb.mk 2 ByteArray.empty 40 false 0 0 0 0 false),(Gb.mk 3 ByteArray.empty 40 false 0 0 0 0 false),(Gb.mk 4 ByteArray.empty 40 false 0 0 0 0 false),(Gb.mk 5 ByteArray.empty 40 false 0 0 0 0 false),(Gb.mk 6 ByteArray.empty 20 false 0 0 0 0 false),(Gb.mk 7 ByteArray.empty 20 false 0 0 0 0 false)],E1 [r6,r7,r8,r9,r10],E0 ([]:List Int),G0 0]) O (M_stow_Open_w F r3 [(Gb.mk 1 ByteArray.empty 40 false 0 0 0 0 false),(Gb.mk 2 ByteArray.empty 40 false 0 0 0 0 false),(Gb.mk 3 ByteArray.empty 40 false 0 0 0 0 false),(Gb.mk 4 ByteArray.empty 40 false 0 0 0 0 false),(Gb.mk 5 ByteArray.empty 40 false 0 0 0 0 false),(Gb.mk 6 ByteArray.empty 20 false 0 0 0 0 false),(Gb.mk 7 ByteArray.empty 20 false 0 0 0 0 false)] [r6,r7,r8,r9,r10] [] 0 r18 hr18) J7d ⟨.inl O,O,.inl O,O,.inl O,O,.inr ⟨_,O,O⟩,O,.inl O,O,G⟩) O (Qk (.tup [E0 r18.1,G0 r18.2]) O (JLh (E0 r18.1) (H8 O O O) O (JLh (G0 r18.2) (H8 O O O) O (Qk (E0 r18.1) O (Qk (G0 r18.2) O (G7 (hK17 ?_)))))))
 refine Js fun hK19=>?_
 obtain⟨r20,hr20,h⟩:=Gf h
 obtain⟨r21,hr21,h⟩:=Gf h
 refine JC_d0 Qb (by kernel_rfl) (Dq (.agg (Gw.cs r3)) (Gj Hd O O O) O (Dq (E2 [(Gb.mk 1 ByteArray.empty 40 false 0 0 0 0 false),(Gb.mk 2 ByteArray.empty 40 false 0 0 0 0 false),(Gb.mk 3 ByteArray.empty 40 false 0 0 0 0 false),(Gb.mk 4 ByteArray.empty 40 false 0 0 0 0 false),(Gb.mk 5 ByteArray.empty 40 false 0 0 0 0 false),(Gb.mk 6 ByteArray.empty 20 false 0 0 0 0 false),(Gb.mk 7 ByteArray.empty 20 false 0 0 0 0 false)]) (G6 O O) O (Dq (E1 [r6,r7,r8,r9,r10]) (G6 O O) O (Dq (.agg (Stowed.cs r20)) (Gv (args:=[G0 4,G0 2,G0 2,U8 0]) O (Jp 4 2 2 0 r20 hr20) G1c ⟨O,O,O,O,O,O,O,O,G⟩) O (Dq (.tup [E1 r21.1,G0 r21.2]) (G96 (args:=[.agg (Gw.cs r3),E2 [(Gb.mk 1 ByteArray.empty 40 false 0 0 0 0 false),(Gb.mk 2 ByteArray.empty 40 false 0 0 0 0 false),(Gb.mk 3 ByteArray.empty 40 false 0 0 0 0 false),(Gb.mk 4 ByteArray.empty 40 false 0 0 0 0 false),(Gb.mk 5 ByteArray.empty 40 false 0 0 0 0 false),(Gb.mk 6 ByteArray.empty 20 false 0 0 0 0 false),(Gb.mk 7 ByteArray.empty 20 false 0 0 0 0 false)],E1 [r6,r7,r8,r9,r10],E0 ([]:List Int),.agg (Stowed.cs r20)]) O (H65 F r3 [(Gb.mk 1 ByteArray.empty 40 false 0 0 0 0 false),(Gb.mk 2 ByteArray.empty 40 false 0 0 0 0 false),(Gb.mk 3 ByteArray.empty 40 false 0 0 0 0 false),(Gb.mk 4 ByteArray.empty 40 false 0 0 0 0 false),(Gb.mk 5 ByteArray.empty 40 false 0 0 0 0 false),(Gb.mk 6 ByteArray.empty 20 false 0 0 0 0 false),(Gb.mk 7 ByteArray.empty 20 false 0 0 0 0 false)] [r6,r7,r8,r9,r10] [] r20 r21 hr21) Hdc ⟨.inl O,O,.inl O,O,.inl O,O,.inr ⟨_,O,O⟩,O,.inl O,O,G⟩) O (Dq (.tup [E1 r21.1,G0 r21.2]) (G6 O O) O (Dq (E1 r21.1) (H8 O O O) O (Dq (G0 r21.2) (H8 O O O) O (Dq (E1 r21.1) (G8 O O) O (Dq (G0 r21.2) (G8 O O) O (Dnil ?_)))))))))))
 refine hK19 (Js fun hK22=>?_)
 obtain⟨r23,hr23,h⟩:=Gf h
 obtain⟨r24,hr24,h⟩:=Gf h
 refine JC_d0 Qb (by kernel_rfl) (Dq (.agg (Gw.cs r3)) (Gj Hd O O O) O (Dq (E2 [(Gb.mk 1 ByteArray.empty 40 false 0 0 0 0 false),(Gb.mk 2 ByteArray.empty 40 false 0 0 0 0 false),(Gb.mk 3 ByteArray.empty 40 false 0 0 0 0 false),(Gb.mk 4 ByteArray.empty 40 false 0 0 0 0 false),(Gb.mk 5 ByteArray.empty 40 false 0 0 0 0 false),(Gb.mk 6 ByteArray.empty 20 false 0 0 0 0 false),(Gb.mk 7 ByteArray.empty 20 false 0 0 0 0 false)]) (G6 O O) O (Dq (E1 [r6,r7,r8,r9,r10]) (G6 O O) O (Dq (.agg (Stowed.cs r23)) (Gv (args:=[G0 5,G0 3,G0 1,U8 0]) O (Jp 5 3 1 0 r23 hr23) G1c ⟨O,O,O,O,O,O,O,O,G⟩) O (Dq (.tup [E1 r24.1,G0 r24.2]) (G96 (args:=[.agg (Gw.cs r3),E2 [(Gb.mk 1 ByteArray.empty 40 false 0 0 0 0 false),(Gb.mk 2 ByteArray.empty 40 false 0 0 0 0 false),(Gb.mk 3 ByteArray.empty 40 false 0 0 0 0 false),(Gb.mk 4 ByteArray.empty 40 false 0 0 0 0 false),(Gb.mk 5 ByteArray.empty 40 false 0 0 0 0 false),(Gb.mk 6 ByteArray.empty 20 false 0 0 0 0 false),(Gb.mk 7 ByteArray.empty 20 false 0 0 0 0 false)],E1 [r6,r7,r8,r9,r10],E0 ([]:List Int),.agg (Stowed.cs r23)]) O (H65 F r3 [(Gb.mk 1 ByteArray.empty 40 false 0 0 0 0 false),(Gb.mk 2 ByteArray.empty 40 false 0 0 0 0 false),(Gb.mk 3 ByteArray.empty 40 false 0 0 0 0 false),(Gb.mk 4 ByteArray.empty 40 false 0 0 0 0 false),(Gb.mk 5 ByteArray.empty 40 false 0 0 0 0 false),(Gb.mk 6 ByteArray.empty 20 false 0 0 0 0 false),(Gb.mk 7 ByteArray.empty 20 false 0 0 0 0 false)] [r6,r7,r8,r9,r10] [] r23 r24 hr24) Hdc ⟨.inl O,O,.inl O,O,.inl O,O,.inr ⟨_,O,O⟩,O,.inl O,O,G⟩) O (Dq (.tup [E1 r24.1,G0 r24.2]) (G6 O O) O (Dq (E1 r24.1) (H8 O O O) O (Dq (G0 r24.2) (H8 O O O) O (Dq (E1 r24.1) (G8 O O) O (Dq (G0 r24.2) (G8 O O) O (Dnil ?_)))))))))))
 refine hK22 (Jr fun hK25=>(JLh (.agg (Gw.cs r3)) (Gj Hd O O O) O (Qk (E2 [(Gb.mk 1 ByteArray.empty 40 false 0 0 0 0 false),(Gb.mk 2 ByteArray.empty 40 false 0 0 0 0 false),(Gb.mk 3 ByteArray.empty 40 false 0 0 0 0 false),(Gb.mk 4 ByteArray.empty 40 false 0 0 0 0 false),(Gb.mk 5 ByteArray.empty 40 false 0 0 0 0 false),(Gb.mk 6 ByteArray.empty 20 false 0 0 0 0 false),(Gb.mk 7 ByteArray.empty 20 false 0 0 0 0 false)]) O (Qk (E1 [r6,r7,r8,r9,r10]) O ?_))))
 obtain⟨r26,hr26,h⟩:=Gf h
 refine JLh (BL r26) (Gv O (G90 r3 [(Gb.mk 1 ByteArray.empty 40 false 0 0 0 0 false),(Gb.mk 2 ByteArray.empty 40 false 0 0 0 0 false),(Gb.mk 3 ByteArray.empty 40 false 0 0 0 0 false),(Gb.mk 4 ByteArray.empty 40 false 0 0 0 0 false),(Gb.mk 5 ByteArray.empty 40 false 0 0 0 0 false),(Gb.mk 6 ByteArray.empty 20 false 0 0 0 0 false),(Gb.mk 7 ByteArray.empty 20 false 0 0 0 0 false)] [r6,r7,r8,r9,r10] r26 hr26) H31 ⟨O,O,O,O,O,O,G⟩) O (Qk (BL r26) O (JLo (G0 r12.2) [] O .sct G (fun hc=>G6 O O) O (JLo (G0 r14.2) [] O .sct G (fun hc=>G6 O O) O ?_)))
 obtain⟨v27,hv27,h⟩:=Gf h
 refine JLo (G0 v27) [83,84] O .sct ⟨Ua,Ua,G⟩ (fun hc=>Hu (G89 (H6 hc hv27)) O O O) O (JLo (G0 r16.2) [] O .sct G (fun hc=>G6 O O) O ?_)
 obtain⟨v28,hv28,h⟩:=Gf h
 refine JLo (G0 v28) [85,86] O .sct ⟨Ua,Ua,G⟩ (fun hc=>Hu (G89 (H6 hc hv28)) O O O) O (JLo (G0 r21.2) [] O .sct G (fun hc=>G6 O O) O ?_)
 obtain⟨v29,hv29,h⟩:=Gf h
 refine JLo (G0 v29) [87,88] O .sct ⟨Ua,Ua,G⟩ (fun hc=>Hu (G89 (H6 hc hv29)) O O O) O (JLo (BL (decide (v29=0))) [89] O .sct ⟨Ua,G⟩ (fun hc=>Jz O O O) O (JLh (BL (r26&&(decide (v29=0)))) (Qi O O O O) O (Qk (BL (r26&&(decide (v29=0)))) O (JLo (E0 r12.1) [] O .sct G (fun hc=>G6 O O) O (JLo (E0 [1,2,3,6,7]) [] O .sct G (fun hc=>H4 (xs:=[G0 1,G0 2,G0 3,G0 6,G0 7]) O ⟨O,O,O,O,O,O,O,O,O,O,G⟩ Gh Jj O O O O) O ?_)))))
 obtain⟨r30,hr30,h⟩:=Gf h
 refine JLo (BL r30) [93,94] O .sct ⟨Ua,Ua,G⟩ (fun hc=>Gv (args:=[E0 r12.1,E0 [1,2,3,6,7]]) O (Qw r12.1 [1,2,3,6,7] r30 (H6 hc hr30)) Gcd ⟨O,O,O,O,G⟩) O (JLh (BL ((r26&&(decide (v29=0)))&&r30)) (Qi O O O O) O (Qk (BL ((r26&&(decide (v29=0)))&&r30)) O (JLo (E0 r14.1) [] O .sct G (fun hc=>G6 O O) O (JLo (E0 [2,3,6,7]) [] O .sct G (fun hc=>H4 (xs:=[G0 2,G0 3,G0 6,G0 7]) O ⟨O,O,O,O,O,O,O,O,G⟩ Gh Jj O O O O) O ?_))))
 obtain⟨r31,hr31,h⟩:=Gf h
 refine JLo (BL r31) [98,99] O .sct ⟨Ua,Ua,G⟩ (fun hc=>Gv (args:=[E0 r14.1,E0 [2,3,6,7]]) O (Qw r14.1 [2,3,6,7] r31 (H6 hc hr31)) Gcd ⟨O,O,O,O,G⟩) O (JLh (BL (((r26&&(decide (v29=0)))&&r30)&&r31)) (Qi O O O O) O (Qk (BL (((r26&&(decide (v29=0)))&&r30)&&r31)) O (JLo (E0 r16.1) [] O .sct G (fun hc=>G6 O O) O (JLo (E0 [3,7]) [] O .sct G (fun hc=>H4 (xs:=[G0 3,G0 7]) O ⟨O,O,O,O,G⟩ Gh Jj O O O O) O ?_))))
 obtain⟨r32,hr32,h⟩:=Gf h
 refine JLo (BL r32) [103,104] O .sct ⟨Ua,Ua,G⟩ (fun hc=>Gv (args:=[E0 r16.1,E0 [3,7]]) O (Qw r16.1 [3,7] r32 (H6 hc hr32)) Gcd ⟨O,O,O,O,G⟩) O (JLh (BL ((((r26&&(decide (v29=0)))&&r30)&&r31)&&r32)) (Qi O O O O) O (Qk (BL ((((r26&&(decide (v29=0)))&&r30)&&r31)&&r32)) O (JLo (G0 r18.2) [] O .sct G (fun hc=>G6 O O) O (JLo (BL (decide (r18.2=95))) [108] O .sct ⟨Ua,G⟩ (fun hc=>Jz O O O) O (JLh (BL (((((r26&&(decide (v29=0)))&&r30)&&r31)&&r32)&&(decide (r18.2=95)))) (Qi O O O O) O (Qk (BL (((((r26&&(decide (v29=0)))&&r30)&&r31)&&r32)&&(decide (r18.2=95)))) O (JLo (E1 r21.1) [] O .sct G (fun hc=>G6 O O) O (JLo (Ej r21.1.length) [112] O .sct ⟨Ua,G⟩ (fun hc=>Zp (f:=Stowed.av) (xs:=r21.1) H9 O O) O (JLo (BL (decide ((r21.1.length:Int)=6))) [113] O .sct ⟨Ua,G⟩ (fun hc=>Jz O O O) O (JLh (BL ((((((r26&&(decide (v29=0)))&&r30)&&r31)&&r32)&&(decide (r18.2=95)))&&(decide ((r21.1.length:Int)=6)))) (Qi O O O O) O (Qk (BL ((((((r26&&(decide (v29=0)))&&r30)&&r31)&&r32)&&(decide (r18.2=95)))&&(decide ((r21.1.length:Int)=6)))) O (JLo (G0 r24.2) [] O .sct G (fun hc=>G6 O O) O (JLo (BL (decide (r24.2=93))) [117] O .sct ⟨Ua,G⟩ (fun hc=>Jz O O O) O ?_)))))))))))))
 refine JLh (BL (((((((r26&&(decide (v29=0)))&&r30)&&r31)&&r32)&&(decide (r18.2=95)))&&(decide ((r21.1.length:Int)=6)))&&(decide (r24.2=93)))) (Qi O O O O) O (Qk (BL (((((((r26&&(decide (v29=0)))&&r30)&&r31)&&r32)&&(decide (r18.2=95)))&&(decide ((r21.1.length:Int)=6)))&&(decide (r24.2=93)))) O (JLo (.agg (Gw.cs r3)) [] O .sct G (fun hc=>Gj Hd O O O) O (JLo (E2 [(Gb.mk 1 ByteArray.empty 40 false 0 0 0 0 false),(Gb.mk 2 ByteArray.empty 40 false 0 0 0 0 false),(Gb.mk 3 ByteArray.empty 40 false 0 0 0 0 false),(Gb.mk 4 ByteArray.empty 40 false 0 0 0 0 false),(Gb.mk 5 ByteArray.empty 40 false 0 0 0 0 false),(Gb.mk 6 ByteArray.empty 20 false 0 0 0 0 false),(Gb.mk 7 ByteArray.empty 20 false 0 0 0 0 false)]) [] O .sct G (fun hc=>G6 O O) O (JLo (E1 [r6,r7,r8,r9,r10]) [] O .sct G (fun hc=>G6 O O) O ?_))))
 obtain⟨r33,hr33,h⟩:=Gf h
 refine JLo (G0 r33) [121,122,123] O .sct ⟨Ua,Ua,Ua,G⟩ (fun hc=>G96 (args:=[.agg (Gw.cs r3),E2 [(Gb.mk 1 ByteArray.empty 40 false 0 0 0 0 false),(Gb.mk 2 ByteArray.empty 40 false 0 0 0 0 false),(Gb.mk 3 ByteArray.empty 40 false 0 0 0 0 false),(Gb.mk 4 ByteArray.empty 40 false 0 0 0 0 false),(Gb.mk 5 ByteArray.empty 40 false 0 0 0 0 false),(Gb.mk 6 ByteArray.empty 20 false 0 0 0 0 false),(Gb.mk 7 ByteArray.empty 20 false 0 0 0 0 false)],E1 [r6,r7,r8,r9,r10],E0 ([]:List Int),G0 2]) O (Gae r3 [(Gb.mk 1 ByteArray.empty 40 false 0 0 0 0 false),(Gb.mk 2 ByteArray.empty 40 false 0 0 0 0 false),(Gb.mk 3 ByteArray.empty 40 false 0 0 0 0 false),(Gb.mk 4 ByteArray.empty 40 false 0 0 0 0 false),(Gb.mk 5 ByteArray.empty 40 false 0 0 0 0 false),(Gb.mk 6 ByteArray.empty 20 false 0 0 0 0 false),(Gb.mk 7 ByteArray.empty 20 false 0 0 0 0 false)] [r6,r7,r8,r9,r10] [] 2 r33 (H6 hc hr33)) H32 ⟨.inl O,O,.inl O,O,.inl O,O,.inr ⟨_,O,O⟩,O,.inl O,O,G⟩) O (JLo (BL (decide (r33=91))) [124] O .sct ⟨Ua,G⟩ (fun hc=>Jz O O O) O (JLh (BL ((((((((r26&&(decide (v29=0)))&&r30)&&r31)&&r32)&&(decide (r18.2=95)))&&(decide ((r21.1.length:Int)=6)))&&(decide (r24.2=93)))&&(decide (r33=91)))) (Qi O O O O) O (Qk (BL ((((((((r26&&(decide (v29=0)))&&r30)&&r31)&&r32)&&(decide (r18.2=95)))&&(decide ((r21.1.length:Int)=6)))&&(decide (r24.2=93)))&&(decide (r33=91)))) O (JLo (.agg (Gw.cs r3)) [] O .sct G (fun hc=>Gj Hd O O O) O (JLo (E2 [(Gb.mk 1 ByteArray.empty 40 false 0 0 0 0 false),(Gb.mk 2 ByteArray.empty 40 false 0 0 0 0 false),(Gb.mk 3 ByteArray.empty 40 false 0 0 0 0 false),(Gb.mk 4 ByteArray.empty 40 false 0 0 0 0 false),(Gb.mk 5 ByteArray.empty 40 false 0 0 0 0 false),(Gb.mk 6 ByteArray.empty 20 false 0 0 0 0 false),(Gb.mk 7 ByteArray.empty 20 false 0 0 0 0 false)]) [] O .sct G (fun hc=>G6 O O) O (JLo (E1 [r6,r7,r8,r9,r10]) [] O .sct G (fun hc=>G6 O O) O ?_))))))
 obtain⟨r34,hr34,h⟩:=Gf h
 refine JLo (G0 r34) [128,129,130] O .sct ⟨Ua,Ua,Ua,G⟩ (fun hc=>G96 (args:=[.agg (Gw.cs r3),E2 [(Gb.mk 1 ByteArray.empty 40 false 0 0 0 0 false),(Gb.mk 2 ByteArray.empty 40 false 0 0 0 0 false),(Gb.mk 3 ByteArray.empty 40 false 0 0 0 0 false),(Gb.mk 4 ByteArray.empty 40 false 0 0 0 0 false),(Gb.mk 5 ByteArray.empty 40 false 0 0 0 0 false),(Gb.mk 6 ByteArray.empty 20 false 0 0 0 0 false),(Gb.mk 7 ByteArray.empty 20 false 0 0 0 0 false)],E1 [r6,r7,r8,r9,r10],E0 ([]:List Int),G0 6]) O (Gae r3 [(Gb.mk 1 ByteArray.empty 40 false 0 0 0 0 false),(Gb.mk 2 ByteArray.empty 40 false 0 0 0 0 false),(Gb.mk 3 ByteArray.empty 40 false 0 0 0 0 false),(Gb.mk 4 ByteArray.empty 40 false 0 0 0 0 false),(Gb.mk 5 ByteArray.empty 40 false 0 0 0 0 false),(Gb.mk 6 ByteArray.empty 20 false 0 0 0 0 false),(Gb.mk 7 ByteArray.empty 20 false 0 0 0 0 false)] [r6,r7,r8,r9,r10] [] 6 r34 (H6 hc hr34)) H32 ⟨.inl O,O,.inl O,O,.inl O,O,.inr ⟨_,O,O⟩,O,.inl O,O,G⟩) O (JLo (BL (decide (r34=90))) [131] O .sct ⟨Ua,G⟩ (fun hc=>Jz O O O) O (JLh (BL (((((((((r26&&(decide (v29=0)))&&r30)&&r31)&&r32)&&(decide (r18.2=95)))&&(decide ((r21.1.length:Int)=6)))&&(decide (r24.2=93)))&&(decide (r33=91)))&&(decide (r34=90)))) (Qi O O O O) O (Qk (BL (((((((((r26&&(decide (v29=0)))&&r30)&&r31)&&r32)&&(decide (r18.2=95)))&&(decide ((r21.1.length:Int)=6)))&&(decide (r24.2=93)))&&(decide (r33=91)))&&(decide (r34=90)))) O (JLo (.agg (Gw.cs r3)) [] O .sct G (fun hc=>Gj Hd O O O) O (JLo (E2 [(Gb.mk 1 ByteArray.empty 40 false 0 0 0 0 false),(Gb.mk 2 ByteArray.empty 40 false 0 0 0 0 false),(Gb.mk 3 ByteArray.empty 40 false 0 0 0 0 false),(Gb.mk 4 ByteArray.empty 40 false 0 0 0 0 false),(Gb.mk 5 ByteArray.empty 40 false 0 0 0 0 false),(Gb.mk 6 ByteArray.empty 20 false 0 0 0 0 false),(Gb.mk 7 ByteArray.empty 20 false 0 0 0 0 false)]) [] O .sct G (fun hc=>G6 O O) O (JLo (E1 [r6,r7,r8,r9,r10]) [] O .sct G (fun hc=>G6 O O) O ?_))))))
 obtain⟨r35,hr35,h⟩:=Gf h
 refine JLo (G0 r35) [135,136,137] O .sct ⟨Ua,Ua,Ua,G⟩ (fun hc=>G96 (args:=[.agg (Gw.cs r3),E2 [(Gb.mk 1 ByteArray.empty 40 false 0 0 0 0 false),(Gb.mk 2 ByteArray.empty 40 false 0 0 0 0 false),(Gb.mk 3 ByteArray.empty 40 false 0 0 0 0 false),(Gb.mk 4 ByteArray.empty 40 false 0 0 0 0 false),(Gb.mk 5 ByteArray.empty 40 false 0 0 0 0 false),(Gb.mk 6 ByteArray.empty 20 false 0 0 0 0 false),(Gb.mk 7 ByteArray.empty 20 false 0 0 0 0 false)],E1 [r6,r7,r8,r9,r10],E0 ([]:List Int),G0 3]) O (Gae r3 [(Gb.mk 1 ByteArray.empty 40 false 0 0 0 0 false),(Gb.mk 2 ByteArray.empty 40 false 0 0 0 0 false),(Gb.mk 3 ByteArray.empty 40 false 0 0 0 0 false),(Gb.mk 4 ByteArray.empty 40 false 0 0 0 0 false),(Gb.mk 5 ByteArray.empty 40 false 0 0 0 0 false),(Gb.mk 6 ByteArray.empty 20 false 0 0 0 0 false),(Gb.mk 7 ByteArray.empty 20 false 0 0 0 0 false)] [r6,r7,r8,r9,r10] [] 3 r35 (H6 hc hr35)) H32 ⟨.inl O,O,.inl O,O,.inl O,O,.inr ⟨_,O,O⟩,O,.inl O,O,G⟩) O (JLo (BL (decide (r35=0))) [138] O .sct ⟨Ua,G⟩ (fun hc=>Jz O O O) O (JLh (BL ((((((((((r26&&(decide (v29=0)))&&r30)&&r31)&&r32)&&(decide (r18.2=95)))&&(decide ((r21.1.length:Int)=6)))&&(decide (r24.2=93)))&&(decide (r33=91)))&&(decide (r34=90)))&&(decide (r35=0)))) (Qi O O O O) O (Qk (BL ((((((((((r26&&(decide (v29=0)))&&r30)&&r31)&&r32)&&(decide (r18.2=95)))&&(decide ((r21.1.length:Int)=6)))&&(decide (r24.2=93)))&&(decide (r33=91)))&&(decide (r34=90)))&&(decide (r35=0)))) O (G7 (hK25 ?_)))))
 refine Gu (fin1 BL h)

def Q2 (F:Nat) (l:List H0) (covers:Int) (drops:List Gy) (which:Int) (more:Int):Option Bool:=
 bnd (Qd l covers) fun r3=>
 bnd (Qg r3 drops 9) fun r5=>
 bif decide ((r5.2.length:Int)=0) then
 (bnd (Q1 F) fun r9=>
  some r9)
 else
 (each (fun y29 i29 (s29:(List Int)) nx29=>
   jp (fun kj32=>
    bnd (Gf0 (i29:Int) 4294967295) fun m35=>
    bif decide ((H61 .u16 (Gcf .u16 which m35) 1)=1) then
    (need (decide ((s29.length+[y29.Gb].length)*8≤140737488355328∧s29.length+[y29.Gb].length≤maxLen)) <|
     kj32 (s29++[y29.Gb]))
    else
    (kj32 s29)) fun(j32:(List Int))=>
   nx29 j32)
  (fun(s29:(List Int))=>
   Zf (more) fun v38=>
   bnd (H20 v38 (r5.2.length:Int)) fun v39=>
   Yj r5.2 v39 fun y40=>
   bnd (Q0 F r3 r5.1 r5.2 s29) fun r43=>
   need (decide ((([]:List Int).length+s29.length)*8≤140737488355328∧([]:List Int).length+s29.length≤maxLen)) <|
   need (decide (((([]:List Int)++s29).length+[y40.Gb,y40.Gb].length)*8≤140737488355328∧(([]:List Int)++s29).length+[y40.Gb,y40.Gb].length≤maxLen)) <|
   bnd (Q0 F r3 r5.1 r5.2 ((([]:List Int)++s29)++[y40.Gb,y40.Gb])) fun r47=>
   bnd (Q0 F r3 r5.1 r5.2 r43.1) fun r49=>
   bnd (Q0 F r3 r5.1 r5.2 [y40.Gb]) fun r51=>
   bnd (Y9 r5.2 y40.Gb) fun r53=>
   Zf (r43.2+r47.2) fun v56=>
   Zf (v56+r49.2) fun v57=>
   Zf (v57+r51.2) fun v58=>
   Zf (v58+r53.2) fun v59=>
   bnd (bif (!(decide (v59≠0))) then Jb r43.1 r49.1 else some default) fun r60=>
   bif ((decide (v59≠0))||(!r60)) then
   (some false)
   else
   (each (fun y93 i93 (s93:(H5 Int Int)) nx93=>
     bnd (some (H5.get s93 y93 0)) fun v98=>
     Zf (v98+1) fun v99=>
     nx93 (H5.put s93 y93 v99))
    (fun(s93:(H5 Int Int))=>
     need (decide ((([]:List Int).length+r43.1.length)*8≤140737488355328∧([]:List Int).length+r43.1.length≤maxLen)) <|
     need (decide (((([]:List Int)++r43.1).length+r51.1.length)*8≤140737488355328∧(([]:List Int)++r43.1).length+r51.1.length≤maxLen)) <|
     each (fun y120 i120 (s120:Unit) nx120=>
      bnd (some (H5.get s93 y120 0)) fun v126=>
      bif decide (v126≠1) then
      (some false)
      else
      (nx120 ()))
     (fun(s120:Unit)=>
      bnd (bif decide ((r53.1.length:Int)=0) then Yj r3.Columns y40.Slot.G3 some else some default) fun y129=>
      bnd (bif (((!((decide ((r53.1.length:Int)=0))&&y129.Deck))||(decide ((r51.1.length:Int)=1)))&&(decide ((r53.1.length:Int) < (r51.1.length:Int)))) then Q1 F else some default) fun r131=>
      some ((((!((decide ((r53.1.length:Int)=0))&&y129.Deck))||(decide ((r51.1.length:Int)=1)))&&(decide ((r53.1.length:Int) < (r51.1.length:Int))))&&r131)) ((([]:List Int)++r43.1)++r51.1) 0 ()) r47.1 0 (H5.empty:H5 Int Int))) r5.2 0 [])
theorem G71 (F:Nat) (l:List H0) (covers:Int) (drops:List Gy) (which:Int) (more:Int) (r:Bool) (h:Q2 F l covers drops which more=some r):Pure Ek 3 [Eb l,.sc (.int .u32 covers),Ea drops,.sc (.int .u16 which),U8 more] (·=BL r):=by
 unfold Q2 at h
 refine H1 [.tmp 10] Tryz.func3 O O (Jr fun hK1=>(Qk (BL false) O (G7 (hK1 (Jr fun hK2=>(Qk (Eb l) O (Qk (.sc (.int .u32 covers)) O ?_)))))))
 obtain⟨r3,hr3,h⟩:=Gf h
 refine JLh (.agg (Gw.cs r3)) (Gv O (G8e l covers r3 hr3) tf_call_7 ⟨O,O,O,O,G⟩) O (JLh (.ptr 1001 0) (Jd 1001 13 Ge7 O O) O (J5 (u:=.junk) (Hp (u:=.agg (Gw.cs r3)) (ds:=(Gw.cs r3)) G3a O O O O O O O O) (G7 (hK2 (Gt [(2,Ea drops),(3,.sc (.int .u16 which)),(4,U8 more),(11,Ec r3)] [] 1001 rfl rfl rfl G rfl (by repeat' (first | exact .ptr | constructor)) (Jr fun hK4=>(JLh (.agg (Gw.cs r3)) (Gj Hd O O O) O (Qk (Ea drops) O ?_))))))))
 obtain⟨r5,hr5,h⟩:=Gf h
 refine JLh (.tup [E2 r5.1,E1 r5.2]) (Gv O (G9a r3 drops 9 r5 hr5) tf_call_8 ⟨O,O,O,O,O,O,G⟩) O (Qk (.tup [E2 r5.1,E1 r5.2]) O (JLh (E2 r5.1) (H8 O O O) O (JLh (E1 r5.2) (H8 O O O) O (Qk (E2 r5.1) O (Qk (E1 r5.2) O (G7 (hK4 (Js fun hK6=>Jr fun hK7=>(Qk (E1 r5.2) O (JLl H9 O O O fun hm44=>(JLh (BL (decide ((r5.2.length:Int)=0))) (Jz O O O) O (G7 (hK7 (JCc O h (fun h hb=>?_) (fun h hb=>?_)))))))))))))))
 ·
  refine Jr fun hK8=>?_
  obtain⟨r9,hr9,h⟩:=Gf h
  refine JLh (BL r9) (Gv O (G0f F r9 hr9) J21 G) O (Qk (BL r9) O (G7 (hK8 (Gu (fin1 BL h)))))
 ·
  refine Gs (hK6 (Jr fun hK10=>(JLh (OW 1002 1 G0 ([]:List Int)) (G5d 1002 3 1 O O O) O (G7 (hK10 (Js fun hK11=>Jr fun hK12=>(Qk (E1 r5.2) O (JLl H9 O O O fun hm48=>(Qk (G0 0) O (G7 (hK12 (Gx ?_))))))))))))
  obtain⟨b29,kx29,hb29,hkx29,h⟩:=Jh h
  refine Hz (fun i29 (s29:(List Int))=>each b29 kx29 (List.drop i29 r5.2) i29 s29=some r) (fun i29 s29=>[(3,.sc (.int .u16 which)),(4,U8 more),(11,Ec r3),(12,E2 r5.1),(13,E1 r5.2),(14,OW 1002 1 G0 s29),(47,E1 r5.2),(48,Ej r5.2.length),(49,Ej i29)]) (fun i29 s29=>[(1002,.spare 3 1 s29.length s29.length)]) (fun i29=>r5.2.length - i29) 0 [] h ⟨(by repeat' constructor),⟨⟨_,rfl,.same⟩,G⟩,rfl⟩ ?_
  clear h
  intro i29 s29 hi29 K29 e29
  refine Jr fun hK30=>(JLh (BL (decide ((i29:Int) < (r5.2.length:Int)))) (Jm O O O) O (G7 (hK30 (Js fun hK31=>Gm O (fun hb=>?_) (fun hb=>?_)))))
  ·
   have hk29:=Q4 hb
   obtain⟨y29,nx29,hy29,hn29,h⟩:=J3 hi29 hk29
   replace h:=Zv hb29 h
   refine Gs (hK31 ?_)
   obtain⟨kj32,hkj32,h⟩:=Z8 h
   refine Ry (fun j32:(List Int)=>kj32 j32=some r) (fun j32=>[(3,.sc (.int .u16 which)),(4,U8 more),(11,Ec r3),(12,E2 r5.1),(13,E1 r5.2),(14,OW 1002 1 G0 j32),(47,E1 r5.2),(48,Ej r5.2.length),(49,Ej i29)]) (fun j32=>[(1002,.spare 3 1 j32.length j32.length)]) (fun Kj32 ej32=>?_) ?_
   ·
    refine Gx (Jr fun hK33=>(Qk (Ej i29) O (JLh (Ed y29) (Hc (f:=Stowed.av) (xs:=r5.2) (y:=y29) O O O H9 hy29 O) O (JLh (.agg (Stowed.cs y29)) (Gj Ym O O O) O (JLh (.ptr 1003 0) (Jd 1003 4 R5 O O) O (Qk (Ej i29) O (J5 (u:=.junk) (Hp (u:=.agg (Stowed.cs y29)) (ds:=[G0 y29.Gb,G0 y29.Slot.G3,G0 y29.Slot.Tier,U8 y29.Slot.Half]) Zd O O O O O O O O) (G7 (hK33 ?_)))))))))
    refine Gt [(3,.sc (.int .u16 which)),(4,U8 more),(11,Ec r3),(12,E2 r5.1),(13,E1 r5.2),(14,OW 1002 1 G0 s29),(15,Ej i29),(16,Ed y29),(47,E1 r5.2),(48,Ej r5.2.length),(49,Ej i29)] [(1002,.spare 3 1 s29.length s29.length)] 1003 rfl rfl rfl ⟨⟨_,rfl,.same⟩,G⟩ rfl (by repeat' (first | exact .ptr | constructor)) (Jr fun hK34=>(Qk (.sc (.int .u16 which)) O (Qk (Ej i29) O ?_)))
    obtain⟨m35,hm35,h⟩:=Gf h
    refine JLh (.sc (.int .u16 (Gcf .u16 which m35))) (J11 (s:=m35) (G3c hm35).1 O O O) O (JLh (.sc (.int .u16 (H61 .u16 (Gcf .u16 which m35) 1))) (J32 O O O) O (JLh (BL (decide ((H61 .u16 (Gcf .u16 which m35) 1)=1))) (Jz O O O) O (G7 (hK34 (JCc O h (fun h hb=>?_) (fun h hb=>?_))))))
    ·
     refine G4 (Qk (OW 1002 1 G0 s29) O (JLh (Ed y29) (Gc Hr O O O) O (JLh (G0 y29.Gb) (Gi Ge O O O) O (JLh (E0 [y29.Gb]) (H4 (xs:=[G0 y29.Gb]) O ⟨O,O,G⟩ Gh Jj O O O O) O ?_))))
     obtain⟨ha36,h⟩:=Jf h
     refine JLh (OW 1002 1 G0 (s29++[y29.Gb])) (Y2 (f:=G0) (xs:=s29) (ys:=[y29.Gb]) O O O O Gh Rs ha36 (fun _=>O) (.inl O) O) O (Qk (OW 1002 1 G0 (s29++[y29.Gb])) O (G7 (ej32 _ _ (s29++[y29.Gb]) h ⟨(by repeat' constructor),⟨⟨_,rfl,.same⟩,G⟩,rfl⟩)))
    ·
     refine Gs (ej32 _ _ s29 h ⟨(by repeat' constructor),⟨⟨_,rfl,.same⟩,G⟩,rfl⟩)
   ·intro j32 h
    replace h:=app1 hkj32 h
    refine G4 (JLh (G0 ((i29+1:Nat):Int)) (Hu (Hs hk29 hm48) O O O) O (Qk (G0 ((i29+1:Nat):Int)) O (G7 (e29 _ _ (i29+1) j32 (app1 hn29 h) (by omega) ⟨(by repeat' constructor),⟨⟨_,rfl,.same⟩,G⟩,rfl⟩))))
  ·
   have h:=app1 hkx29 (J4 hi29 (Hh hb))
   refine J9 (hK11 (Jr fun hK37=>(Qk (E1 r5.2) O (Qk (U8 more) O ?_))))
   obtain⟨v38,hv38,h⟩:=Je h
   refine JLh (G0 v38) (H08 G4f Gb3 hv38 O O) O (Qk (E1 r5.2) O (JLl H9 O O O fun hm69=>?_))
   obtain⟨v39,hv39,h⟩:=Gf h
   refine JLh (G0 v39) (J26 (Y0 hv39).1 (Y0 hv39).2 O O O) O ?_
   obtain⟨m41,y40,hm41,hy40,h⟩:=Y6 h
   refine JLh (Ed y40) (Hc (f:=Stowed.av) (xs:=r5.2) (y:=y40) O O O H9 hy40 hm41) O (JLh (.agg (Stowed.cs y40)) (Gj Ym O O O) O (JLh (.ptr 1004 0) (Jd 1004 4 R5 O O) O (J5 (u:=.junk) (Hp (u:=.agg (Stowed.cs y40)) (ds:=[G0 y40.Gb,G0 y40.Slot.G3,G0 y40.Slot.Tier,U8 y40.Slot.Half]) Zd O O O O O O O O) (G7 (hK37 (Gt [(11,Ec r3),(12,E2 r5.1),(13,E1 r5.2),(14,OW 1002 1 G0 s29),(17,Ed y40)] [(1002,.spare 3 1 s29.length s29.length)] 1004 rfl rfl rfl ⟨⟨_,rfl,.same⟩,G⟩ rfl (by repeat' (first | exact .ptr | constructor)) (Jr fun hK42=>(JLh (.agg (Gw.cs r3)) (Gj Hd O O O) O (Qk (E2 r5.1) O (Qk (E1 r5.2) O (Qk (OW 1002 1 G0 s29) O ?_)))))))))))
   obtain⟨r43,hr43,h⟩:=Gf h
   refine JLh (.tup [E0 r43.1,G0 r43.2]) (Gv O (Rw.down F r3 r5.1 r5.2 s29 r43 hr43) G1d ⟨O,O,O,O,O,O,O,O,G⟩) O (Qk (.tup [E0 r43.1,G0 r43.2]) O (JLh (E0 r43.1) (H8 O O O) O (JLh (G0 r43.2) (H8 O O O) O (Qk (E0 r43.1) O (Qk (G0 r43.2) O (G7 (hK42 (Js fun hK44=>Yk (l':=[(11,Ec r3),(12,E2 r5.1),(13,E1 r5.2),(14,OW 1002 1 G0 s29),(17,Ed y40),(18,E0 r43.1),(19,G0 r43.2)]) (L':=[(1002,.spare 3 1 s29.length s29.length)]) ⟨(by repeat' constructor),⟨⟨_,rfl,.same⟩,G⟩,rfl⟩ ?_))))))))
   obtain⟨ha45,h⟩:=Jf h
   obtain⟨ha46,h⟩:=Jf h
   obtain⟨r47,hr47,h⟩:=Gf h
   refine Ju [3,5,11] [0,0,0,0,0,0,0,0,0,0,0,0,3,3,3,3,3,3] [3,3,3,0,1,0,2,2,2,2,2,0,3,3,3,3,3,3] [[(1002,.spare 3 1 s29.length s29.length)],((1005,.spare 3 1 ([]:List Int).length ([]:List Int).length)::[(1002,.spare 3 1 s29.length s29.length)]),((1005,.spare 3 1 (([]:List Int)++s29).length (([]:List Int)++s29).length)::((1005,.spare 3 1 ([]:List Int).length ([]:List Int).length)::[(1002,.spare 3 1 s29.length s29.length)])),((1005,.spare 3 1 ((([]:List Int)++s29)++[y40.Gb,y40.Gb]).length ((([]:List Int)++s29)++[y40.Gb,y40.Gb]).length)::((1005,.spare 3 1 (([]:List Int)++s29).length (([]:List Int)++s29).length)::((1005,.spare 3 1 ([]:List Int).length ([]:List Int).length)::[(1002,.spare 3 1 s29.length s29.length)])))] Qb (by kernel_rfl) rfl rfl ?_
   refine Gk (u:=.agg (Gw.cs r3)) O O ⟨Gp (Gj Hd O O O) O,Gp (Gj Hd O O O) O,Gp (Gj Hd O O O) O,Gp (Gj Hd O O O) O,G⟩ (Gk (u:=E2 r5.1) O O ⟨Gp (G6 O O) O,Gp (G6 O O) O,Gp (G6 O O) O,Gp (G6 O O) O,G⟩ (Gk (u:=E1 r5.2) O O ⟨Gp (G6 O O) O,Gp (G6 O O) O,Gp (G6 O O) O,Gp (G6 O O) O,G⟩ (J46 (u:=OW 1005 1 G0 ([]:List Int)) O O O O (Gp (H07 1005 3 1 O O Gh) O) (Gk (u:=OW 1002 1 G0 s29) O O ⟨Gp (G6 O O) O,Gp (G6 O O) O,G⟩ (J46 (u:=OW 1005 1 G0 (([]:List Int)++s29)) O O O O (Gp (G41 (f:=G0) (xs:=([]:List Int)) (ys:=s29) O O O O Gh Rs ha45 (fun _=>O) (.inl O)) O) (Gk (u:=Ed y40) O O ⟨Gp (Gc Hr O O O) O,Gp (Gc Hr O O O) O,Gp (Gc Hr O O O) O,G⟩ (Gk (u:=G0 y40.Gb) O O ⟨Gp (Gi Ge O O O) O,Gp (Gi Ge O O O) O,Gp (Gi Ge O O O) O,G⟩ (Gk (u:=Ed y40) O O ⟨Gp (Gc Hr O O O) O,Gp (Gc Hr O O O) O,Gp (Gc Hr O O O) O,G⟩ (Gk (u:=G0 y40.Gb) O O ⟨Gp (Gi Ge O O O) O,Gp (Gi Ge O O O) O,Gp (Gi Ge O O O) O,G⟩ (Gk (u:=E0 [y40.Gb,y40.Gb]) O O ⟨Gp (H4 (xs:=[G0 y40.Gb,G0 y40.Gb]) O ⟨O,O,O,O,G⟩ Gh Jj O O O O) O,Gp (H4 (xs:=[G0 y40.Gb,G0 y40.Gb]) O ⟨O,O,O,O,G⟩ Gh Jj O O O O) O,Gp (H4 (xs:=[G0 y40.Gb,G0 y40.Gb]) O ⟨O,O,O,O,G⟩ Gh Jj O O O O) O,G⟩ (J46 (u:=OW 1005 1 G0 ((([]:List Int)++s29)++[y40.Gb,y40.Gb])) O O O O (Gp (G41 (f:=G0) (xs:=(([]:List Int)++s29)) (ys:=[y40.Gb,y40.Gb]) O O O O Gh Rs ha46 (fun _=>O) (.inl O)) O) (Gk (u:=.tup [E0 r47.1,G0 r47.2]) O O ⟨Gp (Gv O (Rw.down F r3 r5.1 r5.2 ((([]:List Int)++s29)++[y40.Gb,y40.Gb]) r47 hr47) G1d ⟨O,O,O,O,O,O,O,O,G⟩) O,G⟩ (Gk (u:=.tup [E0 r47.1,G0 r47.2]) O O ⟨Gp (G6 O O) O,G⟩ ?_)))))))))))))
   refine Gk (u:=E0 r47.1) O O ⟨Gp (H8 O O O) O,G⟩ (Gk (u:=G0 r47.2) O O ⟨Gp (H8 O O O) O,G⟩ (Gk (u:=E0 r47.1) O O ⟨Gp (G8 O O) O,G⟩ (Gk (u:=G0 r47.2) O O ⟨Gp (G8 O O) O,G⟩ (Yi (hK44 (Jr fun hK48=>(JLh (.agg (Gw.cs r3)) (Gj Hd O O O) O (Qk (E2 r5.1) O (Qk (E1 r5.2) O (Qk (E0 r43.1) O ?_))))))))))
   obtain⟨r49,hr49,h⟩:=Gf h
   refine JLh (.tup [E0 r49.1,G0 r49.2]) (Gv O (Rw.down F r3 r5.1 r5.2 r43.1 r49 hr49) G1d ⟨O,O,O,O,O,O,O,O,G⟩) O (Qk (.tup [E0 r49.1,G0 r49.2]) O (JLh (E0 r49.1) (H8 O O O) O (JLh (G0 r49.2) (H8 O O O) O (Qk (E0 r49.1) O (Qk (G0 r49.2) O (G7 (hK48 (Jr fun hK50=>(JLh (.agg (Gw.cs r3)) (Gj Hd O O O) O (Qk (E2 r5.1) O (Qk (E1 r5.2) O (JLh (Ed y40) (Gc Hr O O O) O (JLh (G0 y40.Gb) (Gi Ge O O O) O (JLh (E0 [y40.Gb]) (H4 (xs:=[G0 y40.Gb]) O ⟨O,O,G⟩ Gh Jj O O O O) O ?_))))))))))))))
   obtain⟨r51,hr51,h⟩:=Gf h
   refine JLh (.tup [E0 r51.1,G0 r51.2]) (Gv O (Rw.down F r3 r5.1 r5.2 [y40.Gb] r51 hr51) G1d ⟨O,O,O,O,O,O,O,O,G⟩) O (Qk (.tup [E0 r51.1,G0 r51.2]) O (JLh (E0 r51.1) (H8 O O O) O (JLh (G0 r51.2) (H8 O O O) O (Qk (E0 r51.1) O (Qk (G0 r51.2) O (G7 (hK50 (Jr fun hK52=>(Qk (E1 r5.2) O (JLh (Ed y40) (Gc Hr O O O) O (JLh (G0 y40.Gb) (Gi Ge O O O) O ?_)))))))))))
   obtain⟨r53,hr53,h⟩:=Gf h
   refine JLh (.tup [E0 r53.1,G0 r53.2]) (Gv O (G91 r5.2 y40.Gb r53 hr53) H33 ⟨O,O,O,O,G⟩) O (Qk (.tup [E0 r53.1,G0 r53.2]) O (JLh (E0 r53.1) (H8 O O O) O (JLh (G0 r53.2) (H8 O O O) O (Qk (E0 r53.1) O (Qk (G0 r53.2) O (G7 (hK52 (Js fun hK54=>Jr fun hK55=>(Qk (G0 r43.2) O (Qk (G0 r47.2) O ?_))))))))))
   obtain⟨v56,hv56,h⟩:=Je h
   refine JLh (G0 v56) (Hu hv56 O O O) O (Qk (G0 r49.2) O ?_)
   obtain⟨v57,hv57,h⟩:=Je h
   refine JLh (G0 v57) (Hu hv57 O O O) O (Qk (G0 r51.2) O ?_)
   obtain⟨v58,hv58,h⟩:=Je h
   refine JLh (G0 v58) (Hu hv58 O O O) O (Qk (G0 r53.2) O ?_)
   obtain⟨v59,hv59,h⟩:=Je h
   refine JLh (G0 v59) (Hu hv59 O O O) O (JLh (BL (decide (v59≠0))) (H6a O O O) O (Qk (BL (decide (v59≠0))) O (JLo (E0 r43.1) [] O .scf G (fun hc=>G6 O O) O (JLo (E0 r49.1) [] O .scf G (fun hc=>G6 O O) O ?_))))
   obtain⟨r60,hr60,h⟩:=Gf h
   refine JLo (BL r60) [133,134] O .scf ⟨Ua,Ua,G⟩ (fun hc=>Gv (args:=[E0 r43.1,E0 r49.1]) O (Qw r43.1 r49.1 r60 (H6 hc hr60)) Gcd ⟨O,O,O,O,G⟩) O (JLo (BL (!r60)) [135] O .scf ⟨Ua,G⟩ (fun hc=>Zn (b:=r60) O O) O (JLh (BL ((decide (v59≠0))||(!r60))) (G5c O O O O) O (G7 (hK55 (JCc O h (fun h hb=>?_) (fun h hb=>?_))))))
   ·
    refine Jr fun hK61=>(Qk (BL false) O (G7 (hK61 (Gu (fin1 BL h)))))
   ·
    refine Gs (hK54 (Jr fun hK62=>(JLh (.mp 1006) (H44 1006 (fun n:Int=>Value.int .i64 n) G0 O O) O (Qk (.mp 1006) O (G7 (hK62 (Js fun hK63=>Jr fun hK64=>(Qk (E0 r47.1) O (JLl Gh O O O fun hm140=>(Qk (G0 0) O (G7 (hK64 (Gx ?_)))))))))))))
    obtain⟨b93,kx93,hb93,hkx93,h⟩:=Jh h
    refine Hz (fun i93 (s93:(H5 Int Int))=>each b93 kx93 (List.drop i93 r47.1) i93 s93=some r) (fun i93 s93=>[(11,Ec r3),(17,Ed y40),(18,E0 r43.1),(24,E0 r51.1),(26,E0 r53.1),(28,.mp 1006),(139,E0 r47.1),(140,Ej r47.1.length),(141,Ej i93)]) (fun i93 s93=>[(1006,MP 53 (fun n:Int=>Value.int .i64 n) G0 s93)]) (fun i93=>r47.1.length - i93) 0 (H5.empty:H5 Int Int) h ⟨(by repeat' constructor),⟨⟨_,rfl,.map⟩,G⟩,rfl⟩ ?_
    clear h
    intro i93 s93 hi93 K93 e93
    refine Jr fun hK94=>(JLh (BL (decide ((i93:Int) < (r47.1.length:Int)))) (Jm O O O) O (G7 (hK94 (Js fun hK95=>Gm O (fun hb=>?_) (fun hb=>?_)))))
    ·
     have hk93:=Q4 hb
     obtain⟨y93,nx93,hy93,hn93,h⟩:=J3 hi93 hk93
     replace h:=Zv hb93 h
     refine Gs (hK95 (Js fun hK96=>Gx (Jr fun hK97=>(JLh (.dptr [G0 y93]) (Hc (f:=G0) (xs:=r47.1) (y:=y93) O O O Gh hy93 O) O (JLh (G0 y93) (Gi Ge O O O) O (Qk (G0 y93) O (G7 (hK97 (G4 (Qk (.mp 1006) O (Qk (G0 y93) O ?_)))))))))))
     obtain⟨v98,hv98,h⟩:=Gf h
     refine JLh (G0 v98) (((Option.some.inj hv98) ▸ Gde (av:=G0) (m:=s93) (a:=y93) 0 (.int .i64 0) O O O O tk_3 H71 G9d O)) O ?_
     obtain⟨v99,hv99,h⟩:=Je h
     refine JLh (G0 v99) (Hu hv99 O O O) O (J5 (u:=.junk) (H6b (m:=s93) (a:=y93) (v:=v99) O O O O O O tk_3 H71) (G7 (hK96 (G4 (JLh (G0 ((i93+1:Nat):Int)) (Hu (Hs hk93 hm140) O O O) O (Qk (G0 ((i93+1:Nat):Int)) O (G7 (e93 _ _ (i93+1) (H5.put s93 y93 v99) (app1 hn93 h) (by omega) ⟨(by repeat' constructor),⟨⟨_,rfl,.map⟩,G⟩,rfl⟩))))))))
    ·
     have h:=app1 hkx93 (J4 hi93 (Hh hb))
     refine J9 (hK63 (Js fun hK100=>Jr fun hK101=>(JLh (OW 1007 1 G0 ([]:List Int)) (H07 1007 3 1 O O Gh) O (Qk (E0 r43.1) O ?_))))
     obtain⟨ha102,h⟩:=Jf h
     refine JLh (OW 1007 1 G0 (([]:List Int)++r43.1)) (G41 (f:=G0) (xs:=([]:List Int)) (ys:=r43.1) O O O O Gh Rs ha102 (fun _=>O) (.inl O)) O (Qk (E0 r51.1) O ?_)
     obtain⟨ha103,h⟩:=Jf h
     refine JLh (OW 1007 1 G0 ((([]:List Int)++r43.1)++r51.1)) (G41 (f:=G0) (xs:=(([]:List Int)++r43.1)) (ys:=r51.1) O O O O Gh Rs ha103 (fun _=>O) (.inl O)) O (JLl Gh O O O fun hm155=>(Qk (G0 0) O (G7 (hK101 (Gx ?_)))))
     obtain⟨b120,kx120,hb120,hkx120,h⟩:=Jh h
     refine Hz (fun i120 (s120:Unit)=>each b120 kx120 (List.drop i120 ((([]:List Int)++r43.1)++r51.1)) i120 s120=some r) (fun i120 s120=>[(11,Ec r3),(17,Ed y40),(24,E0 r51.1),(26,E0 r53.1),(28,.mp 1006),(154,OW 1007 1 G0 ((([]:List Int)++r43.1)++r51.1)),(155,G0 (((([]:List Int)++r43.1)++r51.1).length:Int)),(156,Ej i120)]) (fun i120 s120=>[(1006,MP 53 (fun n:Int=>Value.int .i64 n) G0 s93),(1007,.spare 3 1 ((([]:List Int)++r43.1)++r51.1).length ((([]:List Int)++r43.1)++r51.1).length)]) (fun i120=>((([]:List Int)++r43.1)++r51.1).length - i120) 0 () h ⟨(by repeat' constructor),⟨⟨_,rfl,.map⟩,⟨_,rfl,.same⟩,G⟩,rfl⟩ ?_
     clear h
     intro i120 s120 hi120 K120 e120
     refine Jr fun hK121=>(JLh (BL (decide ((i120:Int) < (((([]:List Int)++r43.1)++r51.1).length:Int)))) (Jm O O O) O (G7 (hK121 (Js fun hK122=>Gm O (fun hb=>?_) (fun hb=>?_)))))
     ·
      have hk120:=Q4 hb
      obtain⟨y120,nx120,hy120,hn120,h⟩:=J3 hi120 hk120
      replace h:=Zv hb120 h
      refine Gs (hK122 (Js fun hK123=>Gx (Jr fun hK124=>(JLh (.dptr [G0 y120]) (Hc (f:=G0) (xs:=((([]:List Int)++r43.1)++r51.1)) (y:=y120) O O O Gh hy120 O) O (JLh (G0 y120) (Gi Ge O O O) O (Qk (G0 y120) O (G7 (hK124 (Jr fun hK125=>(Qk (.mp 1006) O (Qk (G0 y120) O ?_)))))))))))
      obtain⟨v126,hv126,h⟩:=Gf h
      refine JLh (G0 v126) (((Option.some.inj hv126) ▸ Gde (av:=G0) (m:=s93) (a:=y120) 0 (.int .i64 0) O O O O tk_3 H71 G9d O)) O (JLh (BL (decide (v126≠1))) (H6a O O O) O (G7 (hK125 (JCc O h (fun h hb=>?_) (fun h hb=>?_)))))
      ·
       refine Jr fun hK127=>(Qk (BL false) O (G7 (hK127 (Gu (fin1 BL h)))))
      ·
       refine Gs (hK123 (G4 (JLh (G0 ((i120+1:Nat):Int)) (Hu (Hs hk120 hm155) O O O) O (Qk (G0 ((i120+1:Nat):Int)) O (G7 (e120 _ _ (i120+1) () (app1 hn120 h) (by omega) ⟨(by repeat' constructor),⟨⟨_,rfl,.map⟩,⟨_,rfl,.same⟩,G⟩,rfl⟩))))))
     ·
      have h:=app1 hkx120 (J4 hi120 (Hh hb))
      refine J9 (hK100 (Jr fun hK128=>(Qk (E0 r53.1) O (JLl Gh O O O fun hm166=>(JLh (BL (decide ((r53.1.length:Int)=0))) (Jz O O O) O (Qk (BL (decide ((r53.1.length:Int)=0))) O (JLo (Ec r3) [] O .sct G (fun hc=>Gc Hk O O O) O (JLo (E7 r3.Columns) [169] O .sct ⟨Ua,G⟩ (fun hc=>Gi J2 O O O) O (JLo (.dptr ((Stowed.cs y40).drop 1)) [] O .sct G (fun hc=>Gc Hx O O O) O (JLo (.dptr ((Stowed.cs y40).drop 1)) [171] O .sct ⟨Ua,G⟩ (fun hc=>Gc Jc O O O) O (JLo (G0 y40.Slot.G3) [172] O .sct ⟨Ua,G⟩ (fun hc=>Gi Ge O O O) O ?_)))))))))))
      obtain⟨y129,hy129,h⟩:=Gf h
      refine JLo (Ee y129) [170,173] O .sct ⟨Ua,Ua,G⟩ (fun hc=>(match Rt (H6 hc hy129) with | ⟨_,hm_,hy_⟩=>Hc (f:=G3.av) (xs:=r3.Columns) (y:=y129) O O O Hq hy_ hm_)) O (JLo (.dptr ((G3.cs y129).drop 2)) [174] O .sct ⟨Ua,G⟩ (fun hc=>Gc Rm O O O) O (JLo (BL y129.Deck) [175] O .sct ⟨Ua,G⟩ (fun hc=>Gi Q7 O O O) O (JLh (BL ((decide ((r53.1.length:Int)=0))&&y129.Deck)) (Qi O O O O) O (Qk (BL ((decide ((r53.1.length:Int)=0))&&y129.Deck)) O (G7 (hK128 ?_))))))
      refine Jr fun hK130=>(Qk (BL ((decide ((r53.1.length:Int)=0))&&y129.Deck)) O (JLh (BL (!((decide ((r53.1.length:Int)=0))&&y129.Deck))) (Zn (b:=((decide ((r53.1.length:Int)=0))&&y129.Deck)) O O) O (Qk (BL (!((decide ((r53.1.length:Int)=0))&&y129.Deck))) O (JLo (E0 r51.1) [] O .scf G (fun hc=>G6 O O) O (JLo (Ej r51.1.length) [181] O .scf ⟨Ua,G⟩ (fun hc=>Zp (f:=G0) (xs:=r51.1) Gh O O) O (JLo (BL (decide ((r51.1.length:Int)=1))) [182] O .scf ⟨Ua,G⟩ (fun hc=>Jz O O O) O (JLh (BL ((!((decide ((r53.1.length:Int)=0))&&y129.Deck))||(decide ((r51.1.length:Int)=1)))) (G5c O O O O) O (Qk (BL ((!((decide ((r53.1.length:Int)=0))&&y129.Deck))||(decide ((r51.1.length:Int)=1)))) O (JLo (E0 r51.1) [] O .sct G (fun hc=>G6 O O) O (JLo (Ej r51.1.length) [186] O .sct ⟨Ua,G⟩ (fun hc=>Zp (f:=G0) (xs:=r51.1) Gh O O) O (JLo (E0 r53.1) [] O .sct G (fun hc=>G6 O O) O (JLo (Ej r53.1.length) [188] O .sct ⟨Ua,G⟩ (fun hc=>Zp (f:=G0) (xs:=r53.1) Gh O O) O (JLo (BL (decide ((r53.1.length:Int) < (r51.1.length:Int)))) [187,189] O .sct ⟨Ua,Ua,G⟩ (fun hc=>G67 O O O) O ?_)))))))))))))
      refine JLh (BL (((!((decide ((r53.1.length:Int)=0))&&y129.Deck))||(decide ((r51.1.length:Int)=1)))&&(decide ((r53.1.length:Int) < (r51.1.length:Int))))) (Qi O O O O) O (Qk (BL (((!((decide ((r53.1.length:Int)=0))&&y129.Deck))||(decide ((r51.1.length:Int)=1)))&&(decide ((r53.1.length:Int) < (r51.1.length:Int))))) O ?_)
      obtain⟨r131,hr131,h⟩:=Gf h
      refine JLo (BL r131) [] O .sct G (fun hc=>Gv (args:=[]) O (G0f F r131 (H6 hc hr131)) J21 G) O (JLh (BL ((((!((decide ((r53.1.length:Int)=0))&&y129.Deck))||(decide ((r51.1.length:Int)=1)))&&(decide ((r53.1.length:Int) < (r51.1.length:Int))))&&r131)) (Qi O O O O) O (Qk (BL ((((!((decide ((r53.1.length:Int)=0))&&y129.Deck))||(decide ((r51.1.length:Int)=1)))&&(decide ((r53.1.length:Int) < (r51.1.length:Int))))&&r131)) O (G7 (hK130 (Gu (fin1 BL h))))))
end
end Go.Proofs.YtbljcmgjmieffaaGreat
