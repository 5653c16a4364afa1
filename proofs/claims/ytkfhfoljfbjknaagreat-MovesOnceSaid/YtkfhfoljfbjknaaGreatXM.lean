/-
 Models of functions of the program,and that they return what the models say.
-/
import Derived.Test.YtkfhfoljfbjknaaGreatProg
import Derived.Test.YtkfhfoljfbjknaaGreatSortM
import Derived.Test.YtkfhfoljfbjknaaGreatSortLay
import Derived.Test.YtkfhfoljfbjknaaGreatRel
import Derived.Test.YtkfhfoljfbjknaaGreatLit0
import Derived.Test.YtkfhfoljfbjknaaGreatXA
import Derived.Test.YtkfhfoljfbjknaaGreatSpecA
import Derived.Test.YtkfhfoljfbjknaaGreatSpecI
import Derived.Test.YtkfhfoljfbjknaaGreatSpecJ
import Derived.Test.YtkfhfoljfbjknaaGreatXVa
import Derived.Test.YtkfhfoljfbjknaaGreatXVb
import Derived.Test.YtkfhfoljfbjknaaGreatXVc
import Derived.Test.YtkfhfoljfbjknaaGreatXV
import Derived.Test.YtkfhfoljfbjknaaGreatXMa
set_option maxRecDepth 100000
set_option linter.unusedVariables false
set_option linter.unusedSimpArgs false
namespace Go.Proofs.YtkfhfoljfbjknaaGreat
open Go.RowKit
noncomputable section
open XAF
open XVF
open XMF

def M_moves_Tasks_1 (a:H6) (b:H6):Option Int:=
 bnd (Jv a.Phase b.Phase) fun r3=>
 bnd (Jv a.Bay b.Bay) fun r4=>
 bnd (M_cmp_Or_int [r3,r4]) fun r5=>
 some r5
theorem M_moves_Tasks_1_w (a:H6) (b:H6) (r:Int) (h:M_moves_Tasks_1 a b=some r):Pure Tryz.prog 51 [.agg (H6.cs a),.agg (H6.cs b)] (·=G0 r):=by
 unfold M_moves_Tasks_1 at h
 refine H9 [.tmp 4] Tryz.func51 O O ?_
 refine G6 fun K1 hK1=>G3 ?_
 refine JLg (.ptr 1139 0) (Q1 (u:=.agg (H6.cs a)) (cs:=[G0 a.Bay,G0 a.Phase,G0 a.Lifts,G0 a.Covers]) 1139 O O O O O) ?_
 refine JLg (.ptr 1140 0) (Q1 (u:=.agg (H6.cs b)) (cs:=[G0 b.Bay,G0 b.Phase,G0 b.Lifts,G0 b.Covers]) 1140 O O O O O) ?_
 refine JLg (G0 0) (G9 O O) ?_
 refine G8 (hK1 _ _ ?_)
 refine Gk [(2,Ek a),(3,.ptr 1140 0)] [(1140,.box 94 [G0 b.Bay,G0 b.Phase,G0 b.Lifts,G0 b.Covers])] 1139 rfl rfl rfl ⟨⟨_,rfl,.boxEq rfl rfl⟩,G⟩ rfl (by exact⟨.ptr,.conv (.same rfl),G⟩) ?_
 refine Gk [(2,Ek a),(3,Ek b)] [] 1140 rfl rfl rfl G rfl (by exact⟨.conv (.same rfl),.ptr,G⟩) ?_
 refine G6 (fun K2 hK2=>?_)
 obtain⟨r3,hr3,h⟩:=Ge h
 obtain⟨r4,hr4,h⟩:=Ge h
 obtain⟨r5,hr5,h⟩:=Ge h
 refine Qp [] [0,0,0,0,0,0,0,0,0,0,0,0,0] [0,0,0,0,0,0,0,0,0,0,0,0,0] [[]] Q5 (by kernel_rfl) rfl rfl ?_
 refine Gn (u:=.dptr [G0 a.Phase,G0 a.Lifts,G0 a.Covers]) O O ⟨Gs (Gc tf_field_94_1 O O O) O,G⟩ ?_
 refine Gn (u:=G0 a.Phase) O O ⟨Gs (Gf Gb O O O) O,G⟩ ?_
 refine Gn (u:=.dptr [G0 b.Phase,G0 b.Lifts,G0 b.Covers]) O O ⟨Gs (Gc tf_field_94_1 O O O) O,G⟩ ?_
 refine Gn (u:=G0 b.Phase) O O ⟨Gs (Gf Gb O O O) O,G⟩ ?_
 refine Gn (u:=G0 r3) O O ⟨Gs (H1 (args:=[G0 a.Phase,G0 b.Phase]) O (M_cmp_Compare_int_w a.Phase b.Phase r3 hr3) Yp ⟨O,O,O,O,G⟩) O,G⟩ ?_
 refine Gn (u:=Ek a) O O ⟨Gs (Gc Ye O O O) O,G⟩ ?_
 refine Gn (u:=G0 a.Bay) O O ⟨Gs (Gf Gb O O O) O,G⟩ ?_
 refine Gn (u:=Ek b) O O ⟨Gs (Gc Ye O O O) O,G⟩ ?_
 refine Gn (u:=G0 b.Bay) O O ⟨Gs (Gf Gb O O O) O,G⟩ ?_
 refine Gn (u:=G0 r4) O O ⟨Gs (H1 (args:=[G0 a.Bay,G0 b.Bay]) O (M_cmp_Compare_int_w a.Bay b.Bay r4 hr4) Yp ⟨O,O,O,O,G⟩) O,G⟩ ?_
 refine Gn (u:=E1 [r3,r4]) O O ⟨Gs (Hd (xs:=[G0 r3,G0 r4]) O ⟨O,O,O,O,G⟩ Gy Rh O O O O) O,G⟩ ?_
 refine Gn (u:=G0 r5) O O ⟨Gs (H1 (args:=[E1 [r3,r4]]) O (M_cmp_Or_int_w [r3,r4] r5 hr5) tf_call_52 ⟨O,O,G⟩) O,G⟩ ?_
 refine Gn (u:=G0 r5) O O ⟨Gs (G9 O O) O,G⟩ ?_
 refine Ry ?_
 refine hK2 _ _ ?_
 refine Gu ?_
 exact⟨[G0 r5],[],G,O,⟨⟨_,O,.conv (.same O)⟩,G⟩,O,congrArg (fun r:Int=>(G0 r:AV)) (Option.some.inj h)⟩

def Qa (F:Nat) (data:List H6) (a:Int) (b:Int) (cmp:H6→H6→Option Int):Option (List H6):=
 chk (a+1) fun v2=>
 loop (fun nx3 (s3:Int×(List H6))=>
  bif decide (s3.1 < b) then
  (loop (fun nx58 (s58:Int×(List H6))=>
    bnd (bif decide (a < s58.1) then Jy s58.2 s58.1 some else some default) fun y61=>
    bnd (bif decide (a < s58.1) then chk (s58.1 - 1) some else some 0) fun v62=>
    bnd (bif decide (a < s58.1) then Jy s58.2 v62 some else some default) fun y63=>
    bnd (bif decide (a < s58.1) then cmp y61 y63 else some default) fun r64=>
    bif ((decide (a < s58.1))&&(decide (r64 < 0))) then
    (chk (s58.1 - 1) fun v66=>
     chk (s58.1 - 1) fun v67=>
     Jy s58.2 v67 fun y68=>
     Jy s58.2 s58.1 fun y69=>
     Jy s58.2 s58.1 fun y70=>
     Jy (s58.2.set s58.1.toNat y68) v66 fun y71=>
     chk (s58.1 - 1) fun v72=>
     nx58 (v72,((s58.2.set s58.1.toNat y68).set v66.toNat y69)))
    else
    (chk (s3.1+1) fun v73=>
     nx3 (v73,s58.2))) F (s3.1,s3.2))
  else
  (some s3.2)) F (v2,data)
theorem M_slices_insertionSortCmpFunc_apiTask_p230000012 (F:Nat) (data:List H6) (data_q:Nat) (a:Int) (b:Int) (cmp:H6→H6→Option Int) (cmp_f:FuncId) (cmp_c:List AV) (cmp_B:Hb Tryz.prog cmp_f=true) (cmp_d:Qm (fun _=>false) cmp_c=true) (cmp_w:∀ a0 a1 q,cmp a0 a1=some q→Pure Tryz.prog cmp_f ([.agg (H6.cs a0),.agg (H6.cs a1)]++cmp_c) (·=G0 q)) (r:(List H6)) (h:Qa F data a b cmp=some r):Jr Tryz.prog 117 [.vec 1084 data_q 4 data.length,G0 a,G0 b,.fn cmp_f cmp_c] [(1084,.vec 94 4 data_q (data.map H6.av))] (fun av L'=>av=.tup []∧L'=[(1084,.vec 94 4 data_q (r.map H6.av))]):=by
 unfold Qa at h
 refine Ju [1084] [] Tryz.func117 O O (inAll O) ?_
 refine G6 fun K1 hK1=>G3 ?_
 refine JLg (G0 a) (G7 O O) ?_
 obtain⟨v2,hv2,h⟩:=Hm h
 refine JLg (G0 v2) (Ht hv2 O O O) ?_
 refine JLg (G0 v2) (G9 O O) ?_
 refine G8 (hK1 _ _ ?_)
 refine Gg ?_
 obtain⟨b3,hb3,h⟩:=loop_in h
 refine H7 (fun i3 (s3:Int×(List H6))=>loop b3 i3 s3=some r) (fun i3 s3=>[(0,.vec 1084 data_q 4 data.length),(1,G0 a),(2,G0 b),(3,.fn cmp_f cmp_c),(8,G0 s3.1)]) (fun i3 s3=>[(1084,.vec 94 4 data_q (s3.2.map H6.av))]) (fun i3=>i3) F (v2,data) h ⟨⟨.same O,.same O,.same O,.same (H8 _ _ cmp_d),.same O,G⟩,⟨⟨_,O,.vec⟩,G⟩,O⟩ ?_
 clear h
 intro i3 s3 hi3 K3 e3
 obtain⟨m3,nx3,hm_3,hn3,h⟩:=loop_out hi3
 replace h:=app2 hb3 h
 refine G6 (fun K4 hK4=>?_)
 refine G6 fun K5 hK5=>G3 ?_
 refine JLg (G0 s3.1) (G7 O O) ?_
 refine JLg (G0 b) (G7 O O) ?_
 refine JLg (BL (decide (s3.1 < b))) (Hy O O O) ?_
 refine G8 (hK5 _ _ ?_)
 refine Gh O (fun hb=>?_) (fun hb=>?_)
 ·
  replace h:=Gv hb h
  refine Gj ?_
  refine hK4 _ _ ?_
  refine G6 (fun K6 hK6=>?_)
  refine Gg ?_
  refine G6 fun K7 hK7=>G3 ?_
  refine JLg (G0 s3.1) (G7 O O) ?_
  refine JLg (G0 s3.1) (G9 O O) ?_
  refine G8 (hK7 _ _ ?_)
  refine Gg ?_
  obtain⟨b58,hb58,h⟩:=loop_in h
  refine H7 (fun i58 (s58:Int×(List H6))=>loop b58 i58 s58=some r) (fun i58 s58=>[(0,.vec 1084 data_q 4 data.length),(1,G0 a),(2,G0 b),(3,.fn cmp_f cmp_c),(8,G0 s3.1),(9,G0 s58.1)]) (fun i58 s58=>[(1084,.vec 94 4 data_q (s58.2.map H6.av))]) (fun i58=>i58) F (s3.1,s3.2) h ⟨⟨.same O,.same O,.same O,.same (H8 _ _ cmp_d),.same O,.same O,G⟩,⟨⟨_,O,.vec⟩,G⟩,O⟩ ?_
  clear h
  intro i58 s58 hi58 K58 e58
  obtain⟨m58,nx58,hm_58,hn58,h⟩:=loop_out hi58
  replace h:=app2 hb58 h
  refine G6 (fun K59 hK59=>?_)
  refine G6 (fun K60 hK60=>?_)
  refine R0 (l':=[(0,.vec 1084 data_q 4 data.length),(1,G0 a),(2,G0 b),(3,.fn cmp_f cmp_c),(8,G0 s3.1),(9,G0 s58.1)]) (L':=[(1084,.vec 94 4 data_q (s58.2.map H6.av))]) ⟨⟨.same O,.same O,.same O,.same (H8 _ _ cmp_d),.same O,.same O,G⟩,⟨⟨_,O,.vec⟩,G⟩,O⟩ ?_
  obtain⟨y61,hy61,h⟩:=Ge h
  obtain⟨v62,hv62,h⟩:=Ge h
  obtain⟨y63,hy63,h⟩:=Ge h
  obtain⟨r64,hr64,h⟩:=Ge h
  refine Qp [] [0,0,0,0,0,0,0,0,0,0,0,0,0,0,0,0,0] [0,0,0,0,0,0,0,0,0,0,0,0,0,0,0,0,0] [[(1084,.vec 94 4 data_q (s58.2.map H6.av))]] Q5 (by kernel_rfl) rfl rfl ?_
  refine Gn (u:=G0 s58.1) O O ⟨Gs (G7 O O) O,G⟩ ?_
  refine Gn (u:=G0 a) O O ⟨Gs (G7 O O) O,G⟩ ?_
  refine Gn (u:=BL (decide (a < s58.1))) O O ⟨Gs (Yd O O O) O,G⟩ ?_
  refine Gn (u:=BL (decide (a < s58.1))) O O ⟨Gs (G7 O O) O,G⟩ ?_
  refine Gn (u:=.opt (decide (a < s58.1)) (.fn cmp_f cmp_c)) O O ⟨Hf [] O O O .sct G (fun hc=>G7 O O) O,G⟩ ?_
  refine Gn (u:=.opt (decide (a < s58.1)) (.vec 1084 data_q 4 data.length)) O O ⟨Hf [] O O O .sct G (fun hc=>G7 O O) O,G⟩ ?_
  refine Gn (u:=.opt (decide (a < s58.1)) (G0 s58.1)) O O ⟨Hf [] O O O .sct G (fun hc=>G7 O O) O,G⟩ ?_
  refine Gn (u:=.opt (decide (a < s58.1)) (.vptr 1084 data_q s58.1.toNat 0)) O O ⟨Hf [(23,.vec 1084 data_q 4 data.length),(24,G0 s58.1)] O O O .sct ⟨.all id,.all id,G⟩ (fun hc=>Rg (f:=H6.av) (xs:=s58.2) (y:=y61) O O O O R7 (Ri (Gv hc hy61)) (gidx_some1 (Gv hc hy61))) O,G⟩ ?_
  refine Gn (u:=.opt (decide (a < s58.1)) (.agg (H6.cs y61))) O O ⟨Hf [(25,.vptr 1084 data_q s58.1.toNat 0)] O O O .sct ⟨.all id,G⟩ (fun hc=>Y5 (f:=H6.av) (xs:=s58.2) (y:=y61) Yt O O O (Ri (Gv hc hy61)) O O) O,G⟩ ?_
  refine Gn (u:=.opt (decide (a < s58.1)) (.vec 1084 data_q 4 data.length)) O O ⟨Hf [] O O O .sct G (fun hc=>G7 O O) O,G⟩ ?_
  refine Gn (u:=.opt (decide (a < s58.1)) (G0 s58.1)) O O ⟨Hf [] O O O .sct G (fun hc=>G7 O O) O,G⟩ ?_
  refine Gn (u:=.opt (decide (a < s58.1)) (G0 v62)) O O ⟨Hf [(28,G0 s58.1)] O O O .sct ⟨.all id,G⟩ (fun hc=>Rz (chk_some (Gv hc hv62)) O O O) O,G⟩ ?_
  refine Gn (u:=.opt (decide (a < s58.1)) (.vptr 1084 data_q v62.toNat 0)) O O ⟨Hf [(27,.vec 1084 data_q 4 data.length),(29,G0 v62)] O O O .sct ⟨.all id,.all id,G⟩ (fun hc=>Rg (f:=H6.av) (xs:=s58.2) (y:=y63) O O O O R7 (Ri (Gv hc hy63)) (gidx_some1 (Gv hc hy63))) O,G⟩ ?_
  refine Gn (u:=.opt (decide (a < s58.1)) (.agg (H6.cs y63))) O O ⟨Hf [(30,.vptr 1084 data_q v62.toNat 0)] O O O .sct ⟨.all id,G⟩ (fun hc=>Y5 (f:=H6.av) (xs:=s58.2) (y:=y63) Yt O O O (Ri (Gv hc hy63)) O O) O,G⟩ ?_
  refine Gn (u:=.opt (decide (a < s58.1)) (G0 r64)) O O ⟨Hf [(22,.fn cmp_f cmp_c),(26,.agg (H6.cs y61)),(31,.agg (H6.cs y63))] O O O .sct ⟨.all id,.all id,.all id,G⟩ (fun hc=>Rk (args:=[.agg (H6.cs y61),.agg (H6.cs y63)]) (caps:=cmp_c) O O (cmp_w y61 y63 _ (Gv hc hr64)) cmp_B ⟨O,O,O,O,G⟩ cmp_d) O,G⟩ ?_
  refine Gn (u:=.opt (decide (a < s58.1)) (BL (decide (r64 < 0)))) O O ⟨Hf [(32,G0 r64)] O O O .sct ⟨.all id,G⟩ (fun hc=>Hy O O O) O,G⟩ ?_
  refine Gn (u:=BL ((decide (a < s58.1))&&(decide (r64 < 0)))) O O ⟨Gs (Qr O O O O) O,G⟩ ?_
  refine Ry ?_
  refine hK60 _ _ ?_
  refine Gh O (fun hb=>?_) (fun hb=>?_)
  ·
   replace h:=Gv hb h
   refine Gj ?_
   refine hK59 _ _ ?_
   refine G6 (fun K65 hK65=>?_)
   refine Gg ?_
   refine R0 (l':=[(0,.vec 1084 data_q 4 data.length),(1,G0 a),(2,G0 b),(3,.fn cmp_f cmp_c),(8,G0 s3.1),(9,G0 s58.1)]) (L':=[(1084,.vec 94 4 data_q (s58.2.map H6.av))]) ⟨⟨.same O,.same O,.same O,.same (H8 _ _ cmp_d),.same O,.same O,G⟩,⟨⟨_,O,.vec⟩,G⟩,O⟩ ?_
   obtain⟨v66,hv66,h⟩:=Hm h
   obtain⟨v67,hv67,h⟩:=Hm h
   obtain⟨y68,hmy68,hy68,h⟩:=Re h
   obtain⟨y69,hmy69,hy69,h⟩:=Re h
   obtain⟨y70,hmy70,hy70,h⟩:=Re h
   obtain⟨y71,hmy71,hy71,h⟩:=Re h
   refine Qp [15,17] [0,0,0,0,0,0,0,0,0,0,0,0,0,0,0,0,1,0] [0,0,1,1,1,0,0,0,0,0,0,0,0,0,0,0,1,0] [[(1084,.vec 94 4 data_q (s58.2.map H6.av))],((1084,.vec 94 4 data_q ((s58.2.set s58.1.toNat y68).map H6.av))::[(1084,.vec 94 4 data_q (s58.2.map H6.av))]),((1084,.vec 94 4 data_q (((s58.2.set s58.1.toNat y68).set v66.toNat y69).map H6.av))::((1084,.vec 94 4 data_q ((s58.2.set s58.1.toNat y68).map H6.av))::[(1084,.vec 94 4 data_q (s58.2.map H6.av))]))] Q5 (by kernel_rfl) rfl rfl ?_
   refine Gn (u:=.vec 1084 data_q 4 data.length) O O ⟨Gs (G7 O O) O,G⟩ ?_
   refine Gn (u:=G0 s58.1) O O ⟨Gs (G7 O O) O,G⟩ ?_
   refine Gn (u:=.vec 1084 data_q 4 data.length) O O ⟨Gs (G7 O O) O,Gs (G7 O O) O,G⟩ ?_
   refine Gn (u:=G0 s58.1) O O ⟨Gs (G7 O O) O,Gs (G7 O O) O,G⟩ ?_
   refine Gn (u:=G0 v66) O O ⟨Gs (Rz hv66 O O O) O,Gs (Rz hv66 O O O) O,G⟩ ?_
   refine Gn (u:=.vec 1084 data_q 4 data.length) O O ⟨Gs (G7 O O) O,G⟩ ?_
   refine Gn (u:=G0 s58.1) O O ⟨Gs (G7 O O) O,G⟩ ?_
   refine Gn (u:=G0 v67) O O ⟨Gs (Rz hv67 O O O) O,G⟩ ?_
   refine Gn (u:=.vptr 1084 data_q v67.toNat 0) O O ⟨Gs (Rg (f:=H6.av) (xs:=s58.2) (y:=y68) O O O O R7 hy68 hmy68) O,G⟩ ?_
   refine Gn (u:=.agg (H6.cs y68)) O O ⟨Gs (Y5 (f:=H6.av) (xs:=s58.2) (y:=y68) Yt O O O hy68 O O) O,G⟩ ?_
   refine Gn (u:=.vec 1084 data_q 4 data.length) O O ⟨Gs (G7 O O) O,G⟩ ?_
   refine Gn (u:=G0 s58.1) O O ⟨Gs (G7 O O) O,G⟩ ?_
   refine Gn (u:=.vptr 1084 data_q s58.1.toNat 0) O O ⟨Gs (Rg (f:=H6.av) (xs:=s58.2) (y:=y69) O O O O R7 hy69 hmy69) O,G⟩ ?_
   refine Gn (u:=.agg (H6.cs y69)) O O ⟨Gs (Y5 (f:=H6.av) (xs:=s58.2) (y:=y69) Yt O O O hy69 O O) O,G⟩ ?_
   refine Gn (u:=.vptr 1084 data_q s58.1.toNat 0) O O ⟨Gs (Rg (f:=H6.av) (xs:=s58.2) (y:=y70) O O O O R7 hy70 hmy70) O,G⟩ ?_
   refine D_w0 (u:=.junk) O O O O (Gs (A_vstoreM (f:=H6.av) (xs:=s58.2) (z:=y68) tf_size_94 O O O O (List.getElem?_eq_some_iff.1 hy70).1 O O O O) O) ?_
   refine Gn (u:=.vptr 1084 data_q v66.toNat 0) O O ⟨Gs (Rg (f:=H6.av) (xs:=(s58.2.set s58.1.toNat y68)) (y:=y71) O O O O R7 hy71 hmy71) O,G⟩ ?_
   refine D_w0 (u:=.junk) O O O O (Gs (A_vstoreM (f:=H6.av) (xs:=(s58.2.set s58.1.toNat y68)) (z:=y69) tf_size_94 O O O O (List.getElem?_eq_some_iff.1 hy71).1 O O O O) O) ?_
   refine Ry ?_
   refine hK65 _ _ ?_
   refine G3 ?_
   refine JLg (G0 s58.1) (G7 O O) ?_
   obtain⟨v72,hv72,h⟩:=Hm h
   refine JLg (G0 v72) (Rz hv72 O O O) ?_
   refine JLg (G0 v72) (G9 O O) ?_
   refine G8 ?_
   exact e58 _ _ m58 (v72,((s58.2.set s58.1.toNat y68).set v66.toNat y69)) (app1 hn58 h) (by omega) ⟨⟨.same rfl,.same rfl,.same rfl,.same (H8 _ _ cmp_d),.same rfl,.same rfl,G⟩,⟨⟨_,rfl,.vec⟩,G⟩,rfl⟩
  ·
   replace h:=Hp hb h
   refine Hk ?_
   refine hK6 _ _ ?_
   refine G3 ?_
   refine JLg (G0 s3.1) (G7 O O) ?_
   obtain⟨v73,hv73,h⟩:=Hm h
   refine JLg (G0 v73) (Ht hv73 O O O) ?_
   refine JLg (G0 v73) (G9 O O) ?_
   refine G8 ?_
   exact e3 _ _ m3 (v73,s58.2) (app1 hn3 h) (by omega) ⟨⟨.same rfl,.same rfl,.same rfl,.same (H8 _ _ cmp_d),.same rfl,G⟩,⟨⟨_,rfl,.vec⟩,G⟩,rfl⟩
 ·
  replace h:=Hp hb h
  refine Hk ?_
  obtain rfl:=Option.some.inj h
  exact⟨[],[(1084,.vec 94 4 data_q (s3.2.map H6.av))],⟨⟨_,O,.vec⟩,G⟩,O,G,O,O⟩

def Jt (F:Nat) (data:List H6) (a:Int) (b:Int) (limit:Int) (cmp:H6→H6→Option Int):Option (List H6):=
 loop (fun nx23 (s23:Int×Int×Int×Bool×Bool)=>
  chk (s23.2.1 - s23.1) fun v25=>
  bif decide (v25≤12) then
  (bnd (Qa F data s23.1 s23.2.1 cmp) fun r29=>
   some r29)
  else
  (bif decide (s23.2.2.1=0) then
   (none)
   else
   (bif (!s23.2.2.2.1) then
    (none)
    else
    (none)))) F (a,b,limit,true,true)
theorem M_slices_pdqsortCmpFunc_apiTask_p230000012 (F:Nat) (data:List H6) (data_q:Nat) (a:Int) (b:Int) (limit:Int) (cmp:H6→H6→Option Int) (cmp_f:FuncId) (cmp_c:List AV) (cmp_B:Hb Tryz.prog cmp_f=true) (cmp_d:Qm (fun _=>false) cmp_c=true) (cmp_w:∀ a0 a1 q,cmp a0 a1=some q→Pure Tryz.prog cmp_f ([.agg (H6.cs a0),.agg (H6.cs a1)]++cmp_c) (·=G0 q)) (r:(List H6)) (h:Jt F data a b limit cmp=some r):Jr Tryz.prog 106 [.vec 1084 data_q 4 data.length,G0 a,G0 b,G0 limit,.fn cmp_f cmp_c] [(1084,.vec 94 4 data_q (data.map H6.av))] (fun av L'=>av=.tup []∧L'=[(1084,.vec 94 4 data_q (r.map H6.av))]):=by
 unfold Jt at h
 refine Ju [1084] [] Tryz.func106 O O (inAll O) ?_
 refine G6 fun K1 hK1=>G3 ?_
 refine JLg (BL true) (G9 O O) ?_
 refine G8 (hK1 _ _ ?_)
 refine G6 fun K2 hK2=>G3 ?_
 refine JLg (BL true) (G9 O O) ?_
 refine G8 (hK2 _ _ ?_)
 refine Gg ?_
 obtain⟨b23,hb23,h⟩:=loop_in h
 refine H7 (fun i23 (s23:Int×Int×Int×Bool×Bool)=>loop b23 i23 s23=some r) (fun i23 s23=>[(0,.vec 1084 data_q 4 data.length),(1,G0 s23.1),(2,G0 s23.2.1),(3,G0 s23.2.2.1),(4,.fn cmp_f cmp_c),(10,BL s23.2.2.2.1),(11,BL s23.2.2.2.2)]) (fun i23 s23=>[(1084,.vec 94 4 data_q (data.map H6.av))]) (fun i23=>i23) F (a,b,limit,true,true) h ⟨⟨.same O,.same O,.same O,.same O,.same (H8 _ _ cmp_d),.same O,.same O,G⟩,⟨⟨_,O,.vec⟩,G⟩,O⟩ ?_
 clear h
 intro i23 s23 hi23 K23 e23
 obtain⟨m23,nx23,hm_23,hn23,h⟩:=loop_out hi23
 replace h:=app2 hb23 h
 refine Gg ?_
 refine G6 fun K24 hK24=>G3 ?_
 refine JLg (G0 s23.2.1) (G7 O O) ?_
 refine JLg (G0 s23.1) (G7 O O) ?_
 obtain⟨v25,hv25,h⟩:=Hm h
 refine JLg (G0 v25) (Rz hv25 O O O) ?_
 refine JLg (G0 v25) (G9 O O) ?_
 refine G8 (hK24 _ _ ?_)
 refine G6 (fun K26 hK26=>?_)
 refine G6 fun K27 hK27=>G3 ?_
 refine JLg (G0 v25) (G7 O O) ?_
 refine JLg (BL (decide (v25≤12))) (A_leq O O O) ?_
 refine G8 (hK27 _ _ ?_)
 refine Gh O (fun hb=>?_) (fun hb=>?_)
 ·
  replace h:=Gv hb h
  refine G6 fun K28 hK28=>G3 ?_
  refine JLg (.vec 1084 data_q 4 data.length) (G7 O O) ?_
  refine JLg (G0 s23.1) (G7 O O) ?_
  refine JLg (G0 s23.2.1) (G7 O O) ?_
  refine JLg (.fn cmp_f cmp_c) (G7 O O) ?_
  obtain⟨r29,hr29,h⟩:=Ge h
  refine JLg (.tup []) (Rm (args:=[.vec 1084 data_q 4 data.length,G0 s23.1,G0 s23.2.1,.fn cmp_f cmp_c]) (L0:=[(1084,.vec 94 4 data_q (data.map H6.av))]) (Lr:=[(1084,.vec 94 4 data_q (r29.map H6.av))]) O (M_slices_insertionSortCmpFunc_apiTask_p230000012 F data data_q s23.1 s23.2.1 cmp cmp_f cmp_c cmp_B cmp_d cmp_w r29 hr29) tf_call_117 ⟨.inl O,O,.inl O,O,.inl O,O,.inl O,(H8 _ _ cmp_d),G⟩ ⟨O,G⟩ O O O) ?_
  refine G8 (hK28 _ _ ?_)
  refine Gu ?_
  obtain rfl:=Option.some.inj h
  exact⟨[],[(1084,.vec 94 4 data_q (r29.map H6.av))],⟨⟨_,O,.vec⟩,G⟩,O,G,O,O⟩
 ·
  replace h:=Hp hb h
  refine Gj ?_
  refine hK26 _ _ ?_
  refine G6 (fun K30 hK30=>?_)
  refine G6 fun K31 hK31=>G3 ?_
  refine JLg (G0 s23.2.2.1) (G7 O O) ?_
  refine JLg (BL (decide (s23.2.2.1=0))) (Qb O O O) ?_
  refine G8 (hK31 _ _ ?_)
  refine Gh O (fun hb=>?_) (fun hb=>?_)
  ·
   replace h:=Gv hb h
   refine G6 (fun K32 hK32=>?_)
   cases h
  ·
   replace h:=Hp hb h
   refine Gj ?_
   refine hK30 _ _ ?_
   refine G6 (fun K33 hK33=>?_)
   refine G6 fun K34 hK34=>G3 ?_
   refine JLg (BL s23.2.2.2.1) (G7 O O) ?_
   refine JLg (BL (!s23.2.2.2.1)) (Rj (b:=s23.2.2.2.1) O O) ?_
   refine G8 (hK34 _ _ ?_)
   refine Gh O (fun hb=>?_) (fun hb=>?_)
   ·
    replace h:=Gv hb h
    refine G6 (fun K35 hK35=>?_)
    cases h
   ·
    replace h:=Hp hb h
    refine Gj ?_
    refine hK33 _ _ ?_
    refine G6 (fun K36 hK36=>?_)
    cases h

def M_slices_SortFunc_apiTask (F:Nat) (x:List H6) (cmp:H6→H6→Option Int):Option (List H6):=
 bnd (M_math_bits_Len (IntKind.u64.wrap (x.length:Int))) fun r2=>
 bnd (Jt F x 0 (x.length:Int) r2 cmp) fun r3=>
 some r3
theorem M_slices_SortFunc_apiTask_p230000012 (F:Nat) (x:List H6) (x_q:Nat) (cmp:H6→H6→Option Int) (cmp_f:FuncId) (cmp_c:List AV) (cmp_B:Hb Tryz.prog cmp_f=true) (cmp_d:Qm (fun _=>false) cmp_c=true) (cmp_w:∀ a0 a1 q,cmp a0 a1=some q→Pure Tryz.prog cmp_f ([.agg (H6.cs a0),.agg (H6.cs a1)]++cmp_c) (·=G0 q)) (r:(List H6)) (h:M_slices_SortFunc_apiTask F x cmp=some r):Jr Tryz.prog 79 [.vec 1084 x_q 4 x.length,.fn cmp_f cmp_c] [(1084,.vec 94 4 x_q (x.map H6.av))] (fun av L'=>av=.tup []∧L'=[(1084,.vec 94 4 x_q (r.map H6.av))]):=by
 unfold M_slices_SortFunc_apiTask at h
 refine Ju [1084] [] Tryz.func79 O O (inAll O) ?_
 refine G6 fun K1 hK1=>G3 ?_
 refine JLg (.vec 1084 x_q 4 x.length) (G7 O O) ?_
 refine JL_vlenM (f:=H6.av) (xs:=x) R7 O O O (fun hm6=>?_) O O O
 refine JLg (Em x.length) (G9 O O) ?_
 refine G8 (hK1 _ _ ?_)
 refine G3 ?_
 refine JLg (.vec 1084 x_q 4 x.length) (G7 O O) ?_
 refine JLg (Em x.length) (G7 O O) ?_
 refine JLg (Em x.length) (G7 O O) ?_
 refine JLg (.sc (.int .u64 (IntKind.u64.wrap (x.length:Int)))) (Yb tf_int_164 Rs O O O) ?_
 obtain⟨r2,hr2,h⟩:=Ge h
 refine JLg (G0 r2) (H1 (args:=[.sc (.int .u64 (IntKind.u64.wrap (x.length:Int)))]) O (M_math_bits_Len_w (IntKind.u64.wrap (x.length:Int)) r2 hr2) tf_call_78 ⟨O,O,G⟩) ?_
 refine JLg (.fn cmp_f cmp_c) (G7 O O) ?_
 obtain⟨r3,hr3,h⟩:=Ge h
 refine JLg (.tup []) (Rm (args:=[.vec 1084 x_q 4 x.length,G0 0,Em x.length,G0 r2,.fn cmp_f cmp_c]) (L0:=[(1084,.vec 94 4 x_q (x.map H6.av))]) (Lr:=[(1084,.vec 94 4 x_q (r3.map H6.av))]) O (M_slices_pdqsortCmpFunc_apiTask_p230000012 F x x_q 0 (x.length:Int) r2 cmp cmp_f cmp_c cmp_B cmp_d cmp_w r3 hr3) tf_call_106 ⟨.inl O,O,.inl O,O,.inl O,O,.inl O,O,.inl O,(H8 _ _ cmp_d),G⟩ ⟨O,G⟩ O O O) ?_
 refine G8 ?_
 obtain rfl:=Option.some.inj h
 exact⟨[],[(1084,.vec 94 4 x_q (r3.map H6.av))],⟨⟨_,O,.vec⟩,G⟩,O,G,O,O⟩

def M_moves_sorted_apiTask (F:Nat) (l:List H6) (compare:H6→H6→Option Int):Option (List H6):=
 bnd (M_slices_SortFunc_apiTask F l compare) fun r3=>
 some r3
theorem M_moves_sorted_apiTask_p230000012 (F:Nat) (l:List H6) (l_q:Nat) (compare:H6→H6→Option Int) (compare_f:FuncId) (compare_c:List AV) (compare_B:Hb Tryz.prog compare_f=true) (compare_d:Qm (fun _=>false) compare_c=true) (compare_w:∀ a0 a1 q,compare a0 a1=some q→Pure Tryz.prog compare_f ([.agg (H6.cs a0),.agg (H6.cs a1)]++compare_c) (·=G0 q)) (r:(List H6)) (h:M_moves_sorted_apiTask F l compare=some r):Jr Tryz.prog 50 [.vec 1084 l_q 4 l.length,.fn compare_f compare_c] [(1084,.vec 94 4 l_q (l.map H6.av))] (fun av L'=>∃ p:Nat,av=.vec 1084 p 4 r.length∧L'=[(1084,.vec 94 4 p (r.map H6.av))]):=by
 unfold M_moves_sorted_apiTask at h
 refine Ju [1084] [.tmp 4] Tryz.func50 O O (inAll O) ?_
 refine G6 fun K1 hK1=>G3 ?_
 refine JLg (.vec 1138 (([]:List H6).length) 4 (([]:List H6).length)) (A_vnil 1138 94 4 O O O) ?_
 refine G8 (hK1 _ _ ?_)
 refine G6 fun K2 hK2=>G3 ?_
 refine JLg (.vec 1084 l_q 4 l.length) (G7 O O) ?_
 refine JLg (.fn compare_f compare_c) (G7 O O) ?_
 obtain⟨r3,hr3,h⟩:=Ge h
 refine JLg (.tup []) (Rm (args:=[.vec 1084 l_q 4 l.length,.fn compare_f compare_c]) (L0:=[(1084,.vec 94 4 l_q (l.map H6.av))]) (Lr:=[(1084,.vec 94 4 l_q (r3.map H6.av))]) O (M_slices_SortFunc_apiTask_p230000012 F l l_q compare compare_f compare_c compare_B compare_d compare_w r3 hr3) tf_call_79 ⟨.inl O,O,.inl O,(H8 _ _ compare_d),G⟩ ⟨O,G⟩ O O O) ?_
 refine G8 (hK2 _ _ ?_)
 refine G6 fun K4 hK4=>G3 ?_
 refine JLg (.vec 1084 l_q 4 l.length) (G7 O O) ?_
 refine JLg (.vec 1084 l_q 4 l.length) (G9 O O) ?_
 refine G8 (hK4 _ _ ?_)
 refine JC_vlen 4 O O (fun hn_=>?_)
 refine Gu ?_
 obtain rfl:=Option.some.inj h
 exact⟨[.vec 1084 l_q 4 l.length],[(1084,.vec 94 4 l_q (r3.map H6.av))],⟨⟨_,O,.vec⟩,G⟩,O,⟨⟨_,O,.conv (.same O)⟩,G⟩,l_q,congrArg (fun n_:Nat=>(.vec 1084 l_q 4 n_:AV)) (hn_.trans (List.length_map _)),O⟩

def M_moves_Tasks (F:Nat) (s:Gz) (l:List Move) (Rp:((List H6)×Int)→Prop):Option Prop:=
 bnd (S_ship_Right s) fun r4=>
 bif (!r4) then
 (some (Rp ([],2)))
 else
 (each (fun y189 i189 (s189:(Gr Hz H6)) nx189=>
   jp (fun kj196=>
    bif ((decide (y189.Kind < 1))||(decide (4 < y189.Kind))) then
    (kj196 ((decide (y189.Kind < 1))||(decide (4 < y189.Kind))))
    else
    (bif (((decide (y189.Kind=1))||(decide (y189.Kind=4)))&&((decide (y189.Ga < 0))||(decide ((s.Covers.length:Int)≤y189.Ga)))) then
     (kj196 (((decide (y189.Kind=1))||(decide (y189.Kind=4)))&&((decide (y189.Ga < 0))||(decide ((s.Covers.length:Int)≤y189.Ga)))))
     else
     (kj196 ((!((decide (y189.Kind=1))||(decide (y189.Kind=4))))&&((decide (y189.Slot.G5 < 0))||(decide ((s.Columns.length:Int)≤y189.Slot.G5))))))) fun(j196:Bool)=>
   bif j196 then
   (some (Rp ([],2)))
   else
   (jp (fun kj201=>
     bif decide (3≤y189.Kind) then
     (kj201 2)
     else
     (kj201 1)) fun(j201:Int)=>
    jp (fun kj203=>
     bif ((decide (y189.Kind=1))||(decide (y189.Kind=4))) then
     (Jy s.Covers y189.Ga fun y205=>
      kj203 y205.Bay)
     else
     (Jy s.Columns y189.Slot.G5 fun y207=>
      kj203 y207.Bay)) fun(j203:Int)=>
    bnd (some (Gr.get s189 (Hz.mk j201 j203) (H6.mk 0 0 0 0))) fun v211=>
    bnd (some (Gr.get s189 (Hz.mk j201 j203) (H6.mk 0 0 0 0))) fun v212=>
    jp (fun kj213=>
     bif ((decide (y189.Kind=1))||(decide (y189.Kind=4))) then
     (chk (v212.Covers+1) fun v215=>
      kj213 (v211.Lifts,v215))
     else
     (chk (v211.Lifts+1) fun v216=>
      kj213 (v216,v212.Covers))) fun(j213:Int×Int)=>
    nx189 (Gr.put s189 (Hz.mk j201 j203) (H6.mk j203 j201 j213.1 j213.2))))
  (fun(s189:(Gr Hz H6))=>
   eachM (fun(x228:Hz×H6) (s228:(List H6)) nx228=>
    need (decide ((s228.length+[x228.2].length)*32≤140737488355328∧s228.length+[x228.2].length≤maxLen)) <|
    nx228 (s228++[x228.2]))
   (fun(s228:(List H6))=>
    bnd (M_moves_sorted_apiTask F s228 (fun z0 z1=>M_moves_Tasks_1 z0 z1)) fun r235=>
    some (Rp (r235,0))) (Gr.l s189) []) l 0 (Gr.empty:Gr Hz H6))
theorem M_moves_Tasks_w (F:Nat) (s:Gz) (l:List Move) (Rp:((List H6)×Int)→Prop) (p:Prop) (h:M_moves_Tasks F s l Rp=some p) (hp:p):Pure Tryz.prog 22 [.agg (Gz.cs s),E3 l] (fun av=>∃ r,Rp r∧av=.tup [Eb r.1,G0 r.2]):=by
 unfold M_moves_Tasks at h
 refine H9 [.tmp 4,.tmp 5] Tryz.func22 O O ?_
 refine G6 fun K1 hK1=>G3 ?_
 refine JLg (.ptr 1080 0) (Q1 (u:=.agg (Gz.cs s)) (cs:=(Gz.cs s)) 1080 O O O O O) ?_
 refine JLg (Eb ([]:List H6)) (Jj 4 O O) ?_
 refine JLg (G0 0) (G9 O O) ?_
 refine G8 (hK1 _ _ ?_)
 refine Gk [(1,E3 l),(2,Ee s)] [] 1080 rfl rfl rfl G rfl (by exact⟨.conv (.same rfl),.ptr,G⟩) ?_
 refine G6 (fun K2 hK2=>?_)
 refine G6 fun K3 hK3=>G3 ?_
 refine JLg (.agg (Gz.cs s)) (Gi J0 O O O) ?_
 obtain⟨r4,hr4,h⟩:=Ge h
 refine JLg (BL r4) (H1 (args:=[.agg (Gz.cs s)]) O (S_ship_Right_w.down s r4 hr4) tf_call_29 ⟨O,O,G⟩) ?_
 refine JLg (BL (!r4)) (Rj (b:=r4) O O) ?_
 refine G8 (hK3 _ _ ?_)
 refine Gh O (fun hb=>?_) (fun hb=>?_)
 ·
  replace h:=Gv hb h
  refine G6 fun K5 hK5=>G3 ?_
  refine JLg (Eb ([]:List H6)) (Jj 4 O O) ?_
  refine JLg (G0 2) (G9 O O) ?_
  refine G8 (hK5 _ _ ?_)
  refine Gu ?_
  exact⟨[Eb ([]:List H6),G0 2],[],G,O,⟨⟨_,O,.conv (.same O)⟩,⟨_,O,.conv (.same O)⟩,G⟩,O,([],2),Eq.mpr (Option.some.inj h) hp,O⟩
 ·
  replace h:=Hp hb h
  refine Gj ?_
  refine hK2 _ _ ?_
  refine G6 fun K6 hK6=>G3 ?_
  refine JLg (.mp 1086) (Rt 1086 Hz.kv H6.av O O) ?_
  refine JLg (.mp 1086) (G9 O O) ?_
  refine G8 (hK6 _ _ ?_)
  refine G6 (fun K7 hK7=>?_)
  refine G6 fun K8 hK8=>G3 ?_
  refine JLg (E3 l) (G7 O O) ?_
  refine Hs (f:=Move.av) (xs:=l) Qi O O (fun hm20=>?_) O O O
  refine JLg (G0 0) (G7 O O) ?_
  refine G8 (hK8 _ _ ?_)
  refine Gg ?_
  obtain⟨b189,kx189,hb189,hkx189,h⟩:=Hu h
  refine H7 (fun i189 (s189:(Gr Hz H6))=>each b189 kx189 (List.drop i189 l) i189 s189=some p) (fun i189 s189=>[(2,Ee s),(6,.mp 1086),(19,E3 l),(20,Em l.length),(21,Em i189)]) (fun i189 s189=>[(1086,MP 127 Hz.kv H6.av s189)]) (fun i189=>l.length - i189) 0 (Gr.empty:Gr Hz H6) h ⟨(by repeat' constructor),⟨⟨_,rfl,.map⟩,G⟩,rfl⟩ ?_
  clear h
  intro i189 s189 hi189 K189 e189
  refine G6 fun K190 hK190=>G3 ?_
  refine JLg (BL (decide ((i189:Int) < (l.length:Int)))) (Hy O O O) ?_
  refine G8 (hK190 _ _ ?_)
  refine G6 (fun K191 hK191=>?_)
  refine Gh O (fun hb=>?_) (fun hb=>?_)
  ·
   have hk189:=J9 hb
   obtain⟨y189,nx189,hy189,hn189,h⟩:=Hn hi189 hk189
   replace h:=app4 hb189 h
   refine Gj ?_
   refine hK191 _ _ ?_
   refine G6 (fun K192 hK192=>?_)
   refine Gg ?_
   refine G6 fun K193 hK193=>G3 ?_
   refine JLg (Ej y189) (H0 (f:=Move.av) (xs:=l) (y:=y189) O O O Qi hy189 O) ?_
   refine JLg (.agg (Move.cs y189)) (Gi tf_agg_59 O O O) ?_
   refine JLg (.ptr 1081 0) (Hi 1081 6 Yr O O) ?_
   refine Hj (u:=.junk) (H2 (u:=.agg (Move.cs y189)) (ds:=[U8 y189.Kind,G0 y189.Gp,G0 y189.Slot.G5,G0 y189.Slot.Tier,U8 y189.Slot.Half,G0 y189.Ga]) tf_size_59 O O O O O O O O) ?_
   refine G8 (hK193 _ _ ?_)
   refine Gk [(2,Ee s),(6,.mp 1086),(8,Ej y189),(19,E3 l),(20,Em l.length),(21,Em i189)] [(1086,MP 127 Hz.kv H6.av s189)] 1081 rfl rfl rfl ⟨⟨_,rfl,.map⟩,G⟩ rfl (by repeat' (first | exact .ptr | constructor)) ?_
   refine G6 fun K194 hK194=>G3 ?_
   refine JLg (Ej y189) (Gc Ro O O O) ?_
   refine JLg (U8 y189.Kind) (Gf Hx O O O) ?_
   refine JLg (BL (decide (y189.Kind=1))) (Qb O O O) ?_
   refine JLg (BL (decide (y189.Kind=1))) (G7 O O) ?_
   refine Gd (u:=Ej y189) [] O O O .scf G (fun hc=>Gc Ro O O O) ?_
   refine Gd (u:=U8 y189.Kind) [(29,Ej y189)] O O O .scf ⟨.all id,G⟩ (fun hc=>Gf Hx O O O) ?_
   refine Gd (u:=BL (decide (y189.Kind=4))) [(30,U8 y189.Kind)] O O O .scf ⟨.all id,G⟩ (fun hc=>Qb O O O) ?_
   refine JLg (BL ((decide (y189.Kind=1))||(decide (y189.Kind=4)))) (Y4 O O O O) ?_
   refine JLg (BL ((decide (y189.Kind=1))||(decide (y189.Kind=4)))) (G9 O O) ?_
   refine G8 (hK194 _ _ ?_)
   refine G6 (fun K195 hK195=>?_)
   refine Gg ?_
   obtain⟨kj196,hkj196,h⟩:=Qd h
   refine Jq (fun j196:Bool=>kj196 j196=some p) (fun j196=>[(2,Ee s),(6,.mp 1086),(8,Ej y189),(9,BL ((decide (y189.Kind=1))||(decide (y189.Kind=4)))),(19,E3 l),(20,Em l.length),(21,Em i189),(33,BL j196)]) (fun j196=>[(1086,MP 127 Hz.kv H6.av s189)]) (fun Kj196 ej196=>?_) ?_
   ·
    refine G6 fun K197 hK197=>G3 ?_
    refine JLg (Ej y189) (Gc Ro O O O) ?_
    refine JLg (U8 y189.Kind) (Gf Hx O O O) ?_
    refine JLg (BL (decide (y189.Kind < 1))) (Hy O O O) ?_
    refine JLg (BL (decide (y189.Kind < 1))) (G7 O O) ?_
    refine Gd (u:=Ej y189) [] O O O .scf G (fun hc=>Gc Ro O O O) ?_
    refine Gd (u:=U8 y189.Kind) [(38,Ej y189)] O O O .scf ⟨.all id,G⟩ (fun hc=>Gf Hx O O O) ?_
    refine Gd (u:=BL (decide (4 < y189.Kind))) [(39,U8 y189.Kind)] O O O .scf ⟨.all id,G⟩ (fun hc=>Yd O O O) ?_
    refine JLg (BL ((decide (y189.Kind < 1))||(decide (4 < y189.Kind)))) (Y4 O O O O) ?_
    refine JLg (BL ((decide (y189.Kind < 1))||(decide (4 < y189.Kind)))) (G9 O O) ?_
    refine G8 (hK197 _ _ ?_)
    refine Gh O (fun hb=>?_) (fun hb=>?_)
    ·
     replace h:=Gv hb h
     refine Gj ?_
     exact ej196 _ _ ((decide (y189.Kind < 1))||(decide (4 < y189.Kind))) h ⟨(by repeat' constructor),⟨⟨_,rfl,.map⟩,G⟩,rfl⟩
    ·
     replace h:=Hp hb h
     refine G6 fun K198 hK198=>G3 ?_
     refine JLg (BL ((decide (y189.Kind=1))||(decide (y189.Kind=4)))) (G7 O O) ?_
     refine JLg (BL ((decide (y189.Kind=1))||(decide (y189.Kind=4)))) (G7 O O) ?_
     refine Gd (u:=.dptr [G0 y189.Ga]) [] O O O .sct G (fun hc=>Gc Yh O O O) ?_
     refine Gd (u:=G0 y189.Ga) [(44,.dptr [G0 y189.Ga])] O O O .sct ⟨.all id,G⟩ (fun hc=>Gf Gb O O O) ?_
     refine Gd (u:=BL (decide (y189.Ga < 0))) [(45,G0 y189.Ga)] O O O .sct ⟨.all id,G⟩ (fun hc=>Hy O O O) ?_
     refine Gd (u:=BL (decide (y189.Ga < 0))) [(46,BL (decide (y189.Ga < 0)))] O O O .sct ⟨.all id,G⟩ (fun hc=>G7 O O) ?_
     refine Gd (u:=.dptr [G0 y189.Ga]) [] O O O .optf G (fun hc=>Gc Yh O O O) ?_
     refine Gd (u:=G0 y189.Ga) [(48,.dptr [G0 y189.Ga])] O O O .optf ⟨.all id,G⟩ (fun hc=>Gf Gb O O O) ?_
     refine Gd (u:=.dptr [E6 s.Covers,G0 s.Light.Kilos,G0 s.Light.X,G0 s.Light.Y,G0 s.Light.Z,E7 s.Rows,E8 s.Frames,E9 s.Tanks,G0 s.G4.Tolerance,G0 s.G4.Trim,G0 s.G4.List_,G0 s.G4.Stability]) [] O O O .optf G (fun hc=>Gc Qs O O O) ?_
     refine Gd (u:=E6 s.Covers) [(50,.dptr [E6 s.Covers,G0 s.Light.Kilos,G0 s.Light.X,G0 s.Light.Y,G0 s.Light.Z,E7 s.Rows,E8 s.Frames,E9 s.Tanks,G0 s.G4.Tolerance,G0 s.G4.Trim,G0 s.G4.List_,G0 s.G4.Stability])] O O O .optf ⟨.all id,G⟩ (fun hc=>Gf Ra O O O) ?_
     refine Gd (u:=Em s.Covers.length) [(51,E6 s.Covers)] O O O .optf ⟨.all id,G⟩ (fun hc=>Yz (f:=Ga.av) (xs:=s.Covers) Qq O O) ?_
     refine Gd (u:=BL (decide ((s.Covers.length:Int)≤y189.Ga))) [(49,G0 y189.Ga),(52,Em s.Covers.length)] O O O .optf ⟨.all id,.all id,G⟩ (fun hc=>Yu O O O) ?_
     refine Gd (u:=BL ((decide (y189.Ga < 0))||(decide ((s.Covers.length:Int)≤y189.Ga)))) [(47,BL (decide (y189.Ga < 0))),(53,_)] O O O .sct ⟨.all id,.part,G⟩ (fun hc=>Y4 O O O O) ?_
     refine JLg (BL (((decide (y189.Kind=1))||(decide (y189.Kind=4)))&&((decide (y189.Ga < 0))||(decide ((s.Covers.length:Int)≤y189.Ga))))) (Qr O O O O) ?_
     refine JLg (BL (((decide (y189.Kind=1))||(decide (y189.Kind=4)))&&((decide (y189.Ga < 0))||(decide ((s.Covers.length:Int)≤y189.Ga))))) (G9 O O) ?_
     refine G8 (hK198 _ _ ?_)
     refine Gh O (fun hb=>?_) (fun hb=>?_)
     ·
      replace h:=Gv hb h
      refine Gj ?_
      exact ej196 _ _ (((decide (y189.Kind=1))||(decide (y189.Kind=4)))&&((decide (y189.Ga < 0))||(decide ((s.Covers.length:Int)≤y189.Ga)))) h ⟨(by repeat' constructor),⟨⟨_,rfl,.map⟩,G⟩,rfl⟩
     ·
      replace h:=Hp hb h
      refine G3 ?_
      refine JLg (BL ((decide (y189.Kind=1))||(decide (y189.Kind=4)))) (G7 O O) ?_
      refine JLg (BL (!((decide (y189.Kind=1))||(decide (y189.Kind=4))))) (Rj (b:=((decide (y189.Kind=1))||(decide (y189.Kind=4)))) O O) ?_
      refine JLg (BL (!((decide (y189.Kind=1))||(decide (y189.Kind=4))))) (G7 O O) ?_
      refine Gd (u:=.dptr ((Move.cs y189).drop 2)) [] O O O .sct G (fun hc=>Gc tf_field_59_2 O O O) ?_
      refine Gd (u:=.dptr ((Move.cs y189).drop 2)) [(59,.dptr ((Move.cs y189).drop 2))] O O O .sct ⟨.all id,G⟩ (fun hc=>Gc J8 O O O) ?_
      refine Gd (u:=G0 y189.Slot.G5) [(60,.dptr ((Move.cs y189).drop 2))] O O O .sct ⟨.all id,G⟩ (fun hc=>Gf Gb O O O) ?_
      refine Gd (u:=BL (decide (y189.Slot.G5 < 0))) [(61,G0 y189.Slot.G5)] O O O .sct ⟨.all id,G⟩ (fun hc=>Hy O O O) ?_
      refine Gd (u:=BL (decide (y189.Slot.G5 < 0))) [(62,BL (decide (y189.Slot.G5 < 0)))] O O O .sct ⟨.all id,G⟩ (fun hc=>G7 O O) ?_
      refine Gd (u:=.dptr ((Move.cs y189).drop 2)) [] O O O .optf G (fun hc=>Gc tf_field_59_2 O O O) ?_
      refine Gd (u:=.dptr ((Move.cs y189).drop 2)) [(64,.dptr ((Move.cs y189).drop 2))] O O O .optf ⟨.all id,G⟩ (fun hc=>Gc J8 O O O) ?_
      refine Gd (u:=G0 y189.Slot.G5) [(65,.dptr ((Move.cs y189).drop 2))] O O O .optf ⟨.all id,G⟩ (fun hc=>Gf Gb O O O) ?_
      refine Gd (u:=Ee s) [] O O O .optf G (fun hc=>Gc J6 O O O) ?_
      refine Gd (u:=E4 s.Columns) [(67,Ee s)] O O O .optf ⟨.all id,G⟩ (fun hc=>Gf Jd O O O) ?_
      refine Gd (u:=Em s.Columns.length) [(68,E4 s.Columns)] O O O .optf ⟨.all id,G⟩ (fun hc=>Yz (f:=G5.av) (xs:=s.Columns) J7 O O) ?_
      refine Gd (u:=BL (decide ((s.Columns.length:Int)≤y189.Slot.G5))) [(66,G0 y189.Slot.G5),(69,Em s.Columns.length)] O O O .optf ⟨.all id,.all id,G⟩ (fun hc=>Yu O O O) ?_
      refine Gd (u:=BL ((decide (y189.Slot.G5 < 0))||(decide ((s.Columns.length:Int)≤y189.Slot.G5)))) [(63,BL (decide (y189.Slot.G5 < 0))),(70,_)] O O O .sct ⟨.all id,.part,G⟩ (fun hc=>Y4 O O O O) ?_
      refine JLg (BL ((!((decide (y189.Kind=1))||(decide (y189.Kind=4))))&&((decide (y189.Slot.G5 < 0))||(decide ((s.Columns.length:Int)≤y189.Slot.G5))))) (Qr O O O O) ?_
      refine JLg (BL ((!((decide (y189.Kind=1))||(decide (y189.Kind=4))))&&((decide (y189.Slot.G5 < 0))||(decide ((s.Columns.length:Int)≤y189.Slot.G5))))) (G9 O O) ?_
      refine G8 ?_
      exact ej196 _ _ ((!((decide (y189.Kind=1))||(decide (y189.Kind=4))))&&((decide (y189.Slot.G5 < 0))||(decide ((s.Columns.length:Int)≤y189.Slot.G5)))) h ⟨(by repeat' constructor),⟨⟨_,rfl,.map⟩,G⟩,rfl⟩
   ·intro j196 h
    replace h:=app1 hkj196 h
    refine Gh O (fun hb=>?_) (fun hb=>?_)
    ·
     replace h:=Gv hb h
     refine G6 fun K199 hK199=>G3 ?_
     refine JLg (Eb ([]:List H6)) (Jj 4 O O) ?_
     refine JLg (G0 2) (G9 O O) ?_
     refine G8 (hK199 _ _ ?_)
     refine Gu ?_
     exact⟨[Eb ([]:List H6),G0 2],[],G,O,⟨⟨_,O,.conv (.same O)⟩,⟨_,O,.conv (.same O)⟩,G⟩,O,([],2),Eq.mpr (Option.some.inj h) hp,O⟩
    ·
     replace h:=Hp hb h
     refine Gj ?_
     refine hK195 _ _ ?_
     refine G6 fun K200 hK200=>G3 ?_
     refine JLg (.agg [G0 0,G0 1,G0 0,G0 0]) (J4 (cs:=[G0 0,G0 1,G0 0,G0 0]) [(0,1),(1,1),(2,1),(3,1)] [G0 0,G0 0,G0 0,G0 0] [.int .i64 0,.int .i64 0,.int .i64 0,.int .i64 0] tf_places_94 tf_zero_94 ⟨.inl O,.inl O,.inl O,.inl O,G⟩ O O) ?_
     refine JLg (.ptr 1082 0) (Hi 1082 4 tf_zsize_94 O O) ?_
     refine Hj (u:=.junk) (H2 (u:=.agg [G0 0,G0 1,G0 0,G0 0]) (ds:=[G0 0,G0 1,G0 0,G0 0]) tf_size_94 O O O O O O O O) ?_
     refine G8 (hK200 _ _ ?_)
     obtain⟨kj201,hkj201,h⟩:=Qd h
     refine Jq (fun j201:Int=>kj201 j201=some p) (fun j201=>[(2,Ee s),(6,.mp 1086),(8,Ej y189),(9,BL ((decide (y189.Kind=1))||(decide (y189.Kind=4)))),(10,.ptr 1082 0),(19,E3 l),(20,Em l.length),(21,Em i189)]) (fun j201=>[(1086,MP 127 Hz.kv H6.av s189),(1082,.box 94 [G0 0,G0 j201,G0 0,G0 0])]) (fun Kj201 ej201=>?_) ?_
     ·
      refine G6 fun K202 hK202=>G3 ?_
      refine JLg (Ej y189) (Gc Ro O O O) ?_
      refine JLg (U8 y189.Kind) (Gf Hx O O O) ?_
      refine JLg (BL (decide (3≤y189.Kind))) (Yu O O O) ?_
      refine G8 (hK202 _ _ ?_)
      refine Gh O (fun hb=>?_) (fun hb=>?_)
      ·
       replace h:=Gv hb h
       refine G3 ?_
       refine JLg (.ptr 1082 1) (Jg tf_field_94_1 O O) ?_
       refine Hj (u:=.junk) (H2 (u:=G0 2) (ds:=[G0 0,G0 2,G0 0,G0 0]) R9 O O O O O O O O) ?_
       refine G8 ?_
       exact ej201 _ _ 2 h ⟨(by repeat' constructor),⟨⟨_,rfl,.map⟩,⟨_,rfl,.boxL rfl (by repeat' constructor)⟩,G⟩,rfl⟩
      ·
       replace h:=Hp hb h
       refine Gj ?_
       exact ej201 _ _ 1 h ⟨(by repeat' constructor),⟨⟨_,rfl,.map⟩,⟨_,rfl,.boxL rfl (by repeat' constructor)⟩,G⟩,rfl⟩
     ·intro j201 h
      replace h:=app1 hkj201 h
      obtain⟨kj203,hkj203,h⟩:=Qd h
      refine Jq (fun j203:Int=>kj203 j203=some p) (fun j203=>[(2,Ee s),(6,.mp 1086),(9,BL ((decide (y189.Kind=1))||(decide (y189.Kind=4)))),(10,.ptr 1082 0),(19,E3 l),(20,Em l.length),(21,Em i189)]) (fun j203=>[(1086,MP 127 Hz.kv H6.av s189),(1082,.box 94 [G0 j203,G0 j201,G0 0,G0 0])]) (fun Kj203 ej203=>?_) ?_
      ·
       refine G6 fun K204 hK204=>G3 ?_
       refine JLg (BL ((decide (y189.Kind=1))||(decide (y189.Kind=4)))) (G7 O O) ?_
       refine G8 (hK204 _ _ ?_)
       refine Gh O (fun hb=>?_) (fun hb=>?_)
       ·
        replace h:=Gv hb h
        refine G3 ?_
        refine JLg (.dptr [E6 s.Covers,G0 s.Light.Kilos,G0 s.Light.X,G0 s.Light.Y,G0 s.Light.Z,E7 s.Rows,E8 s.Frames,E9 s.Tanks,G0 s.G4.Tolerance,G0 s.G4.Trim,G0 s.G4.List_,G0 s.G4.Stability]) (Gc Qs O O O) ?_
        refine JLg (E6 s.Covers) (Gf Ra O O O) ?_
        refine JLg (.dptr [G0 y189.Ga]) (Gc Yh O O O) ?_
        refine JLg (G0 y189.Ga) (Gf Gb O O O) ?_
        obtain⟨m206,y205,hm206,hy205,h⟩:=R3 h
        refine JLg (.dptr [G0 y205.Bay,E1 y205.Rows]) (H0 (f:=Ga.av) (xs:=s.Covers) (y:=y205) O O O Qq hy205 hm206) ?_
        refine JLg (.dptr [G0 y205.Bay,E1 y205.Rows]) (Gc Y8 O O O) ?_
        refine JLg (G0 y205.Bay) (Gf Gb O O O) ?_
        refine JLg (.ptr 1082 0) (Jg Ye O O) ?_
        refine Hj (u:=.junk) (H2 (u:=G0 y205.Bay) (ds:=[G0 y205.Bay,G0 j201,G0 0,G0 0]) R9 O O O O O O O O) ?_
        refine G8 ?_
        exact ej203 _ _ y205.Bay h ⟨(by repeat' constructor),⟨⟨_,rfl,.map⟩,⟨_,rfl,.boxL rfl (by repeat' constructor)⟩,G⟩,rfl⟩
       ·
        replace h:=Hp hb h
        refine G3 ?_
        refine JLg (Ee s) (Gc J6 O O O) ?_
        refine JLg (E4 s.Columns) (Gf Jd O O O) ?_
        refine JLg (.dptr ((Move.cs y189).drop 2)) (Gc tf_field_59_2 O O O) ?_
        refine JLg (.dptr ((Move.cs y189).drop 2)) (Gc J8 O O O) ?_
        refine JLg (G0 y189.Slot.G5) (Gf Gb O O O) ?_
        obtain⟨m208,y207,hm208,hy207,h⟩:=R3 h
        refine JLg (Ei y207) (H0 (f:=G5.av) (xs:=s.Columns) (y:=y207) O O O J7 hy207 hm208) ?_
        refine JLg (Ei y207) (Gc R1 O O O) ?_
        refine JLg (G0 y207.Bay) (Gf Gb O O O) ?_
        refine JLg (.ptr 1082 0) (Jg Ye O O) ?_
        refine Hj (u:=.junk) (H2 (u:=G0 y207.Bay) (ds:=[G0 y207.Bay,G0 j201,G0 0,G0 0]) R9 O O O O O O O O) ?_
        refine G8 ?_
        exact ej203 _ _ y207.Bay h ⟨(by repeat' constructor),⟨⟨_,rfl,.map⟩,⟨_,rfl,.boxL rfl (by repeat' constructor)⟩,G⟩,rfl⟩
      ·intro j203 h
       replace h:=app1 hkj203 h
       refine G6 fun K209 hK209=>G3 ?_
       refine JLg (.ptr 1082 1) (Jg tf_field_94_1 O O) ?_
       refine JLg (G0 j201) (Jx Gb O O O O) ?_
       refine JLg (.ptr 1082 0) (Jg Ye O O) ?_
       refine JLg (G0 j203) (Jx Gb O O O O) ?_
       refine JLg (.agg [G0 j201,G0 j203]) (A_buildArr (cs:=[G0 j201,G0 j203]) [.int .i64 0,.int .i64 0] tf_arr_128 tf_zero_128 O O) ?_
       refine JLg (.ptr 1083 0) (Hi 1083 2 tf_zsize_128 O O) ?_
       refine Hj (u:=.junk) (H2 (u:=.agg [G0 j201,G0 j203]) (ds:=[G0 j201,G0 j203]) tf_size_128 O O O O O O O O) ?_
       refine G8 (hK209 _ _ ?_)
       refine Gk [(2,Ee s),(6,.mp 1086),(9,BL ((decide (y189.Kind=1))||(decide (y189.Kind=4)))),(10,.ptr 1082 0),(11,.dptr [G0 j201,G0 j203]),(19,E3 l),(20,Em l.length),(21,Em i189)] [(1086,MP 127 Hz.kv H6.av s189),(1082,.box 94 [G0 j203,G0 j201,G0 0,G0 0])] 1083 rfl rfl rfl ⟨⟨_,rfl,.map⟩,⟨_,rfl,.boxEq rfl rfl⟩,G⟩ rfl (by repeat' (first | exact .ptr | constructor)) ?_
       refine G6 (fun K210 hK210=>?_)
       refine R0 (l':=[(2,Ee s),(6,.mp 1086),(9,BL ((decide (y189.Kind=1))||(decide (y189.Kind=4)))),(10,.ptr 1082 0),(11,.dptr [G0 j201,G0 j203]),(19,E3 l),(20,Em l.length),(21,Em i189)]) (L':=[(1086,MP 127 Hz.kv H6.av s189),(1082,.box 94 [G0 j203,G0 j201,G0 0,G0 0])]) ⟨(by repeat' constructor),⟨⟨_,rfl,.map⟩,⟨_,rfl,.boxL rfl (by repeat' constructor)⟩,G⟩,rfl⟩ ?_
       obtain⟨v211,hv211,h⟩:=Ge h
       obtain⟨v212,hv212,h⟩:=Ge h
       refine Qp [9,11] [0,0,0,0,0,0,0,0,0,0,1,0] [0,0,0,0,1,1,1,1,0,0,1,0] [[(1086,MP 127 Hz.kv H6.av s189),(1082,.box 94 [G0 j203,G0 j201,G0 0,G0 0])],((1082,.box 94 [G0 j203,G0 j201,G0 v211.Lifts,G0 0])::[(1086,MP 127 Hz.kv H6.av s189),(1082,.box 94 [G0 j203,G0 j201,G0 0,G0 0])]),((1082,.box 94 [G0 j203,G0 j201,G0 v211.Lifts,G0 v212.Covers])::((1082,.box 94 [G0 j203,G0 j201,G0 v211.Lifts,G0 0])::[(1086,MP 127 Hz.kv H6.av s189),(1082,.box 94 [G0 j203,G0 j201,G0 0,G0 0])]))] Q5 (by kernel_rfl) rfl rfl ?_
       refine Gn (u:=.mp 1086) O O ⟨Gs (G7 O O) O,G⟩ ?_
       refine Gn (u:=.agg [G0 j201,G0 j203]) O O ⟨Gs (Gi tf_agg_128 O O O) O,G⟩ ?_
       refine Gn (u:=.agg (H6.cs v211)) O O ⟨Gs (((Option.some.inj hv211) ▸ Qv (av:=H6.av) (m:=s189) (a:=(Hz.mk j201 j203)) (H6.mk 0 0 0 0) (.agg #[.int .i64 0,.int .i64 0,.int .i64 0,.int .i64 0]) O O O O tk_128 tf_map_127 tf_zv_94 O)) O,G⟩ ?_
       refine Gn (u:=G0 v211.Lifts) O O ⟨Gs (A_field1 tf_f1_94_2 O O O) O,G⟩ ?_
       refine Gn (u:=.mp 1086) O O ⟨Gs (G7 O O) O,Gs (G7 O O) O,G⟩ ?_
       refine Gn (u:=.agg [G0 j201,G0 j203]) O O ⟨Gs (Gi tf_agg_128 O O O) O,Gs (Gi tf_agg_128 O O O) O,G⟩ ?_
       refine Gn (u:=.agg (H6.cs v212)) O O ⟨Gs (((Option.some.inj hv212) ▸ Qv (av:=H6.av) (m:=s189) (a:=(Hz.mk j201 j203)) (H6.mk 0 0 0 0) (.agg #[.int .i64 0,.int .i64 0,.int .i64 0,.int .i64 0]) O O O O tk_128 tf_map_127 tf_zv_94 O)) O,Gs (((Option.some.inj hv212) ▸ Qv (av:=H6.av) (m:=s189) (a:=(Hz.mk j201 j203)) (H6.mk 0 0 0 0) (.agg #[.int .i64 0,.int .i64 0,.int .i64 0,.int .i64 0]) O O O O tk_128 tf_map_127 tf_zv_94 O)) O,G⟩ ?_
       refine Gn (u:=G0 v212.Covers) O O ⟨Gs (A_field1 tf_f1_94_3 O O O) O,Gs (A_field1 tf_f1_94_3 O O O) O,G⟩ ?_
       refine Gn (u:=.ptr 1082 2) O O ⟨Gs (Jg tf_field_94_2 O O) O,G⟩ ?_
       refine D_w0 (u:=.junk) O O O O (Gs (H2 (u:=G0 v211.Lifts) (ds:=[G0 j203,G0 j201,G0 v211.Lifts,G0 0]) R9 O O O O O O O O) O) ?_
       refine Gn (u:=.ptr 1082 3) O O ⟨Gs (Jg tf_field_94_3 O O) O,G⟩ ?_
       refine D_w0 (u:=.junk) O O O O (Gs (H2 (u:=G0 v212.Covers) (ds:=[G0 j203,G0 j201,G0 v211.Lifts,G0 v212.Covers]) R9 O O O O O O O O) O) ?_
       refine Ry ?_
       refine hK210 _ _ ?_
       obtain⟨kj213,hkj213,h⟩:=Qd h
       refine Jq (fun j213:Int×Int=>kj213 j213=some p) (fun j213=>[(2,Ee s),(6,.mp 1086),(10,.ptr 1082 0),(11,.dptr [G0 j201,G0 j203]),(19,E3 l),(20,Em l.length),(21,Em i189)]) (fun j213=>[(1086,MP 127 Hz.kv H6.av s189),(1082,.box 94 [G0 j203,G0 j201,G0 j213.1,G0 j213.2])]) (fun Kj213 ej213=>?_) ?_
       ·
        refine G6 fun K214 hK214=>G3 ?_
        refine JLg (BL ((decide (y189.Kind=1))||(decide (y189.Kind=4)))) (G7 O O) ?_
        refine G8 (hK214 _ _ ?_)
        refine Gh O (fun hb=>?_) (fun hb=>?_)
        ·
         replace h:=Gv hb h
         refine G3 ?_
         refine JLg (.ptr 1082 3) (Jg tf_field_94_3 O O) ?_
         refine JLg (G0 v212.Covers) (Jx Gb O O O O) ?_
         obtain⟨v215,hv215,h⟩:=Hm h
         refine JLg (G0 v215) (Ht hv215 O O O) ?_
         refine JLg (.ptr 1082 3) (Jg tf_field_94_3 O O) ?_
         refine Hj (u:=.junk) (H2 (u:=G0 v215) (ds:=[G0 j203,G0 j201,G0 v211.Lifts,G0 v215]) R9 O O O O O O O O) ?_
         refine G8 ?_
         exact ej213 _ _ (v211.Lifts,v215) h ⟨(by repeat' constructor),⟨⟨_,rfl,.map⟩,⟨_,rfl,.boxL rfl (by repeat' constructor)⟩,G⟩,rfl⟩
        ·
         replace h:=Hp hb h
         refine G3 ?_
         refine JLg (.ptr 1082 2) (Jg tf_field_94_2 O O) ?_
         refine JLg (G0 v211.Lifts) (Jx Gb O O O O) ?_
         obtain⟨v216,hv216,h⟩:=Hm h
         refine JLg (G0 v216) (Ht hv216 O O O) ?_
         refine JLg (.ptr 1082 2) (Jg tf_field_94_2 O O) ?_
         refine Hj (u:=.junk) (H2 (u:=G0 v216) (ds:=[G0 j203,G0 j201,G0 v216,G0 v212.Covers]) R9 O O O O O O O O) ?_
         refine G8 ?_
         exact ej213 _ _ (v216,v212.Covers) h ⟨(by repeat' constructor),⟨⟨_,rfl,.map⟩,⟨_,rfl,.boxL rfl (by repeat' constructor)⟩,G⟩,rfl⟩
       ·intro j213 h
        replace h:=app1 hkj213 h
        refine G3 ?_
        refine JLg (.mp 1086) (G7 O O) ?_
        refine JLg (.agg [G0 j201,G0 j203]) (Gi tf_agg_128 O O O) ?_
        refine JLg (.agg [G0 j203,G0 j201,G0 j213.1,G0 j213.2]) (A_loadAggL Yt O O O O) ?_
        refine Hj (u:=.junk) (Y0 (m:=s189) (a:=(Hz.mk j201 j203)) (v:=(H6.mk j203 j201 j213.1 j213.2)) O O O O O O tk_128 tf_map_127) ?_
        refine G8 (hK192 _ _ ?_)
        refine G3 ?_
        refine JLg (G0 ((i189+1:Nat):Int)) (Ht (Hc hk189 hm20) O O O) ?_
        refine JLg (G0 ((i189+1:Nat):Int)) (G7 O O) ?_
        refine G8 ?_
        exact e189 _ _ (i189+1) (Gr.put s189 (Hz.mk j201 j203) (H6.mk j203 j201 j213.1 j213.2)) (app1 hn189 h) (by omega) ⟨(by repeat' constructor),⟨⟨_,rfl,.map⟩,G⟩,rfl⟩
  ·
   have h:=app1 hkx189 (Ho hi189 (H3 hb))
   refine Hk ?_
   refine hK7 _ _ ?_
   refine G6 fun K217 hK217=>G3 ?_
   refine JLg (.vec 1084 (([]:List H6).length) 4 (([]:List H6).length)) (A_vnil 1084 94 4 O O O) ?_
   refine G8 (hK217 _ _ ?_)
   refine G6 (fun K218 hK218=>?_)
   refine G6 fun K219 hK219=>G3 ?_
   refine JLg (.mp 1086) (G7 O O) ?_
   refine JLg (.it 1087) (A_rangeM 1087 (m:=s189) O O O O tf_map_127) ?_
   refine G8 (hK219 _ _ ?_)
   refine Gg ?_
   obtain⟨b228,kx228,hb228,hkx228,h⟩:=eachM_in h
   refine JC_loopM (Gr.size s189) (fun i228 (s228:(List H6))=>MInv b228 kx228 (Gr.l s189) i228 s228) (fun i228 s228=>[(12,.vec 1084 s228.length 4 s228.length),(125,.it 1087)]) (fun i228 s228=>[(1086,MP 127 Hz.kv H6.av s189),(1084,.vec 94 4 s228.length (s228.map H6.av)),(1087,.iter 1086 (Gr.size s189) i228)]) [] (MInv.start h hp) ⟨⟨.same O,.same O,G⟩,⟨⟨_,O,.map⟩,⟨_,O,.vec⟩,⟨_,O,.iter O⟩,G⟩,O⟩ ?_
   clear h hp
   intro i228 s228 hi228 K228 e228
   refine G6 fun K229 hK229=>G3 ?_
   refine Yw O O O (A_nextM (m:=s189) O O O O) ?_
   intro u_ L_ hn_
   rcases hn_ with ⟨q228,x228,he228,hs228,rfl,rfl⟩ | ⟨ha228,rfl,rfl⟩
   ·
    obtain⟨o228,h,ho1_228,ho2_228⟩:=hi228.step he228 hs228
    replace h:=app3 hb228 h
    refine JLg (BL true) (Hq O O O) ?_
    refine G8 (hK229 _ _ ?_)
    refine G6 (fun K230 hK230=>?_)
    refine JC_condT O ?_
    refine Gj ?_
    refine hK230 _ _ ?_
    refine Gg ?_
    refine G6 fun K231 hK231=>G3 ?_
    refine JLg (.tup [.agg [G0 x228.1.e0,G0 x228.1.e1],.agg (H6.cs x228.2)]) (A_entryM (kv:=Hz.kv) (av:=H6.av) (m:=s189) (q:=q228) (seen:=i228) (e:=x228) O O O O he228) ?_
    refine JLg (.agg (H6.cs x228.2)) (Hq O O O) ?_
    refine JLg (.ptr 1085 0) (Hi 1085 4 tf_zsize_94 O O) ?_
    refine Hj (u:=.junk) (H2 (u:=.agg (H6.cs x228.2)) (ds:=[G0 x228.2.Bay,G0 x228.2.Phase,G0 x228.2.Lifts,G0 x228.2.Covers]) tf_size_94 O O O O O O O O) ?_
    refine G8 (hK231 _ _ ?_)
    refine Gk [(12,.vec 1084 s228.length 4 s228.length),(14,Ek x228.2),(125,.it 1087)] [(1086,MP 127 Hz.kv H6.av s189),(1084,.vec 94 4 s228.length (s228.map H6.av)),(1087,.iter 1086 (Gr.size s189) (i228++[q228]))] 1085 rfl rfl rfl ⟨⟨_,rfl,.map⟩,⟨_,rfl,.vec⟩,⟨_,rfl,.iter rfl⟩,G⟩ rfl (by exact⟨.conv (.same rfl),.ptr,.conv (.same rfl),G⟩) ?_
    refine G3 ?_
    refine JLg (.vec 1084 s228.length 4 s228.length) (G7 O O) ?_
    refine JLg (.agg (H6.cs x228.2)) (Gi Yt O O O) ?_
    refine JLg (Eb [x228.2]) (Hd (xs:=[.agg (H6.cs x228.2)]) O ⟨O,O,G⟩ R7 tf_zsize_94 O O O O) ?_
    obtain⟨ha232,h⟩:=Je h
    refine JLg (.vec 1084 ((s228++[x228.2]).length) 4 ((s228++[x228.2]).length)) (A_vappendM (f:=H6.av) (xs:=s228) (ys:=[x228.2]) (ver:=s228.length) (ver1:=(s228++[x228.2]).length) rfl rfl rfl rfl R7 tf_elem_94 ha232 (fun _=>rfl) (.inl rfl) (by simp)) ?_
    refine JLg (.vec 1084 ((s228++[x228.2]).length) 4 ((s228++[x228.2]).length)) (G9 O O) ?_
    refine G8 ?_
    exact e228 _ _ (i228++[q228]) (s228++[x228.2]) (ho2_228 _ (Option.some.inj h).symm) (unseen_lt (List.getElem?_eq_some_iff.1 he228).1 hs228) ⟨⟨.same O,.same O,G⟩,⟨⟨_,O,.map⟩,⟨_,O,.vec⟩,⟨_,O,.iter O⟩,G⟩,O⟩
   ·
    obtain⟨p_,h,hp⟩:=hi228.done ha228
    replace h:=app1 hkx228 h
    refine JLg (BL false) (Hq O O O) ?_
    refine G8 (hK229 _ _ ?_)
    refine G6 (fun K233 hK233=>?_)
    refine JC_condF O ?_
    refine Hk ?_
    refine hK218 _ _ ?_
    refine G6 fun K234 hK234=>G3 ?_
    refine JLg (.vec 1084 s228.length 4 s228.length) (G7 O O) ?_
    obtain⟨r235,hr235,h⟩:=Ge h
    refine Yw O O O (A_callLE (args:=[.vec 1084 s228.length 4 s228.length,.fn 51 []]) (L0:=[(1084,.vec 94 4 s228.length (s228.map H6.av))]) (u:=fun p=>.vec 1084 p 4 r235.length) (Lr:=fun p=>[(1084,.vec 94 4 p (r235.map H6.av))]) O (M_moves_sorted_apiTask_p230000012 F s228 s228.length (fun z0 z1=>M_moves_Tasks_1 z0 z1) 51 [] tf_call_51 O (fun z0 z1 q hq=>M_moves_Tasks_1_w z0 z1 q hq) r235 hr235) tf_call_50 ⟨.inl O,O,.inl O,O,G⟩ ⟨O,G⟩ O (fun _=>O)) ?_
    rintro u_ L_ ⟨v236,rfl,rfl⟩
    refine JLg (.vec 1084 v236 4 r235.length) (G9 O O) ?_
    refine JLg (G0 0) (G9 O O) ?_
    refine G8 (hK234 _ _ ?_)
    refine JC_vfreeze [(4,Eb r235),(5,G0 0)] [] 1084 rfl rfl G rfl (by exact⟨.vec,.conv (.same rfl),G⟩) ?_
    refine Gu ?_
    exact⟨[Eb r235,G0 0],[],G,O,⟨⟨_,O,.conv (.same O)⟩,⟨_,O,.conv (.same O)⟩,G⟩,O,(r235,0),Eq.mpr (Option.some.inj h) hp,O⟩
theorem M_moves_Tasks_s (S_:Nat→(Gz)→(List Move)→Option ((List H6)×Int)) (hS_:∀ F s l r,S_ F s l=some r→∃ p:Prop,M_moves_Tasks F s l (fun r_=>r_=r)=some p∧p) (F:Nat) (s:Gz) (l:List Move) (r:(List H6)×Int) (h:S_ F s l=some r):Pure Tryz.prog 22 [.agg (Gz.cs s),E3 l] (·=.tup [Eb r.1,G0 r.2]):=by
 obtain⟨p,h1,h2⟩:=hS_ F s l r h
 exact(M_moves_Tasks_w F s l _ p h1 h2).monoP (fun av hh=>by obtain⟨r_,rfl,ha⟩:=hh; exact ha)

def M_moves_Lifts (l:List Move):Option Int:=
 each (fun y19 i19 (s19:Int) nx19=>
  jp (fun kj22=>
   bif ((decide (y19.Kind=2))||(decide (y19.Kind=3))) then
   (chk (s19+1) fun v25=>
    kj22 v25)
   else
   (kj22 s19)) fun(j22:Int)=>
  nx19 j22)
 (fun(s19:Int)=>
  some s19) l 0 0
theorem M_moves_Lifts_w (l:List Move) (r:Int) (h:M_moves_Lifts l=some r):Pure Tryz.prog 11 [E3 l] (·=G0 r):=by
 unfold M_moves_Lifts at h
 refine H9 [.tmp 2] Tryz.func11 O O ?_
 refine G6 fun K1 hK1=>G3 ?_
 refine JLg (G0 0) (G9 O O) ?_
 refine G8 (hK1 _ _ ?_)
 refine G6 fun K2 hK2=>G3 ?_
 refine JLg (G0 0) (G9 O O) ?_
 refine G8 (hK2 _ _ ?_)
 refine G6 (fun K3 hK3=>?_)
 refine G6 fun K4 hK4=>G3 ?_
 refine JLg (E3 l) (G7 O O) ?_
 refine Hs (f:=Move.av) (xs:=l) Qi O O (fun hm7=>?_) O O O
 refine JLg (G0 0) (G7 O O) ?_
 refine G8 (hK4 _ _ ?_)
 refine Gg ?_
 obtain⟨b19,kx19,hb19,hkx19,h⟩:=Hu h
 refine H7 (fun i19 (s19:Int)=>each b19 kx19 (List.drop i19 l) i19 s19=some r) (fun i19 s19=>[(3,G0 s19),(6,E3 l),(7,Em l.length),(8,Em i19)]) (fun i19 s19=>[]) (fun i19=>l.length - i19) 0 0 h ⟨(by repeat' constructor),G,rfl⟩ ?_
 clear h
 intro i19 s19 hi19 K19 e19
 refine G6 fun K20 hK20=>G3 ?_
 refine JLg (BL (decide ((i19:Int) < (l.length:Int)))) (Hy O O O) ?_
 refine G8 (hK20 _ _ ?_)
 refine G6 (fun K21 hK21=>?_)
 refine Gh O (fun hb=>?_) (fun hb=>?_)
 ·
  have hk19:=J9 hb
  obtain⟨y19,nx19,hy19,hn19,h⟩:=Hn hi19 hk19
  replace h:=app4 hb19 h
  refine Gj ?_
  refine hK21 _ _ ?_
  obtain⟨kj22,hkj22,h⟩:=Qd h
  refine Jq (fun j22:Int=>kj22 j22=some r) (fun j22=>[(3,G0 j22),(6,E3 l),(7,Em l.length),(8,Em i19)]) (fun j22=>[]) (fun Kj22 ej22=>?_) ?_
  ·
   refine Gg ?_
   refine G6 fun K23 hK23=>G3 ?_
   refine JLg (Ej y19) (H0 (f:=Move.av) (xs:=l) (y:=y19) O O O Qi hy19 O) ?_
   refine JLg (.agg (Move.cs y19)) (Gi tf_agg_59 O O O) ?_
   refine JLg (.ptr 1035 0) (Hi 1035 6 Yr O O) ?_
   refine Hj (u:=.junk) (H2 (u:=.agg (Move.cs y19)) (ds:=[U8 y19.Kind,G0 y19.Gp,G0 y19.Slot.G5,G0 y19.Slot.Tier,U8 y19.Slot.Half,G0 y19.Ga]) tf_size_59 O O O O O O O O) ?_
   refine G8 (hK23 _ _ ?_)
   refine Gk [(3,G0 s19),(5,Ej y19),(6,E3 l),(7,Em l.length),(8,Em i19)] [] 1035 rfl rfl rfl G rfl (by repeat' (first | exact .ptr | constructor)) ?_
   refine G6 fun K24 hK24=>G3 ?_
   refine JLg (Ej y19) (Gc Ro O O O) ?_
   refine JLg (U8 y19.Kind) (Gf Hx O O O) ?_
   refine JLg (BL (decide (y19.Kind=2))) (Qb O O O) ?_
   refine JLg (BL (decide (y19.Kind=2))) (G7 O O) ?_
   refine Gd (u:=Ej y19) [] O O O .scf G (fun hc=>Gc Ro O O O) ?_
   refine Gd (u:=U8 y19.Kind) [(16,Ej y19)] O O O .scf ⟨.all id,G⟩ (fun hc=>Gf Hx O O O) ?_
   refine Gd (u:=BL (decide (y19.Kind=3))) [(17,U8 y19.Kind)] O O O .scf ⟨.all id,G⟩ (fun hc=>Qb O O O) ?_
   refine JLg (BL ((decide (y19.Kind=2))||(decide (y19.Kind=3)))) (Y4 O O O O) ?_
   refine G8 (hK24 _ _ ?_)
   refine Gh O (fun hb=>?_) (fun hb=>?_)
   ·
    replace h:=Gv hb h
    refine G3 ?_
    refine JLg (G0 s19) (G7 O O) ?_
    obtain⟨v25,hv25,h⟩:=Hm h
    refine JLg (G0 v25) (Ht hv25 O O O) ?_
    refine JLg (G0 v25) (G9 O O) ?_
    refine G8 ?_
    exact ej22 _ _ v25 h ⟨(by repeat' constructor),G,rfl⟩
   ·
    replace h:=Hp hb h
    refine Gj ?_
    exact ej22 _ _ s19 h ⟨(by repeat' constructor),G,rfl⟩
  ·intro j22 h
   replace h:=app1 hkj22 h
   refine G3 ?_
   refine JLg (G0 ((i19+1:Nat):Int)) (Ht (Hc hk19 hm7) O O O) ?_
   refine JLg (G0 ((i19+1:Nat):Int)) (G7 O O) ?_
   refine G8 ?_
   exact e19 _ _ (i19+1) j22 (app1 hn19 h) (by omega) ⟨(by repeat' constructor),G,rfl⟩
 ·
  have h:=app1 hkx19 (Ho hi19 (H3 hb))
  refine Hk ?_
  refine hK3 _ _ ?_
  refine G6 fun K26 hK26=>G3 ?_
  refine JLg (G0 s19) (G7 O O) ?_
  refine JLg (G0 s19) (G9 O O) ?_
  refine G8 (hK26 _ _ ?_)
  refine Gu ?_
  exact⟨[G0 s19],[],G,O,⟨⟨_,O,.conv (.same O)⟩,G⟩,O,congrArg (fun r:Int=>(G0 r:AV)) (Option.some.inj h)⟩
end
end Go.Proofs.YtkfhfoljfbjknaaGreat
