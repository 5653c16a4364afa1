/-
 Models of functions of the program,and that they return what the models say.
-/
import Derived.Test.YtecjdioomlhhiaaGreatXPb
set_option maxRecDepth 100000
set_option maxHeartbeats 1000000
set_option linter.unusedVariables false
set_option linter.unusedSimpArgs false
namespace Go.Proofs.YtecjdioomlhhiaaGreat
open Go.RowKit
noncomputable section
open XAF
open XLF
open XCF
open XGF
open XHF
open XPF

def Yd (F:Nat) (s:H0) (boxes:List Box) (l:List Stowed) (open_:List Int) (x:Stowed) (n:Int):Option Bool:=
 bnd (G22 s boxes l open_) fun r4=>
 bif (!r4) then
 (bnd (Ys F) fun r6=>
  some r6)
 else
 (bnd (Zu s) fun r8=>
  bnd (Zd boxes) fun r9=>
  bnd (Qn l) fun r10=>
  bnd (Q0 open_) fun r12=>
  bnd (G64 (H0.mk (r8.Columns.1.map Gv.pl) (r8.Covers.1.map H3.pl) r8.Light r8.Rows.1 r8.Frames.1 (r8.Tanks.1.map H9.pl) r8.G1) r9.1 r10.1 r12.1 n) fun r15=>
  bnd (Z2 F s boxes l open_ n) fun r17=>
  bnd (G0b F (H0.mk (r8.Columns.1.map Gv.pl) (r8.Covers.1.map H3.pl) r8.Light r8.Rows.1 r8.Frames.1 (r8.Tanks.1.map H9.pl) r8.G1) r9.1 r10.1 r12.1 x) fun r19=>
  bnd (Qj F s boxes l open_ x) fun r21=>
  bnd (G54 (H0.mk (r8.Columns.1.map Gv.pl) (r8.Covers.1.map H3.pl) r8.Light r8.Rows.1 r8.Frames.1 (r8.Tanks.1.map H9.pl) r8.G1) r9.1 r10.1 r12.1 n) fun r24=>
  bnd (Z3 F s boxes l open_ n) fun r25=>
  bif (((decide (r24≠r25))||(decide (r15.2≠r17.2)))||(decide (r19.2≠r21.2))) then
  (some false)
  else
  (bnd (G24 F (H0.mk (r8.Columns.1.map Gv.pl) (r8.Covers.1.map H3.pl) r8.Light r8.Rows.1 r8.Frames.1 (r8.Tanks.1.map H9.pl) r8.G1) r9.1 r10.1 r12.1 n) fun r28=>
   bnd (R2 F s boxes l open_ n) fun r30=>
   bnd (G1c F (H0.mk (r8.Columns.1.map Gv.pl) (r8.Covers.1.map H3.pl) r8.Light r8.Rows.1 r8.Frames.1 (r8.Tanks.1.map H9.pl) r8.G1) r9.1 r10.1 r12.1 n) fun r32=>
   bnd (Qv F s boxes l open_ n) fun r34=>
   bnd (bif (!((decide (r28.2≠r30.2))||(decide (r32.2≠r34.2)))) then Zw r8 s else some default) fun r37=>
   bnd (bif (!(((decide (r28.2≠r30.2))||(decide (r32.2≠r34.2)))||(!r37))) then Ze r9 boxes else some default) fun r38=>
   bnd (bif (!((((decide (r28.2≠r30.2))||(decide (r32.2≠r34.2)))||(!r37))||(!r38))) then Yh r10 l else some default) fun r39=>
   bnd (bif (!(((((decide (r28.2≠r30.2))||(decide (r32.2≠r34.2)))||(!r37))||(!r38))||(!r39))) then J7 r12 open_ else some default) fun r40=>
   bif ((((((decide (r28.2≠r30.2))||(decide (r32.2≠r34.2)))||(!r37))||(!r38))||(!r39))||(!r40)) then
   (some false)
   else
   (bnd (Yf r10) fun r43=>
    bnd (Zs r12) fun r45=>
    bnd (Ra r15.1 r17.1) fun r47=>
    bnd (bif r47 then Ra r19.1 r21.1 else some default) fun r48=>
    bnd (bif (r47&&r48) then Ji r28.1 r30.1 else some default) fun r49=>
    bnd (bif ((r47&&r48)&&r49) then Ji r32.1 r34.1 else some default) fun r50=>
    bnd (bif (((r47&&r48)&&r49)&&r50) then Ys F else some default) fun r51=>
    some ((((r47&&r48)&&r49)&&r50)&&r51))))
theorem H0e (F:Nat) (s:H0) (boxes:List Box) (l:List Stowed) (open_:List Int) (x:Stowed) (n:Int) (r:Bool) (h:Yd F s boxes l open_ x n=some r):Pure Ei 3 [.agg (H0.cs s),E3 boxes,E2 l,E1 open_,.agg (Stowed.cs x),I64 n] (·=BL r):=by
 unfold Yd at h
 refine Gz [.tmp 12] Tryz.func3 O O (Jr fun hK1=>(JLh (.ptr 1001 0) (Je (cs:=(H0.cs s)) 1001 O O O O O) O (JLh (.ptr 1002 0) (Je (cs:=[I64 x.Box,I64 x.Slot.G3,I64 x.Slot.Tier,U8 x.Slot.Half]) 1002 O O O O O) O (JLm (BL false) O (G7 (hK1 ?_))))))
 refine Gx [(1,E3 boxes),(2,E2 l),(3,E1 open_),(5,I64 n),(6,Eb s),(10,.ptr 1002 0)] [(1002,.box 39 [I64 x.Box,I64 x.Slot.G3,I64 x.Slot.Tier,U8 x.Slot.Half])] 1001 rfl rfl rfl ⟨⟨_,rfl,.boxEq rfl rfl⟩,G⟩ rfl (by repeat' (first | exact .ptr | constructor)) ?_
 refine Gx [(1,E3 boxes),(2,E2 l),(3,E1 open_),(5,I64 n),(6,Eb s),(10,Ec x)] [] 1002 rfl rfl rfl G rfl (by repeat' (first | exact .ptr | constructor)) (Js fun hK2=>?_)
 refine Jr fun hK3=>(JLh (.agg (H0.cs s)) (Gh Hc O O O) O (JLm (E3 boxes) O (JLm (E2 l) O (JLm (E1 open_) O ?_))))
 obtain⟨r4,hr4,h⟩:=Gc h
 refine JLh (BL r4) (Gm O (Hbc s boxes l open_ r4 hr4) R88 ⟨O,O,O,O,O,O,O,O,G⟩) O (JLh (BL (!r4)) (Q7 (b:=r4) O O) O (G7 (hK3 (JCc O h (fun h hb=>?_) (fun h hb=>?_)))))
 ·
  refine Jr fun hK5=>?_
  obtain⟨r6,hr6,h⟩:=Gc h
  refine JLh (BL r6) (Gm O (Gac F r6 hr6) Q40 G) O (JLm (BL r6) O (G7 (hK5 (Gn (fin1 BL h)))))
 ·
  refine Gk (hK2 (Jr fun hK7=>(JLh (.agg (H0.cs s)) (Gh Hc O O O) O ?_)))
  obtain⟨r8,hr8,h⟩:=Gc h
  refine JLh (.agg (Rv.cs r8)) (Gm O (H52 s r8 hr8) R87 ⟨O,O,G⟩) O (JLm (E3 boxes) O ?_)
  obtain⟨r9,hr9,h⟩:=Gc h
  refine JLh (LT 9 Box.av r9) (Gm O (H44 boxes r9 hr9) R86 ⟨O,O,G⟩) O (JLm (E2 l) O ?_)
  obtain⟨r10,hr10,h⟩:=Gc h
  refine G48 O O O (Ge2 (args:=[E2 l]) (L0:=[]) (u:=fun p=>.vsl 1011 p 4 0 r10.1.length) (Lr:=fun p=>[(1011,.vec 39 4 p ((r10.1++r10.2).map Stowed.av))]) O (H10 l r10 hr10) R85 ⟨.inl O,O,G⟩ G O (fun _=>O)) ?_
  rintro u_ L_ ⟨v11,rfl,rfl⟩
  refine JLm (E1 open_) O ?_
  obtain⟨r12,hr12,h⟩:=Gc h
  refine G48 O O O (Ge2 (args:=[E1 open_]) (L0:=[]) (u:=fun p=>.vsl 1012 p 1 0 r12.1.length) (Lr:=fun p=>[(1012,.vec 3 1 p ((r12.1++r12.2).map I64))]) O (H54 open_ r12 hr12) Hf5 ⟨.inl O,O,G⟩ G O (fun _=>O)) ?_
  rintro u_ L_ ⟨v13,rfl,rfl⟩
  refine JLh (.ptr 1003 0) (Qo 1003 13 J75 O O) O (Jo (u:=.junk) (Jh (u:=.agg (Rv.cs r8)) (ds:=(Rv.cs r8)) Ha0 O O O O O O O O) (JLm (LT 9 Box.av r9) O (JLm (.vsl 1011 v11 4 0 r10.1.length) O (JLm (.vsl 1012 v13 1 0 r12.1.length) O (G7 (hK7 ?_))))))
  refine Gx [(1,E3 boxes),(2,E2 l),(3,E1 open_),(5,I64 n),(6,Eb s),(10,Ec x),(13,.dptr (Rv.cs r8)),(14,LT 9 Box.av r9),(15,.vsl 1011 v11 4 0 r10.1.length),(16,.vsl 1012 v13 1 0 r12.1.length)] [(1011,.vec 39 4 v11 ((r10.1++r10.2).map Stowed.av)),(1012,.vec 3 1 v13 ((r12.1++r12.2).map I64))] 1003 rfl rfl rfl ⟨⟨_,rfl,.vec⟩,⟨_,rfl,.vec⟩,G⟩ rfl (by repeat' (first | exact .ptr | constructor)) ?_
  refine Jr fun hK14=>(JLh (.agg [E5 (r8.Columns.1.map Gv.pl),E4 (r8.Covers.1.map H3.pl),I64 r8.Light.Kilos,I64 r8.Light.X,I64 r8.Light.Y,I64 r8.Light.Z,E7 r8.Rows.1,E6 r8.Frames.1,E8 (r8.Tanks.1.map H9.pl),I64 r8.G1.Tolerance,I64 r8.G1.Trim,I64 r8.G1.List_,I64 r8.G1.Stability]) (H1.cv (Cv.aggL (cs:=(Rv.cs r8)) ⟨Cv.lstM (f:=Gv.av) (g:=G3.av) Gv.pl Gv.cvl r8.Columns,Cv.lstM (f:=H3.av) (g:=G9.av) H3.pl H3.cvl r8.Covers,.same,.same,.same,.same,Cv.lst0 r8.Rows,Cv.lst0 r8.Frames,Cv.lstM (f:=H9.av) (g:=Gg.av) H9.pl H9.cvl r8.Tanks,.same,.same,.same,.same,G⟩) (Gh Hc O O O)) O (JLh (E3 r9.1) (H1.cv (Cv.lst0 r9) (G4 O O)) O (JLm (.vsl 1011 v11 4 0 r10.1.length) O (JLm (.vsl 1012 v13 1 0 r12.1.length) O (JLm (I64 n) O ?_)))))
  obtain⟨r15,hr15,h⟩:=Gc h
  refine JLh (.tup [E2 r15.1,I64 r15.2]) (H71 (args:=[.agg [E5 (r8.Columns.1.map Gv.pl),E4 (r8.Covers.1.map H3.pl),I64 r8.Light.Kilos,I64 r8.Light.X,I64 r8.Light.Y,I64 r8.Light.Z,E7 r8.Rows.1,E6 r8.Frames.1,E8 (r8.Tanks.1.map H9.pl),I64 r8.G1.Tolerance,I64 r8.G1.Trim,I64 r8.G1.List_,I64 r8.G1.Stability],E3 r9.1,E2 r10.1,E1 r12.1,I64 n]) (g:=Stowed.av) (r:=r15.1) O (Q33 (H0.mk (r8.Columns.1.map Gv.pl) (r8.Covers.1.map H3.pl) r8.Light r8.Rows.1 r8.Frames.1 (r8.Tanks.1.map H9.pl) r8.G1) r9.1 r10.1 r12.1 n r15 hr15) R2d ⟨.data O O,.data O O,.vsl (e:=r10) (f:=Stowed.av) O O,.vsl (e:=r12) (f:=I64) O O,.data O O,G⟩ (fun _=>O) O) O (JLm (.tup [E2 r15.1,I64 r15.2]) O (JLh (E2 r15.1) (Hk O O O) O (JLh (I64 r15.2) (Hk O O O) O (JLm (E2 r15.1) O (JLm (I64 r15.2) O (G7 (hK14 ?_)))))))
  refine Jr fun hK16=>(JLh (.agg (H0.cs s)) (Gh Hc O O O) O (JLm (E3 boxes) O (JLm (E2 l) O (JLm (E1 open_) O (JLm (I64 n) O ?_)))))
  obtain⟨r17,hr17,h⟩:=Gc h
  refine JLh (.tup [E2 r17.1,I64 r17.2]) (Gm O (H92 F s boxes l open_ n r17 hr17) R2c ⟨O,O,O,O,O,O,O,O,O,O,G⟩) O (JLm (.tup [E2 r17.1,I64 r17.2]) O (JLh (E2 r17.1) (Hk O O O) O (JLh (I64 r17.2) (Hk O O O) O (JLm (E2 r17.1) O (JLm (I64 r17.2) O (G7 (hK16 ?_)))))))
  refine Jr fun hK18=>(JLh (.agg [E5 (r8.Columns.1.map Gv.pl),E4 (r8.Covers.1.map H3.pl),I64 r8.Light.Kilos,I64 r8.Light.X,I64 r8.Light.Y,I64 r8.Light.Z,E7 r8.Rows.1,E6 r8.Frames.1,E8 (r8.Tanks.1.map H9.pl),I64 r8.G1.Tolerance,I64 r8.G1.Trim,I64 r8.G1.List_,I64 r8.G1.Stability]) (H1.cv (Cv.aggL (cs:=(Rv.cs r8)) ⟨Cv.lstM (f:=Gv.av) (g:=G3.av) Gv.pl Gv.cvl r8.Columns,Cv.lstM (f:=H3.av) (g:=G9.av) H3.pl H3.cvl r8.Covers,.same,.same,.same,.same,Cv.lst0 r8.Rows,Cv.lst0 r8.Frames,Cv.lstM (f:=H9.av) (g:=Gg.av) H9.pl H9.cvl r8.Tanks,.same,.same,.same,.same,G⟩) (Gh Hc O O O)) O (JLh (E3 r9.1) (H1.cv (Cv.lst0 r9) (G4 O O)) O (JLm (.vsl 1011 v11 4 0 r10.1.length) O (JLm (.vsl 1012 v13 1 0 r12.1.length) O (JLh (.agg (Stowed.cs x)) (Gh R6 O O O) O ?_)))))
  obtain⟨r19,hr19,h⟩:=Gc h
  refine JLh (.tup [E2 r19.1,I64 r19.2]) (H71 (args:=[.agg [E5 (r8.Columns.1.map Gv.pl),E4 (r8.Covers.1.map H3.pl),I64 r8.Light.Kilos,I64 r8.Light.X,I64 r8.Light.Y,I64 r8.Light.Z,E7 r8.Rows.1,E6 r8.Frames.1,E8 (r8.Tanks.1.map H9.pl),I64 r8.G1.Tolerance,I64 r8.G1.Trim,I64 r8.G1.List_,I64 r8.G1.Stability],E3 r9.1,E2 r10.1,E1 r12.1,.agg (Stowed.cs x)]) (g:=Stowed.av) (r:=r19.1) O (Q8a F (H0.mk (r8.Columns.1.map Gv.pl) (r8.Covers.1.map H3.pl) r8.Light r8.Rows.1 r8.Frames.1 (r8.Tanks.1.map H9.pl) r8.G1) r9.1 r10.1 r12.1 x r19 hr19) J25 ⟨.data O O,.data O O,.vsl (e:=r10) (f:=Stowed.av) O O,.vsl (e:=r12) (f:=I64) O O,.data O O,G⟩ (fun _=>O) O) O (JLm (.tup [E2 r19.1,I64 r19.2]) O (JLh (E2 r19.1) (Hk O O O) O (JLh (I64 r19.2) (Hk O O O) O (JLm (E2 r19.1) O (JLm (I64 r19.2) O (G7 (hK18 ?_)))))))
  refine Jr fun hK20=>(JLh (.agg (H0.cs s)) (Gh Hc O O O) O (JLm (E3 boxes) O (JLm (E2 l) O (JLm (E1 open_) O (JLh (.agg (Stowed.cs x)) (Gh R6 O O O) O ?_)))))
  obtain⟨r21,hr21,h⟩:=Gc h
  refine JLh (.tup [E2 r21.1,I64 r21.2]) (Gm O (Hbb F s boxes l open_ x r21 hr21) R2b ⟨O,O,O,O,O,O,O,O,O,O,G⟩) O (JLm (.tup [E2 r21.1,I64 r21.2]) O (JLh (E2 r21.1) (Hk O O O) O (JLh (I64 r21.2) (Hk O O O) O (JLm (E2 r21.1) O (JLm (I64 r21.2) O (G7 (hK20 (Js fun hK22=>Js fun hK23=>?_))))))))
  refine G67 (l':=[(1,E3 boxes),(2,E2 l),(3,E1 open_),(5,I64 n),(6,Eb s),(13,.dptr (Rv.cs r8)),(14,LT 9 Box.av r9),(15,.vsl 1011 v11 4 0 r10.1.length),(16,.vsl 1012 v13 1 0 r12.1.length),(17,E2 r15.1),(18,I64 r15.2),(19,E2 r17.1),(20,I64 r17.2),(21,E2 r19.1),(22,I64 r19.2),(23,E2 r21.1),(24,I64 r21.2)]) (L':=[(1011,.vec 39 4 v11 ((r10.1++r10.2).map Stowed.av)),(1012,.vec 3 1 v13 ((r12.1++r12.2).map I64))]) ⟨(.sm O O),⟨⟨_,rfl,.vec⟩,⟨_,rfl,.vec⟩,G⟩,rfl⟩ ?_
  obtain⟨r24,hr24,h⟩:=Gc h
  obtain⟨r25,hr25,h⟩:=Gc h
  refine JC_d0 J6 (by kernel_rfl) (Dq (.agg [E5 (r8.Columns.1.map Gv.pl),E4 (r8.Covers.1.map H3.pl),I64 r8.Light.Kilos,I64 r8.Light.X,I64 r8.Light.Y,I64 r8.Light.Z,E7 r8.Rows.1,E6 r8.Frames.1,E8 (r8.Tanks.1.map H9.pl),I64 r8.G1.Tolerance,I64 r8.G1.Trim,I64 r8.G1.List_,I64 r8.G1.Stability]) (H1.cv (Cv.aggL (cs:=(Rv.cs r8)) ⟨Cv.lstM (f:=Gv.av) (g:=G3.av) Gv.pl Gv.cvl r8.Columns,Cv.lstM (f:=H3.av) (g:=G9.av) H3.pl H3.cvl r8.Covers,.same,.same,.same,.same,Cv.lst0 r8.Rows,Cv.lst0 r8.Frames,Cv.lstM (f:=H9.av) (g:=Gg.av) H9.pl H9.cvl r8.Tanks,.same,.same,.same,.same,G⟩) (Gh Hc O O O)) O (Dq (E3 r9.1) (H1.cv (Cv.lst0 r9) (G4 O O)) O (Dq (.vsl 1011 v11 4 0 r10.1.length) (G4 O O) O (Dq (.vsl 1012 v13 1 0 r12.1.length) (G4 O O) O (Dq (I64 n) (G4 O O) O (Dq (I64 r24) (Hf2 (args:=[.agg [E5 (r8.Columns.1.map Gv.pl),E4 (r8.Covers.1.map H3.pl),I64 r8.Light.Kilos,I64 r8.Light.X,I64 r8.Light.Y,I64 r8.Light.Z,E7 r8.Rows.1,E6 r8.Frames.1,E8 (r8.Tanks.1.map H9.pl),I64 r8.G1.Tolerance,I64 r8.G1.Trim,I64 r8.G1.List_,I64 r8.G1.Stability],E3 r9.1,E2 r10.1,E1 r12.1,I64 n]) O (G75 (H0.mk (r8.Columns.1.map Gv.pl) (r8.Covers.1.map H3.pl) r8.Light r8.Rows.1 r8.Frames.1 (r8.Tanks.1.map H9.pl) r8.G1) r9.1 r10.1 r12.1 n r24 hr24) Gec ⟨.data O O,.data O O,.vsl (e:=r10) (f:=Stowed.av) O O,.vsl (e:=r12) (f:=I64) O O,.data O O,G⟩ O) O (Dq (.agg (H0.cs s)) (Gh Hc O O O) O (Dq (E3 boxes) (G4 O O) O (Dq (E2 l) (G4 O O) O (Dq (E1 open_) (G4 O O) O (Dq (I64 n) (G4 O O) O (Dq (I64 r25) (Gm (args:=[.agg (H0.cs s),E3 boxes,E2 l,E1 open_,I64 n]) O (Gc3 F s boxes l open_ n r25 hr25) Je0 ⟨O,O,O,O,O,O,O,O,O,O,G⟩) O (Dq (BL (decide (r24≠r25))) (G0e O O O) O ?_)))))))))))))
  refine Dq (BL (decide (r24≠r25))) (G4 O O) O (Do (I64 r15.2) [] O .scf G (fun hc=>G4 O O) O (Do (I64 r17.2) [] O .scf G (fun hc=>G4 O O) O (Do (BL (decide (r15.2≠r17.2))) [98,99] O .scf ⟨Ua,Ua,G⟩ (fun hc=>G0e O O O) O (Dq (BL ((decide (r24≠r25))||(decide (r15.2≠r17.2)))) (Y4 O O O O) O (Dq (BL ((decide (r24≠r25))||(decide (r15.2≠r17.2)))) (G4 O O) O (Do (I64 r19.2) [] O .scf G (fun hc=>G4 O O) O (Do (I64 r21.2) [] O .scf G (fun hc=>G4 O O) O (Do (BL (decide (r19.2≠r21.2))) [103,104] O .scf ⟨Ua,Ua,G⟩ (fun hc=>G0e O O O) O (Dq (BL (((decide (r24≠r25))||(decide (r15.2≠r17.2)))||(decide (r19.2≠r21.2)))) (Y4 O O O O) O (Dnil (hK23 (JCc O h (fun h hb=>?_) (fun h hb=>?_)))))))))))))
  ·
   refine Jr fun hK26=>(JLm (BL false) O (G7 (hK26 (Gn (fin1 BL h)))))
  ·
   refine Gk (hK22 ?_)
   refine Jr fun hK27=>(JLh (.agg [E5 (r8.Columns.1.map Gv.pl),E4 (r8.Covers.1.map H3.pl),I64 r8.Light.Kilos,I64 r8.Light.X,I64 r8.Light.Y,I64 r8.Light.Z,E7 r8.Rows.1,E6 r8.Frames.1,E8 (r8.Tanks.1.map H9.pl),I64 r8.G1.Tolerance,I64 r8.G1.Trim,I64 r8.G1.List_,I64 r8.G1.Stability]) (H1.cv (Cv.aggL (cs:=(Rv.cs r8)) ⟨Cv.lstM (f:=Gv.av) (g:=G3.av) Gv.pl Gv.cvl r8.Columns,Cv.lstM (f:=H3.av) (g:=G9.av) H3.pl H3.cvl r8.Covers,.same,.same,.same,.same,Cv.lst0 r8.Rows,Cv.lst0 r8.Frames,Cv.lstM (f:=H9.av) (g:=Gg.av) H9.pl H9.cvl r8.Tanks,.same,.same,.same,.same,G⟩) (Gh Hc O O O)) O (JLh (E3 r9.1) (H1.cv (Cv.lst0 r9) (G4 O O)) O (JLm (.vsl 1011 v11 4 0 r10.1.length) O (JLm (.vsl 1012 v13 1 0 r12.1.length) O (JLm (I64 n) O ?_)))))
   obtain⟨r28,hr28,h⟩:=Gc h
   refine JLh (.tup [E1 r28.1,I64 r28.2]) (H71 (args:=[.agg [E5 (r8.Columns.1.map Gv.pl),E4 (r8.Covers.1.map H3.pl),I64 r8.Light.Kilos,I64 r8.Light.X,I64 r8.Light.Y,I64 r8.Light.Z,E7 r8.Rows.1,E6 r8.Frames.1,E8 (r8.Tanks.1.map H9.pl),I64 r8.G1.Tolerance,I64 r8.G1.Trim,I64 r8.G1.List_,I64 r8.G1.Stability],E3 r9.1,E2 r10.1,E1 r12.1,I64 n]) (g:=I64) (r:=r28.1) O (Q35 F (H0.mk (r8.Columns.1.map Gv.pl) (r8.Covers.1.map H3.pl) r8.Light r8.Rows.1 r8.Frames.1 (r8.Tanks.1.map H9.pl) r8.G1) r9.1 r10.1 r12.1 n r28 hr28) Jdf ⟨.data O O,.data O O,.vsl (e:=r10) (f:=Stowed.av) O O,.vsl (e:=r12) (f:=I64) O O,.data O O,G⟩ (fun _=>O) O) O (JLm (.tup [E1 r28.1,I64 r28.2]) O (JLh (E1 r28.1) (Hk O O O) O (JLh (I64 r28.2) (Hk O O O) O (JLm (E1 r28.1) O (JLm (I64 r28.2) O (G7 (hK27 ?_)))))))
   refine Jr fun hK29=>(JLh (.agg (H0.cs s)) (Gh Hc O O O) O (JLm (E3 boxes) O (JLm (E2 l) O (JLm (E1 open_) O (JLm (I64 n) O ?_)))))
   obtain⟨r30,hr30,h⟩:=Gc h
   refine JLh (.tup [E1 r30.1,I64 r30.2]) (Gm O (H93 F s boxes l open_ n r30 hr30) R2a ⟨O,O,O,O,O,O,O,O,O,O,G⟩) O (JLm (.tup [E1 r30.1,I64 r30.2]) O (JLh (E1 r30.1) (Hk O O O) O (JLh (I64 r30.2) (Hk O O O) O (JLm (E1 r30.1) O (JLm (I64 r30.2) O (G7 (hK29 ?_)))))))
   refine Jr fun hK31=>(JLh (.agg [E5 (r8.Columns.1.map Gv.pl),E4 (r8.Covers.1.map H3.pl),I64 r8.Light.Kilos,I64 r8.Light.X,I64 r8.Light.Y,I64 r8.Light.Z,E7 r8.Rows.1,E6 r8.Frames.1,E8 (r8.Tanks.1.map H9.pl),I64 r8.G1.Tolerance,I64 r8.G1.Trim,I64 r8.G1.List_,I64 r8.G1.Stability]) (H1.cv (Cv.aggL (cs:=(Rv.cs r8)) ⟨Cv.lstM (f:=Gv.av) (g:=G3.av) Gv.pl Gv.cvl r8.Columns,Cv.lstM (f:=H3.av) (g:=G9.av) H3.pl H3.cvl r8.Covers,.same,.same,.same,.same,Cv.lst0 r8.Rows,Cv.lst0 r8.Frames,Cv.lstM (f:=H9.av) (g:=Gg.av) H9.pl H9.cvl r8.Tanks,.same,.same,.same,.same,G⟩) (Gh Hc O O O)) O (JLh (E3 r9.1) (H1.cv (Cv.lst0 r9) (G4 O O)) O (JLm (.vsl 1011 v11 4 0 r10.1.length) O (JLm (.vsl 1012 v13 1 0 r12.1.length) O (JLm (I64 n) O ?_)))))
   obtain⟨r32,hr32,h⟩:=Gc h
   refine JLh (.tup [E1 r32.1,I64 r32.2]) (H71 (args:=[.agg [E5 (r8.Columns.1.map Gv.pl),E4 (r8.Covers.1.map H3.pl),I64 r8.Light.Kilos,I64 r8.Light.X,I64 r8.Light.Y,I64 r8.Light.Z,E7 r8.Rows.1,E6 r8.Frames.1,E8 (r8.Tanks.1.map H9.pl),I64 r8.G1.Tolerance,I64 r8.G1.Trim,I64 r8.G1.List_,I64 r8.G1.Stability],E3 r9.1,E2 r10.1,E1 r12.1,I64 n]) (g:=I64) (r:=r32.1) O (Q13 F (H0.mk (r8.Columns.1.map Gv.pl) (r8.Covers.1.map H3.pl) r8.Light r8.Rows.1 r8.Frames.1 (r8.Tanks.1.map H9.pl) r8.G1) r9.1 r10.1 r12.1 n r32 hr32) R29 ⟨.data O O,.data O O,.vsl (e:=r10) (f:=Stowed.av) O O,.vsl (e:=r12) (f:=I64) O O,.data O O,G⟩ (fun _=>O) O) O (JLm (.tup [E1 r32.1,I64 r32.2]) O (JLh (E1 r32.1) (Hk O O O) O (JLh (I64 r32.2) (Hk O O O) O (JLm (E1 r32.1) O (JLm (I64 r32.2) O (G7 (hK31 ?_)))))))
   refine Jr fun hK33=>(JLh (.agg (H0.cs s)) (Gh Hc O O O) O (JLm (E3 boxes) O (JLm (E2 l) O (JLm (E1 open_) O (JLm (I64 n) O ?_)))))
   obtain⟨r34,hr34,h⟩:=Gc h
   refine JLh (.tup [E1 r34.1,I64 r34.2]) (Gm O (H7b F s boxes l open_ n r34 hr34) R28 ⟨O,O,O,O,O,O,O,O,O,O,G⟩) O (JLm (.tup [E1 r34.1,I64 r34.2]) O (JLh (E1 r34.1) (Hk O O O) O (JLh (I64 r34.2) (Hk O O O) O (JLm (E1 r34.1) O (JLm (I64 r34.2) O (G7 (hK33 (Js fun hK35=>?_))))))))
   refine Jr fun hK36=>(JLm (I64 r28.2) O (JLm (I64 r30.2) O (JLh (BL (decide (r28.2≠r30.2))) (G0e O O O) O (JLm (BL (decide (r28.2≠r30.2))) O (JLo (I64 r32.2) [] O .scf G (fun hc=>G4 O O) O (JLo (I64 r34.2) [] O .scf G (fun hc=>G4 O O) O (JLo (BL (decide (r32.2≠r34.2))) [147,148] O .scf ⟨Ua,Ua,G⟩ (fun hc=>G0e O O O) O (JLh (BL ((decide (r28.2≠r30.2))||(decide (r32.2≠r34.2)))) (Y4 O O O O) O (JLm (BL ((decide (r28.2≠r30.2))||(decide (r32.2≠r34.2)))) O (JLo (.agg (Rv.cs r8)) [] O .scf G (fun hc=>Gh Hc O O O) O (JLo (.agg (H0.cs s)) [] O .scf G (fun hc=>Gh Hc O O O) O ?_)))))))))))
   obtain⟨r37,hr37,h⟩:=Gc h
   refine JLo (BL r37) [152,153] O .scf ⟨Ua,Ua,G⟩ (fun hc=>Gm (args:=[.agg (Rv.cs r8),.agg (H0.cs s)]) O (H56 r8 s r37 (Gu hc hr37)) R27 ⟨O,O,O,O,G⟩) O (JLo (BL (!r37)) [154] O .scf ⟨Ua,G⟩ (fun hc=>Q7 (b:=r37) O O) O (JLh (BL (((decide (r28.2≠r30.2))||(decide (r32.2≠r34.2)))||(!r37))) (Y4 O O O O) O (JLm (BL (((decide (r28.2≠r30.2))||(decide (r32.2≠r34.2)))||(!r37))) O (JLo (LT 9 Box.av r9) [] O .scf G (fun hc=>G4 O O) O (JLo (E3 boxes) [] O .scf G (fun hc=>G4 O O) O ?_)))))
   obtain⟨r38,hr38,h⟩:=Gc h
   refine JLo (BL r38) [158,159] O .scf ⟨Ua,Ua,G⟩ (fun hc=>Gm (args:=[LT 9 Box.av r9,E3 boxes]) O (H47 r9 boxes r38 (Gu hc hr38)) R26 ⟨O,O,O,O,G⟩) O (JLo (BL (!r38)) [160] O .scf ⟨Ua,G⟩ (fun hc=>Q7 (b:=r38) O O) O (JLh (BL ((((decide (r28.2≠r30.2))||(decide (r32.2≠r34.2)))||(!r37))||(!r38))) (Y4 O O O O) O (JLm (BL ((((decide (r28.2≠r30.2))||(decide (r32.2≠r34.2)))||(!r37))||(!r38))) O (JLo (.vsl 1011 v11 4 0 r10.1.length) [] O .scf G (fun hc=>G4 O O) O (JLo (E2 l) [] O .scf G (fun hc=>G4 O O) O ?_)))))
   obtain⟨r39,hr39,h⟩:=Gc h
   refine JLo (BL r39) [164,165] O .scf ⟨Ua,Ua,G⟩ (fun hc=>Hf2 (args:=[LT 4 Stowed.av r10,E2 l]) O (H12 r10 l r39 (Gu hc hr39)) R25 ⟨.vlt (e:=r10) (f:=Stowed.av) O O,.data O O,G⟩ O) O (JLo (BL (!r39)) [166] O .scf ⟨Ua,G⟩ (fun hc=>Q7 (b:=r39) O O) O (JLh (BL (((((decide (r28.2≠r30.2))||(decide (r32.2≠r34.2)))||(!r37))||(!r38))||(!r39))) (Y4 O O O O) O (JLm (BL (((((decide (r28.2≠r30.2))||(decide (r32.2≠r34.2)))||(!r37))||(!r38))||(!r39))) O (JLo (.vsl 1012 v13 1 0 r12.1.length) [] O .scf G (fun hc=>G4 O O) O (JLo (E1 open_) [] O .scf G (fun hc=>G4 O O) O ?_)))))
   obtain⟨r40,hr40,h⟩:=Gc h
   refine JLo (BL r40) [170,171] O .scf ⟨Ua,Ua,G⟩ (fun hc=>Hf2 (args:=[LT 1 I64 r12,E1 open_]) O (G10 r12 open_ r40 (Gu hc hr40)) Ha7 ⟨.vlt (e:=r12) (f:=I64) O O,.data O O,G⟩ O) O (JLo (BL (!r40)) [172] O .scf ⟨Ua,G⟩ (fun hc=>Q7 (b:=r40) O O) O (JLh (BL ((((((decide (r28.2≠r30.2))||(decide (r32.2≠r34.2)))||(!r37))||(!r38))||(!r39))||(!r40))) (Y4 O O O O) O (G7 (hK36 (JCc O h (fun h hb=>?_) (fun h hb=>?_))))))
   ·
    refine Jr fun hK41=>(JLm (BL false) O (G7 (hK41 (Gn (fin1 BL h)))))
   ·
    refine Gk (hK35 (Jr fun hK42=>(JLm (.vsl 1011 v11 4 0 r10.1.length) O ?_)))
    obtain⟨r43,hr43,h⟩:=Gc h
    refine JLh (.tup []) (Gb7 (args:=[.vsl 1011 v11 4 0 r10.1.length]) (L0:=[(1011,.vec 39 4 v11 ((r10.1++r10.2).map Stowed.av))]) (Lr:=[(1011,.vec 39 4 v11 (r43.map Stowed.av))]) O (Ga2 r10 v11 r43 hr43) R24 ⟨.inl O,O,G⟩ ⟨O,G⟩ O O O) O (G7 (hK42 (Jr fun hK44=>(JLm (.vsl 1012 v13 1 0 r12.1.length) O ?_))))
    obtain⟨r45,hr45,h⟩:=Gc h
    refine JLh (.tup []) (Gb7 (args:=[.vsl 1012 v13 1 0 r12.1.length]) (L0:=[(1012,.vec 3 1 v13 ((r12.1++r12.2).map I64))]) (Lr:=[(1012,.vec 3 1 v13 (r45.map I64))]) O (Gbc r12 v13 r45 hr45) R23 ⟨.inl O,O,G⟩ ⟨O,G⟩ O O O) O (G7 (hK44 (Jr fun hK46=>(JLm (E2 r15.1) O (JLm (E2 r17.1) O ?_)))))
    obtain⟨r47,hr47,h⟩:=Gc h
    refine JLh (BL r47) (Gm O (G6b r15.1 r17.1 r47 hr47) Jde ⟨O,O,O,O,G⟩) O (JLm (BL r47) O (JLo (E2 r19.1) [] O .sct G (fun hc=>G4 O O) O (JLo (E2 r21.1) [] O .sct G (fun hc=>G4 O O) O ?_)))
    obtain⟨r48,hr48,h⟩:=Gc h
    refine JLo (BL r48) [183,184] O .sct ⟨Ua,Ua,G⟩ (fun hc=>Gm (args:=[E2 r19.1,E2 r21.1]) O (G6b r19.1 r21.1 r48 (Gu hc hr48)) Jde ⟨O,O,O,O,G⟩) O (JLh (BL (r47&&r48)) (Hy O O O O) O (JLm (BL (r47&&r48)) O (JLo (E1 r28.1) [] O .sct G (fun hc=>G4 O O) O (JLo (E1 r30.1) [] O .sct G (fun hc=>G4 O O) O ?_))))
    obtain⟨r49,hr49,h⟩:=Gc h
    refine JLo (BL r49) [188,189] O .sct ⟨Ua,Ua,G⟩ (fun hc=>Gm (args:=[E1 r28.1,E1 r30.1]) O (Qh r28.1 r30.1 r49 (Gu hc hr49)) G82 ⟨O,O,O,O,G⟩) O (JLh (BL ((r47&&r48)&&r49)) (Hy O O O O) O (JLm (BL ((r47&&r48)&&r49)) O (JLo (E1 r32.1) [] O .sct G (fun hc=>G4 O O) O (JLo (E1 r34.1) [] O .sct G (fun hc=>G4 O O) O ?_))))
    obtain⟨r50,hr50,h⟩:=Gc h
    refine JLo (BL r50) [193,194] O .sct ⟨Ua,Ua,G⟩ (fun hc=>Gm (args:=[E1 r32.1,E1 r34.1]) O (Qh r32.1 r34.1 r50 (Gu hc hr50)) G82 ⟨O,O,O,O,G⟩) O (JLh (BL (((r47&&r48)&&r49)&&r50)) (Hy O O O O) O (JLm (BL (((r47&&r48)&&r49)&&r50)) O ?_))
    obtain⟨r51,hr51,h⟩:=Gc h
    refine JLo (BL r51) [] O .sct G (fun hc=>Gm (args:=[]) O (Gac F r51 (Gu hc hr51)) Q40 G) O (JLh (BL ((((r47&&r48)&&r49)&&r50)&&r51)) (Hy O O O O) O (JLm (BL ((((r47&&r48)&&r49)&&r50)&&r51)) O (G7 (hK46 (Gn (fin1 BL h))))))
end
end Go.Proofs.YtecjdioomlhhiaaGreat
