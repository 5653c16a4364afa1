/-
 Models of functions of the program,and that they return what the models say.
-/
import Derived.Test.YtidpfkmbfgihlaaGreatXBa
set_option maxRecDepth 100000
set_option maxHeartbeats 1000000
set_option linter.unusedVariables false
set_option linter.unusedSimpArgs false
namespace Go.Proofs.YtidpfkmbfgihlaaGreat
open Go.RowKit
noncomputable section
open XAF
open XCF
open XSF
open XKF
open XTF
open XUF
open XBF

def Yp (x:Hd) (s:Gk) (boxes:List Box) (m:Gb):Option Move:=
 bnd (Gd8 x.Kind 5) fun v3=>
 jp (fun kj4=>
  jp (fun kj6=>
   bif decide (v3=1) then
   (kj6 (decide (v3=1)))
   else
   (kj6 (decide (v3=4)))) fun(j6:Bool)=>
  bif j6 then
  (chk (x.G8) fun v8=>
   chk ((s.Covers.length:Int)+1) fun v9=>
   bnd (Gd8 v8 v9) fun v10=>
   kj4 (0,0,0,0,v10))
  else
  (bif decide (v3=2) then
   (jp (fun kj12=>
     bnd (Qz m) fun r14=>
     bif decide (0 < (r14.length:Int)) then
     (chk (x.Box) fun v17=>
      bnd (Gd8 v17 (r14.length:Int)) fun v18=>
      Yy r14 v18 fun y19=>
      kj12 (y19.Box,y19.Slot.G2,y19.Slot.Tier,y19.Slot.Half))
     else
     (kj12 (0,0,0,0))) fun(j12:Int×Int×Int×Int)=>
    bnd (Gd8 x.Half 4) fun v22=>
    bif decide (v22=3) then
    (chk (j12.2.2.1+1) fun v23=>
     kj4 (j12.1,j12.2.1,v23,j12.2.2.2,0))
    else
    (kj4 (j12.1,j12.2.1,j12.2.2.1,j12.2.2.2,0)))
   else
   (bif decide (v3=3) then
    (jp (fun kj25=>
      bnd (Qp m) fun r27=>
      bif decide (0 < (r27.length:Int)) then
      (chk (x.Box) fun v29=>
       bnd (Gd8 v29 (r27.length:Int)) fun v30=>
       Yy r27 v30 fun y31=>
       kj25 y31)
      else
      (kj25 0)) fun(j25:Int)=>
     chk (x.G2) fun v34=>
     bnd (Gd8 v34 (s.Columns.length:Int)) fun v35=>
     chk (x.Tier) fun v36=>
     bnd (Gd8 v36 4) fun v37=>
     bnd (G38 boxes j25) fun r39=>
     bif (r39.2&&(decide (r39.1.Size=20))) then
     (bnd (Gd8 x.Half 2) fun v41=>
      kj4 (j25,v35,v37,IntKind.u8.wrap (1+v41),0))
     else
     (kj4 (j25,v35,v37,0,0)))
    else
    (kj4 (0,0,0,0,0))))) fun(j4:Int×Int×Int×Int×Int)=>
 some (Move.mk v3 j4.1 (Slot.mk j4.2.1 j4.2.2.1 j4.2.2.2.1) j4.2.2.2.2)
abbrev Kf (x:Hd):List AV:=[U8 x.Kind,U8 x.Box,U8 x.G2,U8 x.Tier,U8 x.Half,U8 x.G8]
theorem Gdf (x:Hd) (s:Gk) (boxes:List Box) (m:Gb) (r:Move) (h:Yp x s boxes m=some r):Pure Eo 15 [.agg [U8 x.Kind,U8 x.Box,U8 x.G2,U8 x.Tier,U8 x.Half,U8 x.G8],.agg (Gk.cs s),E8 boxes,Ef m] (·=.agg (Move.cs r)):=by
 unfold Yp at h
 refine Gy [.cell 8 45] Tryz.func15 O O (Jr fun hK1=>(JLh (.ptr 1036 0) (Jk (cs:=(Kf x)) 1036 O O O O O) O (JLh (.ptr 1037 0) (Jk (cs:=(Gk.cs s)) 1037 O O O O O) O (JLh (.ptr 1038 0) (G58 1038 [U8 0,I64 0,I64 0,I64 0,U8 0,I64 0] [.int .u8 0,E0,E0,E0,.int .u8 0,E0] R6 ⟨.inl O,.inl O,.inl O,.inl O,.inl O,.inl O,G⟩ O O) O (G5 (hK1 ?_))))))
 refine Gm [(2,E8 boxes),(3,Ef m),(4,.dptr (Kf x)),(5,.ptr 1037 0),(8,.ptr 1038 0)] [(1037,.box 36 (Gk.cs s)),(1038,.box 45 [U8 0,I64 0,I64 0,I64 0,U8 0,I64 0])] 1036 rfl rfl rfl ⟨⟨_,rfl,.boxEq rfl rfl⟩,⟨_,rfl,.boxEq rfl rfl⟩,G⟩ rfl (by repeat' (first | exact .ptr | constructor)) ?_
 refine Gm [(2,E8 boxes),(3,Ef m),(4,.dptr (Kf x)),(5,Eg s),(8,.ptr 1038 0)] [(1038,.box 45 [U8 0,I64 0,I64 0,I64 0,U8 0,I64 0])] 1037 rfl rfl rfl ⟨⟨_,rfl,.boxEq rfl rfl⟩,G⟩ rfl (by repeat' (first | exact .ptr | constructor)) (Jr fun hK2=>(JLh (.dptr (Kf x)) (G9 Qcd O O O) O (JLh (U8 x.Kind) (Gg Hn O O O) O ?_)))
 obtain⟨v3,hv3,h⟩:=Ga h
 refine JLh (U8 v3) (H02 (Jp hv3).1 (Jp hv3).2 O O O) O (JLh (.agg [U8 v3,I64 0,I64 0,I64 0,U8 0,I64 0]) (Hb (cs:=[U8 v3,I64 0,I64 0,I64 0,U8 0,I64 0]) [(0,1),(1,1),(2,3),(5,1)] [U8 0,I64 0,I64 0,I64 0,U8 0,I64 0] [.int .u8 0,E0,E0,E0,.int .u8 0,E0] Qn R6 ⟨.inl O,.inl O,.inl O,.inl O,.inl O,.inl O,G⟩ O O) O (JLh (.ptr 1039 0) (Hp 1039 6 Gd5 O O) O (Ho (u:=.junk) (Hc (u:=.agg [U8 v3,I64 0,I64 0,I64 0,U8 0,I64 0]) (ds:=[U8 v3,I64 0,I64 0,I64 0,U8 0,I64 0]) H60 O O O O O O O O) (G5 (hK2 ?_)))))
 obtain⟨kj4,hkj4,h⟩:=Yu h
 refine Rg (fun j4:Int×Int×Int×Int×Int=>kj4 j4=some r) (fun j4=>[(8,.ptr 1038 0),(9,.ptr 1039 0)]) (fun j4=>[(1038,.box 45 [U8 0,I64 0,I64 0,I64 0,U8 0,I64 0]),(1039,.box 45 [U8 v3,I64 j4.1,I64 j4.2.1,I64 j4.2.2.1,U8 j4.2.2.2.1,I64 j4.2.2.2.2])]) (fun Kj4 ej4=>?_) ?_
 ·
  refine Jr fun hK5=>(JLh (.ptr 1039 0) (Hh G74 O O) O (JLh (U8 v3) (Hx Hn O O O O) O (G5 (hK5 (Gw ?_)))))
  obtain⟨kj6,hkj6,h⟩:=Yu h
  refine Rg (fun j6:Bool=>kj6 j6=some r) (fun j6=>[(2,E8 boxes),(3,Ef m),(4,.dptr (Kf x)),(5,Eg s),(8,.ptr 1038 0),(9,.ptr 1039 0),(20,U8 v3),(21,BL j6)]) (fun j6=>[(1038,.box 45 [U8 0,I64 0,I64 0,I64 0,U8 0,I64 0]),(1039,.box 45 [U8 v3,I64 0,I64 0,I64 0,U8 0,I64 0])]) (fun Kj6 ej6=>?_) ?_
  ·
   refine Jr fun hK7=>(JLh (BL (decide (v3=1))) (Q0 O O O) O (JLm (BL (decide (v3=1))) O (G5 (hK7 (JCc O h (fun h hb=>?_) (fun h hb=>?_))))))
   ·
    refine Gr (ej6 _ _ (decide (v3=1)) h ⟨(.sm O O),⟨⟨_,rfl,.boxL rfl (.sm O O)⟩,⟨_,rfl,.boxL rfl (.sm O O)⟩,G⟩,rfl⟩)
   ·
    refine G1 (JLh (BL (decide (v3=4))) (Q0 O O O) O (JLm (BL (decide (v3=4))) O (G5 (ej6 _ _ (decide (v3=4)) h ⟨(.sm O O),⟨⟨_,rfl,.boxL rfl (.sm O O)⟩,⟨_,rfl,.boxL rfl (.sm O O)⟩,G⟩,rfl⟩))))
  ·intro j6 h
   replace h:=app1 hkj6 h
   refine JCc O h ?_ ?_<;>intro h hb
   ·
    refine G1 (JLh (.dptr [U8 x.G8]) (G9 Qca O O O) O (JLh (U8 x.G8) (Gg Hn O O O) O ?_))
    obtain⟨v8,hv8,h⟩:=Jd h
    refine JLh (I64 v8) (G6a Zd G01 hv8 O O) O (JLh (.dptr ((Gk.cs s).drop 1)) (G9 Jo O O O) O (JLh (E7 s.Covers) (Gg Qa O O O) O (JLl Ji O O O fun hm29=>?_)))
    obtain⟨v9,hv9,h⟩:=Jd h
    refine JLh (I64 v9) (Jf hv9 O O O) O ?_
    obtain⟨v10,hv10,h⟩:=Ga h
    refine JLh (I64 v10) (H02 (Jp hv10).1 (Jp hv10).2 O O O) O (JLh (.ptr 1039 5) (Hh Ry O O) O (Ho (u:=.junk) (Hc (u:=I64 v10) (ds:=[U8 v3,I64 0,I64 0,I64 0,U8 0,I64 v10]) G2b O O O O O O O O) (G5 (ej4 _ _ (0,0,0,0,v10) h ⟨(.sm O O),⟨⟨_,rfl,.boxL rfl (.sm O O)⟩,⟨_,rfl,.boxL rfl (.sm O O)⟩,G⟩,rfl⟩))))
   ·
    refine Jr fun hK11=>(JLh (BL (decide (v3=2))) (Q0 O O O) O (JLm (BL (decide (v3=2))) O (G5 (hK11 (JCc O h (fun h hb=>?_) (fun h hb=>?_))))))
    ·
     obtain⟨kj12,hkj12,h⟩:=Yu h
     refine Rg (fun j12:Int×Int×Int×Int=>kj12 j12=some r) (fun j12=>[(4,.dptr (Kf x)),(8,.ptr 1038 0),(9,.ptr 1039 0)]) (fun j12=>[(1038,.box 45 [U8 0,I64 0,I64 0,I64 0,U8 0,I64 0]),(1039,.box 45 [U8 v3,I64 j12.1,I64 j12.2.1,I64 j12.2.2.1,U8 j12.2.2.2,I64 0])]) (fun Kj12 ej12=>?_) ?_
     ·
      refine Jr fun hK13=>(JLm (Ef m) O ?_)
      obtain⟨r14,hr14,h⟩:=Ga h
      refine JLh (E6 r14) (Gs O (H9b.down m r14 hr14) G89 ⟨O,O,G⟩) O (JLm (E6 r14) O (G5 (hK13 (Jr fun hK15=>(JLm (E6 r14) O (JLl H3 O O O fun hm38=>(JLh (BL (decide (0 < (r14.length:Int)))) (Gb9 O O O) O (G5 (hK15 (JCc O h (fun h hb=>?_) (fun h hb=>?_)))))))))))
      ·
       refine Jr fun hK16=>(JLm (E6 r14) O (JLh (.dptr [U8 x.Box,U8 x.G2,U8 x.Tier,U8 x.Half,U8 x.G8]) (G9 J54 O O O) O (JLh (U8 x.Box) (Gg Hn O O O) O ?_)))
       obtain⟨v17,hv17,h⟩:=Jd h
       refine JLh (I64 v17) (G6a Zd G01 hv17 O O) O (JLm (E6 r14) O (JLl H3 O O O fun hm45=>?_))
       obtain⟨v18,hv18,h⟩:=Ga h
       refine JLh (I64 v18) (H02 (Jp hv18).1 (Jp hv18).2 O O O) O ?_
       obtain⟨m20,y19,hm20,hy19,h⟩:=Y9 h
       refine JLh (Ei y19) (Hf (f:=Stowed.av) (xs:=r14) (y:=y19) O O O H3 hy19 hm20) O (JLh (.agg (Stowed.cs y19)) (Gi R3 O O O) O (JLh (.ptr 1040 0) (Hp 1040 4 Jw O O) O (Ho (u:=.junk) (Hc (u:=.agg (Stowed.cs y19)) (ds:=[I64 y19.Box,I64 y19.Slot.G2,I64 y19.Slot.Tier,U8 y19.Slot.Half]) G0b O O O O O O O O) (G5 (hK16 (Gm [(4,.dptr (Kf x)),(8,.ptr 1038 0),(9,.ptr 1039 0),(11,Ei y19)] [(1038,.box 45 [U8 0,I64 0,I64 0,I64 0,U8 0,I64 0]),(1039,.box 45 [U8 v3,I64 0,I64 0,I64 0,U8 0,I64 0])] 1040 rfl rfl rfl ⟨⟨_,rfl,.boxEq rfl rfl⟩,⟨_,rfl,.boxEq rfl rfl⟩,G⟩ rfl (by repeat' (first | exact .ptr | constructor)) ?_))))))
       refine Qc (l':=[(4,.dptr (Kf x)),(8,.ptr 1038 0),(9,.ptr 1039 0),(11,Ei y19)]) (L':=[(1038,.box 45 [U8 0,I64 0,I64 0,I64 0,U8 0,I64 0]),(1039,.box 45 [U8 v3,I64 0,I64 0,I64 0,U8 0,I64 0])]) ⟨(.sm O O),⟨⟨_,rfl,.boxL rfl (.sm O O)⟩,⟨_,rfl,.boxL rfl (.sm O O)⟩,G⟩,rfl⟩ ?_
       refine J4 [5,7] [0,0,0,0,0,0,1,0] [0,0,1,1,0,0,1,0] [[(1038,.box 45 [U8 0,I64 0,I64 0,I64 0,U8 0,I64 0]),(1039,.box 45 [U8 v3,I64 0,I64 0,I64 0,U8 0,I64 0])],((1039,.box 45 [U8 v3,I64 y19.Box,I64 0,I64 0,U8 0,I64 0])::[(1038,.box 45 [U8 0,I64 0,I64 0,I64 0,U8 0,I64 0]),(1039,.box 45 [U8 v3,I64 0,I64 0,I64 0,U8 0,I64 0])]),((1039,.box 45 [U8 v3,I64 y19.Box,I64 y19.Slot.G2,I64 y19.Slot.Tier,U8 y19.Slot.Half,I64 0])::((1039,.box 45 [U8 v3,I64 y19.Box,I64 0,I64 0,U8 0,I64 0])::[(1038,.box 45 [U8 0,I64 0,I64 0,I64 0,U8 0,I64 0]),(1039,.box 45 [U8 v3,I64 0,I64 0,I64 0,U8 0,I64 0])]))] J0 (by kernel_rfl) rfl rfl ?_
       refine Gd (u:=Ei y19) O O ⟨Ge (G9 Jm O O O) O,G⟩ (Gd (u:=I64 y19.Box) O O ⟨Ge (Gg Gc O O O) O,G⟩ (Gd (u:=.dptr ((Stowed.cs y19).drop 1)) O O ⟨Ge (G9 Jn O O O) O,Ge (G9 Jn O O O) O,G⟩ (Gd (u:=.agg ((Stowed.cs y19).drop 1)) O O ⟨Ge (Gi Hu O O O) O,Ge (Gi Hu O O O) O,G⟩ (Gd (u:=.ptr 1039 1) O O ⟨Ge (Hh Yf O O) O,G⟩ (H85 (u:=.junk) O O O O (Ge (Hc (u:=I64 y19.Box) (ds:=[U8 v3,I64 y19.Box,I64 0,I64 0,U8 0,I64 0]) G2b O O O O O O O O) O) (Gd (u:=.ptr 1039 2) O O ⟨Ge (Hh Jv O O) O,G⟩ (H85 (u:=.junk) O O O O (Ge (Hc (u:=.agg ((Stowed.cs y19).drop 1)) (ds:=[U8 v3,I64 y19.Box,I64 y19.Slot.G2,I64 y19.Slot.Tier,U8 y19.Slot.Half,I64 0]) Zr O O O O O O O O) O) (Qw ?_))))))))
       exact ej12 _ _ (y19.Box,y19.Slot.G2,y19.Slot.Tier,y19.Slot.Half) h ⟨(.sm O O),⟨⟨_,rfl,.boxL rfl (.sm O O)⟩,⟨_,rfl,.boxL rfl (.sm O O)⟩,G⟩,rfl⟩
      ·
       refine Gr (ej12 _ _ (0,0,0,0) h ⟨(.sm O O),⟨⟨_,rfl,.boxL rfl (.sm O O)⟩,⟨_,rfl,.boxL rfl (.sm O O)⟩,G⟩,rfl⟩)
     ·intro j12 h
      replace h:=app1 hkj12 h
      refine Jr fun hK21=>(JLh (.dptr [U8 x.Half,U8 x.G8]) (G9 J53 O O O) O (JLh (U8 x.Half) (Gg Hn O O O) O ?_))
      obtain⟨v22,hv22,h⟩:=Ga h
      refine JLh (U8 v22) (H02 (Jp hv22).1 (Jp hv22).2 O O O) O (JLh (BL (decide (v22=3))) (Q0 O O O) O (G5 (hK21 (JCc O h (fun h hb=>?_) (fun h hb=>?_)))))
      ·
       refine G1 (JLh (.ptr 1039 2) (Hh Jv O O) O (JLh (.ptr 1039 3) (Hh Zb O O) O (JLh (I64 j12.2.2.1) (Hx Gc O O O O) O ?_)))
       obtain⟨v23,hv23,h⟩:=Jd h
       refine JLh (I64 v23) (Jf hv23 O O O) O (JLh (.ptr 1039 2) (Hh Jv O O) O (JLh (.ptr 1039 3) (Hh Zb O O) O (Ho (u:=.junk) (Hc (u:=I64 v23) (ds:=[U8 v3,I64 j12.1,I64 j12.2.1,I64 v23,U8 j12.2.2.2,I64 0]) G2b O O O O O O O O) (G5 (ej4 _ _ (j12.1,j12.2.1,v23,j12.2.2.2,0) h ⟨(.sm O O),⟨⟨_,rfl,.boxL rfl (.sm O O)⟩,⟨_,rfl,.boxL rfl (.sm O O)⟩,G⟩,rfl⟩)))))
      ·
       refine Gr (ej4 _ _ (j12.1,j12.2.1,j12.2.2.1,j12.2.2.2,0) h ⟨(.sm O O),⟨⟨_,rfl,.boxL rfl (.sm O O)⟩,⟨_,rfl,.boxL rfl (.sm O O)⟩,G⟩,rfl⟩)
    ·
     refine Jr fun hK24=>(JLh (BL (decide (v3=3))) (Q0 O O O) O (JLm (BL (decide (v3=3))) O (G5 (hK24 (JCc O h (fun h hb=>?_) (fun h hb=>?_))))))
     ·
      obtain⟨kj25,hkj25,h⟩:=Yu h
      refine Rg (fun j25:Int=>kj25 j25=some r) (fun j25=>[(2,E8 boxes),(4,.dptr (Kf x)),(5,Eg s),(8,.ptr 1038 0),(9,.ptr 1039 0)]) (fun j25=>[(1038,.box 45 [U8 0,I64 0,I64 0,I64 0,U8 0,I64 0]),(1039,.box 45 [U8 v3,I64 j25,I64 0,I64 0,U8 0,I64 0])]) (fun Kj25 ej25=>?_) ?_
      ·
       refine Jr fun hK26=>(JLm (Ef m) O ?_)
       obtain⟨r27,hr27,h⟩:=Ga h
       refine JLh (E2 r27) (Gs O (Gd2 m r27 hr27) Gcf ⟨O,O,G⟩) O (JLm (E2 r27) O (G5 (hK26 (Jr fun hK28=>(JLm (E2 r27) O (JLl Gx O O O fun hm70=>(JLh (BL (decide (0 < (r27.length:Int)))) (Gb9 O O O) O (G5 (hK28 (JCc O h (fun h hb=>?_) (fun h hb=>?_)))))))))))
       ·
        refine G1 (JLm (E2 r27) O (JLh (.dptr [U8 x.Box,U8 x.G2,U8 x.Tier,U8 x.Half,U8 x.G8]) (G9 J54 O O O) O (JLh (U8 x.Box) (Gg Hn O O O) O ?_)))
        obtain⟨v29,hv29,h⟩:=Jd h
        refine JLh (I64 v29) (G6a Zd G01 hv29 O O) O (JLm (E2 r27) O (JLl Gx O O O fun hm77=>?_))
        obtain⟨v30,hv30,h⟩:=Ga h
        refine JLh (I64 v30) (H02 (Jp hv30).1 (Jp hv30).2 O O O) O ?_
        obtain⟨m32,y31,hm32,hy31,h⟩:=Y9 h
        refine JLh (.dptr [I64 y31]) (Hf (f:=I64) (xs:=r27) (y:=y31) O O O Gx hy31 hm32) O (JLh (I64 y31) (Gg Gc O O O) O (JLh (.ptr 1039 1) (Hh Yf O O) O (Ho (u:=.junk) (Hc (u:=I64 y31) (ds:=[U8 v3,I64 y31,I64 0,I64 0,U8 0,I64 0]) G2b O O O O O O O O) (G5 (ej25 _ _ y31 h ⟨(.sm O O),⟨⟨_,rfl,.boxL rfl (.sm O O)⟩,⟨_,rfl,.boxL rfl (.sm O O)⟩,G⟩,rfl⟩)))))
       ·
        refine Gr (ej25 _ _ 0 h ⟨(.sm O O),⟨⟨_,rfl,.boxL rfl (.sm O O)⟩,⟨_,rfl,.boxL rfl (.sm O O)⟩,G⟩,rfl⟩)
      ·intro j25 h
       replace h:=app1 hkj25 h
       refine Js fun hK33=>Qc (l':=[(2,E8 boxes),(4,.dptr (Kf x)),(5,Eg s),(8,.ptr 1038 0),(9,.ptr 1039 0)]) (L':=[(1038,.box 45 [U8 0,I64 0,I64 0,I64 0,U8 0,I64 0]),(1039,.box 45 [U8 v3,I64 j25,I64 0,I64 0,U8 0,I64 0])]) ⟨(.sm O O),⟨⟨_,rfl,.boxL rfl (.sm O O)⟩,⟨_,rfl,.boxL rfl (.sm O O)⟩,G⟩,rfl⟩ ?_
       obtain⟨v34,hv34,h⟩:=Jd h
       obtain⟨v35,hv35,h⟩:=Ga h
       obtain⟨v36,hv36,h⟩:=Jd h
       obtain⟨v37,hv37,h⟩:=Ga h
       refine J4 [13] [0,0,0,0,0,0,0,0,0,0,0,0,0,0] [0,0,0,0,0,0,0,0,0,0,0,0,0,0] [[(1038,.box 45 [U8 0,I64 0,I64 0,I64 0,U8 0,I64 0]),(1039,.box 45 [U8 v3,I64 j25,I64 0,I64 0,U8 0,I64 0])],((1039,.box 45 [U8 v3,I64 j25,I64 v35,I64 v37,U8 0,I64 0])::[(1038,.box 45 [U8 0,I64 0,I64 0,I64 0,U8 0,I64 0]),(1039,.box 45 [U8 v3,I64 j25,I64 0,I64 0,U8 0,I64 0])])] J0 (by kernel_rfl) rfl rfl ?_
       refine Gd (u:=.dptr [U8 x.G2,U8 x.Tier,U8 x.Half,U8 x.G8]) O O ⟨Ge (G9 Qcc O O O) O,G⟩ (Gd (u:=U8 x.G2) O O ⟨Ge (Gg Hn O O O) O,G⟩ (Gd (u:=I64 v34) O O ⟨Ge (G6a Zd G01 hv34 O O) O,G⟩ (Gd (u:=Eg s) O O ⟨Ge (G9 Hv O O O) O,G⟩ (Gd (u:=E1 s.Columns) O O ⟨Ge (Gg J8 O O O) O,G⟩ (Gd (u:=En s.Columns.length) O O ⟨Ge (G1a (f:=G2.av) (xs:=s.Columns) Ht O O) O,G⟩ (Gd (u:=I64 v35) O O ⟨Ge (H02 (Jp hv35).1 (Jp hv35).2 O O O) O,G⟩ (Gd (u:=.dptr [U8 x.Tier,U8 x.Half,U8 x.G8]) O O ⟨Ge (G9 Qcb O O O) O,G⟩ (Gd (u:=U8 x.Tier) O O ⟨Ge (Gg Hn O O O) O,G⟩ (Gd (u:=I64 v36) O O ⟨Ge (G6a Zd G01 hv36 O O) O,G⟩ (Gd (u:=I64 v37) O O ⟨Ge (H02 (Jp hv37).1 (Jp hv37).2 O O O) O,G⟩ (Gd (u:=.agg [I64 v35,I64 v37,U8 0]) O O ⟨Ge (Hb (cs:=[I64 v35,I64 v37,U8 0]) [(0,1),(1,1),(2,1)] [I64 0,I64 0,U8 0] [E0,E0,.int .u8 0] Ga6 Gcd ⟨.inl O,.inl O,.inl O,G⟩ O O) O,G⟩ (Gd (u:=.ptr 1039 2) O O ⟨Ge (Hh Jv O O) O,G⟩ (H85 (u:=.junk) O O O O (Ge (Hc (u:=.agg [I64 v35,I64 v37,U8 0]) (ds:=[U8 v3,I64 j25,I64 v35,I64 v37,U8 0,I64 0]) Zr O O O O O O O O) O) (Qw ?_))))))))))))))
       refine hK33 (Jr fun hK38=>(JLm (E8 boxes) O (JLh (.ptr 1039 1) (Hh Yf O O) O (JLh (I64 j25) (Hx Gc O O O O) O ?_))))
       obtain⟨r39,hr39,h⟩:=Ga h
       refine JLh (.tup [.agg (Box.cs r39.1),BL r39.2]) (Gs O (Gc4 boxes j25 r39 hr39) H64 ⟨O,O,O,O,G⟩) O (JLm (.tup [.agg (Box.cs r39.1),BL r39.2]) O (JLh (.agg (Box.cs r39.1)) (Gz O O O) O (JLh (BL r39.2) (Gz O O O) O (JLh (.ptr 1041 0) (Hp 1041 9 Qt O O) O (Ho (u:=.junk) (Hc (u:=.agg (Box.cs r39.1)) (ds:=(Box.cs r39.1)) Rq O O O O O O O O) (JLm (BL r39.2) O (G5 (hK38 ?_))))))))
       refine Gm [(4,.dptr (Kf x)),(8,.ptr 1038 0),(9,.ptr 1039 0),(13,Eh r39.1),(14,BL r39.2)] [(1038,.box 45 [U8 0,I64 0,I64 0,I64 0,U8 0,I64 0]),(1039,.box 45 [U8 v3,I64 j25,I64 v35,I64 v37,U8 0,I64 0])] 1041 rfl rfl rfl ⟨⟨_,rfl,.boxEq rfl rfl⟩,⟨_,rfl,.boxEq rfl rfl⟩,G⟩ rfl (by repeat' (first | exact .ptr | constructor)) (Jr fun hK40=>(JLm (BL r39.2) O (JLm (BL r39.2) O (JLo (.dptr ((Box.cs r39.1).drop 2)) [] O .sct G (fun hc=>G9 Rx O O O) O (JLo (U8 r39.1.Size) [104] O .sct ⟨Ua,G⟩ (fun hc=>Gg Hn O O O) O (JLo (BL (decide (r39.1.Size=20))) [105] O .sct ⟨Ua,G⟩ (fun hc=>Q0 O O O) O (JLh (BL (r39.2&&(decide (r39.1.Size=20)))) (Rm O O O O) O (G5 (hK40 ?_)))))))))
       refine JCc O h ?_ ?_<;>intro h hb
       ·
        refine G1 (JLh (.dptr [U8 x.Half,U8 x.G8]) (G9 J53 O O O) O (JLh (U8 x.Half) (Gg Hn O O O) O ?_))
        obtain⟨v41,hv41,h⟩:=Ga h
        refine JLh (U8 v41) (H02 (Jp hv41).1 (Jp hv41).2 O O O) O (JLh (U8 (IntKind.u8.wrap (1+v41))) (Jf O O O O) O (JLh (.ptr 1039 2) (Hh Jv O O) O (JLh (.ptr 1039 4) (Hh Re O O) O (Ho (u:=.junk) (Hc (u:=U8 (IntKind.u8.wrap (1+v41))) (ds:=[U8 v3,I64 j25,I64 v35,I64 v37,U8 (IntKind.u8.wrap (1+v41)),I64 0]) J33 O O O O O O O O) (G5 (ej4 _ _ (j25,v35,v37,IntKind.u8.wrap (1+v41),0) h ⟨(.sm O O),⟨⟨_,rfl,.boxL rfl (.sm O O)⟩,⟨_,rfl,.boxL rfl (.sm O O)⟩,G⟩,rfl⟩))))))
       ·
        refine Gr (ej4 _ _ (j25,v35,v37,0,0) h ⟨(.sm O O),⟨⟨_,rfl,.boxL rfl (.sm O O)⟩,⟨_,rfl,.boxL rfl (.sm O O)⟩,G⟩,rfl⟩)
     ·
      refine Gr (ej4 _ _ (0,0,0,0,0) h ⟨(.sm O O),⟨⟨_,rfl,.boxL rfl (.sm O O)⟩,⟨_,rfl,.boxL rfl (.sm O O)⟩,G⟩,rfl⟩)
 ·intro j4 h
  replace h:=app1 hkj4 h
  refine Jr fun hK42=>(JLh (.agg [U8 v3,I64 j4.1,I64 j4.2.1,I64 j4.2.2.1,U8 j4.2.2.2.1,I64 j4.2.2.2.2]) (Ga3 G2c O O O O) O (Ho (u:=.junk) (Hc (u:=.agg [U8 v3,I64 j4.1,I64 j4.2.1,I64 j4.2.2.1,U8 j4.2.2.2.1,I64 j4.2.2.2.2]) (ds:=[U8 v3,I64 j4.1,I64 j4.2.1,I64 j4.2.2.1,U8 j4.2.2.2.1,I64 j4.2.2.2.2]) H60 O O O O O O O O) (G5 (hK42 (Gm [(8,.ptr 1038 0)] [(1038,.box 45 [U8 v3,I64 j4.1,I64 j4.2.1,I64 j4.2.2.1,U8 j4.2.2.2.1,I64 j4.2.2.2.2])] 1039 rfl rfl rfl ⟨⟨_,rfl,.boxEq rfl rfl⟩,G⟩ rfl (by exact⟨.conv (.same rfl),G⟩) (Gq (⟨[.agg [U8 v3,I64 j4.1,I64 j4.2.1,I64 j4.2.2.1,U8 j4.2.2.2.1,I64 j4.2.2.2.2]],[],G,O,⟨⟨_,⟨_,_,_,_,O,O,O,.inl ⟨G2c,O⟩⟩,.conv (.same O)⟩,G⟩,O,congrArg (fun r:Move=>(.agg (Move.cs r):AV)) (Option.some.inj h)⟩)))))))

end
end Go.Proofs.YtidpfkmbfgihlaaGreat
