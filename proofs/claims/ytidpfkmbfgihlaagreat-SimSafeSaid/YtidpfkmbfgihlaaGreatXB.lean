/- Walks of functions. -/
import Derived.Test.YtidpfkmbfgihlaaGreatXBa
set_option maxRecDepth 100000
set_option maxHeartbeats 1000000
set_option linter.unusedVariables false
set_option linter.unusedSimpArgs false
namespace Go.Proofs.YtidpfkmbfgihlaaGreat
open Go.RowKit
noncomputable section
open XAF
open XCF
open XSF
open XKF
open XTF
open XUF
open XBF

def Yt (x:Hd) (s:Gk) (boxes:List Box) (m:Gb):Option Move:=
 bnd (Gdc x.Kind 5) fun d=>
 jp (fun b=>
  jp (fun k=>
   bif decide (d=1) then
   (k (decide (d=1)))
   else
   (k (decide (d=4)))) fun(j6:Bool)=>
  bif j6 then
  (chk (x.G8) fun v8=>
   chk ((s.Covers.length:Int)+1) fun v9=>
   bnd (Gdc v8 v9) fun p=>
   b (0,0,0,0,p))
  else
  (bif decide (d=2) then
   (jp (fun e=>
     bnd (R0 m) fun f=>
     bif decide (0 < (f.length:Int)) then
     (chk (x.Box) fun q=>
      bnd (Gdc q (f.length:Int)) fun r=>
      Z3 f r fun c=>
      e (c.Box,c.Slot.G2,c.Slot.Tier,c.Slot.Half))
     else
     (e (0,0,0,0))) fun(a:Int×Int×Int×Int)=>
    bnd (Gdc x.Half 4) fun t=>
    bif decide (t=3) then
    (chk (a.2.2.1+1) fun u=>
     b (a.1,a.2.1,u,a.2.2.2,0))
    else
    (b (a.1,a.2.1,a.2.2.1,a.2.2.2,0)))
   else
   (bif decide (d=3) then
    (jp (fun g=>
      bnd (Qp m) fun h=>
      bif decide (0 < (h.length:Int)) then
      (chk (x.Box) fun v=>
       bnd (Gdc v (h.length:Int)) fun w=>
       Z3 h w fun y=>
       g y)
      else
      (g 0)) fun(i:Int)=>
     chk (x.G2) fun z=>
     bnd (Gdc z (s.Columns.length:Int)) fun l=>
     chk (x.Tier) fun a0=>
     bnd (Gdc a0 4) fun n=>
     bnd (G40 boxes i) fun o=>
     bif (o.2&&(decide (o.1.Size=20))) then
     (bnd (Gdc x.Half 2) fun a1=>
      b (i,l,n,IntKind.u8.wrap (1+a1),0))
     else
     (b (i,l,n,0,0)))
    else
    (b (0,0,0,0,0))))) fun(j:Int×Int×Int×Int×Int)=>
 some (Move.mk d j.1 (Slot.mk j.2.1 j.2.2.1 j.2.2.2.1) j.2.2.2.2)
abbrev Kf (x:Hd):List AV:=[U8 x.Kind,U8 x.Box,U8 x.G2,U8 x.Tier,U8 x.Half,U8 x.G8]
theorem Ge3 (x:Hd) (s:Gk) (boxes:List Box) (m:Gb) (r:Move) (h:Yt x s boxes m=some r):Pure Eo 15 [.agg [U8 x.Kind,U8 x.Box,U8 x.G2,U8 x.Tier,U8 x.Half,U8 x.G8],.agg (Gk.cs s),E8 boxes,Ee m] (·=.agg (Move.cs r)):=by
 unfold Yt at h
 refine H0 [.cell 8 45] Tryz.func15 O O (Jr fun d6=>(JLh (.ptr 1036 0) (Jm (cs:=(Kf x)) 1036 O O O O O) O (JLh (.ptr 1037 0) (Jm (cs:=(Gk.cs s)) 1037 O O O O O) O (JLh (.ptr 1038 0) (G5f 1038 [U8 0,I64 0,I64 0,I64 0,U8 0,I64 0] [.int .u8 0,E0,E0,E0,.int .u8 0,E0] R7 (zzQ O) O O) O (G5 (d6 ?_))))))
 refine fzQ [(2,E8 boxes),(3,Ee m),(4,.dptr (Kf x)),(5,.ptr 1037 0),(8,.ptr 1038 0)] [(1037,.box 36 (Gk.cs s)),(1038,.box 45 [U8 0,I64 0,I64 0,I64 0,U8 0,I64 0])] 1036 rfl rfl rfl ⟨⟨_,rfl,.boxEq rfl rfl⟩,⟨_,rfl,.boxEq rfl rfl⟩,G⟩ rfl ?_
 refine fzQ [(2,E8 boxes),(3,Ee m),(4,.dptr (Kf x)),(5,Ef s),(8,.ptr 1038 0)] [(1038,.box 45 [U8 0,I64 0,I64 0,I64 0,U8 0,I64 0])] 1037 rfl rfl rfl ⟨⟨_,rfl,.boxEq rfl rfl⟩,G⟩ rfl (Jr fun d7=>(JLh (.dptr (Kf x)) (G9 Qd8 O O O) O (JLh (U8 x.Kind) (Gh Ho O O O) O ?_)))
 obtain⟨b,a6,h⟩:=Ga h
 refine JLh (U8 b) (H08 (Jq a6).1 (Jq a6).2 O O O) O (JLh (.agg [U8 b,I64 0,I64 0,I64 0,U8 0,I64 0]) (Hb (cs:=[U8 b,I64 0,I64 0,I64 0,U8 0,I64 0]) [(0,1),(1,1),(2,3),(5,1)] [U8 0,I64 0,I64 0,I64 0,U8 0,I64 0] [.int .u8 0,E0,E0,E0,.int .u8 0,E0] Qn R7 (zzQ O) O O) O (JLh (.ptr 1039 0) (Hq 1039 6 Gd9 O O) O (Hp (u:=.junk) (Hc (u:=.agg [U8 b,I64 0,I64 0,I64 0,U8 0,I64 0]) (ds:=[U8 b,I64 0,I64 0,I64 0,U8 0,I64 0]) H69 O O O O O O O O) (G5 (d7 ?_)))))
 obtain⟨d8,a8,h⟩:=Yy h
 refine Ri (fun c:Int×Int×Int×Int×Int=>d8 c=some r) (fun c=>[(8,.ptr 1038 0),(9,.ptr 1039 0)]) (fun c=>[(1038,.box 45 [U8 0,I64 0,I64 0,I64 0,U8 0,I64 0]),(1039,.box 45 [U8 b,I64 c.1,I64 c.2.1,I64 c.2.2.1,U8 c.2.2.2.1,I64 c.2.2.2.2])]) (fun Kj4 ej4=>?_) ?_
 ·
  refine Jr fun d9=>(JLh (.ptr 1039 0) (Hi G7b O O) O (JLh (U8 b) (Hx Ho O O O O) O (G5 (d9 (Gx ?_)))))
  obtain⟨e0,a9,h⟩:=Yy h
  refine Ri (fun t:Bool=>e0 t=some r) (fun t=>[(2,E8 boxes),(3,Ee m),(4,.dptr (Kf x)),(5,Ef s),(8,.ptr 1038 0),(9,.ptr 1039 0),(20,U8 b),(21,BL t)]) (fun t=>[(1038,.box 45 [U8 0,I64 0,I64 0,I64 0,U8 0,I64 0]),(1039,.box 45 [U8 b,I64 0,I64 0,I64 0,U8 0,I64 0])]) (fun Kj6 ej6=>?_) ?_
  ·
   refine Jr fun e1=>(JLh (BL (decide (b=1))) (Q0 O O O) O (JLm (BL (decide (b=1))) O (G5 (e1 (JCc O h (fun h hb=>?_) (fun h hb=>?_))))))
   ·
    refine Gr (ej6 _ _ (decide (b=1)) h ⟨(.sm O O),⟨fbQ O (.sm O O),fbQ O (.sm O O),G⟩,rfl⟩)
   ·
    refine G1 (JLh (BL (decide (b=4))) (Q0 O O O) O (JLm (BL (decide (b=4))) O (G5 (ej6 _ _ (decide (b=4)) h ⟨(.sm O O),⟨fbQ O (.sm O O),fbQ O (.sm O O),G⟩,rfl⟩))))
  ·intro t h
   replace h:=app1 a9 h
   refine JCc O h ?_ ?_<;>intro h hb
   ·
    refine G1 (JLh (.dptr [U8 x.G8]) (G9 Qd5 O O O) O (JLh (U8 x.G8) (Gh Ho O O O) O ?_))
    obtain⟨v8,e2,h⟩:=Je h
    refine JLh (I64 v8) (G70 Zh G08 e2 O O) O (JLh (.dptr ((Gk.cs s).drop 1)) (G9 Jp O O O) O (JLh (E7 s.Covers) (Gh Qa O O O) O (JLl Jj O O O fun f1=>?_)))
    obtain⟨v9,e3,h⟩:=Je h
    refine JLh (I64 v9) (Jg e3 O O O) O ?_
    obtain⟨p,v,h⟩:=Ga h
    refine JLh (I64 p) (H08 (Jq v).1 (Jq v).2 O O O) O (JLh (.ptr 1039 5) (Hi Y1 O O) O (Hp (u:=.junk) (Hc (u:=I64 p) (ds:=[U8 b,I64 0,I64 0,I64 0,U8 0,I64 p]) G32 O O O O O O O O) (G5 (ej4 _ _ (0,0,0,0,p) h ⟨(.sm O O),⟨fbQ O (.sm O O),fbQ O (.sm O O),G⟩,rfl⟩))))
   ·
    refine Jr fun b0=>(JLh (BL (decide (b=2))) (Q0 O O O) O (JLm (BL (decide (b=2))) O (G5 (b0 (JCc O h (fun h hb=>?_) (fun h hb=>?_))))))
    ·
     obtain⟨b1,a4,h⟩:=Yy h
     refine Ri (fun d:Int×Int×Int×Int=>b1 d=some r) (fun d=>[(4,.dptr (Kf x)),(8,.ptr 1038 0),(9,.ptr 1039 0)]) (fun d=>[(1038,.box 45 [U8 0,I64 0,I64 0,I64 0,U8 0,I64 0]),(1039,.box 45 [U8 b,I64 d.1,I64 d.2.1,I64 d.2.2.1,U8 d.2.2.2,I64 0])]) (fun Kj12 ej12=>?_) ?_
     ·
      refine Jr fun b2=>(JLm (Ee m) O ?_)
      obtain⟨k,b3,h⟩:=Ga h
      refine JLh (E2 k) (Gt O (Ha2.down m k b3) G8e ⟨O,O,G⟩) O (JLm (E2 k) O (G5 (b2 (Jr fun b4=>(JLm (E2 k) O (JLl H4 O O O fun f3=>(JLh (BL (decide (0 < (k.length:Int)))) (Gbe O O O) O (G5 (b4 (JCc O h (fun h hb=>?_) (fun h hb=>?_)))))))))))
      ·
       refine Jr fun b5=>(JLm (E2 k) O (JLh (.dptr [U8 x.Box,U8 x.G2,U8 x.Tier,U8 x.Half,U8 x.G8]) (G9 J5c O O O) O (JLh (U8 x.Box) (Gh Ho O O O) O ?_)))
       obtain⟨e4,b6,h⟩:=Je h
       refine JLh (I64 e4) (G70 Zh G08 b6 O O) O (JLm (E2 k) O (JLl H4 O O O fun f4=>?_))
       obtain⟨e5,w,h⟩:=Ga h
       refine JLh (I64 e5) (H08 (Jq w).1 (Jq w).2 O O O) O ?_
       obtain⟨f7,a,b7,b8,h⟩:=Yc h
       refine JLh (Eg a) (Hg (f:=Stowed.av) (xs:=k) (y:=a) O O O H4 b8 b7) O (JLh (.agg (Stowed.cs a)) (Gj R3 O O O) O (JLh (.ptr 1040 0) (Hq 1040 4 Jx O O) O (Hp (u:=.junk) (Hc (u:=.agg (Stowed.cs a)) (ds:=[I64 a.Box,I64 a.Slot.G2,I64 a.Slot.Tier,U8 a.Slot.Half]) G11 O O O O O O O O) (G5 (b5 (fzQ [(4,.dptr (Kf x)),(8,.ptr 1038 0),(9,.ptr 1039 0),(11,Eg a)] [(1038,.box 45 [U8 0,I64 0,I64 0,I64 0,U8 0,I64 0]),(1039,.box 45 [U8 b,I64 0,I64 0,I64 0,U8 0,I64 0])] 1040 rfl rfl rfl ⟨⟨_,rfl,.boxEq rfl rfl⟩,⟨_,rfl,.boxEq rfl rfl⟩,G⟩ rfl ?_))))))
       refine Qc (l':=[(4,.dptr (Kf x)),(8,.ptr 1038 0),(9,.ptr 1039 0),(11,Eg a)]) (L':=[(1038,.box 45 [U8 0,I64 0,I64 0,I64 0,U8 0,I64 0]),(1039,.box 45 [U8 b,I64 0,I64 0,I64 0,U8 0,I64 0])]) ⟨(.sm O O),⟨fbQ O (.sm O O),fbQ O (.sm O O),G⟩,rfl⟩ ?_
       refine J5 [5,7] [0,0,0,0,0,0,1,0] [0,0,1,1,0,0,1,0] [[(1038,.box 45 [U8 0,I64 0,I64 0,I64 0,U8 0,I64 0]),(1039,.box 45 [U8 b,I64 0,I64 0,I64 0,U8 0,I64 0])],((1039,.box 45 [U8 b,I64 a.Box,I64 0,I64 0,U8 0,I64 0])::[(1038,.box 45 [U8 0,I64 0,I64 0,I64 0,U8 0,I64 0]),(1039,.box 45 [U8 b,I64 0,I64 0,I64 0,U8 0,I64 0])]),((1039,.box 45 [U8 b,I64 a.Box,I64 a.Slot.G2,I64 a.Slot.Tier,U8 a.Slot.Half,I64 0])::((1039,.box 45 [U8 b,I64 a.Box,I64 0,I64 0,U8 0,I64 0])::[(1038,.box 45 [U8 0,I64 0,I64 0,I64 0,U8 0,I64 0]),(1039,.box 45 [U8 b,I64 0,I64 0,I64 0,U8 0,I64 0])]))] J0 (by kernel_rfl) rfl rfl ?_
       refine Gd (u:=Eg a) O O ⟨Ge (G9 Jn O O O) O,G⟩ (Gd (u:=I64 a.Box) O O ⟨Ge (Gh Gc O O O) O,G⟩ (Gd (u:=.dptr ((Stowed.cs a).drop 1)) O O ⟨Ge (G9 Jo O O O) O,Ge (G9 Jo O O O) O,G⟩ (Gd (u:=.agg ((Stowed.cs a).drop 1)) O O ⟨Ge (Gj Hu O O O) O,Ge (Gj Hu O O O) O,G⟩ (Gd (u:=.ptr 1039 1) O O ⟨Ge (Hi Yi O O) O,G⟩ (H8d (u:=.junk) O O O O (Ge (Hc (u:=I64 a.Box) (ds:=[U8 b,I64 a.Box,I64 0,I64 0,U8 0,I64 0]) G32 O O O O O O O O) O) (Gd (u:=.ptr 1039 2) O O ⟨Ge (Hi Jw O O) O,G⟩ (H8d (u:=.junk) O O O O (Ge (Hc (u:=.agg ((Stowed.cs a).drop 1)) (ds:=[U8 b,I64 a.Box,I64 a.Slot.G2,I64 a.Slot.Tier,U8 a.Slot.Half,I64 0]) Zv O O O O O O O O) O) (Qw ?_))))))))
       exact ej12 _ _ (a.Box,a.Slot.G2,a.Slot.Tier,a.Slot.Half) h ⟨(.sm O O),⟨fbQ O (.sm O O),fbQ O (.sm O O),G⟩,rfl⟩
      ·
       refine Gr (ej12 _ _ (0,0,0,0) h ⟨(.sm O O),⟨fbQ O (.sm O O),fbQ O (.sm O O),G⟩,rfl⟩)
     ·intro d h
      replace h:=app1 a4 h
      refine Jr fun b9=>(JLh (.dptr [U8 x.Half,U8 x.G8]) (G9 J5b O O O) O (JLh (U8 x.Half) (Gh Ho O O O) O ?_))
      obtain⟨a7,z,h⟩:=Ga h
      refine JLh (U8 a7) (H08 (Jq z).1 (Jq z).2 O O O) O (JLh (BL (decide (a7=3))) (Q0 O O O) O (G5 (b9 (JCc O h (fun h hb=>?_) (fun h hb=>?_)))))
      ·
       refine G1 (JLh (.ptr 1039 2) (Hi Jw O O) O (JLh (.ptr 1039 3) (Hi Zf O O) O (JLh (I64 d.2.2.1) (Hx Gc O O O O) O ?_)))
       obtain⟨q,c0,h⟩:=Je h
       refine JLh (I64 q) (Jg c0 O O O) O (JLh (.ptr 1039 2) (Hi Jw O O) O (JLh (.ptr 1039 3) (Hi Zf O O) O (Hp (u:=.junk) (Hc (u:=I64 q) (ds:=[U8 b,I64 d.1,I64 d.2.1,I64 q,U8 d.2.2.2,I64 0]) G32 O O O O O O O O) (G5 (ej4 _ _ (d.1,d.2.1,q,d.2.2.2,0) h ⟨(.sm O O),⟨fbQ O (.sm O O),fbQ O (.sm O O),G⟩,rfl⟩)))))
      ·
       refine Gr (ej4 _ _ (d.1,d.2.1,d.2.2.1,d.2.2.2,0) h ⟨(.sm O O),⟨fbQ O (.sm O O),fbQ O (.sm O O),G⟩,rfl⟩)
    ·
     refine Jr fun c1=>(JLh (BL (decide (b=3))) (Q0 O O O) O (JLm (BL (decide (b=3))) O (G5 (c1 (JCc O h (fun h hb=>?_) (fun h hb=>?_))))))
     ·
      obtain⟨c2,a5,h⟩:=Yy h
      refine Ri (fun g:Int=>c2 g=some r) (fun g=>[(2,E8 boxes),(4,.dptr (Kf x)),(5,Ef s),(8,.ptr 1038 0),(9,.ptr 1039 0)]) (fun g=>[(1038,.box 45 [U8 0,I64 0,I64 0,I64 0,U8 0,I64 0]),(1039,.box 45 [U8 b,I64 g,I64 0,I64 0,U8 0,I64 0])]) (fun Kj25 ej25=>?_) ?_
      ·
       refine Jr fun c3=>(JLm (Ee m) O ?_)
       obtain⟨l,c4,h⟩:=Ga h
       refine JLh (E1 l) (Gt O (Gd6 m l c4) Gd3 ⟨O,O,G⟩) O (JLm (E1 l) O (G5 (c3 (Jr fun c5=>(JLm (E1 l) O (JLl Gz O O O fun f5=>(JLh (BL (decide (0 < (l.length:Int)))) (Gbe O O O) O (G5 (c5 (JCc O h (fun h hb=>?_) (fun h hb=>?_)))))))))))
       ·
        refine G1 (JLm (E1 l) O (JLh (.dptr [U8 x.Box,U8 x.G2,U8 x.Tier,U8 x.Half,U8 x.G8]) (G9 J5c O O O) O (JLh (U8 x.Box) (Gh Ho O O O) O ?_)))
        obtain⟨e6,c6,h⟩:=Je h
        refine JLh (I64 e6) (G70 Zh G08 c6 O O) O (JLm (E1 l) O (JLl Gz O O O fun f6=>?_))
        obtain⟨e7,a0,h⟩:=Ga h
        refine JLh (I64 e7) (H08 (Jq a0).1 (Jq a0).2 O O O) O ?_
        obtain⟨f8,n,c7,c8,h⟩:=Yc h
        refine JLh (.dptr [I64 n]) (Hg (f:=I64) (xs:=l) (y:=n) O O O Gz c8 c7) O (JLh (I64 n) (Gh Gc O O O) O (JLh (.ptr 1039 1) (Hi Yi O O) O (Hp (u:=.junk) (Hc (u:=I64 n) (ds:=[U8 b,I64 n,I64 0,I64 0,U8 0,I64 0]) G32 O O O O O O O O) (G5 (ej25 _ _ n h ⟨(.sm O O),⟨fbQ O (.sm O O),fbQ O (.sm O O),G⟩,rfl⟩)))))
       ·
        refine Gr (ej25 _ _ 0 h ⟨(.sm O O),⟨fbQ O (.sm O O),fbQ O (.sm O O),G⟩,rfl⟩)
      ·intro g h
       replace h:=app1 a5 h
       refine Js fun c9=>Qc (l':=[(2,E8 boxes),(4,.dptr (Kf x)),(5,Ef s),(8,.ptr 1038 0),(9,.ptr 1039 0)]) (L':=[(1038,.box 45 [U8 0,I64 0,I64 0,I64 0,U8 0,I64 0]),(1039,.box 45 [U8 b,I64 g,I64 0,I64 0,U8 0,I64 0])]) ⟨(.sm O O),⟨fbQ O (.sm O O),fbQ O (.sm O O),G⟩,rfl⟩ ?_
       obtain⟨e8,d0,h⟩:=Je h
       obtain⟨i,a1,h⟩:=Ga h
       obtain⟨e9,d1,h⟩:=Je h
       obtain⟨j,a2,h⟩:=Ga h
       refine J5 [13] (.replicate 14 0) (.replicate 14 0) [[(1038,.box 45 [U8 0,I64 0,I64 0,I64 0,U8 0,I64 0]),(1039,.box 45 [U8 b,I64 g,I64 0,I64 0,U8 0,I64 0])],((1039,.box 45 [U8 b,I64 g,I64 i,I64 j,U8 0,I64 0])::[(1038,.box 45 [U8 0,I64 0,I64 0,I64 0,U8 0,I64 0]),(1039,.box 45 [U8 b,I64 g,I64 0,I64 0,U8 0,I64 0])])] J0 (by kernel_rfl) rfl rfl ?_
       refine Gd (u:=.dptr [U8 x.G2,U8 x.Tier,U8 x.Half,U8 x.G8]) O O ⟨Ge (G9 Qd7 O O O) O,G⟩ (Gd (u:=U8 x.G2) O O ⟨Ge (Gh Ho O O O) O,G⟩ (Gd (u:=I64 e8) O O ⟨Ge (G70 Zh G08 d0 O O) O,G⟩ (Gd (u:=Ef s) O O ⟨Ge (G9 Hv O O O) O,G⟩ (Gd (u:=E3 s.Columns) O O ⟨Ge (Gh J9 O O O) O,G⟩ (Gd (u:=En s.Columns.length) O O ⟨Ge (G20 (f:=G2.av) (xs:=s.Columns) Ht O O) O,G⟩ (Gd (u:=I64 i) O O ⟨Ge (H08 (Jq a1).1 (Jq a1).2 O O O) O,G⟩ (Gd (u:=.dptr [U8 x.Tier,U8 x.Half,U8 x.G8]) O O ⟨Ge (G9 Qd6 O O O) O,G⟩ (Gd (u:=U8 x.Tier) O O ⟨Ge (Gh Ho O O O) O,G⟩ (Gd (u:=I64 e9) O O ⟨Ge (G70 Zh G08 d1 O O) O,G⟩ (Gd (u:=I64 j) O O ⟨Ge (H08 (Jq a2).1 (Jq a2).2 O O O) O,G⟩ (Gd (u:=.agg [I64 i,I64 j,U8 0]) O O ⟨Ge (Hb (cs:=[I64 i,I64 j,U8 0]) [(0,1),(1,1),(2,1)] [I64 0,I64 0,U8 0] [E0,E0,.int .u8 0] Gac Gd1 (zzQ O) O O) O,G⟩ (Gd (u:=.ptr 1039 2) O O ⟨Ge (Hi Jw O O) O,G⟩ (H8d (u:=.junk) O O O O (Ge (Hc (u:=.agg [I64 i,I64 j,U8 0]) (ds:=[U8 b,I64 g,I64 i,I64 j,U8 0,I64 0]) Zv O O O O O O O O) O) (Qw ?_))))))))))))))
       refine c9 (Jr fun d2=>(JLm (E8 boxes) O (JLh (.ptr 1039 1) (Hi Yi O O) O (JLh (I64 g) (Hx Gc O O O O) O ?_))))
       obtain⟨e,d3,h⟩:=Ga h
       refine JLh (.tup [.agg (Box.cs e.1),BL e.2]) (Gt O (Gc8 boxes g e d3) H6d ⟨O,O,O,O,G⟩) O (JLm (.tup [.agg (Box.cs e.1),BL e.2]) O (JLh (.agg (Box.cs e.1)) (H1 O O O) O (JLh (BL e.2) (H1 O O O) O (JLh (.ptr 1041 0) (Hq 1041 9 Qt O O) O (Hp (u:=.junk) (Hc (u:=.agg (Box.cs e.1)) (ds:=(Box.cs e.1)) Rs O O O O O O O O) (JLm (BL e.2) O (G5 (d2 ?_))))))))
       refine fzQ [(4,.dptr (Kf x)),(8,.ptr 1038 0),(9,.ptr 1039 0),(13,Eh e.1),(14,BL e.2)] [(1038,.box 45 [U8 0,I64 0,I64 0,I64 0,U8 0,I64 0]),(1039,.box 45 [U8 b,I64 g,I64 i,I64 j,U8 0,I64 0])] 1041 rfl rfl rfl ⟨⟨_,rfl,.boxEq rfl rfl⟩,⟨_,rfl,.boxEq rfl rfl⟩,G⟩ rfl (Jr fun d4=>(JLm (BL e.2) O (JLm (BL e.2) O (JLo (.dptr ((Box.cs e.1).drop 2)) [] O .sct G (fun hc=>G9 Y0 O O O) O (JLo (U8 e.1.Size) [104] O .sct ⟨Ua,G⟩ (fun hc=>Gh Ho O O O) O (JLo (BL (decide (e.1.Size=20))) [105] O .sct ⟨Ua,G⟩ (fun hc=>Q0 O O O) O (JLh (BL (e.2&&(decide (e.1.Size=20)))) (Ro O O O O) O (G5 (d4 ?_)))))))))
       refine JCc O h ?_ ?_<;>intro h hb
       ·
        refine G1 (JLh (.dptr [U8 x.Half,U8 x.G8]) (G9 J5b O O O) O (JLh (U8 x.Half) (Gh Ho O O O) O ?_))
        obtain⟨o,a3,h⟩:=Ga h
        refine JLh (U8 o) (H08 (Jq a3).1 (Jq a3).2 O O O) O (JLh (U8 (IntKind.u8.wrap (1+o))) (Jg O O O O) O (JLh (.ptr 1039 2) (Hi Jw O O) O (JLh (.ptr 1039 4) (Hi Rg O O) O (Hp (u:=.junk) (Hc (u:=U8 (IntKind.u8.wrap (1+o))) (ds:=[U8 b,I64 g,I64 i,I64 j,U8 (IntKind.u8.wrap (1+o)),I64 0]) J37 O O O O O O O O) (G5 (ej4 _ _ (g,i,j,IntKind.u8.wrap (1+o),0) h ⟨(.sm O O),⟨fbQ O (.sm O O),fbQ O (.sm O O),G⟩,rfl⟩))))))
       ·
        refine Gr (ej4 _ _ (g,i,j,0,0) h ⟨(.sm O O),⟨fbQ O (.sm O O),fbQ O (.sm O O),G⟩,rfl⟩)
     ·
      refine Gr (ej4 _ _ (0,0,0,0,0) h ⟨(.sm O O),⟨fbQ O (.sm O O),fbQ O (.sm O O),G⟩,rfl⟩)
 ·intro c h
  replace h:=app1 a8 h
  refine Jr fun d5=>(JLh (.agg [U8 b,I64 c.1,I64 c.2.1,I64 c.2.2.1,U8 c.2.2.2.1,I64 c.2.2.2.2]) (Ga9 G33 O O O O) O (Hp (u:=.junk) (Hc (u:=.agg [U8 b,I64 c.1,I64 c.2.1,I64 c.2.2.1,U8 c.2.2.2.1,I64 c.2.2.2.2]) (ds:=[U8 b,I64 c.1,I64 c.2.1,I64 c.2.2.1,U8 c.2.2.2.1,I64 c.2.2.2.2]) H69 O O O O O O O O) (G5 (d5 (Gm [(8,.ptr 1038 0)] [(1038,.box 45 [U8 b,I64 c.1,I64 c.2.1,I64 c.2.2.1,U8 c.2.2.2.1,I64 c.2.2.2.2])] 1039 rfl rfl rfl ⟨⟨_,rfl,.boxEq rfl rfl⟩,G⟩ rfl (by exact⟨.conv (.same rfl),G⟩) (Gq (⟨[.agg [U8 b,I64 c.1,I64 c.2.1,I64 c.2.2.1,U8 c.2.2.2.1,I64 c.2.2.2.2]],[],G,O,⟨⟨_,⟨_,_,_,_,O,O,O,.inl ⟨G33,O⟩⟩,.conv (.same O)⟩,G⟩,O,congrArg (fun r:Move=>(.agg (Move.cs r):AV)) (M5 h)⟩)))))))

def Zz (s:List Int) (v:Int):Option Int:=
 each (fun b c (d:Unit) a=>
  bif decide (v=b) then
  (some (c:Int))
  else
  (a ()))
 (fun(d:Unit)=>
  some (-1)) s 0 ()
theorem J33 (s:List Int) (v:Int) (r:Int) (h:Zz s v=some r):Pure Eo 56 [E1 s,I64 v] (·=I64 r):=by
 unfold Zz at h
 refine H0 [.tmp 4] Tryz.func56 O O (Jr fun w=>(JLm (I64 0) O (G5 (w (Js fun x=>Jr fun z=>(JLm (E1 s) O (JLl Gz O O O fun a0=>(JLm (I64 0) O (G5 (z (Gx ?_)))))))))))
 obtain⟨a1,i,j,g,h⟩:=Jy h
 refine Jc (fun a (b:Unit)=>each a1 i (List.drop a s) a b=some r) (fun a b=>[(0,E1 s),(1,I64 v),(7,En s.length),(8,En a)]) (fun a b=>[]) (fun a=>s.length - a) 0 () h ⟨(.sm O O),G,rfl⟩ ?_
 clear h
 intro a b d a4 a2
 refine Jr fun k=>(JLh (BL (decide ((a:Int) < (s.length:Int)))) (Qg O O O) O (G5 (k (Js fun l=>Gn O (fun hb=>?_) (fun hb=>?_)))))
 ·
  have e:=Qr hb
  obtain⟨c,a3,m,n,h⟩:=Ja d e
  replace h:=G1d j h
  refine Gr (l (Js fun o=>Gx (Jr fun p=>(JLm (En a) O (JLm (En a) O (G5 (p (Jr fun q=>(JLm (I64 v) O (JLm (E1 s) O (JLm (En a) O (JLh (.dptr [I64 c]) (Hg (f:=I64) (xs:=s) (y:=c) O O O Gz m O) O (JLh (I64 c) (Gh Gc O O O) O (JLh (BL (decide (v=c))) (Q0 O O O) O (G5 (q (JCc O h (fun h hb=>?_) (fun h hb=>?_))))))))))))))))))
  ·
   refine Jr fun t=>(JLm (En a) O (JLm (En a) O (G5 (t (Gq (fin1 I64 h))))))
  ·
   refine Gr (o (G1 (JLh (I64 ((a+1:Nat):Int)) (Jg (J7 e a0) O O O) O (JLm (I64 ((a+1:Nat):Int)) O (G5 (a2 _ _ (a+1) () (app1 n h) (by omega) ⟨(.sm O O),G,rfl⟩))))))
 ·
  have h:=app1 g (Jb d (Hs hb))
  refine Jf (x (Jr fun u=>(JLm (I64 (-1)) O (G5 (u (Gq (fin1 I64 h)))))))

def J3 (s:List Int) (v:Int):Option Bool:=
 bnd (Zz s v) fun a=>
 some (decide (0≤a))
theorem Qv (s:List Int) (v:Int) (r:Bool) (h:J3 s v=some r):Pure Eo 23 [E1 s,I64 v] (·=BL r):=by
 unfold J3 at h
 refine H0 [.tmp 4] Tryz.func23 O O (Jr fun b=>(JLm (BL false) O (G5 (b (Jr fun c=>(JLm (E1 s) O (JLm (I64 v) O ?_)))))))
 obtain⟨a,d,h⟩:=Ga h
 refine JLh (I64 a) (Gt O (J33 s v a d) Rd2 ⟨O,O,O,O,G⟩) O (JLh (BL (decide (0≤a))) (H01 O O O) O (JLm (BL (decide (0≤a))) O (G5 (c (Gq (fin1 BL h))))))

def Ys (s:Gk) (boxes:List Box) (m:Gb):Option Bool:=
 bnd (R0 m) fun c=>
 bnd (Yo s boxes c) fun e=>
 bnd (bif (!(!e)) then Qp m else some default) fun n=>
 bnd (bif (!(!e)) then chk ((c.length:Int)+(n.length:Int)) some else some 0) fun g=>
 bnd (bif (!((!e)||(decide (g≠(boxes.length:Int))))) then Za c [] else some default) fun o=>
 bif (((!e)||(decide (g≠(boxes.length:Int))))||(decide ((o.length:Int)≠(c.length:Int)))) then
 (some false)
 else
 (each (fun d p (h:Unit) f=>
   bnd (Qp m) fun i=>
   bnd (J3 i d.Box) fun a=>
   bnd (bif (!a) then Z3 s.Columns d.Slot.G2 some else some default) fun b=>
   bnd (bif ((!a)&&b.Deck) then Ry m else some default) fun j=>
   bnd (bif ((!a)&&b.Deck) then Yg s d.Slot.G2 else some default) fun k=>
   bnd (bif ((!a)&&b.Deck) then J3 j k else some default) fun l=>
   bif (a||(b.Deck&&l)) then
   (some false)
   else
   (f ()))
  (fun(h:Unit)=>
   some true) c 0 ())
theorem Ge2 (s:Gk) (boxes:List Box) (m:Gb) (r:Bool) (h:Ys s boxes m=some r):Pure Eo 19 [.agg (Gk.cs s),E8 boxes,Ee m] (·=BL r):=by
 unfold Ys at h
 refine H0 [.tmp 6] Tryz.func19 O O (Jr fun c0=>(JLh (.ptr 1044 0) (Jm (cs:=(Gk.cs s)) 1044 O O O O O) O (JLm (BL false) O (G5 (c0 (Gm [(1,E8 boxes),(2,Ee m),(3,Ef s)] [] 1044 rfl rfl rfl G rfl (by exact⟨.conv (.same rfl),.conv (.same rfl),.ptr,G⟩) (Jr fun c1=>(JLm (Ee m) O ?_))))))))
 obtain⟨c,c2,h⟩:=Ga h
 refine JLh (E2 c) (Gt O (Ha2.down m c c2) G8e ⟨O,O,G⟩) O (JLm (E2 c) O (G5 (c1 (Js fun c3=>Jr fun c4=>(JLh (.agg (Gk.cs s)) (Gj Hr O O O) O (JLm (E8 boxes) O (JLm (E2 c) O ?_)))))))
 obtain⟨g,c5,h⟩:=Ga h
 refine JLh (BL g) (Gt O (G0a s boxes c g c5) G8c ⟨O,O,O,O,O,O,G⟩) O (JLh (BL (!g)) (Qx (b:=g) O O) O (JLm (BL (!g)) O (JLo (E2 c) [] O .scf G (fun hc=>G6 O O) O (JLo (En c.length) [18] O .scf ⟨Ua,G⟩ (fun hc=>G20 (f:=Stowed.av) (xs:=c) H4 O O) O (JLo (Ee m) [] O .scf G (fun hc=>G6 O O) O ?_)))))
 obtain⟨w,c6,h⟩:=Ga h
 refine JLo (E1 w) [20] O .scf ⟨Ua,G⟩ (fun hc=>Gt (args:=[.dptr (Gb.cs m)]) O (Gd6 m w (H3 hc c6)) Gd3 ⟨O,O,G⟩) O (JLo (En w.length) [21] O .scf ⟨Ua,G⟩ (fun hc=>G20 (f:=I64) (xs:=w) Gz O O) O ?_)
 obtain⟨q,c7,h⟩:=Ga h
 refine JLo (I64 q) [19,22] O .scf ⟨Ua,Ua,G⟩ (fun hc=>Jg (H30 (H3 hc c7)) O O O) O (JLo (E8 boxes) [] O .scf G (fun hc=>G6 O O) O (JLo (En boxes.length) [24] O .scf ⟨Ua,G⟩ (fun hc=>G20 (f:=Box.av) (xs:=boxes) Yb O O) O (JLo (BL (decide (q≠(boxes.length:Int)))) [23,25] O .scf ⟨Ua,Ua,G⟩ (fun hc=>Gec O O O) O (JLh (BL ((!g)||(decide (q≠(boxes.length:Int))))) (G2f O O O O) O (JLm (BL ((!g)||(decide (q≠(boxes.length:Int))))) O (JLo (E2 c) [] O .scf G (fun hc=>G6 O O) O ?_))))))
 obtain⟨p,c8,h⟩:=Ga h
 refine JLo (E1 p) [29] O .scf ⟨Ua,G⟩ (fun hc=>Ycc (args:=[E2 c,E2 ([]:List Stowed)]) O (H92 c [] p (H3 hc c8)) Rd6 ⟨.inl O,O,.inr ⟨_,O,O⟩,O,G⟩) O (JLo (En p.length) [30] O .scf ⟨Ua,G⟩ (fun hc=>G20 (f:=I64) (xs:=p) Gz O O) O (JLo (E2 c) [] O .scf G (fun hc=>G6 O O) O (JLo (En c.length) [32] O .scf ⟨Ua,G⟩ (fun hc=>G20 (f:=Stowed.av) (xs:=c) H4 O O) O (JLo (BL (decide ((p.length:Int)≠(c.length:Int)))) [31,33] O .scf ⟨Ua,Ua,G⟩ (fun hc=>Gec O O O) O (JLh (BL (((!g)||(decide (q≠(boxes.length:Int))))||(decide ((p.length:Int)≠(c.length:Int))))) (G2f O O O O) O (G5 (c4 (JCc O h (fun h hb=>?_) (fun h hb=>?_)))))))))
 ·
  refine Jr fun z=>(JLm (BL false) O (G5 (z (Gq (fin1 BL h)))))
 ·
  refine Gr (c3 (Js fun a0=>Jr fun a1=>(JLm (E2 c) O (JLl H4 O O O fun a2=>(JLm (I64 0) O (G5 (a1 (Gx ?_))))))))
  obtain⟨c9,a3,a4,x,h⟩:=Jy h
  refine Jc (fun d (j:Unit)=>each c9 a3 (List.drop d c) d j=some r) (fun d j=>[(2,Ee m),(3,Ef s),(36,E2 c),(37,En c.length),(38,En d)]) (fun d j=>[]) (fun d=>c.length - d) 0 () h ⟨(.sm O O),G,rfl⟩ ?_
  clear h
  intro d j t d2 d0
  refine Jr fun a5=>(JLh (BL (decide ((d:Int) < (c.length:Int)))) (Qg O O O) O (G5 (a5 (Js fun a6=>Gn O (fun hb=>?_) (fun hb=>?_)))))
  ·
   have v:=Qr hb
   obtain⟨a,d1,a7,a8,h⟩:=Ja t v
   replace h:=G1d a4 h
   refine Gr (a6 (Js fun a9=>Gx (Jr fun b0=>(JLh (Eg a) (Hg (f:=Stowed.av) (xs:=c) (y:=a) O O O H4 a7 O) O (JLh (.agg (Stowed.cs a)) (Gj R3 O O O) O (JLh (.ptr 1045 0) (Hq 1045 4 Jx O O) O (Hp (u:=.junk) (Hc (u:=.agg (Stowed.cs a)) (ds:=[I64 a.Box,I64 a.Slot.G2,I64 a.Slot.Tier,U8 a.Slot.Half]) G11 O O O O O O O O) (G5 (b0 (fzQ [(2,Ee m),(3,Ef s),(9,Eg a),(36,E2 c),(37,En c.length),(38,En d)] [] 1045 rfl rfl rfl G rfl (Js fun b1=>?_)))))))))))
   obtain⟨k,b2,h⟩:=Ga h
   obtain⟨i,b3,h⟩:=Ga h
   obtain⟨e,b4,h⟩:=Ga h
   obtain⟨l,b5,h⟩:=Ga h
   obtain⟨n,b6,h⟩:=Ga h
   obtain⟨o,b7,h⟩:=Ga h
   refine JC_d0 J0 (by kernel_rfl) (Dq (Ee m) (G6 O O) O (Dq (E1 k) (Gt (args:=[.dptr (Gb.cs m)]) O (Gd6 m k b2) Gd3 ⟨O,O,G⟩) O (Dq (Eg a) (G9 Jn O O O) O (Dq (I64 a.Box) (Gh Gc O O O) O (Dq (BL i) (Gt (args:=[E1 k,I64 a.Box]) O (Qv k a.Box i b3) G8d ⟨O,O,O,O,G⟩) O (Dq (BL i) (G6 O O) O (Do (Ef s) [] O .scf G (fun hc=>G9 Hv O O O) O (Do (E3 s.Columns) [48] O .scf ⟨Ua,G⟩ (fun hc=>Gh J9 O O O) O (Do (.dptr ((Stowed.cs a).drop 1)) [] O .scf G (fun hc=>G9 Jo O O O) O (Do (.dptr ((Stowed.cs a).drop 1)) [50] O .scf ⟨Ua,G⟩ (fun hc=>G9 Jd O O O) O (Do (I64 a.Slot.G2) [51] O .scf ⟨Ua,G⟩ (fun hc=>Gh Gc O O O) O (Do (Ei e) [49,52] O .scf ⟨Ua,Ua,G⟩ (fun hc=>(match Zn (H3 hc b4) with | ⟨_,hm_,hy_⟩=>Hg (f:=G2.av) (xs:=s.Columns) (y:=e) O O O Ht hy_ hm_)) O (Do (.dptr ((G2.cs e).drop 2)) [53] O .scf ⟨Ua,G⟩ (fun hc=>G9 Yw O O O) O ?_)))))))))))))
   refine Do (BL e.Deck) [54] O .scf ⟨Ua,G⟩ (fun hc=>Gh Q1 O O O) O (Do (BL e.Deck) [55] O .scf ⟨Ua,G⟩ (fun hc=>G6 O O) O (Do (Ee m) [] O .optt G (fun hc=>G6 O O) O (Do (E1 l) [57] O .optt ⟨Ua,G⟩ (fun hc=>Gt (args:=[.dptr (Gb.cs m)]) O (Jf2 m l (H3 hc b5)) H0d ⟨O,O,G⟩) O (Do (.agg (Gk.cs s)) [] O .optt G (fun hc=>Gj Hr O O O) O (Do (.dptr ((Stowed.cs a).drop 1)) [] O .optt G (fun hc=>G9 Jo O O O) O (Do (.dptr ((Stowed.cs a).drop 1)) [60] O .optt ⟨Ua,G⟩ (fun hc=>G9 Jd O O O) O (Do (I64 a.Slot.G2) [61] O .optt ⟨Ua,G⟩ (fun hc=>Gh Gc O O O) O (Do (I64 n) [59,62] O .optt ⟨Ua,Ua,G⟩ (fun hc=>Gt (args:=[.agg (Gk.cs s),I64 a.Slot.G2]) O (G5d s a.Slot.G2 n (H3 hc b6)) H6c ⟨O,O,O,O,G⟩) O (Do (BL o) [58,63] O .optt ⟨Ua,Ua,G⟩ (fun hc=>Gt (args:=[E1 l,I64 n]) O (Qv l n o (H3 hc b7)) G8d ⟨O,O,O,O,G⟩) O (Dg (.opt (!i) (BL (e.Deck&&o))) (H6 [(56,BL e.Deck),(64,_)] O O O .scf ⟨.all id,.part,G⟩ (fun hc=>Ro O O O O) O) O (Dq (BL (i||(e.Deck&&o))) (G2f O O O O) O (Dnil ?_))))))))))))
   refine b1 (JCc O h (fun h hb=>?_) (fun h hb=>?_))
   ·
    refine Jr fun b8=>(JLm (BL false) O (G5 (b8 (Gq (fin1 BL h)))))
   ·
    refine Gr (a9 (G1 (JLh (I64 ((d+1:Nat):Int)) (Jg (J7 v a2) O O O) O (JLm (I64 ((d+1:Nat):Int)) O (G5 (d0 _ _ (d+1) () (app1 a8 h) (by omega) ⟨(.sm O O),G,rfl⟩))))))
  ·
   have h:=app1 x (Jb t (Hs hb))
   refine Jf (a0 (Jr fun b9=>(JLm (BL true) O (G5 (b9 (Gq (fin1 BL h)))))))
end
end Go.Proofs.YtidpfkmbfgihlaaGreat
