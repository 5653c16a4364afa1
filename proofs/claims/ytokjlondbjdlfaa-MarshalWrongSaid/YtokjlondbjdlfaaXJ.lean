/- Walks of functions. -/
import Derived.Test.YtokjlondbjdlfaaXI
set_option maxRecDepth 100000
set_option maxHeartbeats 1000000
set_option linter.unusedVariables false
set_option linter.unusedSimpArgs false
namespace Go.Proofs.Ytokjlondbjdlfaa
open Go.RowKit
noncomputable section

namespace XJF
open XAF
open XBF
open XCF
open XDF
open XEF
open XIF
theorem Q0e:Hm E8 12=true:=by kernel_rfl
theorem Q0d:Hm E8 15=true:=by kernel_rfl
theorem Q0c:Hm E8 16=true:=by kernel_rfl
theorem Q76:H19 E8 44 .u16=true:=by kernel_rfl
end XJF
open XAF
open XBF
open XCF
open XDF
open XEF
open XIF
open XJF

def R8 (F:Nat) (stacks:Int) (height:Int) (l:List Int) (o:List Int) (box:Int):Option Bool:=
 bnd (Ry F) fun q=>
 bif (!q) then
 (some false)
 else
 (bnd (Y8 stacks height l) fun d=>
  bnd (Re F d o 20) fun a=>
  need (decide ((([]:List Int).length+a.length)*8≤140737488355328∧([]:List Int).length+a.length≤maxLen)) <|
  chk (box) fun g=>
  chk (100+g) fun c=>
  need (decide (((([]:List Int)++a).length+[c].length)*8≤140737488355328∧(([]:List Int)++a).length+[c].length≤maxLen)) <|
  need (decide ((([]:List Int).length+a.length)*8≤140737488355328∧([]:List Int).length+a.length≤maxLen)) <|
  need (decide (((([]:List Int)++a).length+a.length)*8≤140737488355328∧(([]:List Int)++a).length+a.length≤maxLen)) <|
  each (fun r h (i:Unit) f=>
   jp (fun e=>
    R1 ([((([]:List Int)++a)++[c]),((([]:List Int)++a)++a),[0]]) (h:Int) fun b=>
    bif decide ((b.length:Int)=0) then
    (e ())
    else
    (bnd (Rn d b) fun j=>
     bnd (Rs d b) fun k=>
     bnd (Qm d b []) fun m=>
     bnd (Ji F d b) fun n=>
     bnd (Qb F d b) fun p=>
     bif (((((decide (j.2≠2))||(decide (k.2≠2)))||(decide (m.2≠2)))||(decide (n.2≠2)))||(decide (p.2≠2))) then
     (some false)
     else
     (e ()))) fun(s:Unit)=>
   f ())
  (fun(i:Unit)=>
   some true) ([((([]:List Int)++a)++[c]),((([]:List Int)++a)++a),[0]]) 0 ())
theorem G6f (F:Nat) (stacks:Int) (height:Int) (l:List Int) (o:List Int) (box:Int) (r:Bool) (h:R8 F stacks height l o box=some r):Pure E8 7 [U8 stacks,U8 height,E4 l,E4 o,.sc (.int .u16 box)] (·=BL r):=by
 unfold R8 at h
 refine Hd [.tmp 10] Try.func7 O O (Jr fun d2=>(JLm (BL false) O (G6 (d2 (Js fun d3=>Jr fun d4=>?_)))))
 obtain⟨v,d5,h⟩:=Gd h
 refine JLh (BL v) (Gu O (Gdd F v d5) Q0e ø) O (JLh (BL (!v)) (Zc (b:=v) O O) O (G6 (d4 (JCc O h (fun h hb=>?_) (fun h hb=>?_)))))
 ·
  refine Jr fun d6=>(JLm (BL false) O (G6 (d6 (H1 (fin1 BL h)))))
 ·
  refine Gi (d3 (Jr fun d7=>(JLm (U8 stacks) O (JLm (U8 height) O (JLm (E4 l) O ?_)))))
  obtain⟨c,d8,h⟩:=Gd h
  refine JLh (.agg [LS 1 (E1) c.Stacks,I64 c.Height]) (Gu O (Ge5.down stacks height l c d8) Q0d ⟨O,O,O,O,O,O,ø⟩) O (JLh (.ptr 1001 0) (Jd 1001 2 G10 O O) O (J9 (u:=.junk) (Hp (u:=.agg [LS 1 (E1) c.Stacks,I64 c.Height]) (ds:=[LS 1 (E1) c.Stacks,I64 c.Height]) Zy O O O O O O O O) (G6 (d7 (H5 [(3,E4 o),(4,.sc (.int .u16 box)),(11,.dptr [LS 1 (E1) c.Stacks,I64 c.Height])] [] 1001 rfl rfl rfl ø rfl (by exact⟨.conv (.same rfl),.conv (.same rfl),.ptr,ø⟩) (Jr fun d9=>(JLh (.agg [LS 1 (E1) c.Stacks,I64 c.Height]) (Gv Hj O O O) O (JLm (E4 o) O ?_))))))))
  obtain⟨a,e0,h⟩:=Gd h
  refine JLh (E1 a) (Gu O (Gba F c o 20 a e0) Q0c ⟨O,O,O,O,O,O,ø⟩) O (JLm (E1 a) O (G6 (d9 (Js fun z=>Jr fun a0=>(JLh (OW 80000034 1 I64 ([]:List Int)) (G6c 80000034 3 1 O O G7) O (JLm (E1 a) O ?_))))))
  obtain⟨a1,h⟩:=Hu h
  refine JLh (OW 80000034 1 I64 (([]:List Int)++a)) (Yc (f:=I64) (xs:=([]:List Int)) (ys:=a) O O O O G7 Q3 a1 (fun _=>O) (.inl O)) O (JLm (.sc (.int .u16 box)) O ?_)
  obtain⟨e1,a2,h⟩:=Jb h
  refine JLh (I64 e1) (H11 H8b Q76 a2 O O) O ?_
  obtain⟨j,a3,h⟩:=Jb h
  refine JLh (I64 j) (Hv a3 O O O) O (JLh (E1 [j]) (H8 (xs:=[I64 j]) O ⟨O,O,ø⟩ G7 J8 O O O O) O ?_)
  obtain⟨a4,h⟩:=Hu h
  refine JLh (OW 80000034 1 I64 ((([]:List Int)++a)++[j])) (R4 (f:=I64) (xs:=(([]:List Int)++a)) (ys:=[j]) O O O O G7 Q3 a4 (fun _=>O) (.inl O) O) O (JLh (OW 80000042 1 I64 ([]:List Int)) (G6c 80000042 3 1 O O G7) O (JLm (E1 a) O ?_))
  obtain⟨a5,h⟩:=Hu h
  refine JLh (OW 80000042 1 I64 (([]:List Int)++a)) (Yc (f:=I64) (xs:=([]:List Int)) (ys:=a) O O O O G7 Q3 a5 (fun _=>O) (.inl O)) O (JLm (E1 a) O ?_)
  obtain⟨a6,h⟩:=Hu h
  refine JLh (OW 80000042 1 I64 ((([]:List Int)++a)++a)) (Yc (f:=I64) (xs:=(([]:List Int)++a)) (ys:=a) O O O O G7 Q3 a6 (fun _=>O) (.inl O)) O (JLh (E1 [0]) (H8 (xs:=[I64 0]) O ⟨O,O,ø⟩ G7 J8 O O O O) O (JLh (LS 1 (E1) ([((([]:List Int)++a)++[j]),((([]:List Int)++a)++a),[0]])) (H8 (xs:=[E1 ((([]:List Int)++a)++[j]),E1 ((([]:List Int)++a)++a),E1 [0]]) O ⟨O,O,O,O,O,O,ø⟩ Gc Yp O O O O) O (JLl Gc O O O fun a7=>(JLm (I64 0) O (G6 (a0 (Gf ?_)))))))
  obtain⟨e2,a8,a9,w,h⟩:=J4 h
  refine H9 (fun m (p:Unit)=>each e2 a8 (List.drop m ([((([]:List Int)++a)++[j]),((([]:List Int)++a)++a),[0]])) m p=some r) (fun m p=>[(11,.dptr [LS 1 (E1) c.Stacks,I64 c.Height]),(48,LS 1 (E1) ([((([]:List Int)++a)++[j]),((([]:List Int)++a)++a),[0]])),(49,I64 (([((([]:List Int)++a)++[j]),((([]:List Int)++a)++a),[0]]).length:Int)),(50,E7 m)]) (fun m p=>[]) (fun m=>([((([]:List Int)++a)++[j]),((([]:List Int)++a)++a),[0]]).length - m) 0 () h ⟨(.sm O O),ø,rfl⟩ ?_
  clear h
  intro m p s e7 e3
  refine Jr fun b0=>(JLh (BL (decide ((m:Int) < (([((([]:List Int)++a)++[j]),((([]:List Int)++a)++a),[0]]).length:Int)))) (Hy O O O) O (G6 (b0 (Js fun b1=>Gh O (fun hb=>?_) (fun hb=>?_)))))
  ·
   have t:=Jn hb
   obtain⟨e8,e4,e5,b2,h⟩:=Hr s t
   replace h:=Yi a9 h
   refine Gi (b1 ?_)
   obtain⟨b3,x,h⟩:=G08 h
   refine Yw (fun q:Unit=>b3 q=some r) (fun q=>[(11,.dptr [LS 1 (E1) c.Stacks,I64 c.Height]),(48,LS 1 (E1) ([((([]:List Int)++a)++[j]),((([]:List Int)++a)++a),[0]])),(49,I64 (([((([]:List Int)++a)++[j]),((([]:List Int)++a)++a),[0]]).length:Int)),(50,E7 m)]) (fun q=>[]) (fun Kj61 ej61=>?_) ?_
   ·
    refine Gf (Jr fun b4=>?_)
    obtain⟨e9,g,b5,b6,h⟩:=Qw h
    refine JLh (.dptr [E1 g]) (Gy (f:=(E1)) (xs:=([((([]:List Int)++a)++[j]),((([]:List Int)++a)++a),[0]])) (y:=g) O O O Gc b6 b5) O (JLh (E1 g) (Gm H3 O O O) O (JLm (E1 g) O (G6 (b4 (Js fun b7=>Jr fun b8=>(JLm (E1 g) O (JLl G7 O O O fun e6=>(JLh (BL (decide ((g.length:Int)=0))) (Yd O O O) O (G6 (b8 (JCc O h (fun h hb=>?_) (fun h hb=>?_))))))))))))
    ·
     refine Hc (ej61 _ _ () h ⟨(.sm O O),ø,rfl⟩)
    ·
     refine Gi (b7 (Jr fun b9=>(JLh (.agg [LS 1 (E1) c.Stacks,I64 c.Height]) (Gv Hj O O O) O (JLm (E1 g) O ?_))))
     obtain⟨d,c0,h⟩:=Gd h
     refine JLh (.tup [BL d.1,I64 d.2]) (Gu O (Gbb c g d c0) J08 ⟨O,O,O,O,ø⟩) O (JLm (.tup [BL d.1,I64 d.2]) O (JLh (BL d.1) (Gr O O O) O (JLh (I64 d.2) (Gr O O O) O (JLm (BL d.1) O (JLm (I64 d.2) O (G6 (b9 (Jr fun c1=>(JLh (.agg [LS 1 (E1) c.Stacks,I64 c.Height]) (Gv Hj O O O) O (JLm (E1 g) O ?_))))))))))
     obtain⟨e,c2,h⟩:=Gd h
     refine JLh (.tup [E1 e.1,I64 e.2]) (Gu O (G96 c g e c2) H6d ⟨O,O,O,O,ø⟩) O (JLm (.tup [E1 e.1,I64 e.2]) O (JLh (E1 e.1) (Gr O O O) O (JLh (I64 e.2) (Gr O O O) O (JLm (E1 e.1) O (JLm (I64 e.2) O (G6 (c1 (Jr fun c3=>(JLh (.agg [LS 1 (E1) c.Stacks,I64 c.Height]) (Gv Hj O O O) O (JLm (E1 g) O ?_))))))))))
     obtain⟨i,c4,h⟩:=Gd h
     refine JLh (.tup [BL i.1,I64 i.2]) (Je5 (args:=[.agg [LS 1 (E1) c.Stacks,I64 c.Height],E1 g,E2 ([]:List G5)]) O (G66 c g [] i c4) H6c ⟨.inl O,O,.inl O,O,.inr ⟨_,O,O⟩,O,ø⟩) O (JLm (.tup [BL i.1,I64 i.2]) O (JLh (BL i.1) (Gr O O O) O (JLh (I64 i.2) (Gr O O O) O (JLm (BL i.1) O (JLm (I64 i.2) O (G6 (c3 (Jr fun c5=>(JLh (.agg [LS 1 (E1) c.Stacks,I64 c.Height]) (Gv Hj O O O) O (JLm (E1 g) O ?_))))))))))
     obtain⟨k,c6,h⟩:=Gd h
     refine JLh (.tup [E2 k.1,I64 k.2]) (Gu O (Y2 F c g k c6) G71 ⟨O,O,O,O,ø⟩) O (JLm (.tup [E2 k.1,I64 k.2]) O (JLh (E2 k.1) (Gr O O O) O (JLh (I64 k.2) (Gr O O O) O (JLm (E2 k.1) O (JLm (I64 k.2) O (G6 (c5 (Jr fun c7=>(JLh (.agg [LS 1 (E1) c.Stacks,I64 c.Height]) (Gv Hj O O O) O (JLm (E1 g) O ?_))))))))))
     obtain⟨n,c8,h⟩:=Gd h
     refine JLh (.tup [E2 n.1,I64 n.2]) (Gu O (Zw F c g n c8) Gae ⟨O,O,O,O,ø⟩) O (JLm (.tup [E2 n.1,I64 n.2]) O (JLh (E2 n.1) (Gr O O O) O (JLh (I64 n.2) (Gr O O O) O (JLm (E2 n.1) O (JLm (I64 n.2) O (G6 (c7 ?_)))))))
     refine Jr fun c9=>(JLm (I64 d.2) O (JLh (BL (decide (d.2≠2))) (Zh O O O) O (JLm (BL (decide (d.2≠2))) O (JLo (I64 e.2) [] O .scf ø (fun hc=>G2 O O) O (JLo (BL (decide (e.2≠2))) [90] O .scf ⟨Ua,ø⟩ (fun hc=>Zh O O O) O (JLh (BL ((decide (d.2≠2))||(decide (e.2≠2)))) (Zj O O O O) O (JLm (BL ((decide (d.2≠2))||(decide (e.2≠2)))) O (JLo (I64 i.2) [] O .scf ø (fun hc=>G2 O O) O (JLo (BL (decide (i.2≠2))) [94] O .scf ⟨Ua,ø⟩ (fun hc=>Zh O O O) O (JLh (BL (((decide (d.2≠2))||(decide (e.2≠2)))||(decide (i.2≠2)))) (Zj O O O O) O (JLm (BL (((decide (d.2≠2))||(decide (e.2≠2)))||(decide (i.2≠2)))) O (JLo (I64 k.2) [] O .scf ø (fun hc=>G2 O O) O (JLo (BL (decide (k.2≠2))) [98] O .scf ⟨Ua,ø⟩ (fun hc=>Zh O O O) O ?_)))))))))))))
     refine JLh (BL ((((decide (d.2≠2))||(decide (e.2≠2)))||(decide (i.2≠2)))||(decide (k.2≠2)))) (Zj O O O O) O (JLm (BL ((((decide (d.2≠2))||(decide (e.2≠2)))||(decide (i.2≠2)))||(decide (k.2≠2)))) O (JLo (I64 n.2) [] O .scf ø (fun hc=>G2 O O) O (JLo (BL (decide (n.2≠2))) [102] O .scf ⟨Ua,ø⟩ (fun hc=>Zh O O O) O (JLh (BL (((((decide (d.2≠2))||(decide (e.2≠2)))||(decide (i.2≠2)))||(decide (k.2≠2)))||(decide (n.2≠2)))) (Zj O O O O) O (G6 (c9 (JCc O h (fun h hb=>?_) (fun h hb=>?_))))))))
     ·
      refine Jr fun d0=>(JLm (BL false) O (G6 (d0 (H1 (fin1 BL h)))))
     ·
      refine Gi (ej61 _ _ () h ⟨(.sm O O),ø,rfl⟩)
   ·intro q h
    replace h:=app1 x h
    refine G1 (JLh (I64 ((m+1:Nat):Int)) (Hv (Hi t a7) O O O) O (JLm (I64 ((m+1:Nat):Int)) O (G6 (e3 _ _ (m+1) () (app1 b2 h) (by omega) ⟨(.sm O O),ø,rfl⟩))))
  ·
   have h:=app1 w (Hs s (Hb hb))
   refine Hc (z (Jr fun d1=>(JLm (BL true) O (G6 (d1 (H1 (fin1 BL h)))))))
end
end Go.Proofs.Ytokjlondbjdlfaa
