/- Walks of functions. -/
import Derived.Test.YtokjlondbjdlfaaXC
set_option maxRecDepth 100000
set_option maxHeartbeats 1000000
set_option linter.unusedVariables false
set_option linter.unusedSimpArgs false
namespace Go.Proofs.Ytokjlondbjdlfaa
open Go.RowKit
noncomputable section
def H11:ByteArray:=ByteArray.mk #[0,1,2,2,3,3,3,3,4,4,4,4,4,4,4,4,5,5,5,5,5,5,5,5,5,5,5,5,5,5,5,5,6,6,6,6,6,6,6,6,6,6,6,6,6,6,6,6,6,6,6,6,6,6,6,6,6,6,6,6,6,6,6,6,7,7,7,7,7,7,7,7,7,7,7,7,7,7,7,7,7,7,7,7,7,7,7,7,7,7,7,7,7,7,7,7,7,7,7,7,7,7,7,7,7,7,7,7,7,7,7,7,7,7,7,7,7,7,7,7,7,7,7,7,7,7,7,7,8,8,8,8,8,8,8,8,8,8,8,8,8,8,8,8,8,8,8,8,8,8,8,8,8,8,8,8,8,8,8,8,8,8,8,8,8,8,8,8,8,8,8,8,8,8,8,8,8,8,8,8,8,8,8,8,8,8,8,8,8,8,8,8,8,8,8,8,8,8,8,8,8,8,8,8,8,8,8,8,8,8,8,8,8,8,8,8,8,8,8,8,8,8,8,8,8,8,8,8,8,8,8,8,8,8,8,8,8,8,8,8,8,8,8,8,8,8,8,8,8,8,8,8,8,8,8,8]
namespace XDF
open XAF
open XBF
open XCF
theorem J7d:Hi E8 105=true:=by kernel_rfl
theorem Gef:Hi E8 17=true:=by kernel_rfl
theorem Je1:Hi E8 19=true:=by kernel_rfl
theorem G6f:Hi E8 20=true:=by kernel_rfl
theorem Hed:Hi E8 23=true:=by kernel_rfl
theorem Hec:Hi E8 24=true:=by kernel_rfl
theorem Gaa:Hi E8 25=true:=by kernel_rfl
theorem Jde:Hi E8 27=true:=by kernel_rfl
theorem H51:Hi E8 36=true:=by kernel_rfl
theorem Jd5:Hi E8 51=true:=by kernel_rfl
theorem Jd4:Hi E8 52=true:=by kernel_rfl
theorem Jd3:Hi E8 53=true:=by kernel_rfl
theorem He8:Hi E8 54=true:=by kernel_rfl
theorem Jd2:Hi E8 56=true:=by kernel_rfl
theorem Jc9:Hi E8 78=true:=by kernel_rfl
theorem Jc8:Hi E8 79=true:=by kernel_rfl
theorem He3:Hi E8 80=true:=by kernel_rfl
theorem Jc3:Hi E8 96=true:=by kernel_rfl
theorem Jc1:H3d E8 135 .u64=true:=by kernel_rfl
theorem Jbf:H3d E8 159 .u64=true:=by kernel_rfl
theorem Hdd:H3d E8 3 .i64=true:=by kernel_rfl
theorem H75:H3d E8 5 .u8=true:=by kernel_rfl
theorem G9b:placesOf E8 24=some [(0,1),(1,1)]:=by kernel_rfl
theorem G0c:Rk E8 24 2=true:=by kernel_rfl
theorem J7b:Q4e E8 9=true:=by kernel_rfl
theorem Ga5:(E8.info? 24).bind (fun i=>i.zero.map Value.cells)=some (List.toArray [.slice none 0 0,E0]):=by kernel_rfl
theorem G24:Q6 E8 24 2=true:=by kernel_rfl
end XDF
open XAF
open XBF
open XCF
open XDF

def G63 (x:Int):Option Int:=
 jp (fun c=>
  bif decide (4294967296≤x) then
  (c (Gd1 .u64 x 32,32))
  else
  (c (x,0))) fun(a:Int×Int)=>
 jp (fun d=>
  bif decide (65536≤a.1) then
  (chk (a.2+16) fun k=>
   d (Gd1 .u64 a.1 16,k))
  else
  (d (a.1,a.2))) fun(b:Int×Int)=>
 jp (fun e=>
  bif decide (256≤b.1) then
  (chk (b.2+8) fun f=>
   e (Gd1 .u64 b.1 8,f))
  else
  (e (b.1,b.2))) fun(g:Int×Int)=>
 bnd (Qcf H11 (IntKind.u8.wrap g.1)) fun h=>
 chk (h) fun i=>
 chk (g.2+i) fun j=>
 some j
theorem H41 (x:Int) (r:Int) (h:G63 x=some r):Pure E8 105 [.sc (.int .u64 x)] (·=I64 r):=by
 unfold G63 at h
 refine Hb [.tmp 2] Try.func105 O O (Jr fun t=>(JLm (I64 0) O (G6 (t ?_))))
 obtain⟨u,f,h⟩:=G0e h
 refine Zd (fun a:Int×Int=>u a=some r) (fun a=>[(0,.sc (.int .u64 a.1)),(2,I64 a.2)]) (fun a=>[]) (fun Kj2 ej2=>?_) ?_
 ·
  refine Jr fun v=>(JLm (.sc (.int .u64 x)) O (JLh (BL (decide (4294967296≤x))) (G56 O O O) O (G6 (v (JCc O h (fun h hb=>?_) (fun h hb=>?_))))))
  ·
   refine Jr fun w=>(JLm (.sc (.int .u64 x)) O (JLh (.sc (.int .u64 (Gd1 .u64 x 32))) (J22 (s:=32) O O O O) O (JLm (.sc (.int .u64 (Gd1 .u64 x 32))) O (G6 (w (G1 (JLm (I64 32) O (G6 (ej2 _ _ (Gd1 .u64 x 32,32) h ⟨(.sm O O),ø,O⟩)))))))))
  ·
   refine Gj (ej2 _ _ (x,0) h ⟨(.sm O O),ø,O⟩)
 ·intro a h
  replace h:=app1 f h
  obtain⟨y,g,h⟩:=G0e h
  refine Zd (fun b:Int×Int=>y b=some r) (fun b=>[(0,.sc (.int .u64 b.1)),(2,I64 b.2)]) (fun b=>[]) (fun Kj5 ej5=>?_) ?_
  ·
   refine Jr fun z=>(JLm (.sc (.int .u64 a.1)) O (JLh (BL (decide (65536≤a.1))) (G56 O O O) O (G6 (z (JCc O h (fun h hb=>?_) (fun h hb=>?_))))))
   ·
    refine Jr fun a0=>(JLm (.sc (.int .u64 a.1)) O (JLh (.sc (.int .u64 (Gd1 .u64 a.1 16))) (J22 (s:=16) O O O O) O (JLm (.sc (.int .u64 (Gd1 .u64 a.1 16))) O (G6 (a0 (G1 (JLm (I64 a.2) O ?_)))))))
    obtain⟨i,a1,h⟩:=J6 h
    refine JLh (I64 i) (Hy a1 O O O) O (JLm (I64 i) O (G6 (ej5 _ _ (Gd1 .u64 a.1 16,i) h ⟨(.sm O O),ø,O⟩)))
   ·
    refine Gj (ej5 _ _ (a.1,a.2) h ⟨(.sm O O),ø,O⟩)
  ·intro b h
   replace h:=app1 g h
   obtain⟨a2,j,h⟩:=G0e h
   refine Zd (fun c:Int×Int=>a2 c=some r) (fun c=>[(0,.sc (.int .u64 c.1)),(2,I64 c.2)]) (fun c=>[]) (fun Kj9 ej9=>?_) ?_
   ·
    refine Jr fun k=>(JLm (.sc (.int .u64 b.1)) O (JLh (BL (decide (256≤b.1))) (G56 O O O) O (G6 (k (JCc O h (fun h hb=>?_) (fun h hb=>?_))))))
    ·
     refine Jr fun l=>(JLm (.sc (.int .u64 b.1)) O (JLh (.sc (.int .u64 (Gd1 .u64 b.1 8))) (J22 (s:=8) O O O O) O (JLm (.sc (.int .u64 (Gd1 .u64 b.1 8))) O (G6 (l (G1 (JLm (I64 b.2) O ?_)))))))
     obtain⟨d,m,h⟩:=J6 h
     refine JLh (I64 d) (Hy m O O O) O (JLm (I64 d) O (G6 (ej9 _ _ (Gd1 .u64 b.1 8,d) h ⟨(.sm O O),ø,O⟩)))
    ·
     refine Gj (ej9 _ _ (b.1,b.2) h ⟨(.sm O O),ø,O⟩)
   ·intro c h
    replace h:=app1 j h
    refine Jr fun n=>(JLm (I64 c.2) O (JLm (.sc (.int .u64 c.1)) O (JLh (U8 (IntKind.u8.wrap c.1)) (J26 H75 Jbf O O O) O ?_)))
    obtain⟨a3,o,h⟩:=Gc h
    refine JLh (U8 a3) (Jae J7b O O O o) O ?_
    obtain⟨a4,p,h⟩:=J6 h
    refine JLh (I64 a4) (J26 Hdd H75 p O O) O ?_
    obtain⟨e,q,h⟩:=J6 h
    refine JLh (I64 e) (Hy q O O O) O (JLm (I64 e) O (G6 (n (H0 (fin1 I64 h)))))

def G92 (x:Int):Option Int:=
 bnd (G63 x) fun a=>
 some a
theorem H93 (x:Int) (r:Int) (h:G92 x=some r):Pure E8 79 [.sc (.int .u64 x)] (·=I64 r):=by
 unfold G92 at h
 refine Hb [.tmp 2] Try.func79 O O (Jr fun b=>(JLm (I64 0) O (G6 (b (Js fun c=>Qae O (Gj (c (Jr fun d=>(JLm (.sc (.int .u64 x)) O ?_)))))))))
 obtain⟨a,e,h⟩:=Gc h
 refine JLh (I64 a) (Gt O (H41 x a e) J7d ⟨O,O,ø⟩) O (JLm (I64 a) O (G6 (d (H0 (fin1 I64 h)))))

def Yu (y:Gp) (order:List Int) (l:List G5):Option (Bool×Int):=
 bnd (Qx y order) fun b=>
 bif decide (b.2≠0) then
 (some (false,b.2))
 else
 (bnd (G8a y l) fun a=>
  bnd (bif decide (a.2.2=0) then Ri a.1 order else some default) fun c=>
  some (((decide (a.2.2=0))&&(decide ((c.length:Int)=0))),0))
theorem Gca (y:Gp) (order:List Int) (l:List G5) (r:Bool×Int) (h:Yu y order l=some r):Pure E8 24 [.agg [LS 1 (E1) y.Stacks,I64 y.Height],E1 order,E2 l] (·=.tup [BL r.1,I64 r.2]):=by
 unfold Yu at h
 refine Hb [.tmp 6,.tmp 7] Try.func24 O O (Jr fun e=>(JLh (.ptr 1032 0) (Q5 (cs:=[LS 1 (E1) y.Stacks,I64 y.Height]) 1032 O O O O O) O (JLm (BL false) O (JLm (I64 0) O (G6 (e (H5 [(1,E1 order),(2,E2 l),(3,.dptr [LS 1 (E1) y.Stacks,I64 y.Height])] [] 1032 rfl rfl rfl ø rfl (by exact⟨.conv (.same rfl),.conv (.same rfl),.ptr,ø⟩) (Js fun g=>Jr fun i=>(JLh (.agg [LS 1 (E1) y.Stacks,I64 y.Height]) (Gu Hj O O O) O (JLm (E1 order) O ?_))))))))))
 obtain⟨b,j,h⟩:=Gc h
 refine JLh (.tup [I64 b.1,I64 b.2]) (Gt O (Zb y order b j) Ga9 ⟨O,O,O,O,ø⟩) O (JLm (.tup [I64 b.1,I64 b.2]) O (JLh (I64 b.1) (Gv O O O) O (JLh (I64 b.2) (Gv O O O) O (JLm (I64 b.1) O (JLm (I64 b.2) O (G6 (i (Jr fun k=>(JLm (I64 b.2) O (JLh (BL (decide (b.2≠0))) (G16 O O O) O (G6 (k (JCc O h (fun h hb=>?_) (fun h hb=>?_))))))))))))))
 ·
  refine Jr fun m=>(JLm (I64 b.2) O (JLm (BL false) O (JLm (I64 b.2) O (G6 (m (H0 (⟨[BL false,I64 b.2],[],ø,O,⟨⟨_,O,.conv (.same O)⟩,⟨_,O,.conv (.same O)⟩,ø⟩,O,congrArg (fun r:Bool×Int=>(.tup [BL r.1,I64 r.2]:AV)) (Ey h)⟩)))))))
 ·
  refine Gj (g (Jr fun n=>(JLh (.agg [LS 1 (E1) y.Stacks,I64 y.Height]) (Gu Hj O O O) O (JLm (E2 l) O ?_))))
  obtain⟨a,o,h⟩:=Gc h
  refine JLh (.tup [.agg [LS 1 (E1) a.1.Stacks,I64 a.1.Height],I64 a.2.1,I64 a.2.2]) (Gt O (J2f.down y l a o) Jde ⟨O,O,O,O,ø⟩) O (JLm (.tup [.agg [LS 1 (E1) a.1.Stacks,I64 a.1.Height],I64 a.2.1,I64 a.2.2]) O (JLh (.agg [LS 1 (E1) a.1.Stacks,I64 a.1.Height]) (Gv O O O) O (JLh (I64 a.2.1) (Gv O O O) O (JLh (I64 a.2.2) (Gv O O O) O (JLh (.ptr 1033 0) (Jh 1033 2 G24 O O) O (J9 (u:=.junk) (Hp (u:=.agg [LS 1 (E1) a.1.Stacks,I64 a.1.Height]) (ds:=[LS 1 (E1) a.1.Stacks,I64 a.1.Height]) G0c O O O O O O O O) (JLm (I64 a.2.1) O (JLm (I64 a.2.2) O (G6 (n ?_))))))))))
  refine H5 [(1,E1 order),(10,.dptr [LS 1 (E1) a.1.Stacks,I64 a.1.Height]),(12,I64 a.2.2)] [] 1033 rfl rfl rfl ø rfl (by exact⟨.conv (.same rfl),.ptr,.conv (.same rfl),ø⟩) (Jr fun p=>(JLm (I64 a.2.2) O (JLh (BL (decide (a.2.2=0))) (Ya O O O) O (JLm (BL (decide (a.2.2=0))) O (JLo (.agg [LS 1 (E1) a.1.Stacks,I64 a.1.Height]) [] O .sct ø (fun hc=>Gu Hj O O O) O (JLo (E1 order) [] O .sct ø (fun hc=>G2 O O) O ?_))))))
  obtain⟨c,d,h⟩:=Gc h
  refine JLo (E1 c) [32,33] O .sct ⟨Ua,Ua,ø⟩ (fun hc=>Gt (args:=[.agg [LS 1 (E1) a.1.Stacks,I64 a.1.Height],E1 order]) O (H06 a.1 order c (H1 hc d)) H50 ⟨O,O,O,O,ø⟩) O (JLo (E7 c.length) [34] O .sct ⟨Ua,ø⟩ (fun hc=>Q7 (f:=I64) (xs:=c) G7 O O) O (JLo (BL (decide ((c.length:Int)=0))) [35] O .sct ⟨Ua,ø⟩ (fun hc=>Ya O O O) O (JLh (BL ((decide (a.2.2=0))&&(decide ((c.length:Int)=0)))) (Y6 O O O O) O (JLm (BL ((decide (a.2.2=0))&&(decide ((c.length:Int)=0)))) O (JLm (I64 0) O (G6 (p (H0 (⟨[BL ((decide (a.2.2=0))&&(decide ((c.length:Int)=0))),I64 0],[],ø,O,⟨⟨_,O,.conv (.same O)⟩,⟨_,O,.conv (.same O)⟩,ø⟩,O,congrArg (fun r:Bool×Int=>(.tup [BL r.1,I64 r.2]:AV)) (Ey h)⟩)))))))))

def G44 (x:Int):Option Bool:=
 some (decide (x≠x))
theorem Gcb (x:Int) (r:Bool) (h:G44 x=some r):Pure E8 80 [I64 x] (·=BL r):=by
 unfold G44 at h
 refine Hb [.tmp 2] Try.func80 O O (Jr fun a=>(JLm (BL false) O (G6 (a (Jr fun b=>(JLm (I64 x) O (JLm (I64 x) O (JLh (BL (decide (x≠x))) (G16 O O O) O (JLm (BL (decide (x≠x))) O (G6 (b (H0 (fin1 BL h)))))))))))))

def G21 (x:Int) (y:Int):Option Int:=
 bnd (G44 x) fun b=>
 bnd (G44 y) fun a=>
 bif b then
 (bif a then
  (some 0)
  else
  (some (-1)))
 else
 (bif a then
  (some 1)
  else
  (bif decide (x < y) then
   (some (-1))
   else
   (bif decide (y < x) then
    (some 1)
    else
    (some 0))))
theorem G96 (x:Int) (y:Int) (r:Int) (h:G21 x y=some r):Pure E8 54 [I64 x,I64 y] (·=I64 r):=by
 unfold G21 at h
 refine Hb [.tmp 4] Try.func54 O O (Jr fun p=>(JLm (I64 0) O (G6 (p (Jr fun q=>(JLm (I64 x) O ?_))))))
 obtain⟨b,s,h⟩:=Gc h
 refine JLh (BL b) (Gt O (Gcb x b s) He3 ⟨O,O,ø⟩) O (JLm (BL b) O (G6 (q (Jr fun t=>(JLm (I64 y) O ?_)))))
 obtain⟨a,u,h⟩:=Gc h
 refine JLh (BL a) (Gt O (Gcb y a u) He3 ⟨O,O,ø⟩) O (JLm (BL a) O (G6 (t (Js fun v=>Jr fun w=>(JLm (BL b) O (G6 (w (JCc O h (fun h hb=>?_) (fun h hb=>?_)))))))))
 ·
  refine Js fun z=>Jr fun a0=>(JLm (BL a) O (G6 (a0 (JCc O h (fun h hb=>?_) (fun h hb=>?_)))))
  ·
   refine Jr fun c=>(JLm (I64 0) O (G6 (c (H0 (fin1 I64 h)))))
  ·
   refine Gj (z (Jr fun d=>(JLm (I64 (-1)) O (G6 (d (H0 (fin1 I64 h)))))))
 ·
  refine Gj (v (Js fun e=>Jr fun f=>(JLm (BL a) O (G6 (f (JCc O h (fun h hb=>?_) (fun h hb=>?_)))))))
  ·
   refine Jr fun g=>(JLm (I64 1) O (G6 (g (H0 (fin1 I64 h)))))
  ·
   refine Gj (e (Js fun i=>Jr fun j=>(JLm (I64 x) O (JLm (I64 y) O (JLh (BL (decide (x < y))) (Hx O O O) O (G6 (j (JCc O h (fun h hb=>?_) (fun h hb=>?_)))))))))
   ·
    refine Jr fun k=>(JLm (I64 (-1)) O (G6 (k (H0 (fin1 I64 h)))))
   ·
    refine Gj (i (Js fun l=>Jr fun m=>(JLm (I64 x) O (JLm (I64 y) O (JLh (BL (decide (y < x))) (Y5 O O O) O (G6 (m (JCc O h (fun h hb=>?_) (fun h hb=>?_)))))))))
    ·
     refine Jr fun n=>(JLm (I64 1) O (G6 (n (H0 (fin1 I64 h)))))
    ·
     refine Gj (l (Jr fun o=>(JLm (I64 0) O (G6 (o (H0 (fin1 I64 h)))))))

def H00 (vals:List Int):Option Int:=
 each (fun a d (c:Unit) b=>
  bif decide (a≠0) then
  (some a)
  else
  (b ()))
 (fun(c:Unit)=>
  some 0) vals 0 ()
theorem J1a (vals:List Int) (r:Int) (h:H00 vals=some r):Pure E8 53 [E1 vals] (·=I64 r):=by
 unfold H00 at h
 refine Hb [.tmp 2] Try.func53 O O (Jr fun u=>(JLm (I64 0) O (G6 (u (Jr fun v=>(JLm (I64 0) O (G6 (v (Js fun w=>Jr fun x=>(JLm (E1 vals) O (JLl G7 O O O fun z=>(JLm (I64 0) O (G6 (x (Gg ?_)))))))))))))))
 obtain⟨a0,i,j,g,h⟩:=J4 h
 refine H7 (fun a (c:Unit)=>each a0 i (List.drop a vals) a c=some r) (fun a c=>[(3,I64 0),(6,E1 vals),(7,E7 vals.length),(8,E7 a)]) (fun a c=>[]) (fun a=>vals.length - a) 0 () h ⟨(.sm O O),ø,rfl⟩ ?_
 clear h
 intro a c d a3 a1
 refine Jr fun k=>(JLh (BL (decide ((a:Int) < (vals.length:Int)))) (Hx O O O) O (G6 (k (Js fun l=>Gi O (fun hb=>?_) (fun hb=>?_)))))
 ·
  have e:=Jo hb
  obtain⟨b,a2,m,n,h⟩:=Hq d e
  replace h:=Yn j h
  refine Gj (l (Js fun o=>Gg (Jr fun p=>(JLh (.dptr [I64 b]) (Gz (f:=I64) (xs:=vals) (y:=b) O O O G7 m O) O (JLh (I64 b) (Gm Gh O O O) O (JLm (I64 b) O (G6 (p (Jr fun q=>(JLm (I64 b) O (JLm (I64 0) O (JLh (BL (decide (b≠0))) (G16 O O O) O (G6 (q (JCc O h (fun h hb=>?_) (fun h hb=>?_))))))))))))))))
  ·
   refine Jr fun s=>(JLm (I64 b) O (JLm (I64 b) O (G6 (s (H0 (fin1 I64 h))))))
  ·
   refine Gj (o (G1 (JLh (I64 ((a+1:Nat):Int)) (Hy (Hk e z) O O O) O (JLm (I64 ((a+1:Nat):Int)) O (G6 (a1 _ _ (a+1) () (app1 n h) (by omega) ⟨(.sm O O),ø,rfl⟩))))))
 ·
  have h:=app1 g (Hr d (Ha hb))
  refine Hd (w (Jr fun t=>(JLm (I64 0) O (JLm (I64 0) O (G6 (t (H0 (fin1 I64 h))))))))

def Zz (a:Int) (b:Int) (c:List Int):Option Int:=
 bnd (Qd c b) fun d=>
 bnd (Qd c a) fun e=>
 bnd (G21 d e) fun f=>
 bnd (G21 a b) fun g=>
 bnd (H00 [f,g]) fun h=>
 some h
theorem H0d (a:Int) (b:Int) (c:List Int) (r:Int) (h:Zz a b c=some r):Pure E8 52 [I64 a,I64 b,.dptr [E1 c]] (·=I64 r):=by
 unfold Zz at h
 refine Hb [.tmp 5] Try.func52 O O (Jr fun j=>(JLm (I64 0) O (G6 (j (Js fun k=>?_)))))
 obtain⟨f,l,h⟩:=Gc h
 obtain⟨g,m,h⟩:=Gc h
 obtain⟨d,n,h⟩:=Gc h
 obtain⟨e,o,h⟩:=Gc h
 obtain⟨i,p,h⟩:=Gc h
 refine JC_d0 Jg (by kernel_rfl) (Dq (E1 c) (Gm H4 O O O) O (Dq (I64 b) (G2 O O) O (Dq (I64 f) (Gt (args:=[E1 c,I64 b]) O (Rs c b f l) G46 ⟨O,O,O,O,ø⟩) O (Dq (E1 c) (Gm H4 O O O) O (Dq (I64 a) (G2 O O) O (Dq (I64 g) (Gt (args:=[E1 c,I64 a]) O (Rs c a g m) G46 ⟨O,O,O,O,ø⟩) O (Dq (I64 d) (Gt (args:=[I64 f,I64 g]) O (G96 f g d n) He8 ⟨O,O,O,O,ø⟩) O (Dq (I64 a) (G2 O O) O (Dq (I64 b) (G2 O O) O (Dq (I64 e) (Gt (args:=[I64 a,I64 b]) O (G96 a b e o) He8 ⟨O,O,O,O,ø⟩) O (Dq (E1 [d,e]) (H9 (xs:=[I64 d,I64 e]) O ⟨O,O,O,O,ø⟩ G7 Je O O O O) O (Dq (I64 i) (Gt (args:=[E1 [d,e]]) O (J1a [d,e] i p) Jd3 ⟨O,O,ø⟩) O (Dq (I64 i) (G4 O O) O (Dnil ?_))))))))))))))
 refine k (H0 (fin1 I64 h))


theorem Hd0 (y:Gp) (order:List Int) (r:(List Int)) (h:Ri y order=some r):Jq E8 50 [.agg [LS 1 (E1) y.Stacks,I64 y.Height],E1 order] [] (fun av L'=>∃ p:Nat,av=.vec 1060 p 1 r.length∧L'=[(1060,.vec 3 1 p (r.map I64))]):=by
 unfold Ri at h
 refine Yv [] [.tmp 4] Try.func50 O O (H05 O) (Jr fun b6=>(JLh (.ptr 1058 0) (Q5 (cs:=[LS 1 (E1) y.Stacks,I64 y.Height]) 1058 O O O O O) O (JLh (.vec 1059 (([]:List Int).length) 1 (([]:List Int).length)) (H2a 1059 3 1 O O O) O (G6 (b6 (H5 [(1,E1 order),(2,.dptr [LS 1 (E1) y.Stacks,I64 y.Height])] [(1059,.vec 3 1 (([]:List Int).length) (([]:List Int).map I64))] 1058 rfl rfl rfl ⟨⟨_,rfl,.vec⟩,ø⟩ rfl (by exact⟨.conv (.same rfl),.ptr,ø⟩) (Jr fun b7=>(JLh (.vec 1060 (([]:List Int).length) 1 (([]:List Int).length)) (H2a 1060 3 1 O O O) O (G6 (b7 (Js fun b8=>?_)))))))))))
 refine Jr fun b9=>(JLh (.dptr [LS 1 (E1) y.Stacks,I64 y.Height]) (Gy Hv O O O) O (JLh (LS 1 (E1) y.Stacks) (Gm Gr O O O) O (JLl Gf O O O fun t=>(JLm (I64 0) O (G6 (b9 (Gg ?_)))))))
 obtain⟨b5,c0,c1,u,h⟩:=J4 h
 refine H7 (fun g (c:(List Int))=>each b5 c0 (List.drop g y.Stacks) g c=some r) (fun g c=>[(1,E1 order),(5,.vec 1060 c.length 1 c.length),(13,LS 1 (E1) y.Stacks),(14,E7 y.Stacks.length),(15,E7 g)]) (fun g c=>[(1059,.vec 3 1 (([]:List Int).length) (([]:List Int).map I64)),(1060,.vec 3 1 c.length (c.map I64))]) (fun g=>y.Stacks.length - g) 0 [] h ⟨(.sm O O),⟨⟨_,rfl,.vec⟩,⟨_,rfl,.vec⟩,ø⟩,rfl⟩ ?_
 clear h
 intro g c o K5 e5
 refine Jr fun c2=>(JLh (BL (decide ((g:Int) < (y.Stacks.length:Int)))) (Hx O O O) O (G6 (c2 (Js fun c3=>Gi O (fun hb=>?_) (fun hb=>?_)))))
 ·
  have q:=Jo hb
  obtain⟨j,d4,c4,c5,h⟩:=Hq o q
  replace h:=Yn c1 h
  refine Gj (c3 (Js fun c6=>Gg (Jr fun c7=>(JLh (.dptr [E1 j]) (Gz (f:=(E1)) (xs:=y.Stacks) (y:=j) O O O Gf c4 O) O (JLh (E1 j) (Gm H4 O O O) O (JLm (E1 j) O (G6 (c7 (Jr fun v=>(JLm (E1 order) O (JLl G7 O O O fun d2=>(JLm (E7 order.length) O (G6 (v (Jr fun w=>(JLm (E1 j) O (JLl G7 O O O fun x=>(JLm (I64 0) O (G6 (w (Gg ?_)))))))))))))))))))))
  obtain⟨c8,z,a0,m,h⟩:=J4 h
  refine H7 (fun d (a:Int×(List Int))=>each c8 z (List.drop d j) d a=some r) (fun d a=>[(1,E1 order),(5,.vec 1060 a.2.length 1 a.2.length),(8,I64 a.1),(13,LS 1 (E1) y.Stacks),(14,E7 y.Stacks.length),(15,E7 g),(21,E1 j),(22,E7 j.length),(23,E7 d)]) (fun d a=>[(1059,.vec 3 1 (([]:List Int).length) (([]:List Int).map I64)),(1060,.vec 3 1 a.2.length (a.2.map I64))]) (fun d=>j.length - d) 0 ((order.length:Int),c) h ⟨(.sm O O),⟨⟨_,rfl,.vec⟩,⟨_,rfl,.vec⟩,ø⟩,rfl⟩ ?_
  clear h
  intro d a k d5 c9
  refine Jr fun a1=>(JLh (BL (decide ((d:Int) < (j.length:Int)))) (Hx O O O) O (G6 (a1 (Js fun a2=>Gi O (fun hb=>?_) (fun hb=>?_)))))
  ·
   have l:=Jo hb
   obtain⟨b,d3,a3,a4,h⟩:=Hq k l
   replace h:=Yn a0 h
   refine Gj (a2 (Js fun a5=>Gg (Jr fun a6=>(JLh (.dptr [I64 b]) (Gz (f:=I64) (xs:=j) (y:=b) O O O G7 a3 O) O (JLh (I64 b) (Gm Gh O O O) O (JLm (I64 b) O (G6 (a6 (Jr fun a7=>(JLm (E1 order) O (JLm (I64 b) O ?_)))))))))))
   obtain⟨e,a8,h⟩:=Gc h
   refine JLh (I64 e) (Gt O (Rs order b e a8) G46 ⟨O,O,O,O,ø⟩) O (JLm (I64 e) O (G6 (a7 ?_)))
   obtain⟨a9,n,h⟩:=G0e h
   refine Zd (fun i:(List Int)=>a9 i=some r) (fun i=>[(1,E1 order),(5,.vec 1060 i.length 1 i.length),(8,I64 a.1),(11,I64 e),(13,LS 1 (E1) y.Stacks),(14,E7 y.Stacks.length),(15,E7 g),(21,E1 j),(22,E7 j.length),(23,E7 d)]) (fun i=>[(1059,.vec 3 1 (([]:List Int).length) (([]:List Int).map I64)),(1060,.vec 3 1 i.length (i.map I64))]) (fun Kj67 ej67=>?_) ?_
   ·
    refine Jr fun b0=>(JLm (I64 e) O (JLm (I64 a.1) O (JLh (BL (decide (a.1 < e))) (Y5 O O O) O (G6 (b0 (JCc O h (fun h hb=>?_) (fun h hb=>?_)))))))
    ·
     refine G1 (JLm (.vec 1060 a.2.length 1 a.2.length) O (JLm (I64 b) O (JLh (E1 [b]) (H9 (xs:=[I64 b]) O ⟨O,O,ø⟩ G7 Je O O O O) O ?_)))
     obtain⟨b1,h⟩:=J3 h
     refine JLh (.vec 1060 ((a.2++[b]).length) 1 ((a.2++[b]).length)) (G7c (f:=I64) (xs:=a.2) (ys:=[b]) (ver:=a.2.length) (ver1:=(a.2++[b]).length) rfl rfl rfl rfl G7 Ra b1 (fun _=>rfl) (.inl rfl) (by simp)) O (JLm (.vec 1060 ((a.2++[b]).length) 1 ((a.2++[b]).length)) O (G6 (ej67 _ _ (a.2++[b]) h ⟨(.sm O O),⟨⟨_,rfl,.vec⟩,⟨_,rfl,.vec⟩,ø⟩,rfl⟩)))
    ·
     refine Gj (ej67 _ _ a.2 h ⟨(.sm O O),⟨⟨_,rfl,.vec⟩,⟨_,rfl,.vec⟩,ø⟩,rfl⟩)
   ·intro i h
    replace h:=app1 n h
    refine G1 (JLm (I64 a.1) O (JLm (I64 e) O (JLh (I64 (min a.1 e)) (Q44 O O O) O (JLm (I64 (min a.1 e)) O (G6 (a5 (G1 (JLh (I64 ((d+1:Nat):Int)) (Hy (Hk l x) O O O) O (JLm (I64 ((d+1:Nat):Int)) O (G6 (c9 _ _ (d+1) ((min a.1 e),i) (app1 a4 h) (by omega) ⟨(.sm O O),⟨⟨_,rfl,.vec⟩,⟨_,rfl,.vec⟩,ø⟩,rfl⟩)))))))))))
  ·
   have h:=app1 m (Hr k (Ha hb))
   refine Hd (c6 (G1 (JLh (I64 ((g+1:Nat):Int)) (Hy (Hk q t) O O O) O (JLm (I64 ((g+1:Nat):Int)) O (G6 (e5 _ _ (g+1) a.2 (app1 c5 h) (by omega) ⟨(.sm O O),⟨⟨_,rfl,.vec⟩,⟨_,rfl,.vec⟩,ø⟩,rfl⟩))))))
 ·
  have h:=app1 u (Hr o (Ha hb))
  refine Hd (b8 (Jr fun b2=>(JLm (.vec 1060 c.length 1 c.length) O ?_)))
  obtain⟨s,b3,h⟩:=Gc h
  refine JLh (.tup []) (Q42 (F:=77) (xs:=c) (r:=s) O Hbe H77 He4 O O O b3 O) O (G6 (b2 (Jr fun b4=>(JLm (.vec 1060 c.length 1 c.length) O (JLm (.vec 1060 c.length 1 c.length) O (G6 (b4 (J6c 4 O O (fun hn_=>H0 ?_)))))))))
  obtain rfl:=Ey h
  exact⟨[.vec 1060 c.length 1 c.length],[(1060,.vec 3 1 c.length (s.map I64))],⟨⟨_,O,.vec⟩,ø⟩,O,⟨⟨_,O,.conv (.same O)⟩,ø⟩,c.length,congrArg (fun n_:Nat=>(.vec 1060 c.length 1 n_:AV)) (hn_.trans (Km _)),O⟩

def Rg (F:Nat) (data:List Int) (a:Int) (b:Int) (cmp:Int→Int→Option Int):Option (List Int):=
 chk (a+1) fun q=>
 loop (fun h (d:Int×(List Int))=>
  bif decide (d.1 < b) then
  (loop (fun g (c:Int×(List Int))=>
    bnd (bif decide (a < c.1) then Qn c.2 c.1 some else some default) fun i=>
    bnd (bif decide (a < c.1) then chk (c.1 - 1) some else some 0) fun j=>
    bnd (bif decide (a < c.1) then Qn c.2 j some else some default) fun k=>
    bnd (bif decide (a < c.1) then cmp i k else some default) fun l=>
    bif ((decide (a < c.1))&&(decide (l < 0))) then
    (chk (c.1 - 1) fun e=>
     chk (c.1 - 1) fun m=>
     Qn c.2 m fun f=>
     Qn c.2 c.1 fun n=>
     Qn c.2 c.1 fun r=>
     Qn (c.2.set c.1.toNat f) e fun s=>
     chk (c.1 - 1) fun o=>
     g (o,((c.2.set c.1.toNat f).set e.toNat n)))
    else
    (chk (d.1+1) fun p=>
     h (p,c.2))) F (d.1,d.2))
  else
  (some d.2)) F (q,data)
theorem G07 (F:Nat) (data:List Int) (data_q:Nat) (a:Int) (b:Int) (cmp:Int→Int→Option Int) (cmp_f:FuncId) (cmp_c:List AV) (cmp_B:Hi E8 cmp_f=true) (cmp_d:Ry (fun _=>false) cmp_c=true) (cmp_w:∀ a0 a1 q,cmp a0 a1=some q→Pure E8 cmp_f ([I64 a0,I64 a1]++cmp_c) (·=I64 q)) (r:(List Int)) (h:Rg F data a b cmp=some r):Jq E8 96 [.vec 1060 data_q 1 data.length,I64 a,I64 b,.fn cmp_f cmp_c] [(1060,.vec 3 1 data_q (data.map I64))] (fun av L'=>av=.tup []∧L'=[(1060,.vec 3 1 data_q (r.map I64))]):=by
 unfold Rg at h
 refine Yv [1060] [] Try.func96 O O (H05 O) (Jr fun c3=>(JLm (I64 a) O ?_))
 obtain⟨v2,c4,h⟩:=J6 h
 refine JLh (I64 v2) (Hy c4 O O O) O (JLm (I64 v2) O (G6 (c3 (Gg ?_))))
 obtain⟨b3,c5,h⟩:=Zy h
 refine H7 (fun o (d:Int×(List Int))=>loop b3 o d=some r) (fun o d=>[(0,.vec 1060 data_q 1 data.length),(1,I64 a),(2,I64 b),(3,.fn cmp_f cmp_c),(8,I64 d.1)]) (fun o d=>[(1060,.vec 3 1 data_q (d.2.map I64))]) (fun o=>o) F (v2,data) h ⟨⟨.same O,.same O,.same O,.same (Y8 _ _ cmp_d),.same O,ø⟩,⟨⟨_,O,.vec⟩,ø⟩,O⟩ ?_
 clear h
 intro o d c6 K3 e3
 obtain⟨m3,e1,hm_3,c7,h⟩:=Yx c6
 replace h:=H3e c5 h
 refine Js fun c8=>Jr fun c9=>(JLm (I64 d.1) O (JLm (I64 b) O (JLh (BL (decide (d.1 < b))) (Hx O O O) O (G6 (c9 (JCc O h (fun h hb=>?_) (fun h hb=>?_)))))))
 ·
  refine Gj (c8 (Js fun d0=>Gg (Jr fun d1=>(JLm (I64 d.1) O (JLm (I64 d.1) O (G6 (d1 (Gg ?_))))))))
  obtain⟨d2,b1,h⟩:=Zy h
  refine H7 (fun g (c:Int×(List Int))=>loop d2 g c=some r) (fun g c=>[(0,.vec 1060 data_q 1 data.length),(1,I64 a),(2,I64 b),(3,.fn cmp_f cmp_c),(8,I64 d.1),(9,I64 c.1)]) (fun g c=>[(1060,.vec 3 1 data_q (c.2.map I64))]) (fun g=>g) F (d.1,d.2) h ⟨⟨.same O,.same O,.same O,.same (Y8 _ _ cmp_d),.same O,.same O,ø⟩,⟨⟨_,O,.vec⟩,ø⟩,O⟩ ?_
  clear h
  intro g c b2 e2 d3
  obtain⟨d4,e0,hm_58,b4,h⟩:=Yx b2
  replace h:=H3e b1 h
  refine Js fun b5=>Js fun b6=>Qz (l':=[(0,.vec 1060 data_q 1 data.length),(1,I64 a),(2,I64 b),(3,.fn cmp_f cmp_c),(8,I64 d.1),(9,I64 c.1)]) (L':=[(1060,.vec 3 1 data_q (c.2.map I64))]) ⟨⟨.same O,.same O,.same O,.same (Y8 _ _ cmp_d),.same O,.same O,ø⟩,⟨⟨_,O,.vec⟩,ø⟩,O⟩ ?_
  obtain⟨j,l,h⟩:=Gc h
  obtain⟨a8,b7,h⟩:=Gc h
  obtain⟨k,m,h⟩:=Gc h
  obtain⟨p,b8,h⟩:=Gc h
  refine JC_d0 Jg (by kernel_rfl) (Dq (I64 c.1) (G2 O O) O (Dq (I64 a) (G2 O O) O (Dq (BL (decide (a < c.1))) (Y5 O O O) O (Dq (BL (decide (a < c.1))) (G2 O O) O (Do (.fn cmp_f cmp_c) [] O .sct ø (fun hc=>G2 O O) O (Do (.vec 1060 data_q 1 data.length) [] O .sct ø (fun hc=>G2 O O) O (Do (I64 c.1) [] O .sct ø (fun hc=>G2 O O) O (Do (.vptr 1060 data_q c.1.toNat 0) [23,24] O .sct ⟨Ua,Ua,ø⟩ (fun hc=>Y2 (f:=I64) (xs:=c.2) (y:=j) O O O O G7 (G2c (H1 hc l)) (Gfa (H1 hc l))) O (Do (I64 j) [25] O .sct ⟨Ua,ø⟩ (fun hc=>G41 (f:=I64) (xs:=c.2) (y:=j) Gh O O O (G2c (H1 hc l)) O O) O (Do (.vec 1060 data_q 1 data.length) [] O .sct ø (fun hc=>G2 O O) O (Do (I64 c.1) [] O .sct ø (fun hc=>G2 O O) O (Do (I64 a8) [28] O .sct ⟨Ua,ø⟩ (fun hc=>Yq (G89 (H1 hc b7)) O O O) O (Do (.vptr 1060 data_q a8.toNat 0) [27,29] O .sct ⟨Ua,Ua,ø⟩ (fun hc=>Y2 (f:=I64) (xs:=c.2) (y:=k) O O O O G7 (G2c (H1 hc m)) (Gfa (H1 hc m))) O ?_)))))))))))))
  refine Do (I64 k) [30] O .sct ⟨Ua,ø⟩ (fun hc=>G41 (f:=I64) (xs:=c.2) (y:=k) Gh O O O (G2c (H1 hc m)) O O) O (Do (I64 p) [22,26,31] O .sct ⟨Ua,Ua,Ua,ø⟩ (fun hc=>Qc1 (args:=[I64 j,I64 k]) (caps:=cmp_c) O O (cmp_w j k _ (H1 hc b8)) cmp_B ⟨O,O,O,O,ø⟩ cmp_d) O (Do (BL (decide (p < 0))) [32] O .sct ⟨Ua,ø⟩ (fun hc=>Hx O O O) O (Dq (BL ((decide (a < c.1))&&(decide (p < 0)))) (Y6 O O O O) O (Dnil (b6 (JCc O h (fun h hb=>?_) (fun h hb=>?_)))))))
  ·
   refine Gj (b5 (Js fun b9=>Gg (Qz (l':=[(0,.vec 1060 data_q 1 data.length),(1,I64 a),(2,I64 b),(3,.fn cmp_f cmp_c),(8,I64 d.1),(9,I64 c.1)]) (L':=[(1060,.vec 3 1 data_q (c.2.map I64))]) ⟨⟨.same O,.same O,.same O,.same (Y8 _ _ cmp_d),.same O,.same O,ø⟩,⟨⟨_,O,.vec⟩,ø⟩,O⟩ ?_)))
   obtain⟨n,s,h⟩:=J6 h
   obtain⟨a9,c0,h⟩:=J6 h
   obtain⟨e,a4,t,h⟩:=Rb h
   obtain⟨i,a5,v,h⟩:=Rb h
   obtain⟨d5,a6,w,h⟩:=Rb h
   obtain⟨d6,a7,x,h⟩:=Rb h
   refine Ju [15,17] [0,0,0,0,0,0,0,0,0,0,0,0,0,0,0,0,1,0] [0,0,1,1,1,0,0,0,0,0,0,0,0,0,0,0,1,0] [[(1060,.vec 3 1 data_q (c.2.map I64))],((1060,.vec 3 1 data_q ((c.2.set c.1.toNat e).map I64))::[(1060,.vec 3 1 data_q (c.2.map I64))]),((1060,.vec 3 1 data_q (((c.2.set c.1.toNat e).set n.toNat i).map I64))::((1060,.vec 3 1 data_q ((c.2.set c.1.toNat e).map I64))::[(1060,.vec 3 1 data_q (c.2.map I64))]))] Jg (by kernel_rfl) rfl rfl ?_
   refine Gb (u:=.vec 1060 data_q 1 data.length) O O ⟨Ga (G2 O O) O,ø⟩ (Gb (u:=I64 c.1) O O ⟨Ga (G2 O O) O,ø⟩ (Gb (u:=.vec 1060 data_q 1 data.length) O O ⟨Ga (G2 O O) O,Ga (G2 O O) O,ø⟩ (Gb (u:=I64 c.1) O O ⟨Ga (G2 O O) O,Ga (G2 O O) O,ø⟩ (Gb (u:=I64 n) O O ⟨Ga (Yq s O O O) O,Ga (Yq s O O O) O,ø⟩ (Gb (u:=.vec 1060 data_q 1 data.length) O O ⟨Ga (G2 O O) O,ø⟩ (Gb (u:=I64 c.1) O O ⟨Ga (G2 O O) O,ø⟩ (Gb (u:=I64 a9) O O ⟨Ga (Yq c0 O O O) O,ø⟩ (Gb (u:=.vptr 1060 data_q a9.toNat 0) O O ⟨Ga (Y2 (f:=I64) (xs:=c.2) (y:=e) O O O O G7 t a4) O,ø⟩ (Gb (u:=I64 e) O O ⟨Ga (G41 (f:=I64) (xs:=c.2) (y:=e) Gh O O O t O O) O,ø⟩ (Gb (u:=.vec 1060 data_q 1 data.length) O O ⟨Ga (G2 O O) O,ø⟩ (Gb (u:=I64 c.1) O O ⟨Ga (G2 O O) O,ø⟩ (Gb (u:=.vptr 1060 data_q c.1.toNat 0) O O ⟨Ga (Y2 (f:=I64) (xs:=c.2) (y:=i) O O O O G7 v a5) O,ø⟩ (Gb (u:=I64 i) O O ⟨Ga (G41 (f:=I64) (xs:=c.2) (y:=i) Gh O O O v O O) O,ø⟩ ?_)))))))))))))
   refine Gb (u:=.vptr 1060 data_q c.1.toNat 0) O O ⟨Ga (Y2 (f:=I64) (xs:=c.2) (y:=d5) O O O O G7 w a6) O,ø⟩ (H0e (u:=.junk) O O O O (Ga (Ga2 (f:=I64) (xs:=c.2) (z:=e) G6e O O O O (Ew w).1 O O O O) O) (Gb (u:=.vptr 1060 data_q n.toNat 0) O O ⟨Ga (Y2 (f:=I64) (xs:=(c.2.set c.1.toNat e)) (y:=d6) O O O O G7 x a7) O,ø⟩ (H0e (u:=.junk) O O O O (Ga (Ga2 (f:=I64) (xs:=(c.2.set c.1.toNat e)) (z:=i) G6e O O O O (Ew x).1 O O O O) O) (Ru (b9 (G1 (JLm (I64 c.1) O ?_)))))))
   obtain⟨a2,c1,h⟩:=J6 h
   refine JLh (I64 a2) (Yq c1 O O O) O (JLm (I64 a2) O (G6 (d3 _ _ d4 (a2,((c.2.set c.1.toNat e).set n.toNat i)) (app1 b4 h) (by omega) ⟨⟨.same rfl,.same rfl,.same rfl,.same (Y8 _ _ cmp_d),.same rfl,.same rfl,ø⟩,⟨⟨_,rfl,.vec⟩,ø⟩,rfl⟩)))
  ·
   refine Hd (d0 (G1 (JLm (I64 d.1) O ?_)))
   obtain⟨a3,c2,h⟩:=J6 h
   refine JLh (I64 a3) (Hy c2 O O O) O (JLm (I64 a3) O (G6 (e3 _ _ m3 (a3,c.2) (app1 c7 h) (by omega) ⟨⟨.same rfl,.same rfl,.same rfl,.same (Y8 _ _ cmp_d),.same rfl,ø⟩,⟨⟨_,rfl,.vec⟩,ø⟩,rfl⟩)))
 ·
  refine Hd ?_
  obtain rfl:=Ey h
  exact⟨[],[(1060,.vec 3 1 data_q (d.2.map I64))],⟨⟨_,O,.vec⟩,ø⟩,O,ø,O,O⟩

def Z4 (F:Nat) (data:List Int) (a:Int) (b:Int) (limit:Int) (cmp:Int→Int→Option Int):Option (List Int):=
 loop (fun f (c:Int×Int×Int×Bool×Bool)=>
  chk (c.2.1 - c.1) fun d=>
  bif decide (d≤12) then
  (bnd (Rg F data c.1 c.2.1 cmp) fun e=>
   some e)
  else
  (bif decide (c.2.2.1=0) then
   (none)
   else
   (bif (!c.2.2.2.1) then
    (none)
    else
    (none)))) F (a,b,limit,true,true)
theorem G2f (F:Nat) (data:List Int) (data_q:Nat) (a:Int) (b:Int) (limit:Int) (cmp:Int→Int→Option Int) (cmp_f:FuncId) (cmp_c:List AV) (cmp_B:Hi E8 cmp_f=true) (cmp_d:Ry (fun _=>false) cmp_c=true) (cmp_w:∀ a0 a1 q,cmp a0 a1=some q→Pure E8 cmp_f ([I64 a0,I64 a1]++cmp_c) (·=I64 q)) (r:(List Int)) (h:Z4 F data a b limit cmp=some r):Jq E8 78 [.vec 1060 data_q 1 data.length,I64 a,I64 b,I64 limit,.fn cmp_f cmp_c] [(1060,.vec 3 1 data_q (data.map I64))] (fun av L'=>av=.tup []∧L'=[(1060,.vec 3 1 data_q (r.map I64))]):=by
 unfold Z4 at h
 refine Yv [1060] [] Try.func78 O O (H05 O) (Jr fun v=>(JLm (BL true) O (G6 (v (Jr fun w=>(JLm (BL true) O (G6 (w (Gg ?_)))))))))
 obtain⟨x,g,h⟩:=Zy h
 refine H7 (fun d (c:Int×Int×Int×Bool×Bool)=>loop x d c=some r) (fun d c=>[(0,.vec 1060 data_q 1 data.length),(1,I64 c.1),(2,I64 c.2.1),(3,I64 c.2.2.1),(4,.fn cmp_f cmp_c),(10,BL c.2.2.2.1),(11,BL c.2.2.2.2)]) (fun d c=>[(1060,.vec 3 1 data_q (data.map I64))]) (fun d=>d) F (a,b,limit,true,true) h ⟨⟨.same O,.same O,.same O,.same O,.same (Y8 _ _ cmp_d),.same O,.same O,ø⟩,⟨⟨_,O,.vec⟩,ø⟩,O⟩ ?_
 clear h
 intro d c i a5 a6
 obtain⟨a7,y,hm_23,z,h⟩:=Yx i
 replace h:=H3e g h
 refine Gg (Jr fun j=>(JLm (I64 c.2.1) O (JLm (I64 c.1) O ?_)))
 obtain⟨e,k,h⟩:=J6 h
 refine JLh (I64 e) (Yq k O O O) O (JLm (I64 e) O (G6 (j (Js fun l=>Jr fun m=>(JLm (I64 e) O (JLh (BL (decide (e≤12))) (Jb1 O O O) O (G6 (m (JCc O h (fun h hb=>?_) (fun h hb=>?_))))))))))
 ·
  refine Jr fun n=>(JLm (.vec 1060 data_q 1 data.length) O (JLm (I64 c.1) O (JLm (I64 c.2.1) O (JLm (.fn cmp_f cmp_c) O ?_))))
  obtain⟨f,o,h⟩:=Gc h
  refine JLh (.tup []) (H03 (args:=[.vec 1060 data_q 1 data.length,I64 c.1,I64 c.2.1,.fn cmp_f cmp_c]) (L0:=[(1060,.vec 3 1 data_q (data.map I64))]) (Lr:=[(1060,.vec 3 1 data_q (f.map I64))]) O (G07 F data data_q c.1 c.2.1 cmp cmp_f cmp_c cmp_B cmp_d cmp_w f o) Jc3 ⟨.inl O,O,.inl O,O,.inl O,O,.inl O,(Y8 _ _ cmp_d),ø⟩ ⟨O,ø⟩ O O O) O (G6 (n (H0 ?_)))
  obtain rfl:=Ey h
  exact⟨[],[(1060,.vec 3 1 data_q (f.map I64))],⟨⟨_,O,.vec⟩,ø⟩,O,ø,O,O⟩
 ·
  refine Gj (l (Js fun p=>Jr fun s=>(JLm (I64 c.2.2.1) O (JLh (BL (decide (c.2.2.1=0))) (Ya O O O) O (G6 (s (JCc O h (fun h hb=>?_) (fun h hb=>?_))))))))
  ·
   refine Js fun a2=>?_
   cases h
  ·
   refine Gj (p (Js fun t=>Jr fun u=>(JLm (BL c.2.2.2.1) O (JLh (BL (!c.2.2.2.1)) (Ym (b:=c.2.2.2.1) O O) O (G6 (u (JCc O h (fun h hb=>?_) (fun h hb=>?_))))))))
   ·
    refine Js fun a3=>?_
    cases h
   ·
    refine Gj (t (Js fun a4=>?_))
    cases h

def G1e (F:Nat) (x:List Int) (cmp:Int→Int→Option Int):Option (List Int):=
 bnd (G92 (IntKind.u64.wrap (x.length:Int))) fun a=>
 bnd (Z4 F x 0 (x.length:Int) a cmp) fun b=>
 some b
theorem G62 (F:Nat) (x:List Int) (x_q:Nat) (cmp:Int→Int→Option Int) (cmp_f:FuncId) (cmp_c:List AV) (cmp_B:Hi E8 cmp_f=true) (cmp_d:Ry (fun _=>false) cmp_c=true) (cmp_w:∀ a0 a1 q,cmp a0 a1=some q→Pure E8 cmp_f ([I64 a0,I64 a1]++cmp_c) (·=I64 q)) (r:(List Int)) (h:G1e F x cmp=some r):Jq E8 51 [.vec 1060 x_q 1 x.length,.fn cmp_f cmp_c] [(1060,.vec 3 1 x_q (x.map I64))] (fun av L'=>av=.tup []∧L'=[(1060,.vec 3 1 x_q (r.map I64))]):=by
 unfold G1e at h
 refine Yv [1060] [] Try.func51 O O (H05 O) (Jr fun c=>(JLm (.vec 1060 x_q 1 x.length) O (Gb4 (f:=I64) (xs:=x) G7 O O O (fun g=>?_) O O O)))
 refine JLm (E7 x.length) O (G6 (c (G1 (JLm (.vec 1060 x_q 1 x.length) O (JLm (E7 x.length) O (JLm (E7 x.length) O (JLh (.sc (.int .u64 (IntKind.u64.wrap (x.length:Int)))) (J26 Jc1 Hdd O O O) O ?_)))))))
 obtain⟨a,d,h⟩:=Gc h
 refine JLh (I64 a) (Gt O (H93 (IntKind.u64.wrap (x.length:Int)) a d) Jc8 ⟨O,O,ø⟩) O (JLm (.fn cmp_f cmp_c) O ?_)
 obtain⟨b,e,h⟩:=Gc h
 refine JLh (.tup []) (H03 (args:=[.vec 1060 x_q 1 x.length,I64 0,E7 x.length,I64 a,.fn cmp_f cmp_c]) (L0:=[(1060,.vec 3 1 x_q (x.map I64))]) (Lr:=[(1060,.vec 3 1 x_q (b.map I64))]) O (G2f F x x_q 0 (x.length:Int) a cmp cmp_f cmp_c cmp_B cmp_d cmp_w b e) Jc9 ⟨.inl O,O,.inl O,O,.inl O,O,.inl O,O,.inl O,(Y8 _ _ cmp_d),ø⟩ ⟨O,ø⟩ O O O) O (G6 ?_)
 obtain rfl:=Ey h
 exact⟨[],[(1060,.vec 3 1 x_q (b.map I64))],⟨⟨_,O,.vec⟩,ø⟩,O,ø,O,O⟩

def Rt (F:Nat) (y:Gp) (order:List Int):Option ((List G5)×Int):=
 bnd (Qx y order) fun j=>
 bif decide (j.2≠0) then
 (some ([],j.2))
 else
 (loop (fun k (b:(List G5)×(List (List Int))×Int)=>
   bnd (Ri (Gp.mk b.2.1 b.2.2) order) fun f=>
   bif decide ((f.length:Int)=0) then
   (some (b.1,0))
   else
   (bnd (G1e F f (fun z0 z1=>Zz z0 z1 order)) fun l=>
    each (fun g r (c:(List G5)) i=>
     jp (fun e=>
      bnd (G2d (Gp.mk b.2.1 b.2.2) g) fun a=>
      Qn b.2.1 a.1 fun m=>
      chk ((m.length:Int) - 1) fun n=>
      bif decide (a.2.1 < n) then
      (e ())
      else
      (bnd (Qd order g) fun o=>
       bnd (G93 (Gp.mk b.2.1 b.2.2) order a.1 o) fun d=>
       bif decide (0≤d) then
       (need (decide ((c.length+[(G5.mk a.1 d)].length)*16≤140737488355328∧c.length+[(G5.mk a.1 d)].length≤maxLen)) <|
        chk (((c++[(G5.mk a.1 d)]).length:Int) - 1) fun p=>
        Qn (c++[(G5.mk a.1 d)]) p fun q=>
        bnd (Gfe (Gp.mk b.2.1 b.2.2) q) fun h=>
        k ((c++[(G5.mk a.1 d)]),h.1.Stacks,h.1.Height))
       else
       (e ()))) fun(s:Unit)=>
     i c)
    (fun(c:(List G5))=>
     some ([],360)) l 0 b.1)) F ([],y.Stacks,y.Height))
theorem Z0 (F:Nat) (y:Gp) (order:List Int) (r:(List G5)×Int) (h:Rt F y order=some r):Pure E8 25 [.agg [LS 1 (E1) y.Stacks,I64 y.Height],E1 order] (·=.tup [E2 r.1,I64 r.2]):=by
 unfold Rt at h
 refine Hb [.tmp 4,.tmp 5] Try.func25 O O (Jr fun e0=>(JLh (.ptr 1034 0) (Q5 (cs:=[LS 1 (E1) y.Stacks,I64 y.Height]) 1034 O O O O O) O (JLh (.ptr 1035 0) (Q5 (cs:=[E1 order]) 1035 O O O O O) O (JLh (E2 ([]:List G5)) (Jk 2 O O) O (JLm (I64 0) O (G6 (e0 (H5 [(2,.ptr 1034 0),(3,.dptr [E1 order])] [(1034,.box 24 [LS 1 (E1) y.Stacks,I64 y.Height])] 1035 rfl rfl rfl ⟨⟨_,rfl,.boxEq rfl rfl⟩,ø⟩ rfl (by exact⟨.conv (.same rfl),.ptr,ø⟩) (Ja8 (Js fun e1=>Jr fun e2=>(JLh (.agg [LS 1 (E1) y.Stacks,I64 y.Height]) (Jf Hj O O O O) O (JLh (E1 order) (Gm H4 O O O) O ?_))))))))))))
 obtain⟨m,e3,h⟩:=Gc h
 refine JLh (.tup [I64 m.1,I64 m.2]) (Gt O (Zb y order m e3) Ga9 ⟨O,O,O,O,ø⟩) O (JLm (.tup [I64 m.1,I64 m.2]) O (JLh (I64 m.1) (Gv O O O) O (JLh (I64 m.2) (Gv O O O) O (JLm (I64 m.1) O (JLm (I64 m.2) O (G6 (e2 (Jr fun e4=>(JLm (I64 m.2) O (JLh (BL (decide (m.2≠0))) (G16 O O O) O (G6 (e4 (JCc O h (fun h hb=>?_) (fun h hb=>?_))))))))))))))
 ·
  refine Jr fun e5=>(JLm (I64 m.2) O (JLh (E2 ([]:List G5)) (Jk 2 O O) O (JLm (I64 m.2) O (G6 (e5 (H5 [(4,E2 ([]:List G5)),(5,I64 m.2)] [] 1034 rfl rfl rfl ø rfl (by exact⟨.conv (.same rfl),.conv (.same rfl),ø⟩) (H0 (⟨[E2 ([]:List G5),I64 m.2],[],ø,O,⟨⟨_,O,.conv (.same O)⟩,⟨_,O,.conv (.same O)⟩,ø⟩,O,congrArg (fun r:(List G5)×Int=>(.tup [E2 r.1,I64 r.2]:AV)) (Ey h)⟩))))))))
 ·
  refine Gj (e1 (Jr fun e6=>(JLh (OW 1036 2 G5.av ([]:List G5)) (Ge4 1036 39 2 O O O) O (G6 (e6 (Js fun e7=>Ja9 (e7 (Gg ?_))))))))
  obtain⟨b9,e8,h⟩:=Zy h
  refine H7 (fun t (b:(List G5)×(List (List Int))×Int)=>loop b9 t b=some r) (fun t b=>[(2,.ptr 1034 0),(3,.dptr [E1 order]),(8,OW 1036 2 G5.av b.1)]) (fun t b=>[(1036,.spare 39 2 b.1.length b.1.length),(1034,.box 24 [LS 1 (E1) b.2.1,I64 b.2.2])]) (fun t=>t) F ([],y.Stacks,y.Height) h ⟨(.sm O O),⟨⟨_,O,.same⟩,⟨_,O,.boxL O (.sm O O)⟩,ø⟩,O⟩ ?_
  clear h
  intro t b f0 K9 e9
  obtain⟨m9,g1,hm_9,f1,h⟩:=Yx f0
  replace h:=H3e e8 h
  refine Gg (Jr fun a3=>(JLh (.agg [LS 1 (E1) b.2.1,I64 b.2.2]) (Jf Hj O O O O) O (JLh (E1 order) (Gm H4 O O O) O ?_)))
  obtain⟨j,a4,h⟩:=Gc h
  refine G64 O O O (G67 (args:=[.agg [LS 1 (E1) b.2.1,I64 b.2.2],E1 order]) (L0:=[]) (u:=fun p=>.vec 1060 p 1 j.length) (Lr:=fun p=>[(1060,.vec 3 1 p (j.map I64))]) O (Hd0 (Gp.mk b.2.1 b.2.2) order j a4) H50 ⟨.inl O,O,.inl O,O,ø⟩ ø O (fun _=>O)) ?_
  rintro u_ L_ ⟨e,rfl,rfl⟩
  refine JLm (.vec 1060 e 1 j.length) O (G6 (a3 (Js fun a5=>Jr fun a6=>(JLm (.vec 1060 e 1 j.length) O (Gb4 (f:=I64) (xs:=j) G7 O O O (fun f8=>?_) O O O)))))
  refine JLh (BL (decide ((j.length:Int)=0))) (Ya O O O) O (G6 (a6 (JCc O h (fun h hb=>?_) (fun h hb=>?_))))
  ·
   refine Jr fun a7=>(JLm (OW 1036 2 G5.av b.1) O (JLm (OW 1036 2 G5.av b.1) O (JLm (I64 0) O (G6 (a7 (H5 [(4,OW 1036 2 G5.av b.1),(5,I64 0)] [(1036,.spare 39 2 b.1.length b.1.length),(1060,.vec 3 1 e (j.map I64))] 1034 rfl rfl rfl ⟨⟨_,rfl,.same⟩,⟨_,rfl,.vec⟩,ø⟩ rfl (by exact⟨.conv (.same rfl),.conv (.same rfl),ø⟩) (H0 (⟨[E2 b.1,I64 0],[],ø,O,⟨⟨_,O,.conv (.list O)⟩,⟨_,O,.conv (.same O)⟩,ø⟩,O,congrArg (fun r:(List G5)×Int=>(.tup [E2 r.1,I64 r.2]:AV)) (Ey h)⟩))))))))
  ·
   refine Gj (a5 (Jr fun a8=>(JLm (.vec 1060 e 1 j.length) O (JLh (.fn 52 [.dptr [E1 order]]) (J23 (cs:=[.dptr [E1 order]]) O O) O ?_))))
   obtain⟨g,a9,h⟩:=Gc h
   refine JLh (.tup []) (H03 (args:=[.vec 1060 e 1 j.length,.fn 52 [.dptr [E1 order]]]) (L0:=[(1060,.vec 3 1 e (j.map I64))]) (Lr:=[(1060,.vec 3 1 e (g.map I64))]) O (G62 F j e (fun z0 z1=>Zz z0 z1 order) 52 [.dptr [E1 order]] Jd4 O (fun z0 z1 q hq=>H0d z0 z1 order q hq) g a9) Jd5 ⟨.inl O,O,.inl O,O,ø⟩ ⟨O,ø⟩ O O O) O (G6 (a8 (Js fun b0=>Jr fun b1=>(JLm (.vec 1060 e 1 j.length) O (Gb4 (f:=I64) (xs:=g) G7 O O O (fun b2=>?_) O O O)))))
   refine JLm (I64 0) O (G6 (b1 (Gg ?_)))
   obtain⟨f2,b3,b4,a0,h⟩:=J4 h
   refine H7 (fun k (c:(List G5))=>each f2 b3 (List.drop k g) k c=some r) (fun k c=>[(2,.ptr 1034 0),(3,.dptr [E1 order]),(8,OW 1036 2 G5.av c),(35,.vec 1060 e 1 j.length),(36,E7 g.length),(37,E7 k)]) (fun k c=>[(1036,.spare 39 2 c.length c.length),(1060,.vec 3 1 e (g.map I64)),(1034,.box 24 [LS 1 (E1) b.2.1,I64 b.2.2])]) (fun k=>g.length - k) 0 b.1 h ⟨(.sm O O),⟨⟨_,rfl,.same⟩,⟨_,rfl,.vec⟩,fbQ O (.sm O O),ø⟩,rfl⟩ ?_
   clear h
   intro k c v g2 f3
   refine Jr fun b5=>(JLh (BL (decide ((k:Int) < (g.length:Int)))) (Hx O O O) O (G6 (b5 (Js fun b6=>Gi O (fun hb=>?_) (fun hb=>?_)))))
   ·
    have w:=Jo hb
    obtain⟨l,f9,x,b7,h⟩:=Hq v w
    replace h:=Yn b4 h
    refine Gj (b6 ?_)
    obtain⟨b8,a1,h⟩:=G0e h
    refine Zd (fun o:Unit=>b8 o=some r) (fun o=>[(2,.ptr 1034 0),(3,.dptr [E1 order]),(8,OW 1036 2 G5.av c),(35,.vec 1060 e 1 j.length),(36,E7 g.length),(37,E7 k)]) (fun o=>[(1036,.spare 39 2 c.length c.length),(1060,.vec 3 1 e (g.map I64)),(1034,.box 24 [LS 1 (E1) b.2.1,I64 b.2.2])]) (fun Kj75 ej75=>?_) ?_
    ·
     refine Gg (Jr fun c0=>(JLh (.vptr 1060 e k 0) (Y2 (f:=I64) (xs:=g) (y:=l) O O O O G7 x O) O (JLh (I64 l) (G41 (f:=I64) (xs:=g) (y:=l) Gh O O O x O O) O (JLm (I64 l) O (G6 (c0 (Jr fun c1=>(JLh (.agg [LS 1 (E1) b.2.1,I64 b.2.2]) (Jf Hj O O O O) O (JLm (I64 l) O ?_)))))))))
     obtain⟨a,c2,h⟩:=Gc h
     refine JLh (.tup [I64 a.1,I64 a.2.1,BL a.2.2]) (Gt O (Gd3 (Gp.mk b.2.1 b.2.2) l a c2) H4f ⟨O,O,O,O,ø⟩) O (JLm (.tup [I64 a.1,I64 a.2.1,BL a.2.2]) O (JLh (I64 a.1) (Gv O O O) O (JLh (I64 a.2.1) (Gv O O O) O (JLh (BL a.2.2) (Gv O O O) O (JLm (I64 a.1) O (JLm (I64 a.2.1) O (JLm (BL a.2.2) O (G6 (c1 (Js fun c3=>Jr fun c4=>(JLm (I64 a.2.1) O (JLh (.ptr 1034 0) (Hu Hv O O) O (JLh (LS 1 (E1) b.2.1) (Ht Gr O O O O) O (JLm (I64 a.1) O ?_))))))))))))))
     obtain⟨g3,z,c5,c6,h⟩:=R6 h
     refine JLh (.dptr [E1 z]) (Gz (f:=(E1)) (xs:=b.2.1) (y:=z) O O O Gf c6 c5) O (JLh (E1 z) (Gm H4 O O O) O (JLl G7 O O O fun g0=>?_))
     obtain⟨a2,c7,h⟩:=J6 h
     refine JLh (I64 a2) (Yq c7 O O O) O (JLh (BL (decide (a.2.1 < a2))) (Hx O O O) O (G6 (c4 (JCc O h (fun h hb=>?_) (fun h hb=>?_)))))
     ·
      refine Hd (ej75 _ _ () h ⟨(.sm O O),⟨⟨_,rfl,.same⟩,⟨_,rfl,.vec⟩,fbQ O (.sm O O),ø⟩,rfl⟩)
     ·
      refine Gj (c3 (Js fun c8=>Qz (l':=[(2,.ptr 1034 0),(3,.dptr [E1 order]),(8,OW 1036 2 G5.av c),(11,I64 l),(12,I64 a.1),(35,.vec 1060 e 1 j.length),(36,E7 g.length),(37,E7 k)]) (L':=[(1036,.spare 39 2 c.length c.length),(1060,.vec 3 1 e (g.map I64)),(1034,.box 24 [LS 1 (E1) b.2.1,I64 b.2.2])]) ⟨(.sm O O),⟨⟨_,rfl,.same⟩,⟨_,rfl,.vec⟩,fbQ O (.sm O O),ø⟩,rfl⟩ ?_))
      obtain⟨s,c9,h⟩:=Gc h
      obtain⟨d,d0,h⟩:=Gc h
      refine JC_d0 Jg (by kernel_rfl) (Dq (.agg [LS 1 (E1) b.2.1,I64 b.2.2]) (Jf Hj O O O O) O (Dq (E1 order) (Gm H4 O O O) O (Dq (I64 a.1) (G2 O O) O (Dq (E1 order) (Gm H4 O O O) O (Dq (I64 l) (G2 O O) O (Dq (I64 s) (Gt (args:=[E1 order,I64 l]) O (Rs order l s c9) G46 ⟨O,O,O,O,ø⟩) O (Dq (I64 d) (Gt (args:=[.agg [LS 1 (E1) b.2.1,I64 b.2.2],E1 order,I64 a.1,I64 s]) O (H94 (Gp.mk b.2.1 b.2.2) order a.1 s d d0) Jd2 ⟨O,O,O,O,O,O,O,O,ø⟩) O (Dq (I64 d) (G4 O O) O (Dnil (c8 (Jr fun d1=>(JLm (I64 d) O (JLh (BL (decide (0≤d))) (G56 O O O) O (G6 (d1 (JCc O h (fun h hb=>?_) (fun h hb=>?_)))))))))))))))))
      ·
       refine Jr fun d2=>(JLm (OW 1036 2 G5.av c) O (JLm (I64 a.1) O (JLm (I64 d) O (JLh (.agg [I64 a.1,I64 d]) (Jm (cs:=[I64 a.1,I64 d]) [(0,1),(1,1)] [I64 0,I64 0] [E0,E0] G30 G6d (zzQ O) O O) O (JLh (E2 [(G5.mk a.1 d)]) (H9 (xs:=[.agg [I64 a.1,I64 d]]) O ⟨O,O,ø⟩ Ja G4b O O O O) O ?_)))))
       obtain⟨d3,h⟩:=J3 h
       refine JLh (OW 1036 2 G5.av (c++[(G5.mk a.1 d)])) (Rw (f:=G5.av) (xs:=c) (ys:=[(G5.mk a.1 d)]) O O O O Ja Ge9 d3 (fun _=>O) (.inl O) O) O (JLm (OW 1036 2 G5.av (c++[(G5.mk a.1 d)])) O (G6 (d2 (Js fun d4=>Qz (l':=[(2,.ptr 1034 0),(3,.dptr [E1 order]),(8,OW 1036 2 G5.av (c++[(G5.mk a.1 d)]))]) (L':=[(1036,.spare 39 2 (c++[(G5.mk a.1 d)]).length (c++[(G5.mk a.1 d)]).length),(1060,.vec 3 1 e (g.map I64)),(1034,.box 24 [LS 1 (E1) b.2.1,I64 b.2.2])]) ⟨(.sm O O),⟨⟨_,O,.same⟩,⟨_,O,.vec⟩,⟨_,O,.boxL O (.sm O O)⟩,ø⟩,O⟩ ?_))))
       obtain⟨f4,d5,h⟩:=J6 h
       obtain⟨g4,n,d6,d7,h⟩:=R6 h
       obtain⟨i,d8,h⟩:=Gc h
       refine Ju [11] (.replicate 12 0) [0,0,0,0,0,0,0,0,0,0,1,0] [[(1036,.spare 39 2 (c++[(G5.mk a.1 d)]).length (c++[(G5.mk a.1 d)]).length),(1060,.vec 3 1 e (g.map I64)),(1034,.box 24 [LS 1 (E1) b.2.1,I64 b.2.2])],((1034,.box 24 [LS 1 (E1) i.1.Stacks,I64 i.1.Height])::[(1036,.spare 39 2 (c++[(G5.mk a.1 d)]).length (c++[(G5.mk a.1 d)]).length),(1060,.vec 3 1 e (g.map I64)),(1034,.box 24 [LS 1 (E1) b.2.1,I64 b.2.2])])] Jg (by kernel_rfl) rfl rfl ?_
       refine Gb (u:=.agg [LS 1 (E1) b.2.1,I64 b.2.2]) O O ⟨Ga (Jf Hj O O O O) O,ø⟩ (Gb (u:=OW 1036 2 G5.av (c++[(G5.mk a.1 d)])) O O ⟨Ga (G2 O O) O,ø⟩ (Gb (u:=OW 1036 2 G5.av (c++[(G5.mk a.1 d)])) O O ⟨Ga (G2 O O) O,ø⟩ (Gb (u:=I64 ((c++[(G5.mk a.1 d)]).length:Int)) O O ⟨Ga (Q7 (f:=G5.av) (xs:=(c++[(G5.mk a.1 d)])) Ja O O) O,ø⟩ (Gb (u:=I64 f4) O O ⟨Ga (Yq d5 O O O) O,ø⟩ (Gb (u:=.dptr [I64 n.From,I64 n.To]) O O ⟨Ga (Gz (f:=G5.av) (xs:=(c++[(G5.mk a.1 d)])) (y:=n) O O O Ja d7 d6) O,ø⟩ (Gb (u:=.agg [I64 n.From,I64 n.To]) O O ⟨Ga (Gu G4e O O O) O,ø⟩ (Gb (u:=.tup [.agg [LS 1 (E1) i.1.Stacks,I64 i.1.Height],I64 i.2]) O O ⟨Ga (Gt O (J17.down (Gp.mk b.2.1 b.2.2) n i d8) Je1 ⟨O,O,O,O,ø⟩) O,ø⟩ (Gb (u:=.tup [.agg [LS 1 (E1) i.1.Stacks,I64 i.1.Height],I64 i.2]) O O ⟨Ga (G2 O O) O,ø⟩ (Gb (u:=.agg [LS 1 (E1) i.1.Stacks,I64 i.1.Height]) O O ⟨Ga (Gv O O O) O,ø⟩ (Gb (u:=I64 i.2) O O ⟨Ga (Gv O O O) O,Ga (Gv O O O) O,ø⟩ (H0e (u:=.junk) O O O O (Ga (Hp (u:=.agg [LS 1 (E1) i.1.Stacks,I64 i.1.Height]) (ds:=[LS 1 (E1) i.1.Stacks,I64 i.1.Height]) G0c O O O O O O O O) O) (Ru ?_))))))))))))
       refine d4 (Hd (e9 _ _ m9 ((c++[(G5.mk a.1 d)]),i.1.Stacks,i.1.Height) (app1 f1 h) (by omega) ⟨(.sm O O),⟨⟨_,rfl,.same⟩,fbQ O (.sm O O),ø⟩,rfl⟩))
      ·
       refine Gj (ej75 _ _ () h ⟨(.sm O O),⟨⟨_,rfl,.same⟩,⟨_,rfl,.vec⟩,fbQ O (.sm O O),ø⟩,rfl⟩)
    ·intro o h
     replace h:=app1 a1 h
     refine G1 (JLh (I64 ((k+1:Nat):Int)) (Hy (Hk w b2) O O O) O (JLm (I64 ((k+1:Nat):Int)) O (G6 (f3 _ _ (k+1) c (app1 b7 h) (by omega) ⟨(.sm O O),⟨⟨_,rfl,.same⟩,⟨_,rfl,.vec⟩,fbQ O (.sm O O),ø⟩,rfl⟩))))
   ·
    have h:=app1 a0 (Hr v (Ha hb))
    refine Hd (b0 (Jr fun d9=>(JLh (E2 ([]:List G5)) (Jk 2 O O) O (JLm (I64 360) O (G6 (d9 (H5 [(4,E2 ([]:List G5)),(5,I64 360)] [(1036,.spare 39 2 c.length c.length),(1060,.vec 3 1 e (g.map I64))] 1034 rfl rfl rfl ⟨⟨_,rfl,.same⟩,⟨_,rfl,.vec⟩,ø⟩ rfl (by exact⟨.conv (.same rfl),.conv (.same rfl),ø⟩) (H0 (⟨[E2 ([]:List G5),I64 360],[],ø,O,⟨⟨_,O,.conv (.same O)⟩,⟨_,O,.conv (.same O)⟩,ø⟩,O,congrArg (fun r:(List G5)×Int=>(.tup [E2 r.1,I64 r.2]:AV)) (Ey h)⟩)))))))))

def Jw (a:List Int) (b:List Int):Option Bool:=
 bif decide ((a.length:Int)≠(b.length:Int)) then
 (some false)
 else
 (each (fun d e (f:Unit) c=>
   Qn b (e:Int) fun g=>
   bif decide (d≠g) then
   (some false)
   else
   (c ()))
  (fun(f:Unit)=>
   some true) a 0 ())
theorem Zg (a:List Int) (b:List Int) (r:Bool) (h:Jw a b=some r):Pure E8 36 [E1 a,E1 b] (·=BL r):=by
 unfold Jw at h
 refine Hb [.tmp 4] Try.func36 O O (Jr fun a0=>(JLm (BL false) O (G6 (a0 (Js fun a1=>Jr fun a2=>(JLm (E1 a) O (JLl G7 O O O fun a9=>(JLm (E1 b) O (JLl G7 O O O fun b0=>(JLh (BL (decide ((a.length:Int)≠(b.length:Int)))) (G16 O O O) O (G6 (a2 (JCc O h (fun h hb=>?_) (fun h hb=>?_))))))))))))))
 ·
  refine Jr fun a3=>(JLm (BL false) O (G6 (a3 (H0 (fin1 BL h)))))
 ·
  refine Gj (a1 (Js fun a4=>Jr fun a5=>(JLm (I64 0) O (G6 (a5 (Gg ?_))))))
  obtain⟨a6,l,m,k,h⟩:=J4 h
  refine H7 (fun c (d:Unit)=>each a6 l (List.drop c a) c d=some r) (fun c d=>[(0,E1 a),(1,E1 b),(5,E7 c)]) (fun c d=>[]) (fun c=>a.length - c) 0 () h ⟨(.sm O O),ø,O⟩ ?_
  clear h
  intro c d i b1 a7
  refine Js fun n=>Jr fun o=>(JLm (E7 c) O (JLm (E1 a) O (JLl G7 O O O fun p=>(JLh (BL (decide ((c:Int) < (a.length:Int)))) (Hx O O O) O (G6 (o (Gi O (fun hb=>?_) (fun hb=>?_))))))))
  ·
   have j:=Jo hb
   obtain⟨e,a8,q,s,h⟩:=Hq i j
   replace h:=Yn m h
   refine Gj (n (Js fun t=>Gg (Js fun u=>?_)))
   obtain⟨b2,g,v,w,h⟩:=R6 h
   refine JC_d0 Jg (by kernel_rfl) (Dq (E1 a) (G2 O O) O (Dq (E7 c) (G2 O O) O (Dq (.dptr [I64 e]) (Gz (f:=I64) (xs:=a) (y:=e) O O O G7 q O) O (Dq (I64 e) (Gm Gh O O O) O (Dq (E1 b) (G2 O O) O (Dq (E7 c) (G2 O O) O (Dq (.dptr [I64 g]) (Gz (f:=I64) (xs:=b) (y:=g) O O O G7 w v) O (Dq (I64 g) (Gm Gh O O O) O (Dq (BL (decide (e≠g))) (G16 O O O) O (Dnil (u (JCc O h (fun h hb=>?_) (fun h hb=>?_)))))))))))))
   ·
    refine Jr fun x=>(JLm (BL false) O (G6 (x (H0 (fin1 BL h)))))
   ·
    refine Gj (t (G1 (JLm (E7 c) O (JLh (I64 ((c+1:Nat):Int)) (Hy (Hk j p) O O O) O (JLm (I64 ((c+1:Nat):Int)) O (G6 (a7 _ _ (c+1) () (app1 s h) (by omega) ⟨(.sm O O),ø,rfl⟩)))))))
  ·
   have h:=app1 k (Hr i (Ha hb))
   refine Hd (a4 (Jr fun z=>(JLm (BL true) O (G6 (z (H0 (fin1 BL h)))))))

def Qc (F:Nat) :Option Bool:=
 bnd (G7f (Gp.mk ([[1,3,2],[4],[]]) 3) [1,2,3,4]) fun g=>
 bnd (Rt F (Gp.mk ([[1,3,2],[4],[]]) 3) [1,2,3,4]) fun f=>
 bnd (Qe F (Gp.mk ([[1,3,2],[4],[]]) 3) [1,2,3,4]) fun h=>
 bnd (Yu (Gp.mk ([[1,3,2],[4],[]]) 3) [1,2,3,4] f.1) fun b=>
 bnd (Jw g.1 [2,3]) fun a=>
 bnd (bif (!(!a)) then Jn f.1 [(G5.mk 0 1),(G5.mk 0 2)] else some default) fun c=>
 bnd (bif (!((!a)||(!c))) then Jn h.1 [(G5.mk 0 1),(G5.mk 0 2)] else some default) fun d=>
 bnd (bif (!((((!a)||(!c))||(!d))||(!b.1))) then chk (g.2+f.2) some else some 0) fun i=>
 bnd (bif (!((((!a)||(!c))||(!d))||(!b.1))) then chk (i+h.2) some else some 0) fun j=>
 bnd (bif (!((((!a)||(!c))||(!d))||(!b.1))) then chk (j+b.2) some else some 0) fun k=>
 bif (((((!a)||(!c))||(!d))||(!b.1))||(decide (k≠0))) then
 (some false)
 else
 (bnd (Rt F (Gp.mk ([[1,2],[3,4]]) 2) [1,2,3,4]) fun l=>
  bnd (Qe F (Gp.mk ([[1,2],[3,4]]) 2) [1,2,3,4]) fun m=>
  bnd (Rn 3 [1,2,3,4].length) fun n=>
  bnd (Rt F (Gp.mk ([[1,3],[2]]) 2) ([1,2,3,4].take n)) fun o=>
  bnd (Rn 3 [1,2,3,4].length) fun p=>
  bnd (Qe F (Gp.mk ([[1,3],[2]]) 2) ([1,2,3,4].take p)) fun q=>
  bif ((((decide (l.2≠360))||(decide (m.2≠6)))||(decide (o.2≠360)))||(decide (q.2≠6))) then
  (some false)
  else
  (bnd (Rt F (Gp.mk ([[1,3],[2,4],[]]) 2) [1,2,3,4]) fun e=>
   bnd (bif decide (e.2=0) then Jn e.1 [(G5.mk 1 2),(G5.mk 0 2)] else some default) fun r=>
   some ((decide (e.2=0))&&r)))
theorem Zx (F:Nat)  (r:Bool) (h:Qc F =some r):Pure E8 12 [] (·=BL r):=by
 unfold Qc at h
 refine Hb [.tmp 0] Try.func12 O O (Jr fun c6=>(JLm (BL false) O (G6 (c6 ?_))))
 refine Jr fun c7=>(JLh (E1 [1,3,2]) (H9 (xs:=[I64 1,I64 3,I64 2]) O ⟨O,O,O,O,O,O,ø⟩ G7 Je O O O O) O (JLh (E1 [4]) (H9 (xs:=[I64 4]) O ⟨O,O,ø⟩ G7 Je O O O O) O (JLh (LS 1 (E1) ([[1,3,2],[4],[]])) (H48 (xs:=[E1 [1,3,2],E1 [4],E1 ([]:List Int)]) O ⟨.inl O,O,.inl O,O,.inr ⟨_,O,O⟩,O,ø⟩ Gf Z7 O O O O) O (JLh (.agg [LS 1 (E1) ([[1,3,2],[4],[]]),I64 3]) (Jm (cs:=[LS 1 (E1) ([[1,3,2],[4],[]]),I64 3]) [(0,1),(1,1)] [LS 1 (E1) ([]:List (List Int)),I64 0] [.slice none 0 0,E0] G9b Ga5 ⟨.inr ⟨_,O,O⟩,.inl O,ø⟩ O O) O (JLh (.ptr 1009 0) (Jh 1009 2 G24 O O) O (J9 (u:=.junk) (Hp (u:=.agg [LS 1 (E1) ([[1,3,2],[4],[]]),I64 3]) (ds:=[LS 1 (E1) ([[1,3,2],[4],[]]),I64 3]) G0c O O O O O O O O) (G6 (c7 ?_))))))))
 refine H5 [(1,.dptr [LS 1 (E1) ([[1,3,2],[4],[]]),I64 3])] [] 1009 rfl rfl rfl ø rfl (by exact⟨.ptr,ø⟩) (Jr fun c8=>(JLh (E1 [1,2,3,4]) (H9 (xs:=[I64 1,I64 2,I64 3,I64 4]) O ⟨O,O,O,O,O,O,O,O,ø⟩ G7 Je O O O O) O (JLm (E1 [1,2,3,4]) O (G6 (c8 (Jr fun c9=>(JLh (.agg [LS 1 (E1) ([[1,3,2],[4],[]]),I64 3]) (Gu Hj O O O) O (JLm (E1 [1,2,3,4]) O ?_))))))))
 obtain⟨o,d0,h⟩:=Gc h
 refine JLh (.tup [E1 o.1,I64 o.2]) (Gt O (H07 (Gp.mk ([[1,3,2],[4],[]]) 3) [1,2,3,4] o d0) Hed ⟨O,O,O,O,ø⟩) O (JLm (.tup [E1 o.1,I64 o.2]) O (JLh (E1 o.1) (Gv O O O) O (JLh (I64 o.2) (Gv O O O) O (JLm (E1 o.1) O (JLm (I64 o.2) O (G6 (c9 (Jr fun d1=>(JLh (.agg [LS 1 (E1) ([[1,3,2],[4],[]]),I64 3]) (Gu Hj O O O) O (JLm (E1 [1,2,3,4]) O ?_))))))))))
 obtain⟨l,d2,h⟩:=Gc h
 refine JLh (.tup [E2 l.1,I64 l.2]) (Gt O (Z0 F (Gp.mk ([[1,3,2],[4],[]]) 3) [1,2,3,4] l d2) Gaa ⟨O,O,O,O,ø⟩) O (JLm (.tup [E2 l.1,I64 l.2]) O (JLh (E2 l.1) (Gv O O O) O (JLh (I64 l.2) (Gv O O O) O (JLm (E2 l.1) O (JLm (I64 l.2) O (G6 (d1 (Jr fun d3=>(JLh (.agg [LS 1 (E1) ([[1,3,2],[4],[]]),I64 3]) (Gu Hj O O O) O (JLm (E1 [1,2,3,4]) O ?_))))))))))
 obtain⟨n,d4,h⟩:=Gc h
 refine JLh (.tup [E2 n.1,I64 n.2]) (Gt O (G20 F (Gp.mk ([[1,3,2],[4],[]]) 3) [1,2,3,4] n d4) Gef ⟨O,O,O,O,ø⟩) O (JLm (.tup [E2 n.1,I64 n.2]) O (JLh (E2 n.1) (Gv O O O) O (JLh (I64 n.2) (Gv O O O) O (JLm (E2 n.1) O (JLm (I64 n.2) O (G6 (d3 (Jr fun v=>(JLh (.agg [LS 1 (E1) ([[1,3,2],[4],[]]),I64 3]) (Gu Hj O O O) O (JLm (E1 [1,2,3,4]) O (JLm (E2 l.1) O ?_)))))))))))
 obtain⟨d,w,h⟩:=Gc h
 refine JLh (.tup [BL d.1,I64 d.2]) (Gt O (Gca (Gp.mk ([[1,3,2],[4],[]]) 3) [1,2,3,4] l.1 d w) Hec ⟨O,O,O,O,O,O,ø⟩) O (JLm (.tup [BL d.1,I64 d.2]) O (JLh (BL d.1) (Gv O O O) O (JLh (I64 d.2) (Gv O O O) O (JLm (BL d.1) O (JLm (I64 d.2) O (G6 (v ?_)))))))
 refine Jr fun x=>(JLh (.agg [I64 0,I64 1]) (Jm (cs:=[I64 0,I64 1]) [(0,1),(1,1)] [I64 0,I64 0] [E0,E0] G30 G6d (zzQ O) O O) O (JLh (.agg [I64 0,I64 2]) (Jm (cs:=[I64 0,I64 2]) [(0,1),(1,1)] [I64 0,I64 0] [E0,E0] G30 G6d (zzQ O) O O) O (JLh (E2 [(G5.mk 0 1),(G5.mk 0 2)]) (H9 (xs:=[.agg [I64 0,I64 1],.agg [I64 0,I64 2]]) O ⟨O,O,O,O,ø⟩ Ja G4b O O O O) O (JLm (E2 [(G5.mk 0 1),(G5.mk 0 2)]) O (G6 (x (Js fun y=>Jr fun z=>(JLm (E1 o.1) O (JLh (E1 [2,3]) (H9 (xs:=[I64 2,I64 3]) O ⟨O,O,O,O,ø⟩ G7 Je O O O O) O ?_)))))))))
 obtain⟨i,a0,h⟩:=Gc h
 refine JLh (BL i) (Gt O (Zg o.1 [2,3] i a0) H51 ⟨O,O,O,O,ø⟩) O (JLh (BL (!i)) (Ym (b:=i) O O) O (JLm (BL (!i)) O (JLo (E2 l.1) [] O .scf ø (fun hc=>G2 O O) O (JLo (E2 [(G5.mk 0 1),(G5.mk 0 2)]) [] O .scf ø (fun hc=>G2 O O) O ?_))))
 obtain⟨j,a1,h⟩:=Gc h
 refine JLo (BL j) [52,53] O .scf ⟨Ua,Ua,ø⟩ (fun hc=>Gt (args:=[E2 l.1,E2 [(G5.mk 0 1),(G5.mk 0 2)]]) O (Qo l.1 [(G5.mk 0 1),(G5.mk 0 2)] j (H1 hc a1)) G6f ⟨O,O,O,O,ø⟩) O (JLo (BL (!j)) [54] O .scf ⟨Ua,ø⟩ (fun hc=>Ym (b:=j) O O) O (JLh (BL ((!i)||(!j))) (Z6 O O O O) O (JLm (BL ((!i)||(!j))) O (JLo (E2 n.1) [] O .scf ø (fun hc=>G2 O O) O (JLo (E2 [(G5.mk 0 1),(G5.mk 0 2)]) [] O .scf ø (fun hc=>G2 O O) O ?_)))))
 obtain⟨m,a2,h⟩:=Gc h
 refine JLo (BL m) [58,59] O .scf ⟨Ua,Ua,ø⟩ (fun hc=>Gt (args:=[E2 n.1,E2 [(G5.mk 0 1),(G5.mk 0 2)]]) O (Qo n.1 [(G5.mk 0 1),(G5.mk 0 2)] m (H1 hc a2)) G6f ⟨O,O,O,O,ø⟩) O (JLo (BL (!m)) [60] O .scf ⟨Ua,ø⟩ (fun hc=>Ym (b:=m) O O) O (JLh (BL (((!i)||(!j))||(!m))) (Z6 O O O O) O (JLm (BL (((!i)||(!j))||(!m))) O (JLo (BL d.1) [] O .scf ø (fun hc=>G2 O O) O (JLo (BL (!d.1)) [64] O .scf ⟨Ua,ø⟩ (fun hc=>Ym (b:=d.1) O O) O (JLh (BL ((((!i)||(!j))||(!m))||(!d.1))) (Z6 O O O O) O (JLm (BL ((((!i)||(!j))||(!m))||(!d.1))) O (JLo (I64 o.2) [] O .scf ø (fun hc=>G2 O O) O (JLo (I64 l.2) [] O .scf ø (fun hc=>G2 O O) O ?_)))))))))
 obtain⟨d5,a3,h⟩:=Gc h
 refine JLo (I64 d5) [68,69] O .scf ⟨Ua,Ua,ø⟩ (fun hc=>Hy (G89 (H1 hc a3)) O O O) O (JLo (I64 n.2) [] O .scf ø (fun hc=>G2 O O) O ?_)
 obtain⟨d6,a4,h⟩:=Gc h
 refine JLo (I64 d6) [70,71] O .scf ⟨Ua,Ua,ø⟩ (fun hc=>Hy (G89 (H1 hc a4)) O O O) O (JLo (I64 d.2) [] O .scf ø (fun hc=>G2 O O) O ?_)
 obtain⟨q,a5,h⟩:=Gc h
 refine JLo (I64 q) [72,73] O .scf ⟨Ua,Ua,ø⟩ (fun hc=>Hy (G89 (H1 hc a5)) O O O) O (JLo (BL (decide (q≠0))) [74] O .scf ⟨Ua,ø⟩ (fun hc=>G16 O O O) O (JLh (BL (((((!i)||(!j))||(!m))||(!d.1))||(decide (q≠0)))) (Z6 O O O O) O (G6 (z (JCc O h (fun h hb=>?_) (fun h hb=>?_))))))
 ·
  refine Jr fun a6=>(JLm (BL false) O (G6 (a6 (H0 (fin1 BL h)))))
 ·
  refine Gj (y ?_)
  refine Jr fun a7=>(JLh (E1 [1,2]) (H9 (xs:=[I64 1,I64 2]) O ⟨O,O,O,O,ø⟩ G7 Je O O O O) O (JLh (E1 [3,4]) (H9 (xs:=[I64 3,I64 4]) O ⟨O,O,O,O,ø⟩ G7 Je O O O O) O (JLh (LS 1 (E1) ([[1,2],[3,4]])) (H9 (xs:=[E1 [1,2],E1 [3,4]]) O ⟨O,O,O,O,ø⟩ Gf Z7 O O O O) O (JLh (.agg [LS 1 (E1) ([[1,2],[3,4]]),I64 2]) (Jm (cs:=[LS 1 (E1) ([[1,2],[3,4]]),I64 2]) [(0,1),(1,1)] [LS 1 (E1) ([]:List (List Int)),I64 0] [.slice none 0 0,E0] G9b Ga5 ⟨.inr ⟨_,O,O⟩,.inl O,ø⟩ O O) O (JLh (.ptr 1010 0) (Jh 1010 2 G24 O O) O (J9 (u:=.junk) (Hp (u:=.agg [LS 1 (E1) ([[1,2],[3,4]]),I64 2]) (ds:=[LS 1 (E1) ([[1,2],[3,4]]),I64 2]) G0c O O O O O O O O) (G6 (a7 ?_))))))))
  refine H5 [(2,E1 [1,2,3,4]),(12,.dptr [LS 1 (E1) ([[1,2],[3,4]]),I64 2])] [] 1010 rfl rfl rfl ø rfl (by exact⟨.conv (.same rfl),.ptr,ø⟩) (Jr fun a8=>(JLh (.agg [LS 1 (E1) ([[1,2],[3,4]]),I64 2]) (Gu Hj O O O) O (JLm (E1 [1,2,3,4]) O ?_)))
  obtain⟨a,a9,h⟩:=Gc h
  refine JLh (.tup [E2 a.1,I64 a.2]) (Gt O (Z0 F (Gp.mk ([[1,2],[3,4]]) 2) [1,2,3,4] a a9) Gaa ⟨O,O,O,O,ø⟩) O (JLm (.tup [E2 a.1,I64 a.2]) O (JLh (E2 a.1) (Gv O O O) O (JLh (I64 a.2) (Gv O O O) O (JLm (I64 a.2) O (G6 (a8 (Jr fun b0=>(JLh (.agg [LS 1 (E1) ([[1,2],[3,4]]),I64 2]) (Gu Hj O O O) O (JLm (E1 [1,2,3,4]) O ?_)))))))))
  obtain⟨e,b1,h⟩:=Gc h
  refine JLh (.tup [E2 e.1,I64 e.2]) (Gt O (G20 F (Gp.mk ([[1,2],[3,4]]) 2) [1,2,3,4] e b1) Gef ⟨O,O,O,O,ø⟩) O (JLm (.tup [E2 e.1,I64 e.2]) O (JLh (E2 e.1) (Gv O O O) O (JLh (I64 e.2) (Gv O O O) O (JLm (I64 e.2) O (G6 (b0 ?_))))))
  refine Jr fun b2=>(JLh (E1 [1,3]) (H9 (xs:=[I64 1,I64 3]) O ⟨O,O,O,O,ø⟩ G7 Je O O O O) O (JLh (E1 [2]) (H9 (xs:=[I64 2]) O ⟨O,O,ø⟩ G7 Je O O O O) O (JLh (LS 1 (E1) ([[1,3],[2]])) (H9 (xs:=[E1 [1,3],E1 [2]]) O ⟨O,O,O,O,ø⟩ Gf Z7 O O O O) O (JLh (.agg [LS 1 (E1) ([[1,3],[2]]),I64 2]) (Jm (cs:=[LS 1 (E1) ([[1,3],[2]]),I64 2]) [(0,1),(1,1)] [LS 1 (E1) ([]:List (List Int)),I64 0] [.slice none 0 0,E0] G9b Ga5 ⟨.inr ⟨_,O,O⟩,.inl O,ø⟩ O O) O (JLh (.ptr 1011 0) (Jh 1011 2 G24 O O) O (J9 (u:=.junk) (Hp (u:=.agg [LS 1 (E1) ([[1,3],[2]]),I64 2]) (ds:=[LS 1 (E1) ([[1,3],[2]]),I64 2]) G0c O O O O O O O O) (G6 (b2 ?_))))))))
  refine fzQ [(2,E1 [1,2,3,4]),(4,I64 a.2),(6,I64 e.2),(13,.dptr [LS 1 (E1) ([[1,3],[2]]),I64 2])] [] 1011 rfl rfl rfl ø rfl (Js fun b3=>?_)
  obtain⟨s,b4,h⟩:=Gc h
  obtain⟨g,b5,h⟩:=Gc h
  refine JC_d0 Jg (by kernel_rfl) (Dq (.agg [LS 1 (E1) ([[1,3],[2]]),I64 2]) (Gu Hj O O O) O (Dq (E1 [1,2,3,4]) (G2 O O) O (Dq (E1 ([1,2,3,4].take s)) (H6b (f:=I64) (xs:=[1,2,3,4]) O O O G7 (Hc b4)) O (Dq (.tup [E2 g.1,I64 g.2]) (Gt (args:=[.agg [LS 1 (E1) ([[1,3],[2]]),I64 2],E1 ([1,2,3,4].take s)]) O (Z0 F (Gp.mk ([[1,3],[2]]) 2) ([1,2,3,4].take s) g b5) Gaa ⟨O,O,O,O,ø⟩) O (Dq (.tup [E2 g.1,I64 g.2]) (G2 O O) O (Dq (E2 g.1) (Gv O O O) O (Dq (I64 g.2) (Gv O O O) O (Dq (I64 g.2) (G4 O O) O (Dnil (b3 (Js fun b6=>?_)))))))))))
  obtain⟨t,b7,h⟩:=Gc h
  obtain⟨k,b8,h⟩:=Gc h
  refine JC_d0 Jg (by kernel_rfl) (Dq (.agg [LS 1 (E1) ([[1,3],[2]]),I64 2]) (Gu Hj O O O) O (Dq (E1 [1,2,3,4]) (G2 O O) O (Dq (E1 ([1,2,3,4].take t)) (H6b (f:=I64) (xs:=[1,2,3,4]) O O O G7 (Hc b7)) O (Dq (.tup [E2 k.1,I64 k.2]) (Gt (args:=[.agg [LS 1 (E1) ([[1,3],[2]]),I64 2],E1 ([1,2,3,4].take t)]) O (G20 F (Gp.mk ([[1,3],[2]]) 2) ([1,2,3,4].take t) k b8) Gef ⟨O,O,O,O,ø⟩) O (Dq (.tup [E2 k.1,I64 k.2]) (G2 O O) O (Dq (E2 k.1) (Gv O O O) O (Dq (I64 k.2) (Gv O O O) O (Dq (I64 k.2) (G4 O O) O (Dnil (b6 (Js fun b9=>?_)))))))))))
  refine Jr fun c0=>(JLm (I64 a.2) O (JLh (BL (decide (a.2≠360))) (G16 O O O) O (JLm (BL (decide (a.2≠360))) O (JLo (I64 e.2) [] O .scf ø (fun hc=>G2 O O) O (JLo (BL (decide (e.2≠6))) [114] O .scf ⟨Ua,ø⟩ (fun hc=>G16 O O O) O (JLh (BL ((decide (a.2≠360))||(decide (e.2≠6)))) (Z6 O O O O) O (JLm (BL ((decide (a.2≠360))||(decide (e.2≠6)))) O (JLo (I64 g.2) [] O .scf ø (fun hc=>G2 O O) O (JLo (BL (decide (g.2≠360))) [118] O .scf ⟨Ua,ø⟩ (fun hc=>G16 O O O) O (JLh (BL (((decide (a.2≠360))||(decide (e.2≠6)))||(decide (g.2≠360)))) (Z6 O O O O) O (JLm (BL (((decide (a.2≠360))||(decide (e.2≠6)))||(decide (g.2≠360)))) O (JLo (I64 k.2) [] O .scf ø (fun hc=>G2 O O) O (JLo (BL (decide (k.2≠6))) [122] O .scf ⟨Ua,ø⟩ (fun hc=>G16 O O O) O ?_)))))))))))))
  refine JLh (BL ((((decide (a.2≠360))||(decide (e.2≠6)))||(decide (g.2≠360)))||(decide (k.2≠6)))) (Z6 O O O O) O (G6 (c0 (JCc O h (fun h hb=>?_) (fun h hb=>?_))))
  ·
   refine Jr fun c1=>(JLm (BL false) O (G6 (c1 (H0 (fin1 BL h)))))
  ·
   refine Gj (b9 (Jr fun c2=>(JLh (E1 [1,3]) (H9 (xs:=[I64 1,I64 3]) O ⟨O,O,O,O,ø⟩ G7 Je O O O O) O (JLh (E1 [2,4]) (H9 (xs:=[I64 2,I64 4]) O ⟨O,O,O,O,ø⟩ G7 Je O O O O) O (JLh (LS 1 (E1) ([[1,3],[2,4],[]])) (H48 (xs:=[E1 [1,3],E1 [2,4],E1 ([]:List Int)]) O ⟨.inl O,O,.inl O,O,.inr ⟨_,O,O⟩,O,ø⟩ Gf Z7 O O O O) O (JLh (.agg [LS 1 (E1) ([[1,3],[2,4],[]]),I64 2]) (Jm (cs:=[LS 1 (E1) ([[1,3],[2,4],[]]),I64 2]) [(0,1),(1,1)] [LS 1 (E1) ([]:List (List Int)),I64 0] [.slice none 0 0,E0] G9b Ga5 ⟨.inr ⟨_,O,O⟩,.inl O,ø⟩ O O) O (JLm (E1 [1,2,3,4]) O ?_)))))))
   obtain⟨c,c3,h⟩:=Gc h
   refine JLh (.tup [E2 c.1,I64 c.2]) (Gt O (Z0 F (Gp.mk ([[1,3],[2,4],[]]) 2) [1,2,3,4] c c3) Gaa ⟨O,O,O,O,ø⟩) O (JLm (.tup [E2 c.1,I64 c.2]) O (JLh (E2 c.1) (Gv O O O) O (JLh (I64 c.2) (Gv O O O) O (JLm (E2 c.1) O (JLm (I64 c.2) O (G6 (c2 ?_)))))))
   refine Jr fun c4=>(JLm (I64 c.2) O (JLh (BL (decide (c.2=0))) (Ya O O O) O (JLm (BL (decide (c.2=0))) O (JLo (E2 c.1) [] O .sct ø (fun hc=>G2 O O) O (JLo (.agg [I64 1,I64 2]) [] O .sct ø (fun hc=>Jm (cs:=[I64 1,I64 2]) [(0,1),(1,1)] [I64 0,I64 0] [E0,E0] G30 G6d (zzQ O) O O) O (JLo (.agg [I64 0,I64 2]) [] O .sct ø (fun hc=>Jm (cs:=[I64 0,I64 2]) [(0,1),(1,1)] [I64 0,I64 0] [E0,E0] G30 G6d (zzQ O) O O) O (JLo (E2 [(G5.mk 1 2),(G5.mk 0 2)]) [138,139] O .sct ⟨Ua,Ua,ø⟩ (fun hc=>H9 (xs:=[.agg [I64 1,I64 2],.agg [I64 0,I64 2]]) O ⟨O,O,O,O,ø⟩ Ja G4b O O O O) O ?_)))))))
   obtain⟨p,c5,h⟩:=Gc h
   refine JLo (BL p) [137,140] O .sct ⟨Ua,Ua,ø⟩ (fun hc=>Gt (args:=[E2 c.1,E2 [(G5.mk 1 2),(G5.mk 0 2)]]) O (Qo c.1 [(G5.mk 1 2),(G5.mk 0 2)] p (H1 hc c5)) G6f ⟨O,O,O,O,ø⟩) O (JLh (BL ((decide (c.2=0))&&p)) (Y6 O O O O) O (JLm (BL ((decide (c.2=0))&&p)) O (G6 (c4 (H0 (fin1 BL h))))))
end
end Go.Proofs.Ytokjlondbjdlfaa
