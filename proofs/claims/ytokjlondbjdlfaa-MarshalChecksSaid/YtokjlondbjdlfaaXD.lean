/- Walks of functions. -/
import Derived.Test.YtokjlondbjdlfaaXC
set_option maxRecDepth 100000
set_option maxHeartbeats 1000000
set_option linter.unusedVariables false
set_option linter.unusedSimpArgs false
namespace Go.Proofs.Ytokjlondbjdlfaa
open Go.RowKit
noncomputable section
def Gfe:ByteArray:=ByteArray.mk #[0,1,2,2,3,3,3,3,4,4,4,4,4,4,4,4,5,5,5,5,5,5,5,5,5,5,5,5,5,5,5,5,6,6,6,6,6,6,6,6,6,6,6,6,6,6,6,6,6,6,6,6,6,6,6,6,6,6,6,6,6,6,6,6,7,7,7,7,7,7,7,7,7,7,7,7,7,7,7,7,7,7,7,7,7,7,7,7,7,7,7,7,7,7,7,7,7,7,7,7,7,7,7,7,7,7,7,7,7,7,7,7,7,7,7,7,7,7,7,7,7,7,7,7,7,7,7,7,8,8,8,8,8,8,8,8,8,8,8,8,8,8,8,8,8,8,8,8,8,8,8,8,8,8,8,8,8,8,8,8,8,8,8,8,8,8,8,8,8,8,8,8,8,8,8,8,8,8,8,8,8,8,8,8,8,8,8,8,8,8,8,8,8,8,8,8,8,8,8,8,8,8,8,8,8,8,8,8,8,8,8,8,8,8,8,8,8,8,8,8,8,8,8,8,8,8,8,8,8,8,8,8,8,8,8,8,8,8,8,8,8,8,8,8,8,8,8,8,8,8,8,8,8,8,8,8]
namespace XDF
open XAF
open XBF
open XCF
theorem J55:Hi E8 105=true:=by kernel_rfl
theorem Gdb:Hi E8 17=true:=by kernel_rfl
theorem Jb0:Hi E8 19=true:=by kernel_rfl
theorem G60:Hi E8 20=true:=by kernel_rfl
theorem Hd0:Hi E8 23=true:=by kernel_rfl
theorem Hcf:Hi E8 24=true:=by kernel_rfl
theorem G99:Hi E8 25=true:=by kernel_rfl
theorem Jae:Hi E8 27=true:=by kernel_rfl
theorem H37:Hi E8 36=true:=by kernel_rfl
theorem Ja5:Hi E8 51=true:=by kernel_rfl
theorem Ja4:Hi E8 52=true:=by kernel_rfl
theorem Ja3:Hi E8 53=true:=by kernel_rfl
theorem Hcb:Hi E8 54=true:=by kernel_rfl
theorem Ja2:Hi E8 56=true:=by kernel_rfl
theorem J99:Hi E8 78=true:=by kernel_rfl
theorem J98:Hi E8 79=true:=by kernel_rfl
theorem Hc6:Hi E8 80=true:=by kernel_rfl
theorem J93:Hi E8 96=true:=by kernel_rfl
theorem J91:H23 E8 135 .u64=true:=by kernel_rfl
theorem J8f:H23 E8 159 .u64=true:=by kernel_rfl
theorem Hc0:H23 E8 3 .i64=true:=by kernel_rfl
theorem H58:H23 E8 5 .u8=true:=by kernel_rfl
theorem G8c:placesOf E8 24=some [(0,1),(1,1)]:=by kernel_rfl
theorem Zu:R4 E8 24 2=true:=by kernel_rfl
theorem J53:Q13 E8 9=true:=by kernel_rfl
theorem G94:(E8.info? 24).bind (fun i=>i.zero.map Value.cells)=some (List.toArray [.slice none 0 0,E0]):=by kernel_rfl
theorem G14:Q2 E8 24 2=true:=by kernel_rfl
end XDF
open XAF
open XBF
open XCF
open XDF

def G55 (x:Int):Option Int:=
 jp (fun c=>
  bif decide (4294967296≤x) then
  (c (Gbd .u64 x 32,32))
  else
  (c (x,0))) fun(a:Int×Int)=>
 jp (fun d=>
  bif decide (65536≤a.1) then
  (chk (a.2+16) fun k=>
   d (Gbd .u64 a.1 16,k))
  else
  (d (a.1,a.2))) fun(b:Int×Int)=>
 jp (fun e=>
  bif decide (256≤b.1) then
  (chk (b.2+8) fun f=>
   e (Gbd .u64 b.1 8,f))
  else
  (e (b.1,b.2))) fun(g:Int×Int)=>
 bnd (Q85 Gfe (IntKind.u8.wrap g.1)) fun h=>
 chk (h) fun i=>
 chk (g.2+i) fun j=>
 some j
theorem H27 (x:Int) (r:Int) (h:G55 x=some r):Pure E8 105 [.sc (.int .u64 x)] (·=I64 r):=by
 unfold G55 at h
 refine Hc [.tmp 2] Try.func105 O O (Jr fun t=>(JLm (I64 0) O (G6 (t ?_))))
 obtain⟨u,f,h⟩:=Zw h
 refine Yw (fun a:Int×Int=>u a=some r) (fun a=>[(0,.sc (.int .u64 a.1)),(2,I64 a.2)]) (fun a=>[]) (fun Kj2 ej2=>?_) ?_
 ·
  refine Jr fun v=>(JLm (.sc (.int .u64 x)) O (JLh (BL (decide (4294967296≤x))) (G45 O O O) O (G6 (v (JCc O h (fun h hb=>?_) (fun h hb=>?_))))))
  ·
   refine Jr fun w=>(JLm (.sc (.int .u64 x)) O (JLh (.sc (.int .u64 (Gbd .u64 x 32))) (J01 (s:=32) O O O O) O (JLm (.sc (.int .u64 (Gbd .u64 x 32))) O (G6 (w (G1 (JLm (I64 32) O (G6 (ej2 _ _ (Gbd .u64 x 32,32) h ⟨(.sm O O),G,O⟩)))))))))
  ·
   refine Gi (ej2 _ _ (x,0) h ⟨(.sm O O),G,O⟩)
 ·intro a h
  replace h:=app1 f h
  obtain⟨y,g,h⟩:=Zw h
  refine Yw (fun b:Int×Int=>y b=some r) (fun b=>[(0,.sc (.int .u64 b.1)),(2,I64 b.2)]) (fun b=>[]) (fun Kj5 ej5=>?_) ?_
  ·
   refine Jr fun z=>(JLm (.sc (.int .u64 a.1)) O (JLh (BL (decide (65536≤a.1))) (G45 O O O) O (G6 (z (JCc O h (fun h hb=>?_) (fun h hb=>?_))))))
   ·
    refine Jr fun a0=>(JLm (.sc (.int .u64 a.1)) O (JLh (.sc (.int .u64 (Gbd .u64 a.1 16))) (J01 (s:=16) O O O O) O (JLm (.sc (.int .u64 (Gbd .u64 a.1 16))) O (G6 (a0 (G1 (JLm (I64 a.2) O ?_)))))))
    obtain⟨i,a1,h⟩:=J4 h
    refine JLh (I64 i) (Hv a1 O O O) O (JLm (I64 i) O (G6 (ej5 _ _ (Gbd .u64 a.1 16,i) h ⟨(.sm O O),G,O⟩)))
   ·
    refine Gi (ej5 _ _ (a.1,a.2) h ⟨(.sm O O),G,O⟩)
  ·intro b h
   replace h:=app1 g h
   obtain⟨a2,j,h⟩:=Zw h
   refine Yw (fun c:Int×Int=>a2 c=some r) (fun c=>[(0,.sc (.int .u64 c.1)),(2,I64 c.2)]) (fun c=>[]) (fun Kj9 ej9=>?_) ?_
   ·
    refine Jr fun k=>(JLm (.sc (.int .u64 b.1)) O (JLh (BL (decide (256≤b.1))) (G45 O O O) O (G6 (k (JCc O h (fun h hb=>?_) (fun h hb=>?_))))))
    ·
     refine Jr fun l=>(JLm (.sc (.int .u64 b.1)) O (JLh (.sc (.int .u64 (Gbd .u64 b.1 8))) (J01 (s:=8) O O O O) O (JLm (.sc (.int .u64 (Gbd .u64 b.1 8))) O (G6 (l (G1 (JLm (I64 b.2) O ?_)))))))
     obtain⟨d,m,h⟩:=J4 h
     refine JLh (I64 d) (Hv m O O O) O (JLm (I64 d) O (G6 (ej9 _ _ (Gbd .u64 b.1 8,d) h ⟨(.sm O O),G,O⟩)))
    ·
     refine Gi (ej9 _ _ (b.1,b.2) h ⟨(.sm O O),G,O⟩)
   ·intro c h
    replace h:=app1 j h
    refine Jr fun n=>(JLm (I64 c.2) O (JLm (.sc (.int .u64 c.1)) O (JLh (U8 (IntKind.u8.wrap c.1)) (J05 H58 J8f O O O) O ?_)))
    obtain⟨a3,o,h⟩:=Gc h
    refine JLh (U8 a3) (J7e J53 O O O o) O ?_
    obtain⟨a4,p,h⟩:=J4 h
    refine JLh (I64 a4) (J05 Hc0 H58 p O O) O ?_
    obtain⟨e,q,h⟩:=J4 h
    refine JLh (I64 e) (Hv q O O O) O (JLm (I64 e) O (G6 (n (H0 (fin1 I64 h)))))

def G83 (x:Int):Option Int:=
 bnd (G55 x) fun a=>
 some a
theorem H74 (x:Int) (r:Int) (h:G83 x=some r):Pure E8 79 [.sc (.int .u64 x)] (·=I64 r):=by
 unfold G83 at h
 refine Hc [.tmp 2] Try.func79 O O (Jr fun b=>(JLm (I64 0) O (G6 (b (Js fun c=>Q63 O (Gi (c (Jr fun d=>(JLm (.sc (.int .u64 x)) O ?_)))))))))
 obtain⟨a,e,h⟩:=Gc h
 refine JLh (I64 a) (Gr O (H27 x a e) J55 ⟨O,O,G⟩) O (JLm (I64 a) O (G6 (d (H0 (fin1 I64 h)))))

def Y8 (y:Gp) (order:List Int) (l:List G5):Option (Bool×Int):=
 bnd (Qm y order) fun b=>
 bif decide (b.2≠0) then
 (some (false,b.2))
 else
 (bnd (G79 y l) fun a=>
  bnd (bif decide (a.2.2=0) then R3 a.1 order else some default) fun c=>
  some (((decide (a.2.2=0))&&(decide ((c.length:Int)=0))),0))
theorem Gb5 (y:Gp) (order:List Int) (l:List G5) (r:Bool×Int) (h:Y8 y order l=some r):Pure E8 24 [.agg [LS 1 (E1) y.Stacks,I64 y.Height],E1 order,E2 l] (·=.tup [BL r.1,I64 r.2]):=by
 unfold Y8 at h
 refine Hc [.tmp 6,.tmp 7] Try.func24 O O (Jr fun e=>(JLh (.ptr 1030 0) (Q3 (cs:=[LS 1 (E1) y.Stacks,I64 y.Height]) 1030 O O O O O) O (JLm (BL false) O (JLm (I64 0) O (G6 (e (H5 [(1,E1 order),(2,E2 l),(3,.dptr [LS 1 (E1) y.Stacks,I64 y.Height])] [] 1030 rfl rfl rfl G rfl (by exact⟨.conv (.same rfl),.conv (.same rfl),.ptr,G⟩) (Js fun g=>Jr fun i=>(JLh (.agg [LS 1 (E1) y.Stacks,I64 y.Height]) (Gv Hn O O O) O (JLm (E1 order) O ?_))))))))))
 obtain⟨b,j,h⟩:=Gc h
 refine JLh (.tup [I64 b.1,I64 b.2]) (Gr O (Yu y order b j) G98 ⟨O,O,O,O,G⟩) O (JLm (.tup [I64 b.1,I64 b.2]) O (JLh (I64 b.1) (Gs O O O) O (JLh (I64 b.2) (Gs O O O) O (JLm (I64 b.1) O (JLm (I64 b.2) O (G6 (i (Jr fun k=>(JLm (I64 b.2) O (JLh (BL (decide (b.2≠0))) (G06 O O O) O (G6 (k (JCc O h (fun h hb=>?_) (fun h hb=>?_))))))))))))))
 ·
  refine Jr fun m=>(JLm (I64 b.2) O (JLm (BL false) O (JLm (I64 b.2) O (G6 (m (H0 (⟨[BL false,I64 b.2],[],G,O,⟨⟨_,O,.conv (.same O)⟩,⟨_,O,.conv (.same O)⟩,G⟩,O,congrArg (fun r:Bool×Int=>(.tup [BL r.1,I64 r.2]:AV)) (Ez h)⟩)))))))
 ·
  refine Gi (g (Jr fun n=>(JLh (.agg [LS 1 (E1) y.Stacks,I64 y.Height]) (Gv Hn O O O) O (JLm (E2 l) O ?_))))
  obtain⟨a,o,h⟩:=Gc h
  refine JLh (.tup [.agg [LS 1 (E1) a.1.Stacks,I64 a.1.Height],I64 a.2.1,I64 a.2.2]) (Gr O (J0d.down y l a o) Jae ⟨O,O,O,O,G⟩) O (JLm (.tup [.agg [LS 1 (E1) a.1.Stacks,I64 a.1.Height],I64 a.2.1,I64 a.2.2]) O (JLh (.agg [LS 1 (E1) a.1.Stacks,I64 a.1.Height]) (Gs O O O) O (JLh (I64 a.2.1) (Gs O O O) O (JLh (I64 a.2.2) (Gs O O O) O (JLh (.ptr 1031 0) (Jg 1031 2 G14 O O) O (J7 (u:=.junk) (Ho (u:=.agg [LS 1 (E1) a.1.Stacks,I64 a.1.Height]) (ds:=[LS 1 (E1) a.1.Stacks,I64 a.1.Height]) Zu O O O O O O O O) (JLm (I64 a.2.1) O (JLm (I64 a.2.2) O (G6 (n ?_))))))))))
  refine H5 [(1,E1 order),(10,.dptr [LS 1 (E1) a.1.Stacks,I64 a.1.Height]),(12,I64 a.2.2)] [] 1031 rfl rfl rfl G rfl (by exact⟨.conv (.same rfl),.ptr,.conv (.same rfl),G⟩) (Jr fun p=>(JLm (I64 a.2.2) O (JLh (BL (decide (a.2.2=0))) (Rq O O O) O (JLm (BL (decide (a.2.2=0))) O (JLo (.agg [LS 1 (E1) a.1.Stacks,I64 a.1.Height]) [] O .sct G (fun hc=>Gv Hn O O O) O (JLo (E1 order) [] O .sct G (fun hc=>G2 O O) O ?_))))))
  obtain⟨c,d,h⟩:=Gc h
  refine JLo (E1 c) [32,33] O .sct ⟨Ua,Ua,G⟩ (fun hc=>Gr (args:=[.agg [LS 1 (E1) a.1.Stacks,I64 a.1.Height],E1 order]) O (Gf2 a.1 order c (H3 hc d)) H36 ⟨O,O,O,O,G⟩) O (JLo (E7 c.length) [34] O .sct ⟨Ua,G⟩ (fun hc=>Q6 (f:=I64) (xs:=c) G7 O O) O (JLo (BL (decide ((c.length:Int)=0))) [35] O .sct ⟨Ua,G⟩ (fun hc=>Rq O O O) O (JLh (BL ((decide (a.2.2=0))&&(decide ((c.length:Int)=0)))) (Y0 O O O O) O (JLm (BL ((decide (a.2.2=0))&&(decide ((c.length:Int)=0)))) O (JLm (I64 0) O (G6 (p (H0 (⟨[BL ((decide (a.2.2=0))&&(decide ((c.length:Int)=0))),I64 0],[],G,O,⟨⟨_,O,.conv (.same O)⟩,⟨_,O,.conv (.same O)⟩,G⟩,O,congrArg (fun r:Bool×Int=>(.tup [BL r.1,I64 r.2]:AV)) (Ez h)⟩)))))))))

def G33 (x:Int):Option Bool:=
 some (decide (x≠x))
theorem Gb6 (x:Int) (r:Bool) (h:G33 x=some r):Pure E8 80 [I64 x] (·=BL r):=by
 unfold G33 at h
 refine Hc [.tmp 2] Try.func80 O O (Jr fun a=>(JLm (BL false) O (G6 (a (Jr fun b=>(JLm (I64 x) O (JLm (I64 x) O (JLh (BL (decide (x≠x))) (G06 O O O) O (JLm (BL (decide (x≠x))) O (G6 (b (H0 (fin1 BL h)))))))))))))

def G12 (x:Int) (y:Int):Option Int:=
 bnd (G33 x) fun b=>
 bnd (G33 y) fun a=>
 bif b then
 (bif a then
  (some 0)
  else
  (some (-1)))
 else
 (bif a then
  (some 1)
  else
  (bif decide (x < y) then
   (some (-1))
   else
   (bif decide (y < x) then
    (some 1)
    else
    (some 0))))
theorem G88 (x:Int) (y:Int) (r:Int) (h:G12 x y=some r):Pure E8 54 [I64 x,I64 y] (·=I64 r):=by
 unfold G12 at h
 refine Hc [.tmp 4] Try.func54 O O (Jr fun p=>(JLm (I64 0) O (G6 (p (Jr fun q=>(JLm (I64 x) O ?_))))))
 obtain⟨b,s,h⟩:=Gc h
 refine JLh (BL b) (Gr O (Gb6 x b s) Hc6 ⟨O,O,G⟩) O (JLm (BL b) O (G6 (q (Jr fun t=>(JLm (I64 y) O ?_)))))
 obtain⟨a,u,h⟩:=Gc h
 refine JLh (BL a) (Gr O (Gb6 y a u) Hc6 ⟨O,O,G⟩) O (JLm (BL a) O (G6 (t (Js fun v=>Jr fun w=>(JLm (BL b) O (G6 (w (JCc O h (fun h hb=>?_) (fun h hb=>?_)))))))))
 ·
  refine Js fun z=>Jr fun a0=>(JLm (BL a) O (G6 (a0 (JCc O h (fun h hb=>?_) (fun h hb=>?_)))))
  ·
   refine Jr fun c=>(JLm (I64 0) O (G6 (c (H0 (fin1 I64 h)))))
  ·
   refine Gi (z (Jr fun d=>(JLm (I64 (-1)) O (G6 (d (H0 (fin1 I64 h)))))))
 ·
  refine Gi (v (Js fun e=>Jr fun f=>(JLm (BL a) O (G6 (f (JCc O h (fun h hb=>?_) (fun h hb=>?_)))))))
  ·
   refine Jr fun g=>(JLm (I64 1) O (G6 (g (H0 (fin1 I64 h)))))
  ·
   refine Gi (e (Js fun i=>Jr fun j=>(JLm (I64 x) O (JLm (I64 y) O (JLh (BL (decide (x < y))) (Hu O O O) O (G6 (j (JCc O h (fun h hb=>?_) (fun h hb=>?_)))))))))
   ·
    refine Jr fun k=>(JLm (I64 (-1)) O (G6 (k (H0 (fin1 I64 h)))))
   ·
    refine Gi (i (Js fun l=>Jr fun m=>(JLm (I64 x) O (JLm (I64 y) O (JLh (BL (decide (y < x))) (Rz O O O) O (G6 (m (JCc O h (fun h hb=>?_) (fun h hb=>?_)))))))))
    ·
     refine Jr fun n=>(JLm (I64 1) O (G6 (n (H0 (fin1 I64 h)))))
    ·
     refine Gi (l (Jr fun o=>(JLm (I64 0) O (G6 (o (H0 (fin1 I64 h)))))))

def Gec (vals:List Int):Option Int:=
 each (fun a d (c:Unit) b=>
  bif decide (a≠0) then
  (some a)
  else
  (b ()))
 (fun(c:Unit)=>
  some 0) vals 0 ()
theorem Hfa (vals:List Int) (r:Int) (h:Gec vals=some r):Pure E8 53 [E1 vals] (·=I64 r):=by
 unfold Gec at h
 refine Hc [.tmp 2] Try.func53 O O (Jr fun u=>(JLm (I64 0) O (G6 (u (Jr fun v=>(JLm (I64 0) O (G6 (v (Js fun w=>Jr fun x=>(JLm (E1 vals) O (JLl G7 O O O fun z=>(JLm (I64 0) O (G6 (x (Gf ?_)))))))))))))))
 obtain⟨a0,i,j,g,h⟩:=J0 h
 refine H7 (fun a (c:Unit)=>each a0 i (List.drop a vals) a c=some r) (fun a c=>[(3,I64 0),(6,E1 vals),(7,E7 vals.length),(8,E7 a)]) (fun a c=>[]) (fun a=>vals.length - a) 0 () h ⟨(.sm O O),G,rfl⟩ ?_
 clear h
 intro a c d a3 a1
 refine Jr fun k=>(JLh (BL (decide ((a:Int) < (vals.length:Int)))) (Hu O O O) O (G6 (k (Js fun l=>Gh O (fun hb=>?_) (fun hb=>?_)))))
 ·
  have e:=Jn hb
  obtain⟨b,a2,m,n,h⟩:=Hp d e
  replace h:=Y1 j h
  refine Gi (l (Js fun o=>Gf (Jr fun p=>(JLh (.dptr [I64 b]) (Gz (f:=I64) (xs:=vals) (y:=b) O O O G7 m O) O (JLh (I64 b) (Gk Gg O O O) O (JLm (I64 b) O (G6 (p (Jr fun q=>(JLm (I64 b) O (JLm (I64 0) O (JLh (BL (decide (b≠0))) (G06 O O O) O (G6 (q (JCc O h (fun h hb=>?_) (fun h hb=>?_))))))))))))))))
  ·
   refine Jr fun s=>(JLm (I64 b) O (JLm (I64 b) O (G6 (s (H0 (fin1 I64 h))))))
  ·
   refine Gi (o (G1 (JLh (I64 ((a+1:Nat):Int)) (Hv (Hh e z) O O O) O (JLm (I64 ((a+1:Nat):Int)) O (G6 (a1 _ _ (a+1) () (app1 n h) (by omega) ⟨(.sm O O),G,rfl⟩))))))
 ·
  have h:=app1 g (Hq d (Ha hb))
  refine Hd (w (Jr fun t=>(JLm (I64 0) O (JLm (I64 0) O (G6 (t (H0 (fin1 I64 h))))))))

def Zh (a:Int) (b:Int) (c:List Int):Option Int:=
 bnd (Qh c b) fun d=>
 bnd (Qh c a) fun e=>
 bnd (G12 d e) fun f=>
 bnd (G12 a b) fun g=>
 bnd (Gec [f,g]) fun h=>
 some h
theorem Gfa (a:Int) (b:Int) (c:List Int) (r:Int) (h:Zh a b c=some r):Pure E8 52 [I64 a,I64 b,.dptr [E1 c]] (·=I64 r):=by
 unfold Zh at h
 refine Hc [.tmp 5] Try.func52 O O (Jr fun j=>(JLm (I64 0) O (G6 (j (Js fun k=>?_)))))
 obtain⟨f,l,h⟩:=Gc h
 obtain⟨g,m,h⟩:=Gc h
 obtain⟨d,n,h⟩:=Gc h
 obtain⟨e,o,h⟩:=Gc h
 obtain⟨i,p,h⟩:=Gc h
 refine JC_d0 Jf (by kernel_rfl) (Dq (E1 c) (Gk H4 O O O) O (Dq (I64 b) (G2 O O) O (Dq (I64 f) (Gr (args:=[E1 c,I64 b]) O (R7 c b f l) G35 ⟨O,O,O,O,G⟩) O (Dq (E1 c) (Gk H4 O O O) O (Dq (I64 a) (G2 O O) O (Dq (I64 g) (Gr (args:=[E1 c,I64 a]) O (R7 c a g m) G35 ⟨O,O,O,O,G⟩) O (Dq (I64 d) (Gr (args:=[I64 f,I64 g]) O (G88 f g d n) Hcb ⟨O,O,O,O,G⟩) O (Dq (I64 a) (G2 O O) O (Dq (I64 b) (G2 O O) O (Dq (I64 e) (Gr (args:=[I64 a,I64 b]) O (G88 a b e o) Hcb ⟨O,O,O,O,G⟩) O (Dq (E1 [d,e]) (H9 (xs:=[I64 d,I64 e]) O ⟨O,O,O,O,G⟩ G7 Jd O O O O) O (Dq (I64 i) (Gr (args:=[E1 [d,e]]) O (Hfa [d,e] i p) Ja3 ⟨O,O,G⟩) O (Dq (I64 i) (G4 O O) O (Dnil ?_))))))))))))))
 refine k (H0 (fin1 I64 h))


theorem Hb1 (y:Gp) (order:List Int) (r:(List Int)) (h:R3 y order=some r):Jq E8 50 [.agg [LS 1 (E1) y.Stacks,I64 y.Height],E1 order] [] (fun av L'=>∃ p:Nat,av=.vec 1058 p 1 r.length∧L'=[(1058,.vec 3 1 p (r.map I64))]):=by
 unfold R3 at h
 refine Y9 [] [.tmp 4] Try.func50 O O (Gf1 O) (Jr fun b6=>(JLh (.ptr 1056 0) (Q3 (cs:=[LS 1 (E1) y.Stacks,I64 y.Height]) 1056 O O O O O) O (JLh (.vec 1057 (([]:List Int).length) 1 (([]:List Int).length)) (H12 1057 3 1 O O O) O (G6 (b6 (H5 [(1,E1 order),(2,.dptr [LS 1 (E1) y.Stacks,I64 y.Height])] [(1057,.vec 3 1 (([]:List Int).length) (([]:List Int).map I64))] 1056 rfl rfl rfl ⟨⟨_,rfl,.vec⟩,G⟩ rfl (by exact⟨.conv (.same rfl),.ptr,G⟩) (Jr fun b7=>(JLh (.vec 1058 (([]:List Int).length) 1 (([]:List Int).length)) (H12 1058 3 1 O O O) O (G6 (b7 (Js fun b8=>?_)))))))))))
 refine Jr fun b9=>(JLh (.dptr [LS 1 (E1) y.Stacks,I64 y.Height]) (Gy Ht O O O) O (JLh (LS 1 (E1) y.Stacks) (Gk Gn O O O) O (JLl Gd O O O fun t=>(JLm (I64 0) O (G6 (b9 (Gf ?_)))))))
 obtain⟨b5,c0,c1,u,h⟩:=J0 h
 refine H7 (fun g (c:(List Int))=>each b5 c0 (List.drop g y.Stacks) g c=some r) (fun g c=>[(1,E1 order),(5,.vec 1058 c.length 1 c.length),(13,LS 1 (E1) y.Stacks),(14,E7 y.Stacks.length),(15,E7 g)]) (fun g c=>[(1057,.vec 3 1 (([]:List Int).length) (([]:List Int).map I64)),(1058,.vec 3 1 c.length (c.map I64))]) (fun g=>y.Stacks.length - g) 0 [] h ⟨(.sm O O),⟨⟨_,rfl,.vec⟩,⟨_,rfl,.vec⟩,G⟩,rfl⟩ ?_
 clear h
 intro g c o K5 e5
 refine Jr fun c2=>(JLh (BL (decide ((g:Int) < (y.Stacks.length:Int)))) (Hu O O O) O (G6 (c2 (Js fun c3=>Gh O (fun hb=>?_) (fun hb=>?_)))))
 ·
  have q:=Jn hb
  obtain⟨j,d4,c4,c5,h⟩:=Hp o q
  replace h:=Y1 c1 h
  refine Gi (c3 (Js fun c6=>Gf (Jr fun c7=>(JLh (.dptr [E1 j]) (Gz (f:=(E1)) (xs:=y.Stacks) (y:=j) O O O Gd c4 O) O (JLh (E1 j) (Gk H4 O O O) O (JLm (E1 j) O (G6 (c7 (Jr fun v=>(JLm (E1 order) O (JLl G7 O O O fun d2=>(JLm (E7 order.length) O (G6 (v (Jr fun w=>(JLm (E1 j) O (JLl G7 O O O fun x=>(JLm (I64 0) O (G6 (w (Gf ?_)))))))))))))))))))))
  obtain⟨c8,z,a0,m,h⟩:=J0 h
  refine H7 (fun d (a:Int×(List Int))=>each c8 z (List.drop d j) d a=some r) (fun d a=>[(1,E1 order),(5,.vec 1058 a.2.length 1 a.2.length),(8,I64 a.1),(13,LS 1 (E1) y.Stacks),(14,E7 y.Stacks.length),(15,E7 g),(21,E1 j),(22,E7 j.length),(23,E7 d)]) (fun d a=>[(1057,.vec 3 1 (([]:List Int).length) (([]:List Int).map I64)),(1058,.vec 3 1 a.2.length (a.2.map I64))]) (fun d=>j.length - d) 0 ((order.length:Int),c) h ⟨(.sm O O),⟨⟨_,rfl,.vec⟩,⟨_,rfl,.vec⟩,G⟩,rfl⟩ ?_
  clear h
  intro d a k d5 c9
  refine Jr fun a1=>(JLh (BL (decide ((d:Int) < (j.length:Int)))) (Hu O O O) O (G6 (a1 (Js fun a2=>Gh O (fun hb=>?_) (fun hb=>?_)))))
  ·
   have l:=Jn hb
   obtain⟨b,d3,a3,a4,h⟩:=Hp k l
   replace h:=Y1 a0 h
   refine Gi (a2 (Js fun a5=>Gf (Jr fun a6=>(JLh (.dptr [I64 b]) (Gz (f:=I64) (xs:=j) (y:=b) O O O G7 a3 O) O (JLh (I64 b) (Gk Gg O O O) O (JLm (I64 b) O (G6 (a6 (Jr fun a7=>(JLm (E1 order) O (JLm (I64 b) O ?_)))))))))))
   obtain⟨e,a8,h⟩:=Gc h
   refine JLh (I64 e) (Gr O (R7 order b e a8) G35 ⟨O,O,O,O,G⟩) O (JLm (I64 e) O (G6 (a7 ?_)))
   obtain⟨a9,n,h⟩:=Zw h
   refine Yw (fun i:(List Int)=>a9 i=some r) (fun i=>[(1,E1 order),(5,.vec 1058 i.length 1 i.length),(8,I64 a.1),(11,I64 e),(13,LS 1 (E1) y.Stacks),(14,E7 y.Stacks.length),(15,E7 g),(21,E1 j),(22,E7 j.length),(23,E7 d)]) (fun i=>[(1057,.vec 3 1 (([]:List Int).length) (([]:List Int).map I64)),(1058,.vec 3 1 i.length (i.map I64))]) (fun Kj67 ej67=>?_) ?_
   ·
    refine Jr fun b0=>(JLm (I64 e) O (JLm (I64 a.1) O (JLh (BL (decide (a.1 < e))) (Rz O O O) O (G6 (b0 (JCc O h (fun h hb=>?_) (fun h hb=>?_)))))))
    ·
     refine G1 (JLm (.vec 1058 a.2.length 1 a.2.length) O (JLm (I64 b) O (JLh (E1 [b]) (H9 (xs:=[I64 b]) O ⟨O,O,G⟩ G7 Jd O O O O) O ?_)))
     obtain⟨b1,h⟩:=Hz h
     refine JLh (.vec 1058 ((a.2++[b]).length) 1 ((a.2++[b]).length)) (G6b (f:=I64) (xs:=a.2) (ys:=[b]) (ver:=a.2.length) (ver1:=(a.2++[b]).length) rfl rfl rfl rfl G7 Qx b1 (fun _=>rfl) (.inl rfl) (by simp)) O (JLm (.vec 1058 ((a.2++[b]).length) 1 ((a.2++[b]).length)) O (G6 (ej67 _ _ (a.2++[b]) h ⟨(.sm O O),⟨⟨_,rfl,.vec⟩,⟨_,rfl,.vec⟩,G⟩,rfl⟩)))
    ·
     refine Gi (ej67 _ _ a.2 h ⟨(.sm O O),⟨⟨_,rfl,.vec⟩,⟨_,rfl,.vec⟩,G⟩,rfl⟩)
   ·intro i h
    replace h:=app1 n h
    refine G1 (JLm (I64 a.1) O (JLm (I64 e) O (JLh (I64 (min a.1 e)) (Q09 O O O) O (JLm (I64 (min a.1 e)) O (G6 (a5 (G1 (JLh (I64 ((d+1:Nat):Int)) (Hv (Hh l x) O O O) O (JLm (I64 ((d+1:Nat):Int)) O (G6 (c9 _ _ (d+1) ((min a.1 e),i) (app1 a4 h) (by omega) ⟨(.sm O O),⟨⟨_,rfl,.vec⟩,⟨_,rfl,.vec⟩,G⟩,rfl⟩)))))))))))
  ·
   have h:=app1 m (Hq k (Ha hb))
   refine Hd (c6 (G1 (JLh (I64 ((g+1:Nat):Int)) (Hv (Hh q t) O O O) O (JLm (I64 ((g+1:Nat):Int)) O (G6 (e5 _ _ (g+1) a.2 (app1 c5 h) (by omega) ⟨(.sm O O),⟨⟨_,rfl,.vec⟩,⟨_,rfl,.vec⟩,G⟩,rfl⟩))))))
 ·
  have h:=app1 u (Hq o (Ha hb))
  refine Hd (b8 (Jr fun b2=>(JLm (.vec 1058 c.length 1 c.length) O ?_)))
  obtain⟨s,b3,h⟩:=Gc h
  refine JLh (.tup []) (Q07 (F:=77) (xs:=c) (r:=s) O H9d H5b Hc7 O O O b3 O) O (G6 (b2 (Jr fun b4=>(JLm (.vec 1058 c.length 1 c.length) O (JLm (.vec 1058 c.length 1 c.length) O (G6 (b4 (J46 4 O O (fun hn_=>H0 ?_)))))))))
  obtain rfl:=Ez h
  exact⟨[.vec 1058 c.length 1 c.length],[(1058,.vec 3 1 c.length (s.map I64))],⟨⟨_,O,.vec⟩,G⟩,O,⟨⟨_,O,.conv (.same O)⟩,G⟩,c.length,congrArg (fun n_:Nat=>(.vec 1058 c.length 1 n_:AV)) (hn_.trans (Kn _)),O⟩

def R1 (F:Nat) (data:List Int) (a:Int) (b:Int) (cmp:Int→Int→Option Int):Option (List Int):=
 chk (a+1) fun q=>
 loop (fun h (d:Int×(List Int))=>
  bif decide (d.1 < b) then
  (loop (fun g (c:Int×(List Int))=>
    bnd (bif decide (a < c.1) then Qu c.2 c.1 some else some default) fun i=>
    bnd (bif decide (a < c.1) then chk (c.1 - 1) some else some 0) fun j=>
    bnd (bif decide (a < c.1) then Qu c.2 j some else some default) fun k=>
    bnd (bif decide (a < c.1) then cmp i k else some default) fun l=>
    bif ((decide (a < c.1))&&(decide (l < 0))) then
    (chk (c.1 - 1) fun e=>
     chk (c.1 - 1) fun m=>
     Qu c.2 m fun f=>
     Qu c.2 c.1 fun n=>
     Qu c.2 c.1 fun r=>
     Qu (c.2.set c.1.toNat f) e fun s=>
     chk (c.1 - 1) fun o=>
     g (o,((c.2.set c.1.toNat f).set e.toNat n)))
    else
    (chk (d.1+1) fun p=>
     h (p,c.2))) F (d.1,d.2))
  else
  (some d.2)) F (q,data)
theorem Zp (F:Nat) (data:List Int) (data_q:Nat) (a:Int) (b:Int) (cmp:Int→Int→Option Int) (cmp_f:FuncId) (cmp_c:List AV) (cmp_B:Hi E8 cmp_f=true) (cmp_d:Re (fun _=>false) cmp_c=true) (cmp_w:∀ a0 a1 q,cmp a0 a1=some q→Pure E8 cmp_f ([I64 a0,I64 a1]++cmp_c) (·=I64 q)) (r:(List Int)) (h:R1 F data a b cmp=some r):Jq E8 96 [.vec 1058 data_q 1 data.length,I64 a,I64 b,.fn cmp_f cmp_c] [(1058,.vec 3 1 data_q (data.map I64))] (fun av L'=>av=.tup []∧L'=[(1058,.vec 3 1 data_q (r.map I64))]):=by
 unfold R1 at h
 refine Y9 [1058] [] Try.func96 O O (Gf1 O) (Jr fun c3=>(JLm (I64 a) O ?_))
 obtain⟨v2,c4,h⟩:=J4 h
 refine JLh (I64 v2) (Hv c4 O O O) O (JLm (I64 v2) O (G6 (c3 (Gf ?_))))
 obtain⟨b3,c5,h⟩:=Zg h
 refine H7 (fun o (d:Int×(List Int))=>loop b3 o d=some r) (fun o d=>[(0,.vec 1058 data_q 1 data.length),(1,I64 a),(2,I64 b),(3,.fn cmp_f cmp_c),(8,I64 d.1)]) (fun o d=>[(1058,.vec 3 1 data_q (d.2.map I64))]) (fun o=>o) F (v2,data) h ⟨⟨.same O,.same O,.same O,.same (Rn _ _ cmp_d),.same O,G⟩,⟨⟨_,O,.vec⟩,G⟩,O⟩ ?_
 clear h
 intro o d c6 K3 e3
 obtain⟨m3,e1,hm_3,c7,h⟩:=Yb c6
 replace h:=H24 c5 h
 refine Js fun c8=>Jr fun c9=>(JLm (I64 d.1) O (JLm (I64 b) O (JLh (BL (decide (d.1 < b))) (Hu O O O) O (G6 (c9 (JCc O h (fun h hb=>?_) (fun h hb=>?_)))))))
 ·
  refine Gi (c8 (Js fun d0=>Gf (Jr fun d1=>(JLm (I64 d.1) O (JLm (I64 d.1) O (G6 (d1 (Gf ?_))))))))
  obtain⟨d2,b1,h⟩:=Zg h
  refine H7 (fun g (c:Int×(List Int))=>loop d2 g c=some r) (fun g c=>[(0,.vec 1058 data_q 1 data.length),(1,I64 a),(2,I64 b),(3,.fn cmp_f cmp_c),(8,I64 d.1),(9,I64 c.1)]) (fun g c=>[(1058,.vec 3 1 data_q (c.2.map I64))]) (fun g=>g) F (d.1,d.2) h ⟨⟨.same O,.same O,.same O,.same (Rn _ _ cmp_d),.same O,.same O,G⟩,⟨⟨_,O,.vec⟩,G⟩,O⟩ ?_
  clear h
  intro g c b2 e2 d3
  obtain⟨d4,e0,hm_58,b4,h⟩:=Yb b2
  replace h:=H24 b1 h
  refine Js fun b5=>Js fun b6=>Qn (l':=[(0,.vec 1058 data_q 1 data.length),(1,I64 a),(2,I64 b),(3,.fn cmp_f cmp_c),(8,I64 d.1),(9,I64 c.1)]) (L':=[(1058,.vec 3 1 data_q (c.2.map I64))]) ⟨⟨.same O,.same O,.same O,.same (Rn _ _ cmp_d),.same O,.same O,G⟩,⟨⟨_,O,.vec⟩,G⟩,O⟩ ?_
  obtain⟨j,l,h⟩:=Gc h
  obtain⟨a8,b7,h⟩:=Gc h
  obtain⟨k,m,h⟩:=Gc h
  obtain⟨p,b8,h⟩:=Gc h
  refine JC_d0 Jf (by kernel_rfl) (Dq (I64 c.1) (G2 O O) O (Dq (I64 a) (G2 O O) O (Dq (BL (decide (a < c.1))) (Rz O O O) O (Dq (BL (decide (a < c.1))) (G2 O O) O (Do (.fn cmp_f cmp_c) [] O .sct G (fun hc=>G2 O O) O (Do (.vec 1058 data_q 1 data.length) [] O .sct G (fun hc=>G2 O O) O (Do (I64 c.1) [] O .sct G (fun hc=>G2 O O) O (Do (.vptr 1058 data_q c.1.toNat 0) [23,24] O .sct ⟨Ua,Ua,G⟩ (fun hc=>Ri (f:=I64) (xs:=c.2) (y:=j) O O O O G7 (G1b (H3 hc l)) (Ge6 (H3 hc l))) O (Do (I64 j) [25] O .sct ⟨Ua,G⟩ (fun hc=>G31 (f:=I64) (xs:=c.2) (y:=j) Gg O O O (G1b (H3 hc l)) O O) O (Do (.vec 1058 data_q 1 data.length) [] O .sct G (fun hc=>G2 O O) O (Do (I64 c.1) [] O .sct G (fun hc=>G2 O O) O (Do (I64 a8) [28] O .sct ⟨Ua,G⟩ (fun hc=>Y4 (G78 (H3 hc b7)) O O O) O (Do (.vptr 1058 data_q a8.toNat 0) [27,29] O .sct ⟨Ua,Ua,G⟩ (fun hc=>Ri (f:=I64) (xs:=c.2) (y:=k) O O O O G7 (G1b (H3 hc m)) (Ge6 (H3 hc m))) O ?_)))))))))))))
  refine Do (I64 k) [30] O .sct ⟨Ua,G⟩ (fun hc=>G31 (f:=I64) (xs:=c.2) (y:=k) Gg O O O (G1b (H3 hc m)) O O) O (Do (I64 p) [22,26,31] O .sct ⟨Ua,Ua,Ua,G⟩ (fun hc=>Q78 (args:=[I64 j,I64 k]) (caps:=cmp_c) O O (cmp_w j k _ (H3 hc b8)) cmp_B ⟨O,O,O,O,G⟩ cmp_d) O (Do (BL (decide (p < 0))) [32] O .sct ⟨Ua,G⟩ (fun hc=>Hu O O O) O (Dq (BL ((decide (a < c.1))&&(decide (p < 0)))) (Y0 O O O O) O (Dnil (b6 (JCc O h (fun h hb=>?_) (fun h hb=>?_)))))))
  ·
   refine Gi (b5 (Js fun b9=>Gf (Qn (l':=[(0,.vec 1058 data_q 1 data.length),(1,I64 a),(2,I64 b),(3,.fn cmp_f cmp_c),(8,I64 d.1),(9,I64 c.1)]) (L':=[(1058,.vec 3 1 data_q (c.2.map I64))]) ⟨⟨.same O,.same O,.same O,.same (Rn _ _ cmp_d),.same O,.same O,G⟩,⟨⟨_,O,.vec⟩,G⟩,O⟩ ?_)))
   obtain⟨n,s,h⟩:=J4 h
   obtain⟨a9,c0,h⟩:=J4 h
   obtain⟨e,a4,t,h⟩:=Qy h
   obtain⟨i,a5,v,h⟩:=Qy h
   obtain⟨d5,a6,w,h⟩:=Qy h
   obtain⟨d6,a7,x,h⟩:=Qy h
   refine Jt [15,17] [0,0,0,0,0,0,0,0,0,0,0,0,0,0,0,0,1,0] [0,0,1,1,1,0,0,0,0,0,0,0,0,0,0,0,1,0] [[(1058,.vec 3 1 data_q (c.2.map I64))],((1058,.vec 3 1 data_q ((c.2.set c.1.toNat e).map I64))::[(1058,.vec 3 1 data_q (c.2.map I64))]),((1058,.vec 3 1 data_q (((c.2.set c.1.toNat e).set n.toNat i).map I64))::((1058,.vec 3 1 data_q ((c.2.set c.1.toNat e).map I64))::[(1058,.vec 3 1 data_q (c.2.map I64))]))] Jf (by kernel_rfl) rfl rfl ?_
   refine Gb (u:=.vec 1058 data_q 1 data.length) O O ⟨Ga (G2 O O) O,G⟩ (Gb (u:=I64 c.1) O O ⟨Ga (G2 O O) O,G⟩ (Gb (u:=.vec 1058 data_q 1 data.length) O O ⟨Ga (G2 O O) O,Ga (G2 O O) O,G⟩ (Gb (u:=I64 c.1) O O ⟨Ga (G2 O O) O,Ga (G2 O O) O,G⟩ (Gb (u:=I64 n) O O ⟨Ga (Y4 s O O O) O,Ga (Y4 s O O O) O,G⟩ (Gb (u:=.vec 1058 data_q 1 data.length) O O ⟨Ga (G2 O O) O,G⟩ (Gb (u:=I64 c.1) O O ⟨Ga (G2 O O) O,G⟩ (Gb (u:=I64 a9) O O ⟨Ga (Y4 c0 O O O) O,G⟩ (Gb (u:=.vptr 1058 data_q a9.toNat 0) O O ⟨Ga (Ri (f:=I64) (xs:=c.2) (y:=e) O O O O G7 t a4) O,G⟩ (Gb (u:=I64 e) O O ⟨Ga (G31 (f:=I64) (xs:=c.2) (y:=e) Gg O O O t O O) O,G⟩ (Gb (u:=.vec 1058 data_q 1 data.length) O O ⟨Ga (G2 O O) O,G⟩ (Gb (u:=I64 c.1) O O ⟨Ga (G2 O O) O,G⟩ (Gb (u:=.vptr 1058 data_q c.1.toNat 0) O O ⟨Ga (Ri (f:=I64) (xs:=c.2) (y:=i) O O O O G7 v a5) O,G⟩ (Gb (u:=I64 i) O O ⟨Ga (G31 (f:=I64) (xs:=c.2) (y:=i) Gg O O O v O O) O,G⟩ ?_)))))))))))))
   refine Gb (u:=.vptr 1058 data_q c.1.toNat 0) O O ⟨Ga (Ri (f:=I64) (xs:=c.2) (y:=d5) O O O O G7 w a6) O,G⟩ (Gfb (u:=.junk) O O O O (Ga (G91 (f:=I64) (xs:=c.2) (z:=e) G5f O O O O (Ex w).1 O O O O) O) (Gb (u:=.vptr 1058 data_q n.toNat 0) O O ⟨Ga (Ri (f:=I64) (xs:=(c.2.set c.1.toNat e)) (y:=d6) O O O O G7 x a7) O,G⟩ (Gfb (u:=.junk) O O O O (Ga (G91 (f:=I64) (xs:=(c.2.set c.1.toNat e)) (z:=i) G5f O O O O (Ex x).1 O O O O) O) (R9 (b9 (G1 (JLm (I64 c.1) O ?_)))))))
   obtain⟨a2,c1,h⟩:=J4 h
   refine JLh (I64 a2) (Y4 c1 O O O) O (JLm (I64 a2) O (G6 (d3 _ _ d4 (a2,((c.2.set c.1.toNat e).set n.toNat i)) (app1 b4 h) (by omega) ⟨⟨.same rfl,.same rfl,.same rfl,.same (Rn _ _ cmp_d),.same rfl,.same rfl,G⟩,⟨⟨_,rfl,.vec⟩,G⟩,rfl⟩)))
  ·
   refine Hd (d0 (G1 (JLm (I64 d.1) O ?_)))
   obtain⟨a3,c2,h⟩:=J4 h
   refine JLh (I64 a3) (Hv c2 O O O) O (JLm (I64 a3) O (G6 (e3 _ _ m3 (a3,c.2) (app1 c7 h) (by omega) ⟨⟨.same rfl,.same rfl,.same rfl,.same (Rn _ _ cmp_d),.same rfl,G⟩,⟨⟨_,rfl,.vec⟩,G⟩,rfl⟩)))
 ·
  refine Hd ?_
  obtain rfl:=Ez h
  exact⟨[],[(1058,.vec 3 1 data_q (d.2.map I64))],⟨⟨_,O,.vec⟩,G⟩,O,G,O,O⟩

def Ym (F:Nat) (data:List Int) (a:Int) (b:Int) (limit:Int) (cmp:Int→Int→Option Int):Option (List Int):=
 loop (fun f (c:Int×Int×Int×Bool×Bool)=>
  chk (c.2.1 - c.1) fun d=>
  bif decide (d≤12) then
  (bnd (R1 F data c.1 c.2.1 cmp) fun e=>
   some e)
  else
  (bif decide (c.2.2.1=0) then
   (none)
   else
   (bif (!c.2.2.2.1) then
    (none)
    else
    (none)))) F (a,b,limit,true,true)
theorem G1e (F:Nat) (data:List Int) (data_q:Nat) (a:Int) (b:Int) (limit:Int) (cmp:Int→Int→Option Int) (cmp_f:FuncId) (cmp_c:List AV) (cmp_B:Hi E8 cmp_f=true) (cmp_d:Re (fun _=>false) cmp_c=true) (cmp_w:∀ a0 a1 q,cmp a0 a1=some q→Pure E8 cmp_f ([I64 a0,I64 a1]++cmp_c) (·=I64 q)) (r:(List Int)) (h:Ym F data a b limit cmp=some r):Jq E8 78 [.vec 1058 data_q 1 data.length,I64 a,I64 b,I64 limit,.fn cmp_f cmp_c] [(1058,.vec 3 1 data_q (data.map I64))] (fun av L'=>av=.tup []∧L'=[(1058,.vec 3 1 data_q (r.map I64))]):=by
 unfold Ym at h
 refine Y9 [1058] [] Try.func78 O O (Gf1 O) (Jr fun v=>(JLm (BL true) O (G6 (v (Jr fun w=>(JLm (BL true) O (G6 (w (Gf ?_)))))))))
 obtain⟨x,g,h⟩:=Zg h
 refine H7 (fun d (c:Int×Int×Int×Bool×Bool)=>loop x d c=some r) (fun d c=>[(0,.vec 1058 data_q 1 data.length),(1,I64 c.1),(2,I64 c.2.1),(3,I64 c.2.2.1),(4,.fn cmp_f cmp_c),(10,BL c.2.2.2.1),(11,BL c.2.2.2.2)]) (fun d c=>[(1058,.vec 3 1 data_q (data.map I64))]) (fun d=>d) F (a,b,limit,true,true) h ⟨⟨.same O,.same O,.same O,.same O,.same (Rn _ _ cmp_d),.same O,.same O,G⟩,⟨⟨_,O,.vec⟩,G⟩,O⟩ ?_
 clear h
 intro d c i a5 a6
 obtain⟨a7,y,hm_23,z,h⟩:=Yb i
 replace h:=H24 g h
 refine Gf (Jr fun j=>(JLm (I64 c.2.1) O (JLm (I64 c.1) O ?_)))
 obtain⟨e,k,h⟩:=J4 h
 refine JLh (I64 e) (Y4 k O O O) O (JLm (I64 e) O (G6 (j (Js fun l=>Jr fun m=>(JLm (I64 e) O (JLh (BL (decide (e≤12))) (J81 O O O) O (G6 (m (JCc O h (fun h hb=>?_) (fun h hb=>?_))))))))))
 ·
  refine Jr fun n=>(JLm (.vec 1058 data_q 1 data.length) O (JLm (I64 c.1) O (JLm (I64 c.2.1) O (JLm (.fn cmp_f cmp_c) O ?_))))
  obtain⟨f,o,h⟩:=Gc h
  refine JLh (.tup []) (Gef (args:=[.vec 1058 data_q 1 data.length,I64 c.1,I64 c.2.1,.fn cmp_f cmp_c]) (L0:=[(1058,.vec 3 1 data_q (data.map I64))]) (Lr:=[(1058,.vec 3 1 data_q (f.map I64))]) O (Zp F data data_q c.1 c.2.1 cmp cmp_f cmp_c cmp_B cmp_d cmp_w f o) J93 ⟨.inl O,O,.inl O,O,.inl O,O,.inl O,(Rn _ _ cmp_d),G⟩ ⟨O,G⟩ O O O) O (G6 (n (H0 ?_)))
  obtain rfl:=Ez h
  exact⟨[],[(1058,.vec 3 1 data_q (f.map I64))],⟨⟨_,O,.vec⟩,G⟩,O,G,O,O⟩
 ·
  refine Gi (l (Js fun p=>Jr fun s=>(JLm (I64 c.2.2.1) O (JLh (BL (decide (c.2.2.1=0))) (Rq O O O) O (G6 (s (JCc O h (fun h hb=>?_) (fun h hb=>?_))))))))
  ·
   refine Js fun a2=>?_
   cases h
  ·
   refine Gi (p (Js fun t=>Jr fun u=>(JLm (BL c.2.2.2.1) O (JLh (BL (!c.2.2.2.1)) (Yr (b:=c.2.2.2.1) O O) O (G6 (u (JCc O h (fun h hb=>?_) (fun h hb=>?_))))))))
   ·
    refine Js fun a3=>?_
    cases h
   ·
    refine Gi (t (Js fun a4=>?_))
    cases h

def G0f (F:Nat) (x:List Int) (cmp:Int→Int→Option Int):Option (List Int):=
 bnd (G83 (IntKind.u64.wrap (x.length:Int))) fun a=>
 bnd (Ym F x 0 (x.length:Int) a cmp) fun b=>
 some b
theorem G54 (F:Nat) (x:List Int) (x_q:Nat) (cmp:Int→Int→Option Int) (cmp_f:FuncId) (cmp_c:List AV) (cmp_B:Hi E8 cmp_f=true) (cmp_d:Re (fun _=>false) cmp_c=true) (cmp_w:∀ a0 a1 q,cmp a0 a1=some q→Pure E8 cmp_f ([I64 a0,I64 a1]++cmp_c) (·=I64 q)) (r:(List Int)) (h:G0f F x cmp=some r):Jq E8 51 [.vec 1058 x_q 1 x.length,.fn cmp_f cmp_c] [(1058,.vec 3 1 x_q (x.map I64))] (fun av L'=>av=.tup []∧L'=[(1058,.vec 3 1 x_q (r.map I64))]):=by
 unfold G0f at h
 refine Y9 [1058] [] Try.func51 O O (Gf1 O) (Jr fun c=>(JLm (.vec 1058 x_q 1 x.length) O (Ga3 (f:=I64) (xs:=x) G7 O O O (fun g=>?_) O O O)))
 refine JLm (E7 x.length) O (G6 (c (G1 (JLm (.vec 1058 x_q 1 x.length) O (JLm (E7 x.length) O (JLm (E7 x.length) O (JLh (.sc (.int .u64 (IntKind.u64.wrap (x.length:Int)))) (J05 J91 Hc0 O O O) O ?_)))))))
 obtain⟨a,d,h⟩:=Gc h
 refine JLh (I64 a) (Gr O (H74 (IntKind.u64.wrap (x.length:Int)) a d) J98 ⟨O,O,G⟩) O (JLm (.fn cmp_f cmp_c) O ?_)
 obtain⟨b,e,h⟩:=Gc h
 refine JLh (.tup []) (Gef (args:=[.vec 1058 x_q 1 x.length,I64 0,E7 x.length,I64 a,.fn cmp_f cmp_c]) (L0:=[(1058,.vec 3 1 x_q (x.map I64))]) (Lr:=[(1058,.vec 3 1 x_q (b.map I64))]) O (G1e F x x_q 0 (x.length:Int) a cmp cmp_f cmp_c cmp_B cmp_d cmp_w b e) J99 ⟨.inl O,O,.inl O,O,.inl O,O,.inl O,O,.inl O,(Rn _ _ cmp_d),G⟩ ⟨O,G⟩ O O O) O (G6 ?_)
 obtain rfl:=Ez h
 exact⟨[],[(1058,.vec 3 1 x_q (b.map I64))],⟨⟨_,O,.vec⟩,G⟩,O,G,O,O⟩

def R8 (F:Nat) (y:Gp) (order:List Int):Option ((List G5)×Int):=
 bnd (Qm y order) fun j=>
 bif decide (j.2≠0) then
 (some ([],j.2))
 else
 (loop (fun k (b:(List G5)×(List (List Int))×Int)=>
   bnd (R3 (Gp.mk b.2.1 b.2.2) order) fun f=>
   bif decide ((f.length:Int)=0) then
   (some (b.1,0))
   else
   (bnd (G0f F f (fun z0 z1=>Zh z0 z1 order)) fun l=>
    each (fun g r (c:(List G5)) i=>
     jp (fun e=>
      bnd (G1c (Gp.mk b.2.1 b.2.2) g) fun a=>
      Qu b.2.1 a.1 fun m=>
      chk ((m.length:Int) - 1) fun n=>
      bif decide (a.2.1 < n) then
      (e ())
      else
      (bnd (Qh order g) fun o=>
       bnd (G84 (Gp.mk b.2.1 b.2.2) order a.1 o) fun d=>
       bif decide (0≤d) then
       (need (decide ((c.length+[(G5.mk a.1 d)].length)*16≤140737488355328∧c.length+[(G5.mk a.1 d)].length≤maxLen)) <|
        chk (((c++[(G5.mk a.1 d)]).length:Int) - 1) fun p=>
        Qu (c++[(G5.mk a.1 d)]) p fun q=>
        bnd (Gea (Gp.mk b.2.1 b.2.2) q) fun h=>
        k ((c++[(G5.mk a.1 d)]),h.1.Stacks,h.1.Height))
       else
       (e ()))) fun(s:Unit)=>
     i c)
    (fun(c:(List G5))=>
     some ([],360)) l 0 b.1)) F ([],y.Stacks,y.Height))
theorem Ye (F:Nat) (y:Gp) (order:List Int) (r:(List G5)×Int) (h:R8 F y order=some r):Pure E8 25 [.agg [LS 1 (E1) y.Stacks,I64 y.Height],E1 order] (·=.tup [E2 r.1,I64 r.2]):=by
 unfold R8 at h
 refine Hc [.tmp 4,.tmp 5] Try.func25 O O (Jr fun e0=>(JLh (.ptr 1032 0) (Q3 (cs:=[LS 1 (E1) y.Stacks,I64 y.Height]) 1032 O O O O O) O (JLh (.ptr 1033 0) (Q3 (cs:=[E1 order]) 1033 O O O O O) O (JLh (E2 ([]:List G5)) (Jj 2 O O) O (JLm (I64 0) O (G6 (e0 (H5 [(2,.ptr 1032 0),(3,.dptr [E1 order])] [(1032,.box 24 [LS 1 (E1) y.Stacks,I64 y.Height])] 1033 rfl rfl rfl ⟨⟨_,rfl,.boxEq rfl rfl⟩,G⟩ rfl (by exact⟨.conv (.same rfl),.ptr,G⟩) (J7a (Js fun e1=>Jr fun e2=>(JLh (.agg [LS 1 (E1) y.Stacks,I64 y.Height]) (Je Hn O O O O) O (JLh (E1 order) (Gk H4 O O O) O ?_))))))))))))
 obtain⟨m,e3,h⟩:=Gc h
 refine JLh (.tup [I64 m.1,I64 m.2]) (Gr O (Yu y order m e3) G98 ⟨O,O,O,O,G⟩) O (JLm (.tup [I64 m.1,I64 m.2]) O (JLh (I64 m.1) (Gs O O O) O (JLh (I64 m.2) (Gs O O O) O (JLm (I64 m.1) O (JLm (I64 m.2) O (G6 (e2 (Jr fun e4=>(JLm (I64 m.2) O (JLh (BL (decide (m.2≠0))) (G06 O O O) O (G6 (e4 (JCc O h (fun h hb=>?_) (fun h hb=>?_))))))))))))))
 ·
  refine Jr fun e5=>(JLm (I64 m.2) O (JLh (E2 ([]:List G5)) (Jj 2 O O) O (JLm (I64 m.2) O (G6 (e5 (H5 [(4,E2 ([]:List G5)),(5,I64 m.2)] [] 1032 rfl rfl rfl G rfl (by exact⟨.conv (.same rfl),.conv (.same rfl),G⟩) (H0 (⟨[E2 ([]:List G5),I64 m.2],[],G,O,⟨⟨_,O,.conv (.same O)⟩,⟨_,O,.conv (.same O)⟩,G⟩,O,congrArg (fun r:(List G5)×Int=>(.tup [E2 r.1,I64 r.2]:AV)) (Ez h)⟩))))))))
 ·
  refine Gi (e1 (Jr fun e6=>(JLh (OW 1034 2 G5.av ([]:List G5)) (Gd0 1034 39 2 O O O) O (G6 (e6 (Js fun e7=>J7b (e7 (Gf ?_))))))))
  obtain⟨b9,e8,h⟩:=Zg h
  refine H7 (fun t (b:(List G5)×(List (List Int))×Int)=>loop b9 t b=some r) (fun t b=>[(2,.ptr 1032 0),(3,.dptr [E1 order]),(8,OW 1034 2 G5.av b.1)]) (fun t b=>[(1034,.spare 39 2 b.1.length b.1.length),(1032,.box 24 [LS 1 (E1) b.2.1,I64 b.2.2])]) (fun t=>t) F ([],y.Stacks,y.Height) h ⟨(.sm O O),⟨⟨_,O,.same⟩,⟨_,O,.boxL O (.sm O O)⟩,G⟩,O⟩ ?_
  clear h
  intro t b f0 K9 e9
  obtain⟨m9,g1,hm_9,f1,h⟩:=Yb f0
  replace h:=H24 e8 h
  refine Gf (Jr fun a3=>(JLh (.agg [LS 1 (E1) b.2.1,I64 b.2.2]) (Je Hn O O O O) O (JLh (E1 order) (Gk H4 O O O) O ?_)))
  obtain⟨j,a4,h⟩:=Gc h
  refine G56 O O O (G59 (args:=[.agg [LS 1 (E1) b.2.1,I64 b.2.2],E1 order]) (L0:=[]) (u:=fun p=>.vec 1058 p 1 j.length) (Lr:=fun p=>[(1058,.vec 3 1 p (j.map I64))]) O (Hb1 (Gp.mk b.2.1 b.2.2) order j a4) H36 ⟨.inl O,O,.inl O,O,G⟩ G O (fun _=>O)) ?_
  rintro u_ L_ ⟨e,rfl,rfl⟩
  refine JLm (.vec 1058 e 1 j.length) O (G6 (a3 (Js fun a5=>Jr fun a6=>(JLm (.vec 1058 e 1 j.length) O (Ga3 (f:=I64) (xs:=j) G7 O O O (fun f8=>?_) O O O)))))
  refine JLh (BL (decide ((j.length:Int)=0))) (Rq O O O) O (G6 (a6 (JCc O h (fun h hb=>?_) (fun h hb=>?_))))
  ·
   refine Jr fun a7=>(JLm (OW 1034 2 G5.av b.1) O (JLm (OW 1034 2 G5.av b.1) O (JLm (I64 0) O (G6 (a7 (H5 [(4,OW 1034 2 G5.av b.1),(5,I64 0)] [(1034,.spare 39 2 b.1.length b.1.length),(1058,.vec 3 1 e (j.map I64))] 1032 rfl rfl rfl ⟨⟨_,rfl,.same⟩,⟨_,rfl,.vec⟩,G⟩ rfl (by exact⟨.conv (.same rfl),.conv (.same rfl),G⟩) (H0 (⟨[E2 b.1,I64 0],[],G,O,⟨⟨_,O,.conv (.list O)⟩,⟨_,O,.conv (.same O)⟩,G⟩,O,congrArg (fun r:(List G5)×Int=>(.tup [E2 r.1,I64 r.2]:AV)) (Ez h)⟩))))))))
  ·
   refine Gi (a5 (Jr fun a8=>(JLm (.vec 1058 e 1 j.length) O (JLh (.fn 52 [.dptr [E1 order]]) (J02 (cs:=[.dptr [E1 order]]) O O) O ?_))))
   obtain⟨g,a9,h⟩:=Gc h
   refine JLh (.tup []) (Gef (args:=[.vec 1058 e 1 j.length,.fn 52 [.dptr [E1 order]]]) (L0:=[(1058,.vec 3 1 e (j.map I64))]) (Lr:=[(1058,.vec 3 1 e (g.map I64))]) O (G54 F j e (fun z0 z1=>Zh z0 z1 order) 52 [.dptr [E1 order]] Ja4 O (fun z0 z1 q hq=>Gfa z0 z1 order q hq) g a9) Ja5 ⟨.inl O,O,.inl O,O,G⟩ ⟨O,G⟩ O O O) O (G6 (a8 (Js fun b0=>Jr fun b1=>(JLm (.vec 1058 e 1 j.length) O (Ga3 (f:=I64) (xs:=g) G7 O O O (fun b2=>?_) O O O)))))
   refine JLm (I64 0) O (G6 (b1 (Gf ?_)))
   obtain⟨f2,b3,b4,a0,h⟩:=J0 h
   refine H7 (fun k (c:(List G5))=>each f2 b3 (List.drop k g) k c=some r) (fun k c=>[(2,.ptr 1032 0),(3,.dptr [E1 order]),(8,OW 1034 2 G5.av c),(35,.vec 1058 e 1 j.length),(36,E7 g.length),(37,E7 k)]) (fun k c=>[(1034,.spare 39 2 c.length c.length),(1058,.vec 3 1 e (g.map I64)),(1032,.box 24 [LS 1 (E1) b.2.1,I64 b.2.2])]) (fun k=>g.length - k) 0 b.1 h ⟨(.sm O O),⟨⟨_,rfl,.same⟩,⟨_,rfl,.vec⟩,fbQ O (.sm O O),G⟩,rfl⟩ ?_
   clear h
   intro k c v g2 f3
   refine Jr fun b5=>(JLh (BL (decide ((k:Int) < (g.length:Int)))) (Hu O O O) O (G6 (b5 (Js fun b6=>Gh O (fun hb=>?_) (fun hb=>?_)))))
   ·
    have w:=Jn hb
    obtain⟨l,f9,x,b7,h⟩:=Hp v w
    replace h:=Y1 b4 h
    refine Gi (b6 ?_)
    obtain⟨b8,a1,h⟩:=Zw h
    refine Yw (fun o:Unit=>b8 o=some r) (fun o=>[(2,.ptr 1032 0),(3,.dptr [E1 order]),(8,OW 1034 2 G5.av c),(35,.vec 1058 e 1 j.length),(36,E7 g.length),(37,E7 k)]) (fun o=>[(1034,.spare 39 2 c.length c.length),(1058,.vec 3 1 e (g.map I64)),(1032,.box 24 [LS 1 (E1) b.2.1,I64 b.2.2])]) (fun Kj75 ej75=>?_) ?_
    ·
     refine Gf (Jr fun c0=>(JLh (.vptr 1058 e k 0) (Ri (f:=I64) (xs:=g) (y:=l) O O O O G7 x O) O (JLh (I64 l) (G31 (f:=I64) (xs:=g) (y:=l) Gg O O O x O O) O (JLm (I64 l) O (G6 (c0 (Jr fun c1=>(JLh (.agg [LS 1 (E1) b.2.1,I64 b.2.2]) (Je Hn O O O O) O (JLm (I64 l) O ?_)))))))))
     obtain⟨a,c2,h⟩:=Gc h
     refine JLh (.tup [I64 a.1,I64 a.2.1,BL a.2.2]) (Gr O (Gbf (Gp.mk b.2.1 b.2.2) l a c2) H35 ⟨O,O,O,O,G⟩) O (JLm (.tup [I64 a.1,I64 a.2.1,BL a.2.2]) O (JLh (I64 a.1) (Gs O O O) O (JLh (I64 a.2.1) (Gs O O O) O (JLh (BL a.2.2) (Gs O O O) O (JLm (I64 a.1) O (JLm (I64 a.2.1) O (JLm (BL a.2.2) O (G6 (c1 (Js fun c3=>Jr fun c4=>(JLm (I64 a.2.1) O (JLh (.ptr 1032 0) (Hs Ht O O) O (JLh (LS 1 (E1) b.2.1) (Hr Gn O O O O) O (JLm (I64 a.1) O ?_))))))))))))))
     obtain⟨g3,z,c5,c6,h⟩:=Qs h
     refine JLh (.dptr [E1 z]) (Gz (f:=(E1)) (xs:=b.2.1) (y:=z) O O O Gd c6 c5) O (JLh (E1 z) (Gk H4 O O O) O (JLl G7 O O O fun g0=>?_))
     obtain⟨a2,c7,h⟩:=J4 h
     refine JLh (I64 a2) (Y4 c7 O O O) O (JLh (BL (decide (a.2.1 < a2))) (Hu O O O) O (G6 (c4 (JCc O h (fun h hb=>?_) (fun h hb=>?_)))))
     ·
      refine Hd (ej75 _ _ () h ⟨(.sm O O),⟨⟨_,rfl,.same⟩,⟨_,rfl,.vec⟩,fbQ O (.sm O O),G⟩,rfl⟩)
     ·
      refine Gi (c3 (Js fun c8=>Qn (l':=[(2,.ptr 1032 0),(3,.dptr [E1 order]),(8,OW 1034 2 G5.av c),(11,I64 l),(12,I64 a.1),(35,.vec 1058 e 1 j.length),(36,E7 g.length),(37,E7 k)]) (L':=[(1034,.spare 39 2 c.length c.length),(1058,.vec 3 1 e (g.map I64)),(1032,.box 24 [LS 1 (E1) b.2.1,I64 b.2.2])]) ⟨(.sm O O),⟨⟨_,rfl,.same⟩,⟨_,rfl,.vec⟩,fbQ O (.sm O O),G⟩,rfl⟩ ?_))
      obtain⟨s,c9,h⟩:=Gc h
      obtain⟨d,d0,h⟩:=Gc h
      refine JC_d0 Jf (by kernel_rfl) (Dq (.agg [LS 1 (E1) b.2.1,I64 b.2.2]) (Je Hn O O O O) O (Dq (E1 order) (Gk H4 O O O) O (Dq (I64 a.1) (G2 O O) O (Dq (E1 order) (Gk H4 O O O) O (Dq (I64 l) (G2 O O) O (Dq (I64 s) (Gr (args:=[E1 order,I64 l]) O (R7 order l s c9) G35 ⟨O,O,O,O,G⟩) O (Dq (I64 d) (Gr (args:=[.agg [LS 1 (E1) b.2.1,I64 b.2.2],E1 order,I64 a.1,I64 s]) O (H75 (Gp.mk b.2.1 b.2.2) order a.1 s d d0) Ja2 ⟨O,O,O,O,O,O,O,O,G⟩) O (Dq (I64 d) (G4 O O) O (Dnil (c8 (Jr fun d1=>(JLm (I64 d) O (JLh (BL (decide (0≤d))) (G45 O O O) O (G6 (d1 (JCc O h (fun h hb=>?_) (fun h hb=>?_)))))))))))))))))
      ·
       refine Jr fun d2=>(JLm (OW 1034 2 G5.av c) O (JLm (I64 a.1) O (JLm (I64 d) O (JLh (.agg [I64 a.1,I64 d]) (Jk (cs:=[I64 a.1,I64 d]) [(0,1),(1,1)] [I64 0,I64 0] [E0,E0] G1f G5e (zzQ O) O O) O (JLh (E2 [(G5.mk a.1 d)]) (H9 (xs:=[.agg [I64 a.1,I64 d]]) O ⟨O,O,G⟩ J8 G3a O O O O) O ?_)))))
       obtain⟨d3,h⟩:=Hz h
       refine JLh (OW 1034 2 G5.av (c++[(G5.mk a.1 d)])) (Rb (f:=G5.av) (xs:=c) (ys:=[(G5.mk a.1 d)]) O O O O J8 Gd5 d3 (fun _=>O) (.inl O) O) O (JLm (OW 1034 2 G5.av (c++[(G5.mk a.1 d)])) O (G6 (d2 (Js fun d4=>Qn (l':=[(2,.ptr 1032 0),(3,.dptr [E1 order]),(8,OW 1034 2 G5.av (c++[(G5.mk a.1 d)]))]) (L':=[(1034,.spare 39 2 (c++[(G5.mk a.1 d)]).length (c++[(G5.mk a.1 d)]).length),(1058,.vec 3 1 e (g.map I64)),(1032,.box 24 [LS 1 (E1) b.2.1,I64 b.2.2])]) ⟨(.sm O O),⟨⟨_,O,.same⟩,⟨_,O,.vec⟩,⟨_,O,.boxL O (.sm O O)⟩,G⟩,O⟩ ?_))))
       obtain⟨f4,d5,h⟩:=J4 h
       obtain⟨g4,n,d6,d7,h⟩:=Qs h
       obtain⟨i,d8,h⟩:=Gc h
       refine Jt [11] (.replicate 12 0) [0,0,0,0,0,0,0,0,0,0,1,0] [[(1034,.spare 39 2 (c++[(G5.mk a.1 d)]).length (c++[(G5.mk a.1 d)]).length),(1058,.vec 3 1 e (g.map I64)),(1032,.box 24 [LS 1 (E1) b.2.1,I64 b.2.2])],((1032,.box 24 [LS 1 (E1) i.1.Stacks,I64 i.1.Height])::[(1034,.spare 39 2 (c++[(G5.mk a.1 d)]).length (c++[(G5.mk a.1 d)]).length),(1058,.vec 3 1 e (g.map I64)),(1032,.box 24 [LS 1 (E1) b.2.1,I64 b.2.2])])] Jf (by kernel_rfl) rfl rfl ?_
       refine Gb (u:=.agg [LS 1 (E1) b.2.1,I64 b.2.2]) O O ⟨Ga (Je Hn O O O O) O,G⟩ (Gb (u:=OW 1034 2 G5.av (c++[(G5.mk a.1 d)])) O O ⟨Ga (G2 O O) O,G⟩ (Gb (u:=OW 1034 2 G5.av (c++[(G5.mk a.1 d)])) O O ⟨Ga (G2 O O) O,G⟩ (Gb (u:=I64 ((c++[(G5.mk a.1 d)]).length:Int)) O O ⟨Ga (Q6 (f:=G5.av) (xs:=(c++[(G5.mk a.1 d)])) J8 O O) O,G⟩ (Gb (u:=I64 f4) O O ⟨Ga (Y4 d5 O O O) O,G⟩ (Gb (u:=.dptr [I64 n.From,I64 n.To]) O O ⟨Ga (Gz (f:=G5.av) (xs:=(c++[(G5.mk a.1 d)])) (y:=n) O O O J8 d7 d6) O,G⟩ (Gb (u:=.agg [I64 n.From,I64 n.To]) O O ⟨Ga (Gv G3d O O O) O,G⟩ (Gb (u:=.tup [.agg [LS 1 (E1) i.1.Stacks,I64 i.1.Height],I64 i.2]) O O ⟨Ga (Gr O (Hf7.down (Gp.mk b.2.1 b.2.2) n i d8) Jb0 ⟨O,O,O,O,G⟩) O,G⟩ (Gb (u:=.tup [.agg [LS 1 (E1) i.1.Stacks,I64 i.1.Height],I64 i.2]) O O ⟨Ga (G2 O O) O,G⟩ (Gb (u:=.agg [LS 1 (E1) i.1.Stacks,I64 i.1.Height]) O O ⟨Ga (Gs O O O) O,G⟩ (Gb (u:=I64 i.2) O O ⟨Ga (Gs O O O) O,Ga (Gs O O O) O,G⟩ (Gfb (u:=.junk) O O O O (Ga (Ho (u:=.agg [LS 1 (E1) i.1.Stacks,I64 i.1.Height]) (ds:=[LS 1 (E1) i.1.Stacks,I64 i.1.Height]) Zu O O O O O O O O) O) (R9 ?_))))))))))))
       refine d4 (Hd (e9 _ _ m9 ((c++[(G5.mk a.1 d)]),i.1.Stacks,i.1.Height) (app1 f1 h) (by omega) ⟨(.sm O O),⟨⟨_,rfl,.same⟩,fbQ O (.sm O O),G⟩,rfl⟩))
      ·
       refine Gi (ej75 _ _ () h ⟨(.sm O O),⟨⟨_,rfl,.same⟩,⟨_,rfl,.vec⟩,fbQ O (.sm O O),G⟩,rfl⟩)
    ·intro o h
     replace h:=app1 a1 h
     refine G1 (JLh (I64 ((k+1:Nat):Int)) (Hv (Hh w b2) O O O) O (JLm (I64 ((k+1:Nat):Int)) O (G6 (f3 _ _ (k+1) c (app1 b7 h) (by omega) ⟨(.sm O O),⟨⟨_,rfl,.same⟩,⟨_,rfl,.vec⟩,fbQ O (.sm O O),G⟩,rfl⟩))))
   ·
    have h:=app1 a0 (Hq v (Ha hb))
    refine Hd (b0 (Jr fun d9=>(JLh (E2 ([]:List G5)) (Jj 2 O O) O (JLm (I64 360) O (G6 (d9 (H5 [(4,E2 ([]:List G5)),(5,I64 360)] [(1034,.spare 39 2 c.length c.length),(1058,.vec 3 1 e (g.map I64))] 1032 rfl rfl rfl ⟨⟨_,rfl,.same⟩,⟨_,rfl,.vec⟩,G⟩ rfl (by exact⟨.conv (.same rfl),.conv (.same rfl),G⟩) (H0 (⟨[E2 ([]:List G5),I64 360],[],G,O,⟨⟨_,O,.conv (.same O)⟩,⟨_,O,.conv (.same O)⟩,G⟩,O,congrArg (fun r:(List G5)×Int=>(.tup [E2 r.1,I64 r.2]:AV)) (Ez h)⟩)))))))))

def Jv (a:List Int) (b:List Int):Option Bool:=
 bif decide ((a.length:Int)≠(b.length:Int)) then
 (some false)
 else
 (each (fun d e (f:Unit) c=>
   Qu b (e:Int) fun g=>
   bif decide (d≠g) then
   (some false)
   else
   (c ()))
  (fun(f:Unit)=>
   some true) a 0 ())
theorem Yy (a:List Int) (b:List Int) (r:Bool) (h:Jv a b=some r):Pure E8 36 [E1 a,E1 b] (·=BL r):=by
 unfold Jv at h
 refine Hc [.tmp 4] Try.func36 O O (Jr fun a0=>(JLm (BL false) O (G6 (a0 (Js fun a1=>Jr fun a2=>(JLm (E1 a) O (JLl G7 O O O fun a9=>(JLm (E1 b) O (JLl G7 O O O fun b0=>(JLh (BL (decide ((a.length:Int)≠(b.length:Int)))) (G06 O O O) O (G6 (a2 (JCc O h (fun h hb=>?_) (fun h hb=>?_))))))))))))))
 ·
  refine Jr fun a3=>(JLm (BL false) O (G6 (a3 (H0 (fin1 BL h)))))
 ·
  refine Gi (a1 (Js fun a4=>Jr fun a5=>(JLm (I64 0) O (G6 (a5 (Gf ?_))))))
  obtain⟨a6,l,m,k,h⟩:=J0 h
  refine H7 (fun c (d:Unit)=>each a6 l (List.drop c a) c d=some r) (fun c d=>[(0,E1 a),(1,E1 b),(5,E7 c)]) (fun c d=>[]) (fun c=>a.length - c) 0 () h ⟨(.sm O O),G,O⟩ ?_
  clear h
  intro c d i b1 a7
  refine Js fun n=>Jr fun o=>(JLm (E7 c) O (JLm (E1 a) O (JLl G7 O O O fun p=>(JLh (BL (decide ((c:Int) < (a.length:Int)))) (Hu O O O) O (G6 (o (Gh O (fun hb=>?_) (fun hb=>?_))))))))
  ·
   have j:=Jn hb
   obtain⟨e,a8,q,s,h⟩:=Hp i j
   replace h:=Y1 m h
   refine Gi (n (Js fun t=>Gf (Js fun u=>?_)))
   obtain⟨b2,g,v,w,h⟩:=Qs h
   refine JC_d0 Jf (by kernel_rfl) (Dq (E1 a) (G2 O O) O (Dq (E7 c) (G2 O O) O (Dq (.dptr [I64 e]) (Gz (f:=I64) (xs:=a) (y:=e) O O O G7 q O) O (Dq (I64 e) (Gk Gg O O O) O (Dq (E1 b) (G2 O O) O (Dq (E7 c) (G2 O O) O (Dq (.dptr [I64 g]) (Gz (f:=I64) (xs:=b) (y:=g) O O O G7 w v) O (Dq (I64 g) (Gk Gg O O O) O (Dq (BL (decide (e≠g))) (G06 O O O) O (Dnil (u (JCc O h (fun h hb=>?_) (fun h hb=>?_)))))))))))))
   ·
    refine Jr fun x=>(JLm (BL false) O (G6 (x (H0 (fin1 BL h)))))
   ·
    refine Gi (t (G1 (JLm (E7 c) O (JLh (I64 ((c+1:Nat):Int)) (Hv (Hh j p) O O O) O (JLm (I64 ((c+1:Nat):Int)) O (G6 (a7 _ _ (c+1) () (app1 s h) (by omega) ⟨(.sm O O),G,rfl⟩)))))))
  ·
   have h:=app1 k (Hq i (Ha hb))
   refine Hd (a4 (Jr fun z=>(JLm (BL true) O (G6 (z (H0 (fin1 BL h)))))))

def Yk (F:Nat) :Option Bool:=
 bnd (G6e (Gp.mk ([[1,3,2],[4],[]]) 3) [1,2,3,4]) fun g=>
 bnd (R8 F (Gp.mk ([[1,3,2],[4],[]]) 3) [1,2,3,4]) fun f=>
 bnd (Z0 F (Gp.mk ([[1,3,2],[4],[]]) 3) [1,2,3,4]) fun h=>
 bnd (Y8 (Gp.mk ([[1,3,2],[4],[]]) 3) [1,2,3,4] f.1) fun b=>
 bnd (Jv g.1 [2,3]) fun a=>
 bnd (bif (!(!a)) then Jm f.1 [(G5.mk 0 1),(G5.mk 0 2)] else some default) fun c=>
 bnd (bif (!((!a)||(!c))) then Jm h.1 [(G5.mk 0 1),(G5.mk 0 2)] else some default) fun d=>
 bnd (bif (!((((!a)||(!c))||(!d))||(!b.1))) then chk (g.2+f.2) some else some 0) fun i=>
 bnd (bif (!((((!a)||(!c))||(!d))||(!b.1))) then chk (i+h.2) some else some 0) fun j=>
 bnd (bif (!((((!a)||(!c))||(!d))||(!b.1))) then chk (j+b.2) some else some 0) fun k=>
 bif (((((!a)||(!c))||(!d))||(!b.1))||(decide (k≠0))) then
 (some false)
 else
 (bnd (R8 F (Gp.mk ([[1,2],[3,4]]) 2) [1,2,3,4]) fun l=>
  bnd (Z0 F (Gp.mk ([[1,2],[3,4]]) 2) [1,2,3,4]) fun m=>
  bnd (Rj 3 [1,2,3,4].length) fun n=>
  bnd (R8 F (Gp.mk ([[1,3],[2]]) 2) ([1,2,3,4].take n)) fun o=>
  bnd (Rj 3 [1,2,3,4].length) fun p=>
  bnd (Z0 F (Gp.mk ([[1,3],[2]]) 2) ([1,2,3,4].take p)) fun q=>
  bif ((((decide (l.2≠360))||(decide (m.2≠6)))||(decide (o.2≠360)))||(decide (q.2≠6))) then
  (some false)
  else
  (bnd (R8 F (Gp.mk ([[1,3],[2,4],[]]) 2) [1,2,3,4]) fun e=>
   bnd (bif decide (e.2=0) then Jm e.1 [(G5.mk 1 2),(G5.mk 0 2)] else some default) fun r=>
   some ((decide (e.2=0))&&r)))
theorem Gc5 (F:Nat)  (r:Bool) (h:Yk F =some r):Pure E8 12 [] (·=BL r):=by
 unfold Yk at h
 refine Hc [.tmp 0] Try.func12 O O (Jr fun c6=>(JLm (BL false) O (G6 (c6 ?_))))
 refine Jr fun c7=>(JLh (E1 [1,3,2]) (H9 (xs:=[I64 1,I64 3,I64 2]) O ⟨O,O,O,O,O,O,G⟩ G7 Jd O O O O) O (JLh (E1 [4]) (H9 (xs:=[I64 4]) O ⟨O,O,G⟩ G7 Jd O O O O) O (JLh (LS 1 (E1) ([[1,3,2],[4],[]])) (H2e (xs:=[E1 [1,3,2],E1 [4],E1 ([]:List Int)]) O ⟨.inl O,O,.inl O,O,.inr ⟨_,O,O⟩,O,G⟩ Gd Yo O O O O) O (JLh (.agg [LS 1 (E1) ([[1,3,2],[4],[]]),I64 3]) (Jk (cs:=[LS 1 (E1) ([[1,3,2],[4],[]]),I64 3]) [(0,1),(1,1)] [LS 1 (E1) ([]:List (List Int)),I64 0] [.slice none 0 0,E0] G8c G94 ⟨.inr ⟨_,O,O⟩,.inl O,G⟩ O O) O (JLh (.ptr 1007 0) (Jg 1007 2 G14 O O) O (J7 (u:=.junk) (Ho (u:=.agg [LS 1 (E1) ([[1,3,2],[4],[]]),I64 3]) (ds:=[LS 1 (E1) ([[1,3,2],[4],[]]),I64 3]) Zu O O O O O O O O) (G6 (c7 ?_))))))))
 refine H5 [(1,.dptr [LS 1 (E1) ([[1,3,2],[4],[]]),I64 3])] [] 1007 rfl rfl rfl G rfl (by exact⟨.ptr,G⟩) (Jr fun c8=>(JLh (E1 [1,2,3,4]) (H9 (xs:=[I64 1,I64 2,I64 3,I64 4]) O ⟨O,O,O,O,O,O,O,O,G⟩ G7 Jd O O O O) O (JLm (E1 [1,2,3,4]) O (G6 (c8 (Jr fun c9=>(JLh (.agg [LS 1 (E1) ([[1,3,2],[4],[]]),I64 3]) (Gv Hn O O O) O (JLm (E1 [1,2,3,4]) O ?_))))))))
 obtain⟨o,d0,h⟩:=Gc h
 refine JLh (.tup [E1 o.1,I64 o.2]) (Gr O (Gf3 (Gp.mk ([[1,3,2],[4],[]]) 3) [1,2,3,4] o d0) Hd0 ⟨O,O,O,O,G⟩) O (JLm (.tup [E1 o.1,I64 o.2]) O (JLh (E1 o.1) (Gs O O O) O (JLh (I64 o.2) (Gs O O O) O (JLm (E1 o.1) O (JLm (I64 o.2) O (G6 (c9 (Jr fun d1=>(JLh (.agg [LS 1 (E1) ([[1,3,2],[4],[]]),I64 3]) (Gv Hn O O O) O (JLm (E1 [1,2,3,4]) O ?_))))))))))
 obtain⟨l,d2,h⟩:=Gc h
 refine JLh (.tup [E2 l.1,I64 l.2]) (Gr O (Ye F (Gp.mk ([[1,3,2],[4],[]]) 3) [1,2,3,4] l d2) G99 ⟨O,O,O,O,G⟩) O (JLm (.tup [E2 l.1,I64 l.2]) O (JLh (E2 l.1) (Gs O O O) O (JLh (I64 l.2) (Gs O O O) O (JLm (E2 l.1) O (JLm (I64 l.2) O (G6 (d1 (Jr fun d3=>(JLh (.agg [LS 1 (E1) ([[1,3,2],[4],[]]),I64 3]) (Gv Hn O O O) O (JLm (E1 [1,2,3,4]) O ?_))))))))))
 obtain⟨n,d4,h⟩:=Gc h
 refine JLh (.tup [E2 n.1,I64 n.2]) (Gr O (G11 F (Gp.mk ([[1,3,2],[4],[]]) 3) [1,2,3,4] n d4) Gdb ⟨O,O,O,O,G⟩) O (JLm (.tup [E2 n.1,I64 n.2]) O (JLh (E2 n.1) (Gs O O O) O (JLh (I64 n.2) (Gs O O O) O (JLm (E2 n.1) O (JLm (I64 n.2) O (G6 (d3 (Jr fun v=>(JLh (.agg [LS 1 (E1) ([[1,3,2],[4],[]]),I64 3]) (Gv Hn O O O) O (JLm (E1 [1,2,3,4]) O (JLm (E2 l.1) O ?_)))))))))))
 obtain⟨d,w,h⟩:=Gc h
 refine JLh (.tup [BL d.1,I64 d.2]) (Gr O (Gb5 (Gp.mk ([[1,3,2],[4],[]]) 3) [1,2,3,4] l.1 d w) Hcf ⟨O,O,O,O,O,O,G⟩) O (JLm (.tup [BL d.1,I64 d.2]) O (JLh (BL d.1) (Gs O O O) O (JLh (I64 d.2) (Gs O O O) O (JLm (BL d.1) O (JLm (I64 d.2) O (G6 (v ?_)))))))
 refine Jr fun x=>(JLh (.agg [I64 0,I64 1]) (Jk (cs:=[I64 0,I64 1]) [(0,1),(1,1)] [I64 0,I64 0] [E0,E0] G1f G5e (zzQ O) O O) O (JLh (.agg [I64 0,I64 2]) (Jk (cs:=[I64 0,I64 2]) [(0,1),(1,1)] [I64 0,I64 0] [E0,E0] G1f G5e (zzQ O) O O) O (JLh (E2 [(G5.mk 0 1),(G5.mk 0 2)]) (H9 (xs:=[.agg [I64 0,I64 1],.agg [I64 0,I64 2]]) O ⟨O,O,O,O,G⟩ J8 G3a O O O O) O (JLm (E2 [(G5.mk 0 1),(G5.mk 0 2)]) O (G6 (x (Js fun y=>Jr fun z=>(JLm (E1 o.1) O (JLh (E1 [2,3]) (H9 (xs:=[I64 2,I64 3]) O ⟨O,O,O,O,G⟩ G7 Jd O O O O) O ?_)))))))))
 obtain⟨i,a0,h⟩:=Gc h
 refine JLh (BL i) (Gr O (Yy o.1 [2,3] i a0) H37 ⟨O,O,O,O,G⟩) O (JLh (BL (!i)) (Yr (b:=i) O O) O (JLm (BL (!i)) O (JLo (E2 l.1) [] O .scf G (fun hc=>G2 O O) O (JLo (E2 [(G5.mk 0 1),(G5.mk 0 2)]) [] O .scf G (fun hc=>G2 O O) O ?_))))
 obtain⟨j,a1,h⟩:=Gc h
 refine JLo (BL j) [52,53] O .scf ⟨Ua,Ua,G⟩ (fun hc=>Gr (args:=[E2 l.1,E2 [(G5.mk 0 1),(G5.mk 0 2)]]) O (Qc l.1 [(G5.mk 0 1),(G5.mk 0 2)] j (H3 hc a1)) G60 ⟨O,O,O,O,G⟩) O (JLo (BL (!j)) [54] O .scf ⟨Ua,G⟩ (fun hc=>Yr (b:=j) O O) O (JLh (BL ((!i)||(!j))) (Za O O O O) O (JLm (BL ((!i)||(!j))) O (JLo (E2 n.1) [] O .scf G (fun hc=>G2 O O) O (JLo (E2 [(G5.mk 0 1),(G5.mk 0 2)]) [] O .scf G (fun hc=>G2 O O) O ?_)))))
 obtain⟨m,a2,h⟩:=Gc h
 refine JLo (BL m) [58,59] O .scf ⟨Ua,Ua,G⟩ (fun hc=>Gr (args:=[E2 n.1,E2 [(G5.mk 0 1),(G5.mk 0 2)]]) O (Qc n.1 [(G5.mk 0 1),(G5.mk 0 2)] m (H3 hc a2)) G60 ⟨O,O,O,O,G⟩) O (JLo (BL (!m)) [60] O .scf ⟨Ua,G⟩ (fun hc=>Yr (b:=m) O O) O (JLh (BL (((!i)||(!j))||(!m))) (Za O O O O) O (JLm (BL (((!i)||(!j))||(!m))) O (JLo (BL d.1) [] O .scf G (fun hc=>G2 O O) O (JLo (BL (!d.1)) [64] O .scf ⟨Ua,G⟩ (fun hc=>Yr (b:=d.1) O O) O (JLh (BL ((((!i)||(!j))||(!m))||(!d.1))) (Za O O O O) O (JLm (BL ((((!i)||(!j))||(!m))||(!d.1))) O (JLo (I64 o.2) [] O .scf G (fun hc=>G2 O O) O (JLo (I64 l.2) [] O .scf G (fun hc=>G2 O O) O ?_)))))))))
 obtain⟨d5,a3,h⟩:=Gc h
 refine JLo (I64 d5) [68,69] O .scf ⟨Ua,Ua,G⟩ (fun hc=>Hv (G78 (H3 hc a3)) O O O) O (JLo (I64 n.2) [] O .scf G (fun hc=>G2 O O) O ?_)
 obtain⟨d6,a4,h⟩:=Gc h
 refine JLo (I64 d6) [70,71] O .scf ⟨Ua,Ua,G⟩ (fun hc=>Hv (G78 (H3 hc a4)) O O O) O (JLo (I64 d.2) [] O .scf G (fun hc=>G2 O O) O ?_)
 obtain⟨q,a5,h⟩:=Gc h
 refine JLo (I64 q) [72,73] O .scf ⟨Ua,Ua,G⟩ (fun hc=>Hv (G78 (H3 hc a5)) O O O) O (JLo (BL (decide (q≠0))) [74] O .scf ⟨Ua,G⟩ (fun hc=>G06 O O O) O (JLh (BL (((((!i)||(!j))||(!m))||(!d.1))||(decide (q≠0)))) (Za O O O O) O (G6 (z (JCc O h (fun h hb=>?_) (fun h hb=>?_))))))
 ·
  refine Jr fun a6=>(JLm (BL false) O (G6 (a6 (H0 (fin1 BL h)))))
 ·
  refine Gi (y ?_)
  refine Jr fun a7=>(JLh (E1 [1,2]) (H9 (xs:=[I64 1,I64 2]) O ⟨O,O,O,O,G⟩ G7 Jd O O O O) O (JLh (E1 [3,4]) (H9 (xs:=[I64 3,I64 4]) O ⟨O,O,O,O,G⟩ G7 Jd O O O O) O (JLh (LS 1 (E1) ([[1,2],[3,4]])) (H9 (xs:=[E1 [1,2],E1 [3,4]]) O ⟨O,O,O,O,G⟩ Gd Yo O O O O) O (JLh (.agg [LS 1 (E1) ([[1,2],[3,4]]),I64 2]) (Jk (cs:=[LS 1 (E1) ([[1,2],[3,4]]),I64 2]) [(0,1),(1,1)] [LS 1 (E1) ([]:List (List Int)),I64 0] [.slice none 0 0,E0] G8c G94 ⟨.inr ⟨_,O,O⟩,.inl O,G⟩ O O) O (JLh (.ptr 1008 0) (Jg 1008 2 G14 O O) O (J7 (u:=.junk) (Ho (u:=.agg [LS 1 (E1) ([[1,2],[3,4]]),I64 2]) (ds:=[LS 1 (E1) ([[1,2],[3,4]]),I64 2]) Zu O O O O O O O O) (G6 (a7 ?_))))))))
  refine H5 [(2,E1 [1,2,3,4]),(12,.dptr [LS 1 (E1) ([[1,2],[3,4]]),I64 2])] [] 1008 rfl rfl rfl G rfl (by exact⟨.conv (.same rfl),.ptr,G⟩) (Jr fun a8=>(JLh (.agg [LS 1 (E1) ([[1,2],[3,4]]),I64 2]) (Gv Hn O O O) O (JLm (E1 [1,2,3,4]) O ?_)))
  obtain⟨a,a9,h⟩:=Gc h
  refine JLh (.tup [E2 a.1,I64 a.2]) (Gr O (Ye F (Gp.mk ([[1,2],[3,4]]) 2) [1,2,3,4] a a9) G99 ⟨O,O,O,O,G⟩) O (JLm (.tup [E2 a.1,I64 a.2]) O (JLh (E2 a.1) (Gs O O O) O (JLh (I64 a.2) (Gs O O O) O (JLm (I64 a.2) O (G6 (a8 (Jr fun b0=>(JLh (.agg [LS 1 (E1) ([[1,2],[3,4]]),I64 2]) (Gv Hn O O O) O (JLm (E1 [1,2,3,4]) O ?_)))))))))
  obtain⟨e,b1,h⟩:=Gc h
  refine JLh (.tup [E2 e.1,I64 e.2]) (Gr O (G11 F (Gp.mk ([[1,2],[3,4]]) 2) [1,2,3,4] e b1) Gdb ⟨O,O,O,O,G⟩) O (JLm (.tup [E2 e.1,I64 e.2]) O (JLh (E2 e.1) (Gs O O O) O (JLh (I64 e.2) (Gs O O O) O (JLm (I64 e.2) O (G6 (b0 ?_))))))
  refine Jr fun b2=>(JLh (E1 [1,3]) (H9 (xs:=[I64 1,I64 3]) O ⟨O,O,O,O,G⟩ G7 Jd O O O O) O (JLh (E1 [2]) (H9 (xs:=[I64 2]) O ⟨O,O,G⟩ G7 Jd O O O O) O (JLh (LS 1 (E1) ([[1,3],[2]])) (H9 (xs:=[E1 [1,3],E1 [2]]) O ⟨O,O,O,O,G⟩ Gd Yo O O O O) O (JLh (.agg [LS 1 (E1) ([[1,3],[2]]),I64 2]) (Jk (cs:=[LS 1 (E1) ([[1,3],[2]]),I64 2]) [(0,1),(1,1)] [LS 1 (E1) ([]:List (List Int)),I64 0] [.slice none 0 0,E0] G8c G94 ⟨.inr ⟨_,O,O⟩,.inl O,G⟩ O O) O (JLh (.ptr 1009 0) (Jg 1009 2 G14 O O) O (J7 (u:=.junk) (Ho (u:=.agg [LS 1 (E1) ([[1,3],[2]]),I64 2]) (ds:=[LS 1 (E1) ([[1,3],[2]]),I64 2]) Zu O O O O O O O O) (G6 (b2 ?_))))))))
  refine fzQ [(2,E1 [1,2,3,4]),(4,I64 a.2),(6,I64 e.2),(13,.dptr [LS 1 (E1) ([[1,3],[2]]),I64 2])] [] 1009 rfl rfl rfl G rfl (Js fun b3=>?_)
  obtain⟨s,b4,h⟩:=Gc h
  obtain⟨g,b5,h⟩:=Gc h
  refine JC_d0 Jf (by kernel_rfl) (Dq (.agg [LS 1 (E1) ([[1,3],[2]]),I64 2]) (Gv Hn O O O) O (Dq (E1 [1,2,3,4]) (G2 O O) O (Dq (E1 ([1,2,3,4].take s)) (H4e (f:=I64) (xs:=[1,2,3,4]) O O O G7 (Hb b4)) O (Dq (.tup [E2 g.1,I64 g.2]) (Gr (args:=[.agg [LS 1 (E1) ([[1,3],[2]]),I64 2],E1 ([1,2,3,4].take s)]) O (Ye F (Gp.mk ([[1,3],[2]]) 2) ([1,2,3,4].take s) g b5) G99 ⟨O,O,O,O,G⟩) O (Dq (.tup [E2 g.1,I64 g.2]) (G2 O O) O (Dq (E2 g.1) (Gs O O O) O (Dq (I64 g.2) (Gs O O O) O (Dq (I64 g.2) (G4 O O) O (Dnil (b3 (Js fun b6=>?_)))))))))))
  obtain⟨t,b7,h⟩:=Gc h
  obtain⟨k,b8,h⟩:=Gc h
  refine JC_d0 Jf (by kernel_rfl) (Dq (.agg [LS 1 (E1) ([[1,3],[2]]),I64 2]) (Gv Hn O O O) O (Dq (E1 [1,2,3,4]) (G2 O O) O (Dq (E1 ([1,2,3,4].take t)) (H4e (f:=I64) (xs:=[1,2,3,4]) O O O G7 (Hb b7)) O (Dq (.tup [E2 k.1,I64 k.2]) (Gr (args:=[.agg [LS 1 (E1) ([[1,3],[2]]),I64 2],E1 ([1,2,3,4].take t)]) O (G11 F (Gp.mk ([[1,3],[2]]) 2) ([1,2,3,4].take t) k b8) Gdb ⟨O,O,O,O,G⟩) O (Dq (.tup [E2 k.1,I64 k.2]) (G2 O O) O (Dq (E2 k.1) (Gs O O O) O (Dq (I64 k.2) (Gs O O O) O (Dq (I64 k.2) (G4 O O) O (Dnil (b6 (Js fun b9=>?_)))))))))))
  refine Jr fun c0=>(JLm (I64 a.2) O (JLh (BL (decide (a.2≠360))) (G06 O O O) O (JLm (BL (decide (a.2≠360))) O (JLo (I64 e.2) [] O .scf G (fun hc=>G2 O O) O (JLo (BL (decide (e.2≠6))) [114] O .scf ⟨Ua,G⟩ (fun hc=>G06 O O O) O (JLh (BL ((decide (a.2≠360))||(decide (e.2≠6)))) (Za O O O O) O (JLm (BL ((decide (a.2≠360))||(decide (e.2≠6)))) O (JLo (I64 g.2) [] O .scf G (fun hc=>G2 O O) O (JLo (BL (decide (g.2≠360))) [118] O .scf ⟨Ua,G⟩ (fun hc=>G06 O O O) O (JLh (BL (((decide (a.2≠360))||(decide (e.2≠6)))||(decide (g.2≠360)))) (Za O O O O) O (JLm (BL (((decide (a.2≠360))||(decide (e.2≠6)))||(decide (g.2≠360)))) O (JLo (I64 k.2) [] O .scf G (fun hc=>G2 O O) O (JLo (BL (decide (k.2≠6))) [122] O .scf ⟨Ua,G⟩ (fun hc=>G06 O O O) O ?_)))))))))))))
  refine JLh (BL ((((decide (a.2≠360))||(decide (e.2≠6)))||(decide (g.2≠360)))||(decide (k.2≠6)))) (Za O O O O) O (G6 (c0 (JCc O h (fun h hb=>?_) (fun h hb=>?_))))
  ·
   refine Jr fun c1=>(JLm (BL false) O (G6 (c1 (H0 (fin1 BL h)))))
  ·
   refine Gi (b9 (Jr fun c2=>(JLh (E1 [1,3]) (H9 (xs:=[I64 1,I64 3]) O ⟨O,O,O,O,G⟩ G7 Jd O O O O) O (JLh (E1 [2,4]) (H9 (xs:=[I64 2,I64 4]) O ⟨O,O,O,O,G⟩ G7 Jd O O O O) O (JLh (LS 1 (E1) ([[1,3],[2,4],[]])) (H2e (xs:=[E1 [1,3],E1 [2,4],E1 ([]:List Int)]) O ⟨.inl O,O,.inl O,O,.inr ⟨_,O,O⟩,O,G⟩ Gd Yo O O O O) O (JLh (.agg [LS 1 (E1) ([[1,3],[2,4],[]]),I64 2]) (Jk (cs:=[LS 1 (E1) ([[1,3],[2,4],[]]),I64 2]) [(0,1),(1,1)] [LS 1 (E1) ([]:List (List Int)),I64 0] [.slice none 0 0,E0] G8c G94 ⟨.inr ⟨_,O,O⟩,.inl O,G⟩ O O) O (JLm (E1 [1,2,3,4]) O ?_)))))))
   obtain⟨c,c3,h⟩:=Gc h
   refine JLh (.tup [E2 c.1,I64 c.2]) (Gr O (Ye F (Gp.mk ([[1,3],[2,4],[]]) 2) [1,2,3,4] c c3) G99 ⟨O,O,O,O,G⟩) O (JLm (.tup [E2 c.1,I64 c.2]) O (JLh (E2 c.1) (Gs O O O) O (JLh (I64 c.2) (Gs O O O) O (JLm (E2 c.1) O (JLm (I64 c.2) O (G6 (c2 ?_)))))))
   refine Jr fun c4=>(JLm (I64 c.2) O (JLh (BL (decide (c.2=0))) (Rq O O O) O (JLm (BL (decide (c.2=0))) O (JLo (E2 c.1) [] O .sct G (fun hc=>G2 O O) O (JLo (.agg [I64 1,I64 2]) [] O .sct G (fun hc=>Jk (cs:=[I64 1,I64 2]) [(0,1),(1,1)] [I64 0,I64 0] [E0,E0] G1f G5e (zzQ O) O O) O (JLo (.agg [I64 0,I64 2]) [] O .sct G (fun hc=>Jk (cs:=[I64 0,I64 2]) [(0,1),(1,1)] [I64 0,I64 0] [E0,E0] G1f G5e (zzQ O) O O) O (JLo (E2 [(G5.mk 1 2),(G5.mk 0 2)]) [138,139] O .sct ⟨Ua,Ua,G⟩ (fun hc=>H9 (xs:=[.agg [I64 1,I64 2],.agg [I64 0,I64 2]]) O ⟨O,O,O,O,G⟩ J8 G3a O O O O) O ?_)))))))
   obtain⟨p,c5,h⟩:=Gc h
   refine JLo (BL p) [137,140] O .sct ⟨Ua,Ua,G⟩ (fun hc=>Gr (args:=[E2 c.1,E2 [(G5.mk 1 2),(G5.mk 0 2)]]) O (Qc c.1 [(G5.mk 1 2),(G5.mk 0 2)] p (H3 hc c5)) G60 ⟨O,O,O,O,G⟩) O (JLh (BL ((decide (c.2=0))&&p)) (Y0 O O O O) O (JLm (BL ((decide (c.2=0))&&p)) O (G6 (c4 (H0 (fin1 BL h))))))
end
end Go.Proofs.Ytokjlondbjdlfaa
