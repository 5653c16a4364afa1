/- Walks of functions. -/
import Derived.Test.YtokjlondbjdlfaaXC
set_option maxRecDepth 100000
set_option maxHeartbeats 1000000
set_option linter.unusedVariables false
set_option linter.unusedSimpArgs false
namespace Go.Proofs.Ytokjlondbjdlfaa
open Go.RowKit
noncomputable section
namespace XDF
open XAF
open XBF
open XCF
theorem Gdc:Hr E8 17=true:=by kernel_rfl
theorem Q6e:Hr E8 19=true:=by kernel_rfl
theorem G98:Hr E8 20=true:=by kernel_rfl
theorem Ha3:Hr E8 23=true:=by kernel_rfl
theorem Gdb:Hr E8 24=true:=by kernel_rfl
theorem G68:Hr E8 25=true:=by kernel_rfl
theorem Ha2:Hr E8 27=true:=by kernel_rfl
theorem H9f:Hr E8 36=true:=by kernel_rfl
theorem Q62:Hr E8 51=true:=by kernel_rfl
theorem Q61:Hr E8 52=true:=by kernel_rfl
theorem Q60:Hr E8 53=true:=by kernel_rfl
theorem J44:Hr E8 54=true:=by kernel_rfl
theorem Q5f:Hr E8 56=true:=by kernel_rfl
theorem J3f:Hr E8 80=true:=by kernel_rfl
theorem J37:H5d E8 3 .i64=true:=by kernel_rfl
theorem H4f:H5d E8 5 .u8=true:=by kernel_rfl
theorem Gc8:placesOf E8 24=some [(0,1),(1,1)]:=by kernel_rfl
theorem Z1:Rx E8 24 2=true:=by kernel_rfl
theorem Gd5:(E8.info? 24).bind (fun i=>i.zero.map Value.cells)=some (List.toArray [.slice none 0 0,E0]):=by kernel_rfl
theorem Zf:Qn E8 24 2=true:=by kernel_rfl
end XDF
open XAF
open XBF
open XCF
open XDF

def Qs (y:Gs) (order:List Int) (l:List G5):Option (Bool×Int):=
 bnd (Qv y order) fun b=>
 bif decide (b.2≠0) then
 (some (false,b.2))
 else
 (bnd (G4a y l) fun a=>
  bnd (bif decide (a.2.2=0) then Y3 a.1 order else some default) fun c=>
  some (((decide (a.2.2=0))&&(decide ((c.length:Int)=0))),0))
theorem G17 (y:Gs) (order:List Int) (l:List G5) (r:Bool×Int) (h:Qs y order l=some r):Pure E8 24 [.agg [LS 1 (E1) y.Stacks,I64 y.Height],E1 order,E2 l] (·=.tup [BL r.1,I64 r.2]):=by
 unfold Qs at h
 refine H9 [.tmp 6,.tmp 7] Try.func24 O O (Jr fun e=>(JLh (.ptr 1037 0) (Qj (cs:=[LS 1 (E1) y.Stacks,I64 y.Height]) 1037 O O O O O) O (JLm (BL false) O (JLm (I64 0) O (G6 (e (H4 [(1,E1 order),(2,E2 l),(3,.dptr [LS 1 (E1) y.Stacks,I64 y.Height])] [] 1037 rfl rfl rfl ø rfl (by exact⟨.conv (.same rfl),.conv (.same rfl),.ptr,ø⟩) (Js fun g=>Jr fun i=>(JLh (.agg [LS 1 (E1) y.Stacks,I64 y.Height]) (Gu He O O O) O (JLm (E1 order) O ?_))))))))))
 obtain⟨b,j,h⟩:=Gg h
 refine JLh (.tup [I64 b.1,I64 b.2]) (Gv O (Z5 y order b j) G97 ⟨O,O,O,O,ø⟩) O (JLm (.tup [I64 b.1,I64 b.2]) O (JLh (I64 b.1) (Gq O O O) O (JLh (I64 b.2) (Gq O O O) O (JLm (I64 b.1) O (JLm (I64 b.2) O (G6 (i (Jr fun k=>(JLm (I64 b.2) O (JLh (BL (decide (b.2≠0))) (Yj O O O) O (G6 (k (JCc O h (fun h hb=>?_) (fun h hb=>?_))))))))))))))
 ·
  refine Jr fun m=>(JLm (I64 b.2) O (JLm (BL false) O (JLm (I64 b.2) O (G6 (m (H0 (⟨[BL false,I64 b.2],[],ø,O,⟨⟨_,O,.conv (.same O)⟩,⟨_,O,.conv (.same O)⟩,ø⟩,O,congrArg (fun r:Bool×Int=>(.tup [BL r.1,I64 r.2]:AV)) (K0 h)⟩)))))))
 ·
  refine Gp (g (Jr fun n=>(JLh (.agg [LS 1 (E1) y.Stacks,I64 y.Height]) (Gu He O O O) O (JLm (E2 l) O ?_))))
  obtain⟨a,o,h⟩:=Gg h
  refine JLh (.tup [.agg [LS 1 (E1) a.1.Stacks,I64 a.1.Height],I64 a.2.1,I64 a.2.2]) (Gv O (H05.down y l a o) Ha2 ⟨O,O,O,O,ø⟩) O (JLm (.tup [.agg [LS 1 (E1) a.1.Stacks,I64 a.1.Height],I64 a.2.1,I64 a.2.2]) O (JLh (.agg [LS 1 (E1) a.1.Stacks,I64 a.1.Height]) (Gq O O O) O (JLh (I64 a.2.1) (Gq O O O) O (JLh (I64 a.2.2) (Gq O O O) O (JLh (.ptr 1038 0) (Ja 1038 2 Zf O O) O (J9 (u:=.junk) (Ht (u:=.agg [LS 1 (E1) a.1.Stacks,I64 a.1.Height]) (ds:=[LS 1 (E1) a.1.Stacks,I64 a.1.Height]) Z1 O O O O O O O O) (JLm (I64 a.2.1) O (JLm (I64 a.2.2) O (G6 (n ?_))))))))))
  refine H4 [(1,E1 order),(10,.dptr [LS 1 (E1) a.1.Stacks,I64 a.1.Height]),(12,I64 a.2.2)] [] 1038 rfl rfl rfl ø rfl (by exact⟨.conv (.same rfl),.ptr,.conv (.same rfl),ø⟩) (Jr fun p=>(JLm (I64 a.2.2) O (JLh (BL (decide (a.2.2=0))) (Qm O O O) O (JLm (BL (decide (a.2.2=0))) O (JLo (.agg [LS 1 (E1) a.1.Stacks,I64 a.1.Height]) [] O .sct ø (fun hc=>Gu He O O O) O (JLo (E1 order) [] O .sct ø (fun hc=>G2 O O) O ?_))))))
  obtain⟨c,d,h⟩:=Gg h
  refine JLo (E1 c) [32,33] O .sct ⟨Ua,Ua,ø⟩ (fun hc=>Gv (args:=[.agg [LS 1 (E1) a.1.Stacks,I64 a.1.Height],E1 order]) O (H44 a.1 order c (H5 hc d)) H9d ⟨O,O,O,O,ø⟩) O (JLo (E7 c.length) [34] O .sct ⟨Ua,ø⟩ (fun hc=>Jq (f:=I64) (xs:=c) G7 O O) O (JLo (BL (decide ((c.length:Int)=0))) [35] O .sct ⟨Ua,ø⟩ (fun hc=>Qm O O O) O (JLh (BL ((decide (a.2.2=0))&&(decide ((c.length:Int)=0)))) (R9 O O O O) O (JLm (BL ((decide (a.2.2=0))&&(decide ((c.length:Int)=0)))) O (JLm (I64 0) O (G6 (p (H0 (⟨[BL ((decide (a.2.2=0))&&(decide ((c.length:Int)=0))),I64 0],[],ø,O,⟨⟨_,O,.conv (.same O)⟩,⟨_,O,.conv (.same O)⟩,ø⟩,O,congrArg (fun r:Bool×Int=>(.tup [BL r.1,I64 r.2]:AV)) (K0 h)⟩)))))))))

def G32 (x:Int):Option Bool:=
 some (decide (x≠x))
theorem Gfc (x:Int) (r:Bool) (h:G32 x=some r):Pure E8 80 [I64 x] (·=BL r):=by
 unfold G32 at h
 refine H9 [.tmp 2] Try.func80 O O (Jr fun a=>(JLm (BL false) O (G6 (a (Jr fun b=>(JLm (I64 x) O (JLm (I64 x) O (JLh (BL (decide (x≠x))) (Yj O O O) O (JLm (BL (decide (x≠x))) O (G6 (b (H0 (fin1 BL h)))))))))))))

def Zn (x:Int) (y:Int):Option Int:=
 bnd (G32 x) fun b=>
 bnd (G32 y) fun a=>
 bif b then
 (bif a then
  (some 0)
  else
  (some (-1)))
 else
 (bif a then
  (some 1)
  else
  (bif decide (x < y) then
   (some (-1))
   else
   (bif decide (y < x) then
    (some 1)
    else
    (some 0))))
theorem Gc4 (x:Int) (y:Int) (r:Int) (h:Zn x y=some r):Pure E8 54 [I64 x,I64 y] (·=I64 r):=by
 unfold Zn at h
 refine H9 [.tmp 4] Try.func54 O O (Jr fun p=>(JLm (I64 0) O (G6 (p (Jr fun q=>(JLm (I64 x) O ?_))))))
 obtain⟨b,s,h⟩:=Gg h
 refine JLh (BL b) (Gv O (Gfc x b s) J3f ⟨O,O,ø⟩) O (JLm (BL b) O (G6 (q (Jr fun t=>(JLm (I64 y) O ?_)))))
 obtain⟨a,u,h⟩:=Gg h
 refine JLh (BL a) (Gv O (Gfc y a u) J3f ⟨O,O,ø⟩) O (JLm (BL a) O (G6 (t (Js fun v=>Jr fun w=>(JLm (BL b) O (G6 (w (JCc O h (fun h hb=>?_) (fun h hb=>?_)))))))))
 ·
  refine Js fun z=>Jr fun a0=>(JLm (BL a) O (G6 (a0 (JCc O h (fun h hb=>?_) (fun h hb=>?_)))))
  ·
   refine Jr fun c=>(JLm (I64 0) O (G6 (c (H0 (fin1 I64 h)))))
  ·
   refine Gp (z (Jr fun d=>(JLm (I64 (-1)) O (G6 (d (H0 (fin1 I64 h)))))))
 ·
  refine Gp (v (Js fun e=>Jr fun f=>(JLm (BL a) O (G6 (f (JCc O h (fun h hb=>?_) (fun h hb=>?_)))))))
  ·
   refine Jr fun g=>(JLm (I64 1) O (G6 (g (H0 (fin1 I64 h)))))
  ·
   refine Gp (e (Js fun i=>Jr fun j=>(JLm (I64 x) O (JLm (I64 y) O (JLh (BL (decide (x < y))) (J0 O O O) O (G6 (j (JCc O h (fun h hb=>?_) (fun h hb=>?_)))))))))
   ·
    refine Jr fun k=>(JLm (I64 (-1)) O (G6 (k (H0 (fin1 I64 h)))))
   ·
    refine Gp (i (Js fun l=>Jr fun m=>(JLm (I64 x) O (JLm (I64 y) O (JLh (BL (decide (y < x))) (Z7 O O O) O (G6 (m (JCc O h (fun h hb=>?_) (fun h hb=>?_)))))))))
    ·
     refine Jr fun n=>(JLm (I64 1) O (G6 (n (H0 (fin1 I64 h)))))
    ·
     refine Gp (l (Jr fun o=>(JLm (I64 0) O (G6 (o (H0 (fin1 I64 h)))))))

def Gcf (vals:List Int):Option Int:=
 each (fun a d (c:Unit) b=>
  bif decide (a≠0) then
  (some a)
  else
  (b ()))
 (fun(c:Unit)=>
  some 0) vals 0 ()
theorem J79 (vals:List Int) (r:Int) (h:Gcf vals=some r):Pure E8 53 [E1 vals] (·=I64 r):=by
 unfold Gcf at h
 refine H9 [.tmp 2] Try.func53 O O (Jr fun u=>(JLm (I64 0) O (G6 (u (Jr fun v=>(JLm (I64 0) O (G6 (v (Js fun w=>Jr fun x=>(JLm (E1 vals) O (JLl G7 O O O fun z=>(JLm (I64 0) O (G6 (x (Gk ?_)))))))))))))))
 obtain⟨a0,i,j,g,h⟩:=J3 h
 refine Ha (fun a (c:Unit)=>each a0 i (List.drop a vals) a c=some r) (fun a c=>[(3,I64 0),(6,E1 vals),(7,E7 vals.length),(8,E7 a)]) (fun a c=>[]) (fun a=>vals.length - a) 0 () h ⟨(.sm O O),ø,rfl⟩ ?_
 clear h
 intro a c d a3 a1
 refine Jr fun k=>(JLh (BL (decide ((a:Int) < (vals.length:Int)))) (J0 O O O) O (G6 (k (Js fun l=>Gj O (fun hb=>?_) (fun hb=>?_)))))
 ·
  have e:=Ji hb
  obtain⟨b,a2,m,n,h⟩:=Hv d e
  replace h:=Yq j h
  refine Gp (l (Js fun o=>Gk (Jr fun p=>(JLh (.dptr [I64 b]) (H1 (f:=I64) (xs:=vals) (y:=b) O O O G7 m O) O (JLh (I64 b) (Gm Gi O O O) O (JLm (I64 b) O (G6 (p (Jr fun q=>(JLm (I64 b) O (JLm (I64 0) O (JLh (BL (decide (b≠0))) (Yj O O O) O (G6 (q (JCc O h (fun h hb=>?_) (fun h hb=>?_))))))))))))))))
  ·
   refine Jr fun s=>(JLm (I64 b) O (JLm (I64 b) O (G6 (s (H0 (fin1 I64 h))))))
  ·
   refine Gp (o (G1 (JLh (I64 ((a+1:Nat):Int)) (Hz (Hn e z) O O O) O (JLm (I64 ((a+1:Nat):Int)) O (G6 (a1 _ _ (a+1) () (app1 n h) (by omega) ⟨(.sm O O),ø,rfl⟩))))))
 ·
  have h:=app1 g (Hw d (Hd hb))
  refine Hf (w (Jr fun t=>(JLm (I64 0) O (JLm (I64 0) O (G6 (t (H0 (fin1 I64 h))))))))

def R5 (a:Int) (b:Int) (c:List Int):Option Int:=
 bnd (Qc c b) fun d=>
 bnd (Qc c a) fun e=>
 bnd (Zn d e) fun f=>
 bnd (Zn a b) fun g=>
 bnd (Gcf [f,g]) fun h=>
 some h
theorem H4a (a:Int) (b:Int) (c:List Int) (r:Int) (h:R5 a b c=some r):Pure E8 52 [I64 a,I64 b,.dptr [E1 c]] (·=I64 r):=by
 unfold R5 at h
 refine H9 [.tmp 5] Try.func52 O O (Jr fun j=>(JLm (I64 0) O (G6 (j (Js fun k=>?_)))))
 obtain⟨f,l,h⟩:=Gg h
 obtain⟨g,m,h⟩:=Gg h
 obtain⟨d,n,h⟩:=Gg h
 obtain⟨e,o,h⟩:=Gg h
 obtain⟨i,p,h⟩:=Gg h
 refine JC_d0 Jc (by kernel_rfl) (Dq (E1 c) (Gm H3 O O O) O (Dq (I64 b) (G2 O O) O (Dq (I64 f) (Gv (args:=[E1 c,I64 b]) O (Yi c b f l) G67 ⟨O,O,O,O,ø⟩) O (Dq (E1 c) (Gm H3 O O O) O (Dq (I64 a) (G2 O O) O (Dq (I64 g) (Gv (args:=[E1 c,I64 a]) O (Yi c a g m) G67 ⟨O,O,O,O,ø⟩) O (Dq (I64 d) (Gv (args:=[I64 f,I64 g]) O (Gc4 f g d n) J44 ⟨O,O,O,O,ø⟩) O (Dq (I64 a) (G2 O O) O (Dq (I64 b) (G2 O O) O (Dq (I64 e) (Gv (args:=[I64 a,I64 b]) O (Gc4 a b e o) J44 ⟨O,O,O,O,ø⟩) O (Dq (E1 [d,e]) (Hb (xs:=[I64 d,I64 e]) O ⟨O,O,O,O,ø⟩ G7 Jg O O O O) O (Dq (I64 i) (Gv (args:=[E1 [d,e]]) O (J79 [d,e] i p) Q60 ⟨O,O,ø⟩) O (Dq (I64 i) (G4 O O) O (Dnil ?_))))))))))))))
 refine k (H0 (fin1 I64 h))


theorem J2b (y:Gs) (order:List Int) (r:(List Int)) (h:Y3 y order=some r):Q8 E8 50 [.agg [LS 1 (E1) y.Stacks,I64 y.Height],E1 order] [] (fun av L'=>∃ p:Nat,av=.vec 1069 p 1 r.length∧L'=[(1069,.vec 3 1 p (r.map I64))]):=by
 unfold Y3 at h
 refine G1b [] [.tmp 4] Try.func50 O O (H90 O) (Jr fun b6=>(JLh (.ptr 1067 0) (Qj (cs:=[LS 1 (E1) y.Stacks,I64 y.Height]) 1067 O O O O O) O (JLh (.vec 1068 (([]:List Int).length) 1 (([]:List Int).length)) (H6b 1068 3 1 O O O) O (G6 (b6 (H4 [(1,E1 order),(2,.dptr [LS 1 (E1) y.Stacks,I64 y.Height])] [(1068,.vec 3 1 (([]:List Int).length) (([]:List Int).map I64))] 1067 rfl rfl rfl ⟨⟨_,rfl,.vec⟩,ø⟩ rfl (by exact⟨.conv (.same rfl),.ptr,ø⟩) (Jr fun b7=>(JLh (.vec 1069 (([]:List Int).length) 1 (([]:List Int).length)) (H6b 1069 3 1 O O O) O (G6 (b7 (Js fun b8=>?_)))))))))))
 refine Jr fun b9=>(JLh (.dptr [LS 1 (E1) y.Stacks,I64 y.Height]) (Gy Hy O O O) O (JLh (LS 1 (E1) y.Stacks) (Gm Gr O O O) O (JLl Gh O O O fun t=>(JLm (I64 0) O (G6 (b9 (Gk ?_)))))))
 obtain⟨b5,c0,c1,u,h⟩:=J3 h
 refine Ha (fun g (c:(List Int))=>each b5 c0 (List.drop g y.Stacks) g c=some r) (fun g c=>[(1,E1 order),(5,.vec 1069 c.length 1 c.length),(13,LS 1 (E1) y.Stacks),(14,E7 y.Stacks.length),(15,E7 g)]) (fun g c=>[(1068,.vec 3 1 (([]:List Int).length) (([]:List Int).map I64)),(1069,.vec 3 1 c.length (c.map I64))]) (fun g=>y.Stacks.length - g) 0 [] h ⟨(.sm O O),⟨⟨_,rfl,.vec⟩,⟨_,rfl,.vec⟩,ø⟩,rfl⟩ ?_
 clear h
 intro g c o K5 e5
 refine Jr fun c2=>(JLh (BL (decide ((g:Int) < (y.Stacks.length:Int)))) (J0 O O O) O (G6 (c2 (Js fun c3=>Gj O (fun hb=>?_) (fun hb=>?_)))))
 ·
  have q:=Ji hb
  obtain⟨j,d4,c4,c5,h⟩:=Hv o q
  replace h:=Yq c1 h
  refine Gp (c3 (Js fun c6=>Gk (Jr fun c7=>(JLh (.dptr [E1 j]) (H1 (f:=(E1)) (xs:=y.Stacks) (y:=j) O O O Gh c4 O) O (JLh (E1 j) (Gm H3 O O O) O (JLm (E1 j) O (G6 (c7 (Jr fun v=>(JLm (E1 order) O (JLl G7 O O O fun d2=>(JLm (E7 order.length) O (G6 (v (Jr fun w=>(JLm (E1 j) O (JLl G7 O O O fun x=>(JLm (I64 0) O (G6 (w (Gk ?_)))))))))))))))))))))
  obtain⟨c8,z,a0,m,h⟩:=J3 h
  refine Ha (fun d (a:Int×(List Int))=>each c8 z (List.drop d j) d a=some r) (fun d a=>[(1,E1 order),(5,.vec 1069 a.2.length 1 a.2.length),(8,I64 a.1),(13,LS 1 (E1) y.Stacks),(14,E7 y.Stacks.length),(15,E7 g),(21,E1 j),(22,E7 j.length),(23,E7 d)]) (fun d a=>[(1068,.vec 3 1 (([]:List Int).length) (([]:List Int).map I64)),(1069,.vec 3 1 a.2.length (a.2.map I64))]) (fun d=>j.length - d) 0 ((order.length:Int),c) h ⟨(.sm O O),⟨⟨_,rfl,.vec⟩,⟨_,rfl,.vec⟩,ø⟩,rfl⟩ ?_
  clear h
  intro d a k d5 c9
  refine Jr fun a1=>(JLh (BL (decide ((d:Int) < (j.length:Int)))) (J0 O O O) O (G6 (a1 (Js fun a2=>Gj O (fun hb=>?_) (fun hb=>?_)))))
  ·
   have l:=Ji hb
   obtain⟨b,d3,a3,a4,h⟩:=Hv k l
   replace h:=Yq a0 h
   refine Gp (a2 (Js fun a5=>Gk (Jr fun a6=>(JLh (.dptr [I64 b]) (H1 (f:=I64) (xs:=j) (y:=b) O O O G7 a3 O) O (JLh (I64 b) (Gm Gi O O O) O (JLm (I64 b) O (G6 (a6 (Jr fun a7=>(JLm (E1 order) O (JLm (I64 b) O ?_)))))))))))
   obtain⟨e,a8,h⟩:=Gg h
   refine JLh (I64 e) (Gv O (Yi order b e a8) G67 ⟨O,O,O,O,ø⟩) O (JLm (I64 e) O (G6 (a7 ?_)))
   obtain⟨a9,n,h⟩:=G0a h
   refine Yy (fun i:(List Int)=>a9 i=some r) (fun i=>[(1,E1 order),(5,.vec 1069 i.length 1 i.length),(8,I64 a.1),(11,I64 e),(13,LS 1 (E1) y.Stacks),(14,E7 y.Stacks.length),(15,E7 g),(21,E1 j),(22,E7 j.length),(23,E7 d)]) (fun i=>[(1068,.vec 3 1 (([]:List Int).length) (([]:List Int).map I64)),(1069,.vec 3 1 i.length (i.map I64))]) (fun Kj67 ej67=>?_) ?_
   ·
    refine Jr fun b0=>(JLm (I64 e) O (JLm (I64 a.1) O (JLh (BL (decide (a.1 < e))) (Z7 O O O) O (G6 (b0 (JCc O h (fun h hb=>?_) (fun h hb=>?_)))))))
    ·
     refine G1 (JLm (.vec 1069 a.2.length 1 a.2.length) O (JLm (I64 b) O (JLh (E1 [b]) (Hb (xs:=[I64 b]) O ⟨O,O,ø⟩ G7 Jg O O O O) O ?_)))
     obtain⟨b1,h⟩:=J1 h
     refine JLh (.vec 1069 ((a.2++[b]).length) 1 ((a.2++[b]).length)) (G30 (f:=I64) (xs:=a.2) (ys:=[b]) (ver:=a.2.length) (ver1:=(a.2++[b]).length) rfl rfl rfl rfl G7 R3 b1 (fun _=>rfl) (.inl rfl) (by simp)) O (JLm (.vec 1069 ((a.2++[b]).length) 1 ((a.2++[b]).length)) O (G6 (ej67 _ _ (a.2++[b]) h ⟨(.sm O O),⟨⟨_,rfl,.vec⟩,⟨_,rfl,.vec⟩,ø⟩,rfl⟩)))
    ·
     refine Gp (ej67 _ _ a.2 h ⟨(.sm O O),⟨⟨_,rfl,.vec⟩,⟨_,rfl,.vec⟩,ø⟩,rfl⟩)
   ·intro i h
    replace h:=app1 n h
    refine G1 (JLm (I64 a.1) O (JLm (I64 e) O (JLh (I64 (min a.1 e)) (Q3a O O O) O (JLm (I64 (min a.1 e)) O (G6 (a5 (G1 (JLh (I64 ((d+1:Nat):Int)) (Hz (Hn l x) O O O) O (JLm (I64 ((d+1:Nat):Int)) O (G6 (c9 _ _ (d+1) ((min a.1 e),i) (app1 a4 h) (by omega) ⟨(.sm O O),⟨⟨_,rfl,.vec⟩,⟨_,rfl,.vec⟩,ø⟩,rfl⟩)))))))))))
  ·
   have h:=app1 m (Hw k (Hd hb))
   refine Hf (c6 (G1 (JLh (I64 ((g+1:Nat):Int)) (Hz (Hn q t) O O O) O (JLm (I64 ((g+1:Nat):Int)) O (G6 (e5 _ _ (g+1) a.2 (app1 c5 h) (by omega) ⟨(.sm O O),⟨⟨_,rfl,.vec⟩,⟨_,rfl,.vec⟩,ø⟩,rfl⟩))))))
 ·
  have h:=app1 u (Hw o (Hd hb))
  refine Hf (b8 (Jr fun b2=>(JLm (.vec 1069 c.length 1 c.length) O ?_)))
  obtain⟨s,b3,h⟩:=Gg h
  refine JLh (.tup []) (Qd2 (F:=77) (xs:=c) (r:=s) O J12 Hc6 J40 O O O b3 O) O (G6 (b2 (Jr fun b4=>(JLm (.vec 1069 c.length 1 c.length) O (JLm (.vec 1069 c.length 1 c.length) O (G6 (b4 (Je4 4 O O (fun hn_=>H0 ?_)))))))))
  obtain rfl:=K0 h
  exact⟨[.vec 1069 c.length 1 c.length],[(1069,.vec 3 1 c.length (s.map I64))],⟨⟨_,O,.vec⟩,ø⟩,O,⟨⟨_,O,.conv (.same O)⟩,ø⟩,c.length,congrArg (fun n_:Nat=>(.vec 1069 c.length 1 n_:AV)) (hn_.trans (Ko _)),O⟩

def Jx (F:Nat) (y:Gs) (order:List Int):Option ((List G5)×Int):=
 bnd (Qv y order) fun j=>
 bif decide (j.2≠0) then
 (some ([],j.2))
 else
 (loop (fun k (b:(List G5)×(List (List Int))×Int)=>
   bnd (Y3 (Gs.mk b.2.1 b.2.2) order) fun f=>
   bif decide ((f.length:Int)=0) then
   (some (b.1,0))
   else
   (bnd (H53 (fun z0 z1=>R5 z0 z1 order) f) fun l=>
    each (fun g r (c:(List G5)) i=>
     jp (fun e=>
      bnd (G14 (Gs.mk b.2.1 b.2.2) g) fun a=>
      Qu b.2.1 a.1 fun m=>
      chk ((m.length:Int) - 1) fun n=>
      bif decide (a.2.1 < n) then
      (e ())
      else
      (bnd (Qc order g) fun o=>
       bnd (Rj (Gs.mk b.2.1 b.2.2) order a.1 o) fun d=>
       bif decide (0≤d) then
       (need (decide ((c.length+[(G5.mk a.1 d)].length)*16≤140737488355328∧c.length+[(G5.mk a.1 d)].length≤maxLen)) <|
        chk (((c++[(G5.mk a.1 d)]).length:Int) - 1) fun p=>
        Qu (c++[(G5.mk a.1 d)]) p fun q=>
        bnd (G2d (Gs.mk b.2.1 b.2.2) q) fun h=>
        k ((c++[(G5.mk a.1 d)]),h.1.Stacks,h.1.Height))
       else
       (e ()))) fun(s:Unit)=>
     i c)
    (fun(c:(List G5))=>
     some ([],360)) l 0 b.1)) F ([],y.Stacks,y.Height))
theorem Rw (F:Nat) (y:Gs) (order:List Int) (r:(List G5)×Int) (h:Jx F y order=some r):Pure E8 25 [.agg [LS 1 (E1) y.Stacks,I64 y.Height],E1 order] (·=.tup [E2 r.1,I64 r.2]):=by
 unfold Jx at h
 refine H9 [.tmp 4,.tmp 5] Try.func25 O O (Jr fun e0=>(JLh (.ptr 1039 0) (Qj (cs:=[LS 1 (E1) y.Stacks,I64 y.Height]) 1039 O O O O O) O (JLh (.ptr 1040 0) (Qj (cs:=[E1 order]) 1040 O O O O O) O (JLh (E2 ([]:List G5)) (Jn 2 O O) O (JLm (I64 0) O (G6 (e0 (H4 [(2,.ptr 1039 0),(3,.dptr [E1 order])] [(1039,.box 24 [LS 1 (E1) y.Stacks,I64 y.Height])] 1040 rfl rfl rfl ⟨⟨_,rfl,.boxEq rfl rfl⟩,ø⟩ rfl (by exact⟨.conv (.same rfl),.ptr,ø⟩) (Q33 (Js fun e1=>Jr fun e2=>(JLh (.agg [LS 1 (E1) y.Stacks,I64 y.Height]) (Jk He O O O O) O (JLh (E1 order) (Gm H3 O O O) O ?_))))))))))))
 obtain⟨m,e3,h⟩:=Gg h
 refine JLh (.tup [I64 m.1,I64 m.2]) (Gv O (Z5 y order m e3) G97 ⟨O,O,O,O,ø⟩) O (JLm (.tup [I64 m.1,I64 m.2]) O (JLh (I64 m.1) (Gq O O O) O (JLh (I64 m.2) (Gq O O O) O (JLm (I64 m.1) O (JLm (I64 m.2) O (G6 (e2 (Jr fun e4=>(JLm (I64 m.2) O (JLh (BL (decide (m.2≠0))) (Yj O O O) O (G6 (e4 (JCc O h (fun h hb=>?_) (fun h hb=>?_))))))))))))))
 ·
  refine Jr fun e5=>(JLm (I64 m.2) O (JLh (E2 ([]:List G5)) (Jn 2 O O) O (JLm (I64 m.2) O (G6 (e5 (H4 [(4,E2 ([]:List G5)),(5,I64 m.2)] [] 1039 rfl rfl rfl ø rfl (by exact⟨.conv (.same rfl),.conv (.same rfl),ø⟩) (H0 (⟨[E2 ([]:List G5),I64 m.2],[],ø,O,⟨⟨_,O,.conv (.same O)⟩,⟨_,O,.conv (.same O)⟩,ø⟩,O,congrArg (fun r:(List G5)×Int=>(.tup [E2 r.1,I64 r.2]:AV)) (K0 h)⟩))))))))
 ·
  refine Gp (e1 (Jr fun e6=>(JLh (OW 1041 2 G5.av ([]:List G5)) (Gbd 1041 39 2 O O O) O (G6 (e6 (Js fun e7=>Q34 (e7 (Gk ?_))))))))
  obtain⟨b9,e8,h⟩:=G2a h
  refine Ha (fun t (b:(List G5)×(List (List Int))×Int)=>loop b9 t b=some r) (fun t b=>[(2,.ptr 1039 0),(3,.dptr [E1 order]),(8,OW 1041 2 G5.av b.1)]) (fun t b=>[(1041,.spare 39 2 b.1.length b.1.length),(1039,.box 24 [LS 1 (E1) b.2.1,I64 b.2.2])]) (fun t=>t) F ([],y.Stacks,y.Height) h ⟨(.sm O O),⟨⟨_,O,.same⟩,⟨_,O,.boxL O (.sm O O)⟩,ø⟩,O⟩ ?_
  clear h
  intro t b f0 K9 e9
  obtain⟨m9,g1,hm_9,f1,h⟩:=G03 f0
  replace h:=Hb5 e8 h
  refine Gk (Jr fun a3=>(JLh (.agg [LS 1 (E1) b.2.1,I64 b.2.2]) (Jk He O O O O) O (JLh (E1 order) (Gm H3 O O O) O ?_)))
  obtain⟨k,a4,h⟩:=Gg h
  refine G8c O O O (G90 (args:=[.agg [LS 1 (E1) b.2.1,I64 b.2.2],E1 order]) (L0:=[]) (u:=fun p=>.vec 1069 p 1 k.length) (Lr:=fun p=>[(1069,.vec 3 1 p (k.map I64))]) O (J2b (Gs.mk b.2.1 b.2.2) order k a4) H9d ⟨.inl O,O,.inl O,O,ø⟩ ø O (fun _=>O)) ?_
  rintro u_ L_ ⟨i,rfl,rfl⟩
  refine JLm (.vec 1069 i 1 k.length) O (G6 (a3 (Js fun a5=>Jr fun a6=>(JLm (.vec 1069 i 1 k.length) O (H1c (f:=I64) (xs:=k) G7 O O O (fun f8=>?_) O O O)))))
  refine JLh (BL (decide ((k.length:Int)=0))) (Qm O O O) O (G6 (a6 (JCc O h (fun h hb=>?_) (fun h hb=>?_))))
  ·
   refine Jr fun a7=>(JLm (OW 1041 2 G5.av b.1) O (JLm (OW 1041 2 G5.av b.1) O (JLm (I64 0) O (G6 (a7 (H4 [(4,OW 1041 2 G5.av b.1),(5,I64 0)] [(1041,.spare 39 2 b.1.length b.1.length),(1069,.vec 3 1 i (k.map I64))] 1039 rfl rfl rfl ⟨⟨_,rfl,.same⟩,⟨_,rfl,.vec⟩,ø⟩ rfl (by exact⟨.conv (.same rfl),.conv (.same rfl),ø⟩) (H0 (⟨[E2 b.1,I64 0],[],ø,O,⟨⟨_,O,.conv (.list O)⟩,⟨_,O,.conv (.same O)⟩,ø⟩,O,congrArg (fun r:(List G5)×Int=>(.tup [E2 r.1,I64 r.2]:AV)) (K0 h)⟩))))))))
  ·
   refine Gp (a5 (Jr fun a8=>(JLm (.vec 1069 i 1 k.length) O (JLh (.fn 52 [.dptr [E1 order]]) (H40 (cs:=[.dptr [E1 order]]) O O) O ?_))))
   obtain⟨g,a9,h⟩:=Gg h
   refine JLh (.tup []) (R93 (cmp:=(fun z0 z1=>R5 z0 z1 order)) (xs:=k) (r:=g) O Jfd Jfe Q62 Q61 O O O O O a9 (fun z0 z1 q hq=>H4a z0 z1 order q hq) O) O (G6 (a8 (Js fun b0=>Jr fun b1=>(JLm (.vec 1069 i 1 k.length) O (H1c (f:=I64) (xs:=g) G7 O O O (fun b2=>?_) O O O)))))
   refine JLm (I64 0) O (G6 (b1 (Gk ?_)))
   obtain⟨f2,b3,b4,a0,h⟩:=J3 h
   refine Ha (fun j (c:(List G5))=>each f2 b3 (List.drop j g) j c=some r) (fun j c=>[(2,.ptr 1039 0),(3,.dptr [E1 order]),(8,OW 1041 2 G5.av c),(35,.vec 1069 i 1 k.length),(36,E7 g.length),(37,E7 j)]) (fun j c=>[(1041,.spare 39 2 c.length c.length),(1069,.vec 3 1 i (g.map I64)),(1039,.box 24 [LS 1 (E1) b.2.1,I64 b.2.2])]) (fun j=>g.length - j) 0 b.1 h ⟨(.sm O O),⟨⟨_,rfl,.same⟩,⟨_,rfl,.vec⟩,fbQ O (.sm O O),ø⟩,rfl⟩ ?_
   clear h
   intro j c v g2 f3
   refine Jr fun b5=>(JLh (BL (decide ((j:Int) < (g.length:Int)))) (J0 O O O) O (G6 (b5 (Js fun b6=>Gj O (fun hb=>?_) (fun hb=>?_)))))
   ·
    have w:=Ji hb
    obtain⟨l,f9,x,b7,h⟩:=Hv v w
    replace h:=Yq b4 h
    refine Gp (b6 ?_)
    obtain⟨b8,a1,h⟩:=G0a h
    refine Yy (fun o:Unit=>b8 o=some r) (fun o=>[(2,.ptr 1039 0),(3,.dptr [E1 order]),(8,OW 1041 2 G5.av c),(35,.vec 1069 i 1 k.length),(36,E7 g.length),(37,E7 j)]) (fun o=>[(1041,.spare 39 2 c.length c.length),(1069,.vec 3 1 i (g.map I64)),(1039,.box 24 [LS 1 (E1) b.2.1,I64 b.2.2])]) (fun Kj75 ej75=>?_) ?_
    ·
     refine Gk (Jr fun c0=>(JLh (.vptr 1069 i j 0) (Zw (f:=I64) (xs:=g) (y:=l) O O O O G7 x O) O (JLh (I64 l) (Gbc (f:=I64) (xs:=g) (y:=l) Gi O O O x O O) O (JLm (I64 l) O (G6 (c0 (Jr fun c1=>(JLh (.agg [LS 1 (E1) b.2.1,I64 b.2.2]) (Jk He O O O O) O (JLm (I64 l) O ?_)))))))))
     obtain⟨a,c2,h⟩:=Gg h
     refine JLh (.tup [I64 a.1,I64 a.2.1,BL a.2.2]) (Gv O (H06 (Gs.mk b.2.1 b.2.2) l a c2) H9c ⟨O,O,O,O,ø⟩) O (JLm (.tup [I64 a.1,I64 a.2.1,BL a.2.2]) O (JLh (I64 a.1) (Gq O O O) O (JLh (I64 a.2.1) (Gq O O O) O (JLh (BL a.2.2) (Gq O O O) O (JLm (I64 a.1) O (JLm (I64 a.2.1) O (JLm (BL a.2.2) O (G6 (c1 (Js fun c3=>Jr fun c4=>(JLm (I64 a.2.1) O (JLh (.ptr 1039 0) (Hh Hy O O) O (JLh (LS 1 (E1) b.2.1) (Hk Gr O O O O) O (JLm (I64 a.1) O ?_))))))))))))))
     obtain⟨g3,z,c5,c6,h⟩:=Qq h
     refine JLh (.dptr [E1 z]) (H1 (f:=(E1)) (xs:=b.2.1) (y:=z) O O O Gh c6 c5) O (JLh (E1 z) (Gm H3 O O O) O (JLl G7 O O O fun g0=>?_))
     obtain⟨a2,c7,h⟩:=J8 h
     refine JLh (I64 a2) (G00 c7 O O O) O (JLh (BL (decide (a.2.1 < a2))) (J0 O O O) O (G6 (c4 (JCc O h (fun h hb=>?_) (fun h hb=>?_)))))
     ·
      refine Hf (ej75 _ _ () h ⟨(.sm O O),⟨⟨_,rfl,.same⟩,⟨_,rfl,.vec⟩,fbQ O (.sm O O),ø⟩,rfl⟩)
     ·
      refine Gp (c3 (Js fun c8=>R8 (l':=[(2,.ptr 1039 0),(3,.dptr [E1 order]),(8,OW 1041 2 G5.av c),(11,I64 l),(12,I64 a.1),(35,.vec 1069 i 1 k.length),(36,E7 g.length),(37,E7 j)]) (L':=[(1041,.spare 39 2 c.length c.length),(1069,.vec 3 1 i (g.map I64)),(1039,.box 24 [LS 1 (E1) b.2.1,I64 b.2.2])]) ⟨(.sm O O),⟨⟨_,rfl,.same⟩,⟨_,rfl,.vec⟩,fbQ O (.sm O O),ø⟩,rfl⟩ ?_))
      obtain⟨s,c9,h⟩:=Gg h
      obtain⟨d,d0,h⟩:=Gg h
      refine JC_d0 Jc (by kernel_rfl) (Dq (.agg [LS 1 (E1) b.2.1,I64 b.2.2]) (Jk He O O O O) O (Dq (E1 order) (Gm H3 O O O) O (Dq (I64 a.1) (G2 O O) O (Dq (E1 order) (Gm H3 O O O) O (Dq (I64 l) (G2 O O) O (Dq (I64 s) (Gv (args:=[E1 order,I64 l]) O (Yi order l s c9) G67 ⟨O,O,O,O,ø⟩) O (Dq (I64 d) (Gv (args:=[.agg [LS 1 (E1) b.2.1,I64 b.2.2],E1 order,I64 a.1,I64 s]) O (He4 (Gs.mk b.2.1 b.2.2) order a.1 s d d0) Q5f ⟨O,O,O,O,O,O,O,O,ø⟩) O (Dq (I64 d) (G4 O O) O (Dnil (c8 (Jr fun d1=>(JLm (I64 d) O (JLh (BL (decide (0≤d))) (G40 O O O) O (G6 (d1 (JCc O h (fun h hb=>?_) (fun h hb=>?_)))))))))))))))))
      ·
       refine Jr fun d2=>(JLm (OW 1041 2 G5.av c) O (JLm (I64 a.1) O (JLm (I64 d) O (JLh (.agg [I64 a.1,I64 d]) (Jt (cs:=[I64 a.1,I64 d]) [(0,1),(1,1)] [I64 0,I64 0] [E0,E0] G52 G95 (zzQ O) O O) O (JLh (E2 [(G5.mk a.1 d)]) (Hb (xs:=[.agg [I64 a.1,I64 d]]) O ⟨O,O,ø⟩ J5 G6f O O O O) O ?_)))))
       obtain⟨d3,h⟩:=J1 h
       refine JLh (OW 1041 2 G5.av (c++[(G5.mk a.1 d)])) (Yp (f:=G5.av) (xs:=c) (ys:=[(G5.mk a.1 d)]) O O O O J5 H23 d3 (fun _=>O) (.inl O) O) O (JLm (OW 1041 2 G5.av (c++[(G5.mk a.1 d)])) O (G6 (d2 (Js fun d4=>R8 (l':=[(2,.ptr 1039 0),(3,.dptr [E1 order]),(8,OW 1041 2 G5.av (c++[(G5.mk a.1 d)]))]) (L':=[(1041,.spare 39 2 (c++[(G5.mk a.1 d)]).length (c++[(G5.mk a.1 d)]).length),(1069,.vec 3 1 i (g.map I64)),(1039,.box 24 [LS 1 (E1) b.2.1,I64 b.2.2])]) ⟨(.sm O O),⟨⟨_,O,.same⟩,⟨_,O,.vec⟩,⟨_,O,.boxL O (.sm O O)⟩,ø⟩,O⟩ ?_))))
       obtain⟨f4,d5,h⟩:=J8 h
       obtain⟨g4,n,d6,d7,h⟩:=Qq h
       obtain⟨e,d8,h⟩:=Gg h
       refine Jh [11] (.replicate 12 0) [0,0,0,0,0,0,0,0,0,0,1,0] [[(1041,.spare 39 2 (c++[(G5.mk a.1 d)]).length (c++[(G5.mk a.1 d)]).length),(1069,.vec 3 1 i (g.map I64)),(1039,.box 24 [LS 1 (E1) b.2.1,I64 b.2.2])],((1039,.box 24 [LS 1 (E1) e.1.Stacks,I64 e.1.Height])::[(1041,.spare 39 2 (c++[(G5.mk a.1 d)]).length (c++[(G5.mk a.1 d)]).length),(1069,.vec 3 1 i (g.map I64)),(1039,.box 24 [LS 1 (E1) b.2.1,I64 b.2.2])])] Jc (by kernel_rfl) rfl rfl ?_
       refine Gd (u:=.agg [LS 1 (E1) b.2.1,I64 b.2.2]) O O ⟨Gb (Jk He O O O O) O,ø⟩ (Gd (u:=OW 1041 2 G5.av (c++[(G5.mk a.1 d)])) O O ⟨Gb (G2 O O) O,ø⟩ (Gd (u:=OW 1041 2 G5.av (c++[(G5.mk a.1 d)])) O O ⟨Gb (G2 O O) O,ø⟩ (Gd (u:=I64 ((c++[(G5.mk a.1 d)]).length:Int)) O O ⟨Gb (Jq (f:=G5.av) (xs:=(c++[(G5.mk a.1 d)])) J5 O O) O,ø⟩ (Gd (u:=I64 f4) O O ⟨Gb (G00 d5 O O O) O,ø⟩ (Gd (u:=.dptr [I64 n.From,I64 n.To]) O O ⟨Gb (H1 (f:=G5.av) (xs:=(c++[(G5.mk a.1 d)])) (y:=n) O O O J5 d7 d6) O,ø⟩ (Gd (u:=.agg [I64 n.From,I64 n.To]) O O ⟨Gb (Gu G72 O O O) O,ø⟩ (Gd (u:=.tup [.agg [LS 1 (E1) e.1.Stacks,I64 e.1.Height],I64 e.2]) O O ⟨Gb (Gv O (J76.down (Gs.mk b.2.1 b.2.2) n e d8) Q6e ⟨O,O,O,O,ø⟩) O,ø⟩ (Gd (u:=.tup [.agg [LS 1 (E1) e.1.Stacks,I64 e.1.Height],I64 e.2]) O O ⟨Gb (G2 O O) O,ø⟩ (Gd (u:=.agg [LS 1 (E1) e.1.Stacks,I64 e.1.Height]) O O ⟨Gb (Gq O O O) O,ø⟩ (Gd (u:=I64 e.2) O O ⟨Gb (Gq O O O) O,Gb (Gq O O O) O,ø⟩ (H1d (u:=.junk) O O O O (Gb (Ht (u:=.agg [LS 1 (E1) e.1.Stacks,I64 e.1.Height]) (ds:=[LS 1 (E1) e.1.Stacks,I64 e.1.Height]) Z1 O O O O O O O O) O) (Rc ?_))))))))))))
       refine d4 (Hf (e9 _ _ m9 ((c++[(G5.mk a.1 d)]),e.1.Stacks,e.1.Height) (app1 f1 h) (by omega) ⟨(.sm O O),⟨⟨_,rfl,.same⟩,fbQ O (.sm O O),ø⟩,rfl⟩))
      ·
       refine Gp (ej75 _ _ () h ⟨(.sm O O),⟨⟨_,rfl,.same⟩,⟨_,rfl,.vec⟩,fbQ O (.sm O O),ø⟩,rfl⟩)
    ·intro o h
     replace h:=app1 a1 h
     refine G1 (JLh (I64 ((j+1:Nat):Int)) (Hz (Hn w b2) O O O) O (JLm (I64 ((j+1:Nat):Int)) O (G6 (f3 _ _ (j+1) c (app1 b7 h) (by omega) ⟨(.sm O O),⟨⟨_,rfl,.same⟩,⟨_,rfl,.vec⟩,fbQ O (.sm O O),ø⟩,rfl⟩))))
   ·
    have h:=app1 a0 (Hw v (Hd hb))
    refine Hf (b0 (Jr fun d9=>(JLh (E2 ([]:List G5)) (Jn 2 O O) O (JLm (I64 360) O (G6 (d9 (H4 [(4,E2 ([]:List G5)),(5,I64 360)] [(1041,.spare 39 2 c.length c.length),(1069,.vec 3 1 i (g.map I64))] 1039 rfl rfl rfl ⟨⟨_,rfl,.same⟩,⟨_,rfl,.vec⟩,ø⟩ rfl (by exact⟨.conv (.same rfl),.conv (.same rfl),ø⟩) (H0 (⟨[E2 ([]:List G5),I64 360],[],ø,O,⟨⟨_,O,.conv (.same O)⟩,⟨_,O,.conv (.same O)⟩,ø⟩,O,congrArg (fun r:(List G5)×Int=>(.tup [E2 r.1,I64 r.2]:AV)) (K0 h)⟩)))))))))

def Qa (a:List Int) (b:List Int):Option Bool:=
 bif decide ((a.length:Int)≠(b.length:Int)) then
 (some false)
 else
 (each (fun d e (f:Unit) c=>
   Qu b (e:Int) fun g=>
   bif decide (d≠g) then
   (some false)
   else
   (c ()))
  (fun(f:Unit)=>
   some true) a 0 ())
theorem G0b (a:List Int) (b:List Int) (r:Bool) (h:Qa a b=some r):Pure E8 36 [E1 a,E1 b] (·=BL r):=by
 unfold Qa at h
 refine H9 [.tmp 4] Try.func36 O O (Jr fun a0=>(JLm (BL false) O (G6 (a0 (Js fun a1=>Jr fun a2=>(JLm (E1 a) O (JLl G7 O O O fun a9=>(JLm (E1 b) O (JLl G7 O O O fun b0=>(JLh (BL (decide ((a.length:Int)≠(b.length:Int)))) (Yj O O O) O (G6 (a2 (JCc O h (fun h hb=>?_) (fun h hb=>?_))))))))))))))
 ·
  refine Jr fun a3=>(JLm (BL false) O (G6 (a3 (H0 (fin1 BL h)))))
 ·
  refine Gp (a1 (Js fun a4=>Jr fun a5=>(JLm (I64 0) O (G6 (a5 (Gk ?_))))))
  obtain⟨a6,l,m,k,h⟩:=J3 h
  refine Ha (fun c (d:Unit)=>each a6 l (List.drop c a) c d=some r) (fun c d=>[(0,E1 a),(1,E1 b),(5,E7 c)]) (fun c d=>[]) (fun c=>a.length - c) 0 () h ⟨(.sm O O),ø,O⟩ ?_
  clear h
  intro c d i b1 a7
  refine Js fun n=>Jr fun o=>(JLm (E7 c) O (JLm (E1 a) O (JLl G7 O O O fun p=>(JLh (BL (decide ((c:Int) < (a.length:Int)))) (J0 O O O) O (G6 (o (Gj O (fun hb=>?_) (fun hb=>?_))))))))
  ·
   have j:=Ji hb
   obtain⟨e,a8,q,s,h⟩:=Hv i j
   replace h:=Yq m h
   refine Gp (n (Js fun t=>Gk (Js fun u=>?_)))
   obtain⟨b2,g,v,w,h⟩:=Qq h
   refine JC_d0 Jc (by kernel_rfl) (Dq (E1 a) (G2 O O) O (Dq (E7 c) (G2 O O) O (Dq (.dptr [I64 e]) (H1 (f:=I64) (xs:=a) (y:=e) O O O G7 q O) O (Dq (I64 e) (Gm Gi O O O) O (Dq (E1 b) (G2 O O) O (Dq (E7 c) (G2 O O) O (Dq (.dptr [I64 g]) (H1 (f:=I64) (xs:=b) (y:=g) O O O G7 w v) O (Dq (I64 g) (Gm Gi O O O) O (Dq (BL (decide (e≠g))) (Yj O O O) O (Dnil (u (JCc O h (fun h hb=>?_) (fun h hb=>?_)))))))))))))
   ·
    refine Jr fun x=>(JLm (BL false) O (G6 (x (H0 (fin1 BL h)))))
   ·
    refine Gp (t (G1 (JLm (E7 c) O (JLh (I64 ((c+1:Nat):Int)) (Hz (Hn j p) O O O) O (JLm (I64 ((c+1:Nat):Int)) O (G6 (a7 _ _ (c+1) () (app1 s h) (by omega) ⟨(.sm O O),ø,rfl⟩)))))))
  ·
   have h:=app1 k (Hw i (Hd hb))
   refine Hf (a4 (Jr fun z=>(JLm (BL true) O (G6 (z (H0 (fin1 BL h)))))))

def Qh (F:Nat) :Option Bool:=
 bnd (Zd (Gs.mk ([[1,3,2],[4],[]]) 3) [1,2,3,4]) fun g=>
 bnd (Jx F (Gs.mk ([[1,3,2],[4],[]]) 3) [1,2,3,4]) fun f=>
 bnd (Jb F (Gs.mk ([[1,3,2],[4],[]]) 3) [1,2,3,4]) fun h=>
 bnd (Qs (Gs.mk ([[1,3,2],[4],[]]) 3) [1,2,3,4] f.1) fun b=>
 bnd (Qa g.1 [2,3]) fun a=>
 bnd (bif (!(!a)) then Jy f.1 [(G5.mk 0 1),(G5.mk 0 2)] else some default) fun c=>
 bnd (bif (!((!a)||(!c))) then Jy h.1 [(G5.mk 0 1),(G5.mk 0 2)] else some default) fun d=>
 bnd (bif (!((((!a)||(!c))||(!d))||(!b.1))) then chk (g.2+f.2) some else some 0) fun i=>
 bnd (bif (!((((!a)||(!c))||(!d))||(!b.1))) then chk (i+h.2) some else some 0) fun j=>
 bnd (bif (!((((!a)||(!c))||(!d))||(!b.1))) then chk (j+b.2) some else some 0) fun k=>
 bif (((((!a)||(!c))||(!d))||(!b.1))||(decide (k≠0))) then
 (some false)
 else
 (bnd (Jx F (Gs.mk ([[1,2],[3,4]]) 2) [1,2,3,4]) fun l=>
  bnd (Jb F (Gs.mk ([[1,2],[3,4]]) 2) [1,2,3,4]) fun m=>
  bnd (Y5 3 [1,2,3,4].length) fun n=>
  bnd (Jx F (Gs.mk ([[1,3],[2]]) 2) ([1,2,3,4].take n)) fun o=>
  bnd (Y5 3 [1,2,3,4].length) fun p=>
  bnd (Jb F (Gs.mk ([[1,3],[2]]) 2) ([1,2,3,4].take p)) fun q=>
  bif ((((decide (l.2≠360))||(decide (m.2≠6)))||(decide (o.2≠360)))||(decide (q.2≠6))) then
  (some false)
  else
  (bnd (Jx F (Gs.mk ([[1,3],[2,4],[]]) 2) [1,2,3,4]) fun e=>
   bnd (bif decide (e.2=0) then Jy e.1 [(G5.mk 1 2),(G5.mk 0 2)] else some default) fun r=>
   some ((decide (e.2=0))&&r)))
theorem G60 (F:Nat)  (r:Bool) (h:Qh F =some r):Pure E8 12 [] (·=BL r):=by
 unfold Qh at h
 refine H9 [.tmp 0] Try.func12 O O (Jr fun c6=>(JLm (BL false) O (G6 (c6 ?_))))
 refine Jr fun c7=>(JLh (E1 [1,3,2]) (Hb (xs:=[I64 1,I64 3,I64 2]) O ⟨O,O,O,O,O,O,ø⟩ G7 Jg O O O O) O (JLh (E1 [4]) (Hb (xs:=[I64 4]) O ⟨O,O,ø⟩ G7 Jg O O O O) O (JLh (LS 1 (E1) ([[1,3,2],[4],[]])) (H94 (xs:=[E1 [1,3,2],E1 [4],E1 ([]:List Int)]) O ⟨.inl O,O,.inl O,O,.inr ⟨_,O,O⟩,O,ø⟩ Gh Zx O O O O) O (JLh (.agg [LS 1 (E1) ([[1,3,2],[4],[]]),I64 3]) (Jt (cs:=[LS 1 (E1) ([[1,3,2],[4],[]]),I64 3]) [(0,1),(1,1)] [LS 1 (E1) ([]:List (List Int)),I64 0] [.slice none 0 0,E0] Gc8 Gd5 ⟨.inr ⟨_,O,O⟩,.inl O,ø⟩ O O) O (JLh (.ptr 1010 0) (Ja 1010 2 Zf O O) O (J9 (u:=.junk) (Ht (u:=.agg [LS 1 (E1) ([[1,3,2],[4],[]]),I64 3]) (ds:=[LS 1 (E1) ([[1,3,2],[4],[]]),I64 3]) Z1 O O O O O O O O) (G6 (c7 ?_))))))))
 refine H4 [(1,.dptr [LS 1 (E1) ([[1,3,2],[4],[]]),I64 3])] [] 1010 rfl rfl rfl ø rfl (by exact⟨.ptr,ø⟩) (Jr fun c8=>(JLh (E1 [1,2,3,4]) (Hb (xs:=[I64 1,I64 2,I64 3,I64 4]) O ⟨O,O,O,O,O,O,O,O,ø⟩ G7 Jg O O O O) O (JLm (E1 [1,2,3,4]) O (G6 (c8 (Jr fun c9=>(JLh (.agg [LS 1 (E1) ([[1,3,2],[4],[]]),I64 3]) (Gu He O O O) O (JLm (E1 [1,2,3,4]) O ?_))))))))
 obtain⟨o,d0,h⟩:=Gg h
 refine JLh (.tup [E1 o.1,I64 o.2]) (Gv O (Gc1 (Gs.mk ([[1,3,2],[4],[]]) 3) [1,2,3,4] o d0) Ha3 ⟨O,O,O,O,ø⟩) O (JLm (.tup [E1 o.1,I64 o.2]) O (JLh (E1 o.1) (Gq O O O) O (JLh (I64 o.2) (Gq O O O) O (JLm (E1 o.1) O (JLm (I64 o.2) O (G6 (c9 (Jr fun d1=>(JLh (.agg [LS 1 (E1) ([[1,3,2],[4],[]]),I64 3]) (Gu He O O O) O (JLm (E1 [1,2,3,4]) O ?_))))))))))
 obtain⟨l,d2,h⟩:=Gg h
 refine JLh (.tup [E2 l.1,I64 l.2]) (Gv O (Rw F (Gs.mk ([[1,3,2],[4],[]]) 3) [1,2,3,4] l d2) G68 ⟨O,O,O,O,ø⟩) O (JLm (.tup [E2 l.1,I64 l.2]) O (JLh (E2 l.1) (Gq O O O) O (JLh (I64 l.2) (Gq O O O) O (JLm (E2 l.1) O (JLm (I64 l.2) O (G6 (d1 (Jr fun d3=>(JLh (.agg [LS 1 (E1) ([[1,3,2],[4],[]]),I64 3]) (Gu He O O O) O (JLm (E1 [1,2,3,4]) O ?_))))))))))
 obtain⟨n,d4,h⟩:=Gg h
 refine JLh (.tup [E2 n.1,I64 n.2]) (Gv O (G16 F (Gs.mk ([[1,3,2],[4],[]]) 3) [1,2,3,4] n d4) Gdc ⟨O,O,O,O,ø⟩) O (JLm (.tup [E2 n.1,I64 n.2]) O (JLh (E2 n.1) (Gq O O O) O (JLh (I64 n.2) (Gq O O O) O (JLm (E2 n.1) O (JLm (I64 n.2) O (G6 (d3 (Jr fun v=>(JLh (.agg [LS 1 (E1) ([[1,3,2],[4],[]]),I64 3]) (Gu He O O O) O (JLm (E1 [1,2,3,4]) O (JLm (E2 l.1) O ?_)))))))))))
 obtain⟨d,w,h⟩:=Gg h
 refine JLh (.tup [BL d.1,I64 d.2]) (Gv O (G17 (Gs.mk ([[1,3,2],[4],[]]) 3) [1,2,3,4] l.1 d w) Gdb ⟨O,O,O,O,O,O,ø⟩) O (JLm (.tup [BL d.1,I64 d.2]) O (JLh (BL d.1) (Gq O O O) O (JLh (I64 d.2) (Gq O O O) O (JLm (BL d.1) O (JLm (I64 d.2) O (G6 (v ?_)))))))
 refine Jr fun x=>(JLh (.agg [I64 0,I64 1]) (Jt (cs:=[I64 0,I64 1]) [(0,1),(1,1)] [I64 0,I64 0] [E0,E0] G52 G95 (zzQ O) O O) O (JLh (.agg [I64 0,I64 2]) (Jt (cs:=[I64 0,I64 2]) [(0,1),(1,1)] [I64 0,I64 0] [E0,E0] G52 G95 (zzQ O) O O) O (JLh (E2 [(G5.mk 0 1),(G5.mk 0 2)]) (Hb (xs:=[.agg [I64 0,I64 1],.agg [I64 0,I64 2]]) O ⟨O,O,O,O,ø⟩ J5 G6f O O O O) O (JLm (E2 [(G5.mk 0 1),(G5.mk 0 2)]) O (G6 (x (Js fun y=>Jr fun z=>(JLm (E1 o.1) O (JLh (E1 [2,3]) (Hb (xs:=[I64 2,I64 3]) O ⟨O,O,O,O,ø⟩ G7 Jg O O O O) O ?_)))))))))
 obtain⟨i,a0,h⟩:=Gg h
 refine JLh (BL i) (Gv O (G0b o.1 [2,3] i a0) H9f ⟨O,O,O,O,ø⟩) O (JLh (BL (!i)) (Yt (b:=i) O O) O (JLm (BL (!i)) O (JLo (E2 l.1) [] O .scf ø (fun hc=>G2 O O) O (JLo (E2 [(G5.mk 0 1),(G5.mk 0 2)]) [] O .scf ø (fun hc=>G2 O O) O ?_))))
 obtain⟨j,a1,h⟩:=Gg h
 refine JLo (BL j) [52,53] O .scf ⟨Ua,Ua,ø⟩ (fun hc=>Gv (args:=[E2 l.1,E2 [(G5.mk 0 1),(G5.mk 0 2)]]) O (Rb l.1 [(G5.mk 0 1),(G5.mk 0 2)] j (H5 hc a1)) G98 ⟨O,O,O,O,ø⟩) O (JLo (BL (!j)) [54] O .scf ⟨Ua,ø⟩ (fun hc=>Yt (b:=j) O O) O (JLh (BL ((!i)||(!j))) (Yr O O O O) O (JLm (BL ((!i)||(!j))) O (JLo (E2 n.1) [] O .scf ø (fun hc=>G2 O O) O (JLo (E2 [(G5.mk 0 1),(G5.mk 0 2)]) [] O .scf ø (fun hc=>G2 O O) O ?_)))))
 obtain⟨m,a2,h⟩:=Gg h
 refine JLo (BL m) [58,59] O .scf ⟨Ua,Ua,ø⟩ (fun hc=>Gv (args:=[E2 n.1,E2 [(G5.mk 0 1),(G5.mk 0 2)]]) O (Rb n.1 [(G5.mk 0 1),(G5.mk 0 2)] m (H5 hc a2)) G98 ⟨O,O,O,O,ø⟩) O (JLo (BL (!m)) [60] O .scf ⟨Ua,ø⟩ (fun hc=>Yt (b:=m) O O) O (JLh (BL (((!i)||(!j))||(!m))) (Yr O O O O) O (JLm (BL (((!i)||(!j))||(!m))) O (JLo (BL d.1) [] O .scf ø (fun hc=>G2 O O) O (JLo (BL (!d.1)) [64] O .scf ⟨Ua,ø⟩ (fun hc=>Yt (b:=d.1) O O) O (JLh (BL ((((!i)||(!j))||(!m))||(!d.1))) (Yr O O O O) O (JLm (BL ((((!i)||(!j))||(!m))||(!d.1))) O (JLo (I64 o.2) [] O .scf ø (fun hc=>G2 O O) O (JLo (I64 l.2) [] O .scf ø (fun hc=>G2 O O) O ?_)))))))))
 obtain⟨d5,a3,h⟩:=Gg h
 refine JLo (I64 d5) [68,69] O .scf ⟨Ua,Ua,ø⟩ (fun hc=>Hz (Ge2 (H5 hc a3)) O O O) O (JLo (I64 n.2) [] O .scf ø (fun hc=>G2 O O) O ?_)
 obtain⟨d6,a4,h⟩:=Gg h
 refine JLo (I64 d6) [70,71] O .scf ⟨Ua,Ua,ø⟩ (fun hc=>Hz (Ge2 (H5 hc a4)) O O O) O (JLo (I64 d.2) [] O .scf ø (fun hc=>G2 O O) O ?_)
 obtain⟨q,a5,h⟩:=Gg h
 refine JLo (I64 q) [72,73] O .scf ⟨Ua,Ua,ø⟩ (fun hc=>Hz (Ge2 (H5 hc a5)) O O O) O (JLo (BL (decide (q≠0))) [74] O .scf ⟨Ua,ø⟩ (fun hc=>Yj O O O) O (JLh (BL (((((!i)||(!j))||(!m))||(!d.1))||(decide (q≠0)))) (Yr O O O O) O (G6 (z (JCc O h (fun h hb=>?_) (fun h hb=>?_))))))
 ·
  refine Jr fun a6=>(JLm (BL false) O (G6 (a6 (H0 (fin1 BL h)))))
 ·
  refine Gp (y ?_)
  refine Jr fun a7=>(JLh (E1 [1,2]) (Hb (xs:=[I64 1,I64 2]) O ⟨O,O,O,O,ø⟩ G7 Jg O O O O) O (JLh (E1 [3,4]) (Hb (xs:=[I64 3,I64 4]) O ⟨O,O,O,O,ø⟩ G7 Jg O O O O) O (JLh (LS 1 (E1) ([[1,2],[3,4]])) (Hb (xs:=[E1 [1,2],E1 [3,4]]) O ⟨O,O,O,O,ø⟩ Gh Zx O O O O) O (JLh (.agg [LS 1 (E1) ([[1,2],[3,4]]),I64 2]) (Jt (cs:=[LS 1 (E1) ([[1,2],[3,4]]),I64 2]) [(0,1),(1,1)] [LS 1 (E1) ([]:List (List Int)),I64 0] [.slice none 0 0,E0] Gc8 Gd5 ⟨.inr ⟨_,O,O⟩,.inl O,ø⟩ O O) O (JLh (.ptr 1011 0) (Ja 1011 2 Zf O O) O (J9 (u:=.junk) (Ht (u:=.agg [LS 1 (E1) ([[1,2],[3,4]]),I64 2]) (ds:=[LS 1 (E1) ([[1,2],[3,4]]),I64 2]) Z1 O O O O O O O O) (G6 (a7 ?_))))))))
  refine H4 [(2,E1 [1,2,3,4]),(12,.dptr [LS 1 (E1) ([[1,2],[3,4]]),I64 2])] [] 1011 rfl rfl rfl ø rfl (by exact⟨.conv (.same rfl),.ptr,ø⟩) (Jr fun a8=>(JLh (.agg [LS 1 (E1) ([[1,2],[3,4]]),I64 2]) (Gu He O O O) O (JLm (E1 [1,2,3,4]) O ?_)))
  obtain⟨a,a9,h⟩:=Gg h
  refine JLh (.tup [E2 a.1,I64 a.2]) (Gv O (Rw F (Gs.mk ([[1,2],[3,4]]) 2) [1,2,3,4] a a9) G68 ⟨O,O,O,O,ø⟩) O (JLm (.tup [E2 a.1,I64 a.2]) O (JLh (E2 a.1) (Gq O O O) O (JLh (I64 a.2) (Gq O O O) O (JLm (I64 a.2) O (G6 (a8 (Jr fun b0=>(JLh (.agg [LS 1 (E1) ([[1,2],[3,4]]),I64 2]) (Gu He O O O) O (JLm (E1 [1,2,3,4]) O ?_)))))))))
  obtain⟨e,b1,h⟩:=Gg h
  refine JLh (.tup [E2 e.1,I64 e.2]) (Gv O (G16 F (Gs.mk ([[1,2],[3,4]]) 2) [1,2,3,4] e b1) Gdc ⟨O,O,O,O,ø⟩) O (JLm (.tup [E2 e.1,I64 e.2]) O (JLh (E2 e.1) (Gq O O O) O (JLh (I64 e.2) (Gq O O O) O (JLm (I64 e.2) O (G6 (b0 ?_))))))
  refine Jr fun b2=>(JLh (E1 [1,3]) (Hb (xs:=[I64 1,I64 3]) O ⟨O,O,O,O,ø⟩ G7 Jg O O O O) O (JLh (E1 [2]) (Hb (xs:=[I64 2]) O ⟨O,O,ø⟩ G7 Jg O O O O) O (JLh (LS 1 (E1) ([[1,3],[2]])) (Hb (xs:=[E1 [1,3],E1 [2]]) O ⟨O,O,O,O,ø⟩ Gh Zx O O O O) O (JLh (.agg [LS 1 (E1) ([[1,3],[2]]),I64 2]) (Jt (cs:=[LS 1 (E1) ([[1,3],[2]]),I64 2]) [(0,1),(1,1)] [LS 1 (E1) ([]:List (List Int)),I64 0] [.slice none 0 0,E0] Gc8 Gd5 ⟨.inr ⟨_,O,O⟩,.inl O,ø⟩ O O) O (JLh (.ptr 1012 0) (Ja 1012 2 Zf O O) O (J9 (u:=.junk) (Ht (u:=.agg [LS 1 (E1) ([[1,3],[2]]),I64 2]) (ds:=[LS 1 (E1) ([[1,3],[2]]),I64 2]) Z1 O O O O O O O O) (G6 (b2 ?_))))))))
  refine fzQ [(2,E1 [1,2,3,4]),(4,I64 a.2),(6,I64 e.2),(13,.dptr [LS 1 (E1) ([[1,3],[2]]),I64 2])] [] 1012 rfl rfl rfl ø rfl (Js fun b3=>?_)
  obtain⟨s,b4,h⟩:=Gg h
  obtain⟨g,b5,h⟩:=Gg h
  refine JC_d0 Jc (by kernel_rfl) (Dq (.agg [LS 1 (E1) ([[1,3],[2]]),I64 2]) (Gu He O O O) O (Dq (E1 [1,2,3,4]) (G2 O O) O (Dq (E1 ([1,2,3,4].take s)) (Ga8 (f:=I64) (xs:=[1,2,3,4]) O O O G7 (Hg b4)) O (Dq (.tup [E2 g.1,I64 g.2]) (Gv (args:=[.agg [LS 1 (E1) ([[1,3],[2]]),I64 2],E1 ([1,2,3,4].take s)]) O (Rw F (Gs.mk ([[1,3],[2]]) 2) ([1,2,3,4].take s) g b5) G68 ⟨O,O,O,O,ø⟩) O (Dq (.tup [E2 g.1,I64 g.2]) (G2 O O) O (Dq (E2 g.1) (Gq O O O) O (Dq (I64 g.2) (Gq O O O) O (Dq (I64 g.2) (G4 O O) O (Dnil (b3 (Js fun b6=>?_)))))))))))
  obtain⟨t,b7,h⟩:=Gg h
  obtain⟨k,b8,h⟩:=Gg h
  refine JC_d0 Jc (by kernel_rfl) (Dq (.agg [LS 1 (E1) ([[1,3],[2]]),I64 2]) (Gu He O O O) O (Dq (E1 [1,2,3,4]) (G2 O O) O (Dq (E1 ([1,2,3,4].take t)) (Ga8 (f:=I64) (xs:=[1,2,3,4]) O O O G7 (Hg b7)) O (Dq (.tup [E2 k.1,I64 k.2]) (Gv (args:=[.agg [LS 1 (E1) ([[1,3],[2]]),I64 2],E1 ([1,2,3,4].take t)]) O (G16 F (Gs.mk ([[1,3],[2]]) 2) ([1,2,3,4].take t) k b8) Gdc ⟨O,O,O,O,ø⟩) O (Dq (.tup [E2 k.1,I64 k.2]) (G2 O O) O (Dq (E2 k.1) (Gq O O O) O (Dq (I64 k.2) (Gq O O O) O (Dq (I64 k.2) (G4 O O) O (Dnil (b6 (Js fun b9=>?_)))))))))))
  refine Jr fun c0=>(JLm (I64 a.2) O (JLh (BL (decide (a.2≠360))) (Yj O O O) O (JLm (BL (decide (a.2≠360))) O (JLo (I64 e.2) [] O .scf ø (fun hc=>G2 O O) O (JLo (BL (decide (e.2≠6))) [114] O .scf ⟨Ua,ø⟩ (fun hc=>Yj O O O) O (JLh (BL ((decide (a.2≠360))||(decide (e.2≠6)))) (Yr O O O O) O (JLm (BL ((decide (a.2≠360))||(decide (e.2≠6)))) O (JLo (I64 g.2) [] O .scf ø (fun hc=>G2 O O) O (JLo (BL (decide (g.2≠360))) [118] O .scf ⟨Ua,ø⟩ (fun hc=>Yj O O O) O (JLh (BL (((decide (a.2≠360))||(decide (e.2≠6)))||(decide (g.2≠360)))) (Yr O O O O) O (JLm (BL (((decide (a.2≠360))||(decide (e.2≠6)))||(decide (g.2≠360)))) O (JLo (I64 k.2) [] O .scf ø (fun hc=>G2 O O) O (JLo (BL (decide (k.2≠6))) [122] O .scf ⟨Ua,ø⟩ (fun hc=>Yj O O O) O ?_)))))))))))))
  refine JLh (BL ((((decide (a.2≠360))||(decide (e.2≠6)))||(decide (g.2≠360)))||(decide (k.2≠6)))) (Yr O O O O) O (G6 (c0 (JCc O h (fun h hb=>?_) (fun h hb=>?_))))
  ·
   refine Jr fun c1=>(JLm (BL false) O (G6 (c1 (H0 (fin1 BL h)))))
  ·
   refine Gp (b9 (Jr fun c2=>(JLh (E1 [1,3]) (Hb (xs:=[I64 1,I64 3]) O ⟨O,O,O,O,ø⟩ G7 Jg O O O O) O (JLh (E1 [2,4]) (Hb (xs:=[I64 2,I64 4]) O ⟨O,O,O,O,ø⟩ G7 Jg O O O O) O (JLh (LS 1 (E1) ([[1,3],[2,4],[]])) (H94 (xs:=[E1 [1,3],E1 [2,4],E1 ([]:List Int)]) O ⟨.inl O,O,.inl O,O,.inr ⟨_,O,O⟩,O,ø⟩ Gh Zx O O O O) O (JLh (.agg [LS 1 (E1) ([[1,3],[2,4],[]]),I64 2]) (Jt (cs:=[LS 1 (E1) ([[1,3],[2,4],[]]),I64 2]) [(0,1),(1,1)] [LS 1 (E1) ([]:List (List Int)),I64 0] [.slice none 0 0,E0] Gc8 Gd5 ⟨.inr ⟨_,O,O⟩,.inl O,ø⟩ O O) O (JLm (E1 [1,2,3,4]) O ?_)))))))
   obtain⟨c,c3,h⟩:=Gg h
   refine JLh (.tup [E2 c.1,I64 c.2]) (Gv O (Rw F (Gs.mk ([[1,3],[2,4],[]]) 2) [1,2,3,4] c c3) G68 ⟨O,O,O,O,ø⟩) O (JLm (.tup [E2 c.1,I64 c.2]) O (JLh (E2 c.1) (Gq O O O) O (JLh (I64 c.2) (Gq O O O) O (JLm (E2 c.1) O (JLm (I64 c.2) O (G6 (c2 ?_)))))))
   refine Jr fun c4=>(JLm (I64 c.2) O (JLh (BL (decide (c.2=0))) (Qm O O O) O (JLm (BL (decide (c.2=0))) O (JLo (E2 c.1) [] O .sct ø (fun hc=>G2 O O) O (JLo (.agg [I64 1,I64 2]) [] O .sct ø (fun hc=>Jt (cs:=[I64 1,I64 2]) [(0,1),(1,1)] [I64 0,I64 0] [E0,E0] G52 G95 (zzQ O) O O) O (JLo (.agg [I64 0,I64 2]) [] O .sct ø (fun hc=>Jt (cs:=[I64 0,I64 2]) [(0,1),(1,1)] [I64 0,I64 0] [E0,E0] G52 G95 (zzQ O) O O) O (JLo (E2 [(G5.mk 1 2),(G5.mk 0 2)]) [138,139] O .sct ⟨Ua,Ua,ø⟩ (fun hc=>Hb (xs:=[.agg [I64 1,I64 2],.agg [I64 0,I64 2]]) O ⟨O,O,O,O,ø⟩ J5 G6f O O O O) O ?_)))))))
   obtain⟨p,c5,h⟩:=Gg h
   refine JLo (BL p) [137,140] O .sct ⟨Ua,Ua,ø⟩ (fun hc=>Gv (args:=[E2 c.1,E2 [(G5.mk 1 2),(G5.mk 0 2)]]) O (Rb c.1 [(G5.mk 1 2),(G5.mk 0 2)] p (H5 hc c5)) G98 ⟨O,O,O,O,ø⟩) O (JLh (BL ((decide (c.2=0))&&p)) (R9 O O O O) O (JLm (BL ((decide (c.2=0))&&p)) O (G6 (c4 (H0 (fin1 BL h))))))
end
end Go.Proofs.Ytokjlondbjdlfaa
