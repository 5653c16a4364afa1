/- Walks of functions. -/
import Derived.Test.YtokjlondbjdlfaaXC
set_option maxRecDepth 100000
set_option maxHeartbeats 1000000
set_option linter.unusedVariables false
set_option linter.unusedSimpArgs false
namespace Go.Proofs.Ytokjlondbjdlfaa
open Go.RowKit
noncomputable section
namespace XDF
open XAF
open XBF
open XCF
theorem Gbb:Hm E8 17=true:=by kernel_rfl
theorem Q33:Hm E8 19=true:=by kernel_rfl
theorem G7d:Hm E8 20=true:=by kernel_rfl
theorem H81:Hm E8 23=true:=by kernel_rfl
theorem Gba:Hm E8 24=true:=by kernel_rfl
theorem G7c:Hm E8 25=true:=by kernel_rfl
theorem J1c:Hm E8 27=true:=by kernel_rfl
theorem H7e:Hm E8 36=true:=by kernel_rfl
theorem Q29:Hm E8 51=true:=by kernel_rfl
theorem Q28:Hm E8 52=true:=by kernel_rfl
theorem Q27:Hm E8 53=true:=by kernel_rfl
theorem J19:Hm E8 54=true:=by kernel_rfl
theorem Q26:Hm E8 56=true:=by kernel_rfl
theorem J14:Hm E8 80=true:=by kernel_rfl
theorem J0e:H3d E8 3 .i64=true:=by kernel_rfl
theorem H2d:H3d E8 5 .u8=true:=by kernel_rfl
theorem Gaa:placesOf E8 24=some [(0,1),(1,1)]:=by kernel_rfl
theorem Zo:Ry E8 24 2=true:=by kernel_rfl
theorem Gb6:(E8.info? 24).bind (fun i=>i.zero.map Value.cells)=some (List.toArray [.slice none 0 0,E0]):=by kernel_rfl
theorem Zx:Qh E8 24 2=true:=by kernel_rfl
end XDF
open XAF
open XBF
open XCF
open XDF

def Qj (y:Gq) (order:List Int) (l:List G3):Option (Bool×Int):=
 bnd (Qm y order) fun b=>
 bif decide (b.2≠0) then
 (some (false,b.2))
 else
 (bnd (G60 y l) fun a=>
  bnd (bif decide (a.2.2=0) then Rt a.1 order else some default) fun c=>
  some (((decide (a.2.2=0))&&(decide ((c.length:Int)=0))),0))
theorem G0a (y:Gq) (order:List Int) (l:List G3) (r:Bool×Int) (h:Qj y order l=some r):Pure E8 24 [.agg [LS 1 (E1) y.Stacks,I64 y.Height],E1 order,E2 l] (·=.tup [BL r.1,I64 r.2]):=by
 unfold Qj at h
 refine Hc [.tmp 6,.tmp 7] Try.func24 O O (Jr fun e=>(JLh (.ptr 1035 0) (Qo (cs:=[LS 1 (E1) y.Stacks,I64 y.Height]) 1035 O O O O O) O (JLm (BL false) O (JLm (I64 0) O (G6 (e (H5 [(1,E1 order),(2,E2 l),(3,.dptr [LS 1 (E1) y.Stacks,I64 y.Height])] [] 1035 rfl rfl rfl ø rfl (by exact⟨.conv (.same rfl),.conv (.same rfl),.ptr,ø⟩) (Js fun g=>Jr fun i=>(JLh (.agg [LS 1 (E1) y.Stacks,I64 y.Height]) (Gw He O O O) O (JLm (E1 order) O ?_))))))))))
 obtain⟨b,j,h⟩:=Ge h
 refine JLh (.tup [I64 b.1,I64 b.2]) (Gv O (Yn y order b j) G7b ⟨O,O,O,O,ø⟩) O (JLm (.tup [I64 b.1,I64 b.2]) O (JLh (I64 b.1) (Gn O O O) O (JLh (I64 b.2) (Gn O O O) O (JLm (I64 b.1) O (JLm (I64 b.2) O (G6 (i (Jr fun k=>(JLm (I64 b.2) O (JLh (BL (decide (b.2≠0))) (Yo O O O) O (G6 (k (JCc O h (fun h hb=>?_) (fun h hb=>?_))))))))))))))
 ·
  refine Jr fun m=>(JLm (I64 b.2) O (JLm (BL false) O (JLm (I64 b.2) O (G6 (m (H1 (⟨[BL false,I64 b.2],[],ø,O,⟨⟨_,O,.conv (.same O)⟩,⟨_,O,.conv (.same O)⟩,ø⟩,O,congrArg (fun r:Bool×Int=>(.tup [BL r.1,I64 r.2]:AV)) (Ex h)⟩)))))))
 ·
  refine Gi (g (Jr fun n=>(JLh (.agg [LS 1 (E1) y.Stacks,I64 y.Height]) (Gw He O O O) O (JLm (E2 l) O ?_))))
  obtain⟨a,o,h⟩:=Ge h
  refine JLh (.tup [.agg [LS 1 (E1) a.1.Stacks,I64 a.1.Height],I64 a.2.1,I64 a.2.2]) (Gv O (H72.down y l a o) J1c ⟨O,O,O,O,ø⟩) O (JLm (.tup [.agg [LS 1 (E1) a.1.Stacks,I64 a.1.Height],I64 a.2.1,I64 a.2.2]) O (JLh (.agg [LS 1 (E1) a.1.Stacks,I64 a.1.Height]) (Gn O O O) O (JLh (I64 a.2.1) (Gn O O O) O (JLh (I64 a.2.2) (Gn O O O) O (JLh (.ptr 1036 0) (Je 1036 2 Zx O O) O (Jc (u:=.junk) (Hv (u:=.agg [LS 1 (E1) a.1.Stacks,I64 a.1.Height]) (ds:=[LS 1 (E1) a.1.Stacks,I64 a.1.Height]) Zo O O O O O O O O) (JLm (I64 a.2.1) O (JLm (I64 a.2.2) O (G6 (n ?_))))))))))
  refine H5 [(1,E1 order),(10,.dptr [LS 1 (E1) a.1.Stacks,I64 a.1.Height]),(12,I64 a.2.2)] [] 1036 rfl rfl rfl ø rfl (by exact⟨.conv (.same rfl),.ptr,.conv (.same rfl),ø⟩) (Jr fun p=>(JLm (I64 a.2.2) O (JLh (BL (decide (a.2.2=0))) (R8 O O O) O (JLm (BL (decide (a.2.2=0))) O (JLo (.agg [LS 1 (E1) a.1.Stacks,I64 a.1.Height]) [] O .sct ø (fun hc=>Gw He O O O) O (JLo (E1 order) [] O .sct ø (fun hc=>G2 O O) O ?_))))))
  obtain⟨c,d,h⟩:=Ge h
  refine JLo (E1 c) [32,33] O .sct ⟨Ua,Ua,ø⟩ (fun hc=>Gv (args:=[.agg [LS 1 (E1) a.1.Stacks,I64 a.1.Height],E1 order]) O (H20 a.1 order c (H6 hc d)) H7c ⟨O,O,O,O,ø⟩) O (JLo (E7 c.length) [34] O .sct ⟨Ua,ø⟩ (fun hc=>Q3 (f:=I64) (xs:=c) G7 O O) O (JLo (BL (decide ((c.length:Int)=0))) [35] O .sct ⟨Ua,ø⟩ (fun hc=>R8 O O O) O (JLh (BL ((decide (a.2.2=0))&&(decide ((c.length:Int)=0)))) (Rh O O O O) O (JLm (BL ((decide (a.2.2=0))&&(decide ((c.length:Int)=0)))) O (JLm (I64 0) O (G6 (p (H1 (⟨[BL ((decide (a.2.2=0))&&(decide ((c.length:Int)=0))),I64 0],[],ø,O,⟨⟨_,O,.conv (.same O)⟩,⟨_,O,.conv (.same O)⟩,ø⟩,O,congrArg (fun r:Bool×Int=>(.tup [BL r.1,I64 r.2]:AV)) (Ex h)⟩)))))))))

def G21 (x:Int):Option Bool:=
 some (decide (x≠x))
theorem Gdd (x:Int) (r:Bool) (h:G21 x=some r):Pure E8 80 [I64 x] (·=BL r):=by
 unfold G21 at h
 refine Hc [.tmp 2] Try.func80 O O (Jr fun a=>(JLm (BL false) O (G6 (a (Jr fun b=>(JLm (I64 x) O (JLm (I64 x) O (JLh (BL (decide (x≠x))) (Yo O O O) O (JLm (BL (decide (x≠x))) O (G6 (b (H1 (fin1 BL h)))))))))))))

def Z4 (x:Int) (y:Int):Option Int:=
 bnd (G21 x) fun b=>
 bnd (G21 y) fun a=>
 bif b then
 (bif a then
  (some 0)
  else
  (some (-1)))
 else
 (bif a then
  (some 1)
  else
  (bif decide (x < y) then
   (some (-1))
   else
   (bif decide (y < x) then
    (some 1)
    else
    (some 0))))
theorem Ga7 (x:Int) (y:Int) (r:Int) (h:Z4 x y=some r):Pure E8 54 [I64 x,I64 y] (·=I64 r):=by
 unfold Z4 at h
 refine Hc [.tmp 4] Try.func54 O O (Jr fun p=>(JLm (I64 0) O (G6 (p (Jr fun q=>(JLm (I64 x) O ?_))))))
 obtain⟨b,s,h⟩:=Ge h
 refine JLh (BL b) (Gv O (Gdd x b s) J14 ⟨O,O,ø⟩) O (JLm (BL b) O (G6 (q (Jr fun t=>(JLm (I64 y) O ?_)))))
 obtain⟨a,u,h⟩:=Ge h
 refine JLh (BL a) (Gv O (Gdd y a u) J14 ⟨O,O,ø⟩) O (JLm (BL a) O (G6 (t (Js fun v=>Jr fun w=>(JLm (BL b) O (G6 (w (JCc O h (fun h hb=>?_) (fun h hb=>?_)))))))))
 ·
  refine Js fun z=>Jr fun a0=>(JLm (BL a) O (G6 (a0 (JCc O h (fun h hb=>?_) (fun h hb=>?_)))))
  ·
   refine Jr fun c=>(JLm (I64 0) O (G6 (c (H1 (fin1 I64 h)))))
  ·
   refine Gi (z (Jr fun d=>(JLm (I64 (-1)) O (G6 (d (H1 (fin1 I64 h)))))))
 ·
  refine Gi (v (Js fun e=>Jr fun f=>(JLm (BL a) O (G6 (f (JCc O h (fun h hb=>?_) (fun h hb=>?_)))))))
  ·
   refine Jr fun g=>(JLm (I64 1) O (G6 (g (H1 (fin1 I64 h)))))
  ·
   refine Gi (e (Js fun i=>Jr fun j=>(JLm (I64 x) O (JLm (I64 y) O (JLh (BL (decide (x < y))) (J0 O O O) O (G6 (j (JCc O h (fun h hb=>?_) (fun h hb=>?_)))))))))
   ·
    refine Jr fun k=>(JLm (I64 (-1)) O (G6 (k (H1 (fin1 I64 h)))))
   ·
    refine Gi (i (Js fun l=>Jr fun m=>(JLm (I64 x) O (JLm (I64 y) O (JLh (BL (decide (y < x))) (Z0 O O O) O (G6 (m (JCc O h (fun h hb=>?_) (fun h hb=>?_)))))))))
    ·
     refine Jr fun n=>(JLm (I64 1) O (G6 (n (H1 (fin1 I64 h)))))
    ·
     refine Gi (l (Jr fun o=>(JLm (I64 0) O (G6 (o (H1 (fin1 I64 h)))))))

def Gb0 (vals:List Int):Option Int:=
 each (fun a d (c:Unit) b=>
  bif decide (a≠0) then
  (some a)
  else
  (b ()))
 (fun(c:Unit)=>
  some 0) vals 0 ()
theorem J4d (vals:List Int) (r:Int) (h:Gb0 vals=some r):Pure E8 53 [E1 vals] (·=I64 r):=by
 unfold Gb0 at h
 refine Hc [.tmp 2] Try.func53 O O (Jr fun u=>(JLm (I64 0) O (G6 (u (Jr fun v=>(JLm (I64 0) O (G6 (v (Js fun w=>Jr fun x=>(JLm (E1 vals) O (JLl G7 O O O fun z=>(JLm (I64 0) O (G6 (x (Gg ?_)))))))))))))))
 obtain⟨a0,i,j,g,h⟩:=J7 h
 refine H9 (fun a (c:Unit)=>each a0 i (List.drop a vals) a c=some r) (fun a c=>[(3,I64 0),(6,E1 vals),(7,E7 vals.length),(8,E7 a)]) (fun a c=>[]) (fun a=>vals.length - a) 0 () h ⟨(.sm O O),ø,rfl⟩ ?_
 clear h
 intro a c d a3 a1
 refine Jr fun k=>(JLh (BL (decide ((a:Int) < (vals.length:Int)))) (J0 O O O) O (G6 (k (Js fun l=>Gh O (fun hb=>?_) (fun hb=>?_)))))
 ·
  have e:=Jn hb
  obtain⟨b,a2,m,n,h⟩:=Hx d e
  replace h:=Yr j h
  refine Gi (l (Js fun o=>Gg (Jr fun p=>(JLh (.dptr [I64 b]) (H0 (f:=I64) (xs:=vals) (y:=b) O O O G7 m O) O (JLh (I64 b) (Gm Gj O O O) O (JLm (I64 b) O (G6 (p (Jr fun q=>(JLm (I64 b) O (JLm (I64 0) O (JLh (BL (decide (b≠0))) (Yo O O O) O (G6 (q (JCc O h (fun h hb=>?_) (fun h hb=>?_))))))))))))))))
  ·
   refine Jr fun s=>(JLm (I64 b) O (JLm (I64 b) O (G6 (s (H1 (fin1 I64 h))))))
  ·
   refine Gi (o (G1 (JLh (I64 ((a+1:Nat):Int)) (Hz (Hk e z) O O O) O (JLm (I64 ((a+1:Nat):Int)) O (G6 (a1 _ _ (a+1) () (app1 n h) (by omega) ⟨(.sm O O),ø,rfl⟩))))))
 ·
  have h:=app1 g (Hy d (Hb hb))
  refine Hd (w (Jr fun t=>(JLm (I64 0) O (JLm (I64 0) O (G6 (t (H1 (fin1 I64 h))))))))

def Qy (a:Int) (b:Int) (c:List Int):Option Int:=
 bnd (Q9 c b) fun d=>
 bnd (Q9 c a) fun e=>
 bnd (Z4 d e) fun f=>
 bnd (Z4 a b) fun g=>
 bnd (Gb0 [f,g]) fun h=>
 some h
theorem H27 (a:Int) (b:Int) (c:List Int) (r:Int) (h:Qy a b c=some r):Pure E8 52 [I64 a,I64 b,.dptr [E1 c]] (·=I64 r):=by
 unfold Qy at h
 refine Hc [.tmp 5] Try.func52 O O (Jr fun j=>(JLm (I64 0) O (G6 (j (Js fun k=>?_)))))
 obtain⟨f,l,h⟩:=Ge h
 obtain⟨g,m,h⟩:=Ge h
 obtain⟨d,n,h⟩:=Ge h
 obtain⟨e,o,h⟩:=Ge h
 obtain⟨i,p,h⟩:=Ge h
 refine JC_d0 Jm (by kernel_rfl) (Dq (E1 c) (Gm H3 O O O) O (Dq (I64 b) (G2 O O) O (Dq (I64 f) (Gv (args:=[E1 c,I64 b]) O (Y9 c b f l) G52 ⟨O,O,O,O,ø⟩) O (Dq (E1 c) (Gm H3 O O O) O (Dq (I64 a) (G2 O O) O (Dq (I64 g) (Gv (args:=[E1 c,I64 a]) O (Y9 c a g m) G52 ⟨O,O,O,O,ø⟩) O (Dq (I64 d) (Gv (args:=[I64 f,I64 g]) O (Ga7 f g d n) J19 ⟨O,O,O,O,ø⟩) O (Dq (I64 a) (G2 O O) O (Dq (I64 b) (G2 O O) O (Dq (I64 e) (Gv (args:=[I64 a,I64 b]) O (Ga7 a b e o) J19 ⟨O,O,O,O,ø⟩) O (Dq (E1 [d,e]) (H8 (xs:=[I64 d,I64 e]) O ⟨O,O,O,O,ø⟩ G7 Jf O O O O) O (Dq (I64 i) (Gv (args:=[E1 [d,e]]) O (J4d [d,e] i p) Q27 ⟨O,O,ø⟩) O (Dq (I64 i) (G5 O O) O (Dnil ?_))))))))))))))
 refine k (H1 (fin1 I64 h))


theorem J01 (y:Gq) (order:List Int) (r:(List Int)) (h:Rt y order=some r):Q4 E8 50 [.agg [LS 1 (E1) y.Stacks,I64 y.Height],E1 order] [] (fun av L'=>∃ p:Nat,av=.vec 1064 p 1 r.length∧L'=[(1064,.vec 3 1 p (r.map I64))]):=by
 unfold Rt at h
 refine G1f [] [.tmp 4] Try.func50 O O (Hb1 O) (Jr fun b6=>(JLh (.ptr 1062 0) (Qo (cs:=[LS 1 (E1) y.Stacks,I64 y.Height]) 1062 O O O O O) O (JLh (.vec 1063 (([]:List Int).length) 1 (([]:List Int).length)) (H4c 1063 3 1 O O O) O (G6 (b6 (H5 [(1,E1 order),(2,.dptr [LS 1 (E1) y.Stacks,I64 y.Height])] [(1063,.vec 3 1 (([]:List Int).length) (([]:List Int).map I64))] 1062 rfl rfl rfl ⟨⟨_,rfl,.vec⟩,ø⟩ rfl (by exact⟨.conv (.same rfl),.ptr,ø⟩) (Jr fun b7=>(JLh (.vec 1064 (([]:List Int).length) 1 (([]:List Int).length)) (H4c 1064 3 1 O O O) O (G6 (b7 (Js fun b8=>?_)))))))))))
 refine Jr fun b9=>(JLh (.dptr [LS 1 (E1) y.Stacks,I64 y.Height]) (Gz Hu O O O) O (JLh (LS 1 (E1) y.Stacks) (Gm Gs O O O) O (JLl Gf O O O fun t=>(JLm (I64 0) O (G6 (b9 (Gg ?_)))))))
 obtain⟨b5,c0,c1,u,h⟩:=J7 h
 refine H9 (fun g (c:(List Int))=>each b5 c0 (List.drop g y.Stacks) g c=some r) (fun g c=>[(1,E1 order),(5,.vec 1064 c.length 1 c.length),(13,LS 1 (E1) y.Stacks),(14,E7 y.Stacks.length),(15,E7 g)]) (fun g c=>[(1063,.vec 3 1 (([]:List Int).length) (([]:List Int).map I64)),(1064,.vec 3 1 c.length (c.map I64))]) (fun g=>y.Stacks.length - g) 0 [] h ⟨(.sm O O),⟨⟨_,rfl,.vec⟩,⟨_,rfl,.vec⟩,ø⟩,rfl⟩ ?_
 clear h
 intro g c o K5 e5
 refine Jr fun c2=>(JLh (BL (decide ((g:Int) < (y.Stacks.length:Int)))) (J0 O O O) O (G6 (c2 (Js fun c3=>Gh O (fun hb=>?_) (fun hb=>?_)))))
 ·
  have q:=Jn hb
  obtain⟨j,d4,c4,c5,h⟩:=Hx o q
  replace h:=Yr c1 h
  refine Gi (c3 (Js fun c6=>Gg (Jr fun c7=>(JLh (.dptr [E1 j]) (H0 (f:=(E1)) (xs:=y.Stacks) (y:=j) O O O Gf c4 O) O (JLh (E1 j) (Gm H3 O O O) O (JLm (E1 j) O (G6 (c7 (Jr fun v=>(JLm (E1 order) O (JLl G7 O O O fun d2=>(JLm (E7 order.length) O (G6 (v (Jr fun w=>(JLm (E1 j) O (JLl G7 O O O fun x=>(JLm (I64 0) O (G6 (w (Gg ?_)))))))))))))))))))))
  obtain⟨c8,z,a0,m,h⟩:=J7 h
  refine H9 (fun d (a:Int×(List Int))=>each c8 z (List.drop d j) d a=some r) (fun d a=>[(1,E1 order),(5,.vec 1064 a.2.length 1 a.2.length),(8,I64 a.1),(13,LS 1 (E1) y.Stacks),(14,E7 y.Stacks.length),(15,E7 g),(21,E1 j),(22,E7 j.length),(23,E7 d)]) (fun d a=>[(1063,.vec 3 1 (([]:List Int).length) (([]:List Int).map I64)),(1064,.vec 3 1 a.2.length (a.2.map I64))]) (fun d=>j.length - d) 0 ((order.length:Int),c) h ⟨(.sm O O),⟨⟨_,rfl,.vec⟩,⟨_,rfl,.vec⟩,ø⟩,rfl⟩ ?_
  clear h
  intro d a k d5 c9
  refine Jr fun a1=>(JLh (BL (decide ((d:Int) < (j.length:Int)))) (J0 O O O) O (G6 (a1 (Js fun a2=>Gh O (fun hb=>?_) (fun hb=>?_)))))
  ·
   have l:=Jn hb
   obtain⟨b,d3,a3,a4,h⟩:=Hx k l
   replace h:=Yr a0 h
   refine Gi (a2 (Js fun a5=>Gg (Jr fun a6=>(JLh (.dptr [I64 b]) (H0 (f:=I64) (xs:=j) (y:=b) O O O G7 a3 O) O (JLh (I64 b) (Gm Gj O O O) O (JLm (I64 b) O (G6 (a6 (Jr fun a7=>(JLm (E1 order) O (JLm (I64 b) O ?_)))))))))))
   obtain⟨e,a8,h⟩:=Ge h
   refine JLh (I64 e) (Gv O (Y9 order b e a8) G52 ⟨O,O,O,O,ø⟩) O (JLm (I64 e) O (G6 (a7 ?_)))
   obtain⟨a9,n,h⟩:=G11 h
   refine Z5 (fun i:(List Int)=>a9 i=some r) (fun i=>[(1,E1 order),(5,.vec 1064 i.length 1 i.length),(8,I64 a.1),(11,I64 e),(13,LS 1 (E1) y.Stacks),(14,E7 y.Stacks.length),(15,E7 g),(21,E1 j),(22,E7 j.length),(23,E7 d)]) (fun i=>[(1063,.vec 3 1 (([]:List Int).length) (([]:List Int).map I64)),(1064,.vec 3 1 i.length (i.map I64))]) (fun Kj67 ej67=>?_) ?_
   ·
    refine Jr fun b0=>(JLm (I64 e) O (JLm (I64 a.1) O (JLh (BL (decide (a.1 < e))) (Z0 O O O) O (G6 (b0 (JCc O h (fun h hb=>?_) (fun h hb=>?_)))))))
    ·
     refine G1 (JLm (.vec 1064 a.2.length 1 a.2.length) O (JLm (I64 b) O (JLh (E1 [b]) (H8 (xs:=[I64 b]) O ⟨O,O,ø⟩ G7 Jf O O O O) O ?_)))
     obtain⟨b1,h⟩:=J1 h
     refine JLh (.vec 1064 ((a.2++[b]).length) 1 ((a.2++[b]).length)) (G8c (f:=I64) (xs:=a.2) (ys:=[b]) (ver:=a.2.length) (ver1:=(a.2++[b]).length) rfl rfl rfl rfl G7 Qv b1 (fun _=>rfl) (.inl rfl) (by simp)) O (JLm (.vec 1064 ((a.2++[b]).length) 1 ((a.2++[b]).length)) O (G6 (ej67 _ _ (a.2++[b]) h ⟨(.sm O O),⟨⟨_,rfl,.vec⟩,⟨_,rfl,.vec⟩,ø⟩,rfl⟩)))
    ·
     refine Gi (ej67 _ _ a.2 h ⟨(.sm O O),⟨⟨_,rfl,.vec⟩,⟨_,rfl,.vec⟩,ø⟩,rfl⟩)
   ·intro i h
    replace h:=app1 n h
    refine G1 (JLm (I64 a.1) O (JLm (I64 e) O (JLh (I64 (min a.1 e)) (Q9d O O O) O (JLm (I64 (min a.1 e)) O (G6 (a5 (G1 (JLh (I64 ((d+1:Nat):Int)) (Hz (Hk l x) O O O) O (JLm (I64 ((d+1:Nat):Int)) O (G6 (c9 _ _ (d+1) ((min a.1 e),i) (app1 a4 h) (by omega) ⟨(.sm O O),⟨⟨_,rfl,.vec⟩,⟨_,rfl,.vec⟩,ø⟩,rfl⟩)))))))))))
  ·
   have h:=app1 m (Hy k (Hb hb))
   refine Hd (c6 (G1 (JLh (I64 ((g+1:Nat):Int)) (Hz (Hk q t) O O O) O (JLm (I64 ((g+1:Nat):Int)) O (G6 (e5 _ _ (g+1) a.2 (app1 c5 h) (by omega) ⟨(.sm O O),⟨⟨_,rfl,.vec⟩,⟨_,rfl,.vec⟩,ø⟩,rfl⟩))))))
 ·
  have h:=app1 u (Hy o (Hb hb))
  refine Hd (b8 (Jr fun b2=>(JLm (.vec 1064 c.length 1 c.length) O ?_)))
  obtain⟨s,b3,h⟩:=Ge h
  refine JLh (.tup []) (Q98 (F:=77) (xs:=c) (r:=s) O He9 Ha0 J15 O O O b3 O) O (G6 (b2 (Jr fun b4=>(JLm (.vec 1064 c.length 1 c.length) O (JLm (.vec 1064 c.length 1 c.length) O (G6 (b4 (Jb6 4 O O (fun hn_=>H1 ?_)))))))))
  obtain rfl:=Ex h
  exact⟨[.vec 1064 c.length 1 c.length],[(1064,.vec 3 1 c.length (s.map I64))],⟨⟨_,O,.vec⟩,ø⟩,O,⟨⟨_,O,.conv (.same O)⟩,ø⟩,c.length,congrArg (fun n_:Nat=>(.vec 1064 c.length 1 n_:AV)) (hn_.trans (Kk _)),O⟩

def Q0 (F:Nat) (y:Gq) (order:List Int):Option ((List G3)×Int):=
 bnd (Qm y order) fun j=>
 bif decide (j.2≠0) then
 (some ([],j.2))
 else
 (loop (fun k (b:(List G3)×(List (List Int))×Int)=>
   bnd (Rt (Gq.mk b.2.1 b.2.2) order) fun f=>
   bif decide ((f.length:Int)=0) then
   (some (b.1,0))
   else
   (bnd (H32 (fun z0 z1=>Qy z0 z1 order) f) fun l=>
    each (fun g r (c:(List G3)) i=>
     jp (fun e=>
      bnd (G07 (Gq.mk b.2.1 b.2.2) g) fun a=>
      R2 b.2.1 a.1 fun m=>
      chk ((m.length:Int) - 1) fun n=>
      bif decide (a.2.1 < n) then
      (e ())
      else
      (bnd (Q9 order g) fun o=>
       bnd (R7 (Gq.mk b.2.1 b.2.2) order a.1 o) fun d=>
       bif decide (0≤d) then
       (need (decide ((c.length+[(G3.mk a.1 d)].length)*16≤140737488355328∧c.length+[(G3.mk a.1 d)].length≤maxLen)) <|
        chk (((c++[(G3.mk a.1 d)]).length:Int) - 1) fun p=>
        R2 (c++[(G3.mk a.1 d)]) p fun q=>
        bnd (G1c (Gq.mk b.2.1 b.2.2) q) fun h=>
        k ((c++[(G3.mk a.1 d)]),h.1.Stacks,h.1.Height))
       else
       (e ()))) fun(s:Unit)=>
     i c)
    (fun(c:(List G3))=>
     some ([],360)) l 0 b.1)) F ([],y.Stacks,y.Height))
theorem Yc (F:Nat) (y:Gq) (order:List Int) (r:(List G3)×Int) (h:Q0 F y order=some r):Pure E8 25 [.agg [LS 1 (E1) y.Stacks,I64 y.Height],E1 order] (·=.tup [E2 r.1,I64 r.2]):=by
 unfold Q0 at h
 refine Hc [.tmp 4,.tmp 5] Try.func25 O O (Jr fun e0=>(JLh (.ptr 1037 0) (Qo (cs:=[LS 1 (E1) y.Stacks,I64 y.Height]) 1037 O O O O O) O (JLh (.ptr 1038 0) (Qo (cs:=[E1 order]) 1038 O O O O O) O (JLh (E2 ([]:List G3)) (Jk 2 O O) O (JLm (I64 0) O (G6 (e0 (H5 [(2,.ptr 1037 0),(3,.dptr [E1 order])] [(1037,.box 24 [LS 1 (E1) y.Stacks,I64 y.Height])] 1038 rfl rfl rfl ⟨⟨_,rfl,.boxEq rfl rfl⟩,ø⟩ rfl (by exact⟨.conv (.same rfl),.ptr,ø⟩) (Q00 (Js fun e1=>Jr fun e2=>(JLh (.agg [LS 1 (E1) y.Stacks,I64 y.Height]) (Jh He O O O O) O (JLh (E1 order) (Gm H3 O O O) O ?_))))))))))))
 obtain⟨m,e3,h⟩:=Ge h
 refine JLh (.tup [I64 m.1,I64 m.2]) (Gv O (Yn y order m e3) G7b ⟨O,O,O,O,ø⟩) O (JLm (.tup [I64 m.1,I64 m.2]) O (JLh (I64 m.1) (Gn O O O) O (JLh (I64 m.2) (Gn O O O) O (JLm (I64 m.1) O (JLm (I64 m.2) O (G6 (e2 (Jr fun e4=>(JLm (I64 m.2) O (JLh (BL (decide (m.2≠0))) (Yo O O O) O (G6 (e4 (JCc O h (fun h hb=>?_) (fun h hb=>?_))))))))))))))
 ·
  refine Jr fun e5=>(JLm (I64 m.2) O (JLh (E2 ([]:List G3)) (Jk 2 O O) O (JLm (I64 m.2) O (G6 (e5 (H5 [(4,E2 ([]:List G3)),(5,I64 m.2)] [] 1037 rfl rfl rfl ø rfl (by exact⟨.conv (.same rfl),.conv (.same rfl),ø⟩) (H1 (⟨[E2 ([]:List G3),I64 m.2],[],ø,O,⟨⟨_,O,.conv (.same O)⟩,⟨_,O,.conv (.same O)⟩,ø⟩,O,congrArg (fun r:(List G3)×Int=>(.tup [E2 r.1,I64 r.2]:AV)) (Ex h)⟩))))))))
 ·
  refine Gi (e1 (Jr fun e6=>(JLh (OW 1039 2 G3.av ([]:List G3)) (Ga1 1039 39 2 O O O) O (G6 (e6 (Js fun e7=>Q01 (e7 (Gg ?_))))))))
  obtain⟨b9,e8,h⟩:=G2b h
  refine H9 (fun t (b:(List G3)×(List (List Int))×Int)=>loop b9 t b=some r) (fun t b=>[(2,.ptr 1037 0),(3,.dptr [E1 order]),(8,OW 1039 2 G3.av b.1)]) (fun t b=>[(1039,.spare 39 2 b.1.length b.1.length),(1037,.box 24 [LS 1 (E1) b.2.1,I64 b.2.2])]) (fun t=>t) F ([],y.Stacks,y.Height) h ⟨(.sm O O),⟨⟨_,O,.same⟩,⟨_,O,.boxL O (.sm O O)⟩,ø⟩,O⟩ ?_
  clear h
  intro t b f0 K9 e9
  obtain⟨m9,g1,hm_9,f1,h⟩:=G03 f0
  replace h:=Hba e8 h
  refine Gg (Jr fun a3=>(JLh (.agg [LS 1 (E1) b.2.1,I64 b.2.2]) (Jh He O O O O) O (JLh (E1 order) (Gm H3 O O O) O ?_)))
  obtain⟨k,a4,h⟩:=Ge h
  refine G74 O O O (G78 (args:=[.agg [LS 1 (E1) b.2.1,I64 b.2.2],E1 order]) (L0:=[]) (u:=fun p=>.vec 1064 p 1 k.length) (Lr:=fun p=>[(1064,.vec 3 1 p (k.map I64))]) O (J01 (Gq.mk b.2.1 b.2.2) order k a4) H7c ⟨.inl O,O,.inl O,O,ø⟩ ø O (fun _=>O)) ?_
  rintro u_ L_ ⟨i,rfl,rfl⟩
  refine JLm (.vec 1064 i 1 k.length) O (G6 (a3 (Js fun a5=>Jr fun a6=>(JLm (.vec 1064 i 1 k.length) O (Gfc (f:=I64) (xs:=k) G7 O O O (fun f8=>?_) O O O)))))
  refine JLh (BL (decide ((k.length:Int)=0))) (R8 O O O) O (G6 (a6 (JCc O h (fun h hb=>?_) (fun h hb=>?_))))
  ·
   refine Jr fun a7=>(JLm (OW 1039 2 G3.av b.1) O (JLm (OW 1039 2 G3.av b.1) O (JLm (I64 0) O (G6 (a7 (H5 [(4,OW 1039 2 G3.av b.1),(5,I64 0)] [(1039,.spare 39 2 b.1.length b.1.length),(1064,.vec 3 1 i (k.map I64))] 1037 rfl rfl rfl ⟨⟨_,rfl,.same⟩,⟨_,rfl,.vec⟩,ø⟩ rfl (by exact⟨.conv (.same rfl),.conv (.same rfl),ø⟩) (H1 (⟨[E2 b.1,I64 0],[],ø,O,⟨⟨_,O,.conv (.list O)⟩,⟨_,O,.conv (.same O)⟩,ø⟩,O,congrArg (fun r:(List G3)×Int=>(.tup [E2 r.1,I64 r.2]:AV)) (Ex h)⟩))))))))
  ·
   refine Gi (a5 (Jr fun a8=>(JLm (.vec 1064 i 1 k.length) O (JLh (.fn 52 [.dptr [E1 order]]) (J59 (cs:=[.dptr [E1 order]]) O O) O ?_))))
   obtain⟨g,a9,h⟩:=Ge h
   refine JLh (.tup []) (R55 (cmp:=(fun z0 z1=>Qy z0 z1 order)) (xs:=k) (r:=g) O Jcb Jcc Q29 Q28 O O O O O a9 (fun z0 z1 q hq=>H27 z0 z1 order q hq) O) O (G6 (a8 (Js fun b0=>Jr fun b1=>(JLm (.vec 1064 i 1 k.length) O (Gfc (f:=I64) (xs:=g) G7 O O O (fun b2=>?_) O O O)))))
   refine JLm (I64 0) O (G6 (b1 (Gg ?_)))
   obtain⟨f2,b3,b4,a0,h⟩:=J7 h
   refine H9 (fun j (c:(List G3))=>each f2 b3 (List.drop j g) j c=some r) (fun j c=>[(2,.ptr 1037 0),(3,.dptr [E1 order]),(8,OW 1039 2 G3.av c),(35,.vec 1064 i 1 k.length),(36,E7 g.length),(37,E7 j)]) (fun j c=>[(1039,.spare 39 2 c.length c.length),(1064,.vec 3 1 i (g.map I64)),(1037,.box 24 [LS 1 (E1) b.2.1,I64 b.2.2])]) (fun j=>g.length - j) 0 b.1 h ⟨(.sm O O),⟨⟨_,rfl,.same⟩,⟨_,rfl,.vec⟩,fbQ O (.sm O O),ø⟩,rfl⟩ ?_
   clear h
   intro j c v g2 f3
   refine Jr fun b5=>(JLh (BL (decide ((j:Int) < (g.length:Int)))) (J0 O O O) O (G6 (b5 (Js fun b6=>Gh O (fun hb=>?_) (fun hb=>?_)))))
   ·
    have w:=Jn hb
    obtain⟨l,f9,x,b7,h⟩:=Hx v w
    replace h:=Yr b4 h
    refine Gi (b6 ?_)
    obtain⟨b8,a1,h⟩:=G11 h
    refine Z5 (fun o:Unit=>b8 o=some r) (fun o=>[(2,.ptr 1037 0),(3,.dptr [E1 order]),(8,OW 1039 2 G3.av c),(35,.vec 1064 i 1 k.length),(36,E7 g.length),(37,E7 j)]) (fun o=>[(1039,.spare 39 2 c.length c.length),(1064,.vec 3 1 i (g.map I64)),(1037,.box 24 [LS 1 (E1) b.2.1,I64 b.2.2])]) (fun Kj75 ej75=>?_) ?_
    ·
     refine Gg (Jr fun c0=>(JLh (.vptr 1064 i j 0) (G0e (f:=I64) (xs:=g) (y:=l) O O O O G7 x O) O (JLh (I64 l) (Gfd (f:=I64) (xs:=g) (y:=l) Gj O O O x O O) O (JLm (I64 l) O (G6 (c0 (Jr fun c1=>(JLh (.agg [LS 1 (E1) b.2.1,I64 b.2.2]) (Jh He O O O O) O (JLm (I64 l) O ?_)))))))))
     obtain⟨a,c2,h⟩:=Ge h
     refine JLh (.tup [I64 a.1,I64 a.2.1,BL a.2.2]) (Gv O (Ge6 (Gq.mk b.2.1 b.2.2) l a c2) H7b ⟨O,O,O,O,ø⟩) O (JLm (.tup [I64 a.1,I64 a.2.1,BL a.2.2]) O (JLh (I64 a.1) (Gn O O O) O (JLh (I64 a.2.1) (Gn O O O) O (JLh (BL a.2.2) (Gn O O O) O (JLm (I64 a.1) O (JLm (I64 a.2.1) O (JLm (BL a.2.2) O (G6 (c1 (Js fun c3=>Jr fun c4=>(JLm (I64 a.2.1) O (JLh (.ptr 1037 0) (Ht Hu O O) O (JLh (LS 1 (E1) b.2.1) (Hw Gs O O O O) O (JLm (I64 a.1) O ?_))))))))))))))
     obtain⟨g3,z,c5,c6,h⟩:=R4 h
     refine JLh (.dptr [E1 z]) (H0 (f:=(E1)) (xs:=b.2.1) (y:=z) O O O Gf c6 c5) O (JLh (E1 z) (Gm H3 O O O) O (JLl G7 O O O fun g0=>?_))
     obtain⟨a2,c7,h⟩:=J9 h
     refine JLh (I64 a2) (Zu c7 O O O) O (JLh (BL (decide (a.2.1 < a2))) (J0 O O O) O (G6 (c4 (JCc O h (fun h hb=>?_) (fun h hb=>?_)))))
     ·
      refine Hd (ej75 _ _ () h ⟨(.sm O O),⟨⟨_,rfl,.same⟩,⟨_,rfl,.vec⟩,fbQ O (.sm O O),ø⟩,rfl⟩)
     ·
      refine Gi (c3 (Js fun c8=>Rj (l':=[(2,.ptr 1037 0),(3,.dptr [E1 order]),(8,OW 1039 2 G3.av c),(11,I64 l),(12,I64 a.1),(35,.vec 1064 i 1 k.length),(36,E7 g.length),(37,E7 j)]) (L':=[(1039,.spare 39 2 c.length c.length),(1064,.vec 3 1 i (g.map I64)),(1037,.box 24 [LS 1 (E1) b.2.1,I64 b.2.2])]) ⟨(.sm O O),⟨⟨_,rfl,.same⟩,⟨_,rfl,.vec⟩,fbQ O (.sm O O),ø⟩,rfl⟩ ?_))
      obtain⟨s,c9,h⟩:=Ge h
      obtain⟨d,d0,h⟩:=Ge h
      refine JC_d0 Jm (by kernel_rfl) (Dq (.agg [LS 1 (E1) b.2.1,I64 b.2.2]) (Jh He O O O O) O (Dq (E1 order) (Gm H3 O O O) O (Dq (I64 a.1) (G2 O O) O (Dq (E1 order) (Gm H3 O O O) O (Dq (I64 l) (G2 O O) O (Dq (I64 s) (Gv (args:=[E1 order,I64 l]) O (Y9 order l s c9) G52 ⟨O,O,O,O,ø⟩) O (Dq (I64 d) (Gv (args:=[.agg [LS 1 (E1) b.2.1,I64 b.2.2],E1 order,I64 a.1,I64 s]) O (Hbb (Gq.mk b.2.1 b.2.2) order a.1 s d d0) Q26 ⟨O,O,O,O,O,O,O,O,ø⟩) O (Dq (I64 d) (G5 O O) O (Dnil (c8 (Jr fun d1=>(JLm (I64 d) O (JLh (BL (decide (0≤d))) (G4e O O O) O (G6 (d1 (JCc O h (fun h hb=>?_) (fun h hb=>?_)))))))))))))))))
      ·
       refine Jr fun d2=>(JLm (OW 1039 2 G3.av c) O (JLm (I64 a.1) O (JLm (I64 d) O (JLh (.agg [I64 a.1,I64 d]) (Jo (cs:=[I64 a.1,I64 d]) [(0,1),(1,1)] [I64 0,I64 0] [E0,E0] G3c G7a (zzQ O) O O) O (JLh (E2 [(G3.mk a.1 d)]) (H8 (xs:=[.agg [I64 a.1,I64 d]]) O ⟨O,O,ø⟩ J4 G58 O O O O) O ?_)))))
       obtain⟨d3,h⟩:=J1 h
       refine JLh (OW 1039 2 G3.av (c++[(G3.mk a.1 d)])) (Ro (f:=G3.av) (xs:=c) (ys:=[(G3.mk a.1 d)]) O O O O J4 H02 d3 (fun _=>O) (.inl O) O) O (JLm (OW 1039 2 G3.av (c++[(G3.mk a.1 d)])) O (G6 (d2 (Js fun d4=>Rj (l':=[(2,.ptr 1037 0),(3,.dptr [E1 order]),(8,OW 1039 2 G3.av (c++[(G3.mk a.1 d)]))]) (L':=[(1039,.spare 39 2 (c++[(G3.mk a.1 d)]).length (c++[(G3.mk a.1 d)]).length),(1064,.vec 3 1 i (g.map I64)),(1037,.box 24 [LS 1 (E1) b.2.1,I64 b.2.2])]) ⟨(.sm O O),⟨⟨_,O,.same⟩,⟨_,O,.vec⟩,⟨_,O,.boxL O (.sm O O)⟩,ø⟩,O⟩ ?_))))
       obtain⟨f4,d5,h⟩:=J9 h
       obtain⟨g4,n,d6,d7,h⟩:=R4 h
       obtain⟨e,d8,h⟩:=Ge h
       refine Ju [11] (.replicate 12 0) [0,0,0,0,0,0,0,0,0,0,1,0] [[(1039,.spare 39 2 (c++[(G3.mk a.1 d)]).length (c++[(G3.mk a.1 d)]).length),(1064,.vec 3 1 i (g.map I64)),(1037,.box 24 [LS 1 (E1) b.2.1,I64 b.2.2])],((1037,.box 24 [LS 1 (E1) e.1.Stacks,I64 e.1.Height])::[(1039,.spare 39 2 (c++[(G3.mk a.1 d)]).length (c++[(G3.mk a.1 d)]).length),(1064,.vec 3 1 i (g.map I64)),(1037,.box 24 [LS 1 (E1) b.2.1,I64 b.2.2])])] Jm (by kernel_rfl) rfl rfl ?_
       refine Gd (u:=.agg [LS 1 (E1) b.2.1,I64 b.2.2]) O O ⟨Gc (Jh He O O O O) O,ø⟩ (Gd (u:=OW 1039 2 G3.av (c++[(G3.mk a.1 d)])) O O ⟨Gc (G2 O O) O,ø⟩ (Gd (u:=OW 1039 2 G3.av (c++[(G3.mk a.1 d)])) O O ⟨Gc (G2 O O) O,ø⟩ (Gd (u:=I64 ((c++[(G3.mk a.1 d)]).length:Int)) O O ⟨Gc (Q3 (f:=G3.av) (xs:=(c++[(G3.mk a.1 d)])) J4 O O) O,ø⟩ (Gd (u:=I64 f4) O O ⟨Gc (Zu d5 O O O) O,ø⟩ (Gd (u:=.dptr [I64 n.From,I64 n.To]) O O ⟨Gc (H0 (f:=G3.av) (xs:=(c++[(G3.mk a.1 d)])) (y:=n) O O O J4 d7 d6) O,ø⟩ (Gd (u:=.agg [I64 n.From,I64 n.To]) O O ⟨Gc (Gw G5b O O O) O,ø⟩ (Gd (u:=.tup [.agg [LS 1 (E1) e.1.Stacks,I64 e.1.Height],I64 e.2]) O O ⟨Gc (Gv O (J4b.down (Gq.mk b.2.1 b.2.2) n e d8) Q33 ⟨O,O,O,O,ø⟩) O,ø⟩ (Gd (u:=.tup [.agg [LS 1 (E1) e.1.Stacks,I64 e.1.Height],I64 e.2]) O O ⟨Gc (G2 O O) O,ø⟩ (Gd (u:=.agg [LS 1 (E1) e.1.Stacks,I64 e.1.Height]) O O ⟨Gc (Gn O O O) O,ø⟩ (Gd (u:=I64 e.2) O O ⟨Gc (Gn O O O) O,Gc (Gn O O O) O,ø⟩ (H4b (u:=.junk) O O O O (Gc (Hv (u:=.agg [LS 1 (E1) e.1.Stacks,I64 e.1.Height]) (ds:=[LS 1 (E1) e.1.Stacks,I64 e.1.Height]) Zo O O O O O O O O) O) (Y3 ?_))))))))))))
       refine d4 (Hd (e9 _ _ m9 ((c++[(G3.mk a.1 d)]),e.1.Stacks,e.1.Height) (app1 f1 h) (by omega) ⟨(.sm O O),⟨⟨_,rfl,.same⟩,fbQ O (.sm O O),ø⟩,rfl⟩))
      ·
       refine Gi (ej75 _ _ () h ⟨(.sm O O),⟨⟨_,rfl,.same⟩,⟨_,rfl,.vec⟩,fbQ O (.sm O O),ø⟩,rfl⟩)
    ·intro o h
     replace h:=app1 a1 h
     refine G1 (JLh (I64 ((j+1:Nat):Int)) (Hz (Hk w b2) O O O) O (JLm (I64 ((j+1:Nat):Int)) O (G6 (f3 _ _ (j+1) c (app1 b7 h) (by omega) ⟨(.sm O O),⟨⟨_,rfl,.same⟩,⟨_,rfl,.vec⟩,fbQ O (.sm O O),ø⟩,rfl⟩))))
   ·
    have h:=app1 a0 (Hy v (Hb hb))
    refine Hd (b0 (Jr fun d9=>(JLh (E2 ([]:List G3)) (Jk 2 O O) O (JLm (I64 360) O (G6 (d9 (H5 [(4,E2 ([]:List G3)),(5,I64 360)] [(1039,.spare 39 2 c.length c.length),(1064,.vec 3 1 i (g.map I64))] 1037 rfl rfl rfl ⟨⟨_,rfl,.same⟩,⟨_,rfl,.vec⟩,ø⟩ rfl (by exact⟨.conv (.same rfl),.conv (.same rfl),ø⟩) (H1 (⟨[E2 ([]:List G3),I64 360],[],ø,O,⟨⟨_,O,.conv (.same O)⟩,⟨_,O,.conv (.same O)⟩,ø⟩,O,congrArg (fun r:(List G3)×Int=>(.tup [E2 r.1,I64 r.2]:AV)) (Ex h)⟩)))))))))

def Q5 (a:List Int) (b:List Int):Option Bool:=
 bif decide ((a.length:Int)≠(b.length:Int)) then
 (some false)
 else
 (each (fun d e (f:Unit) c=>
   R2 b (e:Int) fun g=>
   bif decide (d≠g) then
   (some false)
   else
   (c ()))
  (fun(f:Unit)=>
   some true) a 0 ())
theorem Zv (a:List Int) (b:List Int) (r:Bool) (h:Q5 a b=some r):Pure E8 36 [E1 a,E1 b] (·=BL r):=by
 unfold Q5 at h
 refine Hc [.tmp 4] Try.func36 O O (Jr fun a0=>(JLm (BL false) O (G6 (a0 (Js fun a1=>Jr fun a2=>(JLm (E1 a) O (JLl G7 O O O fun a9=>(JLm (E1 b) O (JLl G7 O O O fun b0=>(JLh (BL (decide ((a.length:Int)≠(b.length:Int)))) (Yo O O O) O (G6 (a2 (JCc O h (fun h hb=>?_) (fun h hb=>?_))))))))))))))
 ·
  refine Jr fun a3=>(JLm (BL false) O (G6 (a3 (H1 (fin1 BL h)))))
 ·
  refine Gi (a1 (Js fun a4=>Jr fun a5=>(JLm (I64 0) O (G6 (a5 (Gg ?_))))))
  obtain⟨a6,l,m,k,h⟩:=J7 h
  refine H9 (fun c (d:Unit)=>each a6 l (List.drop c a) c d=some r) (fun c d=>[(0,E1 a),(1,E1 b),(5,E7 c)]) (fun c d=>[]) (fun c=>a.length - c) 0 () h ⟨(.sm O O),ø,O⟩ ?_
  clear h
  intro c d i b1 a7
  refine Js fun n=>Jr fun o=>(JLm (E7 c) O (JLm (E1 a) O (JLl G7 O O O fun p=>(JLh (BL (decide ((c:Int) < (a.length:Int)))) (J0 O O O) O (G6 (o (Gh O (fun hb=>?_) (fun hb=>?_))))))))
  ·
   have j:=Jn hb
   obtain⟨e,a8,q,s,h⟩:=Hx i j
   replace h:=Yr m h
   refine Gi (n (Js fun t=>Gg (Js fun u=>?_)))
   obtain⟨b2,g,v,w,h⟩:=R4 h
   refine JC_d0 Jm (by kernel_rfl) (Dq (E1 a) (G2 O O) O (Dq (E7 c) (G2 O O) O (Dq (.dptr [I64 e]) (H0 (f:=I64) (xs:=a) (y:=e) O O O G7 q O) O (Dq (I64 e) (Gm Gj O O O) O (Dq (E1 b) (G2 O O) O (Dq (E7 c) (G2 O O) O (Dq (.dptr [I64 g]) (H0 (f:=I64) (xs:=b) (y:=g) O O O G7 w v) O (Dq (I64 g) (Gm Gj O O O) O (Dq (BL (decide (e≠g))) (Yo O O O) O (Dnil (u (JCc O h (fun h hb=>?_) (fun h hb=>?_)))))))))))))
   ·
    refine Jr fun x=>(JLm (BL false) O (G6 (x (H1 (fin1 BL h)))))
   ·
    refine Gi (t (G1 (JLm (E7 c) O (JLh (I64 ((c+1:Nat):Int)) (Hz (Hk j p) O O O) O (JLm (I64 ((c+1:Nat):Int)) O (G6 (a7 _ _ (c+1) () (app1 s h) (by omega) ⟨(.sm O O),ø,rfl⟩)))))))
  ·
   have h:=app1 k (Hy i (Hb hb))
   refine Hd (a4 (Jr fun z=>(JLm (BL true) O (G6 (z (H1 (fin1 BL h)))))))

def Qu (F:Nat) :Option Bool:=
 bnd (Yv (Gq.mk ([[1,3,2],[4],[]]) 3) [1,2,3,4]) fun g=>
 bnd (Q0 F (Gq.mk ([[1,3,2],[4],[]]) 3) [1,2,3,4]) fun f=>
 bnd (J8 F (Gq.mk ([[1,3,2],[4],[]]) 3) [1,2,3,4]) fun h=>
 bnd (Qj (Gq.mk ([[1,3,2],[4],[]]) 3) [1,2,3,4] f.1) fun b=>
 bnd (Q5 g.1 [2,3]) fun a=>
 bnd (bif (!(!a)) then Jt f.1 [(G3.mk 0 1),(G3.mk 0 2)] else some default) fun c=>
 bnd (bif (!((!a)||(!c))) then Jt h.1 [(G3.mk 0 1),(G3.mk 0 2)] else some default) fun d=>
 bnd (bif (!((((!a)||(!c))||(!d))||(!b.1))) then chk (g.2+f.2) some else some 0) fun i=>
 bnd (bif (!((((!a)||(!c))||(!d))||(!b.1))) then chk (i+h.2) some else some 0) fun j=>
 bnd (bif (!((((!a)||(!c))||(!d))||(!b.1))) then chk (j+b.2) some else some 0) fun k=>
 bif (((((!a)||(!c))||(!d))||(!b.1))||(decide (k≠0))) then
 (some false)
 else
 (bnd (Q0 F (Gq.mk ([[1,2],[3,4]]) 2) [1,2,3,4]) fun l=>
  bnd (J8 F (Gq.mk ([[1,2],[3,4]]) 2) [1,2,3,4]) fun m=>
  bnd (Rz 3 [1,2,3,4].length) fun n=>
  bnd (Q0 F (Gq.mk ([[1,3],[2]]) 2) ([1,2,3,4].take n)) fun o=>
  bnd (Rz 3 [1,2,3,4].length) fun p=>
  bnd (J8 F (Gq.mk ([[1,3],[2]]) 2) ([1,2,3,4].take p)) fun q=>
  bif ((((decide (l.2≠360))||(decide (m.2≠6)))||(decide (o.2≠360)))||(decide (q.2≠6))) then
  (some false)
  else
  (bnd (Q0 F (Gq.mk ([[1,3],[2,4],[]]) 2) [1,2,3,4]) fun e=>
   bnd (bif decide (e.2=0) then Jt e.1 [(G3.mk 1 2),(G3.mk 0 2)] else some default) fun r=>
   some ((decide (e.2=0))&&r)))
theorem Gec (F:Nat)  (r:Bool) (h:Qu F =some r):Pure E8 12 [] (·=BL r):=by
 unfold Qu at h
 refine Hc [.tmp 0] Try.func12 O O (Jr fun c6=>(JLm (BL false) O (G6 (c6 ?_))))
 refine Jr fun c7=>(JLh (E1 [1,3,2]) (H8 (xs:=[I64 1,I64 3,I64 2]) O ⟨O,O,O,O,O,O,ø⟩ G7 Jf O O O O) O (JLh (E1 [4]) (H8 (xs:=[I64 4]) O ⟨O,O,ø⟩ G7 Jf O O O O) O (JLh (LS 1 (E1) ([[1,3,2],[4],[]])) (H74 (xs:=[E1 [1,3,2],E1 [4],E1 ([]:List Int)]) O ⟨.inl O,O,.inl O,O,.inr ⟨_,O,O⟩,O,ø⟩ Gf Zi O O O O) O (JLh (.agg [LS 1 (E1) ([[1,3,2],[4],[]]),I64 3]) (Jo (cs:=[LS 1 (E1) ([[1,3,2],[4],[]]),I64 3]) [(0,1),(1,1)] [LS 1 (E1) ([]:List (List Int)),I64 0] [.slice none 0 0,E0] Gaa Gb6 ⟨.inr ⟨_,O,O⟩,.inl O,ø⟩ O O) O (JLh (.ptr 1008 0) (Je 1008 2 Zx O O) O (Jc (u:=.junk) (Hv (u:=.agg [LS 1 (E1) ([[1,3,2],[4],[]]),I64 3]) (ds:=[LS 1 (E1) ([[1,3,2],[4],[]]),I64 3]) Zo O O O O O O O O) (G6 (c7 ?_))))))))
 refine H5 [(1,.dptr [LS 1 (E1) ([[1,3,2],[4],[]]),I64 3])] [] 1008 rfl rfl rfl ø rfl (by exact⟨.ptr,ø⟩) (Jr fun c8=>(JLh (E1 [1,2,3,4]) (H8 (xs:=[I64 1,I64 2,I64 3,I64 4]) O ⟨O,O,O,O,O,O,O,O,ø⟩ G7 Jf O O O O) O (JLm (E1 [1,2,3,4]) O (G6 (c8 (Jr fun c9=>(JLh (.agg [LS 1 (E1) ([[1,3,2],[4],[]]),I64 3]) (Gw He O O O) O (JLm (E1 [1,2,3,4]) O ?_))))))))
 obtain⟨o,d0,h⟩:=Ge h
 refine JLh (.tup [E1 o.1,I64 o.2]) (Gv O (Ga5 (Gq.mk ([[1,3,2],[4],[]]) 3) [1,2,3,4] o d0) H81 ⟨O,O,O,O,ø⟩) O (JLm (.tup [E1 o.1,I64 o.2]) O (JLh (E1 o.1) (Gn O O O) O (JLh (I64 o.2) (Gn O O O) O (JLm (E1 o.1) O (JLm (I64 o.2) O (G6 (c9 (Jr fun d1=>(JLh (.agg [LS 1 (E1) ([[1,3,2],[4],[]]),I64 3]) (Gw He O O O) O (JLm (E1 [1,2,3,4]) O ?_))))))))))
 obtain⟨l,d2,h⟩:=Ge h
 refine JLh (.tup [E2 l.1,I64 l.2]) (Gv O (Yc F (Gq.mk ([[1,3,2],[4],[]]) 3) [1,2,3,4] l d2) G7c ⟨O,O,O,O,ø⟩) O (JLm (.tup [E2 l.1,I64 l.2]) O (JLh (E2 l.1) (Gn O O O) O (JLh (I64 l.2) (Gn O O O) O (JLm (E2 l.1) O (JLm (I64 l.2) O (G6 (d1 (Jr fun d3=>(JLh (.agg [LS 1 (E1) ([[1,3,2],[4],[]]),I64 3]) (Gw He O O O) O (JLm (E1 [1,2,3,4]) O ?_))))))))))
 obtain⟨n,d4,h⟩:=Ge h
 refine JLh (.tup [E2 n.1,I64 n.2]) (Gv O (G09 F (Gq.mk ([[1,3,2],[4],[]]) 3) [1,2,3,4] n d4) Gbb ⟨O,O,O,O,ø⟩) O (JLm (.tup [E2 n.1,I64 n.2]) O (JLh (E2 n.1) (Gn O O O) O (JLh (I64 n.2) (Gn O O O) O (JLm (E2 n.1) O (JLm (I64 n.2) O (G6 (d3 (Jr fun v=>(JLh (.agg [LS 1 (E1) ([[1,3,2],[4],[]]),I64 3]) (Gw He O O O) O (JLm (E1 [1,2,3,4]) O (JLm (E2 l.1) O ?_)))))))))))
 obtain⟨d,w,h⟩:=Ge h
 refine JLh (.tup [BL d.1,I64 d.2]) (Gv O (G0a (Gq.mk ([[1,3,2],[4],[]]) 3) [1,2,3,4] l.1 d w) Gba ⟨O,O,O,O,O,O,ø⟩) O (JLm (.tup [BL d.1,I64 d.2]) O (JLh (BL d.1) (Gn O O O) O (JLh (I64 d.2) (Gn O O O) O (JLm (BL d.1) O (JLm (I64 d.2) O (G6 (v ?_)))))))
 refine Jr fun x=>(JLh (.agg [I64 0,I64 1]) (Jo (cs:=[I64 0,I64 1]) [(0,1),(1,1)] [I64 0,I64 0] [E0,E0] G3c G7a (zzQ O) O O) O (JLh (.agg [I64 0,I64 2]) (Jo (cs:=[I64 0,I64 2]) [(0,1),(1,1)] [I64 0,I64 0] [E0,E0] G3c G7a (zzQ O) O O) O (JLh (E2 [(G3.mk 0 1),(G3.mk 0 2)]) (H8 (xs:=[.agg [I64 0,I64 1],.agg [I64 0,I64 2]]) O ⟨O,O,O,O,ø⟩ J4 G58 O O O O) O (JLm (E2 [(G3.mk 0 1),(G3.mk 0 2)]) O (G6 (x (Js fun y=>Jr fun z=>(JLm (E1 o.1) O (JLh (E1 [2,3]) (H8 (xs:=[I64 2,I64 3]) O ⟨O,O,O,O,ø⟩ G7 Jf O O O O) O ?_)))))))))
 obtain⟨i,a0,h⟩:=Ge h
 refine JLh (BL i) (Gv O (Zv o.1 [2,3] i a0) H7e ⟨O,O,O,O,ø⟩) O (JLh (BL (!i)) (Zd (b:=i) O O) O (JLm (BL (!i)) O (JLo (E2 l.1) [] O .scf ø (fun hc=>G2 O O) O (JLo (E2 [(G3.mk 0 1),(G3.mk 0 2)]) [] O .scf ø (fun hc=>G2 O O) O ?_))))
 obtain⟨j,a1,h⟩:=Ge h
 refine JLo (BL j) [52,53] O .scf ⟨Ua,Ua,ø⟩ (fun hc=>Gv (args:=[E2 l.1,E2 [(G3.mk 0 1),(G3.mk 0 2)]]) O (R3 l.1 [(G3.mk 0 1),(G3.mk 0 2)] j (H6 hc a1)) G7d ⟨O,O,O,O,ø⟩) O (JLo (BL (!j)) [54] O .scf ⟨Ua,ø⟩ (fun hc=>Zd (b:=j) O O) O (JLh (BL ((!i)||(!j))) (Yz O O O O) O (JLm (BL ((!i)||(!j))) O (JLo (E2 n.1) [] O .scf ø (fun hc=>G2 O O) O (JLo (E2 [(G3.mk 0 1),(G3.mk 0 2)]) [] O .scf ø (fun hc=>G2 O O) O ?_)))))
 obtain⟨m,a2,h⟩:=Ge h
 refine JLo (BL m) [58,59] O .scf ⟨Ua,Ua,ø⟩ (fun hc=>Gv (args:=[E2 n.1,E2 [(G3.mk 0 1),(G3.mk 0 2)]]) O (R3 n.1 [(G3.mk 0 1),(G3.mk 0 2)] m (H6 hc a2)) G7d ⟨O,O,O,O,ø⟩) O (JLo (BL (!m)) [60] O .scf ⟨Ua,ø⟩ (fun hc=>Zd (b:=m) O O) O (JLh (BL (((!i)||(!j))||(!m))) (Yz O O O O) O (JLm (BL (((!i)||(!j))||(!m))) O (JLo (BL d.1) [] O .scf ø (fun hc=>G2 O O) O (JLo (BL (!d.1)) [64] O .scf ⟨Ua,ø⟩ (fun hc=>Zd (b:=d.1) O O) O (JLh (BL ((((!i)||(!j))||(!m))||(!d.1))) (Yz O O O O) O (JLm (BL ((((!i)||(!j))||(!m))||(!d.1))) O (JLo (I64 o.2) [] O .scf ø (fun hc=>G2 O O) O (JLo (I64 l.2) [] O .scf ø (fun hc=>G2 O O) O ?_)))))))))
 obtain⟨d5,a3,h⟩:=Ge h
 refine JLo (I64 d5) [68,69] O .scf ⟨Ua,Ua,ø⟩ (fun hc=>Hz (Gc1 (H6 hc a3)) O O O) O (JLo (I64 n.2) [] O .scf ø (fun hc=>G2 O O) O ?_)
 obtain⟨d6,a4,h⟩:=Ge h
 refine JLo (I64 d6) [70,71] O .scf ⟨Ua,Ua,ø⟩ (fun hc=>Hz (Gc1 (H6 hc a4)) O O O) O (JLo (I64 d.2) [] O .scf ø (fun hc=>G2 O O) O ?_)
 obtain⟨q,a5,h⟩:=Ge h
 refine JLo (I64 q) [72,73] O .scf ⟨Ua,Ua,ø⟩ (fun hc=>Hz (Gc1 (H6 hc a5)) O O O) O (JLo (BL (decide (q≠0))) [74] O .scf ⟨Ua,ø⟩ (fun hc=>Yo O O O) O (JLh (BL (((((!i)||(!j))||(!m))||(!d.1))||(decide (q≠0)))) (Yz O O O O) O (G6 (z (JCc O h (fun h hb=>?_) (fun h hb=>?_))))))
 ·
  refine Jr fun a6=>(JLm (BL false) O (G6 (a6 (H1 (fin1 BL h)))))
 ·
  refine Gi (y ?_)
  refine Jr fun a7=>(JLh (E1 [1,2]) (H8 (xs:=[I64 1,I64 2]) O ⟨O,O,O,O,ø⟩ G7 Jf O O O O) O (JLh (E1 [3,4]) (H8 (xs:=[I64 3,I64 4]) O ⟨O,O,O,O,ø⟩ G7 Jf O O O O) O (JLh (LS 1 (E1) ([[1,2],[3,4]])) (H8 (xs:=[E1 [1,2],E1 [3,4]]) O ⟨O,O,O,O,ø⟩ Gf Zi O O O O) O (JLh (.agg [LS 1 (E1) ([[1,2],[3,4]]),I64 2]) (Jo (cs:=[LS 1 (E1) ([[1,2],[3,4]]),I64 2]) [(0,1),(1,1)] [LS 1 (E1) ([]:List (List Int)),I64 0] [.slice none 0 0,E0] Gaa Gb6 ⟨.inr ⟨_,O,O⟩,.inl O,ø⟩ O O) O (JLh (.ptr 1009 0) (Je 1009 2 Zx O O) O (Jc (u:=.junk) (Hv (u:=.agg [LS 1 (E1) ([[1,2],[3,4]]),I64 2]) (ds:=[LS 1 (E1) ([[1,2],[3,4]]),I64 2]) Zo O O O O O O O O) (G6 (a7 ?_))))))))
  refine H5 [(2,E1 [1,2,3,4]),(12,.dptr [LS 1 (E1) ([[1,2],[3,4]]),I64 2])] [] 1009 rfl rfl rfl ø rfl (by exact⟨.conv (.same rfl),.ptr,ø⟩) (Jr fun a8=>(JLh (.agg [LS 1 (E1) ([[1,2],[3,4]]),I64 2]) (Gw He O O O) O (JLm (E1 [1,2,3,4]) O ?_)))
  obtain⟨a,a9,h⟩:=Ge h
  refine JLh (.tup [E2 a.1,I64 a.2]) (Gv O (Yc F (Gq.mk ([[1,2],[3,4]]) 2) [1,2,3,4] a a9) G7c ⟨O,O,O,O,ø⟩) O (JLm (.tup [E2 a.1,I64 a.2]) O (JLh (E2 a.1) (Gn O O O) O (JLh (I64 a.2) (Gn O O O) O (JLm (I64 a.2) O (G6 (a8 (Jr fun b0=>(JLh (.agg [LS 1 (E1) ([[1,2],[3,4]]),I64 2]) (Gw He O O O) O (JLm (E1 [1,2,3,4]) O ?_)))))))))
  obtain⟨e,b1,h⟩:=Ge h
  refine JLh (.tup [E2 e.1,I64 e.2]) (Gv O (G09 F (Gq.mk ([[1,2],[3,4]]) 2) [1,2,3,4] e b1) Gbb ⟨O,O,O,O,ø⟩) O (JLm (.tup [E2 e.1,I64 e.2]) O (JLh (E2 e.1) (Gn O O O) O (JLh (I64 e.2) (Gn O O O) O (JLm (I64 e.2) O (G6 (b0 ?_))))))
  refine Jr fun b2=>(JLh (E1 [1,3]) (H8 (xs:=[I64 1,I64 3]) O ⟨O,O,O,O,ø⟩ G7 Jf O O O O) O (JLh (E1 [2]) (H8 (xs:=[I64 2]) O ⟨O,O,ø⟩ G7 Jf O O O O) O (JLh (LS 1 (E1) ([[1,3],[2]])) (H8 (xs:=[E1 [1,3],E1 [2]]) O ⟨O,O,O,O,ø⟩ Gf Zi O O O O) O (JLh (.agg [LS 1 (E1) ([[1,3],[2]]),I64 2]) (Jo (cs:=[LS 1 (E1) ([[1,3],[2]]),I64 2]) [(0,1),(1,1)] [LS 1 (E1) ([]:List (List Int)),I64 0] [.slice none 0 0,E0] Gaa Gb6 ⟨.inr ⟨_,O,O⟩,.inl O,ø⟩ O O) O (JLh (.ptr 1010 0) (Je 1010 2 Zx O O) O (Jc (u:=.junk) (Hv (u:=.agg [LS 1 (E1) ([[1,3],[2]]),I64 2]) (ds:=[LS 1 (E1) ([[1,3],[2]]),I64 2]) Zo O O O O O O O O) (G6 (b2 ?_))))))))
  refine fzQ [(2,E1 [1,2,3,4]),(4,I64 a.2),(6,I64 e.2),(13,.dptr [LS 1 (E1) ([[1,3],[2]]),I64 2])] [] 1010 rfl rfl rfl ø rfl (Js fun b3=>?_)
  obtain⟨s,b4,h⟩:=Ge h
  obtain⟨g,b5,h⟩:=Ge h
  refine JC_d0 Jm (by kernel_rfl) (Dq (.agg [LS 1 (E1) ([[1,3],[2]]),I64 2]) (Gw He O O O) O (Dq (E1 [1,2,3,4]) (G2 O O) O (Dq (E1 ([1,2,3,4].take s)) (Gca (f:=I64) (xs:=[1,2,3,4]) O O O G7 (Ha b4)) O (Dq (.tup [E2 g.1,I64 g.2]) (Gv (args:=[.agg [LS 1 (E1) ([[1,3],[2]]),I64 2],E1 ([1,2,3,4].take s)]) O (Yc F (Gq.mk ([[1,3],[2]]) 2) ([1,2,3,4].take s) g b5) G7c ⟨O,O,O,O,ø⟩) O (Dq (.tup [E2 g.1,I64 g.2]) (G2 O O) O (Dq (E2 g.1) (Gn O O O) O (Dq (I64 g.2) (Gn O O O) O (Dq (I64 g.2) (G5 O O) O (Dnil (b3 (Js fun b6=>?_)))))))))))
  obtain⟨t,b7,h⟩:=Ge h
  obtain⟨k,b8,h⟩:=Ge h
  refine JC_d0 Jm (by kernel_rfl) (Dq (.agg [LS 1 (E1) ([[1,3],[2]]),I64 2]) (Gw He O O O) O (Dq (E1 [1,2,3,4]) (G2 O O) O (Dq (E1 ([1,2,3,4].take t)) (Gca (f:=I64) (xs:=[1,2,3,4]) O O O G7 (Ha b7)) O (Dq (.tup [E2 k.1,I64 k.2]) (Gv (args:=[.agg [LS 1 (E1) ([[1,3],[2]]),I64 2],E1 ([1,2,3,4].take t)]) O (G09 F (Gq.mk ([[1,3],[2]]) 2) ([1,2,3,4].take t) k b8) Gbb ⟨O,O,O,O,ø⟩) O (Dq (.tup [E2 k.1,I64 k.2]) (G2 O O) O (Dq (E2 k.1) (Gn O O O) O (Dq (I64 k.2) (Gn O O O) O (Dq (I64 k.2) (G5 O O) O (Dnil (b6 (Js fun b9=>?_)))))))))))
  refine Jr fun c0=>(JLm (I64 a.2) O (JLh (BL (decide (a.2≠360))) (Yo O O O) O (JLm (BL (decide (a.2≠360))) O (JLo (I64 e.2) [] O .scf ø (fun hc=>G2 O O) O (JLo (BL (decide (e.2≠6))) [114] O .scf ⟨Ua,ø⟩ (fun hc=>Yo O O O) O (JLh (BL ((decide (a.2≠360))||(decide (e.2≠6)))) (Yz O O O O) O (JLm (BL ((decide (a.2≠360))||(decide (e.2≠6)))) O (JLo (I64 g.2) [] O .scf ø (fun hc=>G2 O O) O (JLo (BL (decide (g.2≠360))) [118] O .scf ⟨Ua,ø⟩ (fun hc=>Yo O O O) O (JLh (BL (((decide (a.2≠360))||(decide (e.2≠6)))||(decide (g.2≠360)))) (Yz O O O O) O (JLm (BL (((decide (a.2≠360))||(decide (e.2≠6)))||(decide (g.2≠360)))) O (JLo (I64 k.2) [] O .scf ø (fun hc=>G2 O O) O (JLo (BL (decide (k.2≠6))) [122] O .scf ⟨Ua,ø⟩ (fun hc=>Yo O O O) O ?_)))))))))))))
  refine JLh (BL ((((decide (a.2≠360))||(decide (e.2≠6)))||(decide (g.2≠360)))||(decide (k.2≠6)))) (Yz O O O O) O (G6 (c0 (JCc O h (fun h hb=>?_) (fun h hb=>?_))))
  ·
   refine Jr fun c1=>(JLm (BL false) O (G6 (c1 (H1 (fin1 BL h)))))
  ·
   refine Gi (b9 (Jr fun c2=>(JLh (E1 [1,3]) (H8 (xs:=[I64 1,I64 3]) O ⟨O,O,O,O,ø⟩ G7 Jf O O O O) O (JLh (E1 [2,4]) (H8 (xs:=[I64 2,I64 4]) O ⟨O,O,O,O,ø⟩ G7 Jf O O O O) O (JLh (LS 1 (E1) ([[1,3],[2,4],[]])) (H74 (xs:=[E1 [1,3],E1 [2,4],E1 ([]:List Int)]) O ⟨.inl O,O,.inl O,O,.inr ⟨_,O,O⟩,O,ø⟩ Gf Zi O O O O) O (JLh (.agg [LS 1 (E1) ([[1,3],[2,4],[]]),I64 2]) (Jo (cs:=[LS 1 (E1) ([[1,3],[2,4],[]]),I64 2]) [(0,1),(1,1)] [LS 1 (E1) ([]:List (List Int)),I64 0] [.slice none 0 0,E0] Gaa Gb6 ⟨.inr ⟨_,O,O⟩,.inl O,ø⟩ O O) O (JLm (E1 [1,2,3,4]) O ?_)))))))
   obtain⟨c,c3,h⟩:=Ge h
   refine JLh (.tup [E2 c.1,I64 c.2]) (Gv O (Yc F (Gq.mk ([[1,3],[2,4],[]]) 2) [1,2,3,4] c c3) G7c ⟨O,O,O,O,ø⟩) O (JLm (.tup [E2 c.1,I64 c.2]) O (JLh (E2 c.1) (Gn O O O) O (JLh (I64 c.2) (Gn O O O) O (JLm (E2 c.1) O (JLm (I64 c.2) O (G6 (c2 ?_)))))))
   refine Jr fun c4=>(JLm (I64 c.2) O (JLh (BL (decide (c.2=0))) (R8 O O O) O (JLm (BL (decide (c.2=0))) O (JLo (E2 c.1) [] O .sct ø (fun hc=>G2 O O) O (JLo (.agg [I64 1,I64 2]) [] O .sct ø (fun hc=>Jo (cs:=[I64 1,I64 2]) [(0,1),(1,1)] [I64 0,I64 0] [E0,E0] G3c G7a (zzQ O) O O) O (JLo (.agg [I64 0,I64 2]) [] O .sct ø (fun hc=>Jo (cs:=[I64 0,I64 2]) [(0,1),(1,1)] [I64 0,I64 0] [E0,E0] G3c G7a (zzQ O) O O) O (JLo (E2 [(G3.mk 1 2),(G3.mk 0 2)]) [138,139] O .sct ⟨Ua,Ua,ø⟩ (fun hc=>H8 (xs:=[.agg [I64 1,I64 2],.agg [I64 0,I64 2]]) O ⟨O,O,O,O,ø⟩ J4 G58 O O O O) O ?_)))))))
   obtain⟨p,c5,h⟩:=Ge h
   refine JLo (BL p) [137,140] O .sct ⟨Ua,Ua,ø⟩ (fun hc=>Gv (args:=[E2 c.1,E2 [(G3.mk 1 2),(G3.mk 0 2)]]) O (R3 c.1 [(G3.mk 1 2),(G3.mk 0 2)] p (H6 hc c5)) G7d ⟨O,O,O,O,ø⟩) O (JLh (BL ((decide (c.2=0))&&p)) (Rh O O O O) O (JLm (BL ((decide (c.2=0))&&p)) O (G6 (c4 (H1 (fin1 BL h))))))
end
end Go.Proofs.Ytokjlondbjdlfaa
