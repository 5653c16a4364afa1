/- Walks of functions. -/
import Derived.Test.YtokjlondbjdlfaaGreatXC
set_option maxRecDepth 100000
set_option maxHeartbeats 1000000
set_option linter.unusedVariables false
set_option linter.unusedSimpArgs false
namespace Go.Proofs.YtokjlondbjdlfaaGreat
open Go.RowKit
noncomputable section
namespace XDF
open XAF
open XBF
open XCF
theorem J11:Hp E8 14=true:=by kernel_rfl
theorem Gb9:Hp E8 16=true:=by kernel_rfl
theorem H7c:Hp E8 17=true:=by kernel_rfl
theorem G84:Hp E8 18=true:=by kernel_rfl
theorem H07:Hp E8 21=true:=by kernel_rfl
theorem J0f:Hp E8 27=true:=by kernel_rfl
theorem Q19:Hp E8 33=true:=by kernel_rfl
theorem Q18:Hp E8 34=true:=by kernel_rfl
theorem Q17:Hp E8 35=true:=by kernel_rfl
theorem J0e:Hp E8 36=true:=by kernel_rfl
theorem Q16:Hp E8 39=true:=by kernel_rfl
theorem Q15:Hp E8 40=true:=by kernel_rfl
theorem Q0c:Hp E8 54=true:=by kernel_rfl
theorem J08:Hp E8 62=true:=by kernel_rfl
theorem H6c:Ry E8 35 1 1=true:=by kernel_rfl
theorem G20:placesOf E8 25=some [(0,1),(1,1)]:=by kernel_rfl
theorem Zn:Rw E8 25 2=true:=by kernel_rfl
theorem G36:(E8.info? 25).bind (fun i=>i.zero.map Value.cells)=some (List.toArray [.slice none 0 0,E0]):=by kernel_rfl
theorem Zx:Qe E8 25 2=true:=by kernel_rfl
end XDF
open XAF
open XBF
open XCF
open XDF

def Ye (y:Gh) (order:List Int) (l:List G2):Option (Bool×Int):=
 bnd (Rb y order) fun b=>
 bif decide (b.2≠0) then
 (some (false,b.2))
 else
 (bnd (G9c y l) fun a=>
  bnd (bif decide (a.2.2=0) then Ru a.1 order else some default) fun c=>
  some (((decide (a.2.2=0))&&(decide ((c.length:Int)=0))),0))
theorem Gda (y:Gh) (order:List Int) (l:List G2) (r:Bool×Int) (h:Ye y order l=some r):Pure E8 27 [.agg [LS 1 (E1) y.Stacks,I64 y.Height],E1 order,E2 l] (·=.tup [BL r.1,I64 r.2]):=by
 unfold Ye at h
 refine Hj [.tmp 6,.tmp 7] Tryz.func27 O O (Jr fun e=>(JLh (.ptr 1061 0) (Qw (cs:=[LS 1 (E1) y.Stacks,I64 y.Height]) 1061 O O O O O) O (JLm (BL false) O (JLm (I64 0) O (G6 (e (H7 [(1,E1 order),(2,E2 l),(3,.dptr [LS 1 (E1) y.Stacks,I64 y.Height])] [] 1061 rfl rfl rfl ø rfl (by exact⟨.conv (.same rfl),.conv (.same rfl),.ptr,ø⟩) (Js fun g=>Jr fun i=>(JLh (.agg [LS 1 (E1) y.Stacks,I64 y.Height]) (Gt Hf O O O) O (JLm (E1 order) O ?_))))))))))
 obtain⟨b,j,h⟩:=Gd h
 refine JLh (.tup [I64 b.1,I64 b.2]) (Gu O (Zp y order b j) Gb7 ⟨O,O,O,O,ø⟩) O (JLm (.tup [I64 b.1,I64 b.2]) O (JLh (I64 b.1) (Gw O O O) O (JLh (I64 b.2) (Gw O O O) O (JLm (I64 b.1) O (JLm (I64 b.2) O (G6 (i (Jr fun k=>(JLm (I64 b.2) O (JLh (BL (decide (b.2≠0))) (G1c O O O) O (G6 (k (JCc O h (fun h hb=>?_) (fun h hb=>?_))))))))))))))
 ·
  refine Jr fun m=>(JLm (I64 b.2) O (JLm (BL false) O (JLm (I64 b.2) O (G6 (m (H0 (⟨[BL false,I64 b.2],[],ø,O,⟨⟨_,O,.conv (.same O)⟩,⟨_,O,.conv (.same O)⟩,ø⟩,O,congrArg (fun r:Bool×Int=>(.tup [BL r.1,I64 r.2]:AV)) (Ez h)⟩)))))))
 ·
  refine Gk (g (Jr fun n=>(JLh (.agg [LS 1 (E1) y.Stacks,I64 y.Height]) (Gt Hf O O O) O (JLm (E2 l) O ?_))))
  obtain⟨a,o,h⟩:=Gd h
  refine JLh (.tup [.agg [LS 1 (E1) a.1.Stacks,I64 a.1.Height],I64 a.2.1,I64 a.2.2]) (Gu O (J58.down y l a o) Q0c ⟨O,O,O,O,ø⟩) O (JLm (.tup [.agg [LS 1 (E1) a.1.Stacks,I64 a.1.Height],I64 a.2.1,I64 a.2.2]) O (JLh (.agg [LS 1 (E1) a.1.Stacks,I64 a.1.Height]) (Gw O O O) O (JLh (I64 a.2.1) (Gw O O O) O (JLh (I64 a.2.2) (Gw O O O) O (JLh (.ptr 1062 0) (Ji 1062 2 Zx O O) O (Jb (u:=.junk) (Hu (u:=.agg [LS 1 (E1) a.1.Stacks,I64 a.1.Height]) (ds:=[LS 1 (E1) a.1.Stacks,I64 a.1.Height]) Zn O O O O O O O O) (JLm (I64 a.2.1) O (JLm (I64 a.2.2) O (G6 (n ?_))))))))))
  refine H7 [(1,E1 order),(10,.dptr [LS 1 (E1) a.1.Stacks,I64 a.1.Height]),(12,I64 a.2.2)] [] 1062 rfl rfl rfl ø rfl (by exact⟨.conv (.same rfl),.ptr,.conv (.same rfl),ø⟩) (Jr fun p=>(JLm (I64 a.2.2) O (JLh (BL (decide (a.2.2=0))) (Yx O O O) O (JLm (BL (decide (a.2.2=0))) O (JLo (.agg [LS 1 (E1) a.1.Stacks,I64 a.1.Height]) [] O .sct ø (fun hc=>Gt Hf O O O) O (JLo (E1 order) [] O .sct ø (fun hc=>G3 O O) O ?_))))))
  obtain⟨c,d,h⟩:=Gd h
  refine JLo (E1 c) [32,33] O .sct ⟨Ua,Ua,ø⟩ (fun hc=>Gu (args:=[.agg [LS 1 (E1) a.1.Stacks,I64 a.1.Height],E1 order]) O (H22 a.1 order c (H6 hc d)) H79 ⟨O,O,O,O,ø⟩) O (JLo (E7 c.length) [34] O .sct ⟨Ua,ø⟩ (fun hc=>Re (f:=I64) (xs:=c) G8 O O) O (JLo (BL (decide ((c.length:Int)=0))) [35] O .sct ⟨Ua,ø⟩ (fun hc=>Yx O O O) O (JLh (BL ((decide (a.2.2=0))&&(decide ((c.length:Int)=0)))) (Yy O O O O) O (JLm (BL ((decide (a.2.2=0))&&(decide ((c.length:Int)=0)))) O (JLm (I64 0) O (G6 (p (H0 (⟨[BL ((decide (a.2.2=0))&&(decide ((c.length:Int)=0))),I64 0],[],ø,O,⟨⟨_,O,.conv (.same O)⟩,⟨_,O,.conv (.same O)⟩,ø⟩,O,congrArg (fun r:Bool×Int=>(.tup [BL r.1,I64 r.2]:AV)) (Ez h)⟩)))))))))

def G2a (x:Int):Option Bool:=
 some (decide (x≠x))
theorem Gdb (x:Int) (r:Bool) (h:G2a x=some r):Pure E8 62 [I64 x] (·=BL r):=by
 unfold G2a at h
 refine Hj [.tmp 2] Tryz.func62 O O (Jr fun a=>(JLm (BL false) O (G6 (a (Jr fun b=>(JLm (I64 x) O (JLm (I64 x) O (JLh (BL (decide (x≠x))) (G1c O O O) O (JLm (BL (decide (x≠x))) O (G6 (b (H0 (fin1 BL h)))))))))))))

def Z1 (x:Int) (y:Int):Option Int:=
 bnd (G2a x) fun b=>
 bnd (G2a y) fun a=>
 bif b then
 (bif a then
  (some 0)
  else
  (some (-1)))
 else
 (bif a then
  (some 1)
  else
  (bif decide (x < y) then
   (some (-1))
   else
   (bif decide (y < x) then
    (some 1)
    else
    (some 0))))
theorem Ga7 (x:Int) (y:Int) (r:Int) (h:Z1 x y=some r):Pure E8 36 [I64 x,I64 y] (·=I64 r):=by
 unfold Z1 at h
 refine Hj [.tmp 4] Tryz.func36 O O (Jr fun p=>(JLm (I64 0) O (G6 (p (Jr fun q=>(JLm (I64 x) O ?_))))))
 obtain⟨b,s,h⟩:=Gd h
 refine JLh (BL b) (Gu O (Gdb x b s) J08 ⟨O,O,ø⟩) O (JLm (BL b) O (G6 (q (Jr fun t=>(JLm (I64 y) O ?_)))))
 obtain⟨a,u,h⟩:=Gd h
 refine JLh (BL a) (Gu O (Gdb y a u) J08 ⟨O,O,ø⟩) O (JLm (BL a) O (G6 (t (Js fun v=>Jr fun w=>(JLm (BL b) O (G6 (w (JCc O h (fun h hb=>?_) (fun h hb=>?_)))))))))
 ·
  refine Js fun z=>Jr fun a0=>(JLm (BL a) O (G6 (a0 (JCc O h (fun h hb=>?_) (fun h hb=>?_)))))
  ·
   refine Jr fun c=>(JLm (I64 0) O (G6 (c (H0 (fin1 I64 h)))))
  ·
   refine Gk (z (Jr fun d=>(JLm (I64 (-1)) O (G6 (d (H0 (fin1 I64 h)))))))
 ·
  refine Gk (v (Js fun e=>Jr fun f=>(JLm (BL a) O (G6 (f (JCc O h (fun h hb=>?_) (fun h hb=>?_)))))))
  ·
   refine Jr fun g=>(JLm (I64 1) O (G6 (g (H0 (fin1 I64 h)))))
  ·
   refine Gk (e (Js fun i=>Jr fun j=>(JLm (I64 x) O (JLm (I64 y) O (JLh (BL (decide (x < y))) (J2 O O O) O (G6 (j (JCc O h (fun h hb=>?_) (fun h hb=>?_)))))))))
   ·
    refine Jr fun k=>(JLm (I64 (-1)) O (G6 (k (H0 (fin1 I64 h)))))
   ·
    refine Gk (i (Js fun l=>Jr fun m=>(JLm (I64 x) O (JLm (I64 y) O (JLh (BL (decide (y < x))) (G08 O O O) O (G6 (m (JCc O h (fun h hb=>?_) (fun h hb=>?_)))))))))
    ·
     refine Jr fun n=>(JLm (I64 1) O (G6 (n (H0 (fin1 I64 h)))))
    ·
     refine Gk (l (Jr fun o=>(JLm (I64 0) O (G6 (o (H0 (fin1 I64 h)))))))

def Gb1 (vals:List Int):Option Int:=
 each (fun a d (c:Unit) b=>
  bif decide (a≠0) then
  (some a)
  else
  (b ()))
 (fun(c:Unit)=>
  some 0) vals 0 ()
theorem J40 (vals:List Int) (r:Int) (h:Gb1 vals=some r):Pure E8 35 [E1 vals] (·=I64 r):=by
 unfold Gb1 at h
 refine Hj [.tmp 2] Tryz.func35 O O (Jr fun u=>(JLm (I64 0) O (G6 (u (Jr fun v=>(JLm (I64 0) O (G6 (v (Js fun w=>Jr fun x=>(JLm (E1 vals) O (JLl G8 O O O fun z=>(JLm (I64 0) O (G6 (x (Gf ?_)))))))))))))))
 obtain⟨a0,i,j,g,h⟩:=J7 h
 refine Ha (fun a (c:Unit)=>each a0 i (List.drop a vals) a c=some r) (fun a c=>[(3,I64 0),(6,E1 vals),(7,E7 vals.length),(8,E7 a)]) (fun a c=>[]) (fun a=>vals.length - a) 0 () h ⟨(.sm O O),ø,rfl⟩ ?_
 clear h
 intro a c d a3 a1
 refine Jr fun k=>(JLh (BL (decide ((a:Int) < (vals.length:Int)))) (J2 O O O) O (G6 (k (Js fun l=>Gi O (fun hb=>?_) (fun hb=>?_)))))
 ·
  have e:=Jp hb
  obtain⟨b,a2,m,n,h⟩:=Hw d e
  replace h:=Yw j h
  refine Gk (l (Js fun o=>Gf (Jr fun p=>(JLh (.dptr [I64 b]) (Gz (f:=I64) (xs:=vals) (y:=b) O O O G8 m O) O (JLh (I64 b) (Gr Gj O O O) O (JLm (I64 b) O (G6 (p (Jr fun q=>(JLm (I64 b) O (JLm (I64 0) O (JLh (BL (decide (b≠0))) (G1c O O O) O (G6 (q (JCc O h (fun h hb=>?_) (fun h hb=>?_))))))))))))))))
  ·
   refine Jr fun s=>(JLm (I64 b) O (JLm (I64 b) O (G6 (s (H0 (fin1 I64 h))))))
  ·
   refine Gk (o (G1 (JLh (I64 ((a+1:Nat):Int)) (Hz (Hi e z) O O O) O (JLm (I64 ((a+1:Nat):Int)) O (G6 (a1 _ _ (a+1) () (app1 n h) (by omega) ⟨(.sm O O),ø,rfl⟩))))))
 ·
  have h:=app1 g (Hx d (Hc hb))
  refine Hd (w (Jr fun t=>(JLm (I64 0) O (JLm (I64 0) O (G6 (t (H0 (fin1 I64 h))))))))

def Qv (a:Int) (b:Int) (c:List Int):Option Int:=
 bnd (Q6 c b) fun d=>
 bnd (Q6 c a) fun e=>
 bnd (Z1 d e) fun f=>
 bnd (Z1 a b) fun g=>
 bnd (Gb1 [f,g]) fun h=>
 some h
theorem H29 (a:Int) (b:Int) (c:List Int) (r:Int) (h:Qv a b c=some r):Pure E8 34 [I64 a,I64 b,.dptr [E1 c]] (·=I64 r):=by
 unfold Qv at h
 refine Hj [.tmp 5] Tryz.func34 O O (Jr fun j=>(JLm (I64 0) O (G6 (j (Js fun k=>?_)))))
 obtain⟨f,l,h⟩:=Gd h
 obtain⟨g,m,h⟩:=Gd h
 obtain⟨d,n,h⟩:=Gd h
 obtain⟨e,o,h⟩:=Gd h
 obtain⟨i,p,h⟩:=Gd h
 refine JC_d0 Jg (by kernel_rfl) (Dq (E1 c) (Gr H5 O O O) O (Dq (I64 b) (G3 O O) O (Dq (I64 f) (Gu (args:=[E1 c,I64 b]) O (Ya c b f l) G5b ⟨O,O,O,O,ø⟩) O (Dq (E1 c) (Gr H5 O O O) O (Dq (I64 a) (G3 O O) O (Dq (I64 g) (Gu (args:=[E1 c,I64 a]) O (Ya c a g m) G5b ⟨O,O,O,O,ø⟩) O (Dq (I64 d) (Gu (args:=[I64 f,I64 g]) O (Ga7 f g d n) J0e ⟨O,O,O,O,ø⟩) O (Dq (I64 a) (G3 O O) O (Dq (I64 b) (G3 O O) O (Dq (I64 e) (Gu (args:=[I64 a,I64 b]) O (Ga7 a b e o) J0e ⟨O,O,O,O,ø⟩) O (Dq (E1 [d,e]) (H4 (xs:=[I64 d,I64 e]) O ⟨O,O,O,O,ø⟩ G8 J6 O O O O) O (Dq (I64 i) (Gu (args:=[E1 [d,e]]) O (J40 [d,e] i p) Q17 ⟨O,O,ø⟩) O (Dq (I64 i) (G5 O O) O (Dnil ?_))))))))))))))
 refine k (H0 (fin1 I64 h))


theorem Hf7 (y:Gh) (order:List Int) (r:(List Int)) (h:Ru y order=some r):Jz E8 32 [.agg [LS 1 (E1) y.Stacks,I64 y.Height],E1 order] [] (fun av L'=>∃ p:Nat,av=.vec 1069 p 1 r.length∧L'=[(1069,.vec 3 1 p (r.map I64))]):=by
 unfold Ru at h
 refine G0c [] [.tmp 4] Tryz.func32 O O (H6f O) (Jr fun b6=>(JLh (.ptr 1067 0) (Qw (cs:=[LS 1 (E1) y.Stacks,I64 y.Height]) 1067 O O O O O) O (JLh (.vec 1068 (([]:List Int).length) 1 (([]:List Int).length)) (H48 1068 3 1 O O O) O (G6 (b6 (H7 [(1,E1 order),(2,.dptr [LS 1 (E1) y.Stacks,I64 y.Height])] [(1068,.vec 3 1 (([]:List Int).length) (([]:List Int).map I64))] 1067 rfl rfl rfl ⟨⟨_,rfl,.vec⟩,ø⟩ rfl (by exact⟨.conv (.same rfl),.ptr,ø⟩) (Jr fun b7=>(JLh (.vec 1069 (([]:List Int).length) 1 (([]:List Int).length)) (H48 1069 3 1 O O O) O (G6 (b7 (Js fun b8=>?_)))))))))))
 refine Jr fun b9=>(JLh (.dptr [LS 1 (E1) y.Stacks,I64 y.Height]) (H1 J8 O O O) O (JLh (LS 1 (E1) y.Stacks) (Gr Gv O O O) O (JLl Ge O O O fun t=>(JLm (I64 0) O (G6 (b9 (Gf ?_)))))))
 obtain⟨b5,c0,c1,u,h⟩:=J7 h
 refine Ha (fun g (c:(List Int))=>each b5 c0 (List.drop g y.Stacks) g c=some r) (fun g c=>[(1,E1 order),(5,.vec 1069 c.length 1 c.length),(13,LS 1 (E1) y.Stacks),(14,E7 y.Stacks.length),(15,E7 g)]) (fun g c=>[(1068,.vec 3 1 (([]:List Int).length) (([]:List Int).map I64)),(1069,.vec 3 1 c.length (c.map I64))]) (fun g=>y.Stacks.length - g) 0 [] h ⟨(.sm O O),⟨⟨_,rfl,.vec⟩,⟨_,rfl,.vec⟩,ø⟩,rfl⟩ ?_
 clear h
 intro g c o K5 e5
 refine Jr fun c2=>(JLh (BL (decide ((g:Int) < (y.Stacks.length:Int)))) (J2 O O O) O (G6 (c2 (Js fun c3=>Gi O (fun hb=>?_) (fun hb=>?_)))))
 ·
  have q:=Jp hb
  obtain⟨j,d4,c4,c5,h⟩:=Hw o q
  replace h:=Yw c1 h
  refine Gk (c3 (Js fun c6=>Gf (Jr fun c7=>(JLh (.dptr [E1 j]) (Gz (f:=(E1)) (xs:=y.Stacks) (y:=j) O O O Ge c4 O) O (JLh (E1 j) (Gr H5 O O O) O (JLm (E1 j) O (G6 (c7 (Jr fun v=>(JLm (E1 order) O (JLl G8 O O O fun d2=>(JLm (E7 order.length) O (G6 (v (Jr fun w=>(JLm (E1 j) O (JLl G8 O O O fun x=>(JLm (I64 0) O (G6 (w (Gf ?_)))))))))))))))))))))
  obtain⟨c8,z,a0,m,h⟩:=J7 h
  refine Ha (fun d (a:Int×(List Int))=>each c8 z (List.drop d j) d a=some r) (fun d a=>[(1,E1 order),(5,.vec 1069 a.2.length 1 a.2.length),(8,I64 a.1),(13,LS 1 (E1) y.Stacks),(14,E7 y.Stacks.length),(15,E7 g),(21,E1 j),(22,E7 j.length),(23,E7 d)]) (fun d a=>[(1068,.vec 3 1 (([]:List Int).length) (([]:List Int).map I64)),(1069,.vec 3 1 a.2.length (a.2.map I64))]) (fun d=>j.length - d) 0 ((order.length:Int),c) h ⟨(.sm O O),⟨⟨_,rfl,.vec⟩,⟨_,rfl,.vec⟩,ø⟩,rfl⟩ ?_
  clear h
  intro d a k d5 c9
  refine Jr fun a1=>(JLh (BL (decide ((d:Int) < (j.length:Int)))) (J2 O O O) O (G6 (a1 (Js fun a2=>Gi O (fun hb=>?_) (fun hb=>?_)))))
  ·
   have l:=Jp hb
   obtain⟨b,d3,a3,a4,h⟩:=Hw k l
   replace h:=Yw a0 h
   refine Gk (a2 (Js fun a5=>Gf (Jr fun a6=>(JLh (.dptr [I64 b]) (Gz (f:=I64) (xs:=j) (y:=b) O O O G8 a3 O) O (JLh (I64 b) (Gr Gj O O O) O (JLm (I64 b) O (G6 (a6 (Jr fun a7=>(JLm (E1 order) O (JLm (I64 b) O ?_)))))))))))
   obtain⟨e,a8,h⟩:=Gd h
   refine JLh (I64 e) (Gu O (Ya order b e a8) G5b ⟨O,O,O,O,ø⟩) O (JLm (I64 e) O (G6 (a7 ?_)))
   obtain⟨a9,n,h⟩:=G23 h
   refine Zr (fun i:(List Int)=>a9 i=some r) (fun i=>[(1,E1 order),(5,.vec 1069 i.length 1 i.length),(8,I64 a.1),(11,I64 e),(13,LS 1 (E1) y.Stacks),(14,E7 y.Stacks.length),(15,E7 g),(21,E1 j),(22,E7 j.length),(23,E7 d)]) (fun i=>[(1068,.vec 3 1 (([]:List Int).length) (([]:List Int).map I64)),(1069,.vec 3 1 i.length (i.map I64))]) (fun Kj67 ej67=>?_) ?_
   ·
    refine Jr fun b0=>(JLm (I64 e) O (JLm (I64 a.1) O (JLh (BL (decide (a.1 < e))) (G08 O O O) O (G6 (b0 (JCc O h (fun h hb=>?_) (fun h hb=>?_)))))))
    ·
     refine G1 (JLm (.vec 1069 a.2.length 1 a.2.length) O (JLm (I64 b) O (JLh (E1 [b]) (H4 (xs:=[I64 b]) O ⟨O,O,ø⟩ G8 J6 O O O O) O ?_)))
     obtain⟨b1,h⟩:=Ho h
     refine JLh (.vec 1069 ((a.2++[b]).length) 1 ((a.2++[b]).length)) (G5d (f:=I64) (xs:=a.2) (ys:=[b]) (ver:=a.2.length) (ver1:=(a.2++[b]).length) rfl rfl rfl rfl G8 Ro b1 (fun _=>rfl) (.inl rfl) (by simp)) O (JLm (.vec 1069 ((a.2++[b]).length) 1 ((a.2++[b]).length)) O (G6 (ej67 _ _ (a.2++[b]) h ⟨(.sm O O),⟨⟨_,rfl,.vec⟩,⟨_,rfl,.vec⟩,ø⟩,rfl⟩)))
    ·
     refine Gk (ej67 _ _ a.2 h ⟨(.sm O O),⟨⟨_,rfl,.vec⟩,⟨_,rfl,.vec⟩,ø⟩,rfl⟩)
   ·intro i h
    replace h:=app1 n h
    refine G1 (JLm (I64 a.1) O (JLm (I64 e) O (JLh (I64 (min a.1 e)) (Q86 O O O) O (JLm (I64 (min a.1 e)) O (G6 (a5 (G1 (JLh (I64 ((d+1:Nat):Int)) (Hz (Hi l x) O O O) O (JLm (I64 ((d+1:Nat):Int)) O (G6 (c9 _ _ (d+1) ((min a.1 e),i) (app1 a4 h) (by omega) ⟨(.sm O O),⟨⟨_,rfl,.vec⟩,⟨_,rfl,.vec⟩,ø⟩,rfl⟩)))))))))))
  ·
   have h:=app1 m (Hx k (Hc hb))
   refine Hd (c6 (G1 (JLh (I64 ((g+1:Nat):Int)) (Hz (Hi q t) O O O) O (JLm (I64 ((g+1:Nat):Int)) O (G6 (e5 _ _ (g+1) a.2 (app1 c5 h) (by omega) ⟨(.sm O O),⟨⟨_,rfl,.vec⟩,⟨_,rfl,.vec⟩,ø⟩,rfl⟩))))))
 ·
  have h:=app1 u (Hx o (Hc hb))
  refine Hd (b8 (Jr fun b2=>(JLm (.vec 1069 c.length 1 c.length) O ?_)))
  obtain⟨s,b3,h⟩:=Gd h
  refine JLh (.tup []) (Q83 (F:=59) (xs:=c) (r:=s) O He3 H9e J09 O O O b3 O) O (G6 (b2 (Jr fun b4=>(JLm (.vec 1069 c.length 1 c.length) O (JLm (.vec 1069 c.length 1 c.length) O (G6 (b4 (Ja4 4 O O (fun hn_=>H0 ?_)))))))))
  obtain rfl:=Ez h
  exact⟨[.vec 1069 c.length 1 c.length],[(1069,.vec 3 1 c.length (s.map I64))],⟨⟨_,O,.vec⟩,ø⟩,O,⟨⟨_,O,.conv (.same O)⟩,ø⟩,c.length,congrArg (fun n_:Nat=>(.vec 1069 c.length 1 n_:AV)) (hn_.trans (Kn _)),O⟩

def Q0 (F:Nat) (y:Gh) (order:List Int):Option ((List G2)×Int):=
 bnd (Rb y order) fun j=>
 bif decide (j.2≠0) then
 (some ([],j.2))
 else
 (loop (fun k (b:(List G2)×(List (List Int))×Int)=>
   bnd (Ru (Gh.mk b.2.1 b.2.2) order) fun f=>
   bif decide ((f.length:Int)=0) then
   (some (b.1,0))
   else
   (bnd (H32 (fun z0 z1=>Qv z0 z1 order) f) fun l=>
    each (fun g r (c:(List G2)) i=>
     jp (fun e=>
      bnd (G06 (Gh.mk b.2.1 b.2.2) g) fun a=>
      Qx b.2.1 a.1 fun m=>
      chk ((m.length:Int) - 1) fun n=>
      bif decide (a.2.1 < n) then
      (e ())
      else
      (bnd (Q6 order g) fun o=>
       bnd (R7 (Gh.mk b.2.1 b.2.2) order a.1 o) fun d=>
       bif decide (0≤d) then
       (need (decide ((c.length+[(G2.mk a.1 d)].length)*16≤140737488355328∧c.length+[(G2.mk a.1 d)].length≤maxLen)) <|
        chk (((c++[(G2.mk a.1 d)]).length:Int) - 1) fun p=>
        Qx (c++[(G2.mk a.1 d)]) p fun q=>
        bnd (G25 (Gh.mk b.2.1 b.2.2) q) fun h=>
        k ((c++[(G2.mk a.1 d)]),h.1.Stacks,h.1.Height))
       else
       (e ()))) fun(s:Unit)=>
     i c)
    (fun(c:(List G2))=>
     some ([],360)) l 0 b.1)) F ([],y.Stacks,y.Height))
theorem Z9 (F:Nat) (y:Gh) (order:List Int) (r:(List G2)×Int) (h:Q0 F y order=some r):Pure E8 16 [.agg [LS 1 (E1) y.Stacks,I64 y.Height],E1 order] (·=.tup [E2 r.1,I64 r.2]):=by
 unfold Q0 at h
 refine Hj [.tmp 4,.tmp 5] Tryz.func16 O O (Jr fun e0=>(JLh (.ptr 1030 0) (Qw (cs:=[LS 1 (E1) y.Stacks,I64 y.Height]) 1030 O O O O O) O (JLh (.ptr 1031 0) (Qw (cs:=[E1 order]) 1031 O O O O O) O (JLh (E2 ([]:List G2)) (Jo 2 O O) O (JLm (I64 0) O (G6 (e0 (H7 [(2,.ptr 1030 0),(3,.dptr [E1 order])] [(1030,.box 25 [LS 1 (E1) y.Stacks,I64 y.Height])] 1031 rfl rfl rfl ⟨⟨_,rfl,.boxEq rfl rfl⟩,ø⟩ rfl (by exact⟨.conv (.same rfl),.ptr,ø⟩) (Je9 (Js fun e1=>Jr fun e2=>(JLh (.agg [LS 1 (E1) y.Stacks,I64 y.Height]) (Jc Hf O O O O) O (JLh (E1 order) (Gr H5 O O O) O ?_))))))))))))
 obtain⟨m,e3,h⟩:=Gd h
 refine JLh (.tup [I64 m.1,I64 m.2]) (Gu O (Zp y order m e3) Gb7 ⟨O,O,O,O,ø⟩) O (JLm (.tup [I64 m.1,I64 m.2]) O (JLh (I64 m.1) (Gw O O O) O (JLh (I64 m.2) (Gw O O O) O (JLm (I64 m.1) O (JLm (I64 m.2) O (G6 (e2 (Jr fun e4=>(JLm (I64 m.2) O (JLh (BL (decide (m.2≠0))) (G1c O O O) O (G6 (e4 (JCc O h (fun h hb=>?_) (fun h hb=>?_))))))))))))))
 ·
  refine Jr fun e5=>(JLm (I64 m.2) O (JLh (E2 ([]:List G2)) (Jo 2 O O) O (JLm (I64 m.2) O (G6 (e5 (H7 [(4,E2 ([]:List G2)),(5,I64 m.2)] [] 1030 rfl rfl rfl ø rfl (by exact⟨.conv (.same rfl),.conv (.same rfl),ø⟩) (H0 (⟨[E2 ([]:List G2),I64 m.2],[],ø,O,⟨⟨_,O,.conv (.same O)⟩,⟨_,O,.conv (.same O)⟩,ø⟩,O,congrArg (fun r:(List G2)×Int=>(.tup [E2 r.1,I64 r.2]:AV)) (Ez h)⟩))))))))
 ·
  refine Gk (e1 (Jr fun e6=>(JLh (OW 1032 2 G2.av ([]:List G2)) (Ga2 1032 35 2 O O O) O (G6 (e6 (Js fun e7=>Jea (e7 (Gf ?_))))))))
  obtain⟨b9,e8,h⟩:=G0e h
  refine Ha (fun t (b:(List G2)×(List (List Int))×Int)=>loop b9 t b=some r) (fun t b=>[(2,.ptr 1030 0),(3,.dptr [E1 order]),(8,OW 1032 2 G2.av b.1)]) (fun t b=>[(1032,.spare 35 2 b.1.length b.1.length),(1030,.box 25 [LS 1 (E1) b.2.1,I64 b.2.2])]) (fun t=>t) F ([],y.Stacks,y.Height) h ⟨(.sm O O),⟨⟨_,O,.same⟩,⟨_,O,.boxL O (.sm O O)⟩,ø⟩,O⟩ ?_
  clear h
  intro t b f0 K9 e9
  obtain⟨m9,g1,hm_9,f1,h⟩:=Z7 f0
  replace h:=H65 e8 h
  refine Gf (Jr fun a3=>(JLh (.agg [LS 1 (E1) b.2.1,I64 b.2.2]) (Jc Hf O O O O) O (JLh (E1 order) (Gr H5 O O O) O ?_)))
  obtain⟨k,a4,h⟩:=Gd h
  refine G7c O O O (G80 (args:=[.agg [LS 1 (E1) b.2.1,I64 b.2.2],E1 order]) (L0:=[]) (u:=fun p=>.vec 1069 p 1 k.length) (Lr:=fun p=>[(1069,.vec 3 1 p (k.map I64))]) O (Hf7 (Gh.mk b.2.1 b.2.2) order k a4) H79 ⟨.inl O,O,.inl O,O,ø⟩ ø O (fun _=>O)) ?_
  rintro u_ L_ ⟨i,rfl,rfl⟩
  refine JLm (.vec 1069 i 1 k.length) O (G6 (a3 (Js fun a5=>Jr fun a6=>(JLm (.vec 1069 i 1 k.length) O (Gfd (f:=I64) (xs:=k) G8 O O O (fun f8=>?_) O O O)))))
  refine JLh (BL (decide ((k.length:Int)=0))) (Yx O O O) O (G6 (a6 (JCc O h (fun h hb=>?_) (fun h hb=>?_))))
  ·
   refine Jr fun a7=>(JLm (OW 1032 2 G2.av b.1) O (JLm (OW 1032 2 G2.av b.1) O (JLm (I64 0) O (G6 (a7 (H7 [(4,OW 1032 2 G2.av b.1),(5,I64 0)] [(1032,.spare 35 2 b.1.length b.1.length),(1069,.vec 3 1 i (k.map I64))] 1030 rfl rfl rfl ⟨⟨_,rfl,.same⟩,⟨_,rfl,.vec⟩,ø⟩ rfl (by exact⟨.conv (.same rfl),.conv (.same rfl),ø⟩) (H0 (⟨[E2 b.1,I64 0],[],ø,O,⟨⟨_,O,.conv (.list O)⟩,⟨_,O,.conv (.same O)⟩,ø⟩,O,congrArg (fun r:(List G2)×Int=>(.tup [E2 r.1,I64 r.2]:AV)) (Ez h)⟩))))))))
  ·
   refine Gk (a5 (Jr fun a8=>(JLm (.vec 1069 i 1 k.length) O (JLh (.fn 34 [.dptr [E1 order]]) (J4c (cs:=[.dptr [E1 order]]) O O) O ?_))))
   obtain⟨g,a9,h⟩:=Gd h
   refine JLh (.tup []) (R42 (cmp:=(fun z0 z1=>Qv z0 z1 order)) (xs:=k) (r:=g) O Jb9 Jba Q19 Q18 O O O O O a9 (fun z0 z1 q hq=>H29 z0 z1 order q hq) O) O (G6 (a8 (Js fun b0=>Jr fun b1=>(JLm (.vec 1069 i 1 k.length) O (Gfd (f:=I64) (xs:=g) G8 O O O (fun b2=>?_) O O O)))))
   refine JLm (I64 0) O (G6 (b1 (Gf ?_)))
   obtain⟨f2,b3,b4,a0,h⟩:=J7 h
   refine Ha (fun j (c:(List G2))=>each f2 b3 (List.drop j g) j c=some r) (fun j c=>[(2,.ptr 1030 0),(3,.dptr [E1 order]),(8,OW 1032 2 G2.av c),(35,.vec 1069 i 1 k.length),(36,E7 g.length),(37,E7 j)]) (fun j c=>[(1032,.spare 35 2 c.length c.length),(1069,.vec 3 1 i (g.map I64)),(1030,.box 25 [LS 1 (E1) b.2.1,I64 b.2.2])]) (fun j=>g.length - j) 0 b.1 h ⟨(.sm O O),⟨⟨_,rfl,.same⟩,⟨_,rfl,.vec⟩,fbQ O (.sm O O),ø⟩,rfl⟩ ?_
   clear h
   intro j c v g2 f3
   refine Jr fun b5=>(JLh (BL (decide ((j:Int) < (g.length:Int)))) (J2 O O O) O (G6 (b5 (Js fun b6=>Gi O (fun hb=>?_) (fun hb=>?_)))))
   ·
    have w:=Jp hb
    obtain⟨l,f9,x,b7,h⟩:=Hw v w
    replace h:=Yw b4 h
    refine Gk (b6 ?_)
    obtain⟨b8,a1,h⟩:=G23 h
    refine Zr (fun o:Unit=>b8 o=some r) (fun o=>[(2,.ptr 1030 0),(3,.dptr [E1 order]),(8,OW 1032 2 G2.av c),(35,.vec 1069 i 1 k.length),(36,E7 g.length),(37,E7 j)]) (fun o=>[(1032,.spare 35 2 c.length c.length),(1069,.vec 3 1 i (g.map I64)),(1030,.box 25 [LS 1 (E1) b.2.1,I64 b.2.2])]) (fun Kj75 ej75=>?_) ?_
    ·
     refine Gf (Jr fun c0=>(JLh (.vptr 1069 i j 0) (Zf (f:=I64) (xs:=g) (y:=l) O O O O G8 x O) O (JLh (I64 l) (Gc5 (f:=I64) (xs:=g) (y:=l) Gj O O O x O O) O (JLm (I64 l) O (G6 (c0 (Jr fun c1=>(JLh (.agg [LS 1 (E1) b.2.1,I64 b.2.2]) (Jc Hf O O O O) O (JLm (I64 l) O ?_)))))))))
     obtain⟨a,c2,h⟩:=Gd h
     refine JLh (.tup [I64 a.1,I64 a.2.1,BL a.2.2]) (Gu O (Ge7 (Gh.mk b.2.1 b.2.2) l a c2) H78 ⟨O,O,O,O,ø⟩) O (JLm (.tup [I64 a.1,I64 a.2.1,BL a.2.2]) O (JLh (I64 a.1) (Gw O O O) O (JLh (I64 a.2.1) (Gw O O O) O (JLh (BL a.2.2) (Gw O O O) O (JLm (I64 a.1) O (JLm (I64 a.2.1) O (JLm (BL a.2.2) O (G6 (c1 (Js fun c3=>Jr fun c4=>(JLm (I64 a.2.1) O (JLh (.ptr 1030 0) (Hs J8 O O) O (JLh (LS 1 (E1) b.2.1) (Ht Gv O O O O) O (JLm (I64 a.1) O ?_))))))))))))))
     obtain⟨g3,z,c5,c6,h⟩:=Rf h
     refine JLh (.dptr [E1 z]) (Gz (f:=(E1)) (xs:=b.2.1) (y:=z) O O O Ge c6 c5) O (JLh (E1 z) (Gr H5 O O O) O (JLl G8 O O O fun g0=>?_))
     obtain⟨a2,c7,h⟩:=Je h
     refine JLh (I64 a2) (G07 c7 O O O) O (JLh (BL (decide (a.2.1 < a2))) (J2 O O O) O (G6 (c4 (JCc O h (fun h hb=>?_) (fun h hb=>?_)))))
     ·
      refine Hd (ej75 _ _ () h ⟨(.sm O O),⟨⟨_,rfl,.same⟩,⟨_,rfl,.vec⟩,fbQ O (.sm O O),ø⟩,rfl⟩)
     ·
      refine Gk (c3 (Js fun c8=>R0 (l':=[(2,.ptr 1030 0),(3,.dptr [E1 order]),(8,OW 1032 2 G2.av c),(11,I64 l),(12,I64 a.1),(35,.vec 1069 i 1 k.length),(36,E7 g.length),(37,E7 j)]) (L':=[(1032,.spare 35 2 c.length c.length),(1069,.vec 3 1 i (g.map I64)),(1030,.box 25 [LS 1 (E1) b.2.1,I64 b.2.2])]) ⟨(.sm O O),⟨⟨_,rfl,.same⟩,⟨_,rfl,.vec⟩,fbQ O (.sm O O),ø⟩,rfl⟩ ?_))
      obtain⟨s,c9,h⟩:=Gd h
      obtain⟨d,d0,h⟩:=Gd h
      refine JC_d0 Jg (by kernel_rfl) (Dq (.agg [LS 1 (E1) b.2.1,I64 b.2.2]) (Jc Hf O O O O) O (Dq (E1 order) (Gr H5 O O O) O (Dq (I64 a.1) (G3 O O) O (Dq (E1 order) (Gr H5 O O O) O (Dq (I64 l) (G3 O O) O (Dq (I64 s) (Gu (args:=[E1 order,I64 l]) O (Ya order l s c9) G5b ⟨O,O,O,O,ø⟩) O (Dq (I64 d) (Gu (args:=[.agg [LS 1 (E1) b.2.1,I64 b.2.2],E1 order,I64 a.1,I64 s]) O (Hb7 (Gh.mk b.2.1 b.2.2) order a.1 s d d0) Q16 ⟨O,O,O,O,O,O,O,O,ø⟩) O (Dq (I64 d) (G5 O O) O (Dnil (c8 (Jr fun d1=>(JLm (I64 d) O (JLh (BL (decide (0≤d))) (G6b O O O) O (G6 (d1 (JCc O h (fun h hb=>?_) (fun h hb=>?_)))))))))))))))))
      ·
       refine Jr fun d2=>(JLm (OW 1032 2 G2.av c) O (JLm (I64 a.1) O (JLm (I64 d) O (JLh (.agg [I64 a.1,I64 d]) (Jf (cs:=[I64 a.1,I64 d]) [(0,1),(1,1)] [I64 0,I64 0] [E0,E0] G1f G5a (zzQ O) O O) O (JLh (E2 [(G2.mk a.1 d)]) (H4 (xs:=[.agg [I64 a.1,I64 d]]) O ⟨O,O,ø⟩ Hk G1a O O O O) O ?_)))))
       obtain⟨d3,h⟩:=Ho h
       refine JLh (OW 1032 2 G2.av (c++[(G2.mk a.1 d)])) (R3 (f:=G2.av) (xs:=c) (ys:=[(G2.mk a.1 d)]) O O O O Hk G21 d3 (fun _=>O) (.inl O) O) O (JLm (OW 1032 2 G2.av (c++[(G2.mk a.1 d)])) O (G6 (d2 (Js fun d4=>R0 (l':=[(2,.ptr 1030 0),(3,.dptr [E1 order]),(8,OW 1032 2 G2.av (c++[(G2.mk a.1 d)]))]) (L':=[(1032,.spare 35 2 (c++[(G2.mk a.1 d)]).length (c++[(G2.mk a.1 d)]).length),(1069,.vec 3 1 i (g.map I64)),(1030,.box 25 [LS 1 (E1) b.2.1,I64 b.2.2])]) ⟨(.sm O O),⟨⟨_,O,.same⟩,⟨_,O,.vec⟩,⟨_,O,.boxL O (.sm O O)⟩,ø⟩,O⟩ ?_))))
       obtain⟨f4,d5,h⟩:=Je h
       obtain⟨g4,n,d6,d7,h⟩:=Rf h
       obtain⟨e,d8,h⟩:=Gd h
       refine Ju [11] (.replicate 12 0) [0,0,0,0,0,0,0,0,0,0,1,0] [[(1032,.spare 35 2 (c++[(G2.mk a.1 d)]).length (c++[(G2.mk a.1 d)]).length),(1069,.vec 3 1 i (g.map I64)),(1030,.box 25 [LS 1 (E1) b.2.1,I64 b.2.2])],((1030,.box 25 [LS 1 (E1) e.1.Stacks,I64 e.1.Height])::[(1032,.spare 35 2 (c++[(G2.mk a.1 d)]).length (c++[(G2.mk a.1 d)]).length),(1069,.vec 3 1 i (g.map I64)),(1030,.box 25 [LS 1 (E1) b.2.1,I64 b.2.2])])] Jg (by kernel_rfl) rfl rfl ?_
       refine Gc (u:=.agg [LS 1 (E1) b.2.1,I64 b.2.2]) O O ⟨Ga (Jc Hf O O O O) O,ø⟩ (Gc (u:=OW 1032 2 G2.av (c++[(G2.mk a.1 d)])) O O ⟨Ga (G3 O O) O,ø⟩ (Gc (u:=OW 1032 2 G2.av (c++[(G2.mk a.1 d)])) O O ⟨Ga (G3 O O) O,ø⟩ (Gc (u:=I64 ((c++[(G2.mk a.1 d)]).length:Int)) O O ⟨Ga (Re (f:=G2.av) (xs:=(c++[(G2.mk a.1 d)])) Hk O O) O,ø⟩ (Gc (u:=I64 f4) O O ⟨Ga (G07 d5 O O O) O,ø⟩ (Gc (u:=.dptr [I64 n.From,I64 n.To]) O O ⟨Ga (Gz (f:=G2.av) (xs:=(c++[(G2.mk a.1 d)])) (y:=n) O O O Hk d7 d6) O,ø⟩ (Gc (u:=.agg [I64 n.From,I64 n.To]) O O ⟨Ga (Gt G61 O O O) O,ø⟩ (Gc (u:=.tup [.agg [LS 1 (E1) e.1.Stacks,I64 e.1.Height],I64 e.2]) O O ⟨Ga (Gu O (J3e.down (Gh.mk b.2.1 b.2.2) n e d8) Q15 ⟨O,O,O,O,ø⟩) O,ø⟩ (Gc (u:=.tup [.agg [LS 1 (E1) e.1.Stacks,I64 e.1.Height],I64 e.2]) O O ⟨Ga (G3 O O) O,ø⟩ (Gc (u:=.agg [LS 1 (E1) e.1.Stacks,I64 e.1.Height]) O O ⟨Ga (Gw O O O) O,ø⟩ (Gc (u:=I64 e.2) O O ⟨Ga (Gw O O O) O,Ga (Gw O O O) O,ø⟩ (H2a (u:=.junk) O O O O (Ga (Hu (u:=.agg [LS 1 (E1) e.1.Stacks,I64 e.1.Height]) (ds:=[LS 1 (E1) e.1.Stacks,I64 e.1.Height]) Zn O O O O O O O O) O) (Rx ?_))))))))))))
       refine d4 (Hd (e9 _ _ m9 ((c++[(G2.mk a.1 d)]),e.1.Stacks,e.1.Height) (app1 f1 h) (by omega) ⟨(.sm O O),⟨⟨_,rfl,.same⟩,fbQ O (.sm O O),ø⟩,rfl⟩))
      ·
       refine Gk (ej75 _ _ () h ⟨(.sm O O),⟨⟨_,rfl,.same⟩,⟨_,rfl,.vec⟩,fbQ O (.sm O O),ø⟩,rfl⟩)
    ·intro o h
     replace h:=app1 a1 h
     refine G1 (JLh (I64 ((j+1:Nat):Int)) (Hz (Hi w b2) O O O) O (JLm (I64 ((j+1:Nat):Int)) O (G6 (f3 _ _ (j+1) c (app1 b7 h) (by omega) ⟨(.sm O O),⟨⟨_,rfl,.same⟩,⟨_,rfl,.vec⟩,fbQ O (.sm O O),ø⟩,rfl⟩))))
   ·
    have h:=app1 a0 (Hx v (Hc hb))
    refine Hd (b0 (Jr fun d9=>(JLh (E2 ([]:List G2)) (Jo 2 O O) O (JLm (I64 360) O (G6 (d9 (H7 [(4,E2 ([]:List G2)),(5,I64 360)] [(1032,.spare 35 2 c.length c.length),(1069,.vec 3 1 i (g.map I64))] 1030 rfl rfl rfl ⟨⟨_,rfl,.same⟩,⟨_,rfl,.vec⟩,ø⟩ rfl (by exact⟨.conv (.same rfl),.conv (.same rfl),ø⟩) (H0 (⟨[E2 ([]:List G2),I64 360],[],ø,O,⟨⟨_,O,.conv (.same O)⟩,⟨_,O,.conv (.same O)⟩,ø⟩,O,congrArg (fun r:(List G2)×Int=>(.tup [E2 r.1,I64 r.2]:AV)) (Ez h)⟩)))))))))

def Q3 (a:List Int) (b:List Int):Option Bool:=
 bif decide ((a.length:Int)≠(b.length:Int)) then
 (some false)
 else
 (each (fun d e (f:Unit) c=>
   Qx b (e:Int) fun g=>
   bif decide (d≠g) then
   (some false)
   else
   (c ()))
  (fun(f:Unit)=>
   some true) a 0 ())
theorem Zw (a:List Int) (b:List Int) (r:Bool) (h:Q3 a b=some r):Pure E8 17 [E1 a,E1 b] (·=BL r):=by
 unfold Q3 at h
 refine Hj [.tmp 4] Tryz.func17 O O (Jr fun a0=>(JLm (BL false) O (G6 (a0 (Js fun a1=>Jr fun a2=>(JLm (E1 a) O (JLl G8 O O O fun a9=>(JLm (E1 b) O (JLl G8 O O O fun b0=>(JLh (BL (decide ((a.length:Int)≠(b.length:Int)))) (G1c O O O) O (G6 (a2 (JCc O h (fun h hb=>?_) (fun h hb=>?_))))))))))))))
 ·
  refine Jr fun a3=>(JLm (BL false) O (G6 (a3 (H0 (fin1 BL h)))))
 ·
  refine Gk (a1 (Js fun a4=>Jr fun a5=>(JLm (I64 0) O (G6 (a5 (Gf ?_))))))
  obtain⟨a6,l,m,k,h⟩:=J7 h
  refine Ha (fun c (d:Unit)=>each a6 l (List.drop c a) c d=some r) (fun c d=>[(0,E1 a),(1,E1 b),(5,E7 c)]) (fun c d=>[]) (fun c=>a.length - c) 0 () h ⟨(.sm O O),ø,O⟩ ?_
  clear h
  intro c d i b1 a7
  refine Js fun n=>Jr fun o=>(JLm (E7 c) O (JLm (E1 a) O (JLl G8 O O O fun p=>(JLh (BL (decide ((c:Int) < (a.length:Int)))) (J2 O O O) O (G6 (o (Gi O (fun hb=>?_) (fun hb=>?_))))))))
  ·
   have j:=Jp hb
   obtain⟨e,a8,q,s,h⟩:=Hw i j
   replace h:=Yw m h
   refine Gk (n (Js fun t=>Gf (Js fun u=>?_)))
   obtain⟨b2,g,v,w,h⟩:=Rf h
   refine JC_d0 Jg (by kernel_rfl) (Dq (E1 a) (G3 O O) O (Dq (E7 c) (G3 O O) O (Dq (.dptr [I64 e]) (Gz (f:=I64) (xs:=a) (y:=e) O O O G8 q O) O (Dq (I64 e) (Gr Gj O O O) O (Dq (E1 b) (G3 O O) O (Dq (E7 c) (G3 O O) O (Dq (.dptr [I64 g]) (Gz (f:=I64) (xs:=b) (y:=g) O O O G8 w v) O (Dq (I64 g) (Gr Gj O O O) O (Dq (BL (decide (e≠g))) (G1c O O O) O (Dnil (u (JCc O h (fun h hb=>?_) (fun h hb=>?_)))))))))))))
   ·
    refine Jr fun x=>(JLm (BL false) O (G6 (x (H0 (fin1 BL h)))))
   ·
    refine Gk (t (G1 (JLm (E7 c) O (JLh (I64 ((c+1:Nat):Int)) (Hz (Hi j p) O O O) O (JLm (I64 ((c+1:Nat):Int)) O (G6 (a7 _ _ (c+1) () (app1 s h) (by omega) ⟨(.sm O O),ø,rfl⟩)))))))
  ·
   have h:=app1 k (Hx i (Hc hb))
   refine Hd (a4 (Jr fun z=>(JLm (BL true) O (G6 (z (H0 (fin1 BL h)))))))

def Qr (F:Nat) :Option Bool:=
 bnd (Zj (Gh.mk ([[1,3,2],[4],[]]) 3) [1,2,3,4]) fun g=>
 bnd (Q0 F (Gh.mk ([[1,3,2],[4],[]]) 3) [1,2,3,4]) fun f=>
 bnd (Jh F (Gh.mk ([[1,3,2],[4],[]]) 3) [1,2,3,4]) fun h=>
 bnd (Ye (Gh.mk ([[1,3,2],[4],[]]) 3) [1,2,3,4] f.1) fun b=>
 bnd (Q3 g.1 [2,3]) fun a=>
 bnd (bif (!(!a)) then Jv f.1 [(G2.mk 0 1),(G2.mk 0 2)] else some default) fun c=>
 bnd (bif (!((!a)||(!c))) then Jv h.1 [(G2.mk 0 1),(G2.mk 0 2)] else some default) fun d=>
 bnd (bif (!((((!a)||(!c))||(!d))||(!b.1))) then chk (g.2+f.2) some else some 0) fun i=>
 bnd (bif (!((((!a)||(!c))||(!d))||(!b.1))) then chk (i+h.2) some else some 0) fun j=>
 bnd (bif (!((((!a)||(!c))||(!d))||(!b.1))) then chk (j+b.2) some else some 0) fun k=>
 bif (((((!a)||(!c))||(!d))||(!b.1))||(decide (k≠0))) then
 (some false)
 else
 (bnd (Q0 F (Gh.mk ([[1,2],[3,4]]) 2) [1,2,3,4]) fun l=>
  bnd (Jh F (Gh.mk ([[1,2],[3,4]]) 2) [1,2,3,4]) fun m=>
  bnd (Rm 3 [1,2,3,4].length) fun n=>
  bnd (Q0 F (Gh.mk ([[1,3],[2]]) 2) ([1,2,3,4].take n)) fun o=>
  bnd (Rm 3 [1,2,3,4].length) fun p=>
  bnd (Jh F (Gh.mk ([[1,3],[2]]) 2) ([1,2,3,4].take p)) fun q=>
  bif ((((decide (l.2≠360))||(decide (m.2≠6)))||(decide (o.2≠360)))||(decide (q.2≠6))) then
  (some false)
  else
  (bnd (Q0 F (Gh.mk ([[1,3],[2,4],[]]) 2) [1,2,3,4]) fun e=>
   bnd (bif decide (e.2=0) then Jv e.1 [(G2.mk 1 2),(G2.mk 0 2)] else some default) fun r=>
   some ((decide (e.2=0))&&r)))
theorem Gee (F:Nat)  (r:Bool) (h:Qr F =some r):Pure E8 9 [] (·=BL r):=by
 unfold Qr at h
 refine Hj [.tmp 0] Tryz.func9 O O (Jr fun c6=>(JLm (BL false) O (G6 (c6 ?_))))
 refine Jr fun c7=>(JLh (E1 [1,3,2]) (H4 (xs:=[I64 1,I64 3,I64 2]) O ⟨O,O,O,O,O,O,ø⟩ G8 J6 O O O O) O (JLh (E1 [4]) (H4 (xs:=[I64 4]) O ⟨O,O,ø⟩ G8 J6 O O O O) O (JLh (LS 1 (E1) ([[1,3,2],[4],[]])) (Gf0 (xs:=[E1 [1,3,2],E1 [4],E1 ([]:List Int)]) O ⟨.inl O,O,.inl O,O,.inr ⟨_,O,O⟩,O,ø⟩ Ge Yu O O O O) O (JLh (.agg [LS 1 (E1) ([[1,3,2],[4],[]]),I64 3]) (Jf (cs:=[LS 1 (E1) ([[1,3,2],[4],[]]),I64 3]) [(0,1),(1,1)] [LS 1 (E1) ([]:List (List Int)),I64 0] [.slice none 0 0,E0] G20 G36 ⟨.inr ⟨_,O,O⟩,.inl O,ø⟩ O O) O (JLh (.ptr 1020 0) (Ji 1020 2 Zx O O) O (Jb (u:=.junk) (Hu (u:=.agg [LS 1 (E1) ([[1,3,2],[4],[]]),I64 3]) (ds:=[LS 1 (E1) ([[1,3,2],[4],[]]),I64 3]) Zn O O O O O O O O) (G6 (c7 ?_))))))))
 refine H7 [(1,.dptr [LS 1 (E1) ([[1,3,2],[4],[]]),I64 3])] [] 1020 rfl rfl rfl ø rfl (by exact⟨.ptr,ø⟩) (Jr fun c8=>(JLh (E1 [1,2,3,4]) (H4 (xs:=[I64 1,I64 2,I64 3,I64 4]) O ⟨O,O,O,O,O,O,O,O,ø⟩ G8 J6 O O O O) O (JLm (E1 [1,2,3,4]) O (G6 (c8 (Jr fun c9=>(JLh (.agg [LS 1 (E1) ([[1,3,2],[4],[]]),I64 3]) (Gt Hf O O O) O (JLm (E1 [1,2,3,4]) O ?_))))))))
 obtain⟨o,d0,h⟩:=Gd h
 refine JLh (.tup [E1 o.1,I64 o.2]) (Gu O (H23 (Gh.mk ([[1,3,2],[4],[]]) 3) [1,2,3,4] o d0) J11 ⟨O,O,O,O,ø⟩) O (JLm (.tup [E1 o.1,I64 o.2]) O (JLh (E1 o.1) (Gw O O O) O (JLh (I64 o.2) (Gw O O O) O (JLm (E1 o.1) O (JLm (I64 o.2) O (G6 (c9 (Jr fun d1=>(JLh (.agg [LS 1 (E1) ([[1,3,2],[4],[]]),I64 3]) (Gt Hf O O O) O (JLm (E1 [1,2,3,4]) O ?_))))))))))
 obtain⟨l,d2,h⟩:=Gd h
 refine JLh (.tup [E2 l.1,I64 l.2]) (Gu O (Z9 F (Gh.mk ([[1,3,2],[4],[]]) 3) [1,2,3,4] l d2) Gb9 ⟨O,O,O,O,ø⟩) O (JLm (.tup [E2 l.1,I64 l.2]) O (JLh (E2 l.1) (Gw O O O) O (JLh (I64 l.2) (Gw O O O) O (JLm (E2 l.1) O (JLm (I64 l.2) O (G6 (d1 (Jr fun d3=>(JLh (.agg [LS 1 (E1) ([[1,3,2],[4],[]]),I64 3]) (Gt Hf O O O) O (JLm (E1 [1,2,3,4]) O ?_))))))))))
 obtain⟨n,d4,h⟩:=Gd h
 refine JLh (.tup [E2 n.1,I64 n.2]) (Gu O (G34 F (Gh.mk ([[1,3,2],[4],[]]) 3) [1,2,3,4] n d4) H07 ⟨O,O,O,O,ø⟩) O (JLm (.tup [E2 n.1,I64 n.2]) O (JLh (E2 n.1) (Gw O O O) O (JLh (I64 n.2) (Gw O O O) O (JLm (E2 n.1) O (JLm (I64 n.2) O (G6 (d3 (Jr fun v=>(JLh (.agg [LS 1 (E1) ([[1,3,2],[4],[]]),I64 3]) (Gt Hf O O O) O (JLm (E1 [1,2,3,4]) O (JLm (E2 l.1) O ?_)))))))))))
 obtain⟨d,w,h⟩:=Gd h
 refine JLh (.tup [BL d.1,I64 d.2]) (Gu O (Gda (Gh.mk ([[1,3,2],[4],[]]) 3) [1,2,3,4] l.1 d w) J0f ⟨O,O,O,O,O,O,ø⟩) O (JLm (.tup [BL d.1,I64 d.2]) O (JLh (BL d.1) (Gw O O O) O (JLh (I64 d.2) (Gw O O O) O (JLm (BL d.1) O (JLm (I64 d.2) O (G6 (v ?_)))))))
 refine Jr fun x=>(JLh (.agg [I64 0,I64 1]) (Jf (cs:=[I64 0,I64 1]) [(0,1),(1,1)] [I64 0,I64 0] [E0,E0] G1f G5a (zzQ O) O O) O (JLh (.agg [I64 0,I64 2]) (Jf (cs:=[I64 0,I64 2]) [(0,1),(1,1)] [I64 0,I64 0] [E0,E0] G1f G5a (zzQ O) O O) O (JLh (E2 [(G2.mk 0 1),(G2.mk 0 2)]) (H4 (xs:=[.agg [I64 0,I64 1],.agg [I64 0,I64 2]]) O ⟨O,O,O,O,ø⟩ Hk G1a O O O O) O (JLm (E2 [(G2.mk 0 1),(G2.mk 0 2)]) O (G6 (x (Js fun y=>Jr fun z=>(JLm (E1 o.1) O (JLh (E1 [2,3]) (H4 (xs:=[I64 2,I64 3]) O ⟨O,O,O,O,ø⟩ G8 J6 O O O O) O ?_)))))))))
 obtain⟨i,a0,h⟩:=Gd h
 refine JLh (BL i) (Gu O (Zw o.1 [2,3] i a0) H7c ⟨O,O,O,O,ø⟩) O (JLh (BL (!i)) (Y4 (b:=i) O O) O (JLm (BL (!i)) O (JLo (E2 l.1) [] O .scf ø (fun hc=>G3 O O) O (JLo (E2 [(G2.mk 0 1),(G2.mk 0 2)]) [] O .scf ø (fun hc=>G3 O O) O ?_))))
 obtain⟨j,a1,h⟩:=Gd h
 refine JLo (BL j) [52,53] O .scf ⟨Ua,Ua,ø⟩ (fun hc=>Gu (args:=[E2 l.1,E2 [(G2.mk 0 1),(G2.mk 0 2)]]) O (R2 l.1 [(G2.mk 0 1),(G2.mk 0 2)] j (H6 hc a1)) G84 ⟨O,O,O,O,ø⟩) O (JLo (BL (!j)) [54] O .scf ⟨Ua,ø⟩ (fun hc=>Y4 (b:=j) O O) O (JLh (BL ((!i)||(!j))) (G17 O O O O) O (JLm (BL ((!i)||(!j))) O (JLo (E2 n.1) [] O .scf ø (fun hc=>G3 O O) O (JLo (E2 [(G2.mk 0 1),(G2.mk 0 2)]) [] O .scf ø (fun hc=>G3 O O) O ?_)))))
 obtain⟨m,a2,h⟩:=Gd h
 refine JLo (BL m) [58,59] O .scf ⟨Ua,Ua,ø⟩ (fun hc=>Gu (args:=[E2 n.1,E2 [(G2.mk 0 1),(G2.mk 0 2)]]) O (R2 n.1 [(G2.mk 0 1),(G2.mk 0 2)] m (H6 hc a2)) G84 ⟨O,O,O,O,ø⟩) O (JLo (BL (!m)) [60] O .scf ⟨Ua,ø⟩ (fun hc=>Y4 (b:=m) O O) O (JLh (BL (((!i)||(!j))||(!m))) (G17 O O O O) O (JLm (BL (((!i)||(!j))||(!m))) O (JLo (BL d.1) [] O .scf ø (fun hc=>G3 O O) O (JLo (BL (!d.1)) [64] O .scf ⟨Ua,ø⟩ (fun hc=>Y4 (b:=d.1) O O) O (JLh (BL ((((!i)||(!j))||(!m))||(!d.1))) (G17 O O O O) O (JLm (BL ((((!i)||(!j))||(!m))||(!d.1))) O (JLo (I64 o.2) [] O .scf ø (fun hc=>G3 O O) O (JLo (I64 l.2) [] O .scf ø (fun hc=>G3 O O) O ?_)))))))))
 obtain⟨d5,a3,h⟩:=Gd h
 refine JLo (I64 d5) [68,69] O .scf ⟨Ua,Ua,ø⟩ (fun hc=>Hz (Gc0 (H6 hc a3)) O O O) O (JLo (I64 n.2) [] O .scf ø (fun hc=>G3 O O) O ?_)
 obtain⟨d6,a4,h⟩:=Gd h
 refine JLo (I64 d6) [70,71] O .scf ⟨Ua,Ua,ø⟩ (fun hc=>Hz (Gc0 (H6 hc a4)) O O O) O (JLo (I64 d.2) [] O .scf ø (fun hc=>G3 O O) O ?_)
 obtain⟨q,a5,h⟩:=Gd h
 refine JLo (I64 q) [72,73] O .scf ⟨Ua,Ua,ø⟩ (fun hc=>Hz (Gc0 (H6 hc a5)) O O O) O (JLo (BL (decide (q≠0))) [74] O .scf ⟨Ua,ø⟩ (fun hc=>G1c O O O) O (JLh (BL (((((!i)||(!j))||(!m))||(!d.1))||(decide (q≠0)))) (G17 O O O O) O (G6 (z (JCc O h (fun h hb=>?_) (fun h hb=>?_))))))
 ·
  refine Jr fun a6=>(JLm (BL false) O (G6 (a6 (H0 (fin1 BL h)))))
 ·
  refine Gk (y ?_)
  refine Jr fun a7=>(JLh (E1 [1,2]) (H4 (xs:=[I64 1,I64 2]) O ⟨O,O,O,O,ø⟩ G8 J6 O O O O) O (JLh (E1 [3,4]) (H4 (xs:=[I64 3,I64 4]) O ⟨O,O,O,O,ø⟩ G8 J6 O O O O) O (JLh (LS 1 (E1) ([[1,2],[3,4]])) (H4 (xs:=[E1 [1,2],E1 [3,4]]) O ⟨O,O,O,O,ø⟩ Ge Yu O O O O) O (JLh (.agg [LS 1 (E1) ([[1,2],[3,4]]),I64 2]) (Jf (cs:=[LS 1 (E1) ([[1,2],[3,4]]),I64 2]) [(0,1),(1,1)] [LS 1 (E1) ([]:List (List Int)),I64 0] [.slice none 0 0,E0] G20 G36 ⟨.inr ⟨_,O,O⟩,.inl O,ø⟩ O O) O (JLh (.ptr 1021 0) (Ji 1021 2 Zx O O) O (Jb (u:=.junk) (Hu (u:=.agg [LS 1 (E1) ([[1,2],[3,4]]),I64 2]) (ds:=[LS 1 (E1) ([[1,2],[3,4]]),I64 2]) Zn O O O O O O O O) (G6 (a7 ?_))))))))
  refine H7 [(2,E1 [1,2,3,4]),(12,.dptr [LS 1 (E1) ([[1,2],[3,4]]),I64 2])] [] 1021 rfl rfl rfl ø rfl (by exact⟨.conv (.same rfl),.ptr,ø⟩) (Jr fun a8=>(JLh (.agg [LS 1 (E1) ([[1,2],[3,4]]),I64 2]) (Gt Hf O O O) O (JLm (E1 [1,2,3,4]) O ?_)))
  obtain⟨a,a9,h⟩:=Gd h
  refine JLh (.tup [E2 a.1,I64 a.2]) (Gu O (Z9 F (Gh.mk ([[1,2],[3,4]]) 2) [1,2,3,4] a a9) Gb9 ⟨O,O,O,O,ø⟩) O (JLm (.tup [E2 a.1,I64 a.2]) O (JLh (E2 a.1) (Gw O O O) O (JLh (I64 a.2) (Gw O O O) O (JLm (I64 a.2) O (G6 (a8 (Jr fun b0=>(JLh (.agg [LS 1 (E1) ([[1,2],[3,4]]),I64 2]) (Gt Hf O O O) O (JLm (E1 [1,2,3,4]) O ?_)))))))))
  obtain⟨e,b1,h⟩:=Gd h
  refine JLh (.tup [E2 e.1,I64 e.2]) (Gu O (G34 F (Gh.mk ([[1,2],[3,4]]) 2) [1,2,3,4] e b1) H07 ⟨O,O,O,O,ø⟩) O (JLm (.tup [E2 e.1,I64 e.2]) O (JLh (E2 e.1) (Gw O O O) O (JLh (I64 e.2) (Gw O O O) O (JLm (I64 e.2) O (G6 (b0 ?_))))))
  refine Jr fun b2=>(JLh (E1 [1,3]) (H4 (xs:=[I64 1,I64 3]) O ⟨O,O,O,O,ø⟩ G8 J6 O O O O) O (JLh (E1 [2]) (H4 (xs:=[I64 2]) O ⟨O,O,ø⟩ G8 J6 O O O O) O (JLh (LS 1 (E1) ([[1,3],[2]])) (H4 (xs:=[E1 [1,3],E1 [2]]) O ⟨O,O,O,O,ø⟩ Ge Yu O O O O) O (JLh (.agg [LS 1 (E1) ([[1,3],[2]]),I64 2]) (Jf (cs:=[LS 1 (E1) ([[1,3],[2]]),I64 2]) [(0,1),(1,1)] [LS 1 (E1) ([]:List (List Int)),I64 0] [.slice none 0 0,E0] G20 G36 ⟨.inr ⟨_,O,O⟩,.inl O,ø⟩ O O) O (JLh (.ptr 1022 0) (Ji 1022 2 Zx O O) O (Jb (u:=.junk) (Hu (u:=.agg [LS 1 (E1) ([[1,3],[2]]),I64 2]) (ds:=[LS 1 (E1) ([[1,3],[2]]),I64 2]) Zn O O O O O O O O) (G6 (b2 ?_))))))))
  refine fzQ [(2,E1 [1,2,3,4]),(4,I64 a.2),(6,I64 e.2),(13,.dptr [LS 1 (E1) ([[1,3],[2]]),I64 2])] [] 1022 rfl rfl rfl ø rfl (Js fun b3=>?_)
  obtain⟨s,b4,h⟩:=Gd h
  obtain⟨g,b5,h⟩:=Gd h
  refine JC_d0 Jg (by kernel_rfl) (Dq (.agg [LS 1 (E1) ([[1,3],[2]]),I64 2]) (Gt Hf O O O) O (Dq (E1 [1,2,3,4]) (G3 O O) O (Dq (E1 ([1,2,3,4].take s)) (G43 (f:=I64) (xs:=[1,2,3,4]) O O O G8 (H8 b4)) O (Dq (.tup [E2 g.1,I64 g.2]) (Gu (args:=[.agg [LS 1 (E1) ([[1,3],[2]]),I64 2],E1 ([1,2,3,4].take s)]) O (Z9 F (Gh.mk ([[1,3],[2]]) 2) ([1,2,3,4].take s) g b5) Gb9 ⟨O,O,O,O,ø⟩) O (Dq (.tup [E2 g.1,I64 g.2]) (G3 O O) O (Dq (E2 g.1) (Gw O O O) O (Dq (I64 g.2) (Gw O O O) O (Dq (I64 g.2) (G5 O O) O (Dnil (b3 (Js fun b6=>?_)))))))))))
  obtain⟨t,b7,h⟩:=Gd h
  obtain⟨k,b8,h⟩:=Gd h
  refine JC_d0 Jg (by kernel_rfl) (Dq (.agg [LS 1 (E1) ([[1,3],[2]]),I64 2]) (Gt Hf O O O) O (Dq (E1 [1,2,3,4]) (G3 O O) O (Dq (E1 ([1,2,3,4].take t)) (G43 (f:=I64) (xs:=[1,2,3,4]) O O O G8 (H8 b7)) O (Dq (.tup [E2 k.1,I64 k.2]) (Gu (args:=[.agg [LS 1 (E1) ([[1,3],[2]]),I64 2],E1 ([1,2,3,4].take t)]) O (G34 F (Gh.mk ([[1,3],[2]]) 2) ([1,2,3,4].take t) k b8) H07 ⟨O,O,O,O,ø⟩) O (Dq (.tup [E2 k.1,I64 k.2]) (G3 O O) O (Dq (E2 k.1) (Gw O O O) O (Dq (I64 k.2) (Gw O O O) O (Dq (I64 k.2) (G5 O O) O (Dnil (b6 (Js fun b9=>?_)))))))))))
  refine Jr fun c0=>(JLm (I64 a.2) O (JLh (BL (decide (a.2≠360))) (G1c O O O) O (JLm (BL (decide (a.2≠360))) O (JLo (I64 e.2) [] O .scf ø (fun hc=>G3 O O) O (JLo (BL (decide (e.2≠6))) [114] O .scf ⟨Ua,ø⟩ (fun hc=>G1c O O O) O (JLh (BL ((decide (a.2≠360))||(decide (e.2≠6)))) (G17 O O O O) O (JLm (BL ((decide (a.2≠360))||(decide (e.2≠6)))) O (JLo (I64 g.2) [] O .scf ø (fun hc=>G3 O O) O (JLo (BL (decide (g.2≠360))) [118] O .scf ⟨Ua,ø⟩ (fun hc=>G1c O O O) O (JLh (BL (((decide (a.2≠360))||(decide (e.2≠6)))||(decide (g.2≠360)))) (G17 O O O O) O (JLm (BL (((decide (a.2≠360))||(decide (e.2≠6)))||(decide (g.2≠360)))) O (JLo (I64 k.2) [] O .scf ø (fun hc=>G3 O O) O (JLo (BL (decide (k.2≠6))) [122] O .scf ⟨Ua,ø⟩ (fun hc=>G1c O O O) O ?_)))))))))))))
  refine JLh (BL ((((decide (a.2≠360))||(decide (e.2≠6)))||(decide (g.2≠360)))||(decide (k.2≠6)))) (G17 O O O O) O (G6 (c0 (JCc O h (fun h hb=>?_) (fun h hb=>?_))))
  ·
   refine Jr fun c1=>(JLm (BL false) O (G6 (c1 (H0 (fin1 BL h)))))
  ·
   refine Gk (b9 (Jr fun c2=>(JLh (E1 [1,3]) (H4 (xs:=[I64 1,I64 3]) O ⟨O,O,O,O,ø⟩ G8 J6 O O O O) O (JLh (E1 [2,4]) (H4 (xs:=[I64 2,I64 4]) O ⟨O,O,O,O,ø⟩ G8 J6 O O O O) O (JLh (LS 1 (E1) ([[1,3],[2,4],[]])) (Gf0 (xs:=[E1 [1,3],E1 [2,4],E1 ([]:List Int)]) O ⟨.inl O,O,.inl O,O,.inr ⟨_,O,O⟩,O,ø⟩ Ge Yu O O O O) O (JLh (.agg [LS 1 (E1) ([[1,3],[2,4],[]]),I64 2]) (Jf (cs:=[LS 1 (E1) ([[1,3],[2,4],[]]),I64 2]) [(0,1),(1,1)] [LS 1 (E1) ([]:List (List Int)),I64 0] [.slice none 0 0,E0] G20 G36 ⟨.inr ⟨_,O,O⟩,.inl O,ø⟩ O O) O (JLm (E1 [1,2,3,4]) O ?_)))))))
   obtain⟨c,c3,h⟩:=Gd h
   refine JLh (.tup [E2 c.1,I64 c.2]) (Gu O (Z9 F (Gh.mk ([[1,3],[2,4],[]]) 2) [1,2,3,4] c c3) Gb9 ⟨O,O,O,O,ø⟩) O (JLm (.tup [E2 c.1,I64 c.2]) O (JLh (E2 c.1) (Gw O O O) O (JLh (I64 c.2) (Gw O O O) O (JLm (E2 c.1) O (JLm (I64 c.2) O (G6 (c2 ?_)))))))
   refine Jr fun c4=>(JLm (I64 c.2) O (JLh (BL (decide (c.2=0))) (Yx O O O) O (JLm (BL (decide (c.2=0))) O (JLo (E2 c.1) [] O .sct ø (fun hc=>G3 O O) O (JLo (.agg [I64 1,I64 2]) [] O .sct ø (fun hc=>Jf (cs:=[I64 1,I64 2]) [(0,1),(1,1)] [I64 0,I64 0] [E0,E0] G1f G5a (zzQ O) O O) O (JLo (.agg [I64 0,I64 2]) [] O .sct ø (fun hc=>Jf (cs:=[I64 0,I64 2]) [(0,1),(1,1)] [I64 0,I64 0] [E0,E0] G1f G5a (zzQ O) O O) O (JLo (E2 [(G2.mk 1 2),(G2.mk 0 2)]) [138,139] O .sct ⟨Ua,Ua,ø⟩ (fun hc=>H4 (xs:=[.agg [I64 1,I64 2],.agg [I64 0,I64 2]]) O ⟨O,O,O,O,ø⟩ Hk G1a O O O O) O ?_)))))))
   obtain⟨p,c5,h⟩:=Gd h
   refine JLo (BL p) [137,140] O .sct ⟨Ua,Ua,ø⟩ (fun hc=>Gu (args:=[E2 c.1,E2 [(G2.mk 1 2),(G2.mk 0 2)]]) O (R2 c.1 [(G2.mk 1 2),(G2.mk 0 2)] p (H6 hc c5)) G84 ⟨O,O,O,O,ø⟩) O (JLh (BL ((decide (c.2=0))&&p)) (Yy O O O O) O (JLm (BL ((decide (c.2=0))&&p)) O (G6 (c4 (H0 (fin1 BL h))))))
end
end Go.Proofs.YtokjlondbjdlfaaGreat
