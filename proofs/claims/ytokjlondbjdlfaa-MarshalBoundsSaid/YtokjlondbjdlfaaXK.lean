/- Walks of functions. -/
import Derived.Test.YtokjlondbjdlfaaXI
set_option maxRecDepth 100000
set_option maxHeartbeats 1000000
set_option linter.unusedVariables false
set_option linter.unusedSimpArgs false
namespace Go.Proofs.Ytokjlondbjdlfaa
open Go.RowKit
noncomputable section

namespace XKF
open XAF
open XBF
open XCF
open XDF
open XEF
open XIF
theorem Q36:Hm E8 12=true:=by kernel_rfl
theorem Q35:Hm E8 15=true:=by kernel_rfl
theorem Q34:Hm E8 16=true:=by kernel_rfl
theorem Q32:Hm E8 28=true:=by kernel_rfl
end XKF
open XAF
open XBF
open XCF
open XDF
open XEF
open XIF
open XKF

def G9d (y:Gq):Option (Int×Int):=
 bnd (Zg y) fun f=>
 bif (!f) then
 (some (0,2))
 else
 (each (fun c g (a:Int) b=>
   chk (y.Height - (c.length:Int)) fun d=>
   chk (a+d) fun e=>
   b e)
  (fun(a:Int)=>
   some (a,0)) y.Stacks 0 0)
theorem J68 (y:Gq) (r:Int×Int) (h:G9d y=some r):Pure E8 28 [.agg [LS 1 (E1) y.Stacks,I64 y.Height]] (·=.tup [I64 r.1,I64 r.2]):=by
 unfold G9d at h
 refine Hc [.tmp 2,.tmp 3] Try.func28 O O (Jr fun z=>(JLh (.ptr 1041 0) (Qo (cs:=[LS 1 (E1) y.Stacks,I64 y.Height]) 1041 O O O O O) O (JLm (I64 0) O (JLm (I64 0) O (G6 (z (H5 [(1,.dptr [LS 1 (E1) y.Stacks,I64 y.Height])] [] 1041 rfl rfl rfl ø rfl (by exact⟨.ptr,ø⟩) (Js fun a0=>Jr fun a1=>(JLh (.agg [LS 1 (E1) y.Stacks,I64 y.Height]) (Gw He O O O) O ?_)))))))))
 obtain⟨j,a2,h⟩:=Ge h
 refine JLh (BL j) (Gv O (G38 y j a2) H7d ⟨O,O,ø⟩) O (JLh (BL (!j)) (Zd (b:=j) O O) O (G6 (a1 (JCc O h (fun h hb=>?_) (fun h hb=>?_)))))
 ·
  refine Jr fun a3=>(JLm (I64 0) O (JLm (I64 2) O (G6 (a3 (H1 (⟨[I64 0,I64 2],[],ø,O,⟨⟨_,O,.conv (.same O)⟩,⟨_,O,.conv (.same O)⟩,ø⟩,O,congrArg (fun r:Int×Int=>(.tup [I64 r.1,I64 r.2]:AV)) (Ex h)⟩))))))
 ·
  refine Gi (a0 (Jr fun a4=>(JLm (I64 0) O (G6 (a4 (Js fun a5=>Jr fun a6=>(JLh (.dptr [LS 1 (E1) y.Stacks,I64 y.Height]) (Gz Hu O O O) O (JLh (LS 1 (E1) y.Stacks) (Gm Gs O O O) O (JLl Gf O O O fun l=>(JLm (I64 0) O (G6 (a6 (Gg ?_)))))))))))))
  obtain⟨a7,m,n,k,h⟩:=J7 h
  refine H9 (fun a (c:Int)=>each a7 m (List.drop a y.Stacks) a c=some r) (fun a c=>[(1,.dptr [LS 1 (E1) y.Stacks,I64 y.Height]),(4,I64 c),(11,LS 1 (E1) y.Stacks),(12,E7 y.Stacks.length),(13,E7 a)]) (fun a c=>[]) (fun a=>y.Stacks.length - a) 0 0 h ⟨(.sm O O),ø,rfl⟩ ?_
  clear h
  intro a c e b2 a8
  refine Jr fun o=>(JLh (BL (decide ((a:Int) < (y.Stacks.length:Int)))) (J0 O O O) O (G6 (o (Js fun p=>Gh O (fun hb=>?_) (fun hb=>?_)))))
  ·
   have g:=Jn hb
   obtain⟨d,b0,q,s,h⟩:=Hx e g
   replace h:=Yr n h
   refine Gi (p (Js fun t=>Gg (Jr fun u=>(JLh (.dptr [E1 d]) (H0 (f:=(E1)) (xs:=y.Stacks) (y:=d) O O O Gf q O) O (JLh (E1 d) (Gm H3 O O O) O (JLm (E1 d) O (G6 (u (G1 (JLm (I64 c) O (JLh (.dptr [I64 y.Height]) (Gz Rr O O O) O (JLh (I64 y.Height) (Gm Gj O O O) O (JLm (E1 d) O (JLl G7 O O O fun b1=>?_))))))))))))))
   obtain⟨a9,v,h⟩:=J9 h
   refine JLh (I64 a9) (Zu v O O O) O ?_
   obtain⟨i,w,h⟩:=J9 h
   refine JLh (I64 i) (Hz w O O O) O (JLm (I64 i) O (G6 (t (G1 (JLh (I64 ((a+1:Nat):Int)) (Hz (Hk g l) O O O) O (JLm (I64 ((a+1:Nat):Int)) O (G6 (a8 _ _ (a+1) i (app1 s h) (by omega) ⟨(.sm O O),ø,rfl⟩))))))))
  ·
   have h:=app1 k (Hy e (Hb hb))
   refine Hd (a5 (Jr fun x=>(JLm (I64 c) O (JLm (I64 c) O (JLm (I64 0) O (G6 (x (H1 (⟨[I64 c,I64 0],[],ø,O,⟨⟨_,O,.conv (.same O)⟩,⟨_,O,.conv (.same O)⟩,ø⟩,O,congrArg (fun r:Int×Int=>(.tup [I64 r.1,I64 r.2]:AV)) (Ex h)⟩)))))))))

def Rc (F:Nat) (stacks:Int) (height:Int) (l:List Int) (o:List Int) (moves:List G3):Option Bool:=
 bnd (Qu F) fun s=>
 bif (!s) then
 (some false)
 else
 (bnd (Qz stacks height l) fun a=>
  bnd (Qg F a o 20) fun e=>
  bnd (Yv a e) fun h=>
  bnd (Qm a e) fun b=>
  bnd (Qa a e) fun i=>
  bif (((((decide (h.2≠0))||(decide (b.2≠0)))||(decide (i.2≠0)))||(decide ((h.1.length:Int)≠b.1)))||(!(i.1==(decide (b.1=0))))) then
  (some false)
  else
  (jp (fun f=>
    bif decide ((moves.length:Int)≤60) then
    (bnd (Qj a e moves) fun g=>
     bnd (G60 a moves) fun j=>
     bnd (Qa j.1 e) fun n=>
     bif (((decide (g.2≠0))||(!(g.1==((decide (j.2.2=0))&&n.1))))||(g.1&&(decide ((moves.length:Int) < b.1)))) then
     (some false)
     else
     (f ()))
    else
    (f ())) fun(t:Unit)=>
   bnd (Q0 F a e) fun c=>
   bif ((decide (c.2≠0))&&(((decide (c.2≠360))||(decide ((c.1.length:Int)≠0)))||(decide (b.1=0)))) then
   (some false)
   else
   (bnd (Qj a e c.1) fun k=>
    bif ((decide (k.2≠0))||((decide (c.2=0))&&((!k.1)||(decide ((c.1.length:Int)≠b.1))))) then
    (some false)
    else
    (bnd (J8 F a e) fun d=>
     bif decide (d.2=5) then
     (bnd (G9d a) fun p=>
      chk ((a.Stacks.length:Int)*a.Height) fun q=>
      chk (q - p.1) fun r=>
      some ((decide (5 < r))||(decide (4 < (a.Stacks.length:Int)))))
     else
     (bif decide (d.2=6) then
      (some ((decide (c.2=360))&&(decide ((d.1.length:Int)=0))))
      else
      (bnd (Qj a e d.1) fun m=>
       some (((((decide (d.2=0))&&(decide (m.2=0)))&&m.1)&&(decide (b.1≤(d.1.length:Int))))&&((decide (c.2≠0))||(decide ((d.1.length:Int)=b.1))))))))))
theorem G71 (F:Nat) (stacks:Int) (height:Int) (l:List Int) (o:List Int) (moves:List G3) (r:Bool) (h:Rc F stacks height l o moves=some r):Pure E8 8 [U8 stacks,U8 height,E4 l,E4 o,E2 moves] (·=BL r):=by
 unfold Rc at h
 refine Hc [.tmp 10] Try.func8 O O (Jr fun e2=>(JLm (BL false) O (G6 (e2 (Js fun e3=>Jr fun e4=>?_)))))
 obtain⟨w,e5,h⟩:=Ge h
 refine JLh (BL w) (Gv O (Gec F w e5) Q36 ø) O (JLh (BL (!w)) (Zd (b:=w) O O) O (G6 (e4 (JCc O h (fun h hb=>?_) (fun h hb=>?_)))))
 ·
  refine Jr fun e6=>(JLm (BL false) O (G6 (e6 (H1 (fin1 BL h)))))
 ·
  refine Gi (e3 (Jr fun e7=>(JLm (U8 stacks) O (JLm (U8 height) O (JLm (E4 l) O ?_)))))
  obtain⟨e,e8,h⟩:=Ge h
  refine JLh (.agg [LS 1 (E1) e.Stacks,I64 e.Height]) (Gv O (Gf6.down stacks height l e e8) Q35 ⟨O,O,O,O,O,O,ø⟩) O (JLh (.ptr 1001 0) (Je 1001 2 Zx O O) O (Jc (u:=.junk) (Hv (u:=.agg [LS 1 (E1) e.Stacks,I64 e.Height]) (ds:=[LS 1 (E1) e.Stacks,I64 e.Height]) Zo O O O O O O O O) (G6 (e7 (H5 [(3,E4 o),(4,E2 moves),(11,.dptr [LS 1 (E1) e.Stacks,I64 e.Height])] [] 1001 rfl rfl rfl ø rfl (by exact⟨.conv (.same rfl),.conv (.same rfl),.ptr,ø⟩) (Jr fun e9=>(JLh (.agg [LS 1 (E1) e.Stacks,I64 e.Height]) (Gw He O O O) O (JLm (E4 o) O ?_))))))))
  obtain⟨p,f0,h⟩:=Ge h
  refine JLh (E1 p) (Gv O (Gc7 F e o 20 p f0) Q34 ⟨O,O,O,O,O,O,ø⟩) O (JLm (E1 p) O (G6 (e9 (Jr fun y=>(JLh (.agg [LS 1 (E1) e.Stacks,I64 e.Height]) (Gw He O O O) O (JLm (E1 p) O ?_))))))
  obtain⟨j,z,h⟩:=Ge h
  refine JLh (.tup [E1 j.1,I64 j.2]) (Gv O (Ga5 e p j z) H81 ⟨O,O,O,O,ø⟩) O (JLm (.tup [E1 j.1,I64 j.2]) O (JLh (E1 j.1) (Gn O O O) O (JLh (I64 j.2) (Gn O O O) O (JLm (E1 j.1) O (JLm (I64 j.2) O (G6 (y (Jr fun a0=>(JLh (.agg [LS 1 (E1) e.Stacks,I64 e.Height]) (Gw He O O O) O (JLm (E1 p) O ?_))))))))))
  obtain⟨c,a1,h⟩:=Ge h
  refine JLh (.tup [I64 c.1,I64 c.2]) (Gv O (Yn e p c a1) G7b ⟨O,O,O,O,ø⟩) O (JLm (.tup [I64 c.1,I64 c.2]) O (JLh (I64 c.1) (Gn O O O) O (JLh (I64 c.2) (Gn O O O) O (JLm (I64 c.1) O (JLm (I64 c.2) O (G6 (a0 (Jr fun a2=>(JLh (.agg [LS 1 (E1) e.Stacks,I64 e.Height]) (Gw He O O O) O (JLm (E1 p) O ?_))))))))))
  obtain⟨n,a3,h⟩:=Ge h
  refine JLh (.tup [BL n.1,I64 n.2]) (Gv O (G55 e p n a3) H82 ⟨O,O,O,O,ø⟩) O (JLm (.tup [BL n.1,I64 n.2]) O (JLh (BL n.1) (Gn O O O) O (JLh (I64 n.2) (Gn O O O) O (JLm (BL n.1) O (JLm (I64 n.2) O (G6 (a2 (Js fun a4=>?_))))))))
  refine Jr fun a5=>(JLm (I64 j.2) O (JLh (BL (decide (j.2≠0))) (Yo O O O) O (JLm (BL (decide (j.2≠0))) O (JLo (I64 c.2) [] O .scf ø (fun hc=>G2 O O) O (JLo (BL (decide (c.2≠0))) [64] O .scf ⟨Ua,ø⟩ (fun hc=>Yo O O O) O (JLh (BL ((decide (j.2≠0))||(decide (c.2≠0)))) (Yz O O O O) O (JLm (BL ((decide (j.2≠0))||(decide (c.2≠0)))) O (JLo (I64 n.2) [] O .scf ø (fun hc=>G2 O O) O (JLo (BL (decide (n.2≠0))) [68] O .scf ⟨Ua,ø⟩ (fun hc=>Yo O O O) O (JLh (BL (((decide (j.2≠0))||(decide (c.2≠0)))||(decide (n.2≠0)))) (Yz O O O O) O (JLm (BL (((decide (j.2≠0))||(decide (c.2≠0)))||(decide (n.2≠0)))) O (JLo (E1 j.1) [] O .scf ø (fun hc=>G2 O O) O (JLo (E7 j.1.length) [72] O .scf ⟨Ua,ø⟩ (fun hc=>Q3 (f:=I64) (xs:=j.1) G7 O O) O ?_)))))))))))))
  refine JLo (I64 c.1) [] O .scf ø (fun hc=>G2 O O) O (JLo (BL (decide ((j.1.length:Int)≠c.1))) [73,74] O .scf ⟨Ua,Ua,ø⟩ (fun hc=>Yo O O O) O (JLh (BL ((((decide (j.2≠0))||(decide (c.2≠0)))||(decide (n.2≠0)))||(decide ((j.1.length:Int)≠c.1)))) (Yz O O O O) O (JLm (BL ((((decide (j.2≠0))||(decide (c.2≠0)))||(decide (n.2≠0)))||(decide ((j.1.length:Int)≠c.1)))) O (JLo (BL n.1) [] O .scf ø (fun hc=>G2 O O) O (JLo (I64 c.1) [] O .scf ø (fun hc=>G2 O O) O (JLo (BL (decide (c.1=0))) [79] O .scf ⟨Ua,ø⟩ (fun hc=>R8 O O O) O (JLo (BL (!(n.1==(decide (c.1=0))))) [78,80] O .scf ⟨Ua,Ua,ø⟩ (fun hc=>Q06 H52 O O O) O (JLh (BL (((((decide (j.2≠0))||(decide (c.2≠0)))||(decide (n.2≠0)))||(decide ((j.1.length:Int)≠c.1)))||(!(n.1==(decide (c.1=0)))))) (Yz O O O O) O (G6 (a5 ?_))))))))))
  refine JCc O h ?_ ?_<;>intro h hb
  ·
   refine Jr fun a6=>(JLm (BL false) O (G6 (a6 (H1 (fin1 BL h)))))
  ·
   refine Gi (a4 ?_)
   obtain⟨a7,x,h⟩:=G11 h
   refine Z5 (fun v:Unit=>a7 v=some r) (fun v=>[(11,.dptr [LS 1 (E1) e.Stacks,I64 e.Height]),(12,E1 p),(15,I64 c.1)]) (fun v=>[]) (fun Kj19 ej19=>?_) ?_
   ·
    refine Jr fun a8=>(JLm (E2 moves) O (JLl J4 O O O fun f3=>(JLh (BL (decide ((moves.length:Int)≤60))) (Q09 O O O) O (G6 (a8 (JCc O h (fun h hb=>?_) (fun h hb=>?_)))))))
    ·
     refine Jr fun a9=>(JLh (.agg [LS 1 (E1) e.Stacks,I64 e.Height]) (Gw He O O O) O (JLm (E1 p) O (JLm (E2 moves) O ?_)))
     obtain⟨i,b0,h⟩:=Ge h
     refine JLh (.tup [BL i.1,I64 i.2]) (Gv O (G0a e p moves i b0) Gba ⟨O,O,O,O,O,O,ø⟩) O (JLm (.tup [BL i.1,I64 i.2]) O (JLh (BL i.1) (Gn O O O) O (JLh (I64 i.2) (Gn O O O) O (JLm (BL i.1) O (JLm (I64 i.2) O (G6 (a9 (Jr fun b1=>(JLh (.agg [LS 1 (E1) e.Stacks,I64 e.Height]) (Gw He O O O) O (JLm (E2 moves) O ?_))))))))))
     obtain⟨g,b2,h⟩:=Ge h
     refine JLh (.tup [.agg [LS 1 (E1) g.1.Stacks,I64 g.1.Height],I64 g.2.1,I64 g.2.2]) (Gv O (H72.down e moves g b2) J1c ⟨O,O,O,O,ø⟩) O (JLm (.tup [.agg [LS 1 (E1) g.1.Stacks,I64 g.1.Height],I64 g.2.1,I64 g.2.2]) O (JLh (.agg [LS 1 (E1) g.1.Stacks,I64 g.1.Height]) (Gn O O O) O (JLh (I64 g.2.1) (Gn O O O) O (JLh (I64 g.2.2) (Gn O O O) O (JLh (.ptr 1002 0) (Je 1002 2 Zx O O) O (Jc (u:=.junk) (Hv (u:=.agg [LS 1 (E1) g.1.Stacks,I64 g.1.Height]) (ds:=[LS 1 (E1) g.1.Stacks,I64 g.1.Height]) Zo O O O O O O O O) (JLm (I64 g.2.1) O (JLm (I64 g.2.2) O (G6 (b1 ?_))))))))))
     refine fzQ [(4,E2 moves),(11,.dptr [LS 1 (E1) e.Stacks,I64 e.Height]),(12,E1 p),(15,I64 c.1),(19,BL i.1),(20,I64 i.2),(21,.dptr [LS 1 (E1) g.1.Stacks,I64 g.1.Height]),(23,I64 g.2.2)] [] 1002 rfl rfl rfl ø rfl (Jr fun b3=>(JLh (.agg [LS 1 (E1) g.1.Stacks,I64 g.1.Height]) (Gw He O O O) O (JLm (E1 p) O ?_)))
     obtain⟨q,b4,h⟩:=Ge h
     refine JLh (.tup [BL q.1,I64 q.2]) (Gv O (G55 g.1 p q b4) H82 ⟨O,O,O,O,ø⟩) O (JLm (.tup [BL q.1,I64 q.2]) O (JLh (BL q.1) (Gn O O O) O (JLh (I64 q.2) (Gn O O O) O (JLm (BL q.1) O (JLm (I64 q.2) O (G6 (b3 (Jr fun b5=>(JLm (I64 i.2) O (JLh (BL (decide (i.2≠0))) (Yo O O O) O (JLm (BL (decide (i.2≠0))) O (JLo (BL i.1) [] O .scf ø (fun hc=>G2 O O) O (JLo (I64 g.2.2) [] O .scf ø (fun hc=>G2 O O) O (JLo (BL (decide (g.2.2=0))) [110] O .scf ⟨Ua,ø⟩ (fun hc=>R8 O O O) O (JLo (BL (decide (g.2.2=0))) [111] O .scf ⟨Ua,ø⟩ (fun hc=>G2 O O) O (JLo (BL q.1) [] O .optt ø (fun hc=>G2 O O) O ?_))))))))))))))))
     refine Ga (u:=BL ((decide (g.2.2=0))&&q.1)) [(112,BL (decide (g.2.2=0))),(113,_)] O O O .scf ⟨.all id,.part,ø⟩ (fun hc=>Rh O O O O) ?_
     refine JLo (BL (!(i.1==((decide (g.2.2=0))&&q.1)))) [109,114] O .scf ⟨Ua,Ua,ø⟩ (fun hc=>Q06 H52 O O O) O (JLh (BL ((decide (i.2≠0))||(!(i.1==((decide (g.2.2=0))&&q.1))))) (Yz O O O O) O (JLm (BL ((decide (i.2≠0))||(!(i.1==((decide (g.2.2=0))&&q.1))))) O (JLo (BL i.1) [] O .scf ø (fun hc=>G2 O O) O (JLo (BL i.1) [118] O .scf ⟨Ua,ø⟩ (fun hc=>G2 O O) O (JLo (E2 moves) [] O .optt ø (fun hc=>G2 O O) O (JLo (E7 moves.length) [120] O .optt ⟨Ua,ø⟩ (fun hc=>Q3 (f:=G3.av) (xs:=moves) J4 O O) O (JLo (I64 c.1) [] O .optt ø (fun hc=>G2 O O) O (JLo (BL (decide ((moves.length:Int) < c.1))) [121,122] O .optt ⟨Ua,Ua,ø⟩ (fun hc=>J0 O O O) O ?_))))))))
     refine Ga (u:=BL (i.1&&(decide ((moves.length:Int) < c.1)))) [(119,BL i.1),(123,_)] O O O .scf ⟨.all id,.part,ø⟩ (fun hc=>Rh O O O O) ?_
     refine JLh (BL (((decide (i.2≠0))||(!(i.1==((decide (g.2.2=0))&&q.1))))||(i.1&&(decide ((moves.length:Int) < c.1))))) (Yz O O O O) O (G6 (b5 (JCc O h (fun h hb=>?_) (fun h hb=>?_))))
     ·
      refine Jr fun b6=>(JLm (BL false) O (G6 (b6 (H1 (fin1 BL h)))))
     ·
      refine Gi (ej19 _ _ () h ⟨(.sm O O),ø,O⟩)
    ·
     refine Gi (ej19 _ _ () h ⟨(.sm O O),ø,O⟩)
   ·intro v h
    replace h:=app1 x h
    refine Jr fun b7=>(JLh (.agg [LS 1 (E1) e.Stacks,I64 e.Height]) (Gw He O O O) O (JLm (E1 p) O ?_))
    obtain⟨a,b8,h⟩:=Ge h
    refine JLh (.tup [E2 a.1,I64 a.2]) (Gv O (Yc F e p a b8) G7c ⟨O,O,O,O,ø⟩) O (JLm (.tup [E2 a.1,I64 a.2]) O (JLh (E2 a.1) (Gn O O O) O (JLh (I64 a.2) (Gn O O O) O (JLm (E2 a.1) O (JLm (I64 a.2) O (G6 (b7 (Js fun b9=>?_))))))))
    refine Jr fun c0=>(JLm (I64 a.2) O (JLh (BL (decide (a.2≠0))) (Yo O O O) O (JLm (BL (decide (a.2≠0))) O (JLo (I64 a.2) [] O .sct ø (fun hc=>G2 O O) O (JLo (BL (decide (a.2≠360))) [135] O .sct ⟨Ua,ø⟩ (fun hc=>Yo O O O) O (JLo (BL (decide (a.2≠360))) [136] O .sct ⟨Ua,ø⟩ (fun hc=>G2 O O) O (JLo (E2 a.1) [] O .optf ø (fun hc=>G2 O O) O (JLo (E7 a.1.length) [138] O .optf ⟨Ua,ø⟩ (fun hc=>Q3 (f:=G3.av) (xs:=a.1) J4 O O) O (JLo (BL (decide ((a.1.length:Int)≠0))) [139] O .optf ⟨Ua,ø⟩ (fun hc=>Yo O O O) O (Ga (u:=BL ((decide (a.2≠360))||(decide ((a.1.length:Int)≠0)))) [(137,BL (decide (a.2≠360))),(140,_)] O O O .sct ⟨.all id,.part,ø⟩ (fun hc=>Yz O O O O) ?_))))))))))
    refine JLo (BL ((decide (a.2≠360))||(decide ((a.1.length:Int)≠0)))) [141] O .sct ⟨Ua,ø⟩ (fun hc=>G2 O O) O (JLo (I64 c.1) [] O .optf ø (fun hc=>G2 O O) O (JLo (BL (decide (c.1=0))) [143] O .optf ⟨Ua,ø⟩ (fun hc=>R8 O O O) O (Ga (u:=BL (((decide (a.2≠360))||(decide ((a.1.length:Int)≠0)))||(decide (c.1=0)))) [(142,BL ((decide (a.2≠360))||(decide ((a.1.length:Int)≠0)))),(144,_)] O O O .sct ⟨.all id,.part,ø⟩ (fun hc=>Yz O O O O) ?_)))
    refine JLh (BL ((decide (a.2≠0))&&(((decide (a.2≠360))||(decide ((a.1.length:Int)≠0)))||(decide (c.1=0))))) (Rh O O O O) O (G6 (c0 (JCc O h (fun h hb=>?_) (fun h hb=>?_))))
    ·
     refine Jr fun c1=>(JLm (BL false) O (G6 (c1 (H1 (fin1 BL h)))))
    ·
     refine Gi (b9 (Js fun c2=>Jr fun c3=>(JLh (.agg [LS 1 (E1) e.Stacks,I64 e.Height]) (Gw He O O O) O (JLm (E1 p) O (JLm (E2 a.1) O ?_)))))
     obtain⟨m,c4,h⟩:=Ge h
     refine JLh (.tup [BL m.1,I64 m.2]) (Gv O (G0a e p a.1 m c4) Gba ⟨O,O,O,O,O,O,ø⟩) O (JLm (.tup [BL m.1,I64 m.2]) O (JLh (BL m.1) (Gn O O O) O (JLh (I64 m.2) (Gn O O O) O (JLm (BL m.1) O (JLm (I64 m.2) O (G6 (c3 ?_)))))))
     refine Jr fun c5=>(JLm (I64 m.2) O (JLh (BL (decide (m.2≠0))) (Yo O O O) O (JLm (BL (decide (m.2≠0))) O (JLo (I64 a.2) [] O .scf ø (fun hc=>G2 O O) O (JLo (BL (decide (a.2=0))) [157] O .scf ⟨Ua,ø⟩ (fun hc=>R8 O O O) O (JLo (BL (decide (a.2=0))) [158] O .scf ⟨Ua,ø⟩ (fun hc=>G2 O O) O (JLo (BL m.1) [] O .optt ø (fun hc=>G2 O O) O (JLo (BL (!m.1)) [160] O .optt ⟨Ua,ø⟩ (fun hc=>Zd (b:=m.1) O O) O (JLo (BL (!m.1)) [161] O .optt ⟨Ua,ø⟩ (fun hc=>G2 O O) O (JLo (E2 a.1) [] O .optf ø (fun hc=>G2 O O) O (JLo (E7 a.1.length) [163] O .optf ⟨Ua,ø⟩ (fun hc=>Q3 (f:=G3.av) (xs:=a.1) J4 O O) O (JLo (I64 c.1) [] O .optf ø (fun hc=>G2 O O) O (JLo (BL (decide ((a.1.length:Int)≠c.1))) [164,165] O .optf ⟨Ua,Ua,ø⟩ (fun hc=>Yo O O O) O ?_)))))))))))))
     refine Ga (u:=BL ((!m.1)||(decide ((a.1.length:Int)≠c.1)))) [(162,BL (!m.1)),(166,_)] O O O .optt ⟨.all id,.part,ø⟩ (fun hc=>Yz O O O O) ?_
     refine Ga (u:=BL ((decide (a.2=0))&&((!m.1)||(decide ((a.1.length:Int)≠c.1))))) [(159,BL (decide (a.2=0))),(167,_)] O O O .scf ⟨.all id,.part,ø⟩ (fun hc=>Rh O O O O) ?_
     refine JLh (BL ((decide (m.2≠0))||((decide (a.2=0))&&((!m.1)||(decide ((a.1.length:Int)≠c.1)))))) (Yz O O O O) O (G6 (c5 (JCc O h (fun h hb=>?_) (fun h hb=>?_))))
     ·
      refine Jr fun c6=>(JLm (BL false) O (G6 (c6 (H1 (fin1 BL h)))))
     ·
      refine Gi (c2 (Jr fun c7=>(JLh (.agg [LS 1 (E1) e.Stacks,I64 e.Height]) (Gw He O O O) O (JLm (E1 p) O ?_))))
      obtain⟨d,c8,h⟩:=Ge h
      refine JLh (.tup [E2 d.1,I64 d.2]) (Gv O (G09 F e p d c8) Gbb ⟨O,O,O,O,ø⟩) O (JLm (.tup [E2 d.1,I64 d.2]) O (JLh (E2 d.1) (Gn O O O) O (JLh (I64 d.2) (Gn O O O) O (JLm (E2 d.1) O (JLm (I64 d.2) O (G6 (c7 (Js fun c9=>Jr fun d0=>(JLm (I64 d.2) O (JLh (BL (decide (d.2=5))) (R8 O O O) O (G6 (d0 (JCc O h (fun h hb=>?_) (fun h hb=>?_))))))))))))))
      ·
       refine Jr fun d1=>(JLh (.agg [LS 1 (E1) e.Stacks,I64 e.Height]) (Gw He O O O) O ?_)
       obtain⟨s,d2,h⟩:=Ge h
       refine JLh (.tup [I64 s.1,I64 s.2]) (Gv O (J68 e s d2) Q32 ⟨O,O,ø⟩) O (JLm (.tup [I64 s.1,I64 s.2]) O (JLh (I64 s.1) (Gn O O O) O (JLh (I64 s.2) (Gn O O O) O (JLm (I64 s.1) O (JLm (I64 s.2) O (G6 (d1 (Jr fun d3=>(JLh (.dptr [LS 1 (E1) e.Stacks,I64 e.Height]) (Gz Hu O O O) O (JLh (LS 1 (E1) e.Stacks) (Gm Gs O O O) O (JLl Gf O O O fun f2=>(JLh (.dptr [I64 e.Height]) (Gz Rr O O O) O (JLh (I64 e.Height) (Gm Gj O O O) O ?_)))))))))))))
       obtain⟨f1,d4,h⟩:=J9 h
       refine JLh (I64 f1) (Q9b d4 O O O) O (JLm (I64 s.1) O ?_)
       obtain⟨t,d5,h⟩:=J9 h
       refine JLh (I64 t) (Zu d5 O O O) O (JLh (BL (decide (5 < t))) (Z0 O O O) O (JLm (BL (decide (5 < t))) O (JLo (.dptr [LS 1 (E1) e.Stacks,I64 e.Height]) [] O .scf ø (fun hc=>Gz Hu O O O) O (JLo (LS 1 (E1) e.Stacks) [193] O .scf ⟨Ua,ø⟩ (fun hc=>Gm Gs O O O) O (JLo (E7 e.Stacks.length) [194] O .scf ⟨Ua,ø⟩ (fun hc=>Q3 (f:=(E1)) (xs:=e.Stacks) Gf O O) O (JLo (BL (decide (4 < (e.Stacks.length:Int)))) [195] O .scf ⟨Ua,ø⟩ (fun hc=>Z0 O O O) O (JLh (BL ((decide (5 < t))||(decide (4 < (e.Stacks.length:Int))))) (Yz O O O O) O (JLm (BL ((decide (5 < t))||(decide (4 < (e.Stacks.length:Int))))) O (G6 (d3 (H1 (fin1 BL h))))))))))))
      ·
       refine Gi (c9 (Js fun d6=>Jr fun d7=>(JLm (I64 d.2) O (JLh (BL (decide (d.2=6))) (R8 O O O) O (G6 (d7 (JCc O h (fun h hb=>?_) (fun h hb=>?_))))))))
       ·
        refine Jr fun d8=>(JLm (I64 a.2) O (JLh (BL (decide (a.2=360))) (R8 O O O) O (JLm (BL (decide (a.2=360))) O (JLo (E2 d.1) [] O .sct ø (fun hc=>G2 O O) O (JLo (E7 d.1.length) [203] O .sct ⟨Ua,ø⟩ (fun hc=>Q3 (f:=G3.av) (xs:=d.1) J4 O O) O (JLo (BL (decide ((d.1.length:Int)=0))) [204] O .sct ⟨Ua,ø⟩ (fun hc=>R8 O O O) O (JLh (BL ((decide (a.2=360))&&(decide ((d.1.length:Int)=0)))) (Rh O O O O) O (JLm (BL ((decide (a.2=360))&&(decide ((d.1.length:Int)=0)))) O (G6 (d8 (H1 (fin1 BL h))))))))))))
       ·
        refine Gi (d6 (Jr fun d9=>(JLh (.agg [LS 1 (E1) e.Stacks,I64 e.Height]) (Gw He O O O) O (JLm (E1 p) O (JLm (E2 d.1) O ?_)))))
        obtain⟨k,e0,h⟩:=Ge h
        refine JLh (.tup [BL k.1,I64 k.2]) (Gv O (G0a e p d.1 k e0) Gba ⟨O,O,O,O,O,O,ø⟩) O (JLm (.tup [BL k.1,I64 k.2]) O (JLh (BL k.1) (Gn O O O) O (JLh (I64 k.2) (Gn O O O) O (JLm (BL k.1) O (JLm (I64 k.2) O (G6 (d9 ?_)))))))
        refine Jr fun e1=>(JLm (I64 d.2) O (JLh (BL (decide (d.2=0))) (R8 O O O) O (JLm (BL (decide (d.2=0))) O (JLo (I64 k.2) [] O .sct ø (fun hc=>G2 O O) O (JLo (BL (decide (k.2=0))) [217] O .sct ⟨Ua,ø⟩ (fun hc=>R8 O O O) O (JLh (BL ((decide (d.2=0))&&(decide (k.2=0)))) (Rh O O O O) O (JLm (BL ((decide (d.2=0))&&(decide (k.2=0)))) O (JLo (BL k.1) [] O .sct ø (fun hc=>G2 O O) O (JLh (BL (((decide (d.2=0))&&(decide (k.2=0)))&&k.1)) (Rh O O O O) O (JLm (BL (((decide (d.2=0))&&(decide (k.2=0)))&&k.1)) O (JLo (E2 d.1) [] O .sct ø (fun hc=>G2 O O) O (JLo (E7 d.1.length) [224] O .sct ⟨Ua,ø⟩ (fun hc=>Q3 (f:=G3.av) (xs:=d.1) J4 O O) O (JLo (I64 c.1) [] O .sct ø (fun hc=>G2 O O) O ?_)))))))))))))
        refine JLo (BL (decide (c.1≤(d.1.length:Int)))) [225,226] O .sct ⟨Ua,Ua,ø⟩ (fun hc=>G4e O O O) O (JLh (BL ((((decide (d.2=0))&&(decide (k.2=0)))&&k.1)&&(decide (c.1≤(d.1.length:Int))))) (Rh O O O O) O (JLm (BL ((((decide (d.2=0))&&(decide (k.2=0)))&&k.1)&&(decide (c.1≤(d.1.length:Int))))) O (JLo (I64 a.2) [] O .sct ø (fun hc=>G2 O O) O (JLo (BL (decide (a.2≠0))) [230] O .sct ⟨Ua,ø⟩ (fun hc=>Yo O O O) O (JLo (BL (decide (a.2≠0))) [231] O .sct ⟨Ua,ø⟩ (fun hc=>G2 O O) O (JLo (E2 d.1) [] O .optf ø (fun hc=>G2 O O) O (JLo (E7 d.1.length) [233] O .optf ⟨Ua,ø⟩ (fun hc=>Q3 (f:=G3.av) (xs:=d.1) J4 O O) O (JLo (I64 c.1) [] O .optf ø (fun hc=>G2 O O) O (JLo (BL (decide ((d.1.length:Int)=c.1))) [234,235] O .optf ⟨Ua,Ua,ø⟩ (fun hc=>R8 O O O) O ?_)))))))))
        refine Ga (u:=BL ((decide (a.2≠0))||(decide ((d.1.length:Int)=c.1)))) [(232,BL (decide (a.2≠0))),(236,_)] O O O .sct ⟨.all id,.part,ø⟩ (fun hc=>Yz O O O O) ?_
        refine JLh (BL (((((decide (d.2=0))&&(decide (k.2=0)))&&k.1)&&(decide (c.1≤(d.1.length:Int))))&&((decide (a.2≠0))||(decide ((d.1.length:Int)=c.1))))) (Rh O O O O) O (JLm (BL (((((decide (d.2=0))&&(decide (k.2=0)))&&k.1)&&(decide (c.1≤(d.1.length:Int))))&&((decide (a.2≠0))||(decide ((d.1.length:Int)=c.1))))) O (G6 (e1 (H1 (fin1 BL h)))))
end
end Go.Proofs.Ytokjlondbjdlfaa
