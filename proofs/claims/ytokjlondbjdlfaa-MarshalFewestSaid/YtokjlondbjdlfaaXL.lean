/- Walks of functions. -/
import Derived.Test.YtokjlondbjdlfaaXK
set_option maxRecDepth 100000
set_option maxHeartbeats 1000000
set_option linter.unusedVariables false
set_option linter.unusedSimpArgs false
namespace Go.Proofs.Ytokjlondbjdlfaa
open Go.RowKit
noncomputable section

namespace XLF
open XAF
open XBF
open XCF
open XDF
open XEF
open XIF
open XKF
theorem H8d:Hr E8 18=true:=by kernel_rfl
end XLF
open XAF
open XBF
open XCF
open XDF
open XEF
open XIF
open XKF
open XLF

def Z6 (self_:Gm→(List Int)→Int→Option Bool) (F:Nat) (y:Gm) (order:List Int) (left:Int):Option Bool:=
 bnd (Rz y order) fun b=>
 bif ((decide ((b.1.length:Int)=0))||(decide (left < (b.1.length:Int)))) then
 (some (decide ((b.1.length:Int)=0)))
 else
 (each (fun l i (j:Unit) d=>
   each (fun k e (f:Unit) c=>
    bnd (Zn y (G3.mk (i:Int) (e:Int))) fun a=>
    bnd (bif decide (a.2=0) then chk (left - 1) some else some 0) fun g=>
    bnd (bif decide (a.2=0) then self_ a.1 order g else some default) fun h=>
    bif ((decide (a.2=0))&&h) then
    (some true)
    else
    (c ()))
   (fun(f:Unit)=>
    d ()) y.Stacks 0 ())
  (fun(j:Unit)=>
   some false) y.Stacks 0 ())
def Qj:Nat→Gm→(List Int)→Int→Option Bool
 | 0,_,_,_=>none
 | F+1,y,order,left=>Z6 (Qj F) F y order left
theorem Gd3 (self_:Gm→(List Int)→Int→Option Bool) (self_w:∀ (y:Gm) (order:List Int) (left:Int) (r:Bool),self_ y order left=some r→Pure E8 18 [.agg [LS 1 (E1) y.Stacks,I64 y.Height],E1 order,I64 left] (·=BL r)) (F:Nat) (y:Gm) (order:List Int) (left:Int) (r:Bool) (h:Z6 self_ F y order left=some r):Pure E8 18 [.agg [LS 1 (E1) y.Stacks,I64 y.Height],E1 order,I64 left] (·=BL r):=by
 unfold Z6 at h
 refine He [.tmp 6] Try.func18 O O (Jr fun b3=>(JLh (.ptr 1034 0) (Qr (cs:=[LS 1 (E1) y.Stacks,I64 y.Height]) 1034 O O O O O) O (JLm (BL false) O (G6 (b3 (H2 [(1,E1 order),(2,I64 left),(3,.dptr [LS 1 (E1) y.Stacks,I64 y.Height])] [] 1034 rfl rfl rfl ø rfl (by exact⟨.conv (.same rfl),.conv (.same rfl),.ptr,ø⟩) (Jr fun b4=>(JLh (.agg [LS 1 (E1) y.Stacks,I64 y.Height]) (Gr H8 O O O) O (JLm (E1 order) O ?_)))))))))
 obtain⟨d,b5,h⟩:=Gd h
 refine JLh (.tup [E1 d.1,I64 d.2]) (Gt O (G5c y order d b5) H10 ⟨O,O,O,O,ø⟩) O (JLm (.tup [E1 d.1,I64 d.2]) O (JLh (E1 d.1) (Gk O O O) O (JLh (I64 d.2) (Gk O O O) O (JLm (E1 d.1) O (JLm (I64 d.2) O (G6 (b4 (Js fun b6=>?_))))))))
 refine Jr fun b7=>(JLm (E1 d.1) O (JLl G7 O O O fun c7=>(JLh (BL (decide ((d.1.length:Int)=0))) (Qy O O O) O (JLm (BL (decide ((d.1.length:Int)=0))) O (JLo (E1 d.1) [] O .scf ø (fun hc=>G2 O O) O (JLo (E7 d.1.length) [23] O .scf ⟨Ua,ø⟩ (fun hc=>Jx (f:=I64) (xs:=d.1) G7 O O) O (JLo (I64 left) [] O .scf ø (fun hc=>G2 O O) O (JLo (BL (decide (left < (d.1.length:Int)))) [24,25] O .scf ⟨Ua,Ua,ø⟩ (fun hc=>Yp O O O) O (JLh (BL ((decide ((d.1.length:Int)=0))||(decide (left < (d.1.length:Int))))) (Yn O O O O) O (G6 (b7 (JCc O h (fun h hb=>?_) (fun h hb=>?_)))))))))))))
 ·
  refine Jr fun b8=>(JLm (E1 d.1) O (JLl G7 O O O fun c8=>(JLh (BL (decide ((d.1.length:Int)=0))) (Qy O O O) O (JLm (BL (decide ((d.1.length:Int)=0))) O (G6 (b8 (H0 (fin1 BL h))))))))
 ·
  refine Gi (b6 (Js fun c0=>Jr fun c1=>(JLh (.dptr [LS 1 (E1) y.Stacks,I64 y.Height]) (Gy Hp O O O) O (JLh (LS 1 (E1) y.Stacks) (Gp Gs O O O) O (JLl Gf O O O fun c9=>(JLm (I64 0) O (G6 (c1 (Gg ?_)))))))))
  obtain⟨b9,c2,c3,q,h⟩:=J6 h
  refine H9 (fun c (m:Unit)=>each b9 c2 (List.drop c y.Stacks) c m=some r) (fun c m=>[(1,E1 order),(2,I64 left),(3,.dptr [LS 1 (E1) y.Stacks,I64 y.Height]),(33,E7 y.Stacks.length),(34,E7 c)]) (fun c m=>[]) (fun c=>y.Stacks.length - c) 0 () h ⟨(.sm O O),ø,rfl⟩ ?_
  clear h
  intro c m o K9 e9
  refine Jr fun s=>(JLh (BL (decide ((c:Int) < (y.Stacks.length:Int)))) (J1 O O O) O (G6 (s (Js fun t=>Gh O (fun hb=>?_) (fun hb=>?_)))))
  ·
   have p:=Jj hb
   obtain⟨y9,d4,d5,c4,h⟩:=Hv o p
   replace h:=Yr c3 h
   refine Gi (t (Js fun v=>Gg (Jr fun w=>(JLm (E7 c) O (JLm (E7 c) O (G6 (w (Jr fun x=>(JLh (.dptr [LS 1 (E1) y.Stacks,I64 y.Height]) (Gy Hp O O O) O (JLh (LS 1 (E1) y.Stacks) (Gp Gs O O O) O (JLl Gf O O O fun g=>(JLm (I64 0) O (G6 (x (Gg ?_)))))))))))))))
   obtain⟨c5,z,a0,n,h⟩:=J6 h
   refine H9 (fun b (e:Unit)=>each c5 z (List.drop b y.Stacks) b e=some r) (fun b e=>[(1,E1 order),(2,I64 left),(3,.dptr [LS 1 (E1) y.Stacks,I64 y.Height]),(9,E7 c),(33,E7 y.Stacks.length),(34,E7 c),(39,E7 y.Stacks.length),(40,E7 b)]) (fun b e=>[]) (fun b=>y.Stacks.length - b) 0 () h ⟨(.sm O O),ø,rfl⟩ ?_
   clear h
   intro b e i d6 c6
   refine Jr fun a1=>(JLh (BL (decide ((b:Int) < (y.Stacks.length:Int)))) (J1 O O O) O (G6 (a1 (Js fun a2=>Gh O (fun hb=>?_) (fun hb=>?_)))))
   ·
    have j:=Jj hb
    obtain⟨d7,d2,d3,a3,h⟩:=Hv i j
    replace h:=Yr a0 h
    refine Gi (a2 (Js fun a4=>Gg (Jr fun a5=>(JLm (E7 b) O (JLm (E7 b) O (G6 (a5 (Jr fun a6=>(JLh (.agg [LS 1 (E1) y.Stacks,I64 y.Height]) (Gr H8 O O O) O (JLm (E7 c) O (JLm (E7 b) O (JLh (.agg [E7 c,E7 b]) (Jn (cs:=[E7 c,E7 b]) [(0,1),(1,1)] [I64 0,I64 0] [E0,E0] G1f G5d (zzQ O) O O) O ?_))))))))))))
    obtain⟨a,a7,h⟩:=Gd h
    refine JLh (.tup [.agg [LS 1 (E1) a.1.Stacks,I64 a.1.Height],I64 a.2]) (Gt O (Gce.down y (G3.mk (c:Int) (b:Int)) a a7) H8c ⟨O,O,O,O,ø⟩) O (JLm (.tup [.agg [LS 1 (E1) a.1.Stacks,I64 a.1.Height],I64 a.2]) O (JLh (.agg [LS 1 (E1) a.1.Stacks,I64 a.1.Height]) (Gk O O O) O (JLh (I64 a.2) (Gk O O O) O (JLh (.ptr 1035 0) (Ja 1035 2 Y5 O O) O (J9 (u:=.junk) (Ho (u:=.agg [LS 1 (E1) a.1.Stacks,I64 a.1.Height]) (ds:=[LS 1 (E1) a.1.Stacks,I64 a.1.Height]) Rn O O O O O O O O) (JLm (I64 a.2) O (G6 (a6 ?_))))))))
    refine fzQ [(1,E1 order),(2,I64 left),(3,.dptr [LS 1 (E1) y.Stacks,I64 y.Height]),(9,E7 c),(11,.dptr [LS 1 (E1) a.1.Stacks,I64 a.1.Height]),(12,I64 a.2),(33,E7 y.Stacks.length),(34,E7 c),(39,E7 y.Stacks.length),(40,E7 b)] [] 1035 rfl rfl rfl ø rfl (Jr fun a8=>(JLm (I64 a.2) O (JLh (BL (decide (a.2=0))) (Qy O O O) O (JLm (BL (decide (a.2=0))) O (JLo (.agg [LS 1 (E1) a.1.Stacks,I64 a.1.Height]) [] O .sct ø (fun hc=>Gr H8 O O O) O (JLo (E1 order) [] O .sct ø (fun hc=>G2 O O) O (JLo (I64 left) [] O .sct ø (fun hc=>G2 O O) O ?_)))))))
    obtain⟨k,a9,h⟩:=Gd h
    refine JLo (I64 k) [56] O .sct ⟨Ua,ø⟩ (fun hc=>Zt (G52 (H3 hc a9)) O O O) O ?_
    obtain⟨l,b0,h⟩:=Gd h
    refine JLo (BL l) [54,55,57] O .sct ⟨Ua,Ua,Ua,ø⟩ (fun hc=>Gt (args:=[.agg [LS 1 (E1) a.1.Stacks,I64 a.1.Height],E1 order,I64 k]) O (self_w a.1 order k l (H3 hc b0)) H8d ⟨O,O,O,O,O,O,ø⟩) O (JLh (BL ((decide (a.2=0))&&l)) (R9 O O O O) O (G6 (a8 (JCc O h (fun h hb=>?_) (fun h hb=>?_)))))
    ·
     refine Jr fun b1=>(JLm (BL true) O (G6 (b1 (H0 (fin1 BL h)))))
    ·
     refine Gi (a4 (G1 (JLh (I64 ((b+1:Nat):Int)) (J0 (Hk j g) O O O) O (JLm (I64 ((b+1:Nat):Int)) O (G6 (c6 _ _ (b+1) () (app1 a3 h) (by omega) ⟨(.sm O O),ø,rfl⟩))))))
   ·
    have h:=app1 n (Hw i (Hb hb))
    refine Hd (v (G1 (JLh (I64 ((c+1:Nat):Int)) (J0 (Hk p g) O O O) O (JLm (I64 ((c+1:Nat):Int)) O (G6 (e9 _ _ (c+1) () (app1 c4 h) (by omega) ⟨(.sm O O),ø,rfl⟩))))))
  ·
   have h:=app1 q (Hw o (Hb hb))
   refine Hd (c0 (Jr fun b2=>(JLm (BL false) O (G6 (b2 (H0 (fin1 BL h)))))))
theorem G40:∀ (F:Nat) (y:Gm) (order:List Int) (left:Int) (r:Bool) (h:Qj F y order left=some r),Pure E8 18 [.agg [LS 1 (E1) y.Stacks,I64 y.Height],E1 order,I64 left] (·=BL r):=by
 intro F
 induction F with
 | zero=>intro y order left r h; cases h
 | succ F ih=>intro y order left r h; exact Gd3 (Qj F) ih F y order left r h

def Rg (F:Nat) (stacks:Int) (height:Int) (l:List Int) (o:List Int):Option Bool:=
 bnd (Qf F) fun t=>
 bif (!t) then
 (some false)
 else
 (jp (fun h=>
   bif decide (5 < (l.length:Int)) then
   (bnd (Rw 5 l.length) fun u=>
    h (l.take u))
   else
   (h l)) fun(v:(List Int))=>
  bnd (J93 stacks 4) fun r=>
  bnd (Jv r height v) fun d=>
  bnd (Q4 F d o 5) fun f=>
  bnd (J4 F d f) fun a=>
  bif decide (a.2≠0) then
  (bnd (bif decide (a.2=6) then Qj F d f 3 else some default) fun s=>
   some ((decide (a.2=6))&&(!s)))
  else
  (each (fun i j (e:(List (List Int))×Int) g=>
    bnd (Zn (Gm.mk e.1 e.2) i) fun b=>
    bnd (J4 F b.1 f) fun c=>
    bnd (bif (!((decide (b.2≠0))||(decide (c.2≠0)))) then chk ((j:Int)+1) some else some 0) fun k=>
    bnd (bif (!((decide (b.2≠0))||(decide (c.2≠0)))) then Rw k a.1.length else some 0) fun m=>
    bnd (bif (!((decide (b.2≠0))||(decide (c.2≠0)))) then Jk c.1 (a.1.drop m) else some default) fun n=>
    bif (((decide (b.2≠0))||(decide (c.2≠0)))||(!n)) then
    (some false)
    else
    (g (b.1.Stacks,b.1.Height)))
   (fun(e:(List (List Int))×Int)=>
    bnd (bif (!((decide ((a.1.length:Int)=0))||(decide (5 < (a.1.length:Int))))) then chk ((a.1.length:Int) - 1) some else some 0) fun p=>
    bnd (bif (!((decide ((a.1.length:Int)=0))||(decide (5 < (a.1.length:Int))))) then Qj F d f p else some default) fun q=>
    some (((decide ((a.1.length:Int)=0))||(decide (5 < (a.1.length:Int))))||(!q))) a.1 0 (d.Stacks,d.Height)))
theorem G80 (F:Nat) (stacks:Int) (height:Int) (l:List Int) (o:List Int) (r:Bool) (h:Rg F stacks height l o=some r):Pure E8 5 [U8 stacks,U8 height,E4 l,E4 o] (·=BL r):=by
 unfold Rg at h
 refine He [.tmp 8] Try.func5 O O (Jr fun e1=>(JLm (BL false) O (G6 (e1 (Js fun e2=>Jr fun e3=>?_)))))
 obtain⟨r4,e4,h⟩:=Gd h
 refine JLh (BL r4) (Gt O (G55 F r4 e4) J34 ø) O (JLh (BL (!r4)) (Yx (b:=r4) O O) O (G6 (e3 (JCc O h (fun h hb=>?_) (fun h hb=>?_)))))
 ·
  refine Jr fun e5=>(JLm (BL false) O (G6 (e5 (H0 (fin1 BL h)))))
 ·
  refine Gi (e2 ?_)
  obtain⟨e6,c3,h⟩:=G13 h
  refine Z5 (fun q:(List Int)=>e6 q=some r) (fun q=>[(0,U8 stacks),(1,U8 height),(2,E4 q),(3,E4 o)]) (fun q=>[]) (fun Kj6 ej6=>?_) ?_
  ·
   refine Jr fun e7=>(JLm (E4 l) O (JLl Gdd O O O fun f1=>(JLh (BL (decide (5 < (l.length:Int)))) (Yp O O O) O (G6 (e7 (JCc O h (fun h hb=>?_) (fun h hb=>?_)))))))
   ·
    refine G1 (JLm (E4 l) O ?_)
    obtain⟨m8,e8,h⟩:=Gd h
    refine JLh (E4 (l.take m8)) (G98 (f:=U8) (xs:=l) O O O Gdd (Hc e8)) O (JLm (E4 (l.take m8)) O (G6 (ej6 _ _ (l.take m8) h ⟨(.sm O O),ø,rfl⟩)))
   ·
    refine Gi (ej6 _ _ l h ⟨(.sm O O),ø,rfl⟩)
  ·intro q h
   replace h:=app1 c3 h
   refine Jr fun e9=>(JLm (U8 stacks) O ?_)
   obtain⟨c2,x,h⟩:=Gd h
   refine JLh (U8 c2) (Q1c (H60 x).1 (H60 x).2 O O O) O (JLm (U8 height) O (JLm (E4 q) O ?_))
   obtain⟨d,c5,h⟩:=Gd h
   refine JLh (.agg [LS 1 (E1) d.Stacks,I64 d.Height]) (Gt O (G70.down c2 height q d c5) J33 ⟨O,O,O,O,O,O,ø⟩) O (JLh (.ptr 1001 0) (Ja 1001 2 Y5 O O) O (J9 (u:=.junk) (Ho (u:=.agg [LS 1 (E1) d.Stacks,I64 d.Height]) (ds:=[LS 1 (E1) d.Stacks,I64 d.Height]) Rn O O O O O O O O) (G6 (e9 (H2 [(3,E4 o),(9,.dptr [LS 1 (E1) d.Stacks,I64 d.Height])] [] 1001 rfl rfl rfl ø rfl (by exact⟨.conv (.same rfl),.ptr,ø⟩) (Jr fun c6=>(JLh (.agg [LS 1 (E1) d.Stacks,I64 d.Height]) (Gr H8 O O O) O (JLm (E4 o) O ?_))))))))
   obtain⟨k,c7,h⟩:=Gd h
   refine JLh (E1 k) (Gt O (G41 F d o 5 k c7) J32 ⟨O,O,O,O,O,O,ø⟩) O (JLm (E1 k) O (G6 (c6 (Jr fun c8=>(JLh (.agg [LS 1 (E1) d.Stacks,I64 d.Height]) (Gr H8 O O O) O (JLm (E1 k) O ?_))))))
   obtain⟨a,c9,h⟩:=Gd h
   refine JLh (.tup [E2 a.1,I64 a.2]) (Gt O (Yh F d k a c9) G61 ⟨O,O,O,O,ø⟩) O (JLm (.tup [E2 a.1,I64 a.2]) O (JLh (E2 a.1) (Gk O O O) O (JLh (I64 a.2) (Gk O O O) O (JLm (E2 a.1) O (JLm (I64 a.2) O (G6 (c8 (Js fun d0=>Jr fun d1=>(JLm (I64 a.2) O (JLh (BL (decide (a.2≠0))) (Yi O O O) O (G6 (d1 (JCc O h (fun h hb=>?_) (fun h hb=>?_))))))))))))))
   ·
    refine Jr fun d2=>(JLm (I64 a.2) O (JLh (BL (decide (a.2=6))) (Qy O O O) O (JLm (BL (decide (a.2=6))) O (JLo (.agg [LS 1 (E1) d.Stacks,I64 d.Height]) [] O .sct ø (fun hc=>Gr H8 O O O) O (JLo (E1 k) [] O .sct ø (fun hc=>G2 O O) O ?_)))))
    obtain⟨p,d3,h⟩:=Gd h
    refine JLo (BL p) [46,47] O .sct ⟨Ua,Ua,ø⟩ (fun hc=>Gt (args:=[.agg [LS 1 (E1) d.Stacks,I64 d.Height],E1 k,I64 3]) O (G40 F d k 3 p (H3 hc d3)) H8d ⟨O,O,O,O,O,O,ø⟩) O (JLo (BL (!p)) [48] O .sct ⟨Ua,ø⟩ (fun hc=>Yx (b:=p) O O) O (JLh (BL ((decide (a.2=6))&&(!p))) (R9 O O O O) O (JLm (BL ((decide (a.2=6))&&(!p))) O (G6 (d2 (H0 (fin1 BL h)))))))
   ·
    refine Gi (d0 (Jr fun d4=>(JLh (.agg [LS 1 (E1) d.Stacks,I64 d.Height]) (Gr H8 O O O) O (JLh (.ptr 1002 0) (Ja 1002 2 Y5 O O) O (J9 (u:=.junk) (Ho (u:=.agg [LS 1 (E1) d.Stacks,I64 d.Height]) (ds:=[LS 1 (E1) d.Stacks,I64 d.Height]) Rn O O O O O O O O) (G6 (d4 (Js fun d5=>Jr fun d6=>(JLm (E2 a.1) O (JLl Hx O O O fun d7=>(JLm (I64 0) O (G6 (d6 (Gg ?_))))))))))))))
    obtain⟨d8,a1,a2,z,h⟩:=J6 h
    refine H9 (fun e (i:(List (List Int))×Int)=>each d8 a1 (List.drop e a.1) e i=some r) (fun e i=>[(9,.dptr [LS 1 (E1) d.Stacks,I64 d.Height]),(10,E1 k),(11,E2 a.1),(13,.ptr 1002 0),(52,E2 a.1),(53,E7 a.1.length),(54,E7 e)]) (fun e i=>[(1002,.box 24 [LS 1 (E1) i.1,I64 i.2])]) (fun e=>a.1.length - e) 0 (d.Stacks,d.Height) h ⟨(.sm O O),⟨fbQ O (.sm O O),ø⟩,rfl⟩ ?_
    clear h
    intro e i v f2 d9
    refine Jr fun a3=>(JLh (BL (decide ((e:Int) < (a.1.length:Int)))) (J1 O O O) O (G6 (a3 (Js fun a4=>Gh O (fun hb=>?_) (fun hb=>?_)))))
    ·
     have w:=Jj hb
     obtain⟨j,f0,a5,a6,h⟩:=Hv v w
     replace h:=Yr a2 h
     refine Gi (a4 (Js fun a7=>Gg (Jr fun a8=>(JLm (E7 e) O (JLh (.dptr [I64 j.From,I64 j.To]) (H1 (f:=G3.av) (xs:=a.1) (y:=j) O O O Hx a5 O) O (JLh (.agg [I64 j.From,I64 j.To]) (Gr G2a O O O) O (JLh (.ptr 1003 0) (Ja 1003 2 G35 O O) O (JLm (E7 e) O (J9 (u:=.junk) (Ho (u:=.agg [I64 j.From,I64 j.To]) (ds:=[I64 j.From,I64 j.To]) H08 O O O O O O O O) (G6 (a8 ?_)))))))))))
     refine fzQ [(9,.dptr [LS 1 (E1) d.Stacks,I64 d.Height]),(10,E1 k),(11,E2 a.1),(13,.ptr 1002 0),(14,E7 e),(15,.dptr [I64 j.From,I64 j.To]),(52,E2 a.1),(53,E7 a.1.length),(54,E7 e)] [(1002,.box 24 [LS 1 (E1) i.1,I64 i.2])] 1003 rfl rfl rfl ⟨⟨_,rfl,.boxEq rfl rfl⟩,ø⟩ rfl (Jr fun a9=>(JLh (.agg [LS 1 (E1) i.1,I64 i.2]) (Jf H8 O O O O) O (JLh (.agg [I64 j.From,I64 j.To]) (Gr G2a O O O) O ?_)))
     obtain⟨c,b0,h⟩:=Gd h
     refine JLh (.tup [.agg [LS 1 (E1) c.1.Stacks,I64 c.1.Height],I64 c.2]) (Gt O (Gce.down (Gm.mk i.1 i.2) j c b0) H8c ⟨O,O,O,O,ø⟩) O (JLm (.tup [.agg [LS 1 (E1) c.1.Stacks,I64 c.1.Height],I64 c.2]) O (JLh (.agg [LS 1 (E1) c.1.Stacks,I64 c.1.Height]) (Gk O O O) O (JLh (I64 c.2) (Gk O O O) O (JLh (.ptr 1004 0) (Ja 1004 2 Y5 O O) O (J9 (u:=.junk) (Ho (u:=.agg [LS 1 (E1) c.1.Stacks,I64 c.1.Height]) (ds:=[LS 1 (E1) c.1.Stacks,I64 c.1.Height]) Rn O O O O O O O O) (JLm (I64 c.2) O (G6 (a9 ?_))))))))
     refine fzQ [(9,.dptr [LS 1 (E1) d.Stacks,I64 d.Height]),(10,E1 k),(11,E2 a.1),(13,.ptr 1002 0),(14,E7 e),(16,.dptr [LS 1 (E1) c.1.Stacks,I64 c.1.Height]),(17,I64 c.2),(52,E2 a.1),(53,E7 a.1.length),(54,E7 e)] [(1002,.box 24 [LS 1 (E1) i.1,I64 i.2])] 1004 rfl rfl rfl ⟨⟨_,rfl,.boxEq rfl rfl⟩,ø⟩ rfl (Jr fun b1=>(JLh (.agg [LS 1 (E1) c.1.Stacks,I64 c.1.Height]) (Gr H8 O O O) O (JLm (E1 k) O ?_)))
     obtain⟨g,b2,h⟩:=Gd h
     refine JLh (.tup [E2 g.1,I64 g.2]) (Gt O (Yh F c.1 k g b2) G61 ⟨O,O,O,O,ø⟩) O (JLm (.tup [E2 g.1,I64 g.2]) O (JLh (E2 g.1) (Gk O O O) O (JLh (I64 g.2) (Gk O O O) O (JLm (E2 g.1) O (JLm (I64 g.2) O (G6 (b1 (Js fun b3=>?_))))))))
     refine Jr fun b4=>(JLm (I64 c.2) O (JLh (BL (decide (c.2≠0))) (Yi O O O) O (JLm (BL (decide (c.2≠0))) O (JLo (I64 g.2) [] O .scf ø (fun hc=>G2 O O) O (JLo (BL (decide (g.2≠0))) [74] O .scf ⟨Ua,ø⟩ (fun hc=>Yi O O O) O (JLh (BL ((decide (c.2≠0))||(decide (g.2≠0)))) (Yn O O O O) O (JLm (BL ((decide (c.2≠0))||(decide (g.2≠0)))) O (JLo (E2 g.1) [] O .scf ø (fun hc=>G2 O O) O (JLo (E2 a.1) [] O .scf ø (fun hc=>G2 O O) O (JLo (E7 e) [] O .scf ø (fun hc=>G2 O O) O ?_))))))))))
     obtain⟨e0,b5,h⟩:=Gd h
     refine JLo (I64 e0) [80] O .scf ⟨Ua,ø⟩ (fun hc=>J0 (G52 (H3 hc b5)) O O O) O ?_
     obtain⟨s,b6,h⟩:=Gd h
     refine JLo (E2 (a.1.drop s)) [79,81] O .scf ⟨Ua,Ua,ø⟩ (fun hc=>H27 (f:=G3.av) (xs:=a.1) O O O Hx (Hc (H3 hc b6))) O ?_
     obtain⟨n,b7,h⟩:=Gd h
     refine JLo (BL n) [78,82] O .scf ⟨Ua,Ua,ø⟩ (fun hc=>Gt (args:=[E2 g.1,E2 (a.1.drop s)]) O (Qp g.1 (a.1.drop s) n (H3 hc b7)) G60 ⟨O,O,O,O,ø⟩) O (JLo (BL (!n)) [83] O .scf ⟨Ua,ø⟩ (fun hc=>Yx (b:=n) O O) O (JLh (BL (((decide (c.2≠0))||(decide (g.2≠0)))||(!n))) (Yn O O O O) O (G6 (b4 (JCc O h (fun h hb=>?_) (fun h hb=>?_))))))
     ·
      refine Jr fun b8=>(JLm (BL false) O (G6 (b8 (H2 [(8,BL false)] [] 1002 rfl rfl rfl ø rfl (by exact⟨.conv (.same rfl),ø⟩) (H0 (fin1 BL h))))))
     ·
      refine Gi (b3 (G1 (JLh (.agg [LS 1 (E1) c.1.Stacks,I64 c.1.Height]) (Gr H8 O O O) O (J9 (u:=.junk) (Ho (u:=.agg [LS 1 (E1) c.1.Stacks,I64 c.1.Height]) (ds:=[LS 1 (E1) c.1.Stacks,I64 c.1.Height]) Rn O O O O O O O O) (G6 (a7 (G1 (JLh (I64 ((e+1:Nat):Int)) (J0 (Hk w d7) O O O) O (JLm (I64 ((e+1:Nat):Int)) O (G6 (d9 _ _ (e+1) (c.1.Stacks,c.1.Height) (app1 a6 h) (by omega) ⟨(.sm O O),⟨fbQ O (.sm O O),ø⟩,rfl⟩)))))))))))
    ·
     have h:=app1 z (Hw v (Hb hb))
     refine Hd (d5 ?_)
     refine Jr fun b9=>(JLm (E2 a.1) O (JLl Hx O O O fun f3=>(JLh (BL (decide ((a.1.length:Int)=0))) (Qy O O O) O (JLm (BL (decide ((a.1.length:Int)=0))) O (JLo (E2 a.1) [] O .scf ø (fun hc=>G2 O O) O (JLo (E7 a.1.length) [92] O .scf ⟨Ua,ø⟩ (fun hc=>Jx (f:=G3.av) (xs:=a.1) Hx O O) O (JLo (BL (decide (5 < (a.1.length:Int)))) [93] O .scf ⟨Ua,ø⟩ (fun hc=>Yp O O O) O (JLh (BL ((decide ((a.1.length:Int)=0))||(decide (5 < (a.1.length:Int))))) (Yn O O O O) O (JLm (BL ((decide ((a.1.length:Int)=0))||(decide (5 < (a.1.length:Int))))) O (JLo (.agg [LS 1 (E1) d.Stacks,I64 d.Height]) [] O .scf ø (fun hc=>Gr H8 O O O) O (JLo (E1 k) [] O .scf ø (fun hc=>G2 O O) O (JLo (E2 a.1) [] O .scf ø (fun hc=>G2 O O) O (JLo (E7 a.1.length) [99] O .scf ⟨Ua,ø⟩ (fun hc=>Jx (f:=G3.av) (xs:=a.1) Hx O O) O ?_)))))))))))))
     obtain⟨t,c0,h⟩:=Gd h
     refine JLo (I64 t) [100] O .scf ⟨Ua,ø⟩ (fun hc=>Zt (G52 (H3 hc c0)) O O O) O ?_
     obtain⟨m,c1,h⟩:=Gd h
     refine JLo (BL m) [97,98,101] O .scf ⟨Ua,Ua,Ua,ø⟩ (fun hc=>Gt (args:=[.agg [LS 1 (E1) d.Stacks,I64 d.Height],E1 k,I64 t]) O (G40 F d k t m (H3 hc c1)) H8d ⟨O,O,O,O,O,O,ø⟩) O (JLo (BL (!m)) [102] O .scf ⟨Ua,ø⟩ (fun hc=>Yx (b:=m) O O) O (JLh (BL (((decide ((a.1.length:Int)=0))||(decide (5 < (a.1.length:Int))))||(!m))) (Yn O O O O) O (JLm (BL (((decide ((a.1.length:Int)=0))||(decide (5 < (a.1.length:Int))))||(!m))) O (G6 (b9 (H2 [(8,BL (((decide ((a.1.length:Int)=0))||(decide (5 < (a.1.length:Int))))||(!m)))] [] 1002 rfl rfl rfl ø rfl (by exact⟨.conv (.same rfl),ø⟩) (H0 (fin1 BL h))))))))
end
end Go.Proofs.Ytokjlondbjdlfaa
