/- Walks of functions. -/
import Derived.Test.YtokjlondbjdlfaaXD
set_option maxRecDepth 100000
set_option maxHeartbeats 1000000
set_option linter.unusedVariables false
set_option linter.unusedSimpArgs false
namespace Go.Proofs.Ytokjlondbjdlfaa
open Go.RowKit
noncomputable section
structure Gw where
 Stacks:List (List Int)
 Height:Int
 deriving DecidableEq,Inhabited
def Gw.cs (x:Gw):List AV:=[LS 1 (E1) x.Stacks,I64 x.Height]
structure G8 where
 From:Int
 To:Int
 deriving DecidableEq,Inhabited
def G8.cs (x:G8):List AV:=[I64 x.From,I64 x.To]
structure Gb where
 y:Gw
 from_:Int
 by_:G8
 deriving DecidableEq,Inhabited
def Gb.cs (x:Gb):List AV:=[LS 1 (E1) x.y.Stacks,I64 x.y.Height,I64 x.from_,I64 x.by_.From,I64 x.by_.To]
structure Qo where
 Stacks:Ln (Ln Int)
 Height:Int
 deriving Inhabited
def Qo.cs (x:Qo):List AV:=[LT 1 (LT 1 I64) x.Stacks,I64 x.Height]
def Qo.pl (x:Qo):Gm:=⟨(fun e=>e.1.map Prod.fst) x.Stacks,x.Height⟩
def Qo.of (x:Gm):Qo:=⟨(fun e=>(e.map (fun e=>(e,[])),[])) x.Stacks,x.Height⟩
namespace XEF
open XAF
open XBF
open XCF
open XDF
end XEF
open XAF
open XBF
open XCF
open XDF
open XEF

def Rf (y:Gw):Option (List Int):=
 each (fun b d (a:(List Int)) c=>
  need (decide ((a.length+b.length)*8≤140737488355328∧a.length+b.length≤maxLen)) <|
  c (a++b))
 (fun(a:(List Int))=>
  some a) y.Stacks 0 []
def Qx (F:Nat) (y:Gw):Option Bool:=
 bif ((((decide (y.Height < 1))||(decide (6 < y.Height)))||(decide ((y.Stacks.length:Int)=0)))||(decide (30 < (y.Stacks.length:Int)))) then
 (some false)
 else
 (each (fun g m (h:Unit) d=>
   bif decide (y.Height < (g.length:Int)) then
   (some false)
   else
   (d ()))
  (fun(h:Unit)=>
   bnd (Rf y) fun b=>
   each (fun a c (i:Unit) e=>
    bif ((decide (a < 1))||(decide (999999 < a))) then
    (some false)
    else
    (need (decide ((c:Int)≤9223372036854775807)) <|
     upto (fun j (k:Unit) f=>
      R5 b (j:Int) fun l=>
      bif decide (l=a) then
      (some false)
      else
      (f ()))
     (fun(k:Unit)=>
      e ()) (c:Int).toNat 0 ()))
   (fun(i:Unit)=>
    some true) b 0 ()) y.Stacks 0 ())
def Rs (F:Nat) (y:Gw) (box:Int):Option (Int×Int×Bool):=
 each (fun f g (h:Unit) b=>
  each (fun c d (e:Unit) a=>
   bif decide (c=box) then
   (some ((g:Int),(d:Int),true))
   else
   (a ()))
  (fun(e:Unit)=>
   b ()) f 0 ())
 (fun(h:Unit)=>
  some (0,0,false)) y.Stacks 0 ()
def Je (order:List Int) (box:Int):Option Int:=
 each (fun b c (d:Unit) a=>
  bif decide (b=box) then
  (some (c:Int))
  else
  (a ()))
 (fun(d:Unit)=>
  some (order.length:Int)) order 0 ()
def Qe (F:Nat) (y:Gw) (order:List Int):Option Bool:=
 bnd (Qx F y) fun g=>
 bif (!g) then
 (some false)
 else
 (each (fun a d (e:Unit) c=>
   bnd (Rs F y a) fun b=>
   bnd (bif (!(!b.2.2)) then Je order a else some default) fun f=>
   bif ((!b.2.2)||(decide (f≠(d:Int)))) then
   (some false)
   else
   (c ()))
  (fun(e:Unit)=>
   some true) order 0 ())
def R3 (y:Gw) (stack:Int) (boxes:List Int):Option Gw:=
 each (fun b e (a:(List (List Int))×Int) d=>
  jp (fun c=>
   bif decide ((e:Int)=stack) then
   (need (decide ((([]:List Int).length+boxes.length)*8≤140737488355328∧([]:List Int).length+boxes.length≤maxLen)) <|
    need (decide ((a.1.length+[(([]:List Int)++boxes)].length)*24≤140737488355328∧a.1.length+[(([]:List Int)++boxes)].length≤maxLen)) <|
    c (a.1++[(([]:List Int)++boxes)]))
   else
   (need (decide ((([]:List Int).length+b.length)*8≤140737488355328∧([]:List Int).length+b.length≤maxLen)) <|
    need (decide ((a.1.length+[(([]:List Int)++b)].length)*24≤140737488355328∧a.1.length+[(([]:List Int)++b)].length≤maxLen)) <|
    c (a.1++[(([]:List Int)++b)]))) fun(f:(List (List Int)))=>
  d (f,a.2))
 (fun(a:(List (List Int))×Int)=>
  some (Gw.mk a.1 a.2)) y.Stacks 0 ([],y.Height)
def Q2 (F:Nat) (y:Gw) (m:G8):Option (Gw×Int):=
 bnd (Qx F y) fun i=>
 bif (!i) then
 (some ((Gw.mk [] 0),2))
 else
 (bif ((((decide (m.From < 0))||(decide (m.To < 0)))||(decide ((y.Stacks.length:Int)≤m.From)))||(decide ((y.Stacks.length:Int)≤m.To))) then
  (some ((Gw.mk [] 0),6))
  else
  (bif decide (m.From=m.To) then
   (some ((Gw.mk [] 0),340))
   else
   (R5 y.Stacks m.From fun a=>
    R5 y.Stacks m.To fun b=>
    bif decide ((a.length:Int)=0) then
    (some ((Gw.mk [] 0),341))
    else
    (bif decide (y.Height≤(b.length:Int)) then
     (some ((Gw.mk [] 0),4))
     else
     (need (decide ((([]:List Int).length+b.length)*8≤140737488355328∧([]:List Int).length+b.length≤maxLen)) <|
      chk ((a.length:Int) - 1) fun d=>
      R5 a d fun c=>
      need (decide (((([]:List Int)++b).length+[c].length)*8≤140737488355328∧(([]:List Int)++b).length+[c].length≤maxLen)) <|
      bnd (R3 y m.To ((([]:List Int)++b)++[c])) fun e=>
      chk ((a.length:Int) - 1) fun f=>
      bnd (Rw f a.length) fun g=>
      bnd (R3 e m.From (a.take g)) fun h=>
      some (h,0))))))
def J3 (F:Nat) (y:Gw) (order:List Int):Option (List Int):=
 each (fun i p (f:(List Int)) j=>
  each (fun c e (a:(List Int)) g=>
   jp (fun d=>
    need (decide ((e:Int)≤9223372036854775807)) <|
    upto (fun k (b:Bool) h=>
     bnd (bif (!b) then R5 i (k:Int) some else some default) fun l=>
     bnd (bif (!b) then Je order l else some default) fun m=>
     bnd (bif (!b) then Je order c else some default) fun n=>
     h (b||(decide (m < n))))
    (fun(b:Bool)=>
     bif b then
     (need (decide ((a.length+[c].length)*8≤140737488355328∧a.length+[c].length≤maxLen)) <|
      d (a++[c]))
     else
     (d a)) (e:Int).toNat 0 false) fun(o:(List Int))=>
   g o)
  (fun(a:(List Int))=>
   j a) i 0 f)
 (fun(f:(List Int))=>
  some f) y.Stacks 0 []
def Yv (F:Nat) (a:Gw) (b:Gw):Option Bool:=
 each (fun d e (m:Unit) f=>
  R5 b.Stacks (e:Int) fun g=>
  bif decide ((d.length:Int)≠(g.length:Int)) then
  (some false)
  else
  (each (fun h i (j:Unit) c=>
    R5 b.Stacks (e:Int) fun k=>
    R5 k (i:Int) fun l=>
    bif decide (h≠l) then
    (some false)
    else
    (c ()))
   (fun(j:Unit)=>
    f ()) d 0 ()))
 (fun(m:Unit)=>
  some true) a.Stacks 0 ()
def Re (F:Nat) (all:List Gb) (at_:Int):Option (List Gb):=
 R5 all at_ fun g=>
 each (fun q f (h:(List Gb)) k=>
  each (fun p d (a:(List Gb)) i=>
   jp (fun e=>
    bnd (Q2 F g.y (G8.mk (f:Int) (d:Int))) fun b=>
    loop (fun j (c:Bool×Int)=>
     bif ((decide (c.2 < (a.length:Int)))&&(!c.1)) then
     (R5 a c.2 fun l=>
      bnd (Yv F l.y b.1) fun m=>
      chk (c.2+1) fun n=>
      j (m,n))
     else
     (bif (!c.1) then
      (need (decide ((a.length+[(Gb.mk b.1 at_ (G8.mk (f:Int) (d:Int)))].length)*56≤140737488355328∧a.length+[(Gb.mk b.1 at_ (G8.mk (f:Int) (d:Int)))].length≤maxLen)) <|
       e (a++[(Gb.mk b.1 at_ (G8.mk (f:Int) (d:Int)))]))
      else
      (e a))) F (decide (b.2≠0),0)) fun(o:(List Gb))=>
   i o)
  (fun(a:(List Gb))=>
   k a) g.y.Stacks 0 h)
 (fun(h:(List Gb))=>
  some h) g.y.Stacks 0 all
def Qw (F:Nat) (y:Gw) (order:List Int):Option ((List G8)×Int):=
 bnd (Qe F y order) fun k=>
 bif (!k) then
 (some ([],2))
 else
 (bnd (Rf y) fun l=>
  bif ((decide (5 < (l.length:Int)))||(decide (4 < (y.Stacks.length:Int)))) then
  (some ([],5))
  else
  (loop (fun d (a:Int×(List Gb))=>
    bif decide (a.1 < (a.2.length:Int)) then
    (R5 a.2 a.1 fun f=>
     bnd (J3 F f.y order) fun g=>
     bif decide (0 < (g.length:Int)) then
     (bnd (Re F a.2 a.1) fun h=>
      chk (a.1+1) fun i=>
      d (i,h))
     else
     (loop (fun e (b:(List G8)×Int)=>
       bif decide (0 < b.2) then
       (R5 a.2 b.2 fun c=>
        need (decide (([c.by_].length+b.1.length)*16≤140737488355328∧[c.by_].length+b.1.length≤maxLen)) <|
        R5 a.2 b.2 fun j=>
        e (([c.by_]++b.1),j.from_))
       else
       (some (b.1,0))) F ([],a.1)))
    else
    (some ([],6))) F (0,[(Gb.mk y (-1) (G8.mk 0 0))])))
def Ye (order:List Int) (a:Int) (b:Int):Option Bool:=
 bnd (Je order a) fun c=>
 bnd (Je order b) fun d=>
 some ((decide (d < c))||((decide (c=d))&&(decide (a < b))))
def Rc (s:List Int) (order:List Int):Option Int:=
 chk ((order.length:Int)+1) fun h=>
 each (fun c i (a:Int) d=>
  jp (fun b=>
   bnd (Je order c) fun e=>
   bif decide (e < a) then
   (bnd (Je order c) fun f=>
    b f)
   else
   (b a)) fun(g:Int)=>
  d g)
 (fun(a:Int)=>
  some a) s 0 h
end
end Go.Proofs.Ytokjlondbjdlfaa
