/- Walks of functions. -/
import Derived.Test.YtokjlondbjdlfaaXD
set_option maxRecDepth 100000
set_option maxHeartbeats 1000000
set_option linter.unusedVariables false
set_option linter.unusedSimpArgs false
namespace Go.Proofs.Ytokjlondbjdlfaa
open Go.RowKit
noncomputable section
structure Gz where
 Stacks:List (List Int)
 Height:Int
 deriving DecidableEq,Inhabited
def Gz.cs (x:Gz):List AV:=[LS 1 (E1) x.Stacks,I64 x.Height]
structure G9 where
 From:Int
 To:Int
 deriving DecidableEq,Inhabited
def G9.cs (x:G9):List AV:=[I64 x.From,I64 x.To]
structure Ge where
 y:Gz
 from_:Int
 by_:G9
 deriving DecidableEq,Inhabited
def Ge.cs (x:Ge):List AV:=[LS 1 (E1) x.y.Stacks,I64 x.y.Height,I64 x.from_,I64 x.by_.From,I64 x.by_.To]
structure Qt where
 Stacks:Ln (Ln Int)
 Height:Int
 deriving Inhabited
def Qt.cs (x:Qt):List AV:=[LT 1 (LT 1 I64) x.Stacks,I64 x.Height]
def Qt.pl (x:Qt):Gs:=⟨(fun e=>e.1.map Prod.fst) x.Stacks,x.Height⟩
def Qt.of (x:Gs):Qt:=⟨(fun e=>(e.map (fun e=>(e,[])),[])) x.Stacks,x.Height⟩
namespace XEF
open XAF
open XBF
open XCF
open XDF
end XEF
open XAF
open XBF
open XCF
open XDF
open XEF

def Rn (y:Gz):Option (List Int):=
 each (fun b d (a:(List Int)) c=>
  need (decide ((a.length+b.length)*8≤140737488355328∧a.length+b.length≤maxLen)) <|
  c (a++b))
 (fun(a:(List Int))=>
  some a) y.Stacks 0 []
def R0 (F:Nat) (y:Gz):Option Bool:=
 bif ((((decide (y.Height < 1))||(decide (6 < y.Height)))||(decide ((y.Stacks.length:Int)=0)))||(decide (30 < (y.Stacks.length:Int)))) then
 (some false)
 else
 (each (fun g m (h:Unit) d=>
   bif decide (y.Height < (g.length:Int)) then
   (some false)
   else
   (d ()))
  (fun(h:Unit)=>
   bnd (Rn y) fun b=>
   each (fun a c (i:Unit) e=>
    bif ((decide (a < 1))||(decide (999999 < a))) then
    (some false)
    else
    (need (decide ((c:Int)≤9223372036854775807)) <|
     upto (fun j (k:Unit) f=>
      Qu b (j:Int) fun l=>
      bif decide (l=a) then
      (some false)
      else
      (f ()))
     (fun(k:Unit)=>
      e ()) (c:Int).toNat 0 ()))
   (fun(i:Unit)=>
    some true) b 0 ()) y.Stacks 0 ())
def Y0 (F:Nat) (y:Gz) (box:Int):Option (Int×Int×Bool):=
 each (fun f g (h:Unit) b=>
  each (fun c d (e:Unit) a=>
   bif decide (c=box) then
   (some ((g:Int),(d:Int),true))
   else
   (a ()))
  (fun(e:Unit)=>
   b ()) f 0 ())
 (fun(h:Unit)=>
  some (0,0,false)) y.Stacks 0 ()
def Jf (order:List Int) (box:Int):Option Int:=
 each (fun b c (d:Unit) a=>
  bif decide (b=box) then
  (some (c:Int))
  else
  (a ()))
 (fun(d:Unit)=>
  some (order.length:Int)) order 0 ()
def Qg (F:Nat) (y:Gz) (order:List Int):Option Bool:=
 bnd (R0 F y) fun g=>
 bif (!g) then
 (some false)
 else
 (each (fun a d (e:Unit) c=>
   bnd (Y0 F y a) fun b=>
   bnd (bif (!(!b.2.2)) then Jf order a else some default) fun f=>
   bif ((!b.2.2)||(decide (f≠(d:Int)))) then
   (some false)
   else
   (c ()))
  (fun(e:Unit)=>
   some true) order 0 ())
def R6 (y:Gz) (stack:Int) (boxes:List Int):Option Gz:=
 each (fun b e (a:(List (List Int))×Int) d=>
  jp (fun c=>
   bif decide ((e:Int)=stack) then
   (need (decide ((([]:List Int).length+boxes.length)*8≤140737488355328∧([]:List Int).length+boxes.length≤maxLen)) <|
    need (decide ((a.1.length+[(([]:List Int)++boxes)].length)*24≤140737488355328∧a.1.length+[(([]:List Int)++boxes)].length≤maxLen)) <|
    c (a.1++[(([]:List Int)++boxes)]))
   else
   (need (decide ((([]:List Int).length+b.length)*8≤140737488355328∧([]:List Int).length+b.length≤maxLen)) <|
    need (decide ((a.1.length+[(([]:List Int)++b)].length)*24≤140737488355328∧a.1.length+[(([]:List Int)++b)].length≤maxLen)) <|
    c (a.1++[(([]:List Int)++b)]))) fun(f:(List (List Int)))=>
  d (f,a.2))
 (fun(a:(List (List Int))×Int)=>
  some (Gz.mk a.1 a.2)) y.Stacks 0 ([],y.Height)
def Q5 (F:Nat) (y:Gz) (m:G9):Option (Gz×Int):=
 bnd (R0 F y) fun i=>
 bif (!i) then
 (some ((Gz.mk [] 0),2))
 else
 (bif ((((decide (m.From < 0))||(decide (m.To < 0)))||(decide ((y.Stacks.length:Int)≤m.From)))||(decide ((y.Stacks.length:Int)≤m.To))) then
  (some ((Gz.mk [] 0),6))
  else
  (bif decide (m.From=m.To) then
   (some ((Gz.mk [] 0),340))
   else
   (Qu y.Stacks m.From fun a=>
    Qu y.Stacks m.To fun b=>
    bif decide ((a.length:Int)=0) then
    (some ((Gz.mk [] 0),341))
    else
    (bif decide (y.Height≤(b.length:Int)) then
     (some ((Gz.mk [] 0),4))
     else
     (need (decide ((([]:List Int).length+b.length)*8≤140737488355328∧([]:List Int).length+b.length≤maxLen)) <|
      chk ((a.length:Int) - 1) fun d=>
      Qu a d fun c=>
      need (decide (((([]:List Int)++b).length+[c].length)*8≤140737488355328∧(([]:List Int)++b).length+[c].length≤maxLen)) <|
      bnd (R6 y m.To ((([]:List Int)++b)++[c])) fun e=>
      chk ((a.length:Int) - 1) fun f=>
      bnd (Y5 f a.length) fun g=>
      bnd (R6 e m.From (a.take g)) fun h=>
      some (h,0))))))
def J2 (F:Nat) (y:Gz) (order:List Int):Option (List Int):=
 each (fun i p (f:(List Int)) j=>
  each (fun c e (a:(List Int)) g=>
   jp (fun d=>
    need (decide ((e:Int)≤9223372036854775807)) <|
    upto (fun k (b:Bool) h=>
     bnd (bif (!b) then Qu i (k:Int) some else some default) fun l=>
     bnd (bif (!b) then Jf order l else some default) fun m=>
     bnd (bif (!b) then Jf order c else some default) fun n=>
     h (b||(decide (m < n))))
    (fun(b:Bool)=>
     bif b then
     (need (decide ((a.length+[c].length)*8≤140737488355328∧a.length+[c].length≤maxLen)) <|
      d (a++[c]))
     else
     (d a)) (e:Int).toNat 0 false) fun(o:(List Int))=>
   g o)
  (fun(a:(List Int))=>
   j a) i 0 f)
 (fun(f:(List Int))=>
  some f) y.Stacks 0 []
def Ye (order:List Int) (a:Int) (b:Int):Option Bool:=
 bnd (Jf order a) fun c=>
 bnd (Jf order b) fun d=>
 some ((decide (d < c))||((decide (c=d))&&(decide (a < b))))
def Rk (s:List Int) (order:List Int):Option Int:=
 chk ((order.length:Int)+1) fun h=>
 each (fun c i (a:Int) d=>
  jp (fun b=>
   bnd (Jf order c) fun e=>
   bif decide (e < a) then
   (bnd (Jf order c) fun f=>
    b f)
   else
   (b a)) fun(g:Int)=>
  d g)
 (fun(a:Int)=>
  some a) s 0 h
end
end Go.Proofs.Ytokjlondbjdlfaa
