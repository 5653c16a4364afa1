/- Walks of functions. -/
import Derived.Test.YtokjlondbjdlfaaXEa
set_option maxRecDepth 100000
set_option maxHeartbeats 1000000
set_option linter.unusedVariables false
set_option linter.unusedSimpArgs false
namespace Go.Proofs.Ytokjlondbjdlfaa
open Go.RowKit
noncomputable section
open XAF
open XBF
open XCF
open XDF
open XEF

def Qf (F:Nat) (y:Gz) (order:List Int) (from_:Int) (box:Int):Option Int:=
 chk ((y.Stacks.length:Int) - 1) fun l=>
 loop (fun f (a:Int×Int)=>
  bif decide (0≤a.2) then
  (jp (fun d=>
    Qu y.Stacks a.2 fun g=>
    bnd (Rk g order) fun b=>
    bnd (bif decide (a.2≠from_) then Qu y.Stacks a.2 some else some default) fun c=>
    bnd (bif ((decide (a.2≠from_))&&(decide ((c.length:Int) < y.Height))) then Jf order box else some default) fun e=>
    bnd (bif ((((decide (a.2≠from_))&&(decide ((c.length:Int) < y.Height)))&&(decide (e≤b)))&&!(decide (a.1 < 0))) then Qu y.Stacks a.1 some else some default) fun h=>
    bnd (bif ((((decide (a.2≠from_))&&(decide ((c.length:Int) < y.Height)))&&(decide (e≤b)))&&!(decide (a.1 < 0))) then Rk h order else some default) fun i=>
    bif ((((decide (a.2≠from_))&&(decide ((c.length:Int) < y.Height)))&&(decide (e≤b)))&&((decide (a.1 < 0))||(decide (b≤i)))) then
    (d a.2)
    else
    (d a.1)) fun(j:Int)=>
   chk (a.2 - 1) fun k=>
   f (j,k))
  else
  (some a.1)) F ((-1),l)
def Rz (F:Nat) (y:Gz) (order:List Int):Option (G9×Bool):=
 bnd (J2 F y order) fun k=>
 each (fun c l (a:Int×Int×Int) h=>
  jp (fun d=>
   bnd (Y0 F y c) fun b=>
   Qu y.Stacks b.1 fun i=>
   chk ((i.length:Int) - 1) fun f=>
   bnd (bif ((!(decide (b.2.1≠f)))&&(decide (0 < a.1))) then Ye order c a.1 else some default) fun j=>
   bif ((decide (b.2.1≠f))||((decide (0 < a.1))&&(!j))) then
   (d (a.1,a.2.1,a.2.2))
   else
   (bnd (Qf F y order b.1 c) fun g=>
    bif decide (0≤g) then
    (d (c,b.1,g))
    else
    (d (a.1,a.2.1,a.2.2)))) fun(e:Int×Int×Int)=>
  h (e.1,e.2.1,e.2.2))
 (fun(a:Int×Int×Int)=>
  some ((G9.mk a.2.1 a.2.2),decide (0 < a.1))) k 0 (0,0,0)
def Hx (F:Nat) (y:Gz) (order:List Int):Option ((List G9)×Int):=
 bnd (Qg F y order) fun f=>
 bif (!f) then
 (some ([],2))
 else
 (loop (fun d (a:(List G9)×(List (List Int))×Int)=>
   bnd (J2 F (Gz.mk a.2.1 a.2.2) order) fun e=>
   bif decide (0 < (e.length:Int)) then
   (bnd (Rz F (Gz.mk a.2.1 a.2.2) order) fun b=>
    bif (!b.2) then
    (some ([],360))
    else
    (need (decide ((a.1.length+[b.1].length)*16≤140737488355328∧a.1.length+[b.1].length≤maxLen)) <|
     bnd (Q5 F (Gz.mk a.2.1 a.2.2) b.1) fun c=>
     d ((a.1++[b.1]),c.1.Stacks,c.1.Height)))
   else
   (some (a.1,0))) F ([],y.Stacks,y.Height))
end
end Go.Proofs.Ytokjlondbjdlfaa
