/- The ways to pile AA up,as a list. -/
import Derived.Test.YtibhpogonkdiaaaGreatXF
set_option maxRecDepth 100000
namespace Go.Proofs.YtibhpogonkdiaaaGreat
open Go.RowKit

variable {α:Type} {l r:List α}
theorem G72 {β:Type} {o:List β} {i:Int} {m:β->Option Unit} {g:β->Option (List α)} (h:∀ v,kL r l (m v) (g v)):kL r l (Jy o i m) (Jy o i g):=by
 unfold Jy;cases decide (0<=i) with
 | false=>intro e; cases e
 | true=>exact nN h
theorem Q08 {z:Int} {m:Int->Option Unit} {g:Int->Option (List α)} (h:∀ v,kL r l (m v) (g v)):kL r l (chk z m) (chk z g):=by
 unfold chk;cases G64 z with
 | false=>intro e; cases e
 | true=>exact h z
theorem J49 {c:Bool} {m m':Option Unit} {g g':Option (List α)} (h1:kL r l m g) (h2:kL r l m' g'):kL r l (bif c then m else m') (bif c then g else g'):=by
 grind
theorem Q4b {m:(Nat->Option Unit)->Option Unit} {m':(List α->Option (List α))->Option (List α)} {k:Nat->Option Unit} {k':List α->Option (List α)}
  (hm:∀ K K',(∀ l',kL r l' (K l'.length) (K' l'))->kL r l (m K) (m' K')) (hk:∀ l',kL r l' (k l'.length) (k' l')):kL r l (jp m k) (jp m' k'):=hm k k' hk

def dU (self_:AD->Gc->AD->Option (List AE)) (p1:AD) (p2:Gc) (p3:AD):Option (List AE):=
 bif decide ((p1.length:Int)=0) then some [[]]
 else
 (each (fun y7 i7 (s7:List AE) nx7=>
   jp (fun kj10=>
    bnd (eI ((i7+1:Nat):Int) p3.length) fun m14=>
    bnd (Rw (p3.drop m14) (fun z0=>bT z0)) fun r15=>
    bnd (bif (!r15) then Jy p3 (i7:Int) some else some default) fun y16=>
    bif (r15||(decide (y7.Tiers<=y16))) then
    (kj10 s7)
    else
    (each (fun y68 i68 (s68:List AE) nx68=>
      Jy p3 (i7:Int) fun y74=>
      bnd (Rg p3) fun r77=>
      Jy r77 (i7:Int) fun y80=>
      chk (y80+1) fun v81=>
      Jy r77 (i7:Int) fun _=>
      bnd (Rg p1) fun r84=>
      bnd (bS r84 (i68:Int) ((i68+1:Nat):Int)) fun r86=>
      bnd (fW p2 (r77.set (i7:Int).toNat v81) r86) fun _=>
      bnd (self_ r86 p2 (r77.set (i7:Int).toNat v81)) fun ys88=>
      each (fun y88 _ (s88:List AE) nx88=>
       need (decide (([(G1.mk y68 (Slot.mk (i7:Int) y74 0))].length+y88.length)*32<=140737488355328∧[(G1.mk y68 (Slot.mk (i7:Int) y74 0))].length+y88.length<=maxLen)) <|
       nx88 (s88++[[(G1.mk y68 (Slot.mk (i7:Int) y74 0))]++y88]))
      (fun(s88:List AE)=>
       nx68 s88) ys88 0 s68)
     (fun(s68:List AE)=>
      kj10 s68) p1 0 s7)) fun(j10:List AE)=>
   nx7 j10)
  (fun(s7:List AE)=>some s7) p2.AB 0 [])
def dO:Nat->AD->Gc->AD->Option (List AE)
 | 0,_,_,_=>none
 | F+1,p1,p2,p3=>dU (dO F) p1 p2 p3
theorem H85 (self_:AD->Gc->AD->Option (List AE)) (F:Nat) (p1:AD) (p2:Gc) (p3:AD) (r:List AE) (h:dU self_ p1 p2 p3=some r):dV self_ F p1 p2 p3 r=some ():=by
 refine H1d ?_ h;unfold dV dU;refine J49 ?_ ?_
 ·intro e;cases e;exact⟨List.nil_prefix,rfl⟩
 refine wY (fun y7 i7 s7 nx nx' h2=>?_) (fun s=>H1e) _ 0 [];refine Q4b (fun K K' hK=>?_) (fun s=>h2 s);refine nN (fun m14=>nN fun r15=>nN fun y16=>J49 (hK _) ?_);refine wY (fun y68 i68 s68 nx2 nx2' h0=>?_) (fun s=>hK _) _ 0 _;refine G72 fun y74=>nN fun r77=>G72 fun y80=>Q08 fun v81=>G72 fun y82=>nN fun r84=>nN fun r86=>nN fun r87=>nN fun ys88=>?_;refine wY (fun y88 i88 s88 nx3 nx3' h1=>?_) (fun s=>h0 _) _ 0 _;refine H8b ?_;refine RL ?_;grind
def yU:=PLift.up (yX dO (fun _ _ _=>rfl) (fun F p1 p2 p3 r h=>H85 _ F p1 p2 p3 r h))
end Go.Proofs.YtibhpogonkdiaaaGreat
