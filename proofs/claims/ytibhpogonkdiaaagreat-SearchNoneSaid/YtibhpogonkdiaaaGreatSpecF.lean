/- The ways to pile boxes up,aQ a list. -/
import Derived.Test.YtibhpogonkdiaaaGreatXF
set_option linter.unusedVariables false
set_option linter.unusedSimpArgs false
set_option linter.unnecessarySimpa false
set_option maxRecDepth 100000
namespace Go.Proofs.YtibhpogonkdiaaaGreat
open Go.RowKit

theorem Jd8 {α β:Type} {r l:List α} {o:List β} {i:Int} {m:β→Option Unit} {g:β→Option (List α)} (h:∀ v,G8d r l (m v) (g v)):G8d r l (Q4 o i m) (Q4 o i g):=by
 unfold Q4
 cases decide (0≤i) with
 | false=>intro e; cases e
 | true=>exact Gd1 h
theorem Y18 {α:Type} {r l:List α} {z:Int} {m:Int→Option Unit} {g:Int→Option (List α)} (h:∀ v,G8d r l (m v) (g v)):G8d r l (chk z m) (chk z g):=by
 unfold chk
 cases Q34 z with
 | false=>intro e; cases e
 | true=>exact h z
theorem R65 {α:Type} {r l:List α} {c:Bool} {m m':Option Unit} {g g':Option (List α)} (h1:G8d r l m g) (h2:G8d r l m' g'):G8d r l (bif c then m else m') (bif c then g else g'):=by
 cases c with
 | false=>exact h2
 | true=>exact h1
theorem Y5f {α:Type} {r l:List α} {m:(Nat→Option Unit)→Option Unit} {m':(List α→Option (List α))→Option (List α)} {k:Nat→Option Unit} {k':List α→Option (List α)}
  (hm:∀ K K',(∀ l',G8d r l' (K l'.length) (K' l'))→G8d r l (m K) (m' K')) (hk:∀ l',G8d r l' (k l'.length) (k' l')):G8d r l (jp m k) (jp m' k'):=hm k k' hk

def G1d (self_:List Int→Gb→List Int→Option (List (List G1))) (p1:List Int) (p2:Gb) (p3:List Int):Option (List (List G1)):=
 bif decide ((p1.length:Int)=0) then some [[]]
 else
 (each (fun y7 i7 (s7:List (List G1)) nx7=>
   jp (fun kj10=>
    bnd (Ga7 ((i7+1:Nat):Int) p3.length) fun m14=>
    bnd (R6 (p3.drop m14) (fun z0=>Zp z0)) fun r15=>
    bnd (bif (!r15) then Q4 p3 (i7:Int) some else some default) fun y16=>
    bif (r15||(decide (y7.Tiers≤y16))) then
    (kj10 s7)
    else
    (each (fun y68 i68 (s68:List (List G1)) nx68=>
      Q4 p3 (i7:Int) fun y74=>
      bnd (Qp p3) fun r77=>
      Q4 r77 (i7:Int) fun y80=>
      chk (y80+1) fun v81=>
      Q4 r77 (i7:Int) fun _=>
      bnd (Qp p1) fun r84=>
      bnd (Zo r84 (i68:Int) ((i68+1:Nat):Int)) fun r86=>
      bnd (G44 p2 (r77.set (i7:Int).toNat v81) r86) fun _=>
      bnd (self_ r86 p2 (r77.set (i7:Int).toNat v81)) fun ys88=>
      each (fun y88 _ (s88:List (List G1)) nx88=>
       need (decide (([(G1.mk y68 (Slot.mk (i7:Int) y74 0))].length+y88.length)*32≤140737488355328∧[(G1.mk y68 (Slot.mk (i7:Int) y74 0))].length+y88.length≤maxLen)) <|
       nx88 (s88++[[(G1.mk y68 (Slot.mk (i7:Int) y74 0))]++y88]))
      (fun(s88:List (List G1))=>
       nx68 s88) ys88 0 s68)
     (fun(s68:List (List G1))=>
      kj10 s68) p1 0 s7)) fun(j10:List (List G1))=>
   nx7 j10)
  (fun(s7:List (List G1))=>some s7) p2.Columns 0 [])
def G18:Nat→List Int→Gb→List Int→Option (List (List G1))
 | 0,_,_,_=>none
 | F+1,p1,p2,p3=>G1d (G18 F) p1 p2 p3
theorem Qbe (self_:List Int→Gb→List Int→Option (List (List G1))) (F:Nat) (p1:List Int) (p2:Gb) (p3:List Int) (r:List (List G1)) (h:G1d self_ p1 p2 p3=some r):G1e self_ F p1 p2 p3 r=some ():=by
 refine Q69 ?_ h
 unfold G1e G1d
 refine R65 ?_ ?_
 ·intro e
  cases e
  exact⟨List.nil_prefix,rfl⟩
 refine H96 (fun y7 i7 s7 nx nx' h2=>?_) (fun s=>Q6a) _ 0 []
 refine Y5f (fun K K' hK=>?_) (fun s=>h2 s)
 refine Gd1 (fun m14=>Gd1 fun r15=>Gd1 fun y16=>R65 (hK _) ?_)
 refine H96 (fun y68 i68 s68 nx2 nx2' h0=>?_) (fun s=>hK _) _ 0 _
 refine Jd8 fun y74=>Gd1 fun r77=>Jd8 fun y80=>Y18 fun v81=>Jd8 fun y82=>Gd1 fun r84=>Gd1 fun r86=>Gd1 fun r87=>Gd1 fun ys88=>?_
 refine H96 (fun y88 i88 s88 nx3 nx3' h1=>?_) (fun s=>h0 _) _ 0 _
 refine Qc3 ?_
 refine J3d ?_
 have:=h1 (s88++[[(G1.mk y68 (Slot.mk (i7:Int) y74 0))]++y88])
 rw [M8] at this
 exact this
def Hbe:=PLift.up (Hc1 G18 (fun _ _ _=>rfl) (fun F p1 p2 p3 r h=>Qbe _ F p1 p2 p3 r h))
end Go.Proofs.YtibhpogonkdiaaaGreat
