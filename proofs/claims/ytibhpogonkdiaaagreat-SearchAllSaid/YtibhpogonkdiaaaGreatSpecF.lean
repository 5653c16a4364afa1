/- The ways to pile boxes up,aQ a list. -/
import Derived.Test.YtibhpogonkdiaaaGreatXF
set_option linter.unusedVariables false
set_option linter.unusedSimpArgs false
set_option linter.unnecessarySimpa false
set_option maxRecDepth 100000
namespace Go.Proofs.YtibhpogonkdiaaaGreat
open Go.RowKit

theorem J76 {α β:Type} {r l:List α} {o:List β} {i:Int} {m:β→Option Unit} {g:β→Option (List α)} (h:∀ v,G56 r l (m v) (g v)):G56 r l (Ju o i m) (Ju o i g):=by
 unfold Ju
 cases decide (0≤i) with
 | false=>intro e; cases e
 | true=>exact G97 h
theorem R83 {α:Type} {r l:List α} {z:Int} {m:Int→Option Unit} {g:Int→Option (List α)} (h:∀ v,G56 r l (m v) (g v)):G56 r l (chk z m) (chk z g):=by
 unfold chk
 cases Jcd z with
 | false=>intro e; cases e
 | true=>exact h z
theorem Qe1 {α:Type} {r l:List α} {c:Bool} {m m':Option Unit} {g g':Option (List α)} (h1:G56 r l m g) (h2:G56 r l m' g'):G56 r l (bif c then m else m') (bif c then g else g'):=by
 cases c with
 | false=>exact h2
 | true=>exact h1
theorem Rc6 {α:Type} {r l:List α} {m:(Nat→Option Unit)→Option Unit} {m':(List α→Option (List α))→Option (List α)} {k:Nat→Option Unit} {k':List α→Option (List α)}
  (hm:∀ K K',(∀ l',G56 r l' (K l'.length) (K' l'))→G56 r l (m K) (m' K')) (hk:∀ l',G56 r l' (k l'.length) (k' l')):G56 r l (jp m k) (jp m' k'):=hm k k' hk

def Zt (self_:List Int→Gf→List Int→Option (List (List G1))) (p1:List Int) (p2:Gf) (p3:List Int):Option (List (List G1)):=
 bif decide ((p1.length:Int)=0) then some [[]]
 else
 (each (fun y7 i7 (s7:List (List G1)) nx7=>
   jp (fun kj10=>
    bnd (H36 ((i7+1:Nat):Int) p3.length) fun m14=>
    bnd (Qk (p3.drop m14) (fun z0=>Yn z0)) fun r15=>
    bnd (bif (!r15) then Ju p3 (i7:Int) some else some default) fun y16=>
    bif (r15||(decide (y7.Tiers≤y16))) then
    (kj10 s7)
    else
    (each (fun y68 i68 (s68:List (List G1)) nx68=>
      Ju p3 (i7:Int) fun y74=>
      bnd (Q5 p3) fun r77=>
      Ju r77 (i7:Int) fun y80=>
      chk (y80+1) fun v81=>
      Ju r77 (i7:Int) fun _=>
      bnd (Q5 p1) fun r84=>
      bnd (Ym r84 (i68:Int) ((i68+1:Nat):Int)) fun r86=>
      bnd (G1a p2 (r77.set (i7:Int).toNat v81) r86) fun _=>
      bnd (self_ r86 p2 (r77.set (i7:Int).toNat v81)) fun ys88=>
      each (fun y88 _ (s88:List (List G1)) nx88=>
       need (decide (([(G1.mk y68 (Slot.mk (i7:Int) y74 0))].length+y88.length)*32≤140737488355328∧[(G1.mk y68 (Slot.mk (i7:Int) y74 0))].length+y88.length≤maxLen)) <|
       nx88 (s88++[[(G1.mk y68 (Slot.mk (i7:Int) y74 0))]++y88]))
      (fun(s88:List (List G1))=>
       nx68 s88) ys88 0 s68)
     (fun(s68:List (List G1))=>
      kj10 s68) p1 0 s7)) fun(j10:List (List G1))=>
   nx7 j10)
  (fun(s7:List (List G1))=>some s7) p2.Columns 0 [])
def Zo:Nat→List Int→Gf→List Int→Option (List (List G1))
 | 0,_,_,_=>none
 | F+1,p1,p2,p3=>Zt (Zo F) p1 p2 p3
theorem Q4c (self_:List Int→Gf→List Int→Option (List (List G1))) (F:Nat) (p1:List Int) (p2:Gf) (p3:List Int) (r:List (List G1)) (h:Zt self_ p1 p2 p3=some r):Zu self_ F p1 p2 p3 r=some ():=by
 refine Jff ?_ h
 unfold Zu Zt
 refine Qe1 ?_ ?_
 ·intro e
  cases e
  exact⟨List.nil_prefix,rfl⟩
 refine H58 (fun y7 i7 s7 nx nx' h2=>?_) (fun s=>Q00) _ 0 []
 refine Rc6 (fun K K' hK=>?_) (fun s=>h2 s)
 refine G97 (fun m14=>G97 fun r15=>G97 fun y16=>Qe1 (hK _) ?_)
 refine H58 (fun y68 i68 s68 nx2 nx2' h0=>?_) (fun s=>hK _) _ 0 _
 refine J76 fun y74=>G97 fun r77=>J76 fun y80=>R83 fun v81=>J76 fun y82=>G97 fun r84=>G97 fun r86=>G97 fun r87=>G97 fun ys88=>?_
 refine H58 (fun y88 i88 s88 nx3 nx3' h1=>?_) (fun s=>h0 _) _ 0 _
 refine Q50 ?_
 refine Hed ?_
 have:=h1 (s88++[[(G1.mk y68 (Slot.mk (i7:Int) y74 0))]++y88])
 rw [M9] at this
 exact this
def H75:=PLift.up (H78 Zo (fun _ _ _=>rfl) (fun F p1 p2 p3 r h=>Q4c _ F p1 p2 p3 r h))
end Go.Proofs.YtibhpogonkdiaaaGreat
