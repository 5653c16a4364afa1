/-
 What block.puts yields,and what block.Blockers returns.
-/
import Derived.Test.YthcpolfodgjekaaGreatXH
set_option maxRecDepth 100000
set_option linter.unusedVariables false
namespace Go.Proofs.YthcpolfodgjekaaGreat
open Go.RowKit

theorem Y8b {α γ:Type} {r l:List α} {m:(γ→Option Unit)→Option Unit} {m':(γ→Option (List α))→Option (List α)} {k:γ→Option Unit} {k':γ→Option (List α)} (h:∀ K K',(∀ j,H75 r l (K j) (K' j))→H75 r l (m K) (m' K')) (hk:∀ j,H75 r l (k j) (k' j)):H75 r l (jp m k) (jp m' k'):=h k k' hk
theorem Y58 {α:Type} {r l:List α} {c:Bool} {m n:Option Unit} {g g':Option (List α)} (h1:c=true→H75 r l m g) (h2:c=false→H75 r l n g'):H75 r l (bif c then m else n) (bif c then g else g'):=by
 cases c with
 | true=>exact h1 rfl
 | false=>exact h2 rfl
def Gf3 (F:Nat) (p1:H0) (p2:Box) (p3:List Box) (p4:List Stowed):Option (List (Slot×(List Stowed))):=
 bnd (H0d p1 p2.Size) fun r2=>
 each (fun y45 _ (s45:List (Slot×(List Stowed))) nx45=>
  jp (fun kj51=>
   bnd (G10 p1 y45.G3) fun r53=>
   bnd (bif decide (0≤r53) then Qm p1.Columns y45.G3 some else some default) fun y55=>
   bif ((decide (0≤r53))&&(!y55.Deck)) then
   (bnd (Ge0 F p1 p3 p4 [] r53) fun r56=>
    kj51 r56.1)
   else
   (kj51 [])) fun(j51:(List Int))=>
  bnd (Ga5 F p1 p3 p4 j51 (Stowed.mk p2.ID y45)) fun r58=>
  bif decide (r58.2=0) then nx45 (s45++[(y45,r58.1)]) else nx45 s45)
 (fun(s45:List (Slot×(List Stowed)))=>some s45) r2 0 []
def Ja6:=PLift.up (Jae Gf3 (fun F p1 p2 p3 p4 r h=>Rc1 (by
 unfold Gfb
 refine J21 (fun r2=>?_)
 refine Q45 (fun y45 i45 s45 nx nx' hnx=>?_) (fun s=>Rc2) _ 0 []
 refine Y8b (fun K K' hK=>?_) (fun j51=>?_)
 ·exact J21 (fun r53=>J21 (fun y55=>Y58 (fun _=>J21 (fun r56=>hK _)) (fun _=>hK _)))
 refine J21 (fun r58=>?_)
 cases hc:decide (r58.2=0) with
 | true=>
  have:=hnx (s45++[(y45,r58.1)])
  rw [Ko] at this
  exact Qae this
 | false=>exact hnx s45) h))

def G20 (F:Nat) (s:H0) (boxes:List Box) (l:List Stowed):Option ((List Int)×Int):=
 bnd (Yk s boxes l) fun r4=>
 bif (!r4) then
 (some ([],2))
 else
 (each (fun y9 _ (s9:(Hr Int Int)) nx9=>
   bnd (G0a F s boxes l [y9.Box]) fun r15=>
   each (fun y57 _ (s57:(Hr Int Int)) nx57=>
    jp (fun kj60=>
     bnd (Jx boxes y57) fun r63=>
     bnd (Jx boxes y9.Box) fun r64=>
     bif decide (r64 < r63) then
     (bnd (some (Hr.get s57 y57 0)) fun v65=>
      chk (v65+1) fun v66=>
      kj60 (Hr.put s57 y57 v66))
     else
     (kj60 s57)) fun(j60:(Hr Int Int))=>
    nx57 j60)
   (fun(s57:(Hr Int Int))=>
    nx9 s57) r15.1 0 s9)
  (fun(s9:(Hr Int Int))=>
   need (decide ((Hr.l s9).length*8≤140737488355328∧(Hr.l s9).length≤maxLen)) <|
   bnd (G99 ((Hr.l s9).map (·.1))) fun r85=>
   some (r85,0)) l 0 (Hr.empty:Hr Int Int))
theorem J06 (F:Nat) (s:H0) (boxes:List Box) (l:List Stowed) (r:(List Int)×Int):Rel r (G74 F s boxes l (fun r_=>r_=r)) (G20 F s boxes l):=by
 unfold G74 G20
 refine G8d (fun r4=>Gcb (fun _=>H5c) (fun _=>?_))
 refine H5d (fun x i u nx nx' hnx=>?_) (fun m=>?_)
 ·refine G8d (fun r15=>H5d (fun y i u nx2 nx2' hnx2=>?_) (fun u=>hnx _))
  refine Y17 (fun K K' hK=>?_) (fun j=>hnx2 _)
  exact G8d (fun r63=>G8d (fun r64=>Gcb (fun _=>G8d (fun v=>Qc4 (fun w=>hK _))) (fun _=>hK _)))
 intro h
 obtain⟨hd,h⟩:=Hp h
 have hd:=Kd hd
 refine⟨_,rfl,fun q hq=>?_⟩
 have hl:=hq.length_eq
 rw [Hf4 q [] (by simp only [List.length_nil,Nat.zero_add,hl]; exact hd),List.nil_append]
 obtain⟨r55,e,h⟩:=Gd h
 obtain⟨h1,h2⟩:=J4c e
 have e2:G99 (q.map (·.1))=some r55:=by
  unfold G99
  rw [Kf (by rw [Ks,hl]; rw [Ks] at h1; exact h1),cond_true,h2,J30 (hq.map _)]
 rw [e2]
 exact⟨_,rfl,Kj h⟩
def H69:=PLift.up (J5b G20 (fun F s b l r h=>J06 F s b l r h))
end Go.Proofs.YthcpolfodgjekaaGreat
