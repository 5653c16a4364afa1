/-
 What block.puts yields,and what block.Blockers returns.
-/
import Derived.Test.YtpgkkengffpnpaaGreatXH
set_option linter.unusedSimpArgs false
set_option linter.unnecessarySimpa false
set_option maxRecDepth 100000
set_option linter.unusedVariables false
namespace Go.Proofs.YtpgkkengffpnpaaGreat
open Go.RowKit

theorem col_jp {α γ:Type} {r l:List α} {m:(γ→Option Unit)→Option Unit} {m':(γ→Option (List α))→Option (List α)} {k:γ→Option Unit} {k':γ→Option (List α)} (h:∀ K K',(∀ j,Gea r l (K j) (K' j))→Gea r l (m K) (m' K')) (hk:∀ j,Gea r l (k j) (k' j)):Gea r l (jp m k) (jp m' k'):=h k k' hk
theorem col_bif {α:Type} {r l:List α} {c:Bool} {m n:Option Unit} {g g':Option (List α)} (h1:c=true→Gea r l m g) (h2:c=false→Gea r l n g'):Gea r l (bif c then m else n) (bif c then g else g'):=by
 cases c with
 | true=>exact h1 rfl
 | false=>exact h2 rfl
/-- The slots in which a box can be put, each with the state that is then. -/
def G86 (F:Nat) (p1:Gp) (p2:G9) (p3:List G9) (p4:List Stowed):Option (List (Slot×(List Stowed))):=
 bnd (G1f p1 p2.Size) fun r2=>
 each (fun y45 _ (s45:List (Slot×(List Stowed))) nx45=>
  jp (fun kj51=>
   bnd (Y2 p1 y45.G4) fun r53=>
   bnd (bif decide (0≤r53) then Z2 p1.Columns y45.G4 some else some default) fun y55=>
   bif ((decide (0≤r53))&&(!y55.Deck)) then
   (bnd (G3f F p1 p3 p4 [] r53) fun r56=>
    kj51 r56.1)
   else
   (kj51 [])) fun(j51:(List Int))=>
  bnd (G06 F p1 p3 p4 j51 (Stowed.mk p2.ID y45)) fun r58=>
  bif decide (r58.2=0) then nx45 (s45++[(y45,r58.1)]) else nx45 s45)
 (fun(s45:List (Slot×(List Stowed)))=>some s45) r2 0 []
def Hff:=PLift.up (J07 G86 (fun F p1 p2 p3 p4 r h=>col_out (by
 unfold G8c
 refine H7a (fun r2=>?_)
 refine J8b (fun y45 i45 s45 nx nx' hnx=>?_) (fun s=>col_end) _ 0 []
 refine col_jp (fun K K' hK=>?_) (fun j51=>?_)
 ·exact H7a (fun r53=>H7a (fun y55=>col_bif (fun _=>H7a (fun r56=>hK _)) (fun _=>hK _)))
 refine H7a (fun r58=>?_)
 cases hc:decide (r58.2=0) with
 | true=>
  have:=hnx (s45++[(y45,r58.1)])
  rw [List.length_append] at this
  exact col_yield this
 | false=>exact hnx s45) h))

/-- What is in the way of anything, in order. -/
def Qh (F:Nat) (s:Gp) (boxes:List G9) (l:List Stowed):Option ((List Int)×Int):=
 bnd (Q2 s boxes l) fun r4=>
 bif (!r4) then
 (some ([],2))
 else
 (each (fun y9 _ (s9:(H8 Int Int)) nx9=>
   bnd (Ry F s boxes l [y9.G9]) fun r15=>
   each (fun y57 _ (s57:(H8 Int Int)) nx57=>
    jp (fun kj60=>
     bnd (J6 boxes y57) fun r63=>
     bnd (J6 boxes y9.G9) fun r64=>
     bif decide (r64 < r63) then
     (bnd (some (H8.get s57 y57 0)) fun v65=>
      G0d (v65+1) fun v66=>
      kj60 (H8.put s57 y57 v66))
     else
     (kj60 s57)) fun(j60:(H8 Int Int))=>
    nx57 j60)
   (fun(s57:(H8 Int Int))=>
    nx9 s57) r15.1 0 s9)
  (fun(s9:(H8 Int Int))=>
   need (decide ((H8.l s9).length*8≤140737488355328∧(H8.l s9).length≤maxLen)) <|
   bnd (G3b ((H8.l s9).map (·.1))) fun r85=>
   some (r85,0)) l 0 (H8.empty:H8 Int Int))
theorem H5a (F:Nat) (s:Gp) (boxes:List G9) (l:List Stowed) (r:(List Int)×Int):H8a r (G13 F s boxes l (fun r_=>r_=r)) (Qh F s boxes l):=by
 unfold G13 Qh
 refine G30 (fun r4=>G65 (fun _=>Gdb) (fun _=>?_))
 refine Gdc (fun x i u nx nx' hnx=>?_) (fun m=>?_)
 ·refine G30 (fun r15=>Gdc (fun y i u nx2 nx2' hnx2=>?_) (fun u=>hnx _))
  refine rel_jp (fun K K' hK=>?_) (fun j=>hnx2 _)
  exact G30 (fun r63=>G30 (fun r64=>G65 (fun _=>G30 (fun v=>rel_chk (fun w=>hK _))) (fun _=>hK _)))
 intro h
 obtain⟨hd,h⟩:=J7 h
 have hd:=of_decide_eq_true hd
 refine⟨_,rfl,fun q hq=>?_⟩
 have hl:=hq.length_eq
 rw [H4c q [] (by simp only [List.length_nil,Nat.zero_add,hl]; exact hd),List.nil_append]
 obtain⟨r55,e,h⟩:=Gd h
 obtain⟨h1,h2⟩:=H9d e
 have e2:G3b (q.map (·.1))=some r55:=by
  unfold G3b
  rw [decide_eq_true (by rw [List.length_map,hl]; rw [List.length_map] at h1; exact h1),cond_true,h2,H86 (hq.map _)]
 rw [e2]
 exact⟨_,rfl,Option.some.inj h⟩
def G1d:=PLift.up (Hac Qh (fun F s b l r h=>H5a F s b l r h))
end Go.Proofs.YtpgkkengffpnpaaGreat
