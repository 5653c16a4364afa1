/-
 What block.puts yields,and what block.Blockers returns.
-/
import Derived.Test.YthcpolfodgjekaaGreatXH
set_option maxRecDepth 100000
set_option linter.unusedVariables false
namespace Go.Proofs.YthcpolfodgjekaaGreat
open Go.RowKit

theorem col_jp {α γ:Type} {r l:List α} {m:(γ→Option Unit)→Option Unit} {m':(γ→Option (List α))→Option (List α)} {k:γ→Option Unit} {k':γ→Option (List α)} (h:∀ K K',(∀ j,H45 r l (K j) (K' j))→H45 r l (m K) (m' K')) (hk:∀ j,H45 r l (k j) (k' j)):H45 r l (jp m k) (jp m' k'):=h k k' hk
theorem col_bif {α:Type} {r l:List α} {c:Bool} {m n:Option Unit} {g g':Option (List α)} (h1:c=true→H45 r l m g) (h2:c=false→H45 r l n g'):H45 r l (bif c then m else n) (bif c then g else g'):=by
 cases c with
 | true=>exact h1 rfl
 | false=>exact h2 rfl
def Hdb (F:Nat) (p1:H2) (p2:Gg) (p3:List Gg) (p4:List Stowed):Option (List (Slot×(List Stowed))):=
 bnd (Ha6 p1 p2.Size) fun r2=>
 each (fun y45 _ (s45:List (Slot×(List Stowed))) nx45=>
  jp (fun kj51=>
   bnd (G1c p1 y45.G4) fun r53=>
   bnd (bif decide (0≤r53) then Qr p1.Columns y45.G4 some else some default) fun y55=>
   bif ((decide (0≤r53))&&(!y55.Deck)) then
   (bnd (H5c F p1 p3 p4 [] r53) fun r56=>
    kj51 r56.1)
   else
   (kj51 [])) fun(j51:(List Int))=>
  bnd (Ha4 F p1 p3 p4 j51 (Stowed.mk p2.ID y45)) fun r58=>
  bif decide (r58.2=0) then nx45 (s45++[(y45,r58.1)]) else nx45 s45)
 (fun(s45:List (Slot×(List Stowed)))=>some s45) r2 0 []
def J76:=PLift.up (J7d Hdb (fun F p1 p2 p3 p4 r h=>col_out (by
 unfold Gd2
 refine Hf6 (fun r2=>?_)
 refine Q01 (fun y45 i45 s45 nx nx' hnx=>?_) (fun s=>col_end) _ 0 []
 refine col_jp (fun K K' hK=>?_) (fun j51=>?_)
 ·exact Hf6 (fun r53=>Hf6 (fun y55=>col_bif (fun _=>Hf6 (fun r56=>hK _)) (fun _=>hK _)))
 refine Hf6 (fun r58=>?_)
 cases hc:decide (r58.2=0) with
 | true=>
  have:=hnx (s45++[(y45,r58.1)])
  rw [List.length_append] at this
  exact col_yield this
 | false=>exact hnx s45) h))

def Yh (F:Nat) (s:H2) (boxes:List Gg) (l:List Stowed):Option ((List Int)×Int):=
 bnd (Rk s boxes l) fun r4=>
 bif (!r4) then
 (some ([],2))
 else
 (each (fun y9 _ (s9:(Ho Int Int)) nx9=>
   bnd (Z3 F s boxes l [y9.Gg]) fun r15=>
   each (fun y57 _ (s57:(Ho Int Int)) nx57=>
    jp (fun kj60=>
     bnd (Jp boxes y57) fun r63=>
     bnd (Jp boxes y9.Gg) fun r64=>
     bif decide (r64 < r63) then
     (bnd (some (Ho.get s57 y57 0)) fun v65=>
      G35 (v65+1) fun v66=>
      kj60 (Ho.put s57 y57 v66))
     else
     (kj60 s57)) fun(j60:(Ho Int Int))=>
    nx57 j60)
   (fun(s57:(Ho Int Int))=>
    nx9 s57) r15.1 0 s9)
  (fun(s9:(Ho Int Int))=>
   need (decide ((Ho.l s9).length*8≤140737488355328∧(Ho.l s9).length≤maxLen)) <|
   bnd (G84 ((Ho.l s9).map (·.1))) fun r85=>
   some (r85,0)) l 0 (Ho.empty:Ho Int Int))
theorem Hdc (F:Nat) (s:H2) (boxes:List Gg) (l:List Stowed) (r:(List Int)×Int):J05 r (G63 F s boxes l (fun r_=>r_=r)) (Yh F s boxes l):=by
 unfold G63 Yh
 refine G79 (fun r4=>Gae (fun _=>H29) (fun _=>?_))
 refine H2a (fun x i u nx nx' hnx=>?_) (fun m=>?_)
 ·refine G79 (fun r15=>H2a (fun y i u nx2 nx2' hnx2=>?_) (fun u=>hnx _))
  refine rel_jp (fun K K' hK=>?_) (fun j=>hnx2 _)
  exact G79 (fun r63=>G79 (fun r64=>Gae (fun _=>G79 (fun v=>rel_chk (fun w=>hK _))) (fun _=>hK _)))
 intro h
 obtain⟨hd,h⟩:=Hv h
 have hd:=of_decide_eq_true hd
 refine⟨_,rfl,fun q hq=>?_⟩
 have hl:=hq.length_eq
 rw [Hc8 q [] (by simp only [List.length_nil,Nat.zero_add,hl]; exact hd),List.nil_append]
 obtain⟨r55,e,h⟩:=Ge h
 obtain⟨h1,h2⟩:=J1f e
 have e2:G84 (q.map (·.1))=some r55:=by
  unfold G84
  rw [decide_eq_true (by rw [List.length_map,hl]; rw [List.length_map] at h1; exact h1),cond_true,h2,J03 (hq.map _)]
 rw [e2]
 exact⟨_,rfl,Option.some.inj h⟩
def H34:=PLift.up (J2e Yh (fun F s b l r h=>Hdc F s b l r h))
end Go.Proofs.YthcpolfodgjekaaGreat
