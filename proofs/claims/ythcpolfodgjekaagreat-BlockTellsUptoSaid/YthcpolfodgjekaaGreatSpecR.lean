/-
  What stow.Reach returns: the boxes of the set,in order.
-/
import Derived.Test.YthcpolfodgjekaaGreatXG
set_option maxRecDepth 100000
namespace Go.Proofs.YthcpolfodgjekaaGreat
open Go.RowKit

theorem need_tt {β:Type} {k:Option β}:need true k=k:=rfl
theorem Hc8 {κ ν β:Type} {kx:List κ→Option β}:∀ (q:List (κ×ν)) (s:List κ),((s.length+q.length)*8≤140737488355328∧s.length+q.length≤maxLen) →
    J22 (fun(x:κ×ν) (s:List κ) nx=>need (decide ((s.length+[x.1].length)*8≤140737488355328∧s.length+[x.1].length≤maxLen)) <| nx (s++[x.1])) kx q s=kx (s++q.map (·.1))
  | [],s,_=>by simp [J22]
  | x::q,s,h=>by
    rw [List.length_cons] at h
    have hd:decide ((s.length+[x.1].length)*8≤140737488355328∧s.length+[x.1].length≤maxLen)=true:=by
      rw [decide_eq_true_eq,List.length_singleton]; omega
    rw [J22,hd]
    simp only [need_tt]
    rw [Hc8 q (s++[x.1]) (by rw [List.length_append,List.length_singleton]; omega)]
    simp
theorem J03 {a b:List Int} (h:a.Perm b):G78 a=G78 b:=by
  refine List.Perm.eq_of_pairwise (le:=fun a b:Int=>a≤b) (fun a b _ _ hab hba=>by omega) (G93 a) (G93 b) ((Gb7 a).trans (h.trans (Gb7 b).symm))
def Z3 (F:Nat) (s:H2) (boxes:List Gg) (l:List Stowed) (ids:List Int):Option ((List Int)×Int):=
  bnd (G19 s boxes l []) fun r4=>
  bif (!r4) then
  (some ([],2))
  else
  (each (fun y27 _ (_:Unit) nx27=>
      bnd (G4b l y27) fun r33=>
      bif decide (r33 < 0) then
      (some ([],6))
      else
      (nx27 ()))
    (fun(_:Unit)=>
      bnd (G1a F ids (Ho.empty:Ho Int Unit) l s) fun r36=>
      need (decide ((Ho.l r36).length*8≤140737488355328∧(Ho.l r36).length≤maxLen)) <|
      bnd (G84 ((Ho.l r36).map (·.1))) fun r55=>
      some (r55,0)) ids 0 ())
theorem J74 (F:Nat) (s:H2) (boxes:List Gg) (l:List Stowed) (ids:List Int) (r:(List Int)×Int):J05 r (Gce F s boxes l ids (fun r_=>r_=r)) (Z3 F s boxes l ids):=by
  unfold Gce Z3
  refine G79 (fun r4=>Gae (fun _=>H29) (fun _=>?_))
  refine H2a (fun x i u nx nx' hnx=>?_) (fun u=>?_)
  · exact G79 (fun r33=>Gae (fun _=>H29) (fun _=>hnx _))
  refine G79 (fun m=>fun h=>?_)
  obtain⟨hd,h⟩:=Hv h
  have hd:=of_decide_eq_true hd
  refine⟨_,rfl,fun q hq=>?_⟩
  have hl:=hq.length_eq
  rw [Hc8 q [] (by simp only [List.length_nil,Nat.zero_add,hl]; exact hd),List.nil_append]
  obtain⟨r55,e,h⟩:=Ge h
  obtain⟨h1,h2⟩:=J1f e
  have e2:G84 (q.map (·.1))=some r55:=by
    unfold G84
    rw [decide_eq_true (by rw [List.length_map,hl]; rw [List.length_map] at h1; exact h1),cond_true,h2,J03 (hq.map _)]
  rw [e2]
  exact⟨_,rfl,Option.some.inj h⟩
def H33:=PLift.up (Q0c Z3 (fun F s b l i r h=>J74 F s b l i r h))
end Go.Proofs.YthcpolfodgjekaaGreat
