/-
  What stow.Reach returns: the boxes of the set,in order.
-/
import Derived.Test.YthcpolfodgjekaaGreatXG
set_option maxRecDepth 100000
namespace Go.Proofs.YthcpolfodgjekaaGreat
open Go.RowKit

theorem Y50 {β:Type} {k:Option β}:need true k=k:=rfl
theorem Hf4 {κ ν β:Type} {kx:List κ→Option β}:∀ (q:List (κ×ν)) (s:List κ),((s.length+q.length)*8≤140737488355328∧s.length+q.length≤maxLen) →
    J4f (fun(x:κ×ν) (s:List κ) nx=>need (decide ((s.length+[x.1].length)*8≤140737488355328∧s.length+[x.1].length≤maxLen)) <| nx (s++[x.1])) kx q s=kx (s++q.map (·.1))
  | [],s,_=>by simp [J4f]
  | x::q,s,h=>by
    rw [List.length_cons] at h
    have hd:decide ((s.length+[x.1].length)*8≤140737488355328∧s.length+[x.1].length≤maxLen)=true:=by
      rw [Kr,Kp]; omega
    rw [J4f,hd]
    simp only [Y50]
    rw [Hf4 q (s++[x.1]) (by rw [Ko,Kp]; omega)]
    simp
theorem J30 {a b:List Int} (h:a.Perm b):G8b a=G8b b:=by
  refine List.Perm.eq_of_pairwise (le:=fun a b:Int=>a≤b) (fun a b _ _ hab hba=>by omega) (Gad a) (Gad b) ((Gd5 a).trans (h.trans (Gd5 b).symm))
def G0a (F:Nat) (s:H0) (boxes:List Box) (l:List Stowed) (ids:List Int):Option ((List Int)×Int):=
  bnd (Yy s boxes l []) fun r4=>
  bif (!r4) then
  (some ([],2))
  else
  (each (fun y27 _ (_:Unit) nx27=>
      bnd (G31 l y27) fun r33=>
      bif decide (r33 < 0) then
      (some ([],6))
      else
      (nx27 ()))
    (fun(_:Unit)=>
      bnd (G32 F ids (Hr.empty:Hr Int Unit) l s) fun r36=>
      need (decide ((Hr.l r36).length*8≤140737488355328∧(Hr.l r36).length≤maxLen)) <|
      bnd (G99 ((Hr.l r36).map (·.1))) fun r55=>
      some (r55,0)) ids 0 ())
theorem Ja4 (F:Nat) (s:H0) (boxes:List Box) (l:List Stowed) (ids:List Int) (r:(List Int)×Int):Rel r (Gf7 F s boxes l ids (fun r_=>r_=r)) (G0a F s boxes l ids):=by
  unfold Gf7 G0a
  refine G8d (fun r4=>Gcb (fun _=>H5c) (fun _=>?_))
  refine H5d (fun x i u nx nx' hnx=>?_) (fun u=>?_)
  · exact G8d (fun r33=>Gcb (fun _=>H5c) (fun _=>hnx _))
  refine G8d (fun m=>fun h=>?_)
  obtain⟨hd,h⟩:=Hp h
  have hd:=Kd hd
  refine⟨_,rfl,fun q hq=>?_⟩
  have hl:=hq.length_eq
  rw [Hf4 q [] (by simp only [List.length_nil,Nat.zero_add,hl]; exact hd),List.nil_append]
  obtain⟨r55,e,h⟩:=Gd h
  obtain⟨h1,h2⟩:=J4c e
  have e2:G99 (q.map (·.1))=some r55:=by
    unfold G99
    rw [Kf (by rw [Ks,hl]; rw [Ks] at h1; exact h1),cond_true,h2,J30 (hq.map _)]
  rw [e2]
  exact⟨_,rfl,Kj h⟩
def H68:=PLift.up (Q54 G0a (fun F s b l i r h=>Ja4 F s b l i r h))
end Go.Proofs.YthcpolfodgjekaaGreat
