/-
  What stow.Reach returns: the boxes of the set,in order.
-/
import Derived.Test.YtecjdioomlhhiaaGreatXG
set_option maxRecDepth 100000
namespace Go.Proofs.YtecjdioomlhhiaaGreat
open Go.RowKit

theorem Rfd {β:Type} {k:Option β}:need true k=k:=rfl
theorem J8c {κ ν β:Type} {kx:List κ→Option β}:∀ (q:List (κ×ν)) (s:List κ),((s.length+q.length)*8≤140737488355328∧s.length+q.length≤maxLen) →
    J45 (fun(x:κ×ν) (s:List κ) nx=>need (decide ((s.length+[x.1].length)*8≤140737488355328∧s.length+[x.1].length≤maxLen)) <| nx (s++[x.1])) kx q s=kx (s++q.map (·.1))
  | [],s,_=>by simp [J45]
  | x::q,s,h=>by
    rw [List.length_cons] at h
    have hd:decide ((s.length+[x.1].length)*8≤140737488355328∧s.length+[x.1].length≤maxLen)=true:=by
      rw [decide_eq_true_eq,List.length_singleton]; omega
    rw [J45,hd]
    simp only [Rfd]
    rw [J8c q (s++[x.1]) (by rw [List.length_append,List.length_singleton]; omega)]
    simp
theorem Q2e {a b:List Int} (h:a.Perm b):Ga3 a=Ga3 b:=by
  refine List.Perm.eq_of_pairwise (le:=fun a b:Int=>a≤b) (fun a b _ _ hab hba=>by omega) (Gd9 a) (Gd9 b) ((Gef a).trans (h.trans (Gef b).symm))
def G35 (F:Nat) (s:H0) (boxes:List Box) (l:List Stowed) (ids:List Int):Option ((List Int)×Int):=
  bnd (Qa s boxes l []) fun r4=>
  bif (!r4) then
  (some ([],2))
  else
  (each (fun y27 _ (_:Unit) nx27=>
      bnd (Rf l y27) fun r33=>
      bif decide (r33 < 0) then
      (some ([],6))
      else
      (nx27 ()))
    (fun(_:Unit)=>
      bnd (G23 F ids (J1.empty:J1 Int Unit) l s) fun r36=>
      need (decide ((J1.l r36).length*8≤140737488355328∧(J1.l r36).length≤maxLen)) <|
      bnd (H74 ((J1.l r36).map (·.1))) fun r55=>
      some (r55,0)) ids 0 ())
theorem J6d (F:Nat) (s:H0) (boxes:List Box) (l:List Stowed) (ids:List Int) (r:(List Int)×Int):Rel r (Gdd F s boxes l ids (fun r_=>r_=r)) (G35 F s boxes l ids):=by
  unfold Gdd G35
  refine H1a (fun r4=>Gfa (fun _=>H83) (fun _=>?_))
  refine Hdb (fun x i u nx nx' hnx=>?_) (fun u=>?_)
  · exact H1a (fun r33=>Gfa (fun _=>H83) (fun _=>hnx _))
  refine H1a (fun m=>fun h=>?_)
  obtain⟨hd,h⟩:=Hr h
  have hd:=of_decide_eq_true hd
  refine⟨_,rfl,fun q hq=>?_⟩
  have hl:=hq.length_eq
  rw [J8c q [] (by simp only [List.length_nil,Nat.zero_add,hl]; exact hd),List.nil_append]
  obtain⟨r55,e,h⟩:=Gc h
  obtain⟨h1,h2⟩:=Je6 e
  have e2:H74 (q.map (·.1))=some r55:=by
    unfold H74
    rw [decide_eq_true (by rw [List.length_map,hl]; rw [List.length_map] at h1; exact h1),cond_true,h2,Q2e (hq.map _)]
  rw [e2]
  exact⟨_,rfl,Option.some.inj h⟩
def H3e:=PLift.up (Q12 G35 (fun F s b l i r h=>J6d F s b l i r h))
end Go.Proofs.YtecjdioomlhhiaaGreat
