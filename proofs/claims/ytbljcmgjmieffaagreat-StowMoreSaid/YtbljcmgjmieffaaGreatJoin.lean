/-
 Points where ways meet again; conditions that are known.
-/
import Derived.Test.YtbljcmgjmieffaaGreatKeys
set_option linter.unusedVariables false
set_option linter.unusedSimpArgs false
set_option linter.unnecessarySimpa false
namespace Go.Proofs.YtbljcmgjmieffaaGreat
section
variable {P:Program} {N:Yg} {Q:Post} {l:Fr} {L:Loc}
theorem Ry {x y:Code} {X:Type} (I:X→Prop) (F:X→Fr) (M:X→Loc)
  (h1:∀ K:Fr→Loc→Prop,(∀ l L v,I v→Fits N.base l L (F v) (M v)→K l L)→JC P N x (Q.seq K) l L)
  (h2:∀ v,I v→JC P N y Q (F v) (M v)):JC P N (.seq x y) Q l L:=
 G5 fun K hK=>h1 K fun l L v hv hf=>hK l L (Yk hf (h2 v hv))
theorem J44 {c:Operand} {x y:Code} (hc:ev l c=.sc (.bool true)) (ht:JC P N x Q l L):JC P N (.cond c x y) Q l L:=
 Gm hc (fun _=>ht) (fun h=>by cases h)
theorem J45 {c:Operand} {x y:Code} (hc:ev l c=.sc (.bool false)) (hf:JC P N y Q l L):JC P N (.cond c x y) Q l L:=
 Gm hc (fun h=>by cases h) (fun _=>hf)
def unseen (n:Nat) (seen:List Nat):Nat:=((List.range n).filter fun j=>!seen.contains j).length
theorem unseen_lt {n j:Nat} {seen:List Nat} (hj:j < n) (hs:j ∉ seen):unseen n (seen++[j]) < unseen n seen:=by
 unfold unseen
 have h1:(List.range n).filter (fun i=>!(seen++[j]).contains i)=((List.range n).filter fun i=>!seen.contains i).filter fun i=>i != j:=by
  rw [List.filter_filter]
  congr 1
  funext i
  simp only [List.contains_append,Bool.not_or,List.contains_cons,List.contains_nil,Bool.or_false,bne]
  rw [Bool.and_comm]
 rw [h1]
 have hm:j∈(List.range n).filter fun i=>!seen.contains i:=by simp [hj,hs]
 have:∀ (l:List Nat),j∈l→(l.filter fun i=>i != j).length < l.length:=by
  intro l
  induction l with
  | nil=>intro h; cases h
  | cons a r ih=>
   intro h
   by_cases e:a=j
   ·subst e
    have:=List.length_filter_le (fun i=>i != a) r
    simp
    omega
   ·have hr:j∈r:=by
     rcases List.mem_cons.1 h with h | h
     ·exact absurd h.symm e
     ·exact h
    have:=ih hr
    simp [e]
    omega
 exact this _ hm
end
mutual
theorem refs_any (ok:Nat→Bool):∀ u:AV,u.refs (fun _=>false)=true→u.refs ok=true
 | .junk,_=>rfl
 | .sc _,_=>rfl
 | .list _ _,_=>rfl
 | .lst ..,_=>rfl
 | .dptr _,_=>rfl
 | .agg cs,h=>Jg ok cs h
 | .tup cs,h=>Jg ok cs h
 | .fn _ cs,h=>Jg ok cs h
 | .bfn _ cs,h=>Jg ok cs h
 | .opt _ x,h=>refs_any ok x h
 | .ptr _ _,h=>by cases h
 | .own ..,h=>by cases h
 | .ms ..,h=>by cases h
 | .mp _,h=>by cases h
 | .it _,h=>by cases h
 | .vec ..,h=>by cases h
theorem Jg (ok:Nat→Bool):∀ us:List AV,R8 (fun _=>false) us=true→R8 ok us=true
 | [],_=>rfl
 | u::r,h=>by
  simp only [R8,Bool.and_eq_true] at h ⊢
  exact⟨refs_any ok u h.1,Jg ok r h.2⟩
end
end Go.Proofs.YtbljcmgjmieffaaGreat
