/-
 Fresh results that bear a slice which may be written in place: literals into such a slice,and giving it away out of a variable's cell. A slice of the call's own that was written in place becomes one that is only appended to: its cells are fixed from then on.
-/
import Derived.Test.YtpgkkengffpnpaaGreatIns
set_option linter.unusedVariables false
set_option linter.unusedSimpArgs false
set_option linter.unnecessarySimpa false
namespace Go.Proofs.YtpgkkengffpnpaaGreat
open Go.RowKit

section lits
variable {P:Program} {o:Oper} {l:Fr} {L:Loc}
end lits

end Go.Proofs.YtpgkkengffpnpaaGreat
set_option linter.unusedVariables false
set_option linter.unusedSimpArgs false
set_option linter.unnecessarySimpa false
namespace Go.Proofs.YtpgkkengffpnpaaGreat
open Go.RowKit

theorem Qm.vown {N:Zk} {l:Fr} {L:Loc} {w0 w:World} {β0 β:H1} {L0:Loc} {a:Act} (hs:Qm N w0 β0 L0 a w β l L) (ver1:Nat) {s i i' ver k n t:Nat} {xs:List AV} (hsl:look l s=.vec i ver k n) (hi:lk L i=some (.vec t k ver xs)) (hi':lk L i'=none) :
  ∃ β',Qm N w0 β0 L0 a w β' ((s,.own i' ver1 k xs)::l) ((i',.spare t k ver1 xs.length)::(i,.vec t k (ver+1) [])::L):=by
 have hne:i'≠i:=fun e=>by subst e; rw [hi] at hi'; cases hi'
 let β':H1:=Jd (Jd β i none) i' (β.at_ i)
 let L':Loc:=(i',.spare t k ver1 xs.length)::(i,.vec t k (ver+1) [])::L
 have a1:β'.at_ i'=β.at_ i:=by simp [β',Jd]
 have a2:β'.at_ i=none:=by simp [β',Jd,Ne.symm hne]
 have a3:∀ id,id≠i'→id≠i→β'.at_ id=β.at_ id:=fun id h1 h2=>by simp [β',Jd,h1,h2]
 have k1:lk L' i'=some (.spare t k ver1 xs.length):=by show lk (_::_) i'=_; rw [Ge,if_pos rfl]
 have k2:lk L' i=some (.vec t k (ver+1) []):=by show lk (_::_) i=_; rw [Ge,if_neg hne,Ge,if_pos rfl]
 have k3:∀ id,id≠i'→id≠i→lk L' id=lk L id:=fun id h1 h2=>by show lk (_::_) id=_; rw [Ge,if_neg (Ne.symm h1),Ge,if_neg (Ne.symm h2)]
 have old:∀ id b,(lk L' id).isSome=true→β'.at_ id=some b→(id=i'∧β.at_ i=some b)∨(id≠i'∧id≠i∧(lk L id).isSome=true∧β.at_ id=some b):=fun id b h1 h2=>by
  by_cases e1:id=i'
  ·subst e1; exact .inl ⟨rfl,a1.symm.trans h2⟩
  ·by_cases e2:id=i
   ·subst e2; rw [a2] at h2; cases h2
   ·exact .inr ⟨e1,e2,by rw [← k3 id e1 e2]; exact h1,(a3 id e1 e2).symm.trans h2⟩
 have hiS:(lk L i).isSome=true:=by rw [hi]; rfl
 have ne':∀ id o,lk L id=some o→id≠i':=fun id o h e=>by subst e; rw [hi'] at h; cases h
 have st:Step w β L w β' L':=by
  refine⟨rfl,rfl,⟨rfl,Nat.le_refl _⟩,Nat.le_refl _,fun _ _ _=>Iff.rfl,fun b j h=>⟨⟨h.lt,h.seen,fun id o ho hb=>?_⟩,rfl⟩,fun b hb hf=>⟨rfl,fun id hid hbd=>?_⟩,fun id t cs h=>?_,fun id t cs h=>?_,fun id t n cs h=>?_,fun id t' k' ver' xs' h=>?_,fun id t' k' ver' hw h=>?_⟩
  ·rcases old id b (by rw [ho]; rfl) hb with ⟨_,h2⟩ | ⟨h1,h2,h3,h4⟩
   ·exact(h.kept i _ hi h2).elim
   ·rw [k3 id h1 h2] at ho
    exact h.kept id o ho h4
  ·rcases old id b hid hbd with ⟨_,h2⟩ | ⟨_,_,h3,h4⟩
   ·exact hf i hiS h2
   ·exact hf id h3 h4
  ·have h2:id≠i:=fun e=>by subst e; rw [hi] at h; cases h
   exact⟨a3 id (ne' id _ h) h2,cs,(k3 id (ne' id _ h) h2).trans h⟩
  ·have h2:id≠i:=fun e=>by subst e; rw [hi] at h; cases h
   exact⟨a3 id (ne' id _ h) h2,cs,(k3 id (ne' id _ h) h2).trans h⟩
  ·have h2:id≠i:=fun e=>by subst e; rw [hi] at h; cases h
   exact⟨a3 id (ne' id _ h) h2,n,cs,(k3 id (ne' id _ h) h2).trans h⟩
  ·by_cases h2:id=i
   ·subst h2
    rw [hi] at h; cases h
    exact⟨ver+1,[],k2,by omega,fun e=>by omega⟩
   ·exact⟨ver',xs',(k3 id (ne' id _ h) h2).trans h,Nat.le_refl _,fun _=>⟨rfl,a3 id (ne' id _ h) h2,fun _ _=>rfl⟩⟩
  ·have h2:id≠i:=fun e=>by subst e; rw [hi] at h; cases h
   exact⟨ver',hw,(k3 id (ne' id _ h) h2).trans h,Nat.le_refl _,fun _=>⟨rfl,a3 id (ne' id _ h) h2,fun _ _=>rfl⟩⟩
 have hobj:=hs.sat.obj i _ hi
 have sat:Sat w β' L':=by
  refine⟨hs.sat.hid,fun id b h hb=>?_,fun id b q h hb=>?_,fun id id' b h h' hb hb'=>?_,fun id o ho=>?_⟩
  ·rcases old id b h hb with ⟨_,h2⟩ | ⟨_,_,h3,h4⟩
   ·exact hs.sat.bnd i b hiS h2
   ·exact hs.sat.bnd id b h3 h4
  ·rcases old id b h hb with ⟨_,h2⟩ | ⟨_,_,h3,h4⟩
   ·exact hs.sat.apart i b q hiS h2
   ·exact hs.sat.apart id b q h3 h4
  ·rcases old id b h hb with ⟨e1,h2⟩ | ⟨e1,e2,h3,h4⟩ <;> rcases old id' b h' hb' with ⟨e1',h2'⟩ | ⟨e1',e2',h3',h4'⟩
   ·rw [e1,e1']
   ·exact(e2' (hs.sat.inj id' i b h3' hiS h4' h2)).elim
   ·exact(e2 (hs.sat.inj id i b h3 hiS h4 h2')).elim
   ·exact hs.sat.inj id id' b h3 h3' h4 h4'
  ·by_cases e1:id=i'
   ·subst e1
    rw [k1] at ho; cases ho
    rw [a1]
    rcases hobj.2 with ⟨h1,h2⟩ | ⟨b,h1,vs,h2,h3,_⟩
    ·exact .inl ⟨h1,by rw [h2]; rfl⟩
    ·exact .inr ⟨b,h1,vs,h2,h3⟩
   ·by_cases e2:id=i
    ·subst e2
     rw [k2] at ho; cases ho
     rw [a2]
     exact⟨by simp,.inl ⟨rfl,rfl⟩⟩
    ·rw [k3 id e1 e2] at ho
     rw [a3 id e1 e2]
     exact(hs.sat.obj id o ho).step st (fun _ _=>rfl)
 refine⟨β',sat,hs.step.trans st,⟨fun t'=>?_⟩,hs.size,hs.base,hs.defers.step st⟩
 simp only [look]
 cases hb:Nat.beq s t' with
 | false=>exact(hs.frame.tmp t').step st
 | true=>
  have:=Nat.eq_of_beq_eq_true hb
  subst this
  have hv:=hs.frame.tmp s
  rw [hsl] at hv
  simp only [cond_true]
  obtain⟨rfl,hk,h⟩:=G57 hs.sat hi hv
  have hfl:=Hy hk
  rcases h with ⟨e,rfl,hn⟩ | ⟨b,cap,vs,e,hbb,h1,h2,h3,h4,h5⟩
  ·rw [e]
   refine .own (.nil (Nat.zero_le _)) ⟨t,ver1,0,k1,Nat.le_refl _,fun _=>⟨rfl,?_,[],⟨by simp,.inl ⟨rfl,rfl⟩⟩,fun j u hu=>by simp [flat] at hu⟩⟩
   rw [a1,hn]; rfl
  ·rw [e]
   have hlt:∀ q,q < (flat xs).length→q < vs.size:=fun q hq=>by
    rw [hfl] at hq
    have:=Nat.mul_le_mul_right k h1
    omega
   have hval:∀ (q:Nat) u,(flat xs)[q]? = some u→D w (Je w β' L') u (vs.getD q undef):=fun q u hu=>by
    have hq:=(List.getElem?_eq_some_iff.1 hu).1
    have:=hlt q hq
    exact(h5 q u _ hu (by simp [this])).mono st.stab
   refine .own (.list (fun q=>vs.getD q undef) h1 h2 hk (fun q hq=>⟨⟨(Array.getElem?_eq_some_iff.1 h3).1,hs.sat.apart i b _ hiS hbb,fun id o ho hbd=>?_⟩,?_⟩) hval) ⟨t,ver1,xs.length,k1,Nat.le_refl _,fun _=>⟨rfl,?_,vs.toList.take (xs.length*k),⟨?_,.inr ⟨b,cap,vs,rfl,Nat.zero_le _,h3,h1,h2,h4,rfl⟩⟩,fun q u hu=>?_⟩⟩
   ·rcases old id b (by rw [ho]; rfl) hbd with ⟨e1,_⟩ | ⟨_,e2,g3,g4⟩
    ·subst e1
     rw [k1] at ho; cases ho
     show 0+q < xs.length*k
     omega
    ·exact(e2 (hs.sat.inj id i b g3 hiS g4 hbb)).elim
   ·have:=hlt q hq
    simp [World.cell?,h3,this]
   ·rw [a1,hbb]; rfl
   ·have:=Nat.mul_le_mul_right k h1
    simp only [List.length_take,Array.length_toList]
    omega
   ·have hq:=(List.getElem?_eq_some_iff.1 hu).1
    have:=hlt q hq
    refine⟨vs.getD q undef,?_,hval q u hu⟩
    rw [hfl] at hq
    rw [List.getElem?_take,if_pos hq]
    simp [this]
theorem JL_vownM {P:Program} {N:Zk} {Q:Post} {l:Fr} {L:Loc} {ops:Array Oper} {rest:List Oper} {α:Type} {f:α→AV} {xs:List α} (s i':Nat) {i ver k n t:Nat} (hsl:look l s=.vec i ver k n) (hi:lk L i=some (.vec t k ver (xs.map f))) (hi':lk L i'=none)
  (hk:JL P N ops rest Q ((s,OW i' k f xs)::l) ((i',.spare t k xs.length xs.length)::(i,.vec t k (ver+1) [])::L)):JL P N ops rest Q l L:=fun n w0 β0 L0 a w β hs=>by
 obtain⟨β',h⟩:=hs.vown xs.length hsl hi hi'
 rw [List.length_map] at h
 exact hk n w0 β0 L0 a w β' h
end Go.Proofs.YtpgkkengffpnpaaGreat
