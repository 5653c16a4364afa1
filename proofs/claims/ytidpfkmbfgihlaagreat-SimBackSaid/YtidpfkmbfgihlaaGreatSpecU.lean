/-
 What the simulator's State returns: the boxes on board in order of their numbers,whatever the order of the map.
-/
import Derived.Test.YtidpfkmbfgihlaaGreatXU
set_option maxRecDepth 100000
namespace Go.Proofs.YtidpfkmbfgihlaaGreat
open Go.RowKit Go.Shelf Go.Sort

theorem Qed {α γ β:Type} {kx:List γ→Option β} {f:α→γ} {c:Nat}:∀ (q:List α) (s:List γ),((s.length+q.length)*c≤140737488355328∧s.length+q.length≤maxLen) →
  H24 (fun(x:α) (s:List γ) nx=>need (decide ((s.length+[f x].length)*c≤140737488355328∧s.length+[f x].length≤maxLen)) <| nx (s++[f x])) kx q s=kx (s++q.map f)
 | [],s,_=>by simp [H24]
 | x::q,s,h=>by
  rw [List.length_cons] at h
  have hc:(s.length+[f x].length)*c≤(s.length+(q.length+1))*c:=Nat.mul_le_mul_right _ (by simp)
  have hd:decide ((s.length+[f x].length)*c≤140737488355328∧s.length+[f x].length≤maxLen)=true:=by
   refine decide_eq_true ⟨by omega,?_⟩
   rw [List.length_singleton]; omega
  rw [H24,hd]
  simp only [Q7f]
  rw [Qed q (s++[f x]) (by rw [List.length_append,List.length_singleton,Nat.add_assoc,Nat.add_comm 1]; exact h)]
  simp
def Yd8 (a b:Int):Int:=bif decide (a < b) then -1 else bif decide (b < a) then 1 else 0
theorem Yd7 (a b:Int):G3e a b=some (Yd8 a b):=by
 have h1:decide (a≠a)=false:=by simp
 have h2:decide (b≠b)=false:=by simp
 simp only [G3e,Zk,bnd,h1,h2,cond_false]
 unfold Yd8
 cases decide (a < b) <;> cases decide (b < a) <;> rfl
def Y47 (a b:Stowed):Int:=Yd8 a.Box b.Box
theorem Re3 (a b:Stowed):Y6 a b=some (Y47 a b):=by
 unfold Y6
 rw [Yd7]; rfl
theorem H92 (a b:Stowed):ltOf Y47 a b=decide (a.Box < b.Box):=by
 unfold ltOf Y47 Yd8
 by_cases h1:a.Box < b.Box
 ·simp [h1]
 ·by_cases h2:b.Box < a.Box <;> simp [h1,h2]
theorem Q75:SWO (ltOf Y47) where
 irrefl x:=by rw [H92]; simp
 trans x y z:=by rw [H92,H92,H92]; simp only [decide_eq_true_eq]; omega
 ntrans x y z:=by rw [H92,H92,H92]; simp only [decide_eq_false_iff_not]; omega
def Re2 (x:Stowed):List Stowed→List Stowed
 | []=>[x]
 | y::r=>bif decide (y.Box < x.Box) then y::Re2 x r else x::y::r
def Q6f:List Stowed→List Stowed
 | []=>[]
 | x::r=>Re2 x (Q6f r)
theorem Jcf (x:Stowed):∀ l,(Re2 x l).Perm (x::l)
 | []=>.refl _
 | y::r=>by
  unfold Re2
  cases decide (y.Box < x.Box) with
  | true=>exact(List.Perm.cons y (Jcf x r)).trans (List.Perm.swap x y r)
  | false=>exact .refl _
theorem Hdb:∀ l,(Q6f l).Perm l
 | []=>.refl _
 | x::r=>(Jcf x _).trans ((Hdb r).cons x)
theorem Q0b (x:Stowed):∀ {l:List Stowed},l.Pairwise (fun a b=>a.Box≤b.Box)→(Re2 x l).Pairwise (fun a b=>a.Box≤b.Box)
 | [],_=>by simp [Re2]
 | y::r,h=>by
  unfold Re2
  obtain⟨h1,h2⟩:=List.pairwise_cons.1 h
  cases hc:decide (y.Box < x.Box) with
  | true=>
   have hc:=of_decide_eq_true hc
   refine List.pairwise_cons.2 ⟨fun z hz=>?_,Q0b x h2⟩
   rcases List.mem_cons.1 ((Jcf x r).mem_iff.1 hz) with rfl | hz
   ·show y.Box≤z.Box; omega
   ·exact h1 z hz
  | false=>
   have hc:=of_decide_eq_false hc
   refine List.pairwise_cons.2 ⟨fun z hz=>?_,h⟩
   rcases List.mem_cons.1 hz with rfl | hz
   ·show x.Box≤z.Box; omega
   ·have h3:y.Box≤z.Box:=h1 z hz
    show x.Box≤z.Box; omega
theorem Hda:∀ l:List Stowed,(Q6f l).Pairwise (fun a b=>a.Box≤b.Box)
 | []=>List.Pairwise.nil
 | x::r=>Q0b x (Hda r)
theorem Q70 {a b:List Stowed} (hp:a.Perm b) (hn:(b.map (·.Box)).Nodup) (ha:a.Pairwise (fun a b=>a.Box≤b.Box)) (hb:b.Pairwise (fun a b=>a.Box≤b.Box)):a=b:=by
 have inj:∀ x∈b,∀ y∈b,x.Box=y.Box→x=y:=by
  clear hp ha hb
  induction b with
  | nil=>intro x hx; cases hx
  | cons z r ih=>
   rw [List.map_cons,List.nodup_cons] at hn
   intro x hx y hy e
   rcases List.mem_cons.1 hx with h1 | h1 <;> rcases List.mem_cons.1 hy with h2 | h2
   ·rw [h1,h2]
   ·exact(hn.1 (List.mem_map.2 ⟨y,h2,by rw [← e,h1]⟩)).elim
   ·exact(hn.1 (List.mem_map.2 ⟨x,h1,by rw [e,h2]⟩)).elim
   ·exact ih hn.2 x h1 y h2 e
 exact List.Perm.eq_of_pairwise (le:=fun a b:Stowed=>a.Box≤b.Box) (fun x y hx hy h1 h2=>inj x (hp.mem_iff.1 hx) y hy (by omega)) ha hb hp
theorem R69 {q l:List Stowed} (hq:q.Perm l) (hn:(l.map (·.Box)).Nodup) (hl:l.length < 4611686018427387904):Q07 (fun z0 z1=>Y6 z0 z1) q=some (Q6f l):=by
 rw [Y7a Y47 Re3 Q75 (by rw [hq.length_eq]; exact hl)]
 obtain⟨hp,hlen,hs⟩:=Q08 Y47 Q75 q
 congr 1
 refine Q70 (hp.trans (hq.trans (Hdb l).symm)) (((Hdb l).map _).nodup_iff.2 hn) (List.pairwise_iff_getElem.2 fun i j hi hj hij=>?_) (Hda l)
 have:=hs i j hij hj
 rw [H92,decide_eq_false_iff_not] at this
 show _≤_
 omega
def Jcc (p:Slot×Box):Stowed:=Stowed.mk p.2.ID p.1
def onB (m:Gb):List Stowed:=(Gt.He m.on).map Jcc
def Qz (m:Gb):Option (List Stowed):=
 need (decide ((onB m).length*32≤140737488355328∧(onB m).length≤maxLen∧((onB m).map (·.Box)).Nodup)) <| some (Q6f (onB m))
theorem H46 (m:Gb) (r:List Stowed) (h:Qz m=some r):∃ p:Prop,G0f m (fun r_=>r_=r)=some p∧p:=by
 obtain⟨hr,h⟩:=J7 h
 obtain⟨h1,h2,h3⟩:=of_decide_eq_true hr
 cases h
 refine⟨_,rfl,fun q hq=>?_⟩
 have hl:q.length=(onB m).length:=by rw [onB,List.length_map,hq.length_eq]
 refine⟨(Q6f (onB m)=Q6f (onB m)),?_,rfl⟩
 refine(Qed (f:=Jcc) (c:=32) q [] (by simp only [List.length_nil,Nat.zero_add,hl]; exact⟨h1,h2⟩)).trans ?_
 rw [List.nil_append,R69 (hq.map Jcc) h3 (by show (onB m).length < _; omega)]
 rfl
def H9b:=PLift.up (Jb7 Qz H46)
def G09:=PLift.up (J7f Qz H46)
end Go.Proofs.YtidpfkmbfgihlaaGreat
