/- What the simulator's State returns: -/
import Derived.Test.YtmfhaflabpnaoaaGreatXU
set_option maxRecDepth 100000
namespace Go.Proofs.YtmfhaflabpnaoaaGreat
open Go.RowKit Go.Shelf Go.Sort

theorem Q80 {α γ β:Type} {kx:List γ→Option β} {f:α→γ} {c:Nat}:∀ (q:List α) (s:List γ),((s.length+q.length)*c≤140737488355328∧s.length+q.length≤maxLen) →
  H00 (fun(x:α) (s:List γ) nx=>need (decide ((s.length+[f x].length)*c≤140737488355328∧s.length+[f x].length≤maxLen)) <| nx (s++[f x])) kx q s=kx (s++q.map f)
 | [],s,_=>by simp [H00]
 | x::q,s,h=>by
  rw [M8] at h
  have hc:(s.length+[f x].length)*c≤(s.length+(q.length+1))*c:=Nat.mul_le_mul_right _ (by simp)
  have hd:decide ((s.length+[f x].length)*c≤140737488355328∧s.length+[f x].length≤maxLen)=true:=by
   refine Ky ⟨by omega,?_⟩
   rw [Md]; omega
  rw [H00,hd]
  simp only [Q21]
  rw [Q80 q (s++[f x]) (by rw [Mc,Md,Nat.add_assoc,Nat.add_comm 1]; exact h)]
  simp
def Y63 (a b:Int):Int:=bif decide (a < b) then -1 else bif decide (b < a) then 1 else 0
theorem Y62 (a b:Int):G41 a b=some (Y63 a b):=by
 have h1:decide (a≠a)=false:=by simp
 have h2:decide (b≠b)=false:=by simp
 simp only [G41,G6c,bnd,h1,h2,cond_false]
 unfold Y63
 cases decide (a < b) <;> cases decide (b < a) <;> rfl
def Red (a b:G3):Int:=Y63 a.Box b.Box
theorem R82 (a b:G3):Rz a b=some (Red a b):=by
 unfold Rz
 rw [Y62]; rfl
theorem H5b (a b:G3):ltOf Red a b=decide (a.Box < b.Box):=by
 unfold ltOf Red Y63
 by_cases h1:a.Box < b.Box
 ·simp [h1]
 ·by_cases h2:b.Box < a.Box <;> simp [h1,h2]
theorem Q39:SWO (ltOf Red) where
 irrefl x:=by rw [H5b]; simp
 trans x y z:=by rw [H5b,H5b,H5b]; simp only [Mf]; omega
 ntrans x y z:=by rw [H5b,H5b,H5b]; simp only [decide_eq_false_iff_not]; omega
def R64 (x:G3):List G3→List G3
 | []=>[x]
 | y::r=>bif decide (y.Box < x.Box) then y::R64 x r else x::y::r
def Q11:List G3→List G3
 | []=>[]
 | x::r=>R64 x (Q11 r)
theorem J6c (x:G3):∀ l,(R64 x l).Perm (x::l)
 | []=>.refl _
 | y::r=>by
  unfold R64
  cases decide (y.Box < x.Box) with
  | true=>exact(List.Perm.cons y (J6c x r)).trans (List.Perm.swap x y r)
  | false=>exact .refl _
theorem Ha1:∀ l,(Q11 l).Perm l
 | []=>.refl _
 | x::r=>(J6c x _).trans ((Ha1 r).cons x)
theorem Ja5 (x:G3):∀ {l:List G3},l.Pairwise (fun a b=>a.Box≤b.Box)→(R64 x l).Pairwise (fun a b=>a.Box≤b.Box)
 | [],_=>by simp [R64]
 | y::r,h=>by
  unfold R64
  obtain⟨h1,h2⟩:=List.pairwise_cons.1 h
  cases hc:decide (y.Box < x.Box) with
  | true=>
   have hc:=Kw hc
   refine List.pairwise_cons.2 ⟨fun z hz=>?_,Ja5 x h2⟩
   rcases Mk.1 ((J6c x r).mem_iff.1 hz) with rfl | hz
   ·show y.Box≤z.Box; omega
   ·exact h1 z hz
  | false=>
   have hc:=Kx hc
   refine List.pairwise_cons.2 ⟨fun z hz=>?_,h⟩
   rcases Mk.1 hz with rfl | hz
   ·show x.Box≤z.Box; omega
   ·have h3:y.Box≤z.Box:=h1 z hz
    show x.Box≤z.Box; omega
theorem Ha0:∀ l:List G3,(Q11 l).Pairwise (fun a b=>a.Box≤b.Box)
 | []=>List.Pairwise.nil
 | x::r=>Ja5 x (Ha0 r)
theorem Q12 {a b:List G3} (hp:a.Perm b) (hn:(b.map (·.Box)).Nodup) (ha:a.Pairwise (fun a b=>a.Box≤b.Box)) (hb:b.Pairwise (fun a b=>a.Box≤b.Box)):a=b:=by
 have inj:∀ x∈b,∀ y∈b,x.Box=y.Box→x=y:=by
  clear hp ha hb
  induction b with
  | nil=>intro x hx; cases hx
  | cons z r ih=>
   rw [List.map_cons,List.nodup_cons] at hn
   intro x hx y hy e
   rcases Mk.1 hx with h1 | h1 <;> rcases Mk.1 hy with h2 | h2
   ·rw [h1,h2]
   ·exact(hn.1 (Mi.2 ⟨y,h2,by rw [← e,h1]⟩)).elim
   ·exact(hn.1 (Mi.2 ⟨x,h1,by rw [e,h2]⟩)).elim
   ·exact ih hn.2 x h1 y h2 e
 exact List.Perm.eq_of_pairwise (le:=fun a b:G3=>a.Box≤b.Box) (fun x y hx hy h1 h2=>inj x (hp.mem_iff.1 hx) y hy (by omega)) ha hb hp
theorem Qf6 {q l:List G3} (hq:q.Perm l) (hn:(l.map (·.Box)).Nodup) (hl:l.length < 4611686018427387904):Ja1 (fun z0 z1=>Rz z0 z1) q=some (Q11 l):=by
 rw [Y02 Red R82 Q39 (by rw [hq.length_eq]; exact hl)]
 obtain⟨hp,h1,hs⟩:=Ja3 Red Q39 q
 congr 1
 refine Q12 (hp.trans (hq.trans (Ha1 l).symm)) (((Ha1 l).map _).nodup_iff.2 hn) (List.pairwise_iff_getElem.2 fun i j hi hj h0=>?_) (Ha0 l)
 have:=hs i j h0 hj
 rw [H5b,decide_eq_false_iff_not] at this
 show _≤_
 omega
def J6b (p:Slot×Box):G3:=G3.mk p.2.ID p.1
def onB (m:Gh):List G3:=(Gv.Hc m.on).map J6b
def G0c (m:Gh):Option (List G3):=
 need (decide ((onB m).length*32≤140737488355328∧(onB m).length≤maxLen∧((onB m).map (·.Box)).Nodup)) <| some (Q11 (onB m))
theorem H19 (m:Gh) (r:List G3) (h:G0c m=some r):∃ p:Prop,G0e m (fun r_=>r_=r)=some p∧p:=by
 obtain⟨hr,h⟩:=Qa h
 obtain⟨h1,h2,h3⟩:=Kw hr
 cases h
 refine⟨_,rfl,fun q hq=>?_⟩
 have hl:q.length=(onB m).length:=by rw [onB,Mg,hq.length_eq]
 refine⟨(Q11 (onB m)=Q11 (onB m)),?_,rfl⟩
 refine(Q80 (f:=J6b) (c:=32) q [] (by simp only [List.length_nil,Nat.zero_add,hl]; exact⟨h1,h2⟩)).trans ?_
 rw [List.nil_append,Qf6 (hq.map J6b) h3 (by show (onB m).length < _; omega)]
 rfl
def J59:=PLift.up (J60 G0c H19)
def J5a:=PLift.up (J2d G0c H19)
end Go.Proofs.YtmfhaflabpnaoaaGreat
