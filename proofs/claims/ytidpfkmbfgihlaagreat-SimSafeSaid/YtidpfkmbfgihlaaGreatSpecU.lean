/- What the simulator's State returns: -/
import Derived.Test.YtidpfkmbfgihlaaGreatXU
set_option maxRecDepth 100000
namespace Go.Proofs.YtidpfkmbfgihlaaGreat
open Go.RowKit Go.Shelf Go.Sort

theorem Qf8 {α γ β:Type} {kx:List γ→Option β} {f:α→γ} {c:Nat}:∀ (q:List α) (s:List γ),((s.length+q.length)*c≤140737488355328∧s.length+q.length≤maxLen) →
  H2a (fun(x:α) (s:List γ) nx=>need (decide ((s.length+[f x].length)*c≤140737488355328∧s.length+[f x].length≤maxLen)) <| nx (s++[f x])) kx q s=kx (s++q.map f)
 | [],s,_=>by simp [H2a]
 | x::q,s,h=>by
  rw [Mb] at h
  have hc:(s.length+[f x].length)*c≤(s.length+(q.length+1))*c:=Nat.mul_le_mul_right _ (by simp)
  have hd:decide ((s.length+[f x].length)*c≤140737488355328∧s.length+[f x].length≤maxLen)=true:=by
   refine M1 ⟨by omega,?_⟩
   rw [Mg]; omega
  rw [H2a,hd]
  simp only [Q8b]
  rw [Qf8 q (s++[f x]) (by rw [Mf,Mg,Nat.add_assoc,Nat.add_comm 1]; exact h)]
  simp
def Ye9 (a b:Int):Int:=bif decide (a < b) then -1 else bif decide (b < a) then 1 else 0
theorem Ye8 (a b:Int):G46 a b=some (Ye9 a b):=by
 have h1:decide (a≠a)=false:=by simp
 have h2:decide (b≠b)=false:=by simp
 simp only [G46,Zp,bnd,h1,h2,cond_false]
 unfold Ye9
 cases decide (a < b) <;> cases decide (b < a) <;> rfl
def Y57 (a b:Stowed):Int:=Ye9 a.Box b.Box
theorem Rf1 (a b:Stowed):Y8 a b=some (Y57 a b):=by
 unfold Y8
 rw [Ye8]; rfl
theorem H9a (a b:Stowed):ltOf Y57 a b=decide (a.Box < b.Box):=by
 unfold ltOf Y57 Ye9
 by_cases h1:a.Box < b.Box
 ·simp [h1]
 ·by_cases h2:b.Box < a.Box <;> simp [h1,h2]
theorem Q81:SWO (ltOf Y57) where
 irrefl x:=by rw [H9a]; simp
 trans x y z:=by rw [H9a,H9a,H9a]; simp only [Mi]; omega
 ntrans x y z:=by rw [H9a,H9a,H9a]; simp only [decide_eq_false_iff_not]; omega
def Rf0 (x:Stowed):List Stowed→List Stowed
 | []=>[x]
 | y::r=>bif decide (y.Box < x.Box) then y::Rf0 x r else x::y::r
def Q7b:List Stowed→List Stowed
 | []=>[]
 | x::r=>Rf0 x (Q7b r)
theorem Jd8 (x:Stowed):∀ l,(Rf0 x l).Perm (x::l)
 | []=>.refl _
 | y::r=>by
  unfold Rf0
  cases decide (y.Box < x.Box) with
  | true=>exact(List.Perm.cons y (Jd8 x r)).trans (List.Perm.swap x y r)
  | false=>exact .refl _
theorem He4:∀ l,(Q7b l).Perm l
 | []=>.refl _
 | x::r=>(Jd8 x _).trans ((He4 r).cons x)
theorem Q17 (x:Stowed):∀ {l:List Stowed},l.Pairwise (fun a b=>a.Box≤b.Box)→(Rf0 x l).Pairwise (fun a b=>a.Box≤b.Box)
 | [],_=>by simp [Rf0]
 | y::r,h=>by
  unfold Rf0
  obtain⟨h1,h2⟩:=List.pairwise_cons.1 h
  cases hc:decide (y.Box < x.Box) with
  | true=>
   have hc:=Kz hc
   refine List.pairwise_cons.2 ⟨fun z hz=>?_,Q17 x h2⟩
   rcases Mo.1 ((Jd8 x r).mem_iff.1 hz) with rfl | hz
   ·show y.Box≤z.Box; omega
   ·exact h1 z hz
  | false=>
   have hc:=M0 hc
   refine List.pairwise_cons.2 ⟨fun z hz=>?_,h⟩
   rcases Mo.1 hz with rfl | hz
   ·show x.Box≤z.Box; omega
   ·have h3:y.Box≤z.Box:=h1 z hz
    show x.Box≤z.Box; omega
theorem He3:∀ l:List Stowed,(Q7b l).Pairwise (fun a b=>a.Box≤b.Box)
 | []=>List.Pairwise.nil
 | x::r=>Q17 x (He3 r)
theorem Q7c {a b:List Stowed} (hp:a.Perm b) (hn:(b.map (·.Box)).Nodup) (ha:a.Pairwise (fun a b=>a.Box≤b.Box)) (hb:b.Pairwise (fun a b=>a.Box≤b.Box)):a=b:=by
 have inj:∀ x∈b,∀ y∈b,x.Box=y.Box→x=y:=by
  clear hp ha hb
  induction b with
  | nil=>intro x hx; cases hx
  | cons z r ih=>
   rw [List.map_cons,List.nodup_cons] at hn
   intro x hx y hy e
   rcases Mo.1 hx with h1 | h1 <;> rcases Mo.1 hy with h2 | h2
   ·rw [h1,h2]
   ·exact(hn.1 (Mm.2 ⟨y,h2,by rw [← e,h1]⟩)).elim
   ·exact(hn.1 (Mm.2 ⟨x,h1,by rw [e,h2]⟩)).elim
   ·exact ih hn.2 x h1 y h2 e
 exact List.Perm.eq_of_pairwise (le:=fun a b:Stowed=>a.Box≤b.Box) (fun x y hx hy h1 h2=>inj x (hp.mem_iff.1 hx) y hy (by omega)) ha hb hp
theorem R76 {q l:List Stowed} (hq:q.Perm l) (hn:(l.map (·.Box)).Nodup) (hl:l.length < 4611686018427387904):Q13 (fun z0 z1=>Y8 z0 z1) q=some (Q7b l):=by
 rw [Y8b Y57 Rf1 Q81 (by rw [hq.length_eq]; exact hl)]
 obtain⟨hp,h1,hs⟩:=Q14 Y57 Q81 q
 congr 1
 refine Q7c (hp.trans (hq.trans (He4 l).symm)) (((He4 l).map _).nodup_iff.2 hn) (List.pairwise_iff_getElem.2 fun i j hi hj h0=>?_) (He3 l)
 have:=hs i j h0 hj
 rw [H9a,decide_eq_false_iff_not] at this
 show _≤_
 omega
def Jd5 (p:Slot×Box):Stowed:=Stowed.mk p.2.ID p.1
def onB (m:Gb):List Stowed:=(Gu.Hf m.on).map Jd5
def R0 (m:Gb):Option (List Stowed):=
 need (decide ((onB m).length*32≤140737488355328∧(onB m).length≤maxLen∧((onB m).map (·.Box)).Nodup)) <| some (Q7b (onB m))
theorem H4b (m:Gb) (r:List Stowed) (h:R0 m=some r):∃ p:Prop,G15 m (fun r_=>r_=r)=some p∧p:=by
 obtain⟨hr,h⟩:=J8 h
 obtain⟨h1,h2,h3⟩:=Kz hr
 cases h
 refine⟨_,rfl,fun q hq=>?_⟩
 have hl:q.length=(onB m).length:=by rw [onB,Mj,hq.length_eq]
 refine⟨(Q7b (onB m)=Q7b (onB m)),?_,rfl⟩
 refine(Qf8 (f:=Jd5) (c:=32) q [] (by simp only [List.length_nil,Nat.zero_add,hl]; exact⟨h1,h2⟩)).trans ?_
 rw [List.nil_append,R76 (hq.map Jd5) h3 (by show (onB m).length < _; omega)]
 rfl
def Ha2:=PLift.up (Jc2 R0 H4b)
def G0f:=PLift.up (J89 R0 H4b)
end Go.Proofs.YtidpfkmbfgihlaaGreat
