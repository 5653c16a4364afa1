/- What the simulator's State returns: -/
import Derived.Test.YtgcpimpnpcdmmaaGreatXU
set_option maxRecDepth 100000
namespace Go.Proofs.YtgcpimpnpcdmmaaGreat
open Go.RowKit Go.Shelf Go.Sort

theorem R2b {α γ β:Type} {kx:List γ→Option β} {f:α→γ} {c:Nat}:∀ (q:List α) (s:List γ),((s.length+q.length)*c≤140737488355328∧s.length+q.length≤maxLen) →
  H0b (fun(x:α) (s:List γ) nx=>need (decide ((s.length+[f x].length)*c≤140737488355328∧s.length+[f x].length≤maxLen)) <| nx (s++[f x])) kx q s=kx (s++q.map f)
 | [],s,_=>by simp [H0b]
 | x::q,s,h=>by
  rw [Md] at h
  have hc:(s.length+[f x].length)*c≤(s.length+(q.length+1))*c:=Nat.mul_le_mul_right _ (by simp)
  have hd:decide ((s.length+[f x].length)*c≤140737488355328∧s.length+[f x].length≤maxLen)=true:=by
   refine M3 ⟨by omega,?_⟩
   rw [Mi]; omega
  rw [H0b,hd]
  simp only [Qc4]
  rw [R2b q (s++[f x]) (by rw [Mh,Mi,Nat.add_assoc,Nat.add_comm 1]; exact h)]
  simp
def J4c (a b:Int):Int:=bif decide (a < b) then -1 else bif decide (b < a) then 1 else 0
theorem Je5 (a b:Int):Qr a b=some (J4c a b):=by
 have h1:decide (a≠a)=false:=by simp
 have h2:decide (b≠b)=false:=by simp
 simp only [Qr,G81,bnd,h1,h2,cond_false]
 unfold J4c
 cases decide (a < b) <;> cases decide (b < a) <;> rfl
def Ycc (a b:G1):Int:=J4c a.Box b.Box
theorem Y5e (a b:G1):Rt a b=some (Ycc a b):=by
 unfold Rt
 rw [Je5]; rfl
theorem Hbc (a b:G1):ltOf Ycc a b=decide (a.Box < b.Box):=by
 unfold ltOf Ycc J4c
 by_cases h1:a.Box < b.Box
 ·simp [h1]
 ·by_cases h2:b.Box < a.Box <;> simp [h1,h2]
theorem Qe1:SWO (ltOf Ycc) where
 irrefl x:=by rw [Hbc]; simp
 trans x y z:=by rw [Hbc,Hbc,Hbc]; simp only [Mk]; omega
 ntrans x y z:=by rw [Hbc,Hbc,Hbc]; simp only [decide_eq_false_iff_not]; omega
def Y3e (x:G1):List G1→List G1
 | []=>[x]
 | y::r=>bif decide (y.Box < x.Box) then y::Y3e x r else x::y::r
def Qb4:List G1→List G1
 | []=>[]
 | x::r=>Y3e x (Qb4 r)
theorem Q09 (x:G1):∀ l,(Y3e x l).Perm (x::l)
 | []=>.refl _
 | y::r=>by
  unfold Y3e
  cases decide (y.Box < x.Box) with
  | true=>exact(List.Perm.cons y (Q09 x r)).trans (List.Perm.swap x y r)
  | false=>exact .refl _
theorem J03:∀ l,(Qb4 l).Perm l
 | []=>.refl _
 | x::r=>(Q09 x _).trans ((J03 r).cons x)
theorem Q47 (x:G1):∀ {l:List G1},l.Pairwise (fun a b=>a.Box≤b.Box)→(Y3e x l).Pairwise (fun a b=>a.Box≤b.Box)
 | [],_=>by simp [Y3e]
 | y::r,h=>by
  unfold Y3e
  obtain⟨h1,h2⟩:=List.pairwise_cons.1 h
  cases hc:decide (y.Box < x.Box) with
  | true=>
   have hc:=M1 hc
   refine List.pairwise_cons.2 ⟨fun z hz=>?_,Q47 x h2⟩
   rcases Mq.1 ((Q09 x r).mem_iff.1 hz) with rfl | hz
   ·show y.Box≤z.Box; omega
   ·exact h1 z hz
  | false=>
   have hc:=M2 hc
   refine List.pairwise_cons.2 ⟨fun z hz=>?_,h⟩
   rcases Mq.1 hz with rfl | hz
   ·show x.Box≤z.Box; omega
   ·have h3:y.Box≤z.Box:=h1 z hz
    show x.Box≤z.Box; omega
theorem J02:∀ l:List G1,(Qb4 l).Pairwise (fun a b=>a.Box≤b.Box)
 | []=>List.Pairwise.nil
 | x::r=>Q47 x (J02 r)
theorem Qb5 {a b:List G1} (hp:a.Perm b) (hn:(b.map (·.Box)).Nodup) (ha:a.Pairwise (fun a b=>a.Box≤b.Box)) (hb:b.Pairwise (fun a b=>a.Box≤b.Box)):a=b:=by
 have inj:∀ x∈b,∀ y∈b,x.Box=y.Box→x=y:=by
  clear hp ha hb
  induction b with
  | nil=>intro x hx; cases hx
  | cons z r ih=>
   rw [List.map_cons,List.nodup_cons] at hn
   intro x hx y hy e
   rcases Mq.1 hx with h1 | h1 <;> rcases Mq.1 hy with h2 | h2
   ·rw [h1,h2]
   ·exact(hn.1 (Mo.2 ⟨y,h2,by rw [← e,h1]⟩)).elim
   ·exact(hn.1 (Mo.2 ⟨x,h1,by rw [e,h2]⟩)).elim
   ·exact ih hn.2 x h1 y h2 e
 exact List.Perm.eq_of_pairwise (le:=fun a b:G1=>a.Box≤b.Box) (fun x y hx hy h1 h2=>inj x (hp.mem_iff.1 hx) y hy (by omega)) ha hb hp
theorem Rbf {q l:List G1} (hq:q.Perm l) (hn:(l.map (·.Box)).Nodup) (hl:l.length < 4611686018427387904):Q43 (fun z0 z1=>Rt z0 z1) q=some (Qb4 l):=by
 rw [Ye8 Ycc Y5e Qe1 (by rw [hq.length_eq]; exact hl)]
 obtain⟨hp,h1,hs⟩:=Q44 Ycc Qe1 q
 congr 1
 refine Qb5 (hp.trans (hq.trans (J03 l).symm)) (((J03 l).map _).nodup_iff.2 hn) (List.pairwise_iff_getElem.2 fun i j hi hj h0=>?_) (J02 l)
 have:=hs i j h0 hj
 rw [Hbc,decide_eq_false_iff_not] at this
 show _≤_
 omega
def Q07 (p:Slot×Box):G1:=G1.mk p.2.ID p.1
def onB (m:Gc):List G1:=(Gv.Hc m.on).map Q07
def G11 (m:Gc):Option (List G1):=
 need (decide ((onB m).length*32≤140737488355328∧(onB m).length≤maxLen∧((onB m).map (·.Box)).Nodup)) <| some (Qb4 (onB m))
theorem H6b (m:Gc) (r:List G1) (h:G11 m=some r):∃ p:Prop,G13 m (fun r_=>r_=r)=some p∧p:=by
 obtain⟨hr,h⟩:=Ji h
 obtain⟨h1,h2,h3⟩:=M1 hr
 cases h
 refine⟨_,rfl,fun q hq=>?_⟩
 have hl:q.length=(onB m).length:=by rw [onB,Mm,hq.length_eq]
 refine⟨(Qb4 (onB m)=Qb4 (onB m)),?_,rfl⟩
 refine(R2b (f:=Q07) (c:=32) q [] (by simp only [List.length_nil,Nat.zero_add,hl]; exact⟨h1,h2⟩)).trans ?_
 rw [List.nil_append,Rbf (hq.map Q07) h3 (by show (onB m).length < _; omega)]
 rfl
def Hbd:=PLift.up (Jb8 G11 H6b)
end Go.Proofs.YtgcpimpnpcdmmaaGreat
