/- What the simulator's State returns: -/
import Derived.Test.YtgcpimpnpcdmmaaGreatXU
set_option maxRecDepth 100000
namespace Go.Proofs.YtgcpimpnpcdmmaaGreat
open Go.RowKit Go.Shelf Go.Sort

theorem R0d {α γ β:Type} {kx:List γ→Option β} {f:α→γ} {c:Nat}:∀ (q:List α) (s:List γ),((s.length+q.length)*c≤140737488355328∧s.length+q.length≤maxLen) →
  Gf8 (fun(x:α) (s:List γ) nx=>need (decide ((s.length+[f x].length)*c≤140737488355328∧s.length+[f x].length≤maxLen)) <| nx (s++[f x])) kx q s=kx (s++q.map f)
 | [],s,_=>by simp [Gf8]
 | x::q,s,h=>by
  rw [Md] at h
  have hc:(s.length+[f x].length)*c≤(s.length+(q.length+1))*c:=Nat.mul_le_mul_right _ (by simp)
  have hd:decide ((s.length+[f x].length)*c≤140737488355328∧s.length+[f x].length≤maxLen)=true:=by
   refine M3 ⟨by omega,?_⟩
   rw [Mi]; omega
  rw [Gf8,hd]
  simp only [Qa9]
  rw [R0d q (s++[f x]) (by rw [Mh,Mi,Nat.add_assoc,Nat.add_comm 1]; exact h)]
  simp
def J39 (a b:Int):Int:=bif decide (a < b) then -1 else bif decide (b < a) then 1 else 0
theorem Jc6 (a b:Int):Qq a b=some (J39 a b):=by
 have h1:decide (a≠a)=false:=by simp
 have h2:decide (b≠b)=false:=by simp
 simp only [Qq,G6d,bnd,h1,h2,cond_false]
 unfold J39
 cases decide (a < b) <;> cases decide (b < a) <;> rfl
def Ya5 (a b:G1):Int:=J39 a.Box b.Box
theorem Y3a (a b:G1):Rn a b=some (Ya5 a b):=by
 unfold Rn
 rw [Jc6]; rfl
theorem Ha8 (a b:G1):ltOf Ya5 a b=decide (a.Box < b.Box):=by
 unfold ltOf Ya5 J39
 by_cases h1:a.Box < b.Box
 ·simp [h1]
 ·by_cases h2:b.Box < a.Box <;> simp [h1,h2]
theorem Qc6:SWO (ltOf Ya5) where
 irrefl x:=by rw [Ha8]; simp
 trans x y z:=by rw [Ha8,Ha8,Ha8]; simp only [Mk]; omega
 ntrans x y z:=by rw [Ha8,Ha8,Ha8]; simp only [decide_eq_false_iff_not]; omega
def Y16 (x:G1):List G1→List G1
 | []=>[x]
 | y::r=>bif decide (y.Box < x.Box) then y::Y16 x r else x::y::r
def Q98:List G1→List G1
 | []=>[]
 | x::r=>Y16 x (Q98 r)
theorem Je8 (x:G1):∀ l,(Y16 x l).Perm (x::l)
 | []=>.refl _
 | y::r=>by
  unfold Y16
  cases decide (y.Box < x.Box) with
  | true=>exact(List.Perm.cons y (Je8 x r)).trans (List.Perm.swap x y r)
  | false=>exact .refl _
theorem Hef:∀ l,(Q98 l).Perm l
 | []=>.refl _
 | x::r=>(Je8 x _).trans ((Hef r).cons x)
theorem Q26 (x:G1):∀ {l:List G1},l.Pairwise (fun a b=>a.Box≤b.Box)→(Y16 x l).Pairwise (fun a b=>a.Box≤b.Box)
 | [],_=>by simp [Y16]
 | y::r,h=>by
  unfold Y16
  obtain⟨h1,h2⟩:=List.pairwise_cons.1 h
  cases hc:decide (y.Box < x.Box) with
  | true=>
   have hc:=M1 hc
   refine List.pairwise_cons.2 ⟨fun z hz=>?_,Q26 x h2⟩
   rcases Mq.1 ((Je8 x r).mem_iff.1 hz) with rfl | hz
   ·show y.Box≤z.Box; omega
   ·exact h1 z hz
  | false=>
   have hc:=M2 hc
   refine List.pairwise_cons.2 ⟨fun z hz=>?_,h⟩
   rcases Mq.1 hz with rfl | hz
   ·show x.Box≤z.Box; omega
   ·have h3:y.Box≤z.Box:=h1 z hz
    show x.Box≤z.Box; omega
theorem Hee:∀ l:List G1,(Q98 l).Pairwise (fun a b=>a.Box≤b.Box)
 | []=>List.Pairwise.nil
 | x::r=>Q26 x (Hee r)
theorem Q99 {a b:List G1} (hp:a.Perm b) (hn:(b.map (·.Box)).Nodup) (ha:a.Pairwise (fun a b=>a.Box≤b.Box)) (hb:b.Pairwise (fun a b=>a.Box≤b.Box)):a=b:=by
 have inj:∀ x∈b,∀ y∈b,x.Box=y.Box→x=y:=by
  clear hp ha hb
  induction b with
  | nil=>intro x hx; cases hx
  | cons z r ih=>
   rw [List.map_cons,List.nodup_cons] at hn
   intro x hx y hy e
   rcases Mq.1 hx with h1 | h1 <;> rcases Mq.1 hy with h2 | h2
   ·rw [h1,h2]
   ·exact(hn.1 (Mo.2 ⟨y,h2,by rw [← e,h1]⟩)).elim
   ·exact(hn.1 (Mo.2 ⟨x,h1,by rw [e,h2]⟩)).elim
   ·exact ih hn.2 x h1 y h2 e
 exact List.Perm.eq_of_pairwise (le:=fun a b:G1=>a.Box≤b.Box) (fun x y hx hy h1 h2=>inj x (hp.mem_iff.1 hx) y hy (by omega)) ha hb hp
theorem R9c {q l:List G1} (hq:q.Perm l) (hn:(l.map (·.Box)).Nodup) (hl:l.length < 4611686018427387904):Q22 (fun z0 z1=>Rn z0 z1) q=some (Q98 l):=by
 rw [Yc3 Ya5 Y3a Qc6 (by rw [hq.length_eq]; exact hl)]
 obtain⟨hp,h1,hs⟩:=Q23 Ya5 Qc6 q
 congr 1
 refine Q99 (hp.trans (hq.trans (Hef l).symm)) (((Hef l).map _).nodup_iff.2 hn) (List.pairwise_iff_getElem.2 fun i j hi hj h0=>?_) (Hee l)
 have:=hs i j h0 hj
 rw [Ha8,decide_eq_false_iff_not] at this
 show _≤_
 omega
def Je6 (p:Slot×Box):G1:=G1.mk p.2.ID p.1
def onB (m:Gc):List G1:=(Gu.Ha m.on).map Je6
def G06 (m:Gc):Option (List G1):=
 need (decide ((onB m).length*32≤140737488355328∧(onB m).length≤maxLen∧((onB m).map (·.Box)).Nodup)) <| some (Q98 (onB m))
theorem H57 (m:Gc) (r:List G1) (h:G06 m=some r):∃ p:Prop,G08 m (fun r_=>r_=r)=some p∧p:=by
 obtain⟨hr,h⟩:=Jf h
 obtain⟨h1,h2,h3⟩:=M1 hr
 cases h
 refine⟨_,rfl,fun q hq=>?_⟩
 have hl:q.length=(onB m).length:=by rw [onB,Mm,hq.length_eq]
 refine⟨(Q98 (onB m)=Q98 (onB m)),?_,rfl⟩
 refine(R0d (f:=Je6) (c:=32) q [] (by simp only [List.length_nil,Nat.zero_add,hl]; exact⟨h1,h2⟩)).trans ?_
 rw [List.nil_append,R9c (hq.map Je6) h3 (by show (onB m).length < _; omega)]
 rfl
def Haa:=PLift.up (J9e G06 H57)
end Go.Proofs.YtgcpimpnpcdmmaaGreat
