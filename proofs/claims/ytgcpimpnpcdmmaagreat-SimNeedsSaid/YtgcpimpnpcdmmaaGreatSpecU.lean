/- What the simulator's State returns: -/
import Derived.Test.YtgcpimpnpcdmmaaGreatXU
set_option maxRecDepth 100000
namespace Go.Proofs.YtgcpimpnpcdmmaaGreat
open Go.RowKit Go.Shelf Go.Sort

theorem R37 {α γ β:Type} {kx:List γ→Option β} {f:α→γ} {c:Nat}:∀ (q:List α) (s:List γ),((s.length+q.length)*c≤140737488355328∧s.length+q.length≤maxLen) →
  H11 (fun(x:α) (s:List γ) nx=>need (decide ((s.length+[f x].length)*c≤140737488355328∧s.length+[f x].length≤maxLen)) <| nx (s++[f x])) kx q s=kx (s++q.map f)
 | [],s,_=>by simp [H11]
 | x::q,s,h=>by
  rw [Me] at h
  have hc:(s.length+[f x].length)*c≤(s.length+(q.length+1))*c:=Nat.mul_le_mul_right _ (by simp)
  have hd:decide ((s.length+[f x].length)*c≤140737488355328∧s.length+[f x].length≤maxLen)=true:=by
   refine M4 ⟨by omega,?_⟩
   rw [Mj]; omega
  rw [H11,hd]
  simp only [Qd2]
  rw [R37 q (s++[f x]) (by rw [Mi,Mj,Nat.add_assoc,Nat.add_comm 1]; exact h)]
  simp
def J63 (a b:Int):Int:=bif decide (a < b) then -1 else bif decide (b < a) then 1 else 0
theorem Jf5 (a b:Int):Qw a b=some (J63 a b):=by
 have h1:decide (a≠a)=false:=by simp
 have h2:decide (b≠b)=false:=by simp
 simp only [Qw,G8b,bnd,h1,h2,cond_false]
 unfold J63
 cases decide (a < b) <;> cases decide (b < a) <;> rfl
def Yd9 (a b:G1):Int:=J63 a.Box b.Box
theorem Y6b (a b:G1):Y0 a b=some (Yd9 a b):=by
 unfold Y0
 rw [Jf5]; rfl
theorem Hcc (a b:G1):ltOf Yd9 a b=decide (a.Box < b.Box):=by
 unfold ltOf Yd9 J63
 by_cases h1:a.Box < b.Box
 ·simp [h1]
 ·by_cases h2:b.Box < a.Box <;> simp [h1,h2]
theorem Qf1:SWO (ltOf Yd9) where
 irrefl x:=by rw [Hcc]; simp
 trans x y z:=by rw [Hcc,Hcc,Hcc]; simp only [Mm]; omega
 ntrans x y z:=by rw [Hcc,Hcc,Hcc]; simp only [decide_eq_false_iff_not]; omega
def Y4b (x:G1):List G1→List G1
 | []=>[x]
 | y::r=>bif decide (y.Box < x.Box) then y::Y4b x r else x::y::r
def Qbf:List G1→List G1
 | []=>[]
 | x::r=>Y4b x (Qbf r)
theorem Q1b (x:G1):∀ l,(Y4b x l).Perm (x::l)
 | []=>.refl _
 | y::r=>by
  unfold Y4b
  cases decide (y.Box < x.Box) with
  | true=>exact(List.Perm.cons y (Q1b x r)).trans (List.Perm.swap x y r)
  | false=>exact .refl _
theorem J17:∀ l,(Qbf l).Perm l
 | []=>.refl _
 | x::r=>(Q1b x _).trans ((J17 r).cons x)
theorem Q56 (x:G1):∀ {l:List G1},l.Pairwise (fun a b=>a.Box≤b.Box)→(Y4b x l).Pairwise (fun a b=>a.Box≤b.Box)
 | [],_=>by simp [Y4b]
 | y::r,h=>by
  unfold Y4b
  obtain⟨h1,h2⟩:=List.pairwise_cons.1 h
  cases hc:decide (y.Box < x.Box) with
  | true=>
   have hc:=M2 hc
   refine List.pairwise_cons.2 ⟨fun z hz=>?_,Q56 x h2⟩
   rcases Mr.1 ((Q1b x r).mem_iff.1 hz) with rfl | hz
   ·show y.Box≤z.Box; omega
   ·exact h1 z hz
  | false=>
   have hc:=M3 hc
   refine List.pairwise_cons.2 ⟨fun z hz=>?_,h⟩
   rcases Mr.1 hz with rfl | hz
   ·show x.Box≤z.Box; omega
   ·have h3:y.Box≤z.Box:=h1 z hz
    show x.Box≤z.Box; omega
theorem J16:∀ l:List G1,(Qbf l).Pairwise (fun a b=>a.Box≤b.Box)
 | []=>List.Pairwise.nil
 | x::r=>Q56 x (J16 r)
theorem Qc0 {a b:List G1} (hp:a.Perm b) (hn:(b.map (·.Box)).Nodup) (ha:a.Pairwise (fun a b=>a.Box≤b.Box)) (hb:b.Pairwise (fun a b=>a.Box≤b.Box)):a=b:=by
 have inj:∀ x∈b,∀ y∈b,x.Box=y.Box→x=y:=by
  clear hp ha hb
  induction b with
  | nil=>intro x hx; cases hx
  | cons z r ih=>
   rw [List.map_cons,List.nodup_cons] at hn
   intro x hx y hy e
   rcases Mr.1 hx with h1 | h1 <;> rcases Mr.1 hy with h2 | h2
   ·rw [h1,h2]
   ·exact(hn.1 (Mp.2 ⟨y,h2,by rw [← e,h1]⟩)).elim
   ·exact(hn.1 (Mp.2 ⟨x,h1,by rw [e,h2]⟩)).elim
   ·exact ih hn.2 x h1 y h2 e
 exact List.Perm.eq_of_pairwise (le:=fun a b:G1=>a.Box≤b.Box) (fun x y hx hy h1 h2=>inj x (hp.mem_iff.1 hx) y hy (by omega)) ha hb hp
theorem Rc9 {q l:List G1} (hq:q.Perm l) (hn:(l.map (·.Box)).Nodup) (hl:l.length < 4611686018427387904):Q52 (fun z0 z1=>Y0 z0 z1) q=some (Qbf l):=by
 rw [Yf6 Yd9 Y6b Qf1 (by rw [hq.length_eq]; exact hl)]
 obtain⟨hp,h1,hs⟩:=Q53 Yd9 Qf1 q
 congr 1
 refine Qc0 (hp.trans (hq.trans (J17 l).symm)) (((J17 l).map _).nodup_iff.2 hn) (List.pairwise_iff_getElem.2 fun i j hi hj h0=>?_) (J16 l)
 have:=hs i j h0 hj
 rw [Hcc,decide_eq_false_iff_not] at this
 show _≤_
 omega
def Q19 (p:Slot×Box):G1:=G1.mk p.2.ID p.1
def onB (m:Ge):List G1:=(Gw.Hd m.on).map Q19
def Ye (m:Ge):Option (List G1):=
 need (decide ((onB m).length*32≤140737488355328∧(onB m).length≤maxLen∧((onB m).map (·.Box)).Nodup)) <| some (Qbf (onB m))
theorem H75 (m:Ge) (r:List G1) (h:Ye m=some r):∃ p:Prop,G1c m (fun r_=>r_=r)=some p∧p:=by
 obtain⟨hr,h⟩:=Jf h
 obtain⟨h1,h2,h3⟩:=M2 hr
 cases h
 refine⟨_,rfl,fun q hq=>?_⟩
 have hl:q.length=(onB m).length:=by rw [onB,Mn,hq.length_eq]
 refine⟨(Qbf (onB m)=Qbf (onB m)),?_,rfl⟩
 refine(R37 (f:=Q19) (c:=32) q [] (by simp only [List.length_nil,Nat.zero_add,hl]; exact⟨h1,h2⟩)).trans ?_
 rw [List.nil_append,Rc9 (hq.map Q19) h3 (by show (onB m).length < _; omega)]
 rfl
def G9f:=PLift.up (Jcb Ye H75)
end Go.Proofs.YtgcpimpnpcdmmaaGreat
