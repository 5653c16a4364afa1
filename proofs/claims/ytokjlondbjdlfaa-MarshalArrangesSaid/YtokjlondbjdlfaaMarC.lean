/-
 Yards and orders: The reference's Right; begin,Bound;
-/
import Derived.Test.YtokjlondbjdlfaaLentY
set_option maxRecDepth 100000
set_option linter.unusedVariables false
namespace Go.Proofs.Ytokjlondbjdlfaa
open Go.RowKit

section
variable {α β σ:Type}
theorem J14 (P:Option β→Prop) (I:List α→σ→Prop) {b:α→Nat→σ→(σ→Option β)→Option β} {kx:σ→Option β} {xs:List α} {s:σ} (h0:I [] s)
  (hb:∀ pre x post s nx,xs=pre++x::post→I pre s→(∀ s',I (pre++[x]) s'→P (nx s'))→P (b x pre.length s nx)) (hk:∀ s,I xs s→P (kx s)):P (each b kx xs 0 s):=by
 have key:∀ (post pre:List α) (s:σ),xs=pre++post→I pre s→P (each b kx post pre.length s):=by
  intro post
  induction post with
  | nil=>intro pre s e hi; rw [List.append_nil] at e; subst e; exact hk s hi
  | cons x post ih=>
   intro pre s e hi
   rw [each]
   refine hb pre x post s _ e hi (fun s' h1=>?_)
   have:=ih (pre++[x]) s' (by rw [e]; simp) h1
   rw [Kh,Ki] at this
   exact this
 exact key xs [] s rfl h0
end

/-! ### Ranks -/
def rnk (order:List Int) (b:Int):Nat:=order.idxOf b
theorem Jfe (order:List Int) (b:Int):rnk order b≤order.length:=List.idxOf_le_length
theorem Q12 {x v:Int} (l:List Int) (h:x≠v):(x::l).idxOf v=l.idxOf v+1:=by
 rw [List.idxOf_cons]
 have:(x==v)=false:=by simpa using h
 rw [this]; rfl
theorem Jab (v:Int):∀ (l:List Int) (i:Nat),each (fun(y18:Int) i18 (s18:Unit) nx18=>bif decide (v=y18) then (some (i18:Int)) else (nx18 ())) (fun(s18:Unit)=>some (-1)) l i ()=some (if v∈l then ((i+l.idxOf v:Nat):Int) else -1)
 | [],i=>by simp [each]
 | x::l,i=>by
  rw [each]
  by_cases h:v=x
  ·subst h
   rw [Eu rfl,cond_true,if_pos (List.mem_cons_self ..),List.idxOf_cons_self]; rfl
  ·rw [Ev h,cond_false,Jab v l (i+1),Q12 l (fun e=>h e.symm)]
   simp only [Kq,h,false_or]
   split <;> simp <;> omega
theorem Jc3 (l:List Int) (v:Int):Rh l v=some (if v∈l then (l.idxOf v:Int) else -1):=by
 unfold Rh
 rw [Jab v l 0]; simp
theorem H90 (order:List Int) (b:Int):Q7 order b=some (rnk order b:Int):=by
 unfold Q7
 rw [Jc3]
 unfold rnk
 simp only [bnd]
 by_cases h:b∈order
 ·rw [if_pos h,Eu (by omega:(0:Int)≤(order.idxOf b:Int)),cond_true]
 ·rw [if_neg h,Ev (by omega),cond_false,List.idxOf_eq_length h]
theorem Q32 (b:Int) (n:Nat):∀ (l:List Int) (i:Nat),i+l.length=n→each (fun(y17:Int) i17 (s17:Unit) nx17=>bif decide (y17=b) then (some (i17:Int)) else (nx17 ())) (fun(s17:Unit)=>some (n:Int)) l i ()=some ((i+l.idxOf b:Nat):Int)
 | [],i,h=>by simp only [each,List.idxOf_nil]; simp at h; subst h; rfl
 | x::l,i,h=>by
  rw [each]
  by_cases e:x=b
  ·subst e
   rw [Eu rfl,cond_true,List.idxOf_cons_self]; rfl
  ·rw [Ev e,cond_false,Q32 b n l (i+1) (by simp at h; omega),Q12 l e]
   congr 2; omega
theorem G87 (order:List Int) (b:Int):J7 order b=some (rnk order b:Int):=by
 unfold J7
 rw [Q32 b order.length order 0 (by simp)]
 simp [rnk]

/-! ### A right yard, a right order -/
structure Q1 (ss:List (List Int)) (H:Int):Prop where
 low:1≤H
 high:H≤6
 some_:1≤ss.length
 most:ss.length≤30
 fit:∀ s∈ss,(s.length:Int)≤H
 nodup:ss.flatten.Nodup
 ids:∀ b∈ss.flatten,1≤b∧b≤999999
theorem Q1.iff {ss:List (List Int)} {H:Int}:Q1 ss H ↔ (1≤H∧H≤6∧1≤ss.length∧ss.length≤30)∧(∀ s∈ss,(s.length:Int)≤H)∧ss.flatten.Nodup∧∀ b∈ss.flatten,1≤b∧b≤999999:=
 ⟨fun h=>⟨⟨h.low,h.high,h.some_,h.most⟩,h.fit,h.nodup,h.ids⟩,fun h=>⟨h.1.1,h.1.2.1,h.1.2.2.1,h.1.2.2.2,h.2.1,h.2.2.1,h.2.2.2⟩⟩
instance {ss:List (List Int)} {H:Int}:Decidable (Q1 ss H):=decidable_of_iff _ Q1.iff.symm
theorem Hcb {ss:List (List Int)} {k:Nat} (h:∀ s∈ss,s.length≤k):ss.flatten.length≤ss.length*k:=by
 induction ss with
 | nil=>simp
 | cons s r ih=>
  rw [List.flatten_cons,Kh,Kd]
  have h1:=h s (List.mem_cons_self ..)
  have h2:=ih (fun x hx=>h x (List.mem_cons_of_mem _ hx))
  rw [Nat.add_mul,Nat.one_mul]; omega
theorem Q1.len {ss:List (List Int)} {H:Int} (h:Q1 ss H):∀ s∈ss,s.length≤6:=fun s hs=>by
 have:=h.fit s hs; have:=h.high; omega
theorem Q1.all {ss:List (List Int)} {H:Int} (h:Q1 ss H):ss.flatten.length≤180:=by
 have:=Hcb h.len
 have:=h.most
 omega

section
variable {κ ν:Type} [DecidableEq κ]
theorem Q2b (m:Hk κ ν) (a:κ) (v:ν):Hk.Hf (Hk.put m a v)=G95 (Hk.Hf m) a v:=J3e m.l a v
theorem Jd3 (m:Hk κ ν) (a b:κ) (v z:ν):Hk.get (Hk.put m a v) b z=if a=b then v else Hk.get m b z:=by
 unfold Hk.get
 rw [Q2b,H33]
 split <;> rfl
theorem Q8b (m:Hk κ ν) (a b:κ) (v:ν):Hk.has (Hk.put m a v) b=(decide (a=b)||Hk.has m b):=by
 unfold Hk.has
 rw [Q2b,← G4d,← G4d,H33]
 by_cases h:a=b <;> simp [h]
end

/-! ### The program's Right -/
theorem Gdb (ss:List (List Int)) (H:Int):Zp ⟨ss,H⟩=some (decide (Q1 ss H)):=by
 refine Yh ?_
 unfold Zp
 refine Jd (fun h=>Ht ?_) (fun h=>?_)
 ·simp only [Ks,Kk] at h
  refine(Ev fun hr=>?_).symm
  have:=hr.low; have:=hr.high; have:=hr.some_; have:=hr.most
  omega
 simp only [Kt,decide_eq_false_iff_not] at h
 have h8:1≤H∧H≤6∧1≤ss.length∧ss.length≤30:=by omega
 refine Qq (fun pre s=>(∀ x∈pre,(x.length:Int)≤H)∧pre.flatten.Nodup∧(∀ b∈pre.flatten,1≤b∧b≤999999)∧∀ b,Hk.get s b 0=if b∈pre.flatten then 1 else 0) ⟨by simp,by simp,by simp,fun b=>by simp; rfl⟩ (fun pre x post s nx e hI h9=>?_) (fun s hI=>Ht ?_)
 ·have e:ss=pre++x::post:=e
  obtain⟨h1,h2,h3,h4⟩:=hI
  refine Jd (fun hx=>Ht ?_) (fun hx=>?_)
  ·refine(Ev fun hr=>?_).symm
   have:=hr.fit x (by rw [e]; simp)
   have hx:H < (x.length:Int):=Er hx
   omega
  have hx:¬ H < (x.length:Int):=Es hx
  refine Qq (fun pr s=>(pre.flatten++pr).Nodup∧(∀ b∈pre.flatten++pr,1≤b∧b≤999999)∧∀ b,Hk.get s b 0=if b∈pre.flatten++pr then 1 else 0) ⟨by simpa using h2,by simpa using h3,by simpa using h4⟩ (fun pr b po s nx' e' h5 h7=>?_) (fun s h5=>h9 s ?_)
  ·obtain⟨g1,g2,g3⟩:=h5
   have hm:b∈ss.flatten:=by
    rw [e,e',List.flatten_append,List.flatten_cons]; simp
   refine Gy rfl ?_
   rw [g3 b]
   refine R5 (by split <;> omega) ?_
   by_cases hb:1≤b∧b≤999999
   ·have hc:(!(decide (b < 1)||decide (999999 < b)))=true:=by simp; omega
    rw [hc,cond_true,Jd3,if_pos rfl]
    refine Gy rfl (Jd (fun hf=>Ht ?_) (fun hf=>h7 _ ?_))
    ·refine(Ev fun hr=>?_).symm
     simp only [Ks,Kk] at hf
     have h0:b∈pre.flatten++pr:=by
      refine Classical.byContradiction fun hn=>?_
      rw [if_neg hn] at hf; omega
     have h6:=hr.nodup
     rw [e,e',List.flatten_append,List.flatten_cons,List.append_assoc,← List.append_assoc] at h6
     have:=(List.nodup_append.1 h6).2.2 b h0 b (by simp)
     exact this rfl
    ·simp only [Kt,decide_eq_false_iff_not] at hf
     have h0:b ∉ pre.flatten++pr:=fun hn=>by rw [if_pos hn] at hf; omega
     rw [← List.append_assoc]
     refine⟨List.nodup_append.2 ⟨g1,by simp,fun a ha c hc=>?_⟩,fun a ha=>?_,fun a=>?_⟩
     ·rw [Kp] at hc; subst hc; exact fun e=>h0 (e ▸ ha)
     ·rcases Kn.1 ha with ha | ha
      ·exact g2 a ha
      ·rw [Kp] at ha; subst ha; exact hb
     ·rw [Jd3,g3 a]
      by_cases ea:b=a
      ·subst ea; rw [if_pos rfl]; simp [h0]
      ·rw [if_neg ea]; simp [Ne.symm ea]
   ·have hc:(!(decide (b < 1)||decide (999999 < b)))=false:=by
     simp only [Bool.not_eq_false',Ks,Kk]; omega
    rw [hc,cond_false]
    refine Gy rfl (Jd (fun hf=>Ht ?_) (fun hf=>?_))
    ·exact(Ev fun hr=>hb (hr.ids b hm)).symm
    ·simp only [Kt,decide_eq_false_iff_not] at hf
     omega
  ·rw [List.flatten_append,List.flatten_singleton]
   refine⟨fun y hy=>?_,h5⟩
   rcases Kn.1 hy with hy | hy
   ·exact h1 y hy
   ·rw [Kp] at hy; subst hy; omega
 ·exact(Eu (Q1.iff.2 ⟨h8,hI.1,hI.2.1,hI.2.2.1⟩)).symm

theorem Qbf {ss:List (List Int)} {H:Int} (h:ss.flatten.length≤10000000):Qz ⟨ss,H⟩=some ss.flatten:=by
 refine Yh ?_
 unfold Qz
 refine Qq (fun pre s=>s=pre.flatten) rfl (fun pre x post s nx e hI h0=>?_) (fun s hI=>Ht hI)
 have e:ss=pre++x::post:=e
 subst hI
 refine Qw (G26 ?_ (by decide)) (h0 _ (by simp))
 rw [e,List.flatten_append,List.flatten_cons,Kh,Kh] at h
 omega

theorem Hb5 (F:Nat) (ss:List (List Int)) (H:Int):Qd F ⟨ss,H⟩=some (decide (Q1 ss H)):=by
 refine Yh ?_
 unfold Qd
 refine Jd (fun h=>Ht ?_) (fun h=>?_)
 ·simp only [Ks,Kk] at h
  refine(Ev fun hr=>?_).symm
  have:=hr.low; have:=hr.high; have:=hr.some_; have:=hr.most
  omega
 simp only [Kt,decide_eq_false_iff_not] at h
 have h3:1≤H∧H≤6∧1≤ss.length∧ss.length≤30:=by omega
 refine Qq (fun pre s=>∀ x∈pre,(x.length:Int)≤H) (by simp) (fun pre x post s nx e hI h0=>?_) (fun s hI=>?_)
 ·have e:ss=pre++x::post:=e
  refine Jd (fun hx=>Ht ?_) (fun hx=>h0 _ fun y hy=>?_)
  ·refine(Ev fun hr=>?_).symm
   have:=hr.fit x (by rw [e]; simp)
   have hx:H < (x.length:Int):=Er hx
   omega
  ·have hx:¬ H < (x.length:Int):=Es hx
   rcases Kn.1 hy with hy | hy
   ·exact hI y hy
   ·rw [Kp] at hy; subst hy; omega
 ·have hI:∀ x∈ss,(x.length:Int)≤H:=hI
  have hl:ss.flatten.length≤180:=by
   have:=Hcb (ss:=ss) (k:=6) (fun x hx=>by have:=hI x hx; omega)
   omega
  refine Gy (Qbf (by omega)) ?_
  refine Qq (fun pre s=>pre.Nodup∧∀ b∈pre,1≤b∧b≤999999) ⟨by simp,by simp⟩ (fun pre b post s nx e hJ h0=>?_) (fun s hJ=>Ht ?_)
  ·have hm:b∈ss.flatten:=by rw [e]; simp
   refine Jd (fun hb=>Ht ?_) (fun hb=>?_)
   ·simp only [Ks,Kk] at hb
    refine(Ev fun hr=>?_).symm
    have:=hr.ids b hm; omega
   ·simp only [Kt,decide_eq_false_iff_not] at hb
    have hp:pre.length < 180:=by
     have:=congrArg List.length e
     simp only [Kh,Kd] at this; omega
    refine Qw (Eu (by omega)) ?_
    have ht:((pre.length:Int)).toNat=pre.length:=by omega
    rw [ht]
    refine H2c (fun i s=>b ∉ pre.take i) (by simp) (fun i s nx' hi hK h2=>?_) (fun s hK=>h0 _ ?_)
    ·refine Qx (m:=i) rfl (x:=pre[i]) (by rw [e,Kc hi,Ex hi]) ?_
     refine Jd (fun hc=>Ht ?_) (fun hc=>h2 _ ?_)
     ·have hc:=Er hc
      refine(Ev fun hr=>?_).symm
      have h1:=hr.nodup
      rw [e] at h1
      exact(List.nodup_append.1 h1).2.2 b (by rw [← hc]; exact List.getElem_mem hi) b (by simp) rfl
     ·have hc:=Es hc
      rw [List.take_add_one,Ex hi,Kn]
      simp only [Option.toList_some,Kp]
      exact fun h=>h.elim hK (fun h=>hc h.symm)
    ·rw [List.take_length] at hK
     refine⟨List.nodup_append.2 ⟨hJ.1,by simp,fun a ha c hc=>?_⟩,fun a ha=>?_⟩
     ·rw [Kp] at hc; subst hc; exact fun e=>hK (e ▸ ha)
     ·rcases Kn.1 ha with ha | ha
      ·exact hJ.2 a ha
      ·rw [Kp] at ha; subst ha; omega
  ·exact(Eu (Q1.iff.2 ⟨h3,hI,hJ.1,hJ.2⟩)).symm

/-! ### Find -/
def G31 (b:Int):List (List Int)→Nat→Int×Int×Bool
 | [],_=>(0,0,false)
 | s::r,i=>if b∈s then ((i:Int),(s.idxOf b:Int),true) else G31 b r (i+1)
theorem Q41 (b:Int):∀ (ss:List (List Int)) (i:Nat),each (fun(y22:List Int) i22 (s22:Unit) nx22=>bnd (Rh y22 b) fun r28=>bif decide (0≤r28) then (some ((i22:Int),r28,true)) else (nx22 ())) (fun(s22:Unit)=>some ((0:Int),(0:Int),false)) ss i ()=some (G31 b ss i)
 | [],i=>rfl
 | s::r,i=>by
  rw [each,Jc3,G31,G08]
  by_cases h:b∈s
  ·rw [if_pos h,if_pos h,Eu (by omega),cond_true]
  ·rw [if_neg h,if_neg h,Ev (by omega),cond_false,Q41 b r (i+1)]
theorem Hde (ss:List (List Int)) (H b:Int):Zq ⟨ss,H⟩ b=some (G31 b ss 0):=by
 unfold Zq
 exact Q41 b ss 0
theorem J9d {β:Type} (b:Int) (z:Nat→Option β) (k:Option β):∀ (s:List Int) (i:Nat),each (fun(y22:Int) i22 (s22:Unit) nx22=>bif decide (y22=b) then z i22 else (nx22 ())) (fun(s22:Unit)=>k) s i ()=if b∈s then z (i+s.idxOf b) else k
 | [],i=>by simp [each]
 | x::l,i=>by
  rw [each]
  by_cases h:x=b
  ·subst h
   rw [Eu rfl,cond_true,if_pos (List.mem_cons_self ..),List.idxOf_cons_self]; rfl
  ·rw [Ev h,cond_false,J9d b z k l (i+1),Q12 l h]
   simp only [Kq,Ne.symm h,false_or]
   split
   ·congr 1; omega
   ·rfl
theorem J47 (b:Int):∀ (ss:List (List Int)) (i:Nat),each (fun(y4:List Int) i4 (s4:Unit) nx4=>each (fun(y22:Int) i22 (s22:Unit) nx22=>bif decide (y22=b) then (some ((i4:Int),(i22:Int),true)) else (nx22 ())) (fun(s22:Unit)=>nx4 ()) y4 0 ()) (fun(s4:Unit)=>some ((0:Int),(0:Int),false)) ss i ()=some (G31 b ss i)
 | [],i=>rfl
 | s::r,i=>by
  rw [each,J9d b (fun j=>some ((i:Int),(j:Int),true)),G31,J47 b r (i+1)]
  split
  ·simp
  ·rfl
theorem Jbd (F:Nat) (ss:List (List Int)) (H b:Int):R9 F ⟨ss,H⟩ b=some (G31 b ss 0):=by
 unfold R9
 exact J47 b ss 0
theorem H8a (b:Int):∀ (ss:List (List Int)) (i:Nat),(G31 b ss i).2.2=decide (b∈ss.flatten)
 | [],i=>by simp [G31]
 | s::r,i=>by
  rw [G31]
  by_cases h:b∈s
  ·simp [h]
  ·rw [if_neg h,H8a b r (i+1)]; simp [h]

/-! ### Orders -/
structure H64 (ss:List (List Int)) (order:List Int):Prop where
 nodup:order.Nodup
 in_:∀ b∈order,b∈ss.flatten
theorem H64.iff {ss:List (List Int)} {order:List Int}:H64 ss order ↔ order.Nodup∧∀ b∈order,b∈ss.flatten:=⟨fun h=>⟨h.1,h.2⟩,fun h=>⟨h.1,h.2⟩⟩
instance {ss:List (List Int)} {order:List Int}:Decidable (H64 ss order):=decidable_of_iff _ H64.iff.symm
structure G11 (ss:List (List Int)) (H:Int) (order:List Int):Prop where
 y:Q1 ss H
 o:H64 ss order
theorem G11.iff {ss:List (List Int)} {H:Int} {order:List Int}:G11 ss H order ↔ Q1 ss H∧H64 ss order:=⟨fun h=>⟨h.1,h.2⟩,fun h=>⟨h.1,h.2⟩⟩
instance {ss:List (List Int)} {H:Int} {order:List Int}:Decidable (G11 ss H order):=decidable_of_iff _ G11.iff.symm

theorem J68 {pre post:List Int} {b:Int}:rnk (pre++b::post) b=pre.length ↔ b ∉ pre:=by
 unfold rnk
 rw [List.idxOf_append]
 split
 ·rename_i h
  have:=List.idxOf_lt_length_of_mem h
  exact⟨fun e=>by omega,fun h'=>(h' h).elim⟩
 ·rename_i h
  rw [List.idxOf_cons_self]; simp [h]
theorem H00 (F:Nat) (ss:List (List Int)) (H:Int) (order:List Int):Q3 F ⟨ss,H⟩ order=some (decide (G11 ss H order)):=by
 refine Yh ?_
 unfold Q3
 refine Gy (Hb5 F ss H) (Jd (fun h=>Ht ?_) (fun h=>?_))
 ·refine(Ev fun hr=>?_).symm
  simp [hr.y] at h
 have hY:Q1 ss H:=by simpa using h
 refine Qq (fun pre s=>pre.Nodup∧∀ b∈pre,b∈ss.flatten) ⟨by simp,by simp⟩ (fun pre b post s nx e hI h1=>?_) (fun s hI=>Ht ?_)
 ·refine Gy (Jbd F ss H b) ?_
  rw [H8a,G87]
  by_cases hb:b∈ss.flatten
  ·rw [Eu hb]
   refine Gy (x:=(rnk order b:Int)) rfl (Jd (fun hf=>Ht ?_) (fun hf=>h1 _ ?_))
   ·refine(Ev fun hr=>?_).symm
    have hf:(rnk order b:Int)≠(pre.length:Int):=by simpa using hf
    have h0:=hr.o.nodup
    rw [e] at h0 hf
    have:b∈pre:=Classical.byContradiction fun hn=>hf (by rw [J68.2 hn])
    exact(List.nodup_append.1 h0).2.2 b this b (by simp) rfl
   ·have hf:(rnk order b:Int)=(pre.length:Int):=by simpa using hf
    rw [e] at hf
    have hn:b ∉ pre:=(J68 (post:=post)).1 (by omega)
    refine⟨List.nodup_append.2 ⟨hI.1,by simp,fun a ha c hc=>?_⟩,fun a ha=>?_⟩
    ·rw [Kp] at hc; subst hc; exact fun e=>hn (e ▸ ha)
    ·rcases Kn.1 ha with ha | ha
     ·exact hI.2 a ha
     ·rw [Kp] at ha; subst ha; exact hb
  ·rw [Ev hb]
   exact Gy (x:=default) rfl (Jd (fun _=>Ht (Ev fun hr=>hb (hr.o.in_ b (by rw [e]; simp))).symm) (fun hf=>by simp at hf))
 ·exact(Eu ⟨hY,⟨hI.1,hI.2⟩⟩).symm

section
theorem Q08 {α β:Type} [DecidableEq β] {xs:List α} {k:Bool→Option β} {r:Option β} (h:∀ b,(b=true→xs=[])→k b=r):Qe0 xs k=r:=by
 unfold Qe0
 cases xs with
 | nil=>rw [h true (fun _=>rfl),h false (fun e=>by cases e)]; simp
 | cons x l=>exact h false (fun e=>by cases e)
end
theorem Q71 {s:List Int} (h:s.length≤1000000):Ri s=some s:=by
 unfold Ri
 refine Q08 (fun b hb=>?_)
 cases b with
 | true=>rw [hb rfl]; rfl
 | false=>rw [cond_false,show decide ((([]:List Int).length+s.length)*8≤140737488355328∧([]:List Int).length+s.length≤maxLen)=true from G26 (by rw [List.length_nil]; omega) (by decide)]; rfl

structure Qb2 (ss:List (List Int)) (order:List Int) (j:Hm):Prop where
 stacks:j.stacks=ss
 order_:j.order=order
 has:∀ b,Hk.has j.ranks b=decide (b∈order)
 get:∀ b,b∈order→Hk.get j.ranks b 0=(rnk order b:Int)

theorem Haf {β:Type} {ss:List (List Int)} {z:Int×(List Int)×(List Gx)×Int} (hn:ss.length≤30) (hl:∀ s∈ss,s.length≤6) (P:Option β→Prop) {k:(List (List Int))×Int×(List Int)×(List Gx)×Int→Option β} (h:P (k (ss,z))) :
  P (each (fun(y37:List Int) (i37:Nat) (s37:(List (List Int))×Int×(List Int)×(List Gx)×Int) nx37=>bnd (Ri y37) fun r42=>need (decide ((s37.1.length+[r42].length)*24≤140737488355328∧s37.1.length+[r42].length≤maxLen)) <| nx37 ((s37.1++[r42]),s37.2.1,s37.2.2.1,s37.2.2.2.1,s37.2.2.2.2)) k ss 0 ([],z)):=by
 refine J14 P (fun pre s=>s=(pre,z)) rfl (fun pre x post s nx e hI h0=>?_) (fun s hI=>by rw [hI]; exact h)
 subst hI
 have hx:=hl x (by rw [e]; simp)
 have hp:pre.length < 30:=by
  have:=congrArg List.length e
  simp only [Kh,Kd] at this; omega
 rw [Q71 (by omega),G08,show decide ((pre.length+[x].length)*24≤140737488355328∧pre.length+[x].length≤maxLen)=true from G26 (by rw [Ki]; omega) (by decide)]
 exact h0 _ rfl
theorem Q66 {pre:List Int} {s:Hk Int Int} {b:Int} (hn:b ∉ pre) (h1:∀ a,Hk.has s a=decide (a∈pre)) (h2:∀ a,a∈pre→Hk.get s a 0=(rnk pre a:Int)) :
  (∀ a,Hk.has (Hk.put s b (pre.length:Int)) a=decide (a∈pre++[b]))∧∀ a,a∈pre++[b]→Hk.get (Hk.put s b (pre.length:Int)) a 0=(rnk (pre++[b]) a:Int):=by
 refine⟨fun a=>?_,fun a ha=>?_⟩
 ·rw [Q8b,h1]
  by_cases e:b=a
  ·subst e; simp
  ·simp [e,Ne.symm e]
 ·rw [Jd3]
  by_cases e:b=a
  ·subst e; rw [if_pos rfl,J68.2 hn]
  ·rw [if_neg e]
   have ha:a∈pre:=by simpa [Ne.symm e] using ha
   rw [h2 a ha]
   unfold rnk
   rw [List.idxOf_append,if_pos ha]
theorem Q18 {ss:List (List Int)} {H:Int} {order:List Int} (h:G11 ss H order):Wp (Qg ⟨ss,H⟩ order) (fun r=>r.2=true∧Qb2 ss order r.1):=by
 unfold Qg
 refine Gy (Gdb ss H) ?_
 rw [Eu h.y]
 refine Haf h.y.most h.y.len (fun m=>Wp m _) ?_
 refine Qq (fun pre s=>(∀ a,Hk.has s a=decide (a∈pre))∧∀ a,a∈pre→Hk.get s a 0=(rnk pre a:Int)) ⟨fun a=>by simp; rfl,by simp⟩ (fun pre b post s nx e hI h1=>?_) (fun s hI=>Ht ⟨rfl,rfl,rfl,hI.1,hI.2⟩)
 refine Gy (Hde ss H b) (Gy rfl ?_)
 have h0:=h.o.nodup
 rw [e] at h0
 have hn:b ∉ pre:=fun hb=>(List.nodup_append.1 h0).2.2 b hb b (by simp) rfl
 rw [H8a,hI.1,Ev hn,Eu (h.o.in_ b (by rw [e]; simp))]
 exact h1 _ (Q66 hn hI.1 hI.2)
theorem Q19 {ss:List (List Int)} {H:Int} {order:List Int} (h:¬ G11 ss H order):Qg ⟨ss,H⟩ order=none∧Ya ⟨ss,H⟩ order=some false:=by
 by_cases hY:Q1 ss H
 ·have hO:¬ H64 ss order:=fun hO=>h ⟨hY,hO⟩
  have fin:∀ s:Hk Int Int,(order.Nodup∧(∀ a∈order,a∈ss.flatten))∧(∀ a,Hk.has s a=decide (a∈order))→False:=fun s hs=>hO ⟨hs.1.1,hs.1.2⟩
  have step:∀ (pre:List Int) (b:Int) (post:List Int) (s:Hk Int Int),order=pre++b::post→(pre.Nodup∧(∀ a∈pre,a∈ss.flatten))∧(∀ a,Hk.has s a=decide (a∈pre))→(Hk.has s b||!(G31 b ss 0).2.2)=false →
    ((pre++[b]).Nodup∧(∀ a∈pre++[b],a∈ss.flatten))∧(∀ a,Hk.has (Hk.put s b (pre.length:Int)) a=decide (a∈pre++[b])):=fun pre b post s e hI hf=>by
   rw [H8a,hI.2] at hf
   simp only [Kt,decide_eq_false_iff_not,Bool.not_eq_false',Kk] at hf
   refine⟨⟨List.nodup_append.2 ⟨hI.1.1,by simp,fun a ha c hc=>?_⟩,fun a ha=>?_⟩,fun a=>?_⟩
   ·rw [Kp] at hc; subst hc; exact fun e=>hf.1 (e ▸ ha)
   ·rcases Kn.1 ha with ha | ha
    ·exact hI.1.2 a ha
    ·rw [Kp] at ha; subst ha; exact hf.2
   ·rw [Q8b,hI.2]
    by_cases e:b=a
    ·subst e; simp
    ·simp [e,Ne.symm e]
  constructor
  ·unfold Qg
   rw [Gdb,Eu hY,G08]
   refine Haf hY.most hY.len (fun m=>m=none) ?_
   refine J14 (fun m=>m=none) (fun pre s=>(pre.Nodup∧(∀ a∈pre,a∈ss.flatten))∧(∀ a,Hk.has s a=decide (a∈pre))) ⟨⟨by simp,by simp⟩,fun a=>by simp; rfl⟩ (fun pre b post s nx e hI h0=>?_) (fun s hI=>(fin s hI).elim)
   rw [Hde,G08,G08]
   cases hc:(Hk.has s b||!(G31 b ss 0).2.2) with
   | true=>rfl
   | false=>exact h0 _ (step pre b post s e hI hc)
  ·unfold Ya
   rw [Gdb,Eu hY,G08]
   refine Haf hY.most hY.len (fun m=>m=some false) ?_
   refine J14 (fun m=>m=some false) (fun pre s=>(pre.Nodup∧(∀ a∈pre,a∈ss.flatten))∧(∀ a,Hk.has s a=decide (a∈pre))) ⟨⟨by simp,by simp⟩,fun a=>by simp; rfl⟩ (fun pre b post s nx e hI h0=>?_) (fun s hI=>(fin s hI).elim)
   rw [Hde,G08,G08]
   cases hc:(Hk.has s b||!(G31 b ss 0).2.2) with
   | true=>rfl
   | false=>exact h0 _ (step pre b post s e hI hc)
 ·unfold Qg Ya
  rw [Gdb,Ev hY]
  exact⟨rfl,rfl⟩

/-! ### In the way -/
def G2b (order:List Int):Nat→List Int→List Int
 | _,[]=>[]
 | m,b::r=>if m < rnk order b then b::G2b order m r else G2b order (rnk order b) r
def mnF (order:List Int) (m:Nat) (s:List Int):Nat:=s.foldl (fun m b=>min m (rnk order b)) m
def Rn (order:List Int) (ss:List (List Int)):List Int:=ss.flatMap (G2b order order.length)
theorem H7f (order:List Int) (m:Nat) (s:List Int) (b:Int):mnF order m (s++[b])=min (mnF order m s) (rnk order b):=by
 unfold mnF; rw [List.foldl_append]; rfl
theorem Zx (order:List Int) (b:Int):∀ (s:List Int) (m:Nat),G2b order m (s++[b])=G2b order m s++(if mnF order m s < rnk order b then [b] else [])
 | [],m=>by
  show (if m < rnk order b then [b] else [])=[]++(if m < rnk order b then [b] else [])
  rw [List.nil_append]
 | x::s,m=>by
  rw [List.cons_append,G2b,G2b,Zx order b s,Zx order b s]
  have e:mnF order m (x::s)=mnF order (min m (rnk order x)) s:=rfl
  rw [e]
  by_cases h:m < rnk order x
  ·rw [if_pos h,if_pos h,Nat.min_eq_left (by omega)]; rfl
  ·rw [if_neg h,if_neg h,Nat.min_eq_right (by omega)]
theorem Gd6 (order:List Int):∀ (s:List Int) (m:Nat),(G2b order m s).Sublist s
 | [],m=>by simp [G2b]
 | x::s,m=>by
  rw [G2b]
  split
  ·exact(Gd6 order s m).cons_cons x
  ·exact(Gd6 order s _).cons x
theorem H0f (order:List Int) (a b:List (List Int)):Rn order (a++b)=Rn order a++Rn order b:=by
 unfold Rn; rw [List.flatMap_append]
theorem Hdf (order:List Int) (s:List Int):Rn order [s]=G2b order order.length s:=by simp [Rn]
theorem G9e (order:List Int):∀ ss:List (List Int),(Rn order ss).Sublist ss.flatten
 | []=>by simp [Rn]
 | s::r=>by
  have:Rn order (s::r)=G2b order order.length s++Rn order r:=rfl
  rw [this,List.flatten_cons]
  exact(Gd6 order s _).append (G9e order r)
theorem J63 {order:List Int} {ss pre post:List (List Int)} {s pr po:List Int} {b:Int} (e:ss=pre++s::post) (e':s=pr++b::po) (h:ss.flatten.length≤180):(Rn order pre).length+(G2b order order.length pr).length < 180:=by
 have h1:=(G9e order pre).length_le
 have h2:=(Gd6 order pr order.length).length_le
 rw [e,e',List.flatten_append,List.flatten_cons,Kh,Kh,Kh,Kd] at h
 omega
theorem Qa2 {ss:List (List Int)} {order:List Int} {j:Hm} (hj:Qb2 ss order j) (b:Int):Yx j b=some (rnk order b:Int):=by
 unfold Yx
 rw [G08,hj.has b]
 by_cases h:b∈order
 ·rw [Eu h,cond_true,hj.get b h]
 ·rw [Ev h,cond_false,hj.order_]
  unfold rnk
  rw [List.idxOf_eq_length h]
theorem Qe5 {ss:List (List Int)} {order:List Int} {j:Hm} (hj:Qb2 ss order j) (hl:ss.flatten.length≤180):Za j=some ((Rn order ss).length:Int):=by
 refine Yh ?_
 unfold Za
 rw [hj.stacks,hj.order_]
 refine Qq (fun pre s=>s=((Rn order pre).length:Int)) rfl (fun pre x post s nx e hI h1=>?_) (fun s hI=>Ht hI)
 subst hI
 refine Qq (fun pr s=>s=((((Rn order pre).length+(G2b order order.length pr).length:Nat):Int),(mnF order order.length pr:Int))) rfl (fun pr b po s nx' e' hJ h0=>?_) (fun s hJ=>h1 _ ?_)
 ·subst hJ
  have h2:=J63 (order:=order) e e' hl
  refine H42 (fun r=>r=((((Rn order pre).length+(G2b order order.length (pr++[b])).length:Nat):Int),(mnF order order.length (pr++[b]):Int))) (fun K hK=>?_) (fun a ha=>h0 _ ha)
  refine Gy (Qa2 hj b) (Jd (fun h=>?_) (fun h=>hK _ ?_))
  ·have h:mnF order order.length pr < rnk order b:=by have:=Er h; omega
   refine R5 (by dsimp only; omega) (hK _ ?_)
   rw [Zx,if_pos h,H7f,Nat.min_eq_left (by omega),Kh]
   rfl
  ·have h:¬ mnF order order.length pr < rnk order b:=by have:=Es h; omega
   rw [Zx,if_neg h,H7f,Nat.min_eq_right (by omega),List.append_nil]
 ·subst hJ
  rw [H0f,Hdf,Kh]
theorem J6f {ss:List (List Int)} {H:Int} {order:List Int} (hl:ss.flatten.length≤180):Rc ⟨ss,H⟩ order=some (Zy (Rn order ss)):=by
 refine Yh ?_
 unfold Rc
 refine Qq (fun pre s=>s=Rn order pre) rfl (fun pre x post s nx e hI h1=>?_) (fun s hI=>?_)
 ·have e:ss=pre++x::post:=e
  subst hI
  refine Qq (fun pr s=>s=((mnF order order.length pr:Int),Rn order pre++G2b order order.length pr)) (by simp [G2b,mnF]) (fun pr b po s nx' e' hJ h0=>?_) (fun s hJ=>h1 _ ?_)
  ·subst hJ
   have h2:=J63 (order:=order) e e' hl
   refine Gy (H90 order b) (H42 (fun r=>r=Rn order pre++G2b order order.length (pr++[b])) (fun K hK=>?_) (fun a ha=>h0 _ ?_))
   ·refine Jd (fun h=>?_) (fun h=>hK _ ?_)
    ·have h:mnF order order.length pr < rnk order b:=by have:=Er h; omega
     refine Qw (G26 (by simp only [Kh,Ki]; omega) (by decide)) (hK _ ?_)
     rw [Zx,if_pos h,List.append_assoc]
    ·have h:¬ mnF order order.length pr < rnk order b:=by have:=Es h; omega
     rw [Zx,if_neg h,List.append_nil]
   ·rw [ha,H7f]
    congr 1
    omega
  ·subst hJ
   rw [H0f,Hdf]
 ·have hI:s=Rn order ss:=hI
  subst hI
  have:=(G9e order ss).length_le
  refine Gy (x:=Zy (Rn order ss)) ?_ (Ht rfl)
  unfold Hf6
  rw [Eu (by omega)]; rfl
theorem H86 (F:Nat) {ss:List (List Int)} {H:Int} {order:List Int} (hl:ss.flatten.length≤180):J0 F ⟨ss,H⟩ order=some (Rn order ss):=by
 refine Yh ?_
 unfold J0
 refine Qq (fun pre s=>s=Rn order pre) rfl (fun pre x post s nx e hI h4=>?_) (fun s hI=>Ht hI)
 have e:ss=pre++x::post:=e
 subst hI
 refine Qq (fun pr s=>s=Rn order pre++G2b order order.length pr) (by simp [G2b]) (fun pr b po s nx' e' hJ h3=>?_) (fun s hJ=>h4 _ ?_)
 ·subst hJ
  have h6:=J63 (order:=order) e e' hl
  refine H42 (fun r=>r=Rn order pre++G2b order order.length (pr++[b])) (fun K hK=>?_) (fun a ha=>h3 _ ha)
  have h7:pr.length≤180:=by
   have h1:ss.flatten.length=pre.flatten.length+((pr.length+(po.length+1))+post.flatten.length):=by
    rw [e,e',List.flatten_append,List.flatten_cons,Kh,Kh,Kh,Kd]
   omega
  refine Qw (Eu (by omega)) ?_
  have ht:((pr.length:Int)).toNat=pr.length:=by omega
  rw [ht]
  refine H2c (fun i s=>s=decide (mnF order order.length (pr.take i) < rnk order b)) ?_ (fun i s nx2 hi h0 h2=>?_) (fun s h0=>?_)
  ·have:=Jfe order b
   exact(Ev (by simp only [List.take_zero,mnF,List.foldl_nil]; omega)).symm
  ·have hx:x[i]? = some pr[i]:=by rw [e',Kc hi,Ex hi]
   have h5:mnF order order.length (pr.take (i+1))=min (mnF order order.length (pr.take i)) (rnk order pr[i]):=by
    rw [List.take_add_one,Ex hi]
    exact H7f _ _ _ _
   cases s with
   | true=>
    have h1:=Er h0.symm
    exact Gy (x:=default) rfl (Gy (x:=default) rfl (Gy (x:=default) rfl (h2 _ ((Eu (by omega)).symm))))
   | false=>
    have h1:=Es h0.symm
    refine Gy (x:=pr[i]) (G96 hx _) (Gy (G87 order pr[i]) (Gy (G87 order b) (h2 _ ?_)))
    rw [h5,Bool.false_or]
    exact decide_eq_decide.2 (by omega)
  ·rw [List.take_length] at h0
   subst h0
   refine Jd (fun h=>?_) (fun h=>hK _ ?_)
   ·have h:=Er h
    refine Qw (G26 (by simp only [Kh,Ki]; omega) (by decide)) (hK _ ?_)
    rw [Zx,if_pos h,List.append_assoc]
   ·have h:=Es h
    rw [Zx,if_neg h,List.append_nil]
 ·subst hJ
  rw [H0f,Hdf]
theorem H28 (ss:List (List Int)) (H:Int) (order:List Int):R1 ⟨ss,H⟩ order=some (if G11 ss H order then (((Rn order ss).length:Int),0) else (0,2)):=by
 unfold R1
 by_cases h:G11 ss H order
 ·obtain⟨r,e,h1,h2⟩:=Q18 h
  rw [e,if_pos h,Option.isSome_some,cond_true,G08,h1,Qe5 h2 h.y.all]
  rfl
 ·obtain⟨e1,e2⟩:=Q19 h
  rw [e1,if_neg h,Option.isSome_none,cond_false,e2]
  rfl
end Go.Proofs.Ytokjlondbjdlfaa
