/-
 Yards and orders: The reference's Right; begin,Bound;
-/
import Derived.Test.YtokjlondbjdlfaaGreatLentY
set_option maxRecDepth 100000
set_option linter.unusedVariables false
namespace Go.Proofs.YtokjlondbjdlfaaGreat
open Go.RowKit

section
variable {α β σ:Type}
theorem J32 (P:Option β→Prop) (I:List α→σ→Prop) {b:α→Nat→σ→(σ→Option β)→Option β} {kx:σ→Option β} {xs:List α} {s:σ} (h0:I [] s)
  (hb:∀ pre x post s nx,xs=pre++x::post→I pre s→(∀ s',I (pre++[x]) s'→P (nx s'))→P (b x pre.length s nx)) (hk:∀ s,I xs s→P (kx s)):P (each b kx xs 0 s):=by
 have key:∀ (post pre:List α) (s:σ),xs=pre++post→I pre s→P (each b kx post pre.length s):=by
  intro post
  induction post with
  | nil=>intro pre s e hi; rw [List.append_nil] at e; subst e; exact hk s hi
  | cons x post ih=>
   intro pre s e hi
   rw [each]
   refine hb pre x post s _ e hi (fun s' h1=>?_)
   have:=ih (pre++[x]) s' (by rw [e]; simp) h1
   rw [Ki,Kj] at this
   exact this
 exact key xs [] s rfl h0
end

/-! ### Ranks -/
def rnk (order:List Int) (b:Int):Nat:=order.idxOf b
theorem Q29 (order:List Int) (b:Int):rnk order b≤order.length:=List.idxOf_le_length
theorem Q3e {x v:Int} (l:List Int) (h:x≠v):(x::l).idxOf v=l.idxOf v+1:=by
 rw [List.idxOf_cons]
 have:(x==v)=false:=by simpa using h
 rw [this]; rfl
theorem Jd5 (v:Int):∀ (l:List Int) (i:Nat),each (fun(y18:Int) i18 (s18:Unit) nx18=>bif decide (v=y18) then (some (i18:Int)) else (nx18 ())) (fun(s18:Unit)=>some (-1)) l i ()=some (if v∈l then ((i+l.idxOf v:Nat):Int) else -1)
 | [],i=>by simp [each]
 | x::l,i=>by
  rw [each]
  by_cases h:v=x
  ·subst h
   rw [Ev rfl,cond_true,if_pos (List.mem_cons_self ..),List.idxOf_cons_self]; rfl
  ·rw [Ew h,cond_false,Jd5 v l (i+1),Q3e l (fun e=>h e.symm)]
   simp only [Kr,h,false_or]
   split <;> simp <;> omega
theorem Jeb (l:List Int) (v:Int):Rz l v=some (if v∈l then (l.idxOf v:Int) else -1):=by
 unfold Rz
 rw [Jd5 v l 0]; simp
theorem H61 (order:List Int) (b:Int):Q6 order b=some (rnk order b:Int):=by
 unfold Q6
 rw [Jeb]
 unfold rnk
 simp only [bnd]
 by_cases h:b∈order
 ·rw [if_pos h,Ev (by omega:(0:Int)≤(order.idxOf b:Int)),cond_true]
 ·rw [if_neg h,Ew (by omega),cond_false,List.idxOf_eq_length h]
theorem Q5f (b:Int) (n:Nat):∀ (l:List Int) (i:Nat),i+l.length=n→each (fun(y17:Int) i17 (s17:Unit) nx17=>bif decide (y17=b) then (some (i17:Int)) else (nx17 ())) (fun(s17:Unit)=>some (n:Int)) l i ()=some ((i+l.idxOf b:Nat):Int)
 | [],i,h=>by simp only [each,List.idxOf_nil]; simp at h; subst h; rfl
 | x::l,i,h=>by
  rw [each]
  by_cases e:x=b
  ·subst e
   rw [Ev rfl,cond_true,List.idxOf_cons_self]; rfl
  ·rw [Ew e,cond_false,Q5f b n l (i+1) (by simp at h; omega),Q3e l e]
   congr 2; omega
theorem G9d (order:List Int) (b:Int):Jd order b=some (rnk order b:Int):=by
 unfold Jd
 rw [Q5f b order.length order 0 (by simp)]
 simp [rnk]

/-! ### A right yard, a right order -/
structure Q5 (ss:List (List Int)) (H:Int):Prop where
 low:1≤H
 high:H≤6
 some_:1≤ss.length
 most:ss.length≤30
 fit:∀ s∈ss,(s.length:Int)≤H
 nodup:ss.flatten.Nodup
 ids:∀ b∈ss.flatten,1≤b∧b≤999999
theorem Q5.iff {ss:List (List Int)} {H:Int}:Q5 ss H ↔ (1≤H∧H≤6∧1≤ss.length∧ss.length≤30)∧(∀ s∈ss,(s.length:Int)≤H)∧ss.flatten.Nodup∧∀ b∈ss.flatten,1≤b∧b≤999999:=
 ⟨fun h=>⟨⟨h.low,h.high,h.some_,h.most⟩,h.fit,h.nodup,h.ids⟩,fun h=>⟨h.1.1,h.1.2.1,h.1.2.2.1,h.1.2.2.2,h.2.1,h.2.2.1,h.2.2.2⟩⟩
instance {ss:List (List Int)} {H:Int}:Decidable (Q5 ss H):=decidable_of_iff _ Q5.iff.symm
theorem H39 {ss:List (List Int)} {k:Nat} (h:∀ s∈ss,s.length≤k):ss.flatten.length≤ss.length*k:=by
 induction ss with
 | nil=>simp
 | cons s r ih=>
  rw [List.flatten_cons,Ki,Ke]
  have h1:=h s (List.mem_cons_self ..)
  have h2:=ih (fun x hx=>h x (List.mem_cons_of_mem _ hx))
  rw [Nat.add_mul,Nat.one_mul]; omega
theorem Q5.len {ss:List (List Int)} {H:Int} (h:Q5 ss H):∀ s∈ss,s.length≤6:=fun s hs=>by
 have:=h.fit s hs; have:=h.high; omega
theorem Q5.all {ss:List (List Int)} {H:Int} (h:Q5 ss H):ss.flatten.length≤180:=by
 have:=H39 h.len
 have:=h.most
 omega

section
variable {κ ν:Type} [DecidableEq κ]
theorem Q57 (m:Hq κ ν) (a:κ) (v:ν):Hq.Hh (Hq.put m a v)=Gac (Hq.Hh m) a v:=J60 m.l a v
theorem Jfc (m:Hq κ ν) (a b:κ) (v z:ν):Hq.get (Hq.put m a v) b z=if a=b then v else Hq.get m b z:=by
 unfold Hq.get
 rw [Q57,H56]
 split <;> rfl
theorem Qc3 (m:Hq κ ν) (a b:κ) (v:ν):Hq.has (Hq.put m a v) b=(decide (a=b)||Hq.has m b):=by
 unfold Hq.has
 rw [Q57,← G65,← G65,H56]
 by_cases h:a=b <;> simp [h]
end

/-! ### The program's Right -/
theorem Gf7 (ss:List (List Int)) (H:Int):G05 ⟨ss,H⟩=some (decide (Q5 ss H)):=by
 refine Y1 ?_
 unfold G05
 refine J0 (fun h=>Hy ?_) (fun h=>?_)
 ·simp only [Kt,Km] at h
  refine(Ew fun hr=>?_).symm
  have:=hr.low; have:=hr.high; have:=hr.some_; have:=hr.most
  omega
 simp only [Ku,decide_eq_false_iff_not] at h
 have h8:1≤H∧H≤6∧1≤ss.length∧ss.length≤30:=by omega
 refine Qd (fun pre s=>(∀ x∈pre,(x.length:Int)≤H)∧pre.flatten.Nodup∧(∀ b∈pre.flatten,1≤b∧b≤999999)∧∀ b,Hq.get s b 0=if b∈pre.flatten then 1 else 0) ⟨by simp,by simp,by simp,fun b=>by simp; rfl⟩ (fun pre x post s nx e hI h9=>?_) (fun s hI=>Hy ?_)
 ·have e:ss=pre++x::post:=e
  obtain⟨h1,h2,h3,h4⟩:=hI
  refine J0 (fun hx=>Hy ?_) (fun hx=>?_)
  ·refine(Ew fun hr=>?_).symm
   have:=hr.fit x (by rw [e]; simp)
   have hx:H < (x.length:Int):=Es hx
   omega
  have hx:¬ H < (x.length:Int):=Eu hx
  refine Qd (fun pr s=>(pre.flatten++pr).Nodup∧(∀ b∈pre.flatten++pr,1≤b∧b≤999999)∧∀ b,Hq.get s b 0=if b∈pre.flatten++pr then 1 else 0) ⟨by simpa using h2,by simpa using h3,by simpa using h4⟩ (fun pr b po s nx' e' h5 h7=>?_) (fun s h5=>h9 s ?_)
  ·obtain⟨g1,g2,g3⟩:=h5
   have hm:b∈ss.flatten:=by
    rw [e,e',List.flatten_append,List.flatten_cons]; simp
   refine Gg rfl ?_
   rw [g3 b]
   refine Qh (by split <;> omega) ?_
   by_cases hb:1≤b∧b≤999999
   ·have hc:(!(decide (b < 1)||decide (999999 < b)))=true:=by simp; omega
    rw [hc,cond_true,Jfc,if_pos rfl]
    refine Gg rfl (J0 (fun hf=>Hy ?_) (fun hf=>h7 _ ?_))
    ·refine(Ew fun hr=>?_).symm
     simp only [Kt,Km] at hf
     have h0:b∈pre.flatten++pr:=by
      refine Classical.byContradiction fun hn=>?_
      rw [if_neg hn] at hf; omega
     have h6:=hr.nodup
     rw [e,e',List.flatten_append,List.flatten_cons,List.append_assoc,← List.append_assoc] at h6
     have:=(List.nodup_append.1 h6).2.2 b h0 b (by simp)
     exact this rfl
    ·simp only [Ku,decide_eq_false_iff_not] at hf
     have h0:b ∉ pre.flatten++pr:=fun hn=>by rw [if_pos hn] at hf; omega
     rw [← List.append_assoc]
     refine⟨List.nodup_append.2 ⟨g1,by simp,fun a ha c hc=>?_⟩,fun a ha=>?_,fun a=>?_⟩
     ·rw [Kq] at hc; subst hc; exact fun e=>h0 (e ▸ ha)
     ·rcases Ko.1 ha with ha | ha
      ·exact g2 a ha
      ·rw [Kq] at ha; subst ha; exact hb
     ·rw [Jfc,g3 a]
      by_cases ea:b=a
      ·subst ea; rw [if_pos rfl]; simp [h0]
      ·rw [if_neg ea]; simp [Ne.symm ea]
   ·have hc:(!(decide (b < 1)||decide (999999 < b)))=false:=by
     simp only [Bool.not_eq_false',Kt,Km]; omega
    rw [hc,cond_false]
    refine Gg rfl (J0 (fun hf=>Hy ?_) (fun hf=>?_))
    ·exact(Ew fun hr=>hb (hr.ids b hm)).symm
    ·simp only [Ku,decide_eq_false_iff_not] at hf
     omega
  ·rw [List.flatten_append,List.flatten_singleton]
   refine⟨fun y hy=>?_,h5⟩
   rcases Ko.1 hy with hy | hy
   ·exact h1 y hy
   ·rw [Kq] at hy; subst hy; omega
 ·exact(Ev (Q5.iff.2 ⟨h8,hI.1,hI.2.1,hI.2.2.1⟩)).symm

theorem J47 {ss:List (List Int)} {H:Int} (h:ss.flatten.length≤10000000):Ra ⟨ss,H⟩=some ss.flatten:=by
 refine Y1 ?_
 unfold Ra
 refine Qd (fun pre s=>s=pre.flatten) rfl (fun pre x post s nx e hI h0=>?_) (fun s hI=>Hy hI)
 have e:ss=pre++x::post:=e
 subst hI
 refine Jn (Zt ?_ (by decide)) (h0 _ (by simp))
 rw [e,List.flatten_append,List.flatten_cons,Ki,Ki] at h
 omega

theorem Hd9 (F:Nat) (ss:List (List Int)) (H:Int):Qq F ⟨ss,H⟩=some (decide (Q5 ss H)):=by
 refine Y1 ?_
 unfold Qq
 refine J0 (fun h=>Hy ?_) (fun h=>?_)
 ·simp only [Kt,Km] at h
  refine(Ew fun hr=>?_).symm
  have:=hr.low; have:=hr.high; have:=hr.some_; have:=hr.most
  omega
 simp only [Ku,decide_eq_false_iff_not] at h
 have h3:1≤H∧H≤6∧1≤ss.length∧ss.length≤30:=by omega
 refine Qd (fun pre s=>∀ x∈pre,(x.length:Int)≤H) (by simp) (fun pre x post s nx e hI h0=>?_) (fun s hI=>?_)
 ·have e:ss=pre++x::post:=e
  refine J0 (fun hx=>Hy ?_) (fun hx=>h0 _ fun y hy=>?_)
  ·refine(Ew fun hr=>?_).symm
   have:=hr.fit x (by rw [e]; simp)
   have hx:H < (x.length:Int):=Es hx
   omega
  ·have hx:¬ H < (x.length:Int):=Eu hx
   rcases Ko.1 hy with hy | hy
   ·exact hI y hy
   ·rw [Kq] at hy; subst hy; omega
 ·have hI:∀ x∈ss,(x.length:Int)≤H:=hI
  have hl:ss.flatten.length≤180:=by
   have:=H39 (ss:=ss) (k:=6) (fun x hx=>by have:=hI x hx; omega)
   omega
  refine Gg (J47 (by omega)) ?_
  refine Qd (fun pre s=>pre.Nodup∧∀ b∈pre,1≤b∧b≤999999) ⟨by simp,by simp⟩ (fun pre b post s nx e hJ h0=>?_) (fun s hJ=>Hy ?_)
  ·have hm:b∈ss.flatten:=by rw [e]; simp
   refine J0 (fun hb=>Hy ?_) (fun hb=>?_)
   ·simp only [Kt,Km] at hb
    refine(Ew fun hr=>?_).symm
    have:=hr.ids b hm; omega
   ·simp only [Ku,decide_eq_false_iff_not] at hb
    have hp:pre.length < 180:=by
     have:=congrArg List.length e
     simp only [Ki,Ke] at this; omega
    refine Jn (Ev (by omega)) ?_
    have ht:((pre.length:Int)).toNat=pre.length:=by omega
    rw [ht]
    refine H01 (fun i s=>b ∉ pre.take i) (by simp) (fun i s nx' hi hK h2=>?_) (fun s hK=>h0 _ ?_)
    ·refine Qf (m:=i) rfl (x:=pre[i]) (by rw [e,Kd hi,Ey hi]) ?_
     refine J0 (fun hc=>Hy ?_) (fun hc=>h2 _ ?_)
     ·have hc:=Es hc
      refine(Ew fun hr=>?_).symm
      have h1:=hr.nodup
      rw [e] at h1
      exact(List.nodup_append.1 h1).2.2 b (by rw [← hc]; exact List.getElem_mem hi) b (by simp) rfl
     ·have hc:=Eu hc
      rw [List.take_add_one,Ey hi,Ko]
      simp only [Option.toList_some,Kq]
      exact fun h=>h.elim hK (fun h=>hc h.symm)
    ·rw [List.take_length] at hK
     refine⟨List.nodup_append.2 ⟨hJ.1,by simp,fun a ha c hc=>?_⟩,fun a ha=>?_⟩
     ·rw [Kq] at hc; subst hc; exact fun e=>hK (e ▸ ha)
     ·rcases Ko.1 ha with ha | ha
      ·exact hJ.2 a ha
      ·rw [Kq] at ha; subst ha; omega
  ·exact(Ev (Q5.iff.2 ⟨h3,hI,hJ.1,hJ.2⟩)).symm

/-! ### Find -/
def G49 (b:Int):List (List Int)→Nat→Int×Int×Bool
 | [],_=>(0,0,false)
 | s::r,i=>if b∈s then ((i:Int),(s.idxOf b:Int),true) else G49 b r (i+1)
theorem Q70 (b:Int):∀ (ss:List (List Int)) (i:Nat),each (fun(y22:List Int) i22 (s22:Unit) nx22=>bnd (Rz y22 b) fun r28=>bif decide (0≤r28) then (some ((i22:Int),r28,true)) else (nx22 ())) (fun(s22:Unit)=>some ((0:Int),(0:Int),false)) ss i ()=some (G49 b ss i)
 | [],i=>rfl
 | s::r,i=>by
  rw [each,Jeb,G49,G04]
  by_cases h:b∈s
  ·rw [if_pos h,if_pos h,Ev (by omega),cond_true]
  ·rw [if_neg h,if_neg h,Ew (by omega),cond_false,Q70 b r (i+1)]
theorem Hff (ss:List (List Int)) (H b:Int):G06 ⟨ss,H⟩ b=some (G49 b ss 0):=by
 unfold G06
 exact Q70 b ss 0
theorem Jc4 {β:Type} (b:Int) (z:Nat→Option β) (k:Option β):∀ (s:List Int) (i:Nat),each (fun(y22:Int) i22 (s22:Unit) nx22=>bif decide (y22=b) then z i22 else (nx22 ())) (fun(s22:Unit)=>k) s i ()=if b∈s then z (i+s.idxOf b) else k
 | [],i=>by simp [each]
 | x::l,i=>by
  rw [each]
  by_cases h:x=b
  ·subst h
   rw [Ev rfl,cond_true,if_pos (List.mem_cons_self ..),List.idxOf_cons_self]; rfl
  ·rw [Ew h,cond_false,Jc4 b z k l (i+1),Q3e l h]
   simp only [Kr,Ne.symm h,false_or]
   split
   ·congr 1; omega
   ·rfl
theorem J6b (b:Int):∀ (ss:List (List Int)) (i:Nat),each (fun(y4:List Int) i4 (s4:Unit) nx4=>each (fun(y22:Int) i22 (s22:Unit) nx22=>bif decide (y22=b) then (some ((i4:Int),(i22:Int),true)) else (nx22 ())) (fun(s22:Unit)=>nx4 ()) y4 0 ()) (fun(s4:Unit)=>some ((0:Int),(0:Int),false)) ss i ()=some (G49 b ss i)
 | [],i=>rfl
 | s::r,i=>by
  rw [each,Jc4 b (fun j=>some ((i:Int),(j:Int),true)),G49,J6b b r (i+1)]
  split
  ·simp
  ·rfl
theorem Je4 (F:Nat) (ss:List (List Int)) (H b:Int):Rr F ⟨ss,H⟩ b=some (G49 b ss 0):=by
 unfold Rr
 exact J6b b ss 0
theorem Hb2 (b:Int):∀ (ss:List (List Int)) (i:Nat),(G49 b ss i).2.2=decide (b∈ss.flatten)
 | [],i=>by simp [G49]
 | s::r,i=>by
  rw [G49]
  by_cases h:b∈s
  ·simp [h]
  ·rw [if_neg h,Hb2 b r (i+1)]; simp [h]

/-! ### Orders -/
structure H8e (ss:List (List Int)) (order:List Int):Prop where
 nodup:order.Nodup
 in_:∀ b∈order,b∈ss.flatten
theorem H8e.iff {ss:List (List Int)} {order:List Int}:H8e ss order ↔ order.Nodup∧∀ b∈order,b∈ss.flatten:=⟨fun h=>⟨h.1,h.2⟩,fun h=>⟨h.1,h.2⟩⟩
instance {ss:List (List Int)} {order:List Int}:Decidable (H8e ss order):=decidable_of_iff _ H8e.iff.symm
structure Z5 (ss:List (List Int)) (H:Int) (order:List Int):Prop where
 y:Q5 ss H
 o:H8e ss order
theorem Z5.iff {ss:List (List Int)} {H:Int} {order:List Int}:Z5 ss H order ↔ Q5 ss H∧H8e ss order:=⟨fun h=>⟨h.1,h.2⟩,fun h=>⟨h.1,h.2⟩⟩
instance {ss:List (List Int)} {H:Int} {order:List Int}:Decidable (Z5 ss H order):=decidable_of_iff _ Z5.iff.symm

theorem Hfa {pre post:List Int} {b:Int}:rnk (pre++b::post) b=pre.length ↔ b ∉ pre:=by
 unfold rnk
 rw [List.idxOf_append]
 split
 ·rename_i h
  have:=List.idxOf_lt_length_of_mem h
  exact⟨fun e=>by omega,fun h'=>(h' h).elim⟩
 ·rename_i h
  rw [List.idxOf_cons_self]; simp [h]
theorem G26 (F:Nat) (ss:List (List Int)) (H:Int) (order:List Int):Q9 F ⟨ss,H⟩ order=some (decide (Z5 ss H order)):=by
 refine Y1 ?_
 unfold Q9
 refine Gg (Hd9 F ss H) (J0 (fun h=>Hy ?_) (fun h=>?_))
 ·refine(Ew fun hr=>?_).symm
  simp [hr.y] at h
 have hY:Q5 ss H:=by simpa using h
 refine Qd (fun pre s=>pre.Nodup∧∀ b∈pre,b∈ss.flatten) ⟨by simp,by simp⟩ (fun pre b post s nx e hI h1=>?_) (fun s hI=>Hy ?_)
 ·refine Gg (Je4 F ss H b) ?_
  rw [Hb2,G9d]
  by_cases hb:b∈ss.flatten
  ·rw [Ev hb]
   refine Gg (x:=(rnk order b:Int)) rfl (J0 (fun hf=>Hy ?_) (fun hf=>h1 _ ?_))
   ·refine(Ew fun hr=>?_).symm
    have hf:(rnk order b:Int)≠(pre.length:Int):=by simpa using hf
    have h0:=hr.o.nodup
    rw [e] at h0 hf
    have:b∈pre:=Classical.byContradiction fun hn=>hf (by rw [Hfa.2 hn])
    exact(List.nodup_append.1 h0).2.2 b this b (by simp) rfl
   ·have hf:(rnk order b:Int)=(pre.length:Int):=by simpa using hf
    rw [e] at hf
    have hn:b ∉ pre:=(Hfa (post:=post)).1 (by omega)
    refine⟨List.nodup_append.2 ⟨hI.1,by simp,fun a ha c hc=>?_⟩,fun a ha=>?_⟩
    ·rw [Kq] at hc; subst hc; exact fun e=>hn (e ▸ ha)
    ·rcases Ko.1 ha with ha | ha
     ·exact hI.2 a ha
     ·rw [Kq] at ha; subst ha; exact hb
  ·rw [Ew hb]
   exact Gg (x:=default) rfl (J0 (fun _=>Hy (Ew fun hr=>hb (hr.o.in_ b (by rw [e]; simp))).symm) (fun hf=>by simp at hf))
 ·exact(Ev ⟨hY,⟨hI.1,hI.2⟩⟩).symm

section
theorem Q32 {α β:Type} [DecidableEq β] {xs:List α} {k:Bool→Option β} {r:Option β} (h:∀ b,(b=true→xs=[])→k b=r):R27 xs k=r:=by
 unfold R27
 cases xs with
 | nil=>rw [h true (fun _=>rfl),h false (fun e=>by cases e)]; simp
 | cons x l=>exact h false (fun e=>by cases e)
end
theorem Qa6 {s:List Int} (h:s.length≤1000000):Y0 s=some s:=by
 unfold Y0
 refine Q32 (fun b hb=>?_)
 cases b with
 | true=>rw [hb rfl]; rfl
 | false=>rw [cond_false,show decide ((([]:List Int).length+s.length)*8≤140737488355328∧([]:List Int).length+s.length≤maxLen)=true from Zt (by rw [List.length_nil]; omega) (by decide)]; rfl

structure Qf8 (ss:List (List Int)) (order:List Int) (j:Hr):Prop where
 stacks:j.stacks=ss
 order_:j.order=order
 has:∀ b,Hq.has j.ranks b=decide (b∈order)
 get:∀ b,b∈order→Hq.get j.ranks b 0=(rnk order b:Int)

theorem Hd5 {β:Type} {ss:List (List Int)} {z:Int×(List Int)×(List Gy)×Int} (hn:ss.length≤30) (hl:∀ s∈ss,s.length≤6) (P:Option β→Prop) {k:(List (List Int))×Int×(List Int)×(List Gy)×Int→Option β} (h:P (k (ss,z))) :
  P (each (fun(y37:List Int) (i37:Nat) (s37:(List (List Int))×Int×(List Int)×(List Gy)×Int) nx37=>bnd (Y0 y37) fun r42=>need (decide ((s37.1.length+[r42].length)*24≤140737488355328∧s37.1.length+[r42].length≤maxLen)) <| nx37 ((s37.1++[r42]),s37.2.1,s37.2.2.1,s37.2.2.2.1,s37.2.2.2.2)) k ss 0 ([],z)):=by
 refine J32 P (fun pre s=>s=(pre,z)) rfl (fun pre x post s nx e hI h0=>?_) (fun s hI=>by rw [hI]; exact h)
 subst hI
 have hx:=hl x (by rw [e]; simp)
 have hp:pre.length < 30:=by
  have:=congrArg List.length e
  simp only [Ki,Ke] at this; omega
 rw [Qa6 (by omega),G04,show decide ((pre.length+[x].length)*24≤140737488355328∧pre.length+[x].length≤maxLen)=true from Zt (by rw [Kj]; omega) (by decide)]
 exact h0 _ rfl
theorem Q98 {pre:List Int} {s:Hq Int Int} {b:Int} (hn:b ∉ pre) (h1:∀ a,Hq.has s a=decide (a∈pre)) (h2:∀ a,a∈pre→Hq.get s a 0=(rnk pre a:Int)) :
  (∀ a,Hq.has (Hq.put s b (pre.length:Int)) a=decide (a∈pre++[b]))∧∀ a,a∈pre++[b]→Hq.get (Hq.put s b (pre.length:Int)) a 0=(rnk (pre++[b]) a:Int):=by
 refine⟨fun a=>?_,fun a ha=>?_⟩
 ·rw [Qc3,h1]
  by_cases e:b=a
  ·subst e; simp
  ·simp [e,Ne.symm e]
 ·rw [Jfc]
  by_cases e:b=a
  ·subst e; rw [if_pos rfl,Hfa.2 hn]
  ·rw [if_neg e]
   have ha:a∈pre:=by simpa [Ne.symm e] using ha
   rw [h2 a ha]
   unfold rnk
   rw [List.idxOf_append,if_pos ha]
theorem Q42 {ss:List (List Int)} {H:Int} {order:List Int} (h:Z5 ss H order):Wp (Qu ⟨ss,H⟩ order) (fun r=>r.2=true∧Qf8 ss order r.1):=by
 unfold Qu
 refine Gg (Gf7 ss H) ?_
 rw [Ev h.y]
 refine Hd5 h.y.most h.y.len (fun m=>Wp m _) ?_
 refine Qd (fun pre s=>(∀ a,Hq.has s a=decide (a∈pre))∧∀ a,a∈pre→Hq.get s a 0=(rnk pre a:Int)) ⟨fun a=>by simp; rfl,by simp⟩ (fun pre b post s nx e hI h1=>?_) (fun s hI=>Hy ⟨rfl,rfl,rfl,hI.1,hI.2⟩)
 refine Gg (Hff ss H b) (Gg rfl ?_)
 have h0:=h.o.nodup
 rw [e] at h0
 have hn:b ∉ pre:=fun hb=>(List.nodup_append.1 h0).2.2 b hb b (by simp) rfl
 rw [Hb2,hI.1,Ew hn,Ev (h.o.in_ b (by rw [e]; simp))]
 exact h1 _ (Q98 hn hI.1 hI.2)
theorem Q43 {ss:List (List Int)} {H:Int} {order:List Int} (h:¬ Z5 ss H order):Qu ⟨ss,H⟩ order=none∧Yn ⟨ss,H⟩ order=some false:=by
 by_cases hY:Q5 ss H
 ·have hO:¬ H8e ss order:=fun hO=>h ⟨hY,hO⟩
  have fin:∀ s:Hq Int Int,(order.Nodup∧(∀ a∈order,a∈ss.flatten))∧(∀ a,Hq.has s a=decide (a∈order))→False:=fun s hs=>hO ⟨hs.1.1,hs.1.2⟩
  have step:∀ (pre:List Int) (b:Int) (post:List Int) (s:Hq Int Int),order=pre++b::post→(pre.Nodup∧(∀ a∈pre,a∈ss.flatten))∧(∀ a,Hq.has s a=decide (a∈pre))→(Hq.has s b||!(G49 b ss 0).2.2)=false →
    ((pre++[b]).Nodup∧(∀ a∈pre++[b],a∈ss.flatten))∧(∀ a,Hq.has (Hq.put s b (pre.length:Int)) a=decide (a∈pre++[b])):=fun pre b post s e hI hf=>by
   rw [Hb2,hI.2] at hf
   simp only [Ku,decide_eq_false_iff_not,Bool.not_eq_false',Km] at hf
   refine⟨⟨List.nodup_append.2 ⟨hI.1.1,by simp,fun a ha c hc=>?_⟩,fun a ha=>?_⟩,fun a=>?_⟩
   ·rw [Kq] at hc; subst hc; exact fun e=>hf.1 (e ▸ ha)
   ·rcases Ko.1 ha with ha | ha
    ·exact hI.1.2 a ha
    ·rw [Kq] at ha; subst ha; exact hf.2
   ·rw [Qc3,hI.2]
    by_cases e:b=a
    ·subst e; simp
    ·simp [e,Ne.symm e]
  constructor
  ·unfold Qu
   rw [Gf7,Ev hY,G04]
   refine Hd5 hY.most hY.len (fun m=>m=none) ?_
   refine J32 (fun m=>m=none) (fun pre s=>(pre.Nodup∧(∀ a∈pre,a∈ss.flatten))∧(∀ a,Hq.has s a=decide (a∈pre))) ⟨⟨by simp,by simp⟩,fun a=>by simp; rfl⟩ (fun pre b post s nx e hI h0=>?_) (fun s hI=>(fin s hI).elim)
   rw [Hff,G04,G04]
   cases hc:(Hq.has s b||!(G49 b ss 0).2.2) with
   | true=>rfl
   | false=>exact h0 _ (step pre b post s e hI hc)
  ·unfold Yn
   rw [Gf7,Ev hY,G04]
   refine Hd5 hY.most hY.len (fun m=>m=some false) ?_
   refine J32 (fun m=>m=some false) (fun pre s=>(pre.Nodup∧(∀ a∈pre,a∈ss.flatten))∧(∀ a,Hq.has s a=decide (a∈pre))) ⟨⟨by simp,by simp⟩,fun a=>by simp; rfl⟩ (fun pre b post s nx e hI h0=>?_) (fun s hI=>(fin s hI).elim)
   rw [Hff,G04,G04]
   cases hc:(Hq.has s b||!(G49 b ss 0).2.2) with
   | true=>rfl
   | false=>exact h0 _ (step pre b post s e hI hc)
 ·unfold Qu Yn
  rw [Gf7,Ew hY]
  exact⟨rfl,rfl⟩

/-! ### In the way -/
def G44 (order:List Int):Nat→List Int→List Int
 | _,[]=>[]
 | m,b::r=>if m < rnk order b then b::G44 order m r else G44 order (rnk order b) r
def mnF (order:List Int) (m:Nat) (s:List Int):Nat:=s.foldl (fun m b=>min m (rnk order b)) m
def Qj (order:List Int) (ss:List (List Int)):List Int:=ss.flatMap (G44 order order.length)
theorem Haa (order:List Int) (m:Nat) (s:List Int) (b:Int):mnF order m (s++[b])=min (mnF order m s) (rnk order b):=by
 unfold mnF; rw [List.foldl_append]; rfl
theorem G0f (order:List Int) (b:Int):∀ (s:List Int) (m:Nat),G44 order m (s++[b])=G44 order m s++(if mnF order m s < rnk order b then [b] else [])
 | [],m=>by
  show (if m < rnk order b then [b] else [])=[]++(if m < rnk order b then [b] else [])
  rw [List.nil_append]
 | x::s,m=>by
  rw [List.cons_append,G44,G44,G0f order b s,G0f order b s]
  have e:mnF order m (x::s)=mnF order (min m (rnk order x)) s:=rfl
  rw [e]
  by_cases h:m < rnk order x
  ·rw [if_pos h,if_pos h,Nat.min_eq_left (by omega)]; rfl
  ·rw [if_neg h,if_neg h,Nat.min_eq_right (by omega)]
theorem Gf1 (order:List Int):∀ (s:List Int) (m:Nat),(G44 order m s).Sublist s
 | [],m=>by simp [G44]
 | x::s,m=>by
  rw [G44]
  split
  ·exact(Gf1 order s m).cons_cons x
  ·exact(Gf1 order s _).cons x
theorem H2c (order:List Int) (a b:List (List Int)):Qj order (a++b)=Qj order a++Qj order b:=by
 unfold Qj; rw [List.flatMap_append]
theorem J00 (order:List Int) (s:List Int):Qj order [s]=G44 order order.length s:=by simp [Qj]
theorem G95 (order:List Int):∀ ss:List (List Int),(Qj order ss).Sublist ss.flatten
 | []=>by simp [Qj]
 | s::r=>by
  have:Qj order (s::r)=G44 order order.length s++Qj order r:=rfl
  rw [this,List.flatten_cons]
  exact(Gf1 order s _).append (G95 order r)
theorem J8c {order:List Int} {ss pre post:List (List Int)} {s pr po:List Int} {b:Int} (e:ss=pre++s::post) (e':s=pr++b::po) (h:ss.flatten.length≤180):(Qj order pre).length+(G44 order order.length pr).length < 180:=by
 have h1:=(G95 order pre).length_le
 have h2:=(Gf1 order pr order.length).length_le
 rw [e,e',List.flatten_append,List.flatten_cons,Ki,Ki,Ki,Ke] at h
 omega
theorem Qe1 {ss:List (List Int)} {order:List Int} {j:Hr} (hj:Qf8 ss order j) (b:Int):Z8 j b=some (rnk order b:Int):=by
 unfold Z8
 rw [G04,hj.has b]
 by_cases h:b∈order
 ·rw [Ev h,cond_true,hj.get b h]
 ·rw [Ew h,cond_false,hj.order_]
  unfold rnk
  rw [List.idxOf_eq_length h]
theorem R2e {ss:List (List Int)} {order:List Int} {j:Hr} (hj:Qf8 ss order j) (hl:ss.flatten.length≤180):Zo j=some ((Qj order ss).length:Int):=by
 refine Y1 ?_
 unfold Zo
 rw [hj.stacks,hj.order_]
 refine Qd (fun pre s=>s=((Qj order pre).length:Int)) rfl (fun pre x post s nx e hI h1=>?_) (fun s hI=>Hy hI)
 subst hI
 refine Qd (fun pr s=>s=((((Qj order pre).length+(G44 order order.length pr).length:Nat):Int),(mnF order order.length pr:Int))) rfl (fun pr b po s nx' e' hJ h0=>?_) (fun s hJ=>h1 _ ?_)
 ·subst hJ
  have h2:=J8c (order:=order) e e' hl
  refine H69 (fun r=>r=((((Qj order pre).length+(G44 order order.length (pr++[b])).length:Nat):Int),(mnF order order.length (pr++[b]):Int))) (fun K hK=>?_) (fun a ha=>h0 _ ha)
  refine Gg (Qe1 hj b) (J0 (fun h=>?_) (fun h=>hK _ ?_))
  ·have h:mnF order order.length pr < rnk order b:=by have:=Es h; omega
   refine Qh (by dsimp only; omega) (hK _ ?_)
   rw [G0f,if_pos h,Haa,Nat.min_eq_left (by omega),Ki]
   rfl
  ·have h:¬ mnF order order.length pr < rnk order b:=by have:=Eu h; omega
   rw [G0f,if_neg h,Haa,Nat.min_eq_right (by omega),List.append_nil]
 ·subst hJ
  rw [H2c,J00,Ki]
theorem J96 {ss:List (List Int)} {H:Int} {order:List Int} (hl:ss.flatten.length≤180):Ru ⟨ss,H⟩ order=some (G11 (Qj order ss)):=by
 refine Y1 ?_
 unfold Ru
 refine Qd (fun pre s=>s=Qj order pre) rfl (fun pre x post s nx e hI h1=>?_) (fun s hI=>?_)
 ·have e:ss=pre++x::post:=e
  subst hI
  refine Qd (fun pr s=>s=((mnF order order.length pr:Int),Qj order pre++G44 order order.length pr)) (by simp [G44,mnF]) (fun pr b po s nx' e' hJ h0=>?_) (fun s hJ=>h1 _ ?_)
  ·subst hJ
   have h2:=J8c (order:=order) e e' hl
   refine Gg (H61 order b) (H69 (fun r=>r=Qj order pre++G44 order order.length (pr++[b])) (fun K hK=>?_) (fun a ha=>h0 _ ?_))
   ·refine J0 (fun h=>?_) (fun h=>hK _ ?_)
    ·have h:mnF order order.length pr < rnk order b:=by have:=Es h; omega
     refine Jn (Zt (by simp only [Ki,Kj]; omega) (by decide)) (hK _ ?_)
     rw [G0f,if_pos h,List.append_assoc]
    ·have h:¬ mnF order order.length pr < rnk order b:=by have:=Eu h; omega
     rw [G0f,if_neg h,List.append_nil]
   ·rw [ha,Haa]
    congr 1
    omega
  ·subst hJ
   rw [H2c,J00]
 ·have hI:s=Qj order ss:=hI
  subst hI
  have:=(G95 order ss).length_le
  refine Gg (x:=G11 (Qj order ss)) ?_ (Hy rfl)
  unfold J13
  rw [Ev (by omega)]; rfl
theorem H3a (F:Nat) {ss:List (List Int)} {H:Int} {order:List Int} (hl:ss.flatten.length≤180):J1 F ⟨ss,H⟩ order=some (Qj order ss):=by
 refine Y1 ?_
 unfold J1
 refine Qd (fun pre s=>s=Qj order pre) rfl (fun pre x post s nx e hI h4=>?_) (fun s hI=>Hy hI)
 have e:ss=pre++x::post:=e
 subst hI
 refine Qd (fun pr s=>s=Qj order pre++G44 order order.length pr) (by simp [G44]) (fun pr b po s nx' e' hJ h3=>?_) (fun s hJ=>h4 _ ?_)
 ·subst hJ
  have h6:=J8c (order:=order) e e' hl
  refine H69 (fun r=>r=Qj order pre++G44 order order.length (pr++[b])) (fun K hK=>?_) (fun a ha=>h3 _ ha)
  have h7:pr.length≤180:=by
   have h1:ss.flatten.length=pre.flatten.length+((pr.length+(po.length+1))+post.flatten.length):=by
    rw [e,e',List.flatten_append,List.flatten_cons,Ki,Ki,Ki,Ke]
   omega
  refine Jn (Ev (by omega)) ?_
  have ht:((pr.length:Int)).toNat=pr.length:=by omega
  rw [ht]
  refine H01 (fun i s=>s=decide (mnF order order.length (pr.take i) < rnk order b)) ?_ (fun i s nx2 hi h0 h2=>?_) (fun s h0=>?_)
  ·have:=Q29 order b
   exact(Ew (by simp only [List.take_zero,mnF,List.foldl_nil]; omega)).symm
  ·have hx:x[i]? = some pr[i]:=by rw [e',Kd hi,Ey hi]
   have h5:mnF order order.length (pr.take (i+1))=min (mnF order order.length (pr.take i)) (rnk order pr[i]):=by
    rw [List.take_add_one,Ey hi]
    exact Haa _ _ _ _
   cases s with
   | true=>
    have h1:=Es h0.symm
    exact Gg (x:=default) rfl (Gg (x:=default) rfl (Gg (x:=default) rfl (h2 _ ((Ev (by omega)).symm))))
   | false=>
    have h1:=Eu h0.symm
    refine Gg (x:=pr[i]) (Gad hx _) (Gg (G9d order pr[i]) (Gg (G9d order b) (h2 _ ?_)))
    rw [h5,Bool.false_or]
    exact decide_eq_decide.2 (by omega)
  ·rw [List.take_length] at h0
   subst h0
   refine J0 (fun h=>?_) (fun h=>hK _ ?_)
   ·have h:=Es h
    refine Jn (Zt (by simp only [Ki,Kj]; omega) (by decide)) (hK _ ?_)
    rw [G0f,if_pos h,List.append_assoc]
   ·have h:=Eu h
    rw [G0f,if_neg h,List.append_nil]
 ·subst hJ
  rw [H2c,J00]
theorem Ga0 (ss:List (List Int)) (H:Int) (order:List Int):Rb ⟨ss,H⟩ order=some (if Z5 ss H order then (((Qj order ss).length:Int),0) else (0,2)):=by
 unfold Rb
 by_cases h:Z5 ss H order
 ·obtain⟨r,e,h1,h2⟩:=Q42 h
  rw [e,if_pos h,Option.isSome_some,cond_true,G04,h1,R2e h2 h.y.all]
  rfl
 ·obtain⟨e1,e2⟩:=Q43 h
  rw [e1,if_neg h,Option.isSome_none,cond_false,e2]
  rfl
end Go.Proofs.YtokjlondbjdlfaaGreat
