/-
 What a model returns, What the functions return that lend and check integers and s Yards and orders: The reference's Right; begin,Bound;
-/
import Derived.Test.YtokjlondbjdlfaaIter
import Derived.Test.YtokjlondbjdlfaaXE
namespace Go.Proofs.Ytokjlondbjdlfaa

section
variable {α β σ : Type} {Q : β → Prop}

def Wp (m : Option β) (Q : β → Prop) : Prop := ∃ r, m = some r ∧ Q r

theorem Hz {r : β} (h : Q r) : Wp (some r) Q := ⟨r, rfl, h⟩
theorem wp_mono {m : Option β} {Q' : β → Prop} (h : Wp m Q') (hq : ∀ r, Q' r → Q r) : Wp m Q := by
  obtain ⟨r, e, h⟩ := h; exact ⟨r, e, hq r h⟩
theorem G05 {m : Option α} {k : α → Option β} (h : Wp m (fun x => Wp (k x) Q)) : Wp (bnd m k) Q := by
  obtain ⟨x, rfl, h⟩ := h; exact h
theorem H0 {m : Option α} {k : α → Option β} {x : α} (e : m = some x) (h : Wp (k x) Q) : Wp (bnd m k) Q := by subst e; exact h
theorem Qk {z : Int} {k : Int → Option β} (h1 : -9223372036854775808 ≤ z ∧ z ≤ 9223372036854775807) (h : Wp (k z) Q) : Wp (chk z k) Q := by
  unfold chk J67
  rw [Es h1.1, Es h1.2]; exact h
theorem Jc {c : Bool} {x y : Option β} (h1 : c = true → Wp x Q) (h2 : c = false → Wp y Q) : Wp (bif c then x else y) Q := by
  cases c with
  | true => exact h1 rfl
  | false => exact h2 rfl
theorem Q4 {b : Bool} {k : Option β} (hb : b = true) (h : Wp k Q) : Wp (need b k) Q := by subst hb; exact h
theorem Qn {l : List α} {i : Int} {k : α → Option β} {m : Nat} {x : α} (hi : i = (m : Int)) (hx : l[m]? = some x) (h : Wp (k x) Q) : Wp (R1 l i k) Q := by
  subst hi
  unfold R1
  rw [Es (by omega : (0 : Int) ≤ m), cond_true, show (m : Int).toNat = m by omega, hx]
  exact h
theorem H1d {m : (α → Option β) → Option β} {k : α → Option β} (P : α → Prop) (hm : ∀ K : α → Option β, (∀ a, P a → Wp (K a) Q) → Wp (m K) Q) (hk : ∀ a, P a → Wp (k a) Q) : Wp (jp m k) Q := hm k hk
theorem R42 {m n : Int} {Q : Int → Prop} (hn : n ≠ 0) (h : Q (m.tmod n)) : Wp (Jb7 m n) Q := by
  unfold Jb7
  rw [Eu hn, cond_false]
  exact Hz h
theorem Yn {i : Int} {n m : Nat} {Q : Nat → Prop} (hi : i = (m : Int)) (hm : m ≤ n) (h : Q m) : Wp (Ru i n) Q := by
  subst hi
  unfold Ru
  rw [Es (by omega : (0 : Int) ≤ m), show (m : Int).toNat = m by omega, Es hm]
  exact Hz h
theorem Qv (I : List α → σ → Prop) {b : α → Nat → σ → (σ → Option β) → Option β} {kx : σ → Option β} {xs : List α} {s : σ} (h0 : I [] s)
    (hb : ∀ pre x post s nx, xs = pre ++ x :: post → I pre s → (∀ s', I (pre ++ [x]) s' → Wp (nx s') Q) → Wp (b x pre.length s nx) Q) (hk : ∀ s, I xs s → Wp (kx s) Q) : Wp (each b kx xs 0 s) Q := by
  have key : ∀ (post pre : List α) (s : σ), xs = pre ++ post → I pre s → Wp (each b kx post pre.length s) Q := by
    intro post
    induction post with
    | nil => intro pre s e hi; rw [List.append_nil] at e; subst e; exact hk s hi
    | cons x post ih =>
      intro pre s e hi
      rw [each]
      refine hb pre x post s _ e hi (fun s' h1 => ?_)
      have := ih (pre ++ [x]) s' (by rw [e]; simp) h1
      rw [Kg, Kh] at this
      exact this
  exact key xs [] s rfl h0
theorem H40 (I : Nat → σ → Prop) {b : Nat → σ → (σ → Option β) → Option β} {kx : σ → Option β} {n : Nat} {s : σ} (h0 : I 0 s)
    (hb : ∀ i s nx, i < n → I i s → (∀ s', I (i + 1) s' → Wp (nx s') Q) → Wp (b i s nx) Q) (hk : ∀ s, I n s → Wp (kx s) Q) : Wp (upto b kx n 0 s) Q := by
  have key : ∀ (m i : Nat) (s : σ), i + m = n → I i s → Wp (upto b kx m i s) Q := by
    intro m
    induction m with
    | zero => intro i s e hi; have e : i = n := by omega
              subst e; exact hk s hi
    | succ m ih =>
      intro i s e hi
      rw [upto]
      exact hb i s _ (by omega) hi (fun s' h1 => ih (i + 1) s' (by omega) h1)
  exact key n 0 s (by omega) h0
theorem Z0 {m : Option β} {r : β} (h : Wp m (· = r)) : m = some r := by
  obtain ⟨x, e, rfl⟩ := h; exact e
end

set_option maxRecDepth 100000
set_option linter.unusedVariables false
open Go.RowKit

theorem Zg {n k:Nat} (hn:n≤10000001) (hk:k≤1000):decide (n*k≤140737488355328∧n≤maxLen)=true:=by
 refine Es ⟨?_,by unfold maxLen; omega⟩
 exact Nat.le_trans (Nat.mul_le_mul hn hk) (by omega)
section generic
variable {α β:Type}
theorem G0f {x:α} {k:α→Option β}:bnd (some x) k=k x:=rfl
theorem Q4b {l:List α} {body:α→Nat→Unit→(Unit→Option Bool)→Option Bool} (h:∀ (i:Nat) y nx,l[i]? = some y→body y i () nx=nx ()) :
  (bif decide ((l.length:Int)≠(l.length:Int)) then some false else each body (fun(_:Unit)=>some true) l 0 ())=some true:=by
 rw [Eu (by simp),cond_false]
 refine Z0 (Qv (fun _ _=>True) trivial (fun pre y post s nx e _ h0=>?_) (fun s _=>Hz rfl))
 rw [h pre.length y nx (by rw [e]; simp)]
 exact h0 _ trivial
theorem G9e {γ:Type} {l:List α} {i:Nat} {y:α} (h:l[i]? = some y) (k:α→Option γ):R1 l (i:Int) k=k y:=by
 unfold R1
 rw [Es (by omega:(0:Int)≤(i:Int)),cond_true,show (i:Int).toNat=i by omega,h]; rfl
end generic

theorem H5e (l:List Int):Q0 l l=some true:=by
 unfold Q0
 refine Q4b (fun i y nx hy=>?_)
 rw [G9e hy,Eu (by simp),cond_false]

section
variable {α β σ:Type}
theorem J26 (P:Option β→Prop) (I:List α→σ→Prop) {b:α→Nat→σ→(σ→Option β)→Option β} {kx:σ→Option β} {xs:List α} {s:σ} (h0:I [] s)
  (hb:∀ pre x post s nx,xs=pre++x::post→I pre s→(∀ s',I (pre++[x]) s'→P (nx s'))→P (b x pre.length s nx)) (hk:∀ s,I xs s→P (kx s)):P (each b kx xs 0 s):=by
 have key:∀ (post pre:List α) (s:σ),xs=pre++post→I pre s→P (each b kx post pre.length s):=by
  intro post
  induction post with
  | nil=>intro pre s e hi; rw [List.append_nil] at e; subst e; exact hk s hi
  | cons x post ih=>
   intro pre s e hi
   rw [each]
   refine hb pre x post s _ e hi (fun s' h1=>?_)
   have:=ih (pre++[x]) s' (by rw [e]; simp) h1
   rw [Kg,Kh] at this
   exact this
 exact key xs [] s rfl h0
end

/-! ### Ranks -/
def rnk (order:List Int) (b:Int):Nat:=order.idxOf b
theorem Q19 (order:List Int) (b:Int):rnk order b≤order.length:=List.idxOf_le_length
theorem Q2d {x v:Int} (l:List Int) (h:x≠v):(x::l).idxOf v=l.idxOf v+1:=by
 rw [List.idxOf_cons]
 have:(x==v)=false:=by simpa using h
 rw [this]; rfl
theorem Jc6 (v:Int):∀ (l:List Int) (i:Nat),each (fun(y18:Int) i18 (s18:Unit) nx18=>bif decide (v=y18) then (some (i18:Int)) else (nx18 ())) (fun(s18:Unit)=>some (-1)) l i ()=some (if v∈l then ((i+l.idxOf v:Nat):Int) else -1)
 | [],i=>by simp [each]
 | x::l,i=>by
  rw [each]
  by_cases h:v=x
  ·subst h
   rw [Es rfl,cond_true,if_pos (List.mem_cons_self ..),List.idxOf_cons_self]; rfl
  ·rw [Eu h,cond_false,Jc6 v l (i+1),Q2d l (fun e=>h e.symm)]
   simp only [Kp,h,false_or]
   split <;> simp <;> omega
theorem Jdb (l:List Int) (v:Int):Rh l v=some (if v∈l then (l.idxOf v:Int) else -1):=by
 unfold Rh
 rw [Jc6 v l 0]; simp
theorem Ha8 (order:List Int) (b:Int):Qa order b=some (rnk order b:Int):=by
 unfold Qa
 rw [Jdb]
 unfold rnk
 simp only [bnd]
 by_cases h:b∈order
 ·rw [if_pos h,Es (by omega:(0:Int)≤(order.idxOf b:Int)),cond_true]
 ·rw [if_neg h,Eu (by omega),cond_false,List.idxOf_eq_length h]
theorem Q4d (b:Int) (n:Nat):∀ (l:List Int) (i:Nat),i+l.length=n→each (fun(y17:Int) i17 (s17:Unit) nx17=>bif decide (y17=b) then (some (i17:Int)) else (nx17 ())) (fun(s17:Unit)=>some (n:Int)) l i ()=some ((i+l.idxOf b:Nat):Int)
 | [],i,h=>by simp only [each,List.idxOf_nil]; simp at h; subst h; rfl
 | x::l,i,h=>by
  rw [each]
  by_cases e:x=b
  ·subst e
   rw [Es rfl,cond_true,List.idxOf_cons_self]; rfl
  ·rw [Eu e,cond_false,Q4d b n l (i+1) (by simp at h; omega),Q2d l e]
   congr 2; omega
theorem G8e (order:List Int) (b:Int):Ja order b=some (rnk order b:Int):=by
 unfold Ja
 rw [Q4d b order.length order 0 (by simp)]
 simp [rnk]

/-! ### A right yard, a right order -/
structure Q2 (ss:List (List Int)) (H:Int):Prop where
 low:1≤H
 high:H≤6
 some_:1≤ss.length
 most:ss.length≤30
 fit:∀ s∈ss,(s.length:Int)≤H
 nodup:ss.flatten.Nodup
 ids:∀ b∈ss.flatten,1≤b∧b≤999999
theorem Q2.iff {ss:List (List Int)} {H:Int}:Q2 ss H ↔ (1≤H∧H≤6∧1≤ss.length∧ss.length≤30)∧(∀ s∈ss,(s.length:Int)≤H)∧ss.flatten.Nodup∧∀ b∈ss.flatten,1≤b∧b≤999999:=
 ⟨fun h=>⟨⟨h.low,h.high,h.some_,h.most⟩,h.fit,h.nodup,h.ids⟩,fun h=>⟨h.1.1,h.1.2.1,h.1.2.2.1,h.1.2.2.2,h.2.1,h.2.2.1,h.2.2.2⟩⟩
instance {ss:List (List Int)} {H:Int}:Decidable (Q2 ss H):=decidable_of_iff _ Q2.iff.symm
theorem H30 {ss:List (List Int)} {k:Nat} (h:∀ s∈ss,s.length≤k):ss.flatten.length≤ss.length*k:=by
 induction ss with
 | nil=>simp
 | cons s r ih=>
  rw [List.flatten_cons,Kg,Kc]
  have h1:=h s (List.mem_cons_self ..)
  have h2:=ih (fun x hx=>h x (List.mem_cons_of_mem _ hx))
  rw [Nat.add_mul,Nat.one_mul]; omega
theorem Q2.len {ss:List (List Int)} {H:Int} (h:Q2 ss H):∀ s∈ss,s.length≤6:=fun s hs=>by
 have:=h.fit s hs; have:=h.high; omega
theorem Q2.all {ss:List (List Int)} {H:Int} (h:Q2 ss H):ss.flatten.length≤180:=by
 have:=H30 h.len
 have:=h.most
 omega

section
variable {κ ν:Type} [DecidableEq κ]
theorem Q47 (m:Hk κ ν) (a:κ) (v:ν):Hk.Hg (Hk.put m a v)=G9d (Hk.Hg m) a v:=J52 m.l a v
theorem Jec (m:Hk κ ν) (a b:κ) (v z:ν):Hk.get (Hk.put m a v) b z=if a=b then v else Hk.get m b z:=by
 unfold Hk.get
 rw [Q47,H48]
 split <;> rfl
theorem Qa9 (m:Hk κ ν) (a b:κ) (v:ν):Hk.has (Hk.put m a v) b=(decide (a=b)||Hk.has m b):=by
 unfold Hk.has
 rw [Q47,← G4e,← G4e,H48]
 by_cases h:a=b <;> simp [h]
end

/-! ### The program's Right -/
theorem Ge7 (ss:List (List Int)) (H:Int):Zt ⟨ss,H⟩=some (decide (Q2 ss H)):=by
 refine Z0 ?_
 unfold Zt
 refine Jc (fun h=>Hz ?_) (fun h=>?_)
 ·simp only [Kr,Kj] at h
  refine(Eu fun hr=>?_).symm
  have:=hr.low; have:=hr.high; have:=hr.some_; have:=hr.most
  omega
 simp only [Ks,decide_eq_false_iff_not] at h
 have h8:1≤H∧H≤6∧1≤ss.length∧ss.length≤30:=by omega
 refine Qv (fun pre s=>(∀ x∈pre,(x.length:Int)≤H)∧pre.flatten.Nodup∧(∀ b∈pre.flatten,1≤b∧b≤999999)∧∀ b,Hk.get s b 0=if b∈pre.flatten then 1 else 0) ⟨by simp,by simp,by simp,fun b=>by simp; rfl⟩ (fun pre x post s nx e hI h9=>?_) (fun s hI=>Hz ?_)
 ·have e:ss=pre++x::post:=e
  obtain⟨h1,h2,h3,h4⟩:=hI
  refine Jc (fun hx=>Hz ?_) (fun hx=>?_)
  ·refine(Eu fun hr=>?_).symm
   have:=hr.fit x (by rw [e]; simp)
   have hx:H < (x.length:Int):=Ep hx
   omega
  have hx:¬ H < (x.length:Int):=Er hx
  refine Qv (fun pr s=>(pre.flatten++pr).Nodup∧(∀ b∈pre.flatten++pr,1≤b∧b≤999999)∧∀ b,Hk.get s b 0=if b∈pre.flatten++pr then 1 else 0) ⟨by simpa using h2,by simpa using h3,by simpa using h4⟩ (fun pr b po s nx' e' h5 h7=>?_) (fun s h5=>h9 s ?_)
  ·obtain⟨g1,g2,g3⟩:=h5
   have hm:b∈ss.flatten:=by
    rw [e,e',List.flatten_append,List.flatten_cons]; simp
   refine H0 rfl ?_
   rw [g3 b]
   refine Qk (by split <;> omega) ?_
   by_cases hb:1≤b∧b≤999999
   ·have hc:(!(decide (b < 1)||decide (999999 < b)))=true:=by simp; omega
    rw [hc,cond_true,Jec,if_pos rfl]
    refine H0 rfl (Jc (fun hf=>Hz ?_) (fun hf=>h7 _ ?_))
    ·refine(Eu fun hr=>?_).symm
     simp only [Kr,Kj] at hf
     have h0:b∈pre.flatten++pr:=by
      refine Classical.byContradiction fun hn=>?_
      rw [if_neg hn] at hf; omega
     have h6:=hr.nodup
     rw [e,e',List.flatten_append,List.flatten_cons,List.append_assoc,← List.append_assoc] at h6
     have:=(List.nodup_append.1 h6).2.2 b h0 b (by simp)
     exact this rfl
    ·simp only [Ks,decide_eq_false_iff_not] at hf
     have h0:b ∉ pre.flatten++pr:=fun hn=>by rw [if_pos hn] at hf; omega
     rw [← List.append_assoc]
     refine⟨List.nodup_append.2 ⟨g1,by simp,fun a ha c hc=>?_⟩,fun a ha=>?_,fun a=>?_⟩
     ·rw [Ko] at hc; subst hc; exact fun e=>h0 (e ▸ ha)
     ·rcases Km.1 ha with ha | ha
      ·exact g2 a ha
      ·rw [Ko] at ha; subst ha; exact hb
     ·rw [Jec,g3 a]
      by_cases ea:b=a
      ·subst ea; rw [if_pos rfl]; simp [h0]
      ·rw [if_neg ea]; simp [Ne.symm ea]
   ·have hc:(!(decide (b < 1)||decide (999999 < b)))=false:=by
     simp only [Bool.not_eq_false',Kr,Kj]; omega
    rw [hc,cond_false]
    refine H0 rfl (Jc (fun hf=>Hz ?_) (fun hf=>?_))
    ·exact(Eu fun hr=>hb (hr.ids b hm)).symm
    ·simp only [Ks,decide_eq_false_iff_not] at hf
     omega
  ·rw [List.flatten_append,List.flatten_singleton]
   refine⟨fun y hy=>?_,h5⟩
   rcases Km.1 hy with hy | hy
   ·exact h1 y hy
   ·rw [Ko] at hy; subst hy; omega
 ·exact(Es (Q2.iff.2 ⟨h8,hI.1,hI.2.1,hI.2.2.1⟩)).symm

theorem Qdf {ss:List (List Int)} {H:Int} (h:ss.flatten.length≤10000000):R3 ⟨ss,H⟩=some ss.flatten:=by
 refine Z0 ?_
 unfold R3
 refine Qv (fun pre s=>s=pre.flatten) rfl (fun pre x post s nx e hI h0=>?_) (fun s hI=>Hz hI)
 have e:ss=pre++x::post:=e
 subst hI
 refine Q4 (Zg ?_ (by decide)) (h0 _ (by simp))
 rw [e,List.flatten_append,List.flatten_cons,Kg,Kg] at h
 omega

theorem Hcc (F:Nat) (ss:List (List Int)) (H:Int):Qi F ⟨ss,H⟩=some (decide (Q2 ss H)):=by
 refine Z0 ?_
 unfold Qi
 refine Jc (fun h=>Hz ?_) (fun h=>?_)
 ·simp only [Kr,Kj] at h
  refine(Eu fun hr=>?_).symm
  have:=hr.low; have:=hr.high; have:=hr.some_; have:=hr.most
  omega
 simp only [Ks,decide_eq_false_iff_not] at h
 have h3:1≤H∧H≤6∧1≤ss.length∧ss.length≤30:=by omega
 refine Qv (fun pre s=>∀ x∈pre,(x.length:Int)≤H) (by simp) (fun pre x post s nx e hI h0=>?_) (fun s hI=>?_)
 ·have e:ss=pre++x::post:=e
  refine Jc (fun hx=>Hz ?_) (fun hx=>h0 _ fun y hy=>?_)
  ·refine(Eu fun hr=>?_).symm
   have:=hr.fit x (by rw [e]; simp)
   have hx:H < (x.length:Int):=Ep hx
   omega
  ·have hx:¬ H < (x.length:Int):=Er hx
   rcases Km.1 hy with hy | hy
   ·exact hI y hy
   ·rw [Ko] at hy; subst hy; omega
 ·have hI:∀ x∈ss,(x.length:Int)≤H:=hI
  have hl:ss.flatten.length≤180:=by
   have:=H30 (ss:=ss) (k:=6) (fun x hx=>by have:=hI x hx; omega)
   omega
  refine H0 (Qdf (by omega)) ?_
  refine Qv (fun pre s=>pre.Nodup∧∀ b∈pre,1≤b∧b≤999999) ⟨by simp,by simp⟩ (fun pre b post s nx e hJ h0=>?_) (fun s hJ=>Hz ?_)
  ·have hm:b∈ss.flatten:=by rw [e]; simp
   refine Jc (fun hb=>Hz ?_) (fun hb=>?_)
   ·simp only [Kr,Kj] at hb
    refine(Eu fun hr=>?_).symm
    have:=hr.ids b hm; omega
   ·simp only [Ks,decide_eq_false_iff_not] at hb
    have hp:pre.length < 180:=by
     have:=congrArg List.length e
     simp only [Kg,Kc] at this; omega
    refine Q4 (Es (by omega)) ?_
    have ht:((pre.length:Int)).toNat=pre.length:=by omega
    rw [ht]
    refine H40 (fun i s=>b ∉ pre.take i) (by simp) (fun i s nx' hi hK h2=>?_) (fun s hK=>h0 _ ?_)
    ·refine Qn (m:=i) rfl (x:=pre[i]) (by rw [e,Kb hi,Ew hi]) ?_
     refine Jc (fun hc=>Hz ?_) (fun hc=>h2 _ ?_)
     ·have hc:=Ep hc
      refine(Eu fun hr=>?_).symm
      have h1:=hr.nodup
      rw [e] at h1
      exact(List.nodup_append.1 h1).2.2 b (by rw [← hc]; exact List.getElem_mem hi) b (by simp) rfl
     ·have hc:=Er hc
      rw [List.take_add_one,Ew hi,Km]
      simp only [Option.toList_some,Ko]
      exact fun h=>h.elim hK (fun h=>hc h.symm)
    ·rw [List.take_length] at hK
     refine⟨List.nodup_append.2 ⟨hJ.1,by simp,fun a ha c hc=>?_⟩,fun a ha=>?_⟩
     ·rw [Ko] at hc; subst hc; exact fun e=>hK (e ▸ ha)
     ·rcases Km.1 ha with ha | ha
      ·exact hJ.2 a ha
      ·rw [Ko] at ha; subst ha; omega
  ·exact(Es (Q2.iff.2 ⟨h3,hI,hJ.1,hJ.2⟩)).symm

/-! ### Find -/
def G34 (b:Int):List (List Int)→Nat→Int×Int×Bool
 | [],_=>(0,0,false)
 | s::r,i=>if b∈s then ((i:Int),(s.idxOf b:Int),true) else G34 b r (i+1)
theorem Q5c (b:Int):∀ (ss:List (List Int)) (i:Nat),each (fun(y22:List Int) i22 (s22:Unit) nx22=>bnd (Rh y22 b) fun r28=>bif decide (0≤r28) then (some ((i22:Int),r28,true)) else (nx22 ())) (fun(s22:Unit)=>some ((0:Int),(0:Int),false)) ss i ()=some (G34 b ss i)
 | [],i=>rfl
 | s::r,i=>by
  rw [each,Jdb,G34,G0f]
  by_cases h:b∈s
  ·rw [if_pos h,if_pos h,Es (by omega),cond_true]
  ·rw [if_neg h,if_neg h,Eu (by omega),cond_false,Q5c b r (i+1)]
theorem Hf6 (ss:List (List Int)) (H b:Int):Zu ⟨ss,H⟩ b=some (G34 b ss 0):=by
 unfold Zu
 exact Q5c b ss 0
theorem Jb6 {β:Type} (b:Int) (z:Nat→Option β) (k:Option β):∀ (s:List Int) (i:Nat),each (fun(y22:Int) i22 (s22:Unit) nx22=>bif decide (y22=b) then z i22 else (nx22 ())) (fun(s22:Unit)=>k) s i ()=if b∈s then z (i+s.idxOf b) else k
 | [],i=>by simp [each]
 | x::l,i=>by
  rw [each]
  by_cases h:x=b
  ·subst h
   rw [Es rfl,cond_true,if_pos (List.mem_cons_self ..),List.idxOf_cons_self]; rfl
  ·rw [Eu h,cond_false,Jb6 b z k l (i+1),Q2d l h]
   simp only [Kp,Ne.symm h,false_or]
   split
   ·congr 1; omega
   ·rfl
theorem J5c (b:Int):∀ (ss:List (List Int)) (i:Nat),each (fun(y4:List Int) i4 (s4:Unit) nx4=>each (fun(y22:Int) i22 (s22:Unit) nx22=>bif decide (y22=b) then (some ((i4:Int),(i22:Int),true)) else (nx22 ())) (fun(s22:Unit)=>nx4 ()) y4 0 ()) (fun(s4:Unit)=>some ((0:Int),(0:Int),false)) ss i ()=some (G34 b ss i)
 | [],i=>rfl
 | s::r,i=>by
  rw [each,Jb6 b (fun j=>some ((i:Int),(j:Int),true)),G34,J5c b r (i+1)]
  split
  ·simp
  ·rfl
theorem Jd4 (F:Nat) (ss:List (List Int)) (H b:Int):Rb F ⟨ss,H⟩ b=some (G34 b ss 0):=by
 unfold Rb
 exact J5c b ss 0
theorem Ha1 (b:Int):∀ (ss:List (List Int)) (i:Nat),(G34 b ss i).2.2=decide (b∈ss.flatten)
 | [],i=>by simp [G34]
 | s::r,i=>by
  rw [G34]
  by_cases h:b∈s
  ·simp [h]
  ·rw [if_neg h,Ha1 b r (i+1)]; simp [h]

/-! ### Orders -/
structure H0c (ss:List (List Int)) (order:List Int):Prop where
 nodup:order.Nodup
 in_:∀ b∈order,b∈ss.flatten
theorem H0c.iff {ss:List (List Int)} {order:List Int}:H0c ss order ↔ order.Nodup∧∀ b∈order,b∈ss.flatten:=⟨fun h=>⟨h.1,h.2⟩,fun h=>⟨h.1,h.2⟩⟩
instance {ss:List (List Int)} {order:List Int}:Decidable (H0c ss order):=decidable_of_iff _ H0c.iff.symm
structure G18 (ss:List (List Int)) (H:Int) (order:List Int):Prop where
 y:Q2 ss H
 o:H0c ss order
theorem G18.iff {ss:List (List Int)} {H:Int} {order:List Int}:G18 ss H order ↔ Q2 ss H∧H0c ss order:=⟨fun h=>⟨h.1,h.2⟩,fun h=>⟨h.1,h.2⟩⟩
instance {ss:List (List Int)} {H:Int} {order:List Int}:Decidable (G18 ss H order):=decidable_of_iff _ G18.iff.symm

theorem J81 {pre post:List Int} {b:Int}:rnk (pre++b::post) b=pre.length ↔ b ∉ pre:=by
 unfold rnk
 rw [List.idxOf_append]
 split
 ·rename_i h
  have:=List.idxOf_lt_length_of_mem h
  exact⟨fun e=>by omega,fun h'=>(h' h).elim⟩
 ·rename_i h
  rw [List.idxOf_cons_self]; simp [h]
theorem H0d (F:Nat) (ss:List (List Int)) (H:Int) (order:List Int):Q6 F ⟨ss,H⟩ order=some (decide (G18 ss H order)):=by
 refine Z0 ?_
 unfold Q6
 refine H0 (Hcc F ss H) (Jc (fun h=>Hz ?_) (fun h=>?_))
 ·refine(Eu fun hr=>?_).symm
  simp [hr.y] at h
 have hY:Q2 ss H:=by simpa using h
 refine Qv (fun pre s=>pre.Nodup∧∀ b∈pre,b∈ss.flatten) ⟨by simp,by simp⟩ (fun pre b post s nx e hI h1=>?_) (fun s hI=>Hz ?_)
 ·refine H0 (Jd4 F ss H b) ?_
  rw [Ha1,G8e]
  by_cases hb:b∈ss.flatten
  ·rw [Es hb]
   refine H0 (x:=(rnk order b:Int)) rfl (Jc (fun hf=>Hz ?_) (fun hf=>h1 _ ?_))
   ·refine(Eu fun hr=>?_).symm
    have hf:(rnk order b:Int)≠(pre.length:Int):=by simpa using hf
    have h0:=hr.o.nodup
    rw [e] at h0 hf
    have:b∈pre:=Classical.byContradiction fun hn=>hf (by rw [J81.2 hn])
    exact(List.nodup_append.1 h0).2.2 b this b (by simp) rfl
   ·have hf:(rnk order b:Int)=(pre.length:Int):=by simpa using hf
    rw [e] at hf
    have hn:b ∉ pre:=(J81 (post:=post)).1 (by omega)
    refine⟨List.nodup_append.2 ⟨hI.1,by simp,fun a ha c hc=>?_⟩,fun a ha=>?_⟩
    ·rw [Ko] at hc; subst hc; exact fun e=>hn (e ▸ ha)
    ·rcases Km.1 ha with ha | ha
     ·exact hI.2 a ha
     ·rw [Ko] at ha; subst ha; exact hb
  ·rw [Eu hb]
   exact H0 (x:=default) rfl (Jc (fun _=>Hz (Eu fun hr=>hb (hr.o.in_ b (by rw [e]; simp))).symm) (fun hf=>by simp at hf))
 ·exact(Es ⟨hY,⟨hI.1,hI.2⟩⟩).symm

section
theorem Q22 {α β:Type} [DecidableEq β] {xs:List α} {k:Bool→Option β} {r:Option β} (h:∀ b,(b=true→xs=[])→k b=r):Qfe xs k=r:=by
 unfold Qfe
 cases xs with
 | nil=>rw [h true (fun _=>rfl),h false (fun e=>by cases e)]; simp
 | cons x l=>exact h false (fun e=>by cases e)
end
theorem Q8d {s:List Int} (h:s.length≤1000000):Ri s=some s:=by
 unfold Ri
 refine Q22 (fun b hb=>?_)
 cases b with
 | true=>rw [hb rfl]; rfl
 | false=>rw [cond_false,show decide ((([]:List Int).length+s.length)*8≤140737488355328∧([]:List Int).length+s.length≤maxLen)=true from Zg (by rw [List.length_nil]; omega) (by decide)]; rfl

structure Qd2 (ss:List (List Int)) (order:List Int) (j:Hn):Prop where
 stacks:j.stacks=ss
 order_:j.order=order
 has:∀ b,Hk.has j.ranks b=decide (b∈order)
 get:∀ b,b∈order→Hk.get j.ranks b 0=(rnk order b:Int)

theorem Hc7 {β:Type} {ss:List (List Int)} {z:Int×(List Int)×(List Gx)×Int} (hn:ss.length≤30) (hl:∀ s∈ss,s.length≤6) (P:Option β→Prop) {k:(List (List Int))×Int×(List Int)×(List Gx)×Int→Option β} (h:P (k (ss,z))) :
  P (each (fun(y37:List Int) (i37:Nat) (s37:(List (List Int))×Int×(List Int)×(List Gx)×Int) nx37=>bnd (Ri y37) fun r42=>need (decide ((s37.1.length+[r42].length)*24≤140737488355328∧s37.1.length+[r42].length≤maxLen)) <| nx37 ((s37.1++[r42]),s37.2.1,s37.2.2.1,s37.2.2.2.1,s37.2.2.2.2)) k ss 0 ([],z)):=by
 refine J26 P (fun pre s=>s=(pre,z)) rfl (fun pre x post s nx e hI h0=>?_) (fun s hI=>by rw [hI]; exact h)
 subst hI
 have hx:=hl x (by rw [e]; simp)
 have hp:pre.length < 30:=by
  have:=congrArg List.length e
  simp only [Kg,Kc] at this; omega
 rw [Q8d (by omega),G0f,show decide ((pre.length+[x].length)*24≤140737488355328∧pre.length+[x].length≤maxLen)=true from Zg (by rw [Kh]; omega) (by decide)]
 exact h0 _ rfl
theorem Q81 {pre:List Int} {s:Hk Int Int} {b:Int} (hn:b ∉ pre) (h1:∀ a,Hk.has s a=decide (a∈pre)) (h2:∀ a,a∈pre→Hk.get s a 0=(rnk pre a:Int)) :
  (∀ a,Hk.has (Hk.put s b (pre.length:Int)) a=decide (a∈pre++[b]))∧∀ a,a∈pre++[b]→Hk.get (Hk.put s b (pre.length:Int)) a 0=(rnk (pre++[b]) a:Int):=by
 refine⟨fun a=>?_,fun a ha=>?_⟩
 ·rw [Qa9,h1]
  by_cases e:b=a
  ·subst e; simp
  ·simp [e,Ne.symm e]
 ·rw [Jec]
  by_cases e:b=a
  ·subst e; rw [if_pos rfl,J81.2 hn]
  ·rw [if_neg e]
   have ha:a∈pre:=by simpa [Ne.symm e] using ha
   rw [h2 a ha]
   unfold rnk
   rw [List.idxOf_append,if_pos ha]
theorem Q32 {ss:List (List Int)} {H:Int} {order:List Int} (h:G18 ss H order):Wp (Qp ⟨ss,H⟩ order) (fun r=>r.2=true∧Qd2 ss order r.1):=by
 unfold Qp
 refine H0 (Ge7 ss H) ?_
 rw [Es h.y]
 refine Hc7 h.y.most h.y.len (fun m=>Wp m _) ?_
 refine Qv (fun pre s=>(∀ a,Hk.has s a=decide (a∈pre))∧∀ a,a∈pre→Hk.get s a 0=(rnk pre a:Int)) ⟨fun a=>by simp; rfl,by simp⟩ (fun pre b post s nx e hI h1=>?_) (fun s hI=>Hz ⟨rfl,rfl,rfl,hI.1,hI.2⟩)
 refine H0 (Hf6 ss H b) (H0 rfl ?_)
 have h0:=h.o.nodup
 rw [e] at h0
 have hn:b ∉ pre:=fun hb=>(List.nodup_append.1 h0).2.2 b hb b (by simp) rfl
 rw [Ha1,hI.1,Eu hn,Es (h.o.in_ b (by rw [e]; simp))]
 exact h1 _ (Q81 hn hI.1 hI.2)
theorem Q33 {ss:List (List Int)} {H:Int} {order:List Int} (h:¬ G18 ss H order):Qp ⟨ss,H⟩ order=none∧Yb ⟨ss,H⟩ order=some false:=by
 by_cases hY:Q2 ss H
 ·have hO:¬ H0c ss order:=fun hO=>h ⟨hY,hO⟩
  have fin:∀ s:Hk Int Int,(order.Nodup∧(∀ a∈order,a∈ss.flatten))∧(∀ a,Hk.has s a=decide (a∈order))→False:=fun s hs=>hO ⟨hs.1.1,hs.1.2⟩
  have step:∀ (pre:List Int) (b:Int) (post:List Int) (s:Hk Int Int),order=pre++b::post→(pre.Nodup∧(∀ a∈pre,a∈ss.flatten))∧(∀ a,Hk.has s a=decide (a∈pre))→(Hk.has s b||!(G34 b ss 0).2.2)=false →
    ((pre++[b]).Nodup∧(∀ a∈pre++[b],a∈ss.flatten))∧(∀ a,Hk.has (Hk.put s b (pre.length:Int)) a=decide (a∈pre++[b])):=fun pre b post s e hI hf=>by
   rw [Ha1,hI.2] at hf
   simp only [Ks,decide_eq_false_iff_not,Bool.not_eq_false',Kj] at hf
   refine⟨⟨List.nodup_append.2 ⟨hI.1.1,by simp,fun a ha c hc=>?_⟩,fun a ha=>?_⟩,fun a=>?_⟩
   ·rw [Ko] at hc; subst hc; exact fun e=>hf.1 (e ▸ ha)
   ·rcases Km.1 ha with ha | ha
    ·exact hI.1.2 a ha
    ·rw [Ko] at ha; subst ha; exact hf.2
   ·rw [Qa9,hI.2]
    by_cases e:b=a
    ·subst e; simp
    ·simp [e,Ne.symm e]
  constructor
  ·unfold Qp
   rw [Ge7,Es hY,G0f]
   refine Hc7 hY.most hY.len (fun m=>m=none) ?_
   refine J26 (fun m=>m=none) (fun pre s=>(pre.Nodup∧(∀ a∈pre,a∈ss.flatten))∧(∀ a,Hk.has s a=decide (a∈pre))) ⟨⟨by simp,by simp⟩,fun a=>by simp; rfl⟩ (fun pre b post s nx e hI h0=>?_) (fun s hI=>(fin s hI).elim)
   rw [Hf6,G0f,G0f]
   cases hc:(Hk.has s b||!(G34 b ss 0).2.2) with
   | true=>rfl
   | false=>exact h0 _ (step pre b post s e hI hc)
  ·unfold Yb
   rw [Ge7,Es hY,G0f]
   refine Hc7 hY.most hY.len (fun m=>m=some false) ?_
   refine J26 (fun m=>m=some false) (fun pre s=>(pre.Nodup∧(∀ a∈pre,a∈ss.flatten))∧(∀ a,Hk.has s a=decide (a∈pre))) ⟨⟨by simp,by simp⟩,fun a=>by simp; rfl⟩ (fun pre b post s nx e hI h0=>?_) (fun s hI=>(fin s hI).elim)
   rw [Hf6,G0f,G0f]
   cases hc:(Hk.has s b||!(G34 b ss 0).2.2) with
   | true=>rfl
   | false=>exact h0 _ (step pre b post s e hI hc)
 ·unfold Qp Yb
  rw [Ge7,Eu hY]
  exact⟨rfl,rfl⟩

/-! ### In the way -/
def G30 (order:List Int):Nat→List Int→List Int
 | _,[]=>[]
 | m,b::r=>if m < rnk order b then b::G30 order m r else G30 order (rnk order b) r
def mnF (order:List Int) (m:Nat) (s:List Int):Nat:=s.foldl (fun m b=>min m (rnk order b)) m
def Rq (order:List Int) (ss:List (List Int)):List Int:=ss.flatMap (G30 order order.length)
theorem H97 (order:List Int) (m:Nat) (s:List Int) (b:Int):mnF order m (s++[b])=min (mnF order m s) (rnk order b):=by
 unfold mnF; rw [List.foldl_append]; rfl
theorem G06 (order:List Int) (b:Int):∀ (s:List Int) (m:Nat),G30 order m (s++[b])=G30 order m s++(if mnF order m s < rnk order b then [b] else [])
 | [],m=>by
  show (if m < rnk order b then [b] else [])=[]++(if m < rnk order b then [b] else [])
  rw [List.nil_append]
 | x::s,m=>by
  rw [List.cons_append,G30,G30,G06 order b s,G06 order b s]
  have e:mnF order m (x::s)=mnF order (min m (rnk order x)) s:=rfl
  rw [e]
  by_cases h:m < rnk order x
  ·rw [if_pos h,if_pos h,Nat.min_eq_left (by omega)]; rfl
  ·rw [if_neg h,if_neg h,Nat.min_eq_right (by omega)]
theorem Gdf (order:List Int):∀ (s:List Int) (m:Nat),(G30 order m s).Sublist s
 | [],m=>by simp [G30]
 | x::s,m=>by
  rw [G30]
  split
  ·exact(Gdf order s m).cons_cons x
  ·exact(Gdf order s _).cons x
theorem H1f (order:List Int) (a b:List (List Int)):Rq order (a++b)=Rq order a++Rq order b:=by
 unfold Rq; rw [List.flatMap_append]
theorem Hf7 (order:List Int) (s:List Int):Rq order [s]=G30 order order.length s:=by simp [Rq]
theorem Ga7 (order:List Int):∀ ss:List (List Int),(Rq order ss).Sublist ss.flatten
 | []=>by simp [Rq]
 | s::r=>by
  have:Rq order (s::r)=G30 order order.length s++Rq order r:=rfl
  rw [this,List.flatten_cons]
  exact(Gdf order s _).append (Ga7 order r)
theorem J7d {order:List Int} {ss pre post:List (List Int)} {s pr po:List Int} {b:Int} (e:ss=pre++s::post) (e':s=pr++b::po) (h:ss.flatten.length≤180):(Rq order pre).length+(G30 order order.length pr).length < 180:=by
 have h1:=(Ga7 order pre).length_le
 have h2:=(Gdf order pr order.length).length_le
 rw [e,e',List.flatten_append,List.flatten_cons,Kg,Kg,Kg,Kc] at h
 omega
theorem Qc2 {ss:List (List Int)} {order:List Int} {j:Hn} (hj:Qd2 ss order j) (b:Int):Z2 j b=some (rnk order b:Int):=by
 unfold Z2
 rw [G0f,hj.has b]
 by_cases h:b∈order
 ·rw [Es h,cond_true,hj.get b h]
 ·rw [Eu h,cond_false,hj.order_]
  unfold rnk
  rw [List.idxOf_eq_length h]
theorem R04 {ss:List (List Int)} {order:List Int} {j:Hn} (hj:Qd2 ss order j) (hl:ss.flatten.length≤180):Za j=some ((Rq order ss).length:Int):=by
 refine Z0 ?_
 unfold Za
 rw [hj.stacks,hj.order_]
 refine Qv (fun pre s=>s=((Rq order pre).length:Int)) rfl (fun pre x post s nx e hI h1=>?_) (fun s hI=>Hz hI)
 subst hI
 refine Qv (fun pr s=>s=((((Rq order pre).length+(G30 order order.length pr).length:Nat):Int),(mnF order order.length pr:Int))) rfl (fun pr b po s nx' e' hJ h0=>?_) (fun s hJ=>h1 _ ?_)
 ·subst hJ
  have h2:=J7d (order:=order) e e' hl
  refine H1d (fun r=>r=((((Rq order pre).length+(G30 order order.length (pr++[b])).length:Nat):Int),(mnF order order.length (pr++[b]):Int))) (fun K hK=>?_) (fun a ha=>h0 _ ha)
  refine H0 (Qc2 hj b) (Jc (fun h=>?_) (fun h=>hK _ ?_))
  ·have h:mnF order order.length pr < rnk order b:=by have:=Ep h; omega
   refine Qk (by dsimp only; omega) (hK _ ?_)
   rw [G06,if_pos h,H97,Nat.min_eq_left (by omega),Kg]
   rfl
  ·have h:¬ mnF order order.length pr < rnk order b:=by have:=Er h; omega
   rw [G06,if_neg h,H97,Nat.min_eq_right (by omega),List.append_nil]
 ·subst hJ
  rw [H1f,Hf7,Kg]
theorem J88 {ss:List (List Int)} {H:Int} {order:List Int} (hl:ss.flatten.length≤180):Rf ⟨ss,H⟩ order=some (G11 (Rq order ss)):=by
 refine Z0 ?_
 unfold Rf
 refine Qv (fun pre s=>s=Rq order pre) rfl (fun pre x post s nx e hI h1=>?_) (fun s hI=>?_)
 ·have e:ss=pre++x::post:=e
  subst hI
  refine Qv (fun pr s=>s=((mnF order order.length pr:Int),Rq order pre++G30 order order.length pr)) (by simp [G30,mnF]) (fun pr b po s nx' e' hJ h0=>?_) (fun s hJ=>h1 _ ?_)
  ·subst hJ
   have h2:=J7d (order:=order) e e' hl
   refine H0 (Ha8 order b) (H1d (fun r=>r=Rq order pre++G30 order order.length (pr++[b])) (fun K hK=>?_) (fun a ha=>h0 _ ?_))
   ·refine Jc (fun h=>?_) (fun h=>hK _ ?_)
    ·have h:mnF order order.length pr < rnk order b:=by have:=Ep h; omega
     refine Q4 (Zg (by simp only [Kg,Kh]; omega) (by decide)) (hK _ ?_)
     rw [G06,if_pos h,List.append_assoc]
    ·have h:¬ mnF order order.length pr < rnk order b:=by have:=Er h; omega
     rw [G06,if_neg h,List.append_nil]
   ·rw [ha,H97]
    congr 1
    omega
  ·subst hJ
   rw [H1f,Hf7]
 ·have hI:s=Rq order ss:=hI
  subst hI
  have:=(Ga7 order ss).length_le
  refine H0 (x:=G11 (Rq order ss)) ?_ (Hz rfl)
  unfold J0a
  rw [Es (by omega)]; rfl
theorem H9d (F:Nat) {ss:List (List Int)} {H:Int} {order:List Int} (hl:ss.flatten.length≤180):J3 F ⟨ss,H⟩ order=some (Rq order ss):=by
 refine Z0 ?_
 unfold J3
 refine Qv (fun pre s=>s=Rq order pre) rfl (fun pre x post s nx e hI h4=>?_) (fun s hI=>Hz hI)
 have e:ss=pre++x::post:=e
 subst hI
 refine Qv (fun pr s=>s=Rq order pre++G30 order order.length pr) (by simp [G30]) (fun pr b po s nx' e' hJ h3=>?_) (fun s hJ=>h4 _ ?_)
 ·subst hJ
  have h6:=J7d (order:=order) e e' hl
  refine H1d (fun r=>r=Rq order pre++G30 order order.length (pr++[b])) (fun K hK=>?_) (fun a ha=>h3 _ ha)
  have h7:pr.length≤180:=by
   have h1:ss.flatten.length=pre.flatten.length+((pr.length+(po.length+1))+post.flatten.length):=by
    rw [e,e',List.flatten_append,List.flatten_cons,Kg,Kg,Kg,Kc]
   omega
  refine Q4 (Es (by omega)) ?_
  have ht:((pr.length:Int)).toNat=pr.length:=by omega
  rw [ht]
  refine H40 (fun i s=>s=decide (mnF order order.length (pr.take i) < rnk order b)) ?_ (fun i s nx2 hi h0 h2=>?_) (fun s h0=>?_)
  ·have:=Q19 order b
   exact(Eu (by simp only [List.take_zero,mnF,List.foldl_nil]; omega)).symm
  ·have hx:x[i]? = some pr[i]:=by rw [e',Kb hi,Ew hi]
   have h5:mnF order order.length (pr.take (i+1))=min (mnF order order.length (pr.take i)) (rnk order pr[i]):=by
    rw [List.take_add_one,Ew hi]
    exact H97 _ _ _ _
   cases s with
   | true=>
    have h1:=Ep h0.symm
    exact H0 (x:=default) rfl (H0 (x:=default) rfl (H0 (x:=default) rfl (h2 _ ((Es (by omega)).symm))))
   | false=>
    have h1:=Er h0.symm
    refine H0 (x:=pr[i]) (G9e hx _) (H0 (G8e order pr[i]) (H0 (G8e order b) (h2 _ ?_)))
    rw [h5,Bool.false_or]
    exact decide_eq_decide.2 (by omega)
  ·rw [List.take_length] at h0
   subst h0
   refine Jc (fun h=>?_) (fun h=>hK _ ?_)
   ·have h:=Ep h
    refine Q4 (Zg (by simp only [Kg,Kh]; omega) (by decide)) (hK _ ?_)
    rw [G06,if_pos h,List.append_assoc]
   ·have h:=Er h
    rw [G06,if_neg h,List.append_nil]
 ·subst hJ
  rw [H1f,Hf7]
theorem Ged (ss:List (List Int)) (H:Int) (order:List Int):Qq ⟨ss,H⟩ order=some (if G18 ss H order then (((Rq order ss).length:Int),0) else (0,2)):=by
 unfold Qq
 by_cases h:G18 ss H order
 ·obtain⟨r,e,h1,h2⟩:=Q32 h
  rw [e,if_pos h,Option.isSome_some,cond_true,G0f,h1,R04 h2 h.y.all]
  rfl
 ·obtain⟨e1,e2⟩:=Q33 h
  rw [e1,if_neg h,Option.isSome_none,cond_false,e2]
  rfl
end Go.Proofs.Ytokjlondbjdlfaa
