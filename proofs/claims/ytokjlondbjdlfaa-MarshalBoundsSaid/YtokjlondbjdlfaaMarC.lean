/-
 What a model returns, What the functions return that lend and check integers and s Yards and orders: The reference's Right; begin,Bound;
-/
import Derived.Test.YtokjlondbjdlfaaIter
import Derived.Test.YtokjlondbjdlfaaXE
namespace Go.Proofs.Ytokjlondbjdlfaa

section
variable {α β σ : Type} {Q : β → Prop}

def Wp (m : Option β) (Q : β → Prop) : Prop := ∃ r, m = some r ∧ Q r

theorem Hq {r : β} (h : Q r) : Wp (some r) Q := ⟨r, rfl, h⟩
theorem wp_mono {m : Option β} {Q' : β → Prop} (h : Wp m Q') (hq : ∀ r, Q' r → Q r) : Wp m Q := by
  obtain ⟨r, e, h⟩ := h; exact ⟨r, e, hq r h⟩
theorem Z6 {m : Option α} {k : α → Option β} (h : Wp m (fun x => Wp (k x) Q)) : Wp (bnd m k) Q := by
  obtain ⟨x, rfl, h⟩ := h; exact h
theorem Gk {m : Option α} {k : α → Option β} {x : α} (e : m = some x) (h : Wp (k x) Q) : Wp (bnd m k) Q := by subst e; exact h
theorem Q6 {z : Int} {k : Int → Option β} (h1 : -9223372036854775808 ≤ z ∧ z ≤ 9223372036854775807) (h : Wp (k z) Q) : Wp (chk z k) Q := by
  unfold chk J86
  rw [Es h1.1, Es h1.2]; exact h
theorem Hs {c : Bool} {x y : Option β} (h1 : c = true → Wp x Q) (h2 : c = false → Wp y Q) : Wp (bif c then x else y) Q := by
  cases c with
  | true => exact h1 rfl
  | false => exact h2 rfl
theorem Jz {b : Bool} {k : Option β} (hb : b = true) (h : Wp k Q) : Wp (need b k) Q := by subst hb; exact h
theorem Qi {l : List α} {i : Int} {k : α → Option β} {m : Nat} {x : α} (hi : i = (m : Int)) (hx : l[m]? = some x) (h : Wp (k x) Q) : Wp (R2 l i k) Q := by
  subst hi
  unfold R2
  rw [Es (by omega : (0 : Int) ≤ m), cond_true, show (m : Int).toNat = m by omega, hx]
  exact h
theorem H28 {m : (α → Option β) → Option β} {k : α → Option β} (P : α → Prop) (hm : ∀ K : α → Option β, (∀ a, P a → Wp (K a) Q) → Wp (m K) Q) (hk : ∀ a, P a → Wp (k a) Q) : Wp (jp m k) Q := hm k hk
theorem Qd5 {m n : Int} {Q : Int → Prop} (hn : n ≠ 0) (h : Q (m.tmod n)) : Wp (Jd7 m n) Q := by
  unfold Jd7
  rw [Eu hn, cond_false]
  exact Hq h
theorem Rq {i : Int} {n m : Nat} {Q : Nat → Prop} (hi : i = (m : Int)) (hm : m ≤ n) (h : Q m) : Wp (Rz i n) Q := by
  subst hi
  unfold Rz
  rw [Es (by omega : (0 : Int) ≤ m), show (m : Int).toNat = m by omega, Es hm]
  exact Hq h
theorem Q8 (I : List α → σ → Prop) {b : α → Nat → σ → (σ → Option β) → Option β} {kx : σ → Option β} {xs : List α} {s : σ} (h0 : I [] s)
    (hb : ∀ pre x post s nx, xs = pre ++ x :: post → I pre s → (∀ s', I (pre ++ [x]) s' → Wp (nx s') Q) → Wp (b x pre.length s nx) Q) (hk : ∀ s, I xs s → Wp (kx s) Q) : Wp (each b kx xs 0 s) Q := by
  have key : ∀ (post pre : List α) (s : σ), xs = pre ++ post → I pre s → Wp (each b kx post pre.length s) Q := by
    intro post
    induction post with
    | nil => intro pre s e hi; rw [List.append_nil] at e; subst e; exact hk s hi
    | cons x post ih =>
      intro pre s e hi
      rw [each]
      refine hb pre x post s _ e hi (fun s' h1 => ?_)
      have := ih (pre ++ [x]) s' (by rw [e]; simp) h1
      rw [Kg, Kh] at this
      exact this
  exact key xs [] s rfl h0
theorem H50 (I : Nat → σ → Prop) {b : Nat → σ → (σ → Option β) → Option β} {kx : σ → Option β} {n : Nat} {s : σ} (h0 : I 0 s)
    (hb : ∀ i s nx, i < n → I i s → (∀ s', I (i + 1) s' → Wp (nx s') Q) → Wp (b i s nx) Q) (hk : ∀ s, I n s → Wp (kx s) Q) : Wp (upto b kx n 0 s) Q := by
  have key : ∀ (m i : Nat) (s : σ), i + m = n → I i s → Wp (upto b kx m i s) Q := by
    intro m
    induction m with
    | zero => intro i s e hi; have e : i = n := by omega
              subst e; exact hk s hi
    | succ m ih =>
      intro i s e hi
      rw [upto]
      exact hb i s _ (by omega) hi (fun s' h1 => ih (i + 1) s' (by omega) h1)
  exact key n 0 s (by omega) h0
theorem Y4 {m : Option β} {r : β} (h : Wp m (· = r)) : m = some r := by
  obtain ⟨x, e, rfl⟩ := h; exact e
end

set_option maxRecDepth 100000
set_option linter.unusedVariables false
open Go.RowKit

theorem Zb {n k:Nat} (hn:n≤10000001) (hk:k≤1000):decide (n*k≤140737488355328∧n≤maxLen)=true:=by
 refine Es ⟨?_,by unfold maxLen; omega⟩
 exact Nat.le_trans (Nat.mul_le_mul hn hk) (by omega)
section generic
variable {α β:Type}
theorem G06 {x:α} {k:α→Option β}:bnd (some x) k=k x:=rfl
theorem Q73 {l:List α} {body:α→Nat→Unit→(Unit→Option Bool)→Option Bool} (h:∀ (i:Nat) y nx,l[i]? = some y→body y i () nx=nx ()) :
  (bif decide ((l.length:Int)≠(l.length:Int)) then some false else each body (fun(_:Unit)=>some true) l 0 ())=some true:=by
 rw [Eu (by simp),cond_false]
 refine Y4 (Q8 (fun _ _=>True) trivial (fun pre y post s nx e _ h0=>?_) (fun s _=>Hq rfl))
 rw [h pre.length y nx (by rw [e]; simp)]
 exact h0 _ trivial
theorem Gad {γ:Type} {l:List α} {i:Nat} {y:α} (h:l[i]? = some y) (k:α→Option γ):R2 l (i:Int) k=k y:=by
 unfold R2
 rw [Es (by omega:(0:Int)≤(i:Int)),cond_true,show (i:Int).toNat=i by omega,h]; rfl
end generic

theorem Ge5 (l:List Int):Q5 l l=some true:=by
 unfold Q5
 refine Q73 (fun i y nx hy=>?_)
 rw [Gad hy,Eu (by simp),cond_false]

section
variable {α β σ:Type}
theorem J3f (P:Option β→Prop) (I:List α→σ→Prop) {b:α→Nat→σ→(σ→Option β)→Option β} {kx:σ→Option β} {xs:List α} {s:σ} (h0:I [] s)
  (hb:∀ pre x post s nx,xs=pre++x::post→I pre s→(∀ s',I (pre++[x]) s'→P (nx s'))→P (b x pre.length s nx)) (hk:∀ s,I xs s→P (kx s)):P (each b kx xs 0 s):=by
 have key:∀ (post pre:List α) (s:σ),xs=pre++post→I pre s→P (each b kx post pre.length s):=by
  intro post
  induction post with
  | nil=>intro pre s e hi; rw [List.append_nil] at e; subst e; exact hk s hi
  | cons x post ih=>
   intro pre s e hi
   rw [each]
   refine hb pre x post s _ e hi (fun s' h1=>?_)
   have:=ih (pre++[x]) s' (by rw [e]; simp) h1
   rw [Kg,Kh] at this
   exact this
 exact key xs [] s rfl h0
end

/-! ### Ranks -/
def rnk (order:List Int) (b:Int):Nat:=order.idxOf b
theorem Q40 (order:List Int) (b:Int):rnk order b≤order.length:=List.idxOf_le_length
theorem Q54 {x v:Int} (l:List Int) (h:x≠v):(x::l).idxOf v=l.idxOf v+1:=by
 rw [List.idxOf_cons]
 have:(x==v)=false:=by simpa using h
 rw [this]; rfl
theorem Jea (v:Int):∀ (l:List Int) (i:Nat),each (fun(y18:Int) i18 (s18:Unit) nx18=>bif decide (v=y18) then (some (i18:Int)) else (nx18 ())) (fun(s18:Unit)=>some (-1)) l i ()=some (if v∈l then ((i+l.idxOf v:Nat):Int) else -1)
 | [],i=>by simp [each]
 | x::l,i=>by
  rw [each]
  by_cases h:v=x
  ·subst h
   rw [Es rfl,cond_true,if_pos (List.mem_cons_self ..),List.idxOf_cons_self]; rfl
  ·rw [Eu h,cond_false,Jea v l (i+1),Q54 l (fun e=>h e.symm)]
   simp only [Kp,h,false_or]
   split <;> simp <;> omega
theorem Q02 (l:List Int) (v:Int):Rw l v=some (if v∈l then (l.idxOf v:Int) else -1):=by
 unfold Rw
 rw [Jea v l 0]; simp
theorem H66 (order:List Int) (b:Int):Q9 order b=some (rnk order b:Int):=by
 unfold Q9
 rw [Q02]
 unfold rnk
 simp only [bnd]
 by_cases h:b∈order
 ·rw [if_pos h,Es (by omega:(0:Int)≤(order.idxOf b:Int)),cond_true]
 ·rw [if_neg h,Eu (by omega),cond_false,List.idxOf_eq_length h]
theorem Q76 (b:Int) (n:Nat):∀ (l:List Int) (i:Nat),i+l.length=n→each (fun(y17:Int) i17 (s17:Unit) nx17=>bif decide (y17=b) then (some (i17:Int)) else (nx17 ())) (fun(s17:Unit)=>some (n:Int)) l i ()=some ((i+l.idxOf b:Nat):Int)
 | [],i,h=>by simp only [each,List.idxOf_nil]; simp at h; subst h; rfl
 | x::l,i,h=>by
  rw [each]
  by_cases e:x=b
  ·subst e
   rw [Es rfl,cond_true,List.idxOf_cons_self]; rfl
  ·rw [Eu e,cond_false,Q76 b n l (i+1) (by simp at h; omega),Q54 l e]
   congr 2; omega
theorem G9c (order:List Int) (b:Int):Jd order b=some (rnk order b:Int):=by
 unfold Jd
 rw [Q76 b order.length order 0 (by simp)]
 simp [rnk]

/-! ### A right yard, a right order -/
structure Jv (ss:List (List Int)) (H:Int):Prop where
 low:1≤H
 high:H≤6
 some_:1≤ss.length
 most:ss.length≤30
 fit:∀ s∈ss,(s.length:Int)≤H
 nodup:ss.flatten.Nodup
 ids:∀ b∈ss.flatten,1≤b∧b≤999999
theorem Jv.iff {ss:List (List Int)} {H:Int}:Jv ss H ↔ (1≤H∧H≤6∧1≤ss.length∧ss.length≤30)∧(∀ s∈ss,(s.length:Int)≤H)∧ss.flatten.Nodup∧∀ b∈ss.flatten,1≤b∧b≤999999:=
 ⟨fun h=>⟨⟨h.low,h.high,h.some_,h.most⟩,h.fit,h.nodup,h.ids⟩,fun h=>⟨h.1.1,h.1.2.1,h.1.2.2.1,h.1.2.2.2,h.2.1,h.2.2.1,h.2.2.2⟩⟩
instance {ss:List (List Int)} {H:Int}:Decidable (Jv ss H):=decidable_of_iff _ Jv.iff.symm
theorem H3b {ss:List (List Int)} {k:Nat} (h:∀ s∈ss,s.length≤k):ss.flatten.length≤ss.length*k:=by
 induction ss with
 | nil=>simp
 | cons s r ih=>
  rw [List.flatten_cons,Kg,Kc]
  have h1:=h s (List.mem_cons_self ..)
  have h2:=ih (fun x hx=>h x (List.mem_cons_of_mem _ hx))
  rw [Nat.add_mul,Nat.one_mul]; omega
theorem Jv.len {ss:List (List Int)} {H:Int} (h:Jv ss H):∀ s∈ss,s.length≤6:=fun s hs=>by
 have:=h.fit s hs; have:=h.high; omega
theorem Jv.all {ss:List (List Int)} {H:Int} (h:Jv ss H):ss.flatten.length≤180:=by
 have:=H3b h.len
 have:=h.most
 omega

section
variable {κ ν:Type} [DecidableEq κ]
theorem Q6e (m:Hn κ ν) (a:κ) (v:ν):Hn.Hh (Hn.put m a v)=Gac (Hn.Hh m) a v:=J6f m.l a v
theorem Q14 (m:Hn κ ν) (a b:κ) (v z:ν):Hn.get (Hn.put m a v) b z=if a=b then v else Hn.get m b z:=by
 unfold Hn.get
 rw [Q6e,H5b]
 split <;> rfl
theorem Qda (m:Hn κ ν) (a b:κ) (v:ν):Hn.has (Hn.put m a v) b=(decide (a=b)||Hn.has m b):=by
 unfold Hn.has
 rw [Q6e,← G5e,← G5e,H5b]
 by_cases h:a=b <;> simp [h]
end

/-! ### The program's Right -/
theorem Gc5 (ss:List (List Int)) (H:Int):Zg ⟨ss,H⟩=some (decide (Jv ss H)):=by
 refine Y4 ?_
 unfold Zg
 refine Hs (fun h=>Hq ?_) (fun h=>?_)
 ·simp only [Kr,Kj] at h
  refine(Eu fun hr=>?_).symm
  have:=hr.low; have:=hr.high; have:=hr.some_; have:=hr.most
  omega
 simp only [Ks,decide_eq_false_iff_not] at h
 have h8:1≤H∧H≤6∧1≤ss.length∧ss.length≤30:=by omega
 refine Q8 (fun pre s=>(∀ x∈pre,(x.length:Int)≤H)∧pre.flatten.Nodup∧(∀ b∈pre.flatten,1≤b∧b≤999999)∧∀ b,Hn.get s b 0=if b∈pre.flatten then 1 else 0) ⟨by simp,by simp,by simp,fun b=>by simp; rfl⟩ (fun pre x post s nx e hI h9=>?_) (fun s hI=>Hq ?_)
 ·have e:ss=pre++x::post:=e
  obtain⟨h1,h2,h3,h4⟩:=hI
  refine Hs (fun hx=>Hq ?_) (fun hx=>?_)
  ·refine(Eu fun hr=>?_).symm
   have:=hr.fit x (by rw [e]; simp)
   have hx:H < (x.length:Int):=Ep hx
   omega
  have hx:¬ H < (x.length:Int):=Er hx
  refine Q8 (fun pr s=>(pre.flatten++pr).Nodup∧(∀ b∈pre.flatten++pr,1≤b∧b≤999999)∧∀ b,Hn.get s b 0=if b∈pre.flatten++pr then 1 else 0) ⟨by simpa using h2,by simpa using h3,by simpa using h4⟩ (fun pr b po s nx' e' h5 h7=>?_) (fun s h5=>h9 s ?_)
  ·obtain⟨g1,g2,g3⟩:=h5
   have hm:b∈ss.flatten:=by
    rw [e,e',List.flatten_append,List.flatten_cons]; simp
   refine Gk rfl ?_
   rw [g3 b]
   refine Q6 (by split <;> omega) ?_
   by_cases hb:1≤b∧b≤999999
   ·have hc:(!(decide (b < 1)||decide (999999 < b)))=true:=by simp; omega
    rw [hc,cond_true,Q14,if_pos rfl]
    refine Gk rfl (Hs (fun hf=>Hq ?_) (fun hf=>h7 _ ?_))
    ·refine(Eu fun hr=>?_).symm
     simp only [Kr,Kj] at hf
     have h0:b∈pre.flatten++pr:=by
      refine Classical.byContradiction fun hn=>?_
      rw [if_neg hn] at hf; omega
     have h6:=hr.nodup
     rw [e,e',List.flatten_append,List.flatten_cons,List.append_assoc,← List.append_assoc] at h6
     have:=(List.nodup_append.1 h6).2.2 b h0 b (by simp)
     exact this rfl
    ·simp only [Ks,decide_eq_false_iff_not] at hf
     have h0:b ∉ pre.flatten++pr:=fun hn=>by rw [if_pos hn] at hf; omega
     rw [← List.append_assoc]
     refine⟨List.nodup_append.2 ⟨g1,by simp,fun a ha c hc=>?_⟩,fun a ha=>?_,fun a=>?_⟩
     ·rw [Ko] at hc; subst hc; exact fun e=>h0 (e ▸ ha)
     ·rcases Km.1 ha with ha | ha
      ·exact g2 a ha
      ·rw [Ko] at ha; subst ha; exact hb
     ·rw [Q14,g3 a]
      by_cases ea:b=a
      ·subst ea; rw [if_pos rfl]; simp [h0]
      ·rw [if_neg ea]; simp [Ne.symm ea]
   ·have hc:(!(decide (b < 1)||decide (999999 < b)))=false:=by
     simp only [Bool.not_eq_false',Kr,Kj]; omega
    rw [hc,cond_false]
    refine Gk rfl (Hs (fun hf=>Hq ?_) (fun hf=>?_))
    ·exact(Eu fun hr=>hb (hr.ids b hm)).symm
    ·simp only [Ks,decide_eq_false_iff_not] at hf
     omega
  ·rw [List.flatten_append,List.flatten_singleton]
   refine⟨fun y hy=>?_,h5⟩
   rcases Km.1 hy with hy | hy
   ·exact h1 y hy
   ·rw [Ko] at hy; subst hy; omega
 ·exact(Es (Jv.iff.2 ⟨h8,hI.1,hI.2.1,hI.2.2.1⟩)).symm

theorem J54 {ss:List (List Int)} {H:Int} (h:ss.flatten.length≤10000000):Rb ⟨ss,H⟩=some ss.flatten:=by
 refine Y4 ?_
 unfold Rb
 refine Q8 (fun pre s=>s=pre.flatten) rfl (fun pre x post s nx e hI h0=>?_) (fun s hI=>Hq hI)
 have e:ss=pre++x::post:=e
 subst hI
 refine Jz (Zb ?_ (by decide)) (h0 _ (by simp))
 rw [e,List.flatten_append,List.flatten_cons,Kg,Kg] at h
 omega

theorem Hdc (F:Nat) (ss:List (List Int)) (H:Int):Qt F ⟨ss,H⟩=some (decide (Jv ss H)):=by
 refine Y4 ?_
 unfold Qt
 refine Hs (fun h=>Hq ?_) (fun h=>?_)
 ·simp only [Kr,Kj] at h
  refine(Eu fun hr=>?_).symm
  have:=hr.low; have:=hr.high; have:=hr.some_; have:=hr.most
  omega
 simp only [Ks,decide_eq_false_iff_not] at h
 have h3:1≤H∧H≤6∧1≤ss.length∧ss.length≤30:=by omega
 refine Q8 (fun pre s=>∀ x∈pre,(x.length:Int)≤H) (by simp) (fun pre x post s nx e hI h0=>?_) (fun s hI=>?_)
 ·have e:ss=pre++x::post:=e
  refine Hs (fun hx=>Hq ?_) (fun hx=>h0 _ fun y hy=>?_)
  ·refine(Eu fun hr=>?_).symm
   have:=hr.fit x (by rw [e]; simp)
   have hx:H < (x.length:Int):=Ep hx
   omega
  ·have hx:¬ H < (x.length:Int):=Er hx
   rcases Km.1 hy with hy | hy
   ·exact hI y hy
   ·rw [Ko] at hy; subst hy; omega
 ·have hI:∀ x∈ss,(x.length:Int)≤H:=hI
  have hl:ss.flatten.length≤180:=by
   have:=H3b (ss:=ss) (k:=6) (fun x hx=>by have:=hI x hx; omega)
   omega
  refine Gk (J54 (by omega)) ?_
  refine Q8 (fun pre s=>pre.Nodup∧∀ b∈pre,1≤b∧b≤999999) ⟨by simp,by simp⟩ (fun pre b post s nx e hJ h0=>?_) (fun s hJ=>Hq ?_)
  ·have hm:b∈ss.flatten:=by rw [e]; simp
   refine Hs (fun hb=>Hq ?_) (fun hb=>?_)
   ·simp only [Kr,Kj] at hb
    refine(Eu fun hr=>?_).symm
    have:=hr.ids b hm; omega
   ·simp only [Ks,decide_eq_false_iff_not] at hb
    have hp:pre.length < 180:=by
     have:=congrArg List.length e
     simp only [Kg,Kc] at this; omega
    refine Jz (Es (by omega)) ?_
    have ht:((pre.length:Int)).toNat=pre.length:=by omega
    rw [ht]
    refine H50 (fun i s=>b ∉ pre.take i) (by simp) (fun i s nx' hi hK h2=>?_) (fun s hK=>h0 _ ?_)
    ·refine Qi (m:=i) rfl (x:=pre[i]) (by rw [e,Kb hi,Ew hi]) ?_
     refine Hs (fun hc=>Hq ?_) (fun hc=>h2 _ ?_)
     ·have hc:=Ep hc
      refine(Eu fun hr=>?_).symm
      have h1:=hr.nodup
      rw [e] at h1
      exact(List.nodup_append.1 h1).2.2 b (by rw [← hc]; exact List.getElem_mem hi) b (by simp) rfl
     ·have hc:=Er hc
      rw [List.take_add_one,Ew hi,Km]
      simp only [Option.toList_some,Ko]
      exact fun h=>h.elim hK (fun h=>hc h.symm)
    ·rw [List.take_length] at hK
     refine⟨List.nodup_append.2 ⟨hJ.1,by simp,fun a ha c hc=>?_⟩,fun a ha=>?_⟩
     ·rw [Ko] at hc; subst hc; exact fun e=>hK (e ▸ ha)
     ·rcases Km.1 ha with ha | ha
      ·exact hJ.2 a ha
      ·rw [Ko] at ha; subst ha; omega
  ·exact(Es (Jv.iff.2 ⟨h3,hI,hJ.1,hJ.2⟩)).symm

/-! ### Find -/
def G40 (b:Int):List (List Int)→Nat→Int×Int×Bool
 | [],_=>(0,0,false)
 | s::r,i=>if b∈s then ((i:Int),(s.idxOf b:Int),true) else G40 b r (i+1)
theorem Q87 (b:Int):∀ (ss:List (List Int)) (i:Nat),each (fun(y22:List Int) i22 (s22:Unit) nx22=>bnd (Rw y22 b) fun r28=>bif decide (0≤r28) then (some ((i22:Int),r28,true)) else (nx22 ())) (fun(s22:Unit)=>some ((0:Int),(0:Int),false)) ss i ()=some (G40 b ss i)
 | [],i=>rfl
 | s::r,i=>by
  rw [each,Q02,G40,G06]
  by_cases h:b∈s
  ·rw [if_pos h,if_pos h,Es (by omega),cond_true]
  ·rw [if_neg h,if_neg h,Eu (by omega),cond_false,Q87 b r (i+1)]
theorem J0a (ss:List (List Int)) (H b:Int):G07 ⟨ss,H⟩ b=some (G40 b ss 0):=by
 unfold G07
 exact Q87 b ss 0
theorem Jd6 {β:Type} (b:Int) (z:Nat→Option β) (k:Option β):∀ (s:List Int) (i:Nat),each (fun(y22:Int) i22 (s22:Unit) nx22=>bif decide (y22=b) then z i22 else (nx22 ())) (fun(s22:Unit)=>k) s i ()=if b∈s then z (i+s.idxOf b) else k
 | [],i=>by simp [each]
 | x::l,i=>by
  rw [each]
  by_cases h:x=b
  ·subst h
   rw [Es rfl,cond_true,if_pos (List.mem_cons_self ..),List.idxOf_cons_self]; rfl
  ·rw [Eu h,cond_false,Jd6 b z k l (i+1),Q54 l h]
   simp only [Kp,Ne.symm h,false_or]
   split
   ·congr 1; omega
   ·rfl
theorem J79 (b:Int):∀ (ss:List (List Int)) (i:Nat),each (fun(y4:List Int) i4 (s4:Unit) nx4=>each (fun(y22:Int) i22 (s22:Unit) nx22=>bif decide (y22=b) then (some ((i4:Int),(i22:Int),true)) else (nx22 ())) (fun(s22:Unit)=>nx4 ()) y4 0 ()) (fun(s4:Unit)=>some ((0:Int),(0:Int),false)) ss i ()=some (G40 b ss i)
 | [],i=>rfl
 | s::r,i=>by
  rw [each,Jd6 b (fun j=>some ((i:Int),(j:Int),true)),G40,J79 b r (i+1)]
  split
  ·simp
  ·rfl
theorem Jf9 (F:Nat) (ss:List (List Int)) (H b:Int):Rm F ⟨ss,H⟩ b=some (G40 b ss 0):=by
 unfold Rm
 exact J79 b ss 0
theorem Hb5 (b:Int):∀ (ss:List (List Int)) (i:Nat),(G40 b ss i).2.2=decide (b∈ss.flatten)
 | [],i=>by simp [G40]
 | s::r,i=>by
  rw [G40]
  by_cases h:b∈s
  ·simp [h]
  ·rw [if_neg h,Hb5 b r (i+1)]; simp [h]

/-! ### Orders -/
structure H48 (ss:List (List Int)) (order:List Int):Prop where
 nodup:order.Nodup
 in_:∀ b∈order,b∈ss.flatten
theorem H48.iff {ss:List (List Int)} {order:List Int}:H48 ss order ↔ order.Nodup∧∀ b∈order,b∈ss.flatten:=⟨fun h=>⟨h.1,h.2⟩,fun h=>⟨h.1,h.2⟩⟩
instance {ss:List (List Int)} {order:List Int}:Decidable (H48 ss order):=decidable_of_iff _ H48.iff.symm
structure Yk (ss:List (List Int)) (H:Int) (order:List Int):Prop where
 y:Jv ss H
 o:H48 ss order
theorem Yk.iff {ss:List (List Int)} {H:Int} {order:List Int}:Yk ss H order ↔ Jv ss H∧H48 ss order:=⟨fun h=>⟨h.1,h.2⟩,fun h=>⟨h.1,h.2⟩⟩
instance {ss:List (List Int)} {H:Int} {order:List Int}:Decidable (Yk ss H order):=decidable_of_iff _ Yk.iff.symm

theorem J04 {pre post:List Int} {b:Int}:rnk (pre++b::post) b=pre.length ↔ b ∉ pre:=by
 unfold rnk
 rw [List.idxOf_append]
 split
 ·rename_i h
  have:=List.idxOf_lt_length_of_mem h
  exact⟨fun e=>by omega,fun h'=>(h' h).elim⟩
 ·rename_i h
  rw [List.idxOf_cons_self]; simp [h]
theorem G54 (F:Nat) (ss:List (List Int)) (H:Int) (order:List Int):Qc F ⟨ss,H⟩ order=some (decide (Yk ss H order)):=by
 refine Y4 ?_
 unfold Qc
 refine Gk (Hdc F ss H) (Hs (fun h=>Hq ?_) (fun h=>?_))
 ·refine(Eu fun hr=>?_).symm
  simp [hr.y] at h
 have hY:Jv ss H:=by simpa using h
 refine Q8 (fun pre s=>pre.Nodup∧∀ b∈pre,b∈ss.flatten) ⟨by simp,by simp⟩ (fun pre b post s nx e hI h1=>?_) (fun s hI=>Hq ?_)
 ·refine Gk (Jf9 F ss H b) ?_
  rw [Hb5,G9c]
  by_cases hb:b∈ss.flatten
  ·rw [Es hb]
   refine Gk (x:=(rnk order b:Int)) rfl (Hs (fun hf=>Hq ?_) (fun hf=>h1 _ ?_))
   ·refine(Eu fun hr=>?_).symm
    have hf:(rnk order b:Int)≠(pre.length:Int):=by simpa using hf
    have h0:=hr.o.nodup
    rw [e] at h0 hf
    have:b∈pre:=Classical.byContradiction fun hn=>hf (by rw [J04.2 hn])
    exact(List.nodup_append.1 h0).2.2 b this b (by simp) rfl
   ·have hf:(rnk order b:Int)=(pre.length:Int):=by simpa using hf
    rw [e] at hf
    have hn:b ∉ pre:=(J04 (post:=post)).1 (by omega)
    refine⟨List.nodup_append.2 ⟨hI.1,by simp,fun a ha c hc=>?_⟩,fun a ha=>?_⟩
    ·rw [Ko] at hc; subst hc; exact fun e=>hn (e ▸ ha)
    ·rcases Km.1 ha with ha | ha
     ·exact hI.2 a ha
     ·rw [Ko] at ha; subst ha; exact hb
  ·rw [Eu hb]
   exact Gk (x:=default) rfl (Hs (fun _=>Hq (Eu fun hr=>hb (hr.o.in_ b (by rw [e]; simp))).symm) (fun hf=>by simp at hf))
 ·exact(Es ⟨hY,⟨hI.1,hI.2⟩⟩).symm

section
theorem Q4a {α β:Type} [DecidableEq β] {xs:List α} {k:Bool→Option β} {r:Option β} (h:∀ b,(b=true→xs=[])→k b=r):R38 xs k=r:=by
 unfold R38
 cases xs with
 | nil=>rw [h true (fun _=>rfl),h false (fun e=>by cases e)]; simp
 | cons x l=>exact h false (fun e=>by cases e)
end
theorem Qbe {s:List Int} (h:s.length≤1000000):Rx s=some s:=by
 unfold Rx
 refine Q4a (fun b hb=>?_)
 cases b with
 | true=>rw [hb rfl]; rfl
 | false=>rw [cond_false,show decide ((([]:List Int).length+s.length)*8≤140737488355328∧([]:List Int).length+s.length≤maxLen)=true from Zb (by rw [List.length_nil]; omega) (by decide)]; rfl

structure R0c (ss:List (List Int)) (order:List Int) (j:Hp):Prop where
 stacks:j.stacks=ss
 order_:j.order=order
 has:∀ b,Hn.has j.ranks b=decide (b∈order)
 get:∀ b,b∈order→Hn.get j.ranks b 0=(rnk order b:Int)

theorem Hd8 {β:Type} {ss:List (List Int)} {z:Int×(List Int)×(List Gy)×Int} (hn:ss.length≤30) (hl:∀ s∈ss,s.length≤6) (P:Option β→Prop) {k:(List (List Int))×Int×(List Int)×(List Gy)×Int→Option β} (h:P (k (ss,z))) :
  P (each (fun(y37:List Int) (i37:Nat) (s37:(List (List Int))×Int×(List Int)×(List Gy)×Int) nx37=>bnd (Rx y37) fun r42=>need (decide ((s37.1.length+[r42].length)*24≤140737488355328∧s37.1.length+[r42].length≤maxLen)) <| nx37 ((s37.1++[r42]),s37.2.1,s37.2.2.1,s37.2.2.2.1,s37.2.2.2.2)) k ss 0 ([],z)):=by
 refine J3f P (fun pre s=>s=(pre,z)) rfl (fun pre x post s nx e hI h0=>?_) (fun s hI=>by rw [hI]; exact h)
 subst hI
 have hx:=hl x (by rw [e]; simp)
 have hp:pre.length < 30:=by
  have:=congrArg List.length e
  simp only [Kg,Kc] at this; omega
 rw [Qbe (by omega),G06,show decide ((pre.length+[x].length)*24≤140737488355328∧pre.length+[x].length≤maxLen)=true from Zb (by rw [Kh]; omega) (by decide)]
 exact h0 _ rfl
theorem Qaf {pre:List Int} {s:Hn Int Int} {b:Int} (hn:b ∉ pre) (h1:∀ a,Hn.has s a=decide (a∈pre)) (h2:∀ a,a∈pre→Hn.get s a 0=(rnk pre a:Int)) :
  (∀ a,Hn.has (Hn.put s b (pre.length:Int)) a=decide (a∈pre++[b]))∧∀ a,a∈pre++[b]→Hn.get (Hn.put s b (pre.length:Int)) a 0=(rnk (pre++[b]) a:Int):=by
 refine⟨fun a=>?_,fun a ha=>?_⟩
 ·rw [Qda,h1]
  by_cases e:b=a
  ·subst e; simp
  ·simp [e,Ne.symm e]
 ·rw [Q14]
  by_cases e:b=a
  ·subst e; rw [if_pos rfl,J04.2 hn]
  ·rw [if_neg e]
   have ha:a∈pre:=by simpa [Ne.symm e] using ha
   rw [h2 a ha]
   unfold rnk
   rw [List.idxOf_append,if_pos ha]
theorem Q59 {ss:List (List Int)} {H:Int} {order:List Int} (h:Yk ss H order):Wp (Qx ⟨ss,H⟩ order) (fun r=>r.2=true∧R0c ss order r.1):=by
 unfold Qx
 refine Gk (Gc5 ss H) ?_
 rw [Es h.y]
 refine Hd8 h.y.most h.y.len (fun m=>Wp m _) ?_
 refine Q8 (fun pre s=>(∀ a,Hn.has s a=decide (a∈pre))∧∀ a,a∈pre→Hn.get s a 0=(rnk pre a:Int)) ⟨fun a=>by simp; rfl,by simp⟩ (fun pre b post s nx e hI h1=>?_) (fun s hI=>Hq ⟨rfl,rfl,rfl,hI.1,hI.2⟩)
 refine Gk (J0a ss H b) (Gk rfl ?_)
 have h0:=h.o.nodup
 rw [e] at h0
 have hn:b ∉ pre:=fun hb=>(List.nodup_append.1 h0).2.2 b hb b (by simp) rfl
 rw [Hb5,hI.1,Eu hn,Es (h.o.in_ b (by rw [e]; simp))]
 exact h1 _ (Qaf hn hI.1 hI.2)
theorem Q5a {ss:List (List Int)} {H:Int} {order:List Int} (h:¬ Yk ss H order):Qx ⟨ss,H⟩ order=none∧Ym ⟨ss,H⟩ order=some false:=by
 by_cases hY:Jv ss H
 ·have hO:¬ H48 ss order:=fun hO=>h ⟨hY,hO⟩
  have fin:∀ s:Hn Int Int,(order.Nodup∧(∀ a∈order,a∈ss.flatten))∧(∀ a,Hn.has s a=decide (a∈order))→False:=fun s hs=>hO ⟨hs.1.1,hs.1.2⟩
  have step:∀ (pre:List Int) (b:Int) (post:List Int) (s:Hn Int Int),order=pre++b::post→(pre.Nodup∧(∀ a∈pre,a∈ss.flatten))∧(∀ a,Hn.has s a=decide (a∈pre))→(Hn.has s b||!(G40 b ss 0).2.2)=false →
    ((pre++[b]).Nodup∧(∀ a∈pre++[b],a∈ss.flatten))∧(∀ a,Hn.has (Hn.put s b (pre.length:Int)) a=decide (a∈pre++[b])):=fun pre b post s e hI hf=>by
   rw [Hb5,hI.2] at hf
   simp only [Ks,decide_eq_false_iff_not,Bool.not_eq_false',Kj] at hf
   refine⟨⟨List.nodup_append.2 ⟨hI.1.1,by simp,fun a ha c hc=>?_⟩,fun a ha=>?_⟩,fun a=>?_⟩
   ·rw [Ko] at hc; subst hc; exact fun e=>hf.1 (e ▸ ha)
   ·rcases Km.1 ha with ha | ha
    ·exact hI.1.2 a ha
    ·rw [Ko] at ha; subst ha; exact hf.2
   ·rw [Qda,hI.2]
    by_cases e:b=a
    ·subst e; simp
    ·simp [e,Ne.symm e]
  constructor
  ·unfold Qx
   rw [Gc5,Es hY,G06]
   refine Hd8 hY.most hY.len (fun m=>m=none) ?_
   refine J3f (fun m=>m=none) (fun pre s=>(pre.Nodup∧(∀ a∈pre,a∈ss.flatten))∧(∀ a,Hn.has s a=decide (a∈pre))) ⟨⟨by simp,by simp⟩,fun a=>by simp; rfl⟩ (fun pre b post s nx e hI h0=>?_) (fun s hI=>(fin s hI).elim)
   rw [J0a,G06,G06]
   cases hc:(Hn.has s b||!(G40 b ss 0).2.2) with
   | true=>rfl
   | false=>exact h0 _ (step pre b post s e hI hc)
  ·unfold Ym
   rw [Gc5,Es hY,G06]
   refine Hd8 hY.most hY.len (fun m=>m=some false) ?_
   refine J3f (fun m=>m=some false) (fun pre s=>(pre.Nodup∧(∀ a∈pre,a∈ss.flatten))∧(∀ a,Hn.has s a=decide (a∈pre))) ⟨⟨by simp,by simp⟩,fun a=>by simp; rfl⟩ (fun pre b post s nx e hI h0=>?_) (fun s hI=>(fin s hI).elim)
   rw [J0a,G06,G06]
   cases hc:(Hn.has s b||!(G40 b ss 0).2.2) with
   | true=>rfl
   | false=>exact h0 _ (step pre b post s e hI hc)
 ·unfold Qx Ym
  rw [Gc5,Eu hY]
  exact⟨rfl,rfl⟩

/-! ### In the way -/
def G20 (order:List Int):Nat→List Int→List Int
 | _,[]=>[]
 | m,b::r=>if m < rnk order b then b::G20 order m r else G20 order (rnk order b) r
def mnF (order:List Int) (m:Nat) (s:List Int):Nat:=s.foldl (fun m b=>min m (rnk order b)) m
def Q1 (order:List Int) (ss:List (List Int)):List Int:=ss.flatMap (G20 order order.length)
theorem Hab (order:List Int) (m:Nat) (s:List Int) (b:Int):mnF order m (s++[b])=min (mnF order m s) (rnk order b):=by
 unfold mnF; rw [List.foldl_append]; rfl
theorem Zm (order:List Int) (b:Int):∀ (s:List Int) (m:Nat),G20 order m (s++[b])=G20 order m s++(if mnF order m s < rnk order b then [b] else [])
 | [],m=>by
  show (if m < rnk order b then [b] else [])=[]++(if m < rnk order b then [b] else [])
  rw [List.nil_append]
 | x::s,m=>by
  rw [List.cons_append,G20,G20,Zm order b s,Zm order b s]
  have e:mnF order m (x::s)=mnF order (min m (rnk order x)) s:=rfl
  rw [e]
  by_cases h:m < rnk order x
  ·rw [if_pos h,if_pos h,Nat.min_eq_left (by omega)]; rfl
  ·rw [if_neg h,if_neg h,Nat.min_eq_right (by omega)]
theorem Gee (order:List Int):∀ (s:List Int) (m:Nat),(G20 order m s).Sublist s
 | [],m=>by simp [G20]
 | x::s,m=>by
  rw [G20]
  split
  ·exact(Gee order s m).cons_cons x
  ·exact(Gee order s _).cons x
theorem H2a (order:List Int) (a b:List (List Int)):Q1 order (a++b)=Q1 order a++Q1 order b:=by
 unfold Q1; rw [List.flatMap_append]
theorem J0b (order:List Int) (s:List Int):Q1 order [s]=G20 order order.length s:=by simp [Q1]
theorem G90 (order:List Int):∀ ss:List (List Int),(Q1 order ss).Sublist ss.flatten
 | []=>by simp [Q1]
 | s::r=>by
  have:Q1 order (s::r)=G20 order order.length s++Q1 order r:=rfl
  rw [this,List.flatten_cons]
  exact(Gee order s _).append (G90 order r)
theorem J9c {order:List Int} {ss pre post:List (List Int)} {s pr po:List Int} {b:Int} (e:ss=pre++s::post) (e':s=pr++b::po) (h:ss.flatten.length≤180):(Q1 order pre).length+(G20 order order.length pr).length < 180:=by
 have h1:=(G90 order pre).length_le
 have h2:=(Gee order pr order.length).length_le
 rw [e,e',List.flatten_append,List.flatten_cons,Kg,Kg,Kg,Kc] at h
 omega
theorem Qf9 {ss:List (List Int)} {order:List Int} {j:Hp} (hj:R0c ss order j) (b:Int):Zc j b=some (rnk order b:Int):=by
 unfold Zc
 rw [G06,hj.has b]
 by_cases h:b∈order
 ·rw [Es h,cond_true,hj.get b h]
 ·rw [Eu h,cond_false,hj.order_]
  unfold rnk
  rw [List.idxOf_eq_length h]
theorem R3e {ss:List (List Int)} {order:List Int} {j:Hp} (hj:R0c ss order j) (hl:ss.flatten.length≤180):Zp j=some ((Q1 order ss).length:Int):=by
 refine Y4 ?_
 unfold Zp
 rw [hj.stacks,hj.order_]
 refine Q8 (fun pre s=>s=((Q1 order pre).length:Int)) rfl (fun pre x post s nx e hI h1=>?_) (fun s hI=>Hq hI)
 subst hI
 refine Q8 (fun pr s=>s=((((Q1 order pre).length+(G20 order order.length pr).length:Nat):Int),(mnF order order.length pr:Int))) rfl (fun pr b po s nx' e' hJ h0=>?_) (fun s hJ=>h1 _ ?_)
 ·subst hJ
  have h2:=J9c (order:=order) e e' hl
  refine H28 (fun r=>r=((((Q1 order pre).length+(G20 order order.length (pr++[b])).length:Nat):Int),(mnF order order.length (pr++[b]):Int))) (fun K hK=>?_) (fun a ha=>h0 _ ha)
  refine Gk (Qf9 hj b) (Hs (fun h=>?_) (fun h=>hK _ ?_))
  ·have h:mnF order order.length pr < rnk order b:=by have:=Ep h; omega
   refine Q6 (by dsimp only; omega) (hK _ ?_)
   rw [Zm,if_pos h,Hab,Nat.min_eq_left (by omega),Kg]
   rfl
  ·have h:¬ mnF order order.length pr < rnk order b:=by have:=Er h; omega
   rw [Zm,if_neg h,Hab,Nat.min_eq_right (by omega),List.append_nil]
 ·subst hJ
  rw [H2a,J0b,Kg]
theorem Ja7 {ss:List (List Int)} {H:Int} {order:List Int} (hl:ss.flatten.length≤180):Rt ⟨ss,H⟩ order=some (G0f (Q1 order ss)):=by
 refine Y4 ?_
 unfold Rt
 refine Q8 (fun pre s=>s=Q1 order pre) rfl (fun pre x post s nx e hI h1=>?_) (fun s hI=>?_)
 ·have e:ss=pre++x::post:=e
  subst hI
  refine Q8 (fun pr s=>s=((mnF order order.length pr:Int),Q1 order pre++G20 order order.length pr)) (by simp [G20,mnF]) (fun pr b po s nx' e' hJ h0=>?_) (fun s hJ=>h1 _ ?_)
  ·subst hJ
   have h2:=J9c (order:=order) e e' hl
   refine Gk (H66 order b) (H28 (fun r=>r=Q1 order pre++G20 order order.length (pr++[b])) (fun K hK=>?_) (fun a ha=>h0 _ ?_))
   ·refine Hs (fun h=>?_) (fun h=>hK _ ?_)
    ·have h:mnF order order.length pr < rnk order b:=by have:=Ep h; omega
     refine Jz (Zb (by simp only [Kg,Kh]; omega) (by decide)) (hK _ ?_)
     rw [Zm,if_pos h,List.append_assoc]
    ·have h:¬ mnF order order.length pr < rnk order b:=by have:=Er h; omega
     rw [Zm,if_neg h,List.append_nil]
   ·rw [ha,Hab]
    congr 1
    omega
  ·subst hJ
   rw [H2a,J0b]
 ·have hI:s=Q1 order ss:=hI
  subst hI
  have:=(G90 order ss).length_le
  refine Gk (x:=G0f (Q1 order ss)) ?_ (Hq rfl)
  unfold J1f
  rw [Es (by omega)]; rfl
theorem H3c (F:Nat) {ss:List (List Int)} {H:Int} {order:List Int} (hl:ss.flatten.length≤180):J2 F ⟨ss,H⟩ order=some (Q1 order ss):=by
 refine Y4 ?_
 unfold J2
 refine Q8 (fun pre s=>s=Q1 order pre) rfl (fun pre x post s nx e hI h4=>?_) (fun s hI=>Hq hI)
 have e:ss=pre++x::post:=e
 subst hI
 refine Q8 (fun pr s=>s=Q1 order pre++G20 order order.length pr) (by simp [G20]) (fun pr b po s nx' e' hJ h3=>?_) (fun s hJ=>h4 _ ?_)
 ·subst hJ
  have h6:=J9c (order:=order) e e' hl
  refine H28 (fun r=>r=Q1 order pre++G20 order order.length (pr++[b])) (fun K hK=>?_) (fun a ha=>h3 _ ha)
  have h7:pr.length≤180:=by
   have h1:ss.flatten.length=pre.flatten.length+((pr.length+(po.length+1))+post.flatten.length):=by
    rw [e,e',List.flatten_append,List.flatten_cons,Kg,Kg,Kg,Kc]
   omega
  refine Jz (Es (by omega)) ?_
  have ht:((pr.length:Int)).toNat=pr.length:=by omega
  rw [ht]
  refine H50 (fun i s=>s=decide (mnF order order.length (pr.take i) < rnk order b)) ?_ (fun i s nx2 hi h0 h2=>?_) (fun s h0=>?_)
  ·have:=Q40 order b
   exact(Eu (by simp only [List.take_zero,mnF,List.foldl_nil]; omega)).symm
  ·have hx:x[i]? = some pr[i]:=by rw [e',Kb hi,Ew hi]
   have h5:mnF order order.length (pr.take (i+1))=min (mnF order order.length (pr.take i)) (rnk order pr[i]):=by
    rw [List.take_add_one,Ew hi]
    exact Hab _ _ _ _
   cases s with
   | true=>
    have h1:=Ep h0.symm
    exact Gk (x:=default) rfl (Gk (x:=default) rfl (Gk (x:=default) rfl (h2 _ ((Es (by omega)).symm))))
   | false=>
    have h1:=Er h0.symm
    refine Gk (x:=pr[i]) (Gad hx _) (Gk (G9c order pr[i]) (Gk (G9c order b) (h2 _ ?_)))
    rw [h5,Bool.false_or]
    exact decide_eq_decide.2 (by omega)
  ·rw [List.take_length] at h0
   subst h0
   refine Hs (fun h=>?_) (fun h=>hK _ ?_)
   ·have h:=Ep h
    refine Jz (Zb (by simp only [Kg,Kh]; omega) (by decide)) (hK _ ?_)
    rw [Zm,if_pos h,List.append_assoc]
   ·have h:=Er h
    rw [Zm,if_neg h,List.append_nil]
 ·subst hJ
  rw [H2a,J0b]
theorem G3a (ss:List (List Int)) (H:Int) (order:List Int):Qm ⟨ss,H⟩ order=some (if Yk ss H order then (((Q1 order ss).length:Int),0) else (0,2)):=by
 unfold Qm
 by_cases h:Yk ss H order
 ·obtain⟨r,e,h1,h2⟩:=Q59 h
  rw [e,if_pos h,Option.isSome_some,cond_true,G06,h1,R3e h2 h.y.all]
  rfl
 ·obtain⟨e1,e2⟩:=Q5a h
  rw [e1,if_neg h,Option.isSome_none,cond_false,e2]
  rfl
end Go.Proofs.Ytokjlondbjdlfaa
