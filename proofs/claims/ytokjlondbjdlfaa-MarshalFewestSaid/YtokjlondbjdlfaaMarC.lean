/-
 What a model returns, What the functions return that lend and check integers and s Yards and orders: The reference's Right; begin,Bound;
-/
import Derived.Test.YtokjlondbjdlfaaIter
import Derived.Test.YtokjlondbjdlfaaXE
namespace Go.Proofs.Ytokjlondbjdlfaa

section
variable {α β σ : Type} {Q : β → Prop}

def Wp (m : Option β) (Q : β → Prop) : Prop := ∃ r, m = some r ∧ Q r

theorem Hj {r : β} (h : Q r) : Wp (some r) Q := ⟨r, rfl, h⟩
theorem wp_mono {m : Option β} {Q' : β → Prop} (h : Wp m Q') (hq : ∀ r, Q' r → Q r) : Wp m Q := by
  obtain ⟨r, e, h⟩ := h; exact ⟨r, e, hq r h⟩
theorem Yc {m : Option α} {k : α → Option β} (h : Wp m (fun x => Wp (k x) Q)) : Wp (bnd m k) Q := by
  obtain ⟨x, rfl, h⟩ := h; exact h
theorem Gj {m : Option α} {k : α → Option β} {x : α} (e : m = some x) (h : Wp (k x) Q) : Wp (bnd m k) Q := by subst e; exact h
theorem Q0 {z : Int} {k : Int → Option β} (h1 : -9223372036854775808 ≤ z ∧ z ≤ 9223372036854775807) (h : Wp (k z) Q) : Wp (chk z k) Q := by
  unfold chk J9f
  rw [Es h1.1, Es h1.2]; exact h
theorem Hn {c : Bool} {x y : Option β} (h1 : c = true → Wp x Q) (h2 : c = false → Wp y Q) : Wp (bif c then x else y) Q := by
  cases c with
  | true => exact h1 rfl
  | false => exact h2 rfl
theorem Q5 {b : Bool} {k : Option β} (hb : b = true) (h : Wp k Q) : Wp (need b k) Q := by subst hb; exact h
theorem Qm {l : List α} {i : Int} {k : α → Option β} {m : Nat} {x : α} (hi : i = (m : Int)) (hx : l[m]? = some x) (h : Wp (k x) Q) : Wp (R5 l i k) Q := by
  subst hi
  unfold R5
  rw [Es (by omega : (0 : Int) ≤ m), cond_true, show (m : Int).toNat = m by omega, hx]
  exact h
theorem H2a {m : (α → Option β) → Option β} {k : α → Option β} (P : α → Prop) (hm : ∀ K : α → Option β, (∀ a, P a → Wp (K a) Q) → Wp (m K) Q) (hk : ∀ a, P a → Wp (k a) Q) : Wp (jp m k) Q := hm k hk
theorem Q28 {m n : Int} {Q : Int → Prop} (hn : n ≠ 0) (h : Q (m.tmod n)) : Wp (J93 m n) Q := by
  unfold J93
  rw [Eu hn, cond_false]
  exact Hj h
theorem R6 {i : Int} {n m : Nat} {Q : Nat → Prop} (hi : i = (m : Int)) (hm : m ≤ n) (h : Q m) : Wp (Rw i n) Q := by
  subst hi
  unfold Rw
  rw [Es (by omega : (0 : Int) ≤ m), show (m : Int).toNat = m by omega, Es hm]
  exact Hj h
theorem Jz (I : List α → σ → Prop) {b : α → Nat → σ → (σ → Option β) → Option β} {kx : σ → Option β} {xs : List α} {s : σ} (h0 : I [] s)
    (hb : ∀ pre x post s nx, xs = pre ++ x :: post → I pre s → (∀ s', I (pre ++ [x]) s' → Wp (nx s') Q) → Wp (b x pre.length s nx) Q) (hk : ∀ s, I xs s → Wp (kx s) Q) : Wp (each b kx xs 0 s) Q := by
  have key : ∀ (post pre : List α) (s : σ), xs = pre ++ post → I pre s → Wp (each b kx post pre.length s) Q := by
    intro post
    induction post with
    | nil => intro pre s e hi; rw [List.append_nil] at e; subst e; exact hk s hi
    | cons x post ih =>
      intro pre s e hi
      rw [each]
      refine hb pre x post s _ e hi (fun s' h1 => ?_)
      have := ih (pre ++ [x]) s' (by rw [e]; simp) h1
      rw [Kg, Kh] at this
      exact this
  exact key xs [] s rfl h0
theorem H59 (I : Nat → σ → Prop) {b : Nat → σ → (σ → Option β) → Option β} {kx : σ → Option β} {n : Nat} {s : σ} (h0 : I 0 s)
    (hb : ∀ i s nx, i < n → I i s → (∀ s', I (i + 1) s' → Wp (nx s') Q) → Wp (b i s nx) Q) (hk : ∀ s, I n s → Wp (kx s) Q) : Wp (upto b kx n 0 s) Q := by
  have key : ∀ (m i : Nat) (s : σ), i + m = n → I i s → Wp (upto b kx m i s) Q := by
    intro m
    induction m with
    | zero => intro i s e hi; have e : i = n := by omega
              subst e; exact hk s hi
    | succ m ih =>
      intro i s e hi
      rw [upto]
      exact hb i s _ (by omega) hi (fun s' h1 => ih (i + 1) s' (by omega) h1)
  exact key n 0 s (by omega) h0
theorem Rj {m : Option β} {r : β} (h : Wp m (· = r)) : m = some r := by
  obtain ⟨x, e, rfl⟩ := h; exact e
end

set_option maxRecDepth 100000
set_option linter.unusedVariables false
open Go.RowKit

theorem Zi {n k:Nat} (hn:n≤10000001) (hk:k≤1000):decide (n*k≤140737488355328∧n≤maxLen)=true:=by
 refine Es ⟨?_,by unfold maxLen; omega⟩
 exact Nat.le_trans (Nat.mul_le_mul hn hk) (by omega)
section generic
variable {α β:Type}
theorem G0c {x:α} {k:α→Option β}:bnd (some x) k=k x:=rfl
theorem Q8a {l:List α} {body:α→Nat→Unit→(Unit→Option Bool)→Option Bool} (h:∀ (i:Nat) y nx,l[i]? = some y→body y i () nx=nx ()) :
  (bif decide ((l.length:Int)≠(l.length:Int)) then some false else each body (fun(_:Unit)=>some true) l 0 ())=some true:=by
 rw [Eu (by simp),cond_false]
 refine Rj (Jz (fun _ _=>True) trivial (fun pre y post s nx e _ h0=>?_) (fun s _=>Hj rfl))
 rw [h pre.length y nx (by rw [e]; simp)]
 exact h0 _ trivial
theorem Gb8 {γ:Type} {l:List α} {i:Nat} {y:α} (h:l[i]? = some y) (k:α→Option γ):R5 l (i:Int) k=k y:=by
 unfold R5
 rw [Es (by omega:(0:Int)≤(i:Int)),cond_true,show (i:Int).toNat=i by omega,h]; rfl
end generic

theorem Gef (l:List Int):Q9 l l=some true:=by
 unfold Q9
 refine Q8a (fun i y nx hy=>?_)
 rw [Gb8 hy,Eu (by simp),cond_false]

section
variable {α β σ:Type}
theorem J59 (P:Option β→Prop) (I:List α→σ→Prop) {b:α→Nat→σ→(σ→Option β)→Option β} {kx:σ→Option β} {xs:List α} {s:σ} (h0:I [] s)
  (hb:∀ pre x post s nx,xs=pre++x::post→I pre s→(∀ s',I (pre++[x]) s'→P (nx s'))→P (b x pre.length s nx)) (hk:∀ s,I xs s→P (kx s)):P (each b kx xs 0 s):=by
 have key:∀ (post pre:List α) (s:σ),xs=pre++post→I pre s→P (each b kx post pre.length s):=by
  intro post
  induction post with
  | nil=>intro pre s e hi; rw [List.append_nil] at e; subst e; exact hk s hi
  | cons x post ih=>
   intro pre s e hi
   rw [each]
   refine hb pre x post s _ e hi (fun s' h1=>?_)
   have:=ih (pre++[x]) s' (by rw [e]; simp) h1
   rw [Kg,Kh] at this
   exact this
 exact key xs [] s rfl h0
end

/-! ### Ranks -/
def rnk (order:List Int) (b:Int):Nat:=order.idxOf b
theorem Q57 (order:List Int) (b:Int):rnk order b≤order.length:=List.idxOf_le_length
theorem Q6b {x v:Int} (l:List Int) (h:x≠v):(x::l).idxOf v=l.idxOf v+1:=by
 rw [List.idxOf_cons]
 have:(x==v)=false:=by simpa using h
 rw [this]; rfl
theorem Q00 (v:Int):∀ (l:List Int) (i:Nat),each (fun(y18:Int) i18 (s18:Unit) nx18=>bif decide (v=y18) then (some (i18:Int)) else (nx18 ())) (fun(s18:Unit)=>some (-1)) l i ()=some (if v∈l then ((i+l.idxOf v:Nat):Int) else -1)
 | [],i=>by simp [each]
 | x::l,i=>by
  rw [each]
  by_cases h:v=x
  ·subst h
   rw [Es rfl,cond_true,if_pos (List.mem_cons_self ..),List.idxOf_cons_self]; rfl
  ·rw [Eu h,cond_false,Q00 v l (i+1),Q6b l (fun e=>h e.symm)]
   simp only [Kp,h,false_or]
   split <;> simp <;> omega
theorem Q18 (l:List Int) (v:Int):Y3 l v=some (if v∈l then (l.idxOf v:Int) else -1):=by
 unfold Y3
 rw [Q00 v l 0]; simp
theorem H70 (order:List Int) (b:Int):Qb order b=some (rnk order b:Int):=by
 unfold Qb
 rw [Q18]
 unfold rnk
 simp only [bnd]
 by_cases h:b∈order
 ·rw [if_pos h,Es (by omega:(0:Int)≤(order.idxOf b:Int)),cond_true]
 ·rw [if_neg h,Eu (by omega),cond_false,List.idxOf_eq_length h]
theorem Q8d (b:Int) (n:Nat):∀ (l:List Int) (i:Nat),i+l.length=n→each (fun(y17:Int) i17 (s17:Unit) nx17=>bif decide (y17=b) then (some (i17:Int)) else (nx17 ())) (fun(s17:Unit)=>some (n:Int)) l i ()=some ((i+l.idxOf b:Nat):Int)
 | [],i,h=>by simp only [each,List.idxOf_nil]; simp at h; subst h; rfl
 | x::l,i,h=>by
  rw [each]
  by_cases e:x=b
  ·subst e
   rw [Es rfl,cond_true,List.idxOf_cons_self]; rfl
  ·rw [Eu e,cond_false,Q8d b n l (i+1) (by simp at h; omega),Q6b l e]
   congr 2; omega
theorem Ga7 (order:List Int) (b:Int):Je order b=some (rnk order b:Int):=by
 unfold Je
 rw [Q8d b order.length order 0 (by simp)]
 simp [rnk]

/-! ### A right yard, a right order -/
structure Jq (ss:List (List Int)) (H:Int):Prop where
 low:1≤H
 high:H≤6
 some_:1≤ss.length
 most:ss.length≤30
 fit:∀ s∈ss,(s.length:Int)≤H
 nodup:ss.flatten.Nodup
 ids:∀ b∈ss.flatten,1≤b∧b≤999999
theorem Jq.iff {ss:List (List Int)} {H:Int}:Jq ss H ↔ (1≤H∧H≤6∧1≤ss.length∧ss.length≤30)∧(∀ s∈ss,(s.length:Int)≤H)∧ss.flatten.Nodup∧∀ b∈ss.flatten,1≤b∧b≤999999:=
 ⟨fun h=>⟨⟨h.low,h.high,h.some_,h.most⟩,h.fit,h.nodup,h.ids⟩,fun h=>⟨h.1.1,h.1.2.1,h.1.2.2.1,h.1.2.2.2,h.2.1,h.2.2.1,h.2.2.2⟩⟩
instance {ss:List (List Int)} {H:Int}:Decidable (Jq ss H):=decidable_of_iff _ Jq.iff.symm
theorem H44 {ss:List (List Int)} {k:Nat} (h:∀ s∈ss,s.length≤k):ss.flatten.length≤ss.length*k:=by
 induction ss with
 | nil=>simp
 | cons s r ih=>
  rw [List.flatten_cons,Kg,Kc]
  have h1:=h s (List.mem_cons_self ..)
  have h2:=ih (fun x hx=>h x (List.mem_cons_of_mem _ hx))
  rw [Nat.add_mul,Nat.one_mul]; omega
theorem Jq.len {ss:List (List Int)} {H:Int} (h:Jq ss H):∀ s∈ss,s.length≤6:=fun s hs=>by
 have:=h.fit s hs; have:=h.high; omega
theorem Jq.all {ss:List (List Int)} {H:Int} (h:Jq ss H):ss.flatten.length≤180:=by
 have:=H44 h.len
 have:=h.most
 omega

section
variable {κ ν:Type} [DecidableEq κ]
theorem Q85 (m:Hs κ ν) (a:κ) (v:ν):Hs.Hi (Hs.put m a v)=Gb7 (Hs.Hi m) a v:=J89 m.l a v
theorem Q2c (m:Hs κ ν) (a b:κ) (v z:ν):Hs.get (Hs.put m a v) b z=if a=b then v else Hs.get m b z:=by
 unfold Hs.get
 rw [Q85,H65]
 split <;> rfl
theorem Qef (m:Hs κ ν) (a b:κ) (v:ν):Hs.has (Hs.put m a v) b=(decide (a=b)||Hs.has m b):=by
 unfold Hs.has
 rw [Q85,← G6b,← G6b,H65]
 by_cases h:a=b <;> simp [h]
end

/-! ### The program's Right -/
theorem Gcf (ss:List (List Int)) (H:Int):Zo ⟨ss,H⟩=some (decide (Jq ss H)):=by
 refine Rj ?_
 unfold Zo
 refine Hn (fun h=>Hj ?_) (fun h=>?_)
 ·simp only [Kr,Kj] at h
  refine(Eu fun hr=>?_).symm
  have:=hr.low; have:=hr.high; have:=hr.some_; have:=hr.most
  omega
 simp only [Ks,decide_eq_false_iff_not] at h
 have h8:1≤H∧H≤6∧1≤ss.length∧ss.length≤30:=by omega
 refine Jz (fun pre s=>(∀ x∈pre,(x.length:Int)≤H)∧pre.flatten.Nodup∧(∀ b∈pre.flatten,1≤b∧b≤999999)∧∀ b,Hs.get s b 0=if b∈pre.flatten then 1 else 0) ⟨by simp,by simp,by simp,fun b=>by simp; rfl⟩ (fun pre x post s nx e hI h9=>?_) (fun s hI=>Hj ?_)
 ·have e:ss=pre++x::post:=e
  obtain⟨h1,h2,h3,h4⟩:=hI
  refine Hn (fun hx=>Hj ?_) (fun hx=>?_)
  ·refine(Eu fun hr=>?_).symm
   have:=hr.fit x (by rw [e]; simp)
   have hx:H < (x.length:Int):=Ep hx
   omega
  have hx:¬ H < (x.length:Int):=Er hx
  refine Jz (fun pr s=>(pre.flatten++pr).Nodup∧(∀ b∈pre.flatten++pr,1≤b∧b≤999999)∧∀ b,Hs.get s b 0=if b∈pre.flatten++pr then 1 else 0) ⟨by simpa using h2,by simpa using h3,by simpa using h4⟩ (fun pr b po s nx' e' h5 h7=>?_) (fun s h5=>h9 s ?_)
  ·obtain⟨g1,g2,g3⟩:=h5
   have hm:b∈ss.flatten:=by
    rw [e,e',List.flatten_append,List.flatten_cons]; simp
   refine Gj rfl ?_
   rw [g3 b]
   refine Q0 (by split <;> omega) ?_
   by_cases hb:1≤b∧b≤999999
   ·have hc:(!(decide (b < 1)||decide (999999 < b)))=true:=by simp; omega
    rw [hc,cond_true,Q2c,if_pos rfl]
    refine Gj rfl (Hn (fun hf=>Hj ?_) (fun hf=>h7 _ ?_))
    ·refine(Eu fun hr=>?_).symm
     simp only [Kr,Kj] at hf
     have h0:b∈pre.flatten++pr:=by
      refine Classical.byContradiction fun hn=>?_
      rw [if_neg hn] at hf; omega
     have h6:=hr.nodup
     rw [e,e',List.flatten_append,List.flatten_cons,List.append_assoc,← List.append_assoc] at h6
     have:=(List.nodup_append.1 h6).2.2 b h0 b (by simp)
     exact this rfl
    ·simp only [Ks,decide_eq_false_iff_not] at hf
     have h0:b ∉ pre.flatten++pr:=fun hn=>by rw [if_pos hn] at hf; omega
     rw [← List.append_assoc]
     refine⟨List.nodup_append.2 ⟨g1,by simp,fun a ha c hc=>?_⟩,fun a ha=>?_,fun a=>?_⟩
     ·rw [Ko] at hc; subst hc; exact fun e=>h0 (e ▸ ha)
     ·rcases Km.1 ha with ha | ha
      ·exact g2 a ha
      ·rw [Ko] at ha; subst ha; exact hb
     ·rw [Q2c,g3 a]
      by_cases ea:b=a
      ·subst ea; rw [if_pos rfl]; simp [h0]
      ·rw [if_neg ea]; simp [Ne.symm ea]
   ·have hc:(!(decide (b < 1)||decide (999999 < b)))=false:=by
     simp only [Bool.not_eq_false',Kr,Kj]; omega
    rw [hc,cond_false]
    refine Gj rfl (Hn (fun hf=>Hj ?_) (fun hf=>?_))
    ·exact(Eu fun hr=>hb (hr.ids b hm)).symm
    ·simp only [Ks,decide_eq_false_iff_not] at hf
     omega
  ·rw [List.flatten_append,List.flatten_singleton]
   refine⟨fun y hy=>?_,h5⟩
   rcases Km.1 hy with hy | hy
   ·exact h1 y hy
   ·rw [Ko] at hy; subst hy; omega
 ·exact(Es (Jq.iff.2 ⟨h8,hI.1,hI.2.1,hI.2.2.1⟩)).symm

theorem J6f {ss:List (List Int)} {H:Int} (h:ss.flatten.length≤10000000):Rf ⟨ss,H⟩=some ss.flatten:=by
 refine Rj ?_
 unfold Rf
 refine Jz (fun pre s=>s=pre.flatten) rfl (fun pre x post s nx e hI h0=>?_) (fun s hI=>Hj hI)
 have e:ss=pre++x::post:=e
 subst hI
 refine Q5 (Zi ?_ (by decide)) (h0 _ (by simp))
 rw [e,List.flatten_append,List.flatten_cons,Kg,Kg] at h
 omega

theorem Hed (F:Nat) (ss:List (List Int)) (H:Int):Qx F ⟨ss,H⟩=some (decide (Jq ss H)):=by
 refine Rj ?_
 unfold Qx
 refine Hn (fun h=>Hj ?_) (fun h=>?_)
 ·simp only [Kr,Kj] at h
  refine(Eu fun hr=>?_).symm
  have:=hr.low; have:=hr.high; have:=hr.some_; have:=hr.most
  omega
 simp only [Ks,decide_eq_false_iff_not] at h
 have h3:1≤H∧H≤6∧1≤ss.length∧ss.length≤30:=by omega
 refine Jz (fun pre s=>∀ x∈pre,(x.length:Int)≤H) (by simp) (fun pre x post s nx e hI h0=>?_) (fun s hI=>?_)
 ·have e:ss=pre++x::post:=e
  refine Hn (fun hx=>Hj ?_) (fun hx=>h0 _ fun y hy=>?_)
  ·refine(Eu fun hr=>?_).symm
   have:=hr.fit x (by rw [e]; simp)
   have hx:H < (x.length:Int):=Ep hx
   omega
  ·have hx:¬ H < (x.length:Int):=Er hx
   rcases Km.1 hy with hy | hy
   ·exact hI y hy
   ·rw [Ko] at hy; subst hy; omega
 ·have hI:∀ x∈ss,(x.length:Int)≤H:=hI
  have hl:ss.flatten.length≤180:=by
   have:=H44 (ss:=ss) (k:=6) (fun x hx=>by have:=hI x hx; omega)
   omega
  refine Gj (J6f (by omega)) ?_
  refine Jz (fun pre s=>pre.Nodup∧∀ b∈pre,1≤b∧b≤999999) ⟨by simp,by simp⟩ (fun pre b post s nx e hJ h0=>?_) (fun s hJ=>Hj ?_)
  ·have hm:b∈ss.flatten:=by rw [e]; simp
   refine Hn (fun hb=>Hj ?_) (fun hb=>?_)
   ·simp only [Kr,Kj] at hb
    refine(Eu fun hr=>?_).symm
    have:=hr.ids b hm; omega
   ·simp only [Ks,decide_eq_false_iff_not] at hb
    have hp:pre.length < 180:=by
     have:=congrArg List.length e
     simp only [Kg,Kc] at this; omega
    refine Q5 (Es (by omega)) ?_
    have ht:((pre.length:Int)).toNat=pre.length:=by omega
    rw [ht]
    refine H59 (fun i s=>b ∉ pre.take i) (by simp) (fun i s nx' hi hK h2=>?_) (fun s hK=>h0 _ ?_)
    ·refine Qm (m:=i) rfl (x:=pre[i]) (by rw [e,Kb hi,Ew hi]) ?_
     refine Hn (fun hc=>Hj ?_) (fun hc=>h2 _ ?_)
     ·have hc:=Ep hc
      refine(Eu fun hr=>?_).symm
      have h1:=hr.nodup
      rw [e] at h1
      exact(List.nodup_append.1 h1).2.2 b (by rw [← hc]; exact List.getElem_mem hi) b (by simp) rfl
     ·have hc:=Er hc
      rw [List.take_add_one,Ew hi,Km]
      simp only [Option.toList_some,Ko]
      exact fun h=>h.elim hK (fun h=>hc h.symm)
    ·rw [List.take_length] at hK
     refine⟨List.nodup_append.2 ⟨hJ.1,by simp,fun a ha c hc=>?_⟩,fun a ha=>?_⟩
     ·rw [Ko] at hc; subst hc; exact fun e=>hK (e ▸ ha)
     ·rcases Km.1 ha with ha | ha
      ·exact hJ.2 a ha
      ·rw [Ko] at ha; subst ha; omega
  ·exact(Es (Jq.iff.2 ⟨h3,hI,hJ.1,hJ.2⟩)).symm

/-! ### Find -/
def G49 (b:Int):List (List Int)→Nat→Int×Int×Bool
 | [],_=>(0,0,false)
 | s::r,i=>if b∈s then ((i:Int),(s.idxOf b:Int),true) else G49 b r (i+1)
theorem Q9e (b:Int):∀ (ss:List (List Int)) (i:Nat),each (fun(y22:List Int) i22 (s22:Unit) nx22=>bnd (Y3 y22 b) fun r28=>bif decide (0≤r28) then (some ((i22:Int),r28,true)) else (nx22 ())) (fun(s22:Unit)=>some ((0:Int),(0:Int),false)) ss i ()=some (G49 b ss i)
 | [],i=>rfl
 | s::r,i=>by
  rw [each,Q18,G49,G0c]
  by_cases h:b∈s
  ·rw [if_pos h,if_pos h,Es (by omega),cond_true]
  ·rw [if_neg h,if_neg h,Eu (by omega),cond_false,Q9e b r (i+1)]
theorem J1f (ss:List (List Int)) (H b:Int):G0d ⟨ss,H⟩ b=some (G49 b ss 0):=by
 unfold G0d
 exact Q9e b ss 0
theorem Jef {β:Type} (b:Int) (z:Nat→Option β) (k:Option β):∀ (s:List Int) (i:Nat),each (fun(y22:Int) i22 (s22:Unit) nx22=>bif decide (y22=b) then z i22 else (nx22 ())) (fun(s22:Unit)=>k) s i ()=if b∈s then z (i+s.idxOf b) else k
 | [],i=>by simp [each]
 | x::l,i=>by
  rw [each]
  by_cases h:x=b
  ·subst h
   rw [Es rfl,cond_true,if_pos (List.mem_cons_self ..),List.idxOf_cons_self]; rfl
  ·rw [Eu h,cond_false,Jef b z k l (i+1),Q6b l h]
   simp only [Kp,Ne.symm h,false_or]
   split
   ·congr 1; omega
   ·rfl
theorem J92 (b:Int):∀ (ss:List (List Int)) (i:Nat),each (fun(y4:List Int) i4 (s4:Unit) nx4=>each (fun(y22:Int) i22 (s22:Unit) nx22=>bif decide (y22=b) then (some ((i4:Int),(i22:Int),true)) else (nx22 ())) (fun(s22:Unit)=>nx4 ()) y4 0 ()) (fun(s4:Unit)=>some ((0:Int),(0:Int),false)) ss i ()=some (G49 b ss i)
 | [],i=>rfl
 | s::r,i=>by
  rw [each,Jef b (fun j=>some ((i:Int),(j:Int),true)),G49,J92 b r (i+1)]
  split
  ·simp
  ·rfl
theorem Q10 (F:Nat) (ss:List (List Int)) (H b:Int):Rs F ⟨ss,H⟩ b=some (G49 b ss 0):=by
 unfold Rs
 exact J92 b ss 0
theorem Hc2 (b:Int):∀ (ss:List (List Int)) (i:Nat),(G49 b ss i).2.2=decide (b∈ss.flatten)
 | [],i=>by simp [G49]
 | s::r,i=>by
  rw [G49]
  by_cases h:b∈s
  ·simp [h]
  ·rw [if_neg h,Hc2 b r (i+1)]; simp [h]

/-! ### Orders -/
structure H50 (ss:List (List Int)) (order:List Int):Prop where
 nodup:order.Nodup
 in_:∀ b∈order,b∈ss.flatten
theorem H50.iff {ss:List (List Int)} {order:List Int}:H50 ss order ↔ order.Nodup∧∀ b∈order,b∈ss.flatten:=⟨fun h=>⟨h.1,h.2⟩,fun h=>⟨h.1,h.2⟩⟩
instance {ss:List (List Int)} {order:List Int}:Decidable (H50 ss order):=decidable_of_iff _ H50.iff.symm
structure Y2 (ss:List (List Int)) (H:Int) (order:List Int):Prop where
 y:Jq ss H
 o:H50 ss order
theorem Y2.iff {ss:List (List Int)} {H:Int} {order:List Int}:Y2 ss H order ↔ Jq ss H∧H50 ss order:=⟨fun h=>⟨h.1,h.2⟩,fun h=>⟨h.1,h.2⟩⟩
instance {ss:List (List Int)} {H:Int} {order:List Int}:Decidable (Y2 ss H order):=decidable_of_iff _ Y2.iff.symm

theorem J19 {pre post:List Int} {b:Int}:rnk (pre++b::post) b=pre.length ↔ b ∉ pre:=by
 unfold rnk
 rw [List.idxOf_append]
 split
 ·rename_i h
  have:=List.idxOf_lt_length_of_mem h
  exact⟨fun e=>by omega,fun h'=>(h' h).elim⟩
 ·rename_i h
  rw [List.idxOf_cons_self]; simp [h]
theorem G63 (F:Nat) (ss:List (List Int)) (H:Int) (order:List Int):Qe F ⟨ss,H⟩ order=some (decide (Y2 ss H order)):=by
 refine Rj ?_
 unfold Qe
 refine Gj (Hed F ss H) (Hn (fun h=>Hj ?_) (fun h=>?_))
 ·refine(Eu fun hr=>?_).symm
  simp [hr.y] at h
 have hY:Jq ss H:=by simpa using h
 refine Jz (fun pre s=>pre.Nodup∧∀ b∈pre,b∈ss.flatten) ⟨by simp,by simp⟩ (fun pre b post s nx e hI h1=>?_) (fun s hI=>Hj ?_)
 ·refine Gj (Q10 F ss H b) ?_
  rw [Hc2,Ga7]
  by_cases hb:b∈ss.flatten
  ·rw [Es hb]
   refine Gj (x:=(rnk order b:Int)) rfl (Hn (fun hf=>Hj ?_) (fun hf=>h1 _ ?_))
   ·refine(Eu fun hr=>?_).symm
    have hf:(rnk order b:Int)≠(pre.length:Int):=by simpa using hf
    have h0:=hr.o.nodup
    rw [e] at h0 hf
    have:b∈pre:=Classical.byContradiction fun hn=>hf (by rw [J19.2 hn])
    exact(List.nodup_append.1 h0).2.2 b this b (by simp) rfl
   ·have hf:(rnk order b:Int)=(pre.length:Int):=by simpa using hf
    rw [e] at hf
    have hn:b ∉ pre:=(J19 (post:=post)).1 (by omega)
    refine⟨List.nodup_append.2 ⟨hI.1,by simp,fun a ha c hc=>?_⟩,fun a ha=>?_⟩
    ·rw [Ko] at hc; subst hc; exact fun e=>hn (e ▸ ha)
    ·rcases Km.1 ha with ha | ha
     ·exact hI.2 a ha
     ·rw [Ko] at ha; subst ha; exact hb
  ·rw [Eu hb]
   exact Gj (x:=default) rfl (Hn (fun _=>Hj (Eu fun hr=>hb (hr.o.in_ b (by rw [e]; simp))).symm) (fun hf=>by simp at hf))
 ·exact(Es ⟨hY,⟨hI.1,hI.2⟩⟩).symm

section
theorem Q61 {α β:Type} [DecidableEq β] {xs:List α} {k:Bool→Option β} {r:Option β} (h:∀ b,(b=true→xs=[])→k b=r):R4e xs k=r:=by
 unfold R4e
 cases xs with
 | nil=>rw [h true (fun _=>rfl),h false (fun e=>by cases e)]; simp
 | cons x l=>exact h false (fun e=>by cases e)
end
theorem Qd5 {s:List Int} (h:s.length≤1000000):Y4 s=some s:=by
 unfold Y4
 refine Q61 (fun b hb=>?_)
 cases b with
 | true=>rw [hb rfl]; rfl
 | false=>rw [cond_false,show decide ((([]:List Int).length+s.length)*8≤140737488355328∧([]:List Int).length+s.length≤maxLen)=true from Zi (by rw [List.length_nil]; omega) (by decide)]; rfl

structure R20 (ss:List (List Int)) (order:List Int) (j:Hu):Prop where
 stacks:j.stacks=ss
 order_:j.order=order
 has:∀ b,Hs.has j.ranks b=decide (b∈order)
 get:∀ b,b∈order→Hs.get j.ranks b 0=(rnk order b:Int)

theorem He8 {β:Type} {ss:List (List Int)} {z:Int×(List Int)×(List Gz)×Int} (hn:ss.length≤30) (hl:∀ s∈ss,s.length≤6) (P:Option β→Prop) {k:(List (List Int))×Int×(List Int)×(List Gz)×Int→Option β} (h:P (k (ss,z))) :
  P (each (fun(y37:List Int) (i37:Nat) (s37:(List (List Int))×Int×(List Int)×(List Gz)×Int) nx37=>bnd (Y4 y37) fun r42=>need (decide ((s37.1.length+[r42].length)*24≤140737488355328∧s37.1.length+[r42].length≤maxLen)) <| nx37 ((s37.1++[r42]),s37.2.1,s37.2.2.1,s37.2.2.2.1,s37.2.2.2.2)) k ss 0 ([],z)):=by
 refine J59 P (fun pre s=>s=(pre,z)) rfl (fun pre x post s nx e hI h0=>?_) (fun s hI=>by rw [hI]; exact h)
 subst hI
 have hx:=hl x (by rw [e]; simp)
 have hp:pre.length < 30:=by
  have:=congrArg List.length e
  simp only [Kg,Kc] at this; omega
 rw [Qd5 (by omega),G0c,show decide ((pre.length+[x].length)*24≤140737488355328∧pre.length+[x].length≤maxLen)=true from Zi (by rw [Kh]; omega) (by decide)]
 exact h0 _ rfl
theorem Qc6 {pre:List Int} {s:Hs Int Int} {b:Int} (hn:b ∉ pre) (h1:∀ a,Hs.has s a=decide (a∈pre)) (h2:∀ a,a∈pre→Hs.get s a 0=(rnk pre a:Int)) :
  (∀ a,Hs.has (Hs.put s b (pre.length:Int)) a=decide (a∈pre++[b]))∧∀ a,a∈pre++[b]→Hs.get (Hs.put s b (pre.length:Int)) a 0=(rnk (pre++[b]) a:Int):=by
 refine⟨fun a=>?_,fun a ha=>?_⟩
 ·rw [Qef,h1]
  by_cases e:b=a
  ·subst e; simp
  ·simp [e,Ne.symm e]
 ·rw [Q2c]
  by_cases e:b=a
  ·subst e; rw [if_pos rfl,J19.2 hn]
  ·rw [if_neg e]
   have ha:a∈pre:=by simpa [Ne.symm e] using ha
   rw [h2 a ha]
   unfold rnk
   rw [List.idxOf_append,if_pos ha]
theorem Q70 {ss:List (List Int)} {H:Int} {order:List Int} (h:Y2 ss H order):Wp (R1 ⟨ss,H⟩ order) (fun r=>r.2=true∧R20 ss order r.1):=by
 unfold R1
 refine Gj (Gcf ss H) ?_
 rw [Es h.y]
 refine He8 h.y.most h.y.len (fun m=>Wp m _) ?_
 refine Jz (fun pre s=>(∀ a,Hs.has s a=decide (a∈pre))∧∀ a,a∈pre→Hs.get s a 0=(rnk pre a:Int)) ⟨fun a=>by simp; rfl,by simp⟩ (fun pre b post s nx e hI h1=>?_) (fun s hI=>Hj ⟨rfl,rfl,rfl,hI.1,hI.2⟩)
 refine Gj (J1f ss H b) (Gj rfl ?_)
 have h0:=h.o.nodup
 rw [e] at h0
 have hn:b ∉ pre:=fun hb=>(List.nodup_append.1 h0).2.2 b hb b (by simp) rfl
 rw [Hc2,hI.1,Eu hn,Es (h.o.in_ b (by rw [e]; simp))]
 exact h1 _ (Qc6 hn hI.1 hI.2)
theorem Q71 {ss:List (List Int)} {H:Int} {order:List Int} (h:¬ Y2 ss H order):R1 ⟨ss,H⟩ order=none∧Yy ⟨ss,H⟩ order=some false:=by
 by_cases hY:Jq ss H
 ·have hO:¬ H50 ss order:=fun hO=>h ⟨hY,hO⟩
  have fin:∀ s:Hs Int Int,(order.Nodup∧(∀ a∈order,a∈ss.flatten))∧(∀ a,Hs.has s a=decide (a∈order))→False:=fun s hs=>hO ⟨hs.1.1,hs.1.2⟩
  have step:∀ (pre:List Int) (b:Int) (post:List Int) (s:Hs Int Int),order=pre++b::post→(pre.Nodup∧(∀ a∈pre,a∈ss.flatten))∧(∀ a,Hs.has s a=decide (a∈pre))→(Hs.has s b||!(G49 b ss 0).2.2)=false →
    ((pre++[b]).Nodup∧(∀ a∈pre++[b],a∈ss.flatten))∧(∀ a,Hs.has (Hs.put s b (pre.length:Int)) a=decide (a∈pre++[b])):=fun pre b post s e hI hf=>by
   rw [Hc2,hI.2] at hf
   simp only [Ks,decide_eq_false_iff_not,Bool.not_eq_false',Kj] at hf
   refine⟨⟨List.nodup_append.2 ⟨hI.1.1,by simp,fun a ha c hc=>?_⟩,fun a ha=>?_⟩,fun a=>?_⟩
   ·rw [Ko] at hc; subst hc; exact fun e=>hf.1 (e ▸ ha)
   ·rcases Km.1 ha with ha | ha
    ·exact hI.1.2 a ha
    ·rw [Ko] at ha; subst ha; exact hf.2
   ·rw [Qef,hI.2]
    by_cases e:b=a
    ·subst e; simp
    ·simp [e,Ne.symm e]
  constructor
  ·unfold R1
   rw [Gcf,Es hY,G0c]
   refine He8 hY.most hY.len (fun m=>m=none) ?_
   refine J59 (fun m=>m=none) (fun pre s=>(pre.Nodup∧(∀ a∈pre,a∈ss.flatten))∧(∀ a,Hs.has s a=decide (a∈pre))) ⟨⟨by simp,by simp⟩,fun a=>by simp; rfl⟩ (fun pre b post s nx e hI h0=>?_) (fun s hI=>(fin s hI).elim)
   rw [J1f,G0c,G0c]
   cases hc:(Hs.has s b||!(G49 b ss 0).2.2) with
   | true=>rfl
   | false=>exact h0 _ (step pre b post s e hI hc)
  ·unfold Yy
   rw [Gcf,Es hY,G0c]
   refine He8 hY.most hY.len (fun m=>m=some false) ?_
   refine J59 (fun m=>m=some false) (fun pre s=>(pre.Nodup∧(∀ a∈pre,a∈ss.flatten))∧(∀ a,Hs.has s a=decide (a∈pre))) ⟨⟨by simp,by simp⟩,fun a=>by simp; rfl⟩ (fun pre b post s nx e hI h0=>?_) (fun s hI=>(fin s hI).elim)
   rw [J1f,G0c,G0c]
   cases hc:(Hs.has s b||!(G49 b ss 0).2.2) with
   | true=>rfl
   | false=>exact h0 _ (step pre b post s e hI hc)
 ·unfold R1 Yy
  rw [Gcf,Eu hY]
  exact⟨rfl,rfl⟩

/-! ### In the way -/
def G25 (order:List Int):Nat→List Int→List Int
 | _,[]=>[]
 | m,b::r=>if m < rnk order b then b::G25 order m r else G25 order (rnk order b) r
def mnF (order:List Int) (m:Nat) (s:List Int):Nat:=s.foldl (fun m b=>min m (rnk order b)) m
def Q1 (order:List Int) (ss:List (List Int)):List Int:=ss.flatMap (G25 order order.length)
theorem Hb8 (order:List Int) (m:Nat) (s:List Int) (b:Int):mnF order m (s++[b])=min (mnF order m s) (rnk order b):=by
 unfold mnF; rw [List.foldl_append]; rfl
theorem Zu (order:List Int) (b:Int):∀ (s:List Int) (m:Nat),G25 order m (s++[b])=G25 order m s++(if mnF order m s < rnk order b then [b] else [])
 | [],m=>by
  show (if m < rnk order b then [b] else [])=[]++(if m < rnk order b then [b] else [])
  rw [List.nil_append]
 | x::s,m=>by
  rw [List.cons_append,G25,G25,Zu order b s,Zu order b s]
  have e:mnF order m (x::s)=mnF order (min m (rnk order x)) s:=rfl
  rw [e]
  by_cases h:m < rnk order x
  ·rw [if_pos h,if_pos h,Nat.min_eq_left (by omega)]; rfl
  ·rw [if_neg h,if_neg h,Nat.min_eq_right (by omega)]
theorem Gf7 (order:List Int):∀ (s:List Int) (m:Nat),(G25 order m s).Sublist s
 | [],m=>by simp [G25]
 | x::s,m=>by
  rw [G25]
  split
  ·exact(Gf7 order s m).cons_cons x
  ·exact(Gf7 order s _).cons x
theorem H35 (order:List Int) (a b:List (List Int)):Q1 order (a++b)=Q1 order a++Q1 order b:=by
 unfold Q1; rw [List.flatMap_append]
theorem J20 (order:List Int) (s:List Int):Q1 order [s]=G25 order order.length s:=by simp [Q1]
theorem G9c (order:List Int):∀ ss:List (List Int),(Q1 order ss).Sublist ss.flatten
 | []=>by simp [Q1]
 | s::r=>by
  have:Q1 order (s::r)=G25 order order.length s++Q1 order r:=rfl
  rw [this,List.flatten_cons]
  exact(Gf7 order s _).append (G9c order r)
theorem Jb5 {order:List Int} {ss pre post:List (List Int)} {s pr po:List Int} {b:Int} (e:ss=pre++s::post) (e':s=pr++b::po) (h:ss.flatten.length≤180):(Q1 order pre).length+(G25 order order.length pr).length < 180:=by
 have h1:=(G9c order pre).length_le
 have h2:=(Gf7 order pr order.length).length_le
 rw [e,e',List.flatten_append,List.flatten_cons,Kg,Kg,Kg,Kc] at h
 omega
theorem R0e {ss:List (List Int)} {order:List Int} {j:Hu} (hj:R20 ss order j) (b:Int):Zj j b=some (rnk order b:Int):=by
 unfold Zj
 rw [G0c,hj.has b]
 by_cases h:b∈order
 ·rw [Es h,cond_true,hj.get b h]
 ·rw [Eu h,cond_false,hj.order_]
  unfold rnk
  rw [List.idxOf_eq_length h]
theorem R54 {ss:List (List Int)} {order:List Int} {j:Hu} (hj:R20 ss order j) (hl:ss.flatten.length≤180):Zw j=some ((Q1 order ss).length:Int):=by
 refine Rj ?_
 unfold Zw
 rw [hj.stacks,hj.order_]
 refine Jz (fun pre s=>s=((Q1 order pre).length:Int)) rfl (fun pre x post s nx e hI h1=>?_) (fun s hI=>Hj hI)
 subst hI
 refine Jz (fun pr s=>s=((((Q1 order pre).length+(G25 order order.length pr).length:Nat):Int),(mnF order order.length pr:Int))) rfl (fun pr b po s nx' e' hJ h0=>?_) (fun s hJ=>h1 _ ?_)
 ·subst hJ
  have h2:=Jb5 (order:=order) e e' hl
  refine H2a (fun r=>r=((((Q1 order pre).length+(G25 order order.length (pr++[b])).length:Nat):Int),(mnF order order.length (pr++[b]):Int))) (fun K hK=>?_) (fun a ha=>h0 _ ha)
  refine Gj (R0e hj b) (Hn (fun h=>?_) (fun h=>hK _ ?_))
  ·have h:mnF order order.length pr < rnk order b:=by have:=Ep h; omega
   refine Q0 (by dsimp only; omega) (hK _ ?_)
   rw [Zu,if_pos h,Hb8,Nat.min_eq_left (by omega),Kg]
   rfl
  ·have h:¬ mnF order order.length pr < rnk order b:=by have:=Er h; omega
   rw [Zu,if_neg h,Hb8,Nat.min_eq_right (by omega),List.append_nil]
 ·subst hJ
  rw [H35,J20,Kg]
theorem Jc0 {ss:List (List Int)} {H:Int} {order:List Int} (hl:ss.flatten.length≤180):Ry ⟨ss,H⟩ order=some (G04 (Q1 order ss)):=by
 refine Rj ?_
 unfold Ry
 refine Jz (fun pre s=>s=Q1 order pre) rfl (fun pre x post s nx e hI h1=>?_) (fun s hI=>?_)
 ·have e:ss=pre++x::post:=e
  subst hI
  refine Jz (fun pr s=>s=((mnF order order.length pr:Int),Q1 order pre++G25 order order.length pr)) (by simp [G25,mnF]) (fun pr b po s nx' e' hJ h0=>?_) (fun s hJ=>h1 _ ?_)
  ·subst hJ
   have h2:=Jb5 (order:=order) e e' hl
   refine Gj (H70 order b) (H2a (fun r=>r=Q1 order pre++G25 order order.length (pr++[b])) (fun K hK=>?_) (fun a ha=>h0 _ ?_))
   ·refine Hn (fun h=>?_) (fun h=>hK _ ?_)
    ·have h:mnF order order.length pr < rnk order b:=by have:=Ep h; omega
     refine Q5 (Zi (by simp only [Kg,Kh]; omega) (by decide)) (hK _ ?_)
     rw [Zu,if_pos h,List.append_assoc]
    ·have h:¬ mnF order order.length pr < rnk order b:=by have:=Er h; omega
     rw [Zu,if_neg h,List.append_nil]
   ·rw [ha,Hb8]
    congr 1
    omega
  ·subst hJ
   rw [H35,J20]
 ·have hI:s=Q1 order ss:=hI
  subst hI
  have:=(G9c order ss).length_le
  refine Gj (x:=G04 (Q1 order ss)) ?_ (Hj rfl)
  unfold J36
  rw [Es (by omega)]; rfl
theorem H45 (F:Nat) {ss:List (List Int)} {H:Int} {order:List Int} (hl:ss.flatten.length≤180):J3 F ⟨ss,H⟩ order=some (Q1 order ss):=by
 refine Rj ?_
 unfold J3
 refine Jz (fun pre s=>s=Q1 order pre) rfl (fun pre x post s nx e hI h4=>?_) (fun s hI=>Hj hI)
 have e:ss=pre++x::post:=e
 subst hI
 refine Jz (fun pr s=>s=Q1 order pre++G25 order order.length pr) (by simp [G25]) (fun pr b po s nx' e' hJ h3=>?_) (fun s hJ=>h4 _ ?_)
 ·subst hJ
  have h6:=Jb5 (order:=order) e e' hl
  refine H2a (fun r=>r=Q1 order pre++G25 order order.length (pr++[b])) (fun K hK=>?_) (fun a ha=>h3 _ ha)
  have h7:pr.length≤180:=by
   have h1:ss.flatten.length=pre.flatten.length+((pr.length+(po.length+1))+post.flatten.length):=by
    rw [e,e',List.flatten_append,List.flatten_cons,Kg,Kg,Kg,Kc]
   omega
  refine Q5 (Es (by omega)) ?_
  have ht:((pr.length:Int)).toNat=pr.length:=by omega
  rw [ht]
  refine H59 (fun i s=>s=decide (mnF order order.length (pr.take i) < rnk order b)) ?_ (fun i s nx2 hi h0 h2=>?_) (fun s h0=>?_)
  ·have:=Q57 order b
   exact(Eu (by simp only [List.take_zero,mnF,List.foldl_nil]; omega)).symm
  ·have hx:x[i]? = some pr[i]:=by rw [e',Kb hi,Ew hi]
   have h5:mnF order order.length (pr.take (i+1))=min (mnF order order.length (pr.take i)) (rnk order pr[i]):=by
    rw [List.take_add_one,Ew hi]
    exact Hb8 _ _ _ _
   cases s with
   | true=>
    have h1:=Ep h0.symm
    exact Gj (x:=default) rfl (Gj (x:=default) rfl (Gj (x:=default) rfl (h2 _ ((Es (by omega)).symm))))
   | false=>
    have h1:=Er h0.symm
    refine Gj (x:=pr[i]) (Gb8 hx _) (Gj (Ga7 order pr[i]) (Gj (Ga7 order b) (h2 _ ?_)))
    rw [h5,Bool.false_or]
    exact decide_eq_decide.2 (by omega)
  ·rw [List.take_length] at h0
   subst h0
   refine Hn (fun h=>?_) (fun h=>hK _ ?_)
   ·have h:=Ep h
    refine Q5 (Zi (by simp only [Kg,Kh]; omega) (by decide)) (hK _ ?_)
    rw [Zu,if_pos h,List.append_assoc]
   ·have h:=Er h
    rw [Zu,if_neg h,List.append_nil]
 ·subst hJ
  rw [H35,J20]
theorem G43 (ss:List (List Int)) (H:Int) (order:List Int):Qq ⟨ss,H⟩ order=some (if Y2 ss H order then (((Q1 order ss).length:Int),0) else (0,2)):=by
 unfold Qq
 by_cases h:Y2 ss H order
 ·obtain⟨r,e,h1,h2⟩:=Q70 h
  rw [e,if_pos h,Option.isSome_some,cond_true,G0c,h1,R54 h2 h.y.all]
  rfl
 ·obtain⟨e1,e2⟩:=Q71 h
  rw [e1,if_neg h,Option.isSome_none,cond_false,e2]
  rfl
end Go.Proofs.Ytokjlondbjdlfaa
