/-
 What a model returns, What the functions return that lend and check integers and s Yards and orders: The reference's Right; begin,Bound; Moves:
-/
import Derived.Test.YtokjlondbjdlfaaIter
import Derived.Test.YtokjlondbjdlfaaXE
namespace Go.Proofs.Ytokjlondbjdlfaa

section
variable {α β σ : Type} {Q : β → Prop}

def Wp (m : Option β) (Q : β → Prop) : Prop := ∃ r, m = some r ∧ Q r

theorem Hj {r : β} (h : Q r) : Wp (some r) Q := ⟨r, rfl, h⟩
theorem wp_mono {m : Option β} {Q' : β → Prop} (h : Wp m Q') (hq : ∀ r, Q' r → Q r) : Wp m Q := by
  obtain ⟨r, e, h⟩ := h; exact ⟨r, e, hq r h⟩
theorem Yu {m : Option α} {k : α → Option β} (h : Wp m (fun x => Wp (k x) Q)) : Wp (bnd m k) Q := by
  obtain ⟨x, rfl, h⟩ := h; exact h
theorem Gn {m : Option α} {k : α → Option β} {x : α} (e : m = some x) (h : Wp (k x) Q) : Wp (bnd m k) Q := by subst e; exact h
theorem Q4 {z : Int} {k : Int → Option β} (h1 : -9223372036854775808 ≤ z ∧ z ≤ 9223372036854775807) (h : Wp (k z) Q) : Wp (chk z k) Q := by
  unfold chk Jb1
  rw [Ew h1.1, Ew h1.2]; exact h
theorem Hi {c : Bool} {x y : Option β} (h1 : c = true → Wp x Q) (h2 : c = false → Wp y Q) : Wp (bif c then x else y) Q := by
  cases c with
  | true => exact h1 rfl
  | false => exact h2 rfl
theorem Q2 {b : Bool} {k : Option β} (hb : b = true) (h : Wp k Q) : Wp (need b k) Q := by subst hb; exact h
theorem Ju {l : List α} {i : Int} {k : α → Option β} {m : Nat} {x : α} (hi : i = (m : Int)) (hx : l[m]? = some x) (h : Wp (k x) Q) : Wp (Qu l i k) Q := by
  subst hi
  unfold Qu
  rw [Ew (by omega : (0 : Int) ≤ m), cond_true, show (m : Int).toNat = m by omega, hx]
  exact h
theorem H42 {m : (α → Option β) → Option β} {k : α → Option β} (P : α → Prop) (hm : ∀ K : α → Option β, (∀ a, P a → Wp (K a) Q) → Wp (m K) Q) (hk : ∀ a, P a → Wp (k a) Q) : Wp (jp m k) Q := hm k hk
theorem R0e {m n : Int} {Q : Int → Prop} (hn : n ≠ 0) (h : Q (m.tmod n)) : Wp (Q09 m n) Q := by
  unfold Q09
  rw [Ex hn, cond_false]
  exact Hj h
theorem Rr {i : Int} {n m : Nat} {Q : Nat → Prop} (hi : i = (m : Int)) (hm : m ≤ n) (h : Q m) : Wp (Y5 i n) Q := by
  subst hi
  unfold Y5
  rw [Ew (by omega : (0 : Int) ≤ m), show (m : Int).toNat = m by omega, Ew hm]
  exact Hj h
theorem Q3 (I : List α → σ → Prop) {b : α → Nat → σ → (σ → Option β) → Option β} {kx : σ → Option β} {xs : List α} {s : σ} (h0 : I [] s)
    (hb : ∀ pre x post s nx, xs = pre ++ x :: post → I pre s → (∀ s', I (pre ++ [x]) s' → Wp (nx s') Q) → Wp (b x pre.length s nx) Q) (hk : ∀ s, I xs s → Wp (kx s) Q) : Wp (each b kx xs 0 s) Q := by
  have key : ∀ (post pre : List α) (s : σ), xs = pre ++ post → I pre s → Wp (each b kx post pre.length s) Q := by
    intro post
    induction post with
    | nil => intro pre s e hi; rw [List.append_nil] at e; subst e; exact hk s hi
    | cons x post ih =>
      intro pre s e hi
      rw [each]
      refine hb pre x post s _ e hi (fun s' h1 => ?_)
      have := ih (pre ++ [x]) s' (by rw [e]; simp) h1
      rw [Kj, Kk] at this
      exact this
  exact key xs [] s rfl h0
theorem H6f (I : Nat → σ → Prop) {b : Nat → σ → (σ → Option β) → Option β} {kx : σ → Option β} {n : Nat} {s : σ} (h0 : I 0 s)
    (hb : ∀ i s nx, i < n → I i s → (∀ s', I (i + 1) s' → Wp (nx s') Q) → Wp (b i s nx) Q) (hk : ∀ s, I n s → Wp (kx s) Q) : Wp (upto b kx n 0 s) Q := by
  have key : ∀ (m i : Nat) (s : σ), i + m = n → I i s → Wp (upto b kx m i s) Q := by
    intro m
    induction m with
    | zero => intro i s e hi; have e : i = n := by omega
              subst e; exact hk s hi
    | succ m ih =>
      intro i s e hi
      rw [upto]
      exact hb i s _ (by omega) hi (fun s' h1 => ih (i + 1) s' (by omega) h1)
  exact key n 0 s (by omega) h0
theorem Ra {m : Option β} {r : β} (h : Wp m (· = r)) : m = some r := by
  obtain ⟨x, e, rfl⟩ := h; exact e
end

set_option maxRecDepth 100000
set_option linter.unusedVariables false
open Go.RowKit

theorem Zi {n k:Nat} (hn:n≤10000001) (hk:k≤1000):decide (n*k≤140737488355328∧n≤maxLen)=true:=by
 refine Ew ⟨?_,by unfold maxLen; omega⟩
 exact Nat.le_trans (Nat.mul_le_mul hn hk) (by omega)
section generic
variable {α β:Type}
theorem G09 {x:α} {k:α→Option β}:bnd (some x) k=k x:=rfl
theorem Qad {l:List α} {body:α→Nat→Unit→(Unit→Option Bool)→Option Bool} (h:∀ (i:Nat) y nx,l[i]? = some y→body y i () nx=nx ()) :
  (bif decide ((l.length:Int)≠(l.length:Int)) then some false else each body (fun(_:Unit)=>some true) l 0 ())=some true:=by
 rw [Ex (by simp),cond_false]
 refine Ra (Q3 (fun _ _=>True) trivial (fun pre y post s nx e _ h0=>?_) (fun s _=>Hj rfl))
 rw [h pre.length y nx (by rw [e]; simp)]
 exact h0 _ trivial
theorem Gcb {γ:Type} {l:List α} {i:Nat} {y:α} (h:l[i]? = some y) (k:α→Option γ):Qu l (i:Int) k=k y:=by
 unfold Qu
 rw [Ew (by omega:(0:Int)≤(i:Int)),cond_true,show (i:Int).toNat=i by omega,h]; rfl
end generic

theorem H04 (l:List Int):Qa l l=some true:=by
 unfold Qa
 refine Qad (fun i y nx hy=>?_)
 rw [Gcb hy,Ex (by simp),cond_false]

section
variable {α β σ:Type}
theorem J6a (P:Option β→Prop) (I:List α→σ→Prop) {b:α→Nat→σ→(σ→Option β)→Option β} {kx:σ→Option β} {xs:List α} {s:σ} (h0:I [] s)
  (hb:∀ pre x post s nx,xs=pre++x::post→I pre s→(∀ s',I (pre++[x]) s'→P (nx s'))→P (b x pre.length s nx)) (hk:∀ s,I xs s→P (kx s)):P (each b kx xs 0 s):=by
 have key:∀ (post pre:List α) (s:σ),xs=pre++post→I pre s→P (each b kx post pre.length s):=by
  intro post
  induction post with
  | nil=>intro pre s e hi; rw [List.append_nil] at e; subst e; exact hk s hi
  | cons x post ih=>
   intro pre s e hi
   rw [each]
   refine hb pre x post s _ e hi (fun s' h1=>?_)
   have:=ih (pre++[x]) s' (by rw [e]; simp) h1
   rw [Kj,Kk] at this
   exact this
 exact key xs [] s rfl h0
end

/-! ### Ranks -/
def rnk (order:List Int) (b:Int):Nat:=order.idxOf b
theorem Q79 (order:List Int) (b:Int):rnk order b≤order.length:=List.idxOf_le_length
theorem Q8e {x v:Int} (l:List Int) (h:x≠v):(x::l).idxOf v=l.idxOf v+1:=by
 rw [List.idxOf_cons]
 have:(x==v)=false:=by simpa using h
 rw [this]; rfl
theorem Q1b (v:Int):∀ (l:List Int) (i:Nat),each (fun(y18:Int) i18 (s18:Unit) nx18=>bif decide (v=y18) then (some (i18:Int)) else (nx18 ())) (fun(s18:Unit)=>some (-1)) l i ()=some (if v∈l then ((i+l.idxOf v:Nat):Int) else -1)
 | [],i=>by simp [each]
 | x::l,i=>by
  rw [each]
  by_cases h:v=x
  ·subst h
   rw [Ew rfl,cond_true,if_pos (List.mem_cons_self ..),List.idxOf_cons_self]; rfl
  ·rw [Ex h,cond_false,Q1b v l (i+1),Q8e l (fun e=>h e.symm)]
   simp only [Ks,h,false_or]
   split <;> simp <;> omega
theorem J7c (l:List Int) (v:Int):Rg l v=some (if v∈l then (l.idxOf v:Int) else -1):=by
 unfold Rg
 rw [Q1b v l 0]; simp
theorem H86 (order:List Int) (b:Int):Qc order b=some (rnk order b:Int):=by
 unfold Qc
 rw [J7c]
 unfold rnk
 simp only [bnd]
 by_cases h:b∈order
 ·rw [if_pos h,Ew (by omega:(0:Int)≤(order.idxOf b:Int)),cond_true]
 ·rw [if_neg h,Ex (by omega),cond_false,List.idxOf_eq_length h]
theorem Qb0 (b:Int) (n:Nat):∀ (l:List Int) (i:Nat),i+l.length=n→each (fun(y17:Int) i17 (s17:Unit) nx17=>bif decide (y17=b) then (some (i17:Int)) else (nx17 ())) (fun(s17:Unit)=>some (n:Int)) l i ()=some ((i+l.idxOf b:Nat):Int)
 | [],i,h=>by simp only [each,List.idxOf_nil]; simp at h; subst h; rfl
 | x::l,i,h=>by
  rw [each]
  by_cases e:x=b
  ·subst e
   rw [Ew rfl,cond_true,List.idxOf_cons_self]; rfl
  ·rw [Ex e,cond_false,Qb0 b n l (i+1) (by simp at h; omega),Q8e l e]
   congr 2; omega
theorem Gb8 (order:List Int) (b:Int):Jf order b=some (rnk order b:Int):=by
 unfold Jf
 rw [Qb0 b order.length order 0 (by simp)]
 simp [rnk]

/-! ### A right yard, a right order -/
structure Jz (ss:List (List Int)) (H:Int):Prop where
 low:1≤H
 high:H≤6
 some_:1≤ss.length
 most:ss.length≤30
 fit:∀ s∈ss,(s.length:Int)≤H
 nodup:ss.flatten.Nodup
 ids:∀ b∈ss.flatten,1≤b∧b≤999999
theorem Jz.iff {ss:List (List Int)} {H:Int}:Jz ss H ↔ (1≤H∧H≤6∧1≤ss.length∧ss.length≤30)∧(∀ s∈ss,(s.length:Int)≤H)∧ss.flatten.Nodup∧∀ b∈ss.flatten,1≤b∧b≤999999:=
 ⟨fun h=>⟨⟨h.low,h.high,h.some_,h.most⟩,h.fit,h.nodup,h.ids⟩,fun h=>⟨h.1.1,h.1.2.1,h.1.2.2.1,h.1.2.2.2,h.2.1,h.2.2.1,h.2.2.2⟩⟩
instance {ss:List (List Int)} {H:Int}:Decidable (Jz ss H):=decidable_of_iff _ Jz.iff.symm
theorem H5b {ss:List (List Int)} {k:Nat} (h:∀ s∈ss,s.length≤k):ss.flatten.length≤ss.length*k:=by
 induction ss with
 | nil=>simp
 | cons s r ih=>
  rw [List.flatten_cons,Kj,Kf]
  have h1:=h s (List.mem_cons_self ..)
  have h2:=ih (fun x hx=>h x (List.mem_cons_of_mem _ hx))
  rw [Nat.add_mul,Nat.one_mul]; omega
theorem Jz.len {ss:List (List Int)} {H:Int} (h:Jz ss H):∀ s∈ss,s.length≤6:=fun s hs=>by
 have:=h.fit s hs; have:=h.high; omega
theorem Jz.all {ss:List (List Int)} {H:Int} (h:Jz ss H):ss.flatten.length≤180:=by
 have:=H5b h.len
 have:=h.most
 omega

section
variable {κ ν:Type} [DecidableEq κ]
theorem Qa8 (m:Hu κ ν) (a:κ) (v:ν):Hu.Hp (Hu.put m a v)=Gca (Hu.Hp m) a v:=J9b m.l a v
theorem Q48 (m:Hu κ ν) (a b:κ) (v z:ν):Hu.get (Hu.put m a v) b z=if a=b then v else Hu.get m b z:=by
 unfold Hu.get
 rw [Qa8,H7a]
 split <;> rfl
theorem R15 (m:Hu κ ν) (a b:κ) (v:ν):Hu.has (Hu.put m a v) b=(decide (a=b)||Hu.has m b):=by
 unfold Hu.has
 rw [Qa8,← G75,← G75,H7a]
 by_cases h:a=b <;> simp [h]
end

/-! ### The program's Right -/
theorem Gb7 (ss:List (List Int)) (H:Int):Zu ⟨ss,H⟩=some (decide (Jz ss H)):=by
 refine Ra ?_
 unfold Zu
 refine Hi (fun h=>Hj ?_) (fun h=>?_)
 ·simp only [Ku,Kn] at h
  refine(Ex fun hr=>?_).symm
  have:=hr.low; have:=hr.high; have:=hr.some_; have:=hr.most
  omega
 simp only [Kv,decide_eq_false_iff_not] at h
 have h8:1≤H∧H≤6∧1≤ss.length∧ss.length≤30:=by omega
 refine Q3 (fun pre s=>(∀ x∈pre,(x.length:Int)≤H)∧pre.flatten.Nodup∧(∀ b∈pre.flatten,1≤b∧b≤999999)∧∀ b,Hu.get s b 0=if b∈pre.flatten then 1 else 0) ⟨by simp,by simp,by simp,fun b=>by simp; rfl⟩ (fun pre x post s nx e hI h9=>?_) (fun s hI=>Hj ?_)
 ·have e:ss=pre++x::post:=e
  obtain⟨h1,h2,h3,h4⟩:=hI
  refine Hi (fun hx=>Hj ?_) (fun hx=>?_)
  ·refine(Ex fun hr=>?_).symm
   have:=hr.fit x (by rw [e]; simp)
   have hx:H < (x.length:Int):=Eu hx
   omega
  have hx:¬ H < (x.length:Int):=Ev hx
  refine Q3 (fun pr s=>(pre.flatten++pr).Nodup∧(∀ b∈pre.flatten++pr,1≤b∧b≤999999)∧∀ b,Hu.get s b 0=if b∈pre.flatten++pr then 1 else 0) ⟨by simpa using h2,by simpa using h3,by simpa using h4⟩ (fun pr b po s nx' e' h5 h7=>?_) (fun s h5=>h9 s ?_)
  ·obtain⟨g1,g2,g3⟩:=h5
   have hm:b∈ss.flatten:=by
    rw [e,e',List.flatten_append,List.flatten_cons]; simp
   refine Gn rfl ?_
   rw [g3 b]
   refine Q4 (by split <;> omega) ?_
   by_cases hb:1≤b∧b≤999999
   ·have hc:(!(decide (b < 1)||decide (999999 < b)))=true:=by simp; omega
    rw [hc,cond_true,Q48,if_pos rfl]
    refine Gn rfl (Hi (fun hf=>Hj ?_) (fun hf=>h7 _ ?_))
    ·refine(Ex fun hr=>?_).symm
     simp only [Ku,Kn] at hf
     have h0:b∈pre.flatten++pr:=by
      refine Classical.byContradiction fun hn=>?_
      rw [if_neg hn] at hf; omega
     have h6:=hr.nodup
     rw [e,e',List.flatten_append,List.flatten_cons,List.append_assoc,← List.append_assoc] at h6
     have:=(List.nodup_append.1 h6).2.2 b h0 b (by simp)
     exact this rfl
    ·simp only [Kv,decide_eq_false_iff_not] at hf
     have h0:b ∉ pre.flatten++pr:=fun hn=>by rw [if_pos hn] at hf; omega
     rw [← List.append_assoc]
     refine⟨List.nodup_append.2 ⟨g1,by simp,fun a ha c hc=>?_⟩,fun a ha=>?_,fun a=>?_⟩
     ·rw [Kr] at hc; subst hc; exact fun e=>h0 (e ▸ ha)
     ·rcases Kp.1 ha with ha | ha
      ·exact g2 a ha
      ·rw [Kr] at ha; subst ha; exact hb
     ·rw [Q48,g3 a]
      by_cases ea:b=a
      ·subst ea; rw [if_pos rfl]; simp [h0]
      ·rw [if_neg ea]; simp [Ne.symm ea]
   ·have hc:(!(decide (b < 1)||decide (999999 < b)))=false:=by
     simp only [Bool.not_eq_false',Ku,Kn]; omega
    rw [hc,cond_false]
    refine Gn rfl (Hi (fun hf=>Hj ?_) (fun hf=>?_))
    ·exact(Ex fun hr=>hb (hr.ids b hm)).symm
    ·simp only [Kv,decide_eq_false_iff_not] at hf
     omega
  ·rw [List.flatten_append,List.flatten_singleton]
   refine⟨fun y hy=>?_,h5⟩
   rcases Kp.1 hy with hy | hy
   ·exact h1 y hy
   ·rw [Kr] at hy; subst hy; omega
 ·exact(Ew (Jz.iff.2 ⟨h8,hI.1,hI.2.1,hI.2.2.1⟩)).symm

theorem J81 {ss:List (List Int)} {H:Int} (h:ss.flatten.length≤10000000):Rn ⟨ss,H⟩=some ss.flatten:=by
 refine Ra ?_
 unfold Rn
 refine Q3 (fun pre s=>s=pre.flatten) rfl (fun pre x post s nx e hI h0=>?_) (fun s hI=>Hj hI)
 have e:ss=pre++x::post:=e
 subst hI
 refine Q2 (Zi ?_ (by decide)) (h0 _ (by simp))
 rw [e,List.flatten_append,List.flatten_cons,Kj,Kj] at h
 omega

theorem J03 (F:Nat) (ss:List (List Int)) (H:Int):R0 F ⟨ss,H⟩=some (decide (Jz ss H)):=by
 refine Ra ?_
 unfold R0
 refine Hi (fun h=>Hj ?_) (fun h=>?_)
 ·simp only [Ku,Kn] at h
  refine(Ex fun hr=>?_).symm
  have:=hr.low; have:=hr.high; have:=hr.some_; have:=hr.most
  omega
 simp only [Kv,decide_eq_false_iff_not] at h
 have h3:1≤H∧H≤6∧1≤ss.length∧ss.length≤30:=by omega
 refine Q3 (fun pre s=>∀ x∈pre,(x.length:Int)≤H) (by simp) (fun pre x post s nx e hI h0=>?_) (fun s hI=>?_)
 ·have e:ss=pre++x::post:=e
  refine Hi (fun hx=>Hj ?_) (fun hx=>h0 _ fun y hy=>?_)
  ·refine(Ex fun hr=>?_).symm
   have:=hr.fit x (by rw [e]; simp)
   have hx:H < (x.length:Int):=Eu hx
   omega
  ·have hx:¬ H < (x.length:Int):=Ev hx
   rcases Kp.1 hy with hy | hy
   ·exact hI y hy
   ·rw [Kr] at hy; subst hy; omega
 ·have hI:∀ x∈ss,(x.length:Int)≤H:=hI
  have hl:ss.flatten.length≤180:=by
   have:=H5b (ss:=ss) (k:=6) (fun x hx=>by have:=hI x hx; omega)
   omega
  refine Gn (J81 (by omega)) ?_
  refine Q3 (fun pre s=>pre.Nodup∧∀ b∈pre,1≤b∧b≤999999) ⟨by simp,by simp⟩ (fun pre b post s nx e hJ h0=>?_) (fun s hJ=>Hj ?_)
  ·have hm:b∈ss.flatten:=by rw [e]; simp
   refine Hi (fun hb=>Hj ?_) (fun hb=>?_)
   ·simp only [Ku,Kn] at hb
    refine(Ex fun hr=>?_).symm
    have:=hr.ids b hm; omega
   ·simp only [Kv,decide_eq_false_iff_not] at hb
    have hp:pre.length < 180:=by
     have:=congrArg List.length e
     simp only [Kj,Kf] at this; omega
    refine Q2 (Ew (by omega)) ?_
    have ht:((pre.length:Int)).toNat=pre.length:=by omega
    rw [ht]
    refine H6f (fun i s=>b ∉ pre.take i) (by simp) (fun i s nx' hi hK h2=>?_) (fun s hK=>h0 _ ?_)
    ·refine Ju (m:=i) rfl (x:=pre[i]) (by rw [e,Ke hi,Ez hi]) ?_
     refine Hi (fun hc=>Hj ?_) (fun hc=>h2 _ ?_)
     ·have hc:=Eu hc
      refine(Ex fun hr=>?_).symm
      have h1:=hr.nodup
      rw [e] at h1
      exact(List.nodup_append.1 h1).2.2 b (by rw [← hc]; exact List.getElem_mem hi) b (by simp) rfl
     ·have hc:=Ev hc
      rw [List.take_add_one,Ez hi,Kp]
      simp only [Option.toList_some,Kr]
      exact fun h=>h.elim hK (fun h=>hc h.symm)
    ·rw [List.take_length] at hK
     refine⟨List.nodup_append.2 ⟨hJ.1,by simp,fun a ha c hc=>?_⟩,fun a ha=>?_⟩
     ·rw [Kr] at hc; subst hc; exact fun e=>hK (e ▸ ha)
     ·rcases Kp.1 ha with ha | ha
      ·exact hJ.2 a ha
      ·rw [Kr] at ha; subst ha; omega
  ·exact(Ew (Jz.iff.2 ⟨h3,hI,hJ.1,hJ.2⟩)).symm

/-! ### Find -/
def G31 (b:Int):List (List Int)→Nat→Int×Int×Bool
 | [],_=>(0,0,false)
 | s::r,i=>if b∈s then ((i:Int),(s.idxOf b:Int),true) else G31 b r (i+1)
theorem Qc2 (b:Int):∀ (ss:List (List Int)) (i:Nat),each (fun(y22:List Int) i22 (s22:Unit) nx22=>bnd (Rg y22 b) fun r28=>bif decide (0≤r28) then (some ((i22:Int),r28,true)) else (nx22 ())) (fun(s22:Unit)=>some ((0:Int),(0:Int),false)) ss i ()=some (G31 b ss i)
 | [],i=>rfl
 | s::r,i=>by
  rw [each,J7c,G31,G09]
  by_cases h:b∈s
  ·rw [if_pos h,if_pos h,Ew (by omega),cond_true]
  ·rw [if_neg h,if_neg h,Ex (by omega),cond_false,Qc2 b r (i+1)]
theorem He9 (ss:List (List Int)) (H b:Int):G14 ⟨ss,H⟩ b=some (G31 b ss 0):=by
 unfold G14
 exact Qc2 b ss 0
theorem Q08 {β:Type} (b:Int) (z:Nat→Option β) (k:Option β):∀ (s:List Int) (i:Nat),each (fun(y22:Int) i22 (s22:Unit) nx22=>bif decide (y22=b) then z i22 else (nx22 ())) (fun(s22:Unit)=>k) s i ()=if b∈s then z (i+s.idxOf b) else k
 | [],i=>by simp [each]
 | x::l,i=>by
  rw [each]
  by_cases h:x=b
  ·subst h
   rw [Ew rfl,cond_true,if_pos (List.mem_cons_self ..),List.idxOf_cons_self]; rfl
  ·rw [Ex h,cond_false,Q08 b z k l (i+1),Q8e l h]
   simp only [Ks,Ne.symm h,false_or]
   split
   ·congr 1; omega
   ·rfl
theorem Ja3 (b:Int):∀ (ss:List (List Int)) (i:Nat),each (fun(y4:List Int) i4 (s4:Unit) nx4=>each (fun(y22:Int) i22 (s22:Unit) nx22=>bif decide (y22=b) then (some ((i4:Int),(i22:Int),true)) else (nx22 ())) (fun(s22:Unit)=>nx4 ()) y4 0 ()) (fun(s4:Unit)=>some ((0:Int),(0:Int),false)) ss i ()=some (G31 b ss i)
 | [],i=>rfl
 | s::r,i=>by
  rw [each,Q08 b (fun j=>some ((i:Int),(j:Int),true)),G31,Ja3 b r (i+1)]
  split
  ·simp
  ·rfl
theorem Q2c (F:Nat) (ss:List (List Int)) (H b:Int):Y0 F ⟨ss,H⟩ b=some (G31 b ss 0):=by
 unfold Y0
 exact Ja3 b ss 0
theorem H5f (b:Int):∀ (ss:List (List Int)) (i:Nat),(G31 b ss i).2.2=decide (b∈ss.flatten)
 | [],i=>by simp [G31]
 | s::r,i=>by
  rw [G31]
  by_cases h:b∈s
  ·simp [h]
  ·rw [if_neg h,H5f b r (i+1)]; simp [h]

/-! ### Orders -/
structure H68 (ss:List (List Int)) (order:List Int):Prop where
 nodup:order.Nodup
 in_:∀ b∈order,b∈ss.flatten
theorem H68.iff {ss:List (List Int)} {order:List Int}:H68 ss order ↔ order.Nodup∧∀ b∈order,b∈ss.flatten:=⟨fun h=>⟨h.1,h.2⟩,fun h=>⟨h.1,h.2⟩⟩
instance {ss:List (List Int)} {order:List Int}:Decidable (H68 ss order):=decidable_of_iff _ H68.iff.symm
structure Re (ss:List (List Int)) (H:Int) (order:List Int):Prop where
 y:Jz ss H
 o:H68 ss order
theorem Re.iff {ss:List (List Int)} {H:Int} {order:List Int}:Re ss H order ↔ Jz ss H∧H68 ss order:=⟨fun h=>⟨h.1,h.2⟩,fun h=>⟨h.1,h.2⟩⟩
instance {ss:List (List Int)} {H:Int} {order:List Int}:Decidable (Re ss H order):=decidable_of_iff _ Re.iff.symm

theorem J2e {pre post:List Int} {b:Int}:rnk (pre++b::post) b=pre.length ↔ b ∉ pre:=by
 unfold rnk
 rw [List.idxOf_append]
 split
 ·rename_i h
  have:=List.idxOf_lt_length_of_mem h
  exact⟨fun e=>by omega,fun h'=>(h' h).elim⟩
 ·rename_i h
  rw [List.idxOf_cons_self]; simp [h]
theorem G6a (F:Nat) (ss:List (List Int)) (H:Int) (order:List Int):Qg F ⟨ss,H⟩ order=some (decide (Re ss H order)):=by
 refine Ra ?_
 unfold Qg
 refine Gn (J03 F ss H) (Hi (fun h=>Hj ?_) (fun h=>?_))
 ·refine(Ex fun hr=>?_).symm
  simp [hr.y] at h
 have hY:Jz ss H:=by simpa using h
 refine Q3 (fun pre s=>pre.Nodup∧∀ b∈pre,b∈ss.flatten) ⟨by simp,by simp⟩ (fun pre b post s nx e hI h1=>?_) (fun s hI=>Hj ?_)
 ·refine Gn (Q2c F ss H b) ?_
  rw [H5f,Gb8]
  by_cases hb:b∈ss.flatten
  ·rw [Ew hb]
   refine Gn (x:=(rnk order b:Int)) rfl (Hi (fun hf=>Hj ?_) (fun hf=>h1 _ ?_))
   ·refine(Ex fun hr=>?_).symm
    have hf:(rnk order b:Int)≠(pre.length:Int):=by simpa using hf
    have h0:=hr.o.nodup
    rw [e] at h0 hf
    have:b∈pre:=Classical.byContradiction fun hn=>hf (by rw [J2e.2 hn])
    exact(List.nodup_append.1 h0).2.2 b this b (by simp) rfl
   ·have hf:(rnk order b:Int)=(pre.length:Int):=by simpa using hf
    rw [e] at hf
    have hn:b ∉ pre:=(J2e (post:=post)).1 (by omega)
    refine⟨List.nodup_append.2 ⟨hI.1,by simp,fun a ha c hc=>?_⟩,fun a ha=>?_⟩
    ·rw [Kr] at hc; subst hc; exact fun e=>hn (e ▸ ha)
    ·rcases Kp.1 ha with ha | ha
     ·exact hI.2 a ha
     ·rw [Kr] at ha; subst ha; exact hb
  ·rw [Ex hb]
   exact Gn (x:=default) rfl (Hi (fun _=>Hj (Ex fun hr=>hb (hr.o.in_ b (by rw [e]; simp))).symm) (fun hf=>by simp at hf))
 ·exact(Ew ⟨hY,⟨hI.1,hI.2⟩⟩).symm

section
theorem Q83 {α β:Type} [DecidableEq β] {xs:List α} {k:Bool→Option β} {r:Option β} (h:∀ b,(b=true→xs=[])→k b=r):R75 xs k=r:=by
 unfold R75
 cases xs with
 | nil=>rw [h true (fun _=>rfl),h false (fun e=>by cases e)]; simp
 | cons x l=>exact h false (fun e=>by cases e)
end
theorem Qf7 {s:List Int} (h:s.length≤1000000):Y6 s=some s:=by
 unfold Y6
 refine Q83 (fun b hb=>?_)
 cases b with
 | true=>rw [hb rfl]; rfl
 | false=>rw [cond_false,show decide ((([]:List Int).length+s.length)*8≤140737488355328∧([]:List Int).length+s.length≤maxLen)=true from Zi (by rw [List.length_nil]; omega) (by decide)]; rfl

structure R47 (ss:List (List Int)) (order:List Int) (j:Gf):Prop where
 stacks:j.stacks=ss
 order_:j.order=order
 has:∀ b,Hu.has j.ranks b=decide (b∈order)
 get:∀ b,b∈order→Hu.get j.ranks b 0=(rnk order b:Int)

theorem H83 {β:Type} {ss:List (List Int)} {za:Int} {zb:List Int} {zc:Int} (hn:ss.length≤30) (hl:∀ s∈ss,s.length≤6) (P:Option β→Prop) {k:Int×(List Int)×Int×(List (List Int))→Option β} (h:P (k (za,zb,zc,ss))) :
  P (each (fun(y37:List Int) (i37:Nat) (s37:Int×(List Int)×Int×(List (List Int))) nx37=>bnd (Y6 y37) fun r42=>need (decide ((s37.2.2.2.length+[r42].length)*24≤140737488355328∧s37.2.2.2.length+[r42].length≤maxLen)) <| nx37 (s37.1,s37.2.1,s37.2.2.1,(s37.2.2.2++[r42]))) k ss 0 (za,zb,zc,[])):=by
 refine J6a P (fun pre s=>s=(za,zb,zc,pre)) rfl (fun pre x post s nx e hI h0=>?_) (fun s hI=>by rw [hI]; exact h)
 subst hI
 have hx:=hl x (by rw [e]; simp)
 have hp:pre.length < 30:=by
  have:=congrArg List.length e
  simp only [Kj,Kf] at this; omega
 rw [Qf7 (by omega),G09,show decide ((pre.length+[x].length)*24≤140737488355328∧pre.length+[x].length≤maxLen)=true from Zi (by rw [Kk]; omega) (by decide)]
 exact h0 _ rfl
theorem Ja5 {pre:List Int} {s:Hu Int Int} {b:Int} (hn:b ∉ pre) (h1:∀ a,Hu.has s a=decide (a∈pre)) (h2:∀ a,a∈pre→Hu.get s a 0=(rnk pre a:Int)) :
  (∀ a,Hu.has (Hu.put s b (pre.length:Int)) a=decide (a∈pre++[b]))∧∀ a,a∈pre++[b]→Hu.get (Hu.put s b (pre.length:Int)) a 0=(rnk (pre++[b]) a:Int):=by
 refine⟨fun a=>?_,fun a ha=>?_⟩
 ·rw [R15,h1]
  by_cases e:b=a
  ·subst e; simp
  ·simp [e,Ne.symm e]
 ·rw [Q48]
  by_cases e:b=a
  ·subst e; rw [if_pos rfl,J2e.2 hn]
  ·rw [if_neg e]
   have ha:a∈pre:=by simpa [Ne.symm e] using ha
   rw [h2 a ha]
   unfold rnk
   rw [List.idxOf_append,if_pos ha]
theorem Q93 {ss:List (List Int)} {H:Int} {order:List Int} (h:Re ss H order):Wp (Jp ⟨ss,H⟩ order) (fun r=>r.2=true∧R47 ss order r.1):=by
 unfold Jp
 refine Gn (Gb7 ss H) ?_
 rw [Ew h.y]
 refine H83 h.y.most h.y.len (fun m=>Wp m _) ?_
 refine Q3 (fun pre s=>(∀ a,Hu.has s a=decide (a∈pre))∧∀ a,a∈pre→Hu.get s a 0=(rnk pre a:Int)) ⟨fun a=>by simp; rfl,by simp⟩ (fun pre b post s nx e hI h1=>?_) (fun s hI=>Hj ⟨rfl,rfl,rfl,hI.1,hI.2⟩)
 refine Gn (He9 ss H b) (Gn rfl ?_)
 have h0:=h.o.nodup
 rw [e] at h0
 have hn:b ∉ pre:=fun hb=>(List.nodup_append.1 h0).2.2 b hb b (by simp) rfl
 rw [H5f,hI.1,Ex hn,Ew (h.o.in_ b (by rw [e]; simp))]
 exact h1 _ (Ja5 hn hI.1 hI.2)
theorem Q94 {ss:List (List Int)} {H:Int} {order:List Int} (h:¬ Re ss H order):Jp ⟨ss,H⟩ order=none∧Z4 ⟨ss,H⟩ order=some false:=by
 by_cases hY:Jz ss H
 ·have hO:¬ H68 ss order:=fun hO=>h ⟨hY,hO⟩
  have fin:∀ s:Hu Int Int,(order.Nodup∧(∀ a∈order,a∈ss.flatten))∧(∀ a,Hu.has s a=decide (a∈order))→False:=fun s hs=>hO ⟨hs.1.1,hs.1.2⟩
  have step:∀ (pre:List Int) (b:Int) (post:List Int) (s:Hu Int Int),order=pre++b::post→(pre.Nodup∧(∀ a∈pre,a∈ss.flatten))∧(∀ a,Hu.has s a=decide (a∈pre))→(Hu.has s b||!(G31 b ss 0).2.2)=false →
    ((pre++[b]).Nodup∧(∀ a∈pre++[b],a∈ss.flatten))∧(∀ a,Hu.has (Hu.put s b (pre.length:Int)) a=decide (a∈pre++[b])):=fun pre b post s e hI hf=>by
   rw [H5f,hI.2] at hf
   simp only [Kv,decide_eq_false_iff_not,Bool.not_eq_false',Kn] at hf
   refine⟨⟨List.nodup_append.2 ⟨hI.1.1,by simp,fun a ha c hc=>?_⟩,fun a ha=>?_⟩,fun a=>?_⟩
   ·rw [Kr] at hc; subst hc; exact fun e=>hf.1 (e ▸ ha)
   ·rcases Kp.1 ha with ha | ha
    ·exact hI.1.2 a ha
    ·rw [Kr] at ha; subst ha; exact hf.2
   ·rw [R15,hI.2]
    by_cases e:b=a
    ·subst e; simp
    ·simp [e,Ne.symm e]
  constructor
  ·unfold Jp
   rw [Gb7,Ew hY,G09]
   refine H83 hY.most hY.len (fun m=>m=none) ?_
   refine J6a (fun m=>m=none) (fun pre s=>(pre.Nodup∧(∀ a∈pre,a∈ss.flatten))∧(∀ a,Hu.has s a=decide (a∈pre))) ⟨⟨by simp,by simp⟩,fun a=>by simp; rfl⟩ (fun pre b post s nx e hI h0=>?_) (fun s hI=>(fin s hI).elim)
   rw [He9,G09,G09]
   cases hc:(Hu.has s b||!(G31 b ss 0).2.2) with
   | true=>rfl
   | false=>exact h0 _ (step pre b post s e hI hc)
  ·unfold Z4
   rw [Gb7,Ew hY,G09]
   refine H83 hY.most hY.len (fun m=>m=some false) ?_
   refine J6a (fun m=>m=some false) (fun pre s=>(pre.Nodup∧(∀ a∈pre,a∈ss.flatten))∧(∀ a,Hu.has s a=decide (a∈pre))) ⟨⟨by simp,by simp⟩,fun a=>by simp; rfl⟩ (fun pre b post s nx e hI h0=>?_) (fun s hI=>(fin s hI).elim)
   rw [He9,G09,G09]
   cases hc:(Hu.has s b||!(G31 b ss 0).2.2) with
   | true=>rfl
   | false=>exact h0 _ (step pre b post s e hI hc)
 ·unfold Jp Z4
  rw [Gb7,Ex hY]
  exact⟨rfl,rfl⟩

/-! ### In the way -/
def G1c (order:List Int):Nat→List Int→List Int
 | _,[]=>[]
 | m,b::r=>if m < rnk order b then b::G1c order m r else G1c order (rnk order b) r
def mnF (order:List Int) (m:Nat) (s:List Int):Nat:=s.foldl (fun m b=>min m (rnk order b)) m
def Q0 (order:List Int) (ss:List (List Int)):List Int:=ss.flatMap (G1c order order.length)
theorem Hd3 (order:List Int) (m:Nat) (s:List Int) (b:Int):mnF order m (s++[b])=min (mnF order m s) (rnk order b):=by
 unfold mnF; rw [List.foldl_append]; rfl
theorem G01 (order:List Int) (b:Int):∀ (s:List Int) (m:Nat),G1c order m (s++[b])=G1c order m s++(if mnF order m s < rnk order b then [b] else [])
 | [],m=>by
  show (if m < rnk order b then [b] else [])=[]++(if m < rnk order b then [b] else [])
  rw [List.nil_append]
 | x::s,m=>by
  rw [List.cons_append,G1c,G1c,G01 order b s,G01 order b s]
  have e:mnF order m (x::s)=mnF order (min m (rnk order x)) s:=rfl
  rw [e]
  by_cases h:m < rnk order x
  ·rw [if_pos h,if_pos h,Nat.min_eq_left (by omega)]; rfl
  ·rw [if_neg h,if_neg h,Nat.min_eq_right (by omega)]
theorem H0f (order:List Int):∀ (s:List Int) (m:Nat),(G1c order m s).Sublist s
 | [],m=>by simp [G1c]
 | x::s,m=>by
  rw [G1c]
  split
  ·exact(H0f order s m).cons_cons x
  ·exact(H0f order s _).cons x
theorem H4c (order:List Int) (a b:List (List Int)):Q0 order (a++b)=Q0 order a++Q0 order b:=by
 unfold Q0; rw [List.flatMap_append]
theorem J34 (order:List Int) (s:List Int):Q0 order [s]=G1c order order.length s:=by simp [Q0]
theorem G7f (order:List Int):∀ ss:List (List Int),(Q0 order ss).Sublist ss.flatten
 | []=>by simp [Q0]
 | s::r=>by
  have:Q0 order (s::r)=G1c order order.length s++Q0 order r:=rfl
  rw [this,List.flatten_cons]
  exact(H0f order s _).append (G7f order r)
theorem Jc8 {order:List Int} {ss pre post:List (List Int)} {s pr po:List Int} {b:Int} (e:ss=pre++s::post) (e':s=pr++b::po) (h:ss.flatten.length≤180):(Q0 order pre).length+(G1c order order.length pr).length < 180:=by
 have h1:=(G7f order pre).length_le
 have h2:=(H0f order pr order.length).length_le
 rw [e,e',List.flatten_append,List.flatten_cons,Kj,Kj,Kj,Kf] at h
 omega
theorem R34 {ss:List (List Int)} {order:List Int} {j:Gf} (hj:R47 ss order j) (b:Int):Yo j b=some (rnk order b:Int):=by
 unfold Yo
 rw [G09,hj.has b]
 by_cases h:b∈order
 ·rw [Ew h,cond_true,hj.get b h]
 ·rw [Ex h,cond_false,hj.order_]
  unfold rnk
  rw [List.idxOf_eq_length h]
theorem R7b {ss:List (List Int)} {order:List Int} {j:Gf} (hj:R47 ss order j) (hl:ss.flatten.length≤180):G04 j=some ((Q0 order ss).length:Int):=by
 refine Ra ?_
 unfold G04
 rw [hj.stacks,hj.order_]
 refine Q3 (fun pre s=>s=((Q0 order pre).length:Int)) rfl (fun pre x post s nx e hI h1=>?_) (fun s hI=>Hj hI)
 subst hI
 refine Q3 (fun pr s=>s=((((Q0 order pre).length+(G1c order order.length pr).length:Nat):Int),(mnF order order.length pr:Int))) rfl (fun pr b po s nx' e' hJ h0=>?_) (fun s hJ=>h1 _ ?_)
 ·subst hJ
  have h2:=Jc8 (order:=order) e e' hl
  refine H42 (fun r=>r=((((Q0 order pre).length+(G1c order order.length (pr++[b])).length:Nat):Int),(mnF order order.length (pr++[b]):Int))) (fun K hK=>?_) (fun a ha=>h0 _ ha)
  refine Gn (R34 hj b) (Hi (fun h=>?_) (fun h=>hK _ ?_))
  ·have h:mnF order order.length pr < rnk order b:=by have:=Eu h; omega
   refine Q4 (by dsimp only; omega) (hK _ ?_)
   rw [G01,if_pos h,Hd3,Nat.min_eq_left (by omega),Kj]
   rfl
  ·have h:¬ mnF order order.length pr < rnk order b:=by have:=Ev h; omega
   rw [G01,if_neg h,Hd3,Nat.min_eq_right (by omega),List.append_nil]
 ·subst hJ
  rw [H4c,J34,Kj]
theorem Jd4 {ss:List (List Int)} {H:Int} {order:List Int} (hl:ss.flatten.length≤180):Y3 ⟨ss,H⟩ order=some (G1d (Q0 order ss)):=by
 refine Ra ?_
 unfold Y3
 refine Q3 (fun pre s=>s=Q0 order pre) rfl (fun pre x post s nx e hI h1=>?_) (fun s hI=>?_)
 ·have e:ss=pre++x::post:=e
  subst hI
  refine Q3 (fun pr s=>s=((mnF order order.length pr:Int),Q0 order pre++G1c order order.length pr)) (by simp [G1c,mnF]) (fun pr b po s nx' e' hJ h0=>?_) (fun s hJ=>h1 _ ?_)
  ·subst hJ
   have h2:=Jc8 (order:=order) e e' hl
   refine Gn (H86 order b) (H42 (fun r=>r=Q0 order pre++G1c order order.length (pr++[b])) (fun K hK=>?_) (fun a ha=>h0 _ ?_))
   ·refine Hi (fun h=>?_) (fun h=>hK _ ?_)
    ·have h:mnF order order.length pr < rnk order b:=by have:=Eu h; omega
     refine Q2 (Zi (by simp only [Kj,Kk]; omega) (by decide)) (hK _ ?_)
     rw [G01,if_pos h,List.append_assoc]
    ·have h:¬ mnF order order.length pr < rnk order b:=by have:=Ev h; omega
     rw [G01,if_neg h,List.append_nil]
   ·rw [ha,Hd3]
    congr 1
    omega
  ·subst hJ
   rw [H4c,J34]
 ·have hI:s=Q0 order ss:=hI
  subst hI
  have:=(G7f order ss).length_le
  refine Gn (x:=G1d (Q0 order ss)) ?_ (Hj rfl)
  unfold J4b
  rw [Ew (by omega)]; rfl
theorem H5c (F:Nat) {ss:List (List Int)} {H:Int} {order:List Int} (hl:ss.flatten.length≤180):J2 F ⟨ss,H⟩ order=some (Q0 order ss):=by
 refine Ra ?_
 unfold J2
 refine Q3 (fun pre s=>s=Q0 order pre) rfl (fun pre x post s nx e hI h4=>?_) (fun s hI=>Hj hI)
 have e:ss=pre++x::post:=e
 subst hI
 refine Q3 (fun pr s=>s=Q0 order pre++G1c order order.length pr) (by simp [G1c]) (fun pr b po s nx' e' hJ h3=>?_) (fun s hJ=>h4 _ ?_)
 ·subst hJ
  have h6:=Jc8 (order:=order) e e' hl
  refine H42 (fun r=>r=Q0 order pre++G1c order order.length (pr++[b])) (fun K hK=>?_) (fun a ha=>h3 _ ha)
  have h7:pr.length≤180:=by
   have h1:ss.flatten.length=pre.flatten.length+((pr.length+(po.length+1))+post.flatten.length):=by
    rw [e,e',List.flatten_append,List.flatten_cons,Kj,Kj,Kj,Kf]
   omega
  refine Q2 (Ew (by omega)) ?_
  have ht:((pr.length:Int)).toNat=pr.length:=by omega
  rw [ht]
  refine H6f (fun i s=>s=decide (mnF order order.length (pr.take i) < rnk order b)) ?_ (fun i s nx2 hi h0 h2=>?_) (fun s h0=>?_)
  ·have:=Q79 order b
   exact(Ex (by simp only [List.take_zero,mnF,List.foldl_nil]; omega)).symm
  ·have hx:x[i]? = some pr[i]:=by rw [e',Ke hi,Ez hi]
   have h5:mnF order order.length (pr.take (i+1))=min (mnF order order.length (pr.take i)) (rnk order pr[i]):=by
    rw [List.take_add_one,Ez hi]
    exact Hd3 _ _ _ _
   cases s with
   | true=>
    have h1:=Eu h0.symm
    exact Gn (x:=default) rfl (Gn (x:=default) rfl (Gn (x:=default) rfl (h2 _ ((Ew (by omega)).symm))))
   | false=>
    have h1:=Ev h0.symm
    refine Gn (x:=pr[i]) (Gcb hx _) (Gn (Gb8 order pr[i]) (Gn (Gb8 order b) (h2 _ ?_)))
    rw [h5,Bool.false_or]
    exact decide_eq_decide.2 (by omega)
  ·rw [List.take_length] at h0
   subst h0
   refine Hi (fun h=>?_) (fun h=>hK _ ?_)
   ·have h:=Eu h
    refine Q2 (Zi (by simp only [Kj,Kk]; omega) (by decide)) (hK _ ?_)
    rw [G01,if_pos h,List.append_assoc]
   ·have h:=Ev h
    rw [G01,if_neg h,List.append_nil]
 ·subst hJ
  rw [H4c,J34]
theorem G50 (ss:List (List Int)) (H:Int) (order:List Int):Qv ⟨ss,H⟩ order=some (if Re ss H order then (((Q0 order ss).length:Int),0) else (0,2)):=by
 unfold Qv
 by_cases h:Re ss H order
 ·obtain⟨r,e,h1,h2⟩:=Q93 h
  rw [e,if_pos h,Option.isSome_some,cond_true,G09,h1,R7b h2 h.y.all]
  rfl
 ·obtain⟨e1,e2⟩:=Q94 h
  rw [e1,if_neg h,Option.isSome_none,cond_false,e2]
  rfl

theorem Gf7 {v:List Int}:∀ {ss:List (List Int)} {i:Nat} {s:List Int},ss[i]? = some s→((ss.set i v).flatten++s).Perm (ss.flatten++v)
 | x::ss,0,s,h=>by
  simp at h; subst h
  rw [List.set_cons_zero,List.flatten_cons,List.flatten_cons]
  have h1:(v++ss.flatten++x).Perm (x++(v++ss.flatten)):=List.perm_append_comm
  have h2:(x++(v++ss.flatten)).Perm (x++(ss.flatten++v)):=List.perm_append_comm.append_left x
  rw [List.append_assoc] at h1
  rw [List.append_assoc,List.append_assoc]
  exact h1.trans h2
 | x::ss,i+1,s,h=>by
  rw [List.set_cons_succ,List.flatten_cons,List.flatten_cons,List.append_assoc,List.append_assoc]
  exact(Gf7 (ss:=ss) (by simpa using h)).append_left x
 | [],i,s,h=>by simp at h

structure Can (ss:List (List Int)) (h:Nat) (m:G5) (f t:Nat) (a b:List Int) (x:Int):Prop where
 from_:m.From=(f:Int)
 to_:m.To=(t:Int)
 ne:f≠t
 hf:ss[f]? = some (a++[x])
 ht:ss[t]? = some b
 room:b.length≠h
theorem G44 (ss:List (List Int)) (h:Nat) (m:G5):(Hq ss h m).2≠0∨∃ f t a b x,Can ss h m f t a b x:=by
 unfold Hq
 by_cases h1:(m.From < 0∨(ss.length:Int)≤m.From)∨m.To < 0∨(ss.length:Int)≤m.To
 ·rw [if_pos h1]; exact .inl (show (6:Int)≠0 by decide)
 rw [if_neg h1]
 by_cases h2:m.From=m.To
 ·rw [if_pos h2]; exact .inl (show (340:Int)≠0 by decide)
 rw [if_neg h2]
 by_cases h3:(ss.getD m.From.toNat []).length=0
 ·rw [if_pos h3]; exact .inl (show (341:Int)≠0 by decide)
 rw [if_neg h3]
 by_cases h4:(ss.getD m.To.toNat []).length=h
 ·rw [if_pos h4]; exact .inl (show (4:Int)≠0 by decide)
 obtain⟨f,hf⟩:∃ f:Nat,m.From=f:=⟨m.From.toNat,by omega⟩
 obtain⟨t,ht⟩:∃ t:Nat,m.To=t:=⟨m.To.toNat,by omega⟩
 rw [hf,ht] at h1 h2
 rw [hf,show ((f:Int)).toNat=f by omega] at h3
 rw [ht,show ((t:Int)).toNat=t by omega] at h4
 have h0:f < ss.length:=by omega
 have h5:t < ss.length:=by omega
 rw [List.getD_eq_getElem?_getD,Ez h0,Option.getD_some] at h3
 rw [List.getD_eq_getElem?_getD,Ez h5,Option.getD_some] at h4
 have h6:ss[f]≠[]:=fun e=>h3 (by rw [e]; rfl)
 exact .inr ⟨f,t,ss[f].dropLast,ss[t],ss[f].getLast h6,hf,ht,fun e=>h2 (by rw [e]),by rw [List.dropLast_concat_getLast,Ez h0],Ez h5,h4⟩
theorem Can.eq {ss:List (List Int)} {h:Nat} {m:G5} {f t:Nat} {a b:List Int} {x:Int} (c:Can ss h m f t a b x):Hq ss h m=((ss.set t (b++[x])).set f a,0):=by
 have h0:=(Ey c.hf).1
 have h1:=(Ey c.ht).1
 have e1:ss.getD f []=a++[x]:=by rw [List.getD_eq_getElem?_getD,c.hf]; rfl
 have e2:ss.getD t []=b:=by rw [List.getD_eq_getElem?_getD,c.ht]; rfl
 unfold Hq
 rw [c.from_,c.to_,show ((f:Int)).toNat=f by omega,show ((t:Int)).toNat=t by omega,e1,e2,if_neg (by omega),if_neg (by have:=c.ne; omega),if_neg (by simp),if_neg c.room]
 simp
theorem Can.perm {ss:List (List Int)} {h:Nat} {m:G5} {f t:Nat} {a b:List Int} {x:Int} (c:Can ss h m f t a b x):((ss.set t (b++[x])).set f a).flatten.Perm ss.flatten:=by
 have e:(ss.set t (b++[x]))[f]? = some (a++[x]):=by rw [List.getElem?_set_ne (Ne.symm c.ne)]; exact c.hf
 have h1:=Gf7 (v:=a) e
 have h2:=Gf7 (v:=b++[x]) c.ht
 rw [List.perm_iff_count] at *
 intro z
 have h1:=h1 z
 have h2:=h2 z
 simp only [List.count_append] at h1 h2
 omega
theorem Jz.shift {ss:List (List Int)} {H:Int} (hr:Jz ss H) {m:G5} {f t:Nat} {a b:List Int} {x:Int} (c:Can ss H.toNat m f t a b x):Jz ((ss.set t (b++[x])).set f a) H:=by
 have hp:=c.perm
 refine⟨hr.low,hr.high,by simpa using hr.some_,by simpa using hr.most,fun s hs=>?_,hp.nodup_iff.2 hr.nodup,fun z hz=>hr.ids z (hp.mem_iff.1 hz)⟩
 have hA:=hr.fit _ (Ka c.hf)
 have hB:=hr.fit _ (Ka c.ht)
 have:=c.room
 have:=hr.low
 simp only [Kj,Kk] at hA
 rcases List.mem_or_eq_of_mem_set hs with hs | rfl
 ·rcases List.mem_or_eq_of_mem_set hs with hs | rfl
  ·exact hr.fit s hs
  ·simp only [Kj,Kk]; omega
 ·omega

/-! ### The reference -/
def H4b (ss:List (List Int)) (k:Int) (v:List Int):List (List Int):=ss.mapIdx fun i s=>if (i:Int)=k then v else s
theorem J9a {ss:List (List Int)} {t:Nat} {v:List Int}:H4b ss (t:Int) v=ss.set t v:=by
 refine List.ext_getElem? fun i=>?_
 unfold H4b
 rw [List.getElem?_mapIdx,List.getElem?_set]
 by_cases e:t=i
 ·subst e
  rw [if_pos rfl]
  by_cases h:t < ss.length
  ·rw [if_pos h,Ez h]; simp
  ·rw [if_neg h,List.getElem?_eq_none (by omega)]; rfl
 ·rw [if_neg e]
  cases ss[i]? with
  | none=>rfl
  | some s=>simp only [Option.map_some]; rw [if_neg (by omega)]
theorem Jc7 {ss:List (List Int)} {H k:Int} {v:List Int} (hn:ss.length≤30) (hl:∀ s∈ss,s.length≤7) (hv:v.length≤7):R6 ⟨ss,H⟩ k v=some ⟨H4b ss k v,H⟩:=by
 refine Ra ?_
 unfold R6
 refine Q3 (fun pre s=>s=(H4b pre k v,H)) rfl (fun pre x post s nx e hI h0=>?_) (fun s hI=>Hj (by rw [hI]))
 have e:ss=pre++x::post:=e
 subst hI
 have hp:pre.length < 30:=by
  have:=congrArg List.length e
  simp only [Kj,Kf] at this; omega
 have hx:=hl x (by rw [e]; simp)
 have hw:(H4b pre k v).length=pre.length:=by simp [H4b]
 have hs:H4b (pre++[x]) k v=H4b pre k v++[if (pre.length:Int)=k then v else x]:=List.mapIdx_concat
 refine H42 (fun r=>r=H4b (pre++[x]) k v) (fun K hK=>?_) (fun a ha=>h0 _ (by rw [ha]))
 rw [hs] at hK
 refine Hi (fun h=>?_) (fun h=>?_)
 ·have h:=Eu h
  refine Q2 (Zi (by rw [List.length_nil]; omega) (by decide)) (Q2 (Zi (by rw [Kk]; simp only [hw]; omega) (by decide)) (hK _ ?_))
  rw [if_pos h]; rfl
 ·have h:=Ev h
  refine Q2 (Zi (by rw [List.length_nil]; omega) (by decide)) (Q2 (Zi (by rw [Kk]; simp only [hw]; omega) (by decide)) (hK _ ?_))
  rw [if_neg h]; rfl
def mv (m:G9):G5:=⟨m.From,m.To⟩
def G29 (ss:List (List Int)) (H:Int) (m:G5):List (List Int)×Int×Int:=if (Hq ss H.toNat m).2=0 then ((Hq ss H.toNat m).1,H,0) else ([],0,(Hq ss H.toNat m).2)
theorem H2d {ss ss':List (List Int)} {H e:Int} {m:G5} (h:Hq ss H.toNat m=(ss',e)) (he:e≠0):((⟨[],0⟩:Gz),e)=(⟨(G29 ss H m).1,(G29 ss H m).2.1⟩,(G29 ss H m).2.2):=by
 unfold G29
 rw [h,if_neg he]
theorem Q03 {ss ss':List (List Int)} {H:Int} {m:G5} (h:Hq ss H.toNat m=(ss',0)):((⟨ss',H⟩:Gz),(0:Int))=(⟨(G29 ss H m).1,(G29 ss H m).2.1⟩,(G29 ss H m).2.2):=by
 unfold G29
 rw [h,if_pos rfl]
theorem J02 (F:Nat) {ss:List (List Int)} {H:Int} (hr:Jz ss H) (m:G9):Q5 F ⟨ss,H⟩ m=some (⟨(G29 ss H (mv m)).1,(G29 ss H (mv m)).2.1⟩,(G29 ss H (mv m)).2.2):=by
 refine Ra ?_
 unfold Q5
 refine Gn (J03 F ss H) ?_
 rw [Ew hr]
 refine Hi (fun h=>by cases h) (fun _=>?_)
 have h8:=hr.low
 have hS:Hq ss H.toNat (mv m)=if (m.From < 0∨(ss.length:Int)≤m.From)∨m.To < 0∨(ss.length:Int)≤m.To then (ss,6)
  else if m.From=m.To then (ss,340)
  else if (ss.getD m.From.toNat []).length=0 then (ss,341)
  else if (ss.getD m.To.toNat []).length=H.toNat then (ss,4)
  else ((ss.set m.To.toNat (ss.getD m.To.toNat []++[(ss.getD m.From.toNat []).getLastD 0])).set m.From.toNat ((ss.getD m.From.toNat []).take ((ss.getD m.From.toNat []).length - 1)),0):=rfl
 refine Hi (fun h=>Hj ?_) (fun h=>?_)
 ·simp only [Ku,Kn] at h
  rw [if_pos (by omega)] at hS
  exact H2d hS (by decide)
 simp only [Kv,decide_eq_false_iff_not] at h
 rw [if_neg (by omega)] at hS
 refine Hi (fun h2=>Hj ?_) (fun h2=>?_)
 ·rw [if_pos (Eu h2)] at hS
  exact H2d hS (by decide)
 have h2:=Ev h2
 rw [if_neg h2] at hS
 obtain⟨f,hf⟩:∃ f:Nat,m.From=f:=⟨m.From.toNat,by omega⟩
 obtain⟨t,ht⟩:∃ t:Nat,m.To=t:=⟨m.To.toNat,by omega⟩
 have h0:f < ss.length:=by omega
 have h1:t < ss.length:=by omega
 have gf:ss.getD m.From.toNat []=ss[f]:=by rw [hf,show ((f:Int)).toNat=f by omega,List.getD_eq_getElem?_getD,Ez h0]; rfl
 have gt:ss.getD m.To.toNat []=ss[t]:=by rw [ht,show ((t:Int)).toNat=t by omega,List.getD_eq_getElem?_getD,Ez h1]; rfl
 have lf:=hr.fit _ (List.getElem_mem h0)
 have lt:=hr.fit _ (List.getElem_mem h1)
 have hH:=hr.high
 rw [gf,gt] at hS
 refine Ju hf (Ez h0) (Ju ht (Ez h1) (Hi (fun h3=>Hj ?_) (fun h3=>?_)))
 ·have h3:=Eu h3
  rw [if_pos (by omega)] at hS
  exact H2d hS (by decide)
 have h3:=Ev h3
 rw [if_neg (by omega)] at hS
 refine Hi (fun h4=>Hj ?_) (fun h4=>?_)
 ·have h4:H≤(ss[t].length:Int):=Eu h4
  rw [if_pos (by omega)] at hS
  exact H2d hS (by decide)
 have h4:¬ H≤(ss[t].length:Int):=Ev h4
 rw [if_neg (by omega)] at hS
 have h5:ss[f]≠[]:=fun e=>h3 (by rw [e]; rfl)
 have h6:ss[f][ss[f].length - 1]? = some (ss[f].getLast h5):=by rw [List.getLast_eq_getElem,Ez]
 have h7:∀ s∈ss,s.length≤7:=fun s hs=>by have:=hr.len s hs; omega
 refine Q2 (Zi (by rw [List.length_nil]; omega) (by decide)) (Q4 (by omega) (Ju (m:=ss[f].length - 1) (by omega) h6 (Q2 (Zi (by simp only [List.nil_append,Kk]; omega) (by decide)) ?_)))
 refine Gn (Jc7 hr.most h7 (by simp only [List.nil_append,Kj,Kk]; omega)) (Q4 (by omega) (Yu (Rr (m:=ss[f].length - 1) (by omega) (by omega) ?_)))
 rw [ht,J9a,hf]
 refine Gn (Jc7 (by simpa using hr.most) (fun s hs=>?_) (by rw [List.length_take]; omega)) (Hj ?_)
 ·rcases List.mem_or_eq_of_mem_set hs with hs | rfl
  ·exact h7 s hs
  ·simp only [List.nil_append,Kj,Kk]; omega
 ·rw [ht,hf,show ((f:Int)).toNat=f by omega,show ((t:Int)).toNat=t by omega,show ss[f].getLastD 0=ss[f].getLast h5 from List.getLastD_eq_getLast?.trans (by rw [List.getLast?_eq_some_getLast h5]; rfl)] at hS
  rw [J9a,List.nil_append]
  exact Q03 hS
theorem G53 {ss:List (List Int)} {H:Int} (hr:Jz ss H) {m:G5} (h:(Hq ss H.toNat m).2=0):Jz (Hq ss H.toNat m).1 H:=by
 rcases G44 ss H.toNat m with h' | ⟨f,t,a,b,x,c⟩
 ·exact(h' h).elim
 ·rw [c.eq]; exact hr.shift c
theorem R43 {ss:List (List Int)} {H:Int} (hr:Jz ss H):YOk ⟨ss,H⟩=true:=by
 unfold YOk
 rw [Km,List.all_eq_true]
 exact⟨Ew ⟨hr.low,hr.high,hr.most⟩,fun s hs=>Ew (hr.fit s hs)⟩
def Z6 (ss:List (List Int)) (H:Int) (l:List G5):List (List Int)×Int×Int×Int:=
 if ¬ Jz ss H then ([],0,0,2) else if 10000 < l.length then ([],0,0,5) else if (Rs H.toNat ss 0 l).2.2=0 then ((Rs H.toNat ss 0 l).1,H,(Rs H.toNat ss 0 l).2) else ([],0,(Rs H.toNat ss 0 l).2)
theorem J54 {ss:List (List Int)} {H:Int} {l:List G5} (h:¬ Jz ss H):Z6 ss H l=([],0,0,2):=if_pos h
theorem Hac {ss:List (List Int)} {H:Int} {l:List G5} (h:Jz ss H) (hl:10000 < l.length):Z6 ss H l=([],0,0,5):=by
 unfold Z6
 rw [if_neg (fun g=>g h),if_pos hl]
theorem G9f {ss:List (List Int)} {H:Int} {l:List G5} (h:Jz ss H) (hl:¬ 10000 < l.length):Z6 ss H l=if (Rs H.toNat ss 0 l).2.2=0 then ((Rs H.toNat ss 0 l).1,H,(Rs H.toNat ss 0 l).2) else ([],0,(Rs H.toNat ss 0 l).2):=by
 unfold Z6
 rw [if_neg (fun g=>g h),if_neg hl]
theorem Jdf (ss:List (List Int)) (H:Int) (l:List G5):G4a ⟨ss,H⟩ l=some (⟨(Z6 ss H l).1,(Z6 ss H l).2.1⟩,(Z6 ss H l).2.2):=by
 unfold G4a
 rw [Gb7,G09]
 by_cases hr:Jz ss H
 ·rw [Ew hr,Bool.not_true,cond_false]
  by_cases hl:10000 < l.length
  ·rw [Hac hr hl,Ew (by omega)]; rfl
  ·rw [G9f hr hl,Ex (by omega),cond_false,R43 hr]
   split <;> rfl
 ·rw [J54 hr,Ex hr]; rfl
end Go.Proofs.Ytokjlondbjdlfaa
