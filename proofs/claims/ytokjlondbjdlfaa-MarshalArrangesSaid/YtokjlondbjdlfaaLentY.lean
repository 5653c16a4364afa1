/-
 What a model returns, What the functions return that lend and check integers and s
-/
import Derived.Test.YtokjlondbjdlfaaIter
import Derived.Test.YtokjlondbjdlfaaXE
namespace Go.Proofs.Ytokjlondbjdlfaa

section
variable {α β σ : Type} {Q : β → Prop}

def Wp (m : Option β) (Q : β → Prop) : Prop := ∃ r, m = some r ∧ Q r

theorem Ht {r : β} (h : Q r) : Wp (some r) Q := ⟨r, rfl, h⟩
theorem wp_mono {m : Option β} {Q' : β → Prop} (h : Wp m Q') (hq : ∀ r, Q' r → Q r) : Wp m Q := by
  obtain ⟨r, e, h⟩ := h; exact ⟨r, e, hq r h⟩
theorem G32 {m : Option α} {k : α → Option β} (h : Wp m (fun x => Wp (k x) Q)) : Wp (bnd m k) Q := by
  obtain ⟨x, rfl, h⟩ := h; exact h
theorem Gy {m : Option α} {k : α → Option β} {x : α} (e : m = some x) (h : Wp (k x) Q) : Wp (bnd m k) Q := by subst e; exact h
theorem R5 {z : Int} {k : Int → Option β} (h1 : -9223372036854775808 ≤ z ∧ z ≤ 9223372036854775807) (h : Wp (k z) Q) : Wp (chk z k) Q := by
  unfold chk J4f
  rw [Eu h1.1, Eu h1.2]; exact h
theorem Jd {c : Bool} {x y : Option β} (h1 : c = true → Wp x Q) (h2 : c = false → Wp y Q) : Wp (bif c then x else y) Q := by
  cases c with
  | true => exact h1 rfl
  | false => exact h2 rfl
theorem Qw {b : Bool} {k : Option β} (hb : b = true) (h : Wp k Q) : Wp (need b k) Q := by subst hb; exact h
theorem Qx {l : List α} {i : Int} {k : α → Option β} {m : Nat} {x : α} (hi : i = (m : Int)) (hx : l[m]? = some x) (h : Wp (k x) Q) : Wp (R6 l i k) Q := by
  subst hi
  unfold R6
  rw [Eu (by omega : (0 : Int) ≤ m), cond_true, show (m : Int).toNat = m by omega, hx]
  exact h
theorem H42 {m : (α → Option β) → Option β} {k : α → Option β} (P : α → Prop) (hm : ∀ K : α → Option β, (∀ a, P a → Wp (K a) Q) → Wp (m K) Q) (hk : ∀ a, P a → Wp (k a) Q) : Wp (jp m k) Q := hm k hk
theorem Z9 {i : Int} {n m : Nat} {Q : Nat → Prop} (hi : i = (m : Int)) (hm : m ≤ n) (h : Q m) : Wp (Y6 i n) Q := by
  subst hi
  unfold Y6
  rw [Eu (by omega : (0 : Int) ≤ m), show (m : Int).toNat = m by omega, Eu hm]
  exact Ht h
theorem Qq (I : List α → σ → Prop) {b : α → Nat → σ → (σ → Option β) → Option β} {kx : σ → Option β} {xs : List α} {s : σ} (h0 : I [] s)
    (hb : ∀ pre x post s nx, xs = pre ++ x :: post → I pre s → (∀ s', I (pre ++ [x]) s' → Wp (nx s') Q) → Wp (b x pre.length s nx) Q) (hk : ∀ s, I xs s → Wp (kx s) Q) : Wp (each b kx xs 0 s) Q := by
  have key : ∀ (post pre : List α) (s : σ), xs = pre ++ post → I pre s → Wp (each b kx post pre.length s) Q := by
    intro post
    induction post with
    | nil => intro pre s e hi; rw [List.append_nil] at e; subst e; exact hk s hi
    | cons x post ih =>
      intro pre s e hi
      rw [each]
      refine hb pre x post s _ e hi (fun s' h1 => ?_)
      have := ih (pre ++ [x]) s' (by rw [e]; simp) h1
      rw [Kh, Ki] at this
      exact this
  exact key xs [] s rfl h0
theorem H2c (I : Nat → σ → Prop) {b : Nat → σ → (σ → Option β) → Option β} {kx : σ → Option β} {n : Nat} {s : σ} (h0 : I 0 s)
    (hb : ∀ i s nx, i < n → I i s → (∀ s', I (i + 1) s' → Wp (nx s') Q) → Wp (b i s nx) Q) (hk : ∀ s, I n s → Wp (kx s) Q) : Wp (upto b kx n 0 s) Q := by
  have key : ∀ (m i : Nat) (s : σ), i + m = n → I i s → Wp (upto b kx m i s) Q := by
    intro m
    induction m with
    | zero => intro i s e hi; have e : i = n := by omega
              subst e; exact hk s hi
    | succ m ih =>
      intro i s e hi
      rw [upto]
      exact hb i s _ (by omega) hi (fun s' h1 => ih (i + 1) s' (by omega) h1)
  exact key n 0 s (by omega) h0
theorem Yh {m : Option β} {r : β} (h : Wp m (· = r)) : m = some r := by
  obtain ⟨x, e, rfl⟩ := h; exact e
end

set_option maxRecDepth 100000
set_option linter.unusedVariables false
open Go.RowKit

theorem G26 {n k:Nat} (hn:n≤10000001) (hk:k≤1000):decide (n*k≤140737488355328∧n≤maxLen)=true:=by
 refine Eu ⟨?_,by unfold maxLen; omega⟩
 exact Nat.le_trans (Nat.mul_le_mul hn hk) (by omega)
theorem R0d {n k:Nat} (hn:n≤10000001) (hk:k≤1000):decide (k*n≤281474976710656∧n≤maxLen)=true:=by
 refine Eu ⟨?_,by unfold maxLen; omega⟩
 exact Nat.le_trans (Nat.mul_le_mul hk hn) (by omega)
theorem Q99 {n:Nat} {z:Int} (h:z=(n:Int)):Hc6 z=some n:=by
 subst h
 unfold Hc6
 rw [Eu (by omega:(0:Int)≤(n:Int))]
 simp
section generic
variable {α β:Type}
theorem G08 {x:α} {k:α→Option β}:bnd (some x) k=k x:=rfl
def marks (mv:Nat→α):List α:=(List.range 12).map mv
theorem J05 {mv:Nat→α} {i:Nat} (h:i < 12):(marks mv)[i]? = some (mv i):=by
 unfold marks
 rw [Ke,List.getElem?_range h]; rfl
theorem Ha8 {mv:Nat→α}:(marks mv).length=12:=by simp [marks]
theorem Q09 {mv:Nat→α} {i:Nat} (h:i < 12):(marks mv).take (i+1)=(marks mv).take i++[mv i]:=by
 rw [List.take_add_one,J05 h]; rfl
theorem Ja9 {mk:Int→Option β} {mv:Nat→β} (of:β→α) (h0:∀ i:Nat,i < 12→mk (i:Int)=some (mv i)) {by_:Nat} (h1:by_≤1000) {n:Nat} {s0:List α} (hn:s0.length=n) (hl:n≤1048576) :
  (need (decide ((12:Int)≤9223372036854775807)) <| upto (fun i (s:List α) nx=>bnd (mk (i:Int)) fun r=>need (decide ((s.length+[of r].length)*by_≤140737488355328∧s.length+[of r].length≤maxLen)) <| nx (s++[of r])) (fun s=>bnd (Y6 (n:Int) s.length) fun m=>some (s.take m,s.drop m)) (12:Int).toNat 0 s0)=some (s0,(marks mv).map of):=by
 refine Yh (Qw rfl ?_)
 refine H2c (fun i s=>s=s0++((marks mv).map of).take i) (by simp) (fun i s nx hi hI h2=>?_) (fun s hI=>?_)
 ·have hi:i < 12:=hi
  subst hI
  have h4:(s0++((marks mv).map of).take i).length≤n+12:=by
   rw [Kh,List.length_take]; omega
  refine Gy (h0 i hi) (Qw (G26 (by rw [Ki]; omega) h1) (h2 _ ?_))
  rw [← List.map_take,← List.map_take,Q09 hi,List.map_append,List.append_assoc]
  rfl
 ·have h3:(12:Int).toNat=12:=rfl
  rw [h3,List.take_of_length_le (by rw [Km,Ha8]; omega)] at hI
  subst hI
  refine G32 (Z9 (m:=n) rfl (by rw [Kh]; omega) (Ht ?_))
  rw [← hn,List.take_left,List.drop_left]
theorem Q9f {mk:Int→Option α} {mv:Nat→α} (h1:∀ i:Nat,i < 12→mk (i:Int)=some (mv i)) {by_:Nat} (h0:by_≤1000) {l:List α} (hl:l.length≤1048576) :
  (chk ((l.length:Int)+12) fun v3=>bnd (Hc6 v3) fun m4=>need (decide (by_*m4≤281474976710656∧m4≤maxLen)) <| need (decide ((([]:List α).length+l.length)*by_≤140737488355328∧([]:List α).length+l.length≤maxLen)) <|
   need (decide ((12:Int)≤9223372036854775807)) <| upto (fun i (s:List α) nx=>bnd (mk (i:Int)) fun r=>need (decide ((s.length+[r].length)*by_≤140737488355328∧s.length+[r].length≤maxLen)) <| nx (s++[r])) (fun s=>bnd (Y6 (l.length:Int) s.length) fun m=>some (s.take m,s.drop m)) (12:Int).toNat 0 (([]:List α)++l))=some (l,marks mv):=by
 refine Yh (R5 ⟨by omega,by omega⟩ (Gy (Q99 (n:=l.length+12) (by omega)) (Qw (R0d (by omega) h0) (Qw (G26 (by rw [List.length_nil]; omega) h0) ⟨_,Ja9 (fun x=>x) h1 h0 (s0:=([]:List α)++l) (n:=l.length) (by simp) hl,?_⟩))))
 rw [List.map_id'',List.nil_append]
 exact fun _=>rfl
theorem Q0c {lx:β→Option α} {lv:β→α} {mk:Int→Option β} {mv:Nat→β} (of:β→α) (h1:∀ i:Nat,i < 12→mk (i:Int)=some (mv i)) {by_:Nat} (h0:by_≤1000) {l:List β} (h2:∀ x∈l,lx x=some (lv x)) (hl:l.length≤1048576) :
  (chk ((l.length:Int)+12) fun v3=>bnd (Hc6 v3) fun m4=>need (decide (by_*m4≤281474976710656∧m4≤maxLen)) <|
   each (fun y (i:Nat) (s:List α) nx=>bnd (lx y) fun r=>need (decide ((s.length+[r].length)*by_≤140737488355328∧s.length+[r].length≤maxLen)) <| nx (s++[r]))
   (fun(s0:List α)=>need (decide ((12:Int)≤9223372036854775807)) <| upto (fun i (s:List α) nx=>bnd (mk (i:Int)) fun r=>need (decide ((s.length+[of r].length)*by_≤140737488355328∧s.length+[of r].length≤maxLen)) <| nx (s++[of r])) (fun s=>bnd (Y6 (l.length:Int) s.length) fun m=>some (s.take m,s.drop m)) (12:Int).toNat 0 s0) l 0 [])=some (l.map lv,(marks mv).map of):=by
 refine Yh (R5 ⟨by omega,by omega⟩ (Gy (Q99 (n:=l.length+12) (by omega)) (Qw (R0d (by omega) h0) ?_)))
 refine Qq (fun pre s=>s=pre.map lv) rfl (fun pre y post s nx e hI h3=>?_) (fun s hI=>?_)
 ·subst hI
  have hp:pre.length < l.length:=by rw [e]; simp
  refine Gy (h2 y (by rw [e]; simp)) (Qw (G26 (by rw [Ki,Km]; omega) h0) (h3 _ ?_))
  rw [List.map_append]; rfl
 ·subst hI
  exact⟨_,Ja9 of h1 h0 (by simp) hl,rfl⟩
theorem Q3e [Inhabited α] [Inhabited β] {mk:Int→Option β} {mv:Nat→β} (h3:∀ i:Nat,i < 12→mk (i:Int)=some (mv i)) {l:List β} (hl:l.length≤1048576) {xs:List α} {ys:List α} (hx:xs.length=l.length) (hy:ys.length=12)
  {body:α→Nat→Unit→(Unit→Option Bool)→Option Bool}
  (h1:∀ (i:Nat) y z nx,i < l.length→xs[i]? = some y→l[i]? = some z→body y i () nx=nx ())
  (h2:∀ (i:Nat) y nx,i < 12→ys[i]? = some y→body y (l.length+i) () nx=nx ()) :
  (bif decide ((((xs,ys):Ln α).1.length:Int)≠(l.length:Int)) then some false else (chk ((l.length:Int)+12) fun v6=>bnd (Y6 v6 (((xs,ys):Ln α).1++((xs,ys):Ln α).2).length) fun m7=>each body (fun(_:Unit)=>some true) ((((xs,ys):Ln α).1++((xs,ys):Ln α).2).take m7) 0 ()))=some true:=by
 have hd:decide ((((xs,ys):Ln α).1.length:Int)≠(l.length:Int))=false:=Ev (by simp only [ne_eq,Decidable.not_not]; omega)
 rw [hd,cond_false]
 refine Yh (R5 ⟨by omega,by omega⟩ (G32 (Z9 (m:=l.length+12) (by omega) (by simp only [Kh]; omega) ?_)))
 have ht:(((xs,ys):Ln α).1++((xs,ys):Ln α).2).take (l.length+12)=xs++ys:=List.take_of_length_le (by simp only [Kh]; omega)
 rw [ht]
 refine Qq (fun _ _=>True) trivial (fun pre y post s nx e _ h0=>?_) (fun s _=>Ht rfl)
 have hg:(xs++ys)[pre.length]? = some y:=by rw [e]; simp
 rcases Eo pre.length l.length with h | h
 ·rw [Kc (by omega)] at hg
  rw [h1 pre.length y _ nx h hg (Ex h)]
  exact h0 _ trivial
 ·rw [Kb (by omega)] at hg
  have hp:pre.length < l.length+12:=by
   have:=congrArg List.length e
   simp only [Kh,Kd] at this
   omega
  have:=h2 (pre.length - l.length) y nx (by omega) (by rw [← hx]; exact hg)
  rw [show l.length+(pre.length - l.length)=pre.length by omega] at this
  rw [this]
  exact h0 _ trivial
theorem Qa1 [DecidableEq α] [Inhabited α] {mk:Int→Option α} {mv:Nat→α} (h0:∀ i:Nat,i < 12→mk (i:Int)=some (mv i)) {l:List α} (hl:l.length≤1048576) :
  (bif decide ((((l,marks mv):Ln α).1.length:Int)≠(l.length:Int)) then some false else (chk ((l.length:Int)+12) fun v6=>bnd (Y6 v6 (((l,marks mv):Ln α).1++((l,marks mv):Ln α).2).length) fun m7=>
   each (fun y29 i29 (s29:Unit) nx29=>
    bnd (bif decide ((i29:Int) < (l.length:Int)) then R6 l (i29:Int) some else some default) fun y34=>
    bnd (bif ((!((decide ((i29:Int) < (l.length:Int)))&&(!(decide (y29=y34)))))&&(decide ((l.length:Int)≤(i29:Int)))) then chk ((i29:Int) - (l.length:Int)) some else some 0) fun v35=>
    bnd (bif ((!((decide ((i29:Int) < (l.length:Int)))&&(!(decide (y29=y34)))))&&(decide ((l.length:Int)≤(i29:Int)))) then mk v35 else some default) fun r36=>
    bif (((decide ((i29:Int) < (l.length:Int)))&&(!(decide (y29=y34))))||((decide ((l.length:Int)≤(i29:Int)))&&(!(decide (y29=r36))))) then (some false) else (nx29 ()))
   (fun(_:Unit)=>some true) ((((l,marks mv):Ln α).1++((l,marks mv):Ln α).2).take m7) 0 ()))=some true:=by
 refine Q3e h0 hl rfl Ha8 (fun i y z nx hi hy hz=>?_) (fun i y nx hi hy=>?_)
 ·rw [hy] at hz
  cases hz
  have hg:R6 l (i:Int) some=some y:=by
   unfold R6
   rw [Eu (by omega:(0:Int)≤(i:Int)),cond_true,show (i:Int).toNat=i by omega,hy]; rfl
  rw [Eu (by omega:(i:Int) < (l.length:Int)),cond_true,hg]
  simp only [bnd,decide_true,Bool.not_true,Bool.and_false,Bool.not_false,Bool.true_and,Bool.false_or]
  rw [Ev (by omega:¬ (l.length:Int)≤(i:Int))]
  rfl
 ·rw [J05 hi] at hy
  cases hy
  have hc:((l.length+i:Nat):Int) - (l.length:Int)=(i:Int):=by omega
  rw [Ev (by omega:¬ ((l.length+i:Nat):Int) < (l.length:Int)),cond_false,hc,Eu (by omega:(l.length:Int)≤((l.length+i:Nat):Int))]
  have hk:chk (i:Int) some=some (i:Int):=Yh (R5 ⟨by omega,by omega⟩ (Ht rfl))
  simp only [bnd,Bool.false_and,Bool.not_false,Bool.and_self,cond_true,hk,h0 i hi,decide_true,Bool.not_true,Bool.and_false,Bool.or_self,cond_false]
theorem Q0e [Inhabited α] [Inhabited β] {mk:Int→Option β} {mv:Nat→β} (h2:∀ i:Nat,i < 12→mk (i:Int)=some (mv i)) {lv of:β→α} {pl:α→β} {keep:α→β→Option Bool} {same:β→β→Option Bool} {l:List β} (hl:l.length≤1048576)
  (h0:∀ x∈l,keep (lv x) x=some true) (h1:∀ i:Nat,i < 12→same (pl (of (mv i))) (mv i)=some true) :
  (bif decide ((((l.map lv,(marks mv).map of):Ln α).1.length:Int)≠(l.length:Int)) then some false else (chk ((l.length:Int)+12) fun v6=>bnd (Y6 v6 (((l.map lv,(marks mv).map of):Ln α).1++((l.map lv,(marks mv).map of):Ln α).2).length) fun m7=>
   each (fun y33 i33 (s33:Unit) nx33=>
    bnd (bif decide ((i33:Int) < (l.length:Int)) then R6 l (i33:Int) some else some default) fun y38=>
    bnd (bif decide ((i33:Int) < (l.length:Int)) then keep y33 y38 else some default) fun r39=>
    bnd (bif ((!((decide ((i33:Int) < (l.length:Int)))&&(!r39)))&&(decide ((l.length:Int)≤(i33:Int)))) then chk ((i33:Int) - (l.length:Int)) some else some 0) fun v40=>
    bnd (bif ((!((decide ((i33:Int) < (l.length:Int)))&&(!r39)))&&(decide ((l.length:Int)≤(i33:Int)))) then mk v40 else some default) fun r41=>
    bnd (bif ((!((decide ((i33:Int) < (l.length:Int)))&&(!r39)))&&(decide ((l.length:Int)≤(i33:Int)))) then same (pl y33) r41 else some default) fun r42=>
    bif (((decide ((i33:Int) < (l.length:Int)))&&(!r39))||((decide ((l.length:Int)≤(i33:Int)))&&(!r42))) then (some false) else (nx33 ()))
   (fun(_:Unit)=>some true) ((((l.map lv,(marks mv).map of):Ln α).1++((l.map lv,(marks mv).map of):Ln α).2).take m7) 0 ()))=some true:=by
 refine Q3e h2 hl (by simp) (by simp [Ha8]) (fun i y z nx hi hy hz=>?_) (fun i y nx hi hy=>?_)
 ·rw [Ke,hz] at hy
  cases hy
  have hg:R6 l (i:Int) some=some z:=by
   unfold R6
   rw [Eu (by omega:(0:Int)≤(i:Int)),cond_true,show (i:Int).toNat=i by omega,hz]; rfl
  rw [Eu (by omega:(i:Int) < (l.length:Int)),cond_true,hg]
  simp only [bnd,cond_true,h0 z (Ez hz),Bool.not_true,Bool.and_false,Bool.not_false,Bool.true_and,Bool.false_or]
  rw [Ev (by omega:¬ (l.length:Int)≤(i:Int))]
  rfl
 ·rw [Ke,J05 hi] at hy
  cases hy
  have hc:((l.length+i:Nat):Int) - (l.length:Int)=(i:Int):=by omega
  rw [Ev (by omega:¬ ((l.length+i:Nat):Int) < (l.length:Int)),cond_false,hc,Eu (by omega:(l.length:Int)≤((l.length+i:Nat):Int))]
  have hk:chk (i:Int) some=some (i:Int):=Yh (R5 ⟨by omega,by omega⟩ (Ht rfl))
  simp only [bnd,cond_false,Bool.false_and,Bool.not_false,Bool.and_self,cond_true,hk,h2 i hi,h1 i hi,Bool.not_true,Bool.and_false,Bool.or_self]
theorem Q2f {l:List α} {body:α→Nat→Unit→(Unit→Option Bool)→Option Bool} (h:∀ (i:Nat) y nx,l[i]? = some y→body y i () nx=nx ()) :
  (bif decide ((l.length:Int)≠(l.length:Int)) then some false else each body (fun(_:Unit)=>some true) l 0 ())=some true:=by
 rw [Ev (by simp),cond_false]
 refine Yh (Qq (fun _ _=>True) trivial (fun pre y post s nx e _ h0=>?_) (fun s _=>Ht rfl))
 rw [h pre.length y nx (by rw [e]; simp)]
 exact h0 _ trivial
theorem G96 {γ:Type} {l:List α} {i:Nat} {y:α} (h:l[i]? = some y) (k:α→Option γ):R6 l (i:Int) k=k y:=by
 unfold R6
 rw [Eu (by omega:(0:Int)≤(i:Int)),cond_true,show (i:Int).toNat=i by omega,h]; rfl
end generic

def mkN (i:Nat):Int:=8000024+(i:Int)
theorem mark_eq (i:Nat) (h:i < 12):R7 1 (i:Int)=some (mkN i):=by
 refine Yh ?_
 unfold R7 mkN
 exact R5 ⟨by decide,by decide⟩ (R5 ⟨by decide,by decide⟩ (R5 ⟨by omega,by omega⟩ (Ht (by omega))))
theorem H26 {l:List Int} (hl:l.length≤1048576):Jk l=some (l,marks mkN):=by
 unfold Jk
 exact Q9f mark_eq (by omega) hl
theorem H27 {l:List Int} (hl:l.length≤1048576):Jm (l,marks mkN) l=some true:=by
 unfold Jm
 exact Qa1 mark_eq hl
theorem Gce (l:List Int):Jy l l=some true:=by
 unfold Jy
 refine Q2f (fun i y nx hy=>?_)
 rw [G96 hy,Ev (by simp),cond_false]
theorem H82 (i:Nat) (h:i < 12):Qf 1 (i:Int)=some [mkN i]:=by
 unfold Qf
 rw [mark_eq i h]; rfl
def H85 (l:List Int):Ln Int:=(l,marks mkN)
theorem J39 {l:List (List Int)} (hl:l.length≤1048576) (hs:∀ s∈l,s.length≤1048576):R3 l=some (l.map H85,(marks fun i=>[mkN i]).map fun x=>(x,([]:List Int))):=by
 unfold R3
 exact Q0c (lx:=Jk) (fun x=>(x,([]:List Int))) H82 (by omega) (fun x hx=>H26 (hs x hx)) hl
theorem J3a {l:List (List Int)} (hl:l.length≤1048576) (hs:∀ s∈l,s.length≤1048576):R4 (l.map H85,(marks fun i=>[mkN i]).map fun x=>(x,([]:List Int))) l=some true:=by
 unfold R4
 exact Q0e (pl:=fun e:Ln Int=>e.1) (keep:=Jm) (same:=Jy) H82 hl (fun x hx=>H27 (hs x hx)) (fun i hi=>Gce _)
theorem J48 (l:List (List Int)):(l.map H85).map Prod.fst=l:=by
 rw [List.map_map]
 exact(List.map_congr_left (fun _ _=>rfl)).trans (List.map_id l)
theorem Qb0 {y:Gn} (hl:y.Stacks.length≤1048576) (hs:∀ s∈y.Stacks,s.length≤1048576):Qt y=some ⟨(y.Stacks.map H85,(marks fun i=>[mkN i]).map fun x=>(x,([]:List Int))),y.Height⟩:=by
 unfold Qt
 rw [J39 hl hs]; rfl
theorem Q4b {y:Gn} (hl:y.Stacks.length≤1048576) (hs:∀ s∈y.Stacks,s.length≤1048576):Qk ⟨(y.Stacks.map H85,(marks fun i=>[mkN i]).map fun x=>(x,([]:List Int))),y.Height⟩ y=some true:=by
 unfold Qk
 rw [Eu rfl,cond_true,J3a hl hs]; rfl
end Go.Proofs.Ytokjlondbjdlfaa
