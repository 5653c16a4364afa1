/-
 What a model returns, What the functions return that lend and check integers and s
-/
import Derived.Test.YtokjlondbjdlfaaGreatIter
import Derived.Test.YtokjlondbjdlfaaGreatXE
namespace Go.Proofs.YtokjlondbjdlfaaGreat

section
variable {α β σ : Type} {Q : β → Prop}

def Wp (m : Option β) (Q : β → Prop) : Prop := ∃ r, m = some r ∧ Q r

theorem Hy {r : β} (h : Q r) : Wp (some r) Q := ⟨r, rfl, h⟩
theorem wp_mono {m : Option β} {Q' : β → Prop} (h : Wp m Q') (hq : ∀ r, Q' r → Q r) : Wp m Q := by
  obtain ⟨r, e, h⟩ := h; exact ⟨r, e, hq r h⟩
theorem Zv {m : Option α} {k : α → Option β} (h : Wp m (fun x => Wp (k x) Q)) : Wp (bnd m k) Q := by
  obtain ⟨x, rfl, h⟩ := h; exact h
theorem Gg {m : Option α} {k : α → Option β} {x : α} (e : m = some x) (h : Wp (k x) Q) : Wp (bnd m k) Q := by subst e; exact h
theorem Qh {z : Int} {k : Int → Option β} (h1 : -9223372036854775808 ≤ z ∧ z ≤ 9223372036854775807) (h : Wp (k z) Q) : Wp (chk z k) Q := by
  unfold chk J75
  rw [Ev h1.1, Ev h1.2]; exact h
theorem J0 {c : Bool} {x y : Option β} (h1 : c = true → Wp x Q) (h2 : c = false → Wp y Q) : Wp (bif c then x else y) Q := by
  cases c with
  | true => exact h1 rfl
  | false => exact h2 rfl
theorem Jn {b : Bool} {k : Option β} (hb : b = true) (h : Wp k Q) : Wp (need b k) Q := by subst hb; exact h
theorem Qf {l : List α} {i : Int} {k : α → Option β} {m : Nat} {x : α} (hi : i = (m : Int)) (hx : l[m]? = some x) (h : Wp (k x) Q) : Wp (Qx l i k) Q := by
  subst hi
  unfold Qx
  rw [Ev (by omega : (0 : Int) ≤ m), cond_true, show (m : Int).toNat = m by omega, hx]
  exact h
theorem H69 {m : (α → Option β) → Option β} {k : α → Option β} (P : α → Prop) (hm : ∀ K : α → Option β, (∀ a, P a → Wp (K a) Q) → Wp (m K) Q) (hk : ∀ a, P a → Wp (k a) Q) : Wp (jp m k) Q := hm k hk
theorem R6d {m n : Int} {Q : Int → Prop} (hn : n ≠ 0) (h : Q (m.tmod n)) : Wp (Jc5 m n) Q := by
  unfold Jc5
  rw [Ew hn, cond_false]
  exact Hy h
theorem Rs {i : Int} {n m : Nat} {Q : Nat → Prop} (hi : i = (m : Int)) (hm : m ≤ n) (h : Q m) : Wp (Rm i n) Q := by
  subst hi
  unfold Rm
  rw [Ev (by omega : (0 : Int) ≤ m), show (m : Int).toNat = m by omega, Ev hm]
  exact Hy h
theorem Qd (I : List α → σ → Prop) {b : α → Nat → σ → (σ → Option β) → Option β} {kx : σ → Option β} {xs : List α} {s : σ} (h0 : I [] s)
    (hb : ∀ pre x post s nx, xs = pre ++ x :: post → I pre s → (∀ s', I (pre ++ [x]) s' → Wp (nx s') Q) → Wp (b x pre.length s nx) Q) (hk : ∀ s, I xs s → Wp (kx s) Q) : Wp (each b kx xs 0 s) Q := by
  have key : ∀ (post pre : List α) (s : σ), xs = pre ++ post → I pre s → Wp (each b kx post pre.length s) Q := by
    intro post
    induction post with
    | nil => intro pre s e hi; rw [List.append_nil] at e; subst e; exact hk s hi
    | cons x post ih =>
      intro pre s e hi
      rw [each]
      refine hb pre x post s _ e hi (fun s' h1 => ?_)
      have := ih (pre ++ [x]) s' (by rw [e]; simp) h1
      rw [Ki, Kj] at this
      exact this
  exact key xs [] s rfl h0
theorem H01 (I : Nat → σ → Prop) {b : Nat → σ → (σ → Option β) → Option β} {kx : σ → Option β} {n : Nat} {s : σ} (h0 : I 0 s)
    (hb : ∀ i s nx, i < n → I i s → (∀ s', I (i + 1) s' → Wp (nx s') Q) → Wp (b i s nx) Q) (hk : ∀ s, I n s → Wp (kx s) Q) : Wp (upto b kx n 0 s) Q := by
  have key : ∀ (m i : Nat) (s : σ), i + m = n → I i s → Wp (upto b kx m i s) Q := by
    intro m
    induction m with
    | zero => intro i s e hi; have e : i = n := by omega
              subst e; exact hk s hi
    | succ m ih =>
      intro i s e hi
      rw [upto]
      exact hb i s _ (by omega) hi (fun s' h1 => ih (i + 1) s' (by omega) h1)
  exact key n 0 s (by omega) h0
theorem Y1 {m : Option β} {r : β} (h : Wp m (· = r)) : m = some r := by
  obtain ⟨x, e, rfl⟩ := h; exact e
end

set_option maxRecDepth 100000
set_option linter.unusedVariables false
open Go.RowKit

theorem Zt {n k:Nat} (hn:n≤10000001) (hk:k≤1000):decide (n*k≤140737488355328∧n≤maxLen)=true:=by
 refine Ev ⟨?_,by unfold maxLen; omega⟩
 exact Nat.le_trans (Nat.mul_le_mul hn hk) (by omega)
theorem R57 {n k:Nat} (hn:n≤10000001) (hk:k≤1000):decide (k*n≤281474976710656∧n≤maxLen)=true:=by
 refine Ev ⟨?_,by unfold maxLen; omega⟩
 exact Nat.le_trans (Nat.mul_le_mul hk hn) (by omega)
theorem Q33 {n:Nat} {z:Int} (h:z=(n:Int)):Ha9 z=some n:=by
 subst h
 unfold Ha9
 rw [Ev (by omega:(0:Int)≤(n:Int))]
 simp
section generic
variable {α β:Type}
theorem G04 {x:α} {k:α→Option β}:bnd (some x) k=k x:=rfl
def marks (mv:Nat→α):List α:=(List.range 12).map mv
theorem J22 {mv:Nat→α} {i:Nat} (h:i < 12):(marks mv)[i]? = some (mv i):=by
 unfold marks
 rw [Kf,List.getElem?_range h]; rfl
theorem Hce {mv:Nat→α}:(marks mv).length=12:=by simp [marks]
theorem Q34 {mv:Nat→α} {i:Nat} (h:i < 12):(marks mv).take (i+1)=(marks mv).take i++[mv i]:=by
 rw [List.take_add_one,J22 h]; rfl
theorem Jd4 {mk:Int→Option β} {mv:Nat→β} (of:β→α) (h0:∀ i:Nat,i < 12→mk (i:Int)=some (mv i)) {by_:Nat} (h1:by_≤1000) {n:Nat} {s0:List α} (hn:s0.length=n) (hl:n≤1048576) :
  (need (decide ((12:Int)≤9223372036854775807)) <| upto (fun i (s:List α) nx=>bnd (mk (i:Int)) fun r=>need (decide ((s.length+[of r].length)*by_≤140737488355328∧s.length+[of r].length≤maxLen)) <| nx (s++[of r])) (fun s=>bnd (Rm (n:Int) s.length) fun m=>some (s.take m,s.drop m)) (12:Int).toNat 0 s0)=some (s0,(marks mv).map of):=by
 refine Y1 (Jn rfl ?_)
 refine H01 (fun i s=>s=s0++((marks mv).map of).take i) (by simp) (fun i s nx hi hI h2=>?_) (fun s hI=>?_)
 ·have hi:i < 12:=hi
  subst hI
  have h4:(s0++((marks mv).map of).take i).length≤n+12:=by
   rw [Ki,List.length_take]; omega
  refine Gg (h0 i hi) (Jn (Zt (by rw [Kj]; omega) h1) (h2 _ ?_))
  rw [← List.map_take,← List.map_take,Q34 hi,List.map_append,List.append_assoc]
  rfl
 ·have h3:(12:Int).toNat=12:=rfl
  rw [h3,List.take_of_length_le (by rw [Kn,Hce]; omega)] at hI
  subst hI
  refine Zv (Rs (m:=n) rfl (by rw [Ki]; omega) (Hy ?_))
  rw [← hn,List.take_left,List.drop_left]
theorem Qde {mk:Int→Option α} {mv:Nat→α} (h1:∀ i:Nat,i < 12→mk (i:Int)=some (mv i)) {by_:Nat} (h0:by_≤1000) {l:List α} (hl:l.length≤1048576) :
  (chk ((l.length:Int)+12) fun v3=>bnd (Ha9 v3) fun m4=>need (decide (by_*m4≤281474976710656∧m4≤maxLen)) <| need (decide ((([]:List α).length+l.length)*by_≤140737488355328∧([]:List α).length+l.length≤maxLen)) <|
   need (decide ((12:Int)≤9223372036854775807)) <| upto (fun i (s:List α) nx=>bnd (mk (i:Int)) fun r=>need (decide ((s.length+[r].length)*by_≤140737488355328∧s.length+[r].length≤maxLen)) <| nx (s++[r])) (fun s=>bnd (Rm (l.length:Int) s.length) fun m=>some (s.take m,s.drop m)) (12:Int).toNat 0 (([]:List α)++l))=some (l,marks mv):=by
 refine Y1 (Qh ⟨by omega,by omega⟩ (Gg (Q33 (n:=l.length+12) (by omega)) (Jn (R57 (by omega) h0) (Jn (Zt (by rw [List.length_nil]; omega) h0) ⟨_,Jd4 (fun x=>x) h1 h0 (s0:=([]:List α)++l) (n:=l.length) (by simp) hl,?_⟩))))
 rw [List.map_id'',List.nil_append]
 exact fun _=>rfl
theorem Q37 {lx:β→Option α} {lv:β→α} {mk:Int→Option β} {mv:Nat→β} (of:β→α) (h1:∀ i:Nat,i < 12→mk (i:Int)=some (mv i)) {by_:Nat} (h0:by_≤1000) {l:List β} (h2:∀ x∈l,lx x=some (lv x)) (hl:l.length≤1048576) :
  (chk ((l.length:Int)+12) fun v3=>bnd (Ha9 v3) fun m4=>need (decide (by_*m4≤281474976710656∧m4≤maxLen)) <|
   each (fun y (i:Nat) (s:List α) nx=>bnd (lx y) fun r=>need (decide ((s.length+[r].length)*by_≤140737488355328∧s.length+[r].length≤maxLen)) <| nx (s++[r]))
   (fun(s0:List α)=>need (decide ((12:Int)≤9223372036854775807)) <| upto (fun i (s:List α) nx=>bnd (mk (i:Int)) fun r=>need (decide ((s.length+[of r].length)*by_≤140737488355328∧s.length+[of r].length≤maxLen)) <| nx (s++[of r])) (fun s=>bnd (Rm (l.length:Int) s.length) fun m=>some (s.take m,s.drop m)) (12:Int).toNat 0 s0) l 0 [])=some (l.map lv,(marks mv).map of):=by
 refine Y1 (Qh ⟨by omega,by omega⟩ (Gg (Q33 (n:=l.length+12) (by omega)) (Jn (R57 (by omega) h0) ?_)))
 refine Qd (fun pre s=>s=pre.map lv) rfl (fun pre y post s nx e hI h3=>?_) (fun s hI=>?_)
 ·subst hI
  have hp:pre.length < l.length:=by rw [e]; simp
  refine Gg (h2 y (by rw [e]; simp)) (Jn (Zt (by rw [Kj,Kn]; omega) h0) (h3 _ ?_))
  rw [List.map_append]; rfl
 ·subst hI
  exact⟨_,Jd4 of h1 h0 (by simp) hl,rfl⟩
theorem Q6c [Inhabited α] [Inhabited β] {mk:Int→Option β} {mv:Nat→β} (h3:∀ i:Nat,i < 12→mk (i:Int)=some (mv i)) {l:List β} (hl:l.length≤1048576) {xs:List α} {ys:List α} (hx:xs.length=l.length) (hy:ys.length=12)
  {body:α→Nat→Unit→(Unit→Option Bool)→Option Bool}
  (h1:∀ (i:Nat) y z nx,i < l.length→xs[i]? = some y→l[i]? = some z→body y i () nx=nx ())
  (h2:∀ (i:Nat) y nx,i < 12→ys[i]? = some y→body y (l.length+i) () nx=nx ()) :
  (bif decide ((((xs,ys):Ln α).1.length:Int)≠(l.length:Int)) then some false else (chk ((l.length:Int)+12) fun v6=>bnd (Rm v6 (((xs,ys):Ln α).1++((xs,ys):Ln α).2).length) fun m7=>each body (fun(_:Unit)=>some true) ((((xs,ys):Ln α).1++((xs,ys):Ln α).2).take m7) 0 ()))=some true:=by
 have hd:decide ((((xs,ys):Ln α).1.length:Int)≠(l.length:Int))=false:=Ew (by simp only [ne_eq,Decidable.not_not]; omega)
 rw [hd,cond_false]
 refine Y1 (Qh ⟨by omega,by omega⟩ (Zv (Rs (m:=l.length+12) (by omega) (by simp only [Ki]; omega) ?_)))
 have ht:(((xs,ys):Ln α).1++((xs,ys):Ln α).2).take (l.length+12)=xs++ys:=List.take_of_length_le (by simp only [Ki]; omega)
 rw [ht]
 refine Qd (fun _ _=>True) trivial (fun pre y post s nx e _ h0=>?_) (fun s _=>Hy rfl)
 have hg:(xs++ys)[pre.length]? = some y:=by rw [e]; simp
 rcases Ep pre.length l.length with h | h
 ·rw [Kd (by omega)] at hg
  rw [h1 pre.length y _ nx h hg (Ey h)]
  exact h0 _ trivial
 ·rw [Kc (by omega)] at hg
  have hp:pre.length < l.length+12:=by
   have:=congrArg List.length e
   simp only [Ki,Ke] at this
   omega
  have:=h2 (pre.length - l.length) y nx (by omega) (by rw [← hx]; exact hg)
  rw [show l.length+(pre.length - l.length)=pre.length by omega] at this
  rw [this]
  exact h0 _ trivial
theorem Qe0 [DecidableEq α] [Inhabited α] {mk:Int→Option α} {mv:Nat→α} (h0:∀ i:Nat,i < 12→mk (i:Int)=some (mv i)) {l:List α} (hl:l.length≤1048576) :
  (bif decide ((((l,marks mv):Ln α).1.length:Int)≠(l.length:Int)) then some false else (chk ((l.length:Int)+12) fun v6=>bnd (Rm v6 (((l,marks mv):Ln α).1++((l,marks mv):Ln α).2).length) fun m7=>
   each (fun y29 i29 (s29:Unit) nx29=>
    bnd (bif decide ((i29:Int) < (l.length:Int)) then Qx l (i29:Int) some else some default) fun y34=>
    bnd (bif ((!((decide ((i29:Int) < (l.length:Int)))&&(!(decide (y29=y34)))))&&(decide ((l.length:Int)≤(i29:Int)))) then chk ((i29:Int) - (l.length:Int)) some else some 0) fun v35=>
    bnd (bif ((!((decide ((i29:Int) < (l.length:Int)))&&(!(decide (y29=y34)))))&&(decide ((l.length:Int)≤(i29:Int)))) then mk v35 else some default) fun r36=>
    bif (((decide ((i29:Int) < (l.length:Int)))&&(!(decide (y29=y34))))||((decide ((l.length:Int)≤(i29:Int)))&&(!(decide (y29=r36))))) then (some false) else (nx29 ()))
   (fun(_:Unit)=>some true) ((((l,marks mv):Ln α).1++((l,marks mv):Ln α).2).take m7) 0 ()))=some true:=by
 refine Q6c h0 hl rfl Hce (fun i y z nx hi hy hz=>?_) (fun i y nx hi hy=>?_)
 ·rw [hy] at hz
  cases hz
  have hg:Qx l (i:Int) some=some y:=by
   unfold Qx
   rw [Ev (by omega:(0:Int)≤(i:Int)),cond_true,show (i:Int).toNat=i by omega,hy]; rfl
  rw [Ev (by omega:(i:Int) < (l.length:Int)),cond_true,hg]
  simp only [bnd,decide_true,Bool.not_true,Bool.and_false,Bool.not_false,Bool.true_and,Bool.false_or]
  rw [Ew (by omega:¬ (l.length:Int)≤(i:Int))]
  rfl
 ·rw [J22 hi] at hy
  cases hy
  have hc:((l.length+i:Nat):Int) - (l.length:Int)=(i:Int):=by omega
  rw [Ew (by omega:¬ ((l.length+i:Nat):Int) < (l.length:Int)),cond_false,hc,Ev (by omega:(l.length:Int)≤((l.length+i:Nat):Int))]
  have hk:chk (i:Int) some=some (i:Int):=Y1 (Qh ⟨by omega,by omega⟩ (Hy rfl))
  simp only [bnd,Bool.false_and,Bool.not_false,Bool.and_self,cond_true,hk,h0 i hi,decide_true,Bool.not_true,Bool.and_false,Bool.or_self,cond_false]
theorem Q3a [Inhabited α] [Inhabited β] {mk:Int→Option β} {mv:Nat→β} (h2:∀ i:Nat,i < 12→mk (i:Int)=some (mv i)) {lv of:β→α} {pl:α→β} {keep:α→β→Option Bool} {same:β→β→Option Bool} {l:List β} (hl:l.length≤1048576)
  (h0:∀ x∈l,keep (lv x) x=some true) (h1:∀ i:Nat,i < 12→same (pl (of (mv i))) (mv i)=some true) :
  (bif decide ((((l.map lv,(marks mv).map of):Ln α).1.length:Int)≠(l.length:Int)) then some false else (chk ((l.length:Int)+12) fun v6=>bnd (Rm v6 (((l.map lv,(marks mv).map of):Ln α).1++((l.map lv,(marks mv).map of):Ln α).2).length) fun m7=>
   each (fun y33 i33 (s33:Unit) nx33=>
    bnd (bif decide ((i33:Int) < (l.length:Int)) then Qx l (i33:Int) some else some default) fun y38=>
    bnd (bif decide ((i33:Int) < (l.length:Int)) then keep y33 y38 else some default) fun r39=>
    bnd (bif ((!((decide ((i33:Int) < (l.length:Int)))&&(!r39)))&&(decide ((l.length:Int)≤(i33:Int)))) then chk ((i33:Int) - (l.length:Int)) some else some 0) fun v40=>
    bnd (bif ((!((decide ((i33:Int) < (l.length:Int)))&&(!r39)))&&(decide ((l.length:Int)≤(i33:Int)))) then mk v40 else some default) fun r41=>
    bnd (bif ((!((decide ((i33:Int) < (l.length:Int)))&&(!r39)))&&(decide ((l.length:Int)≤(i33:Int)))) then same (pl y33) r41 else some default) fun r42=>
    bif (((decide ((i33:Int) < (l.length:Int)))&&(!r39))||((decide ((l.length:Int)≤(i33:Int)))&&(!r42))) then (some false) else (nx33 ()))
   (fun(_:Unit)=>some true) ((((l.map lv,(marks mv).map of):Ln α).1++((l.map lv,(marks mv).map of):Ln α).2).take m7) 0 ()))=some true:=by
 refine Q6c h2 hl (by simp) (by simp [Hce]) (fun i y z nx hi hy hz=>?_) (fun i y nx hi hy=>?_)
 ·rw [Kf,hz] at hy
  cases hy
  have hg:Qx l (i:Int) some=some z:=by
   unfold Qx
   rw [Ev (by omega:(0:Int)≤(i:Int)),cond_true,show (i:Int).toNat=i by omega,hz]; rfl
  rw [Ev (by omega:(i:Int) < (l.length:Int)),cond_true,hg]
  simp only [bnd,cond_true,h0 z (K0 hz),Bool.not_true,Bool.and_false,Bool.not_false,Bool.true_and,Bool.false_or]
  rw [Ew (by omega:¬ (l.length:Int)≤(i:Int))]
  rfl
 ·rw [Kf,J22 hi] at hy
  cases hy
  have hc:((l.length+i:Nat):Int) - (l.length:Int)=(i:Int):=by omega
  rw [Ew (by omega:¬ ((l.length+i:Nat):Int) < (l.length:Int)),cond_false,hc,Ev (by omega:(l.length:Int)≤((l.length+i:Nat):Int))]
  have hk:chk (i:Int) some=some (i:Int):=Y1 (Qh ⟨by omega,by omega⟩ (Hy rfl))
  simp only [bnd,cond_false,Bool.false_and,Bool.not_false,Bool.and_self,cond_true,hk,h2 i hi,h1 i hi,Bool.not_true,Bool.and_false,Bool.or_self]
theorem Q5c {l:List α} {body:α→Nat→Unit→(Unit→Option Bool)→Option Bool} (h:∀ (i:Nat) y nx,l[i]? = some y→body y i () nx=nx ()) :
  (bif decide ((l.length:Int)≠(l.length:Int)) then some false else each body (fun(_:Unit)=>some true) l 0 ())=some true:=by
 rw [Ew (by simp),cond_false]
 refine Y1 (Qd (fun _ _=>True) trivial (fun pre y post s nx e _ h0=>?_) (fun s _=>Hy rfl))
 rw [h pre.length y nx (by rw [e]; simp)]
 exact h0 _ trivial
theorem Gad {γ:Type} {l:List α} {i:Nat} {y:α} (h:l[i]? = some y) (k:α→Option γ):Qx l (i:Int) k=k y:=by
 unfold Qx
 rw [Ev (by omega:(0:Int)≤(i:Int)),cond_true,show (i:Int).toNat=i by omega,h]; rfl
end generic

def mkN (i:Nat):Int:=8000024+(i:Int)
theorem mark_eq (i:Nat) (h:i < 12):Rj 1 (i:Int)=some (mkN i):=by
 refine Y1 ?_
 unfold Rj mkN
 exact Qh ⟨by decide,by decide⟩ (Qh ⟨by decide,by decide⟩ (Qh ⟨by omega,by omega⟩ (Hy (by omega))))
theorem Gdc {l:List Int} (hl:l.length≤1048576):Jq l=some (l,marks mkN):=by
 unfold Jq
 exact Qde mark_eq (by omega) hl
theorem Gde {l:List Int} (hl:l.length≤1048576):Jt (l,marks mkN) l=some true:=by
 unfold Jt
 exact Qe0 mark_eq hl
theorem G93 (l:List Int):Q3 l l=some true:=by
 unfold Q3
 refine Q5c (fun i y nx hy=>?_)
 rw [Gad hy,Ew (by simp),cond_false]
theorem Had (i:Nat) (h:i < 12):Qt 1 (i:Int)=some [mkN i]:=by
 unfold Qt
 rw [mark_eq i h]; rfl
def H6e (l:List Int):Ln Int:=(l,marks mkN)
theorem J5a {l:List (List Int)} (hl:l.length≤1048576) (hs:∀ s∈l,s.length≤1048576):Rh l=some (l.map H6e,(marks fun i=>[mkN i]).map fun x=>(x,([]:List Int))):=by
 unfold Rh
 exact Q37 (lx:=Jq) (fun x=>(x,([]:List Int))) Had (by omega) (fun x hx=>Gdc (hs x hx)) hl
theorem J5b {l:List (List Int)} (hl:l.length≤1048576) (hs:∀ s∈l,s.length≤1048576):Ri (l.map H6e,(marks fun i=>[mkN i]).map fun x=>(x,([]:List Int))) l=some true:=by
 unfold Ri
 exact Q3a (pl:=fun e:Ln Int=>e.1) (keep:=Jt) (same:=Q3) Had hl (fun x hx=>Gde (hs x hx)) (fun i hi=>G93 _)
theorem Hcc (l:List (List Int)):(l.map H6e).map Prod.fst=l:=by
 rw [List.map_map]
 exact(List.map_congr_left (fun _ _=>rfl)).trans (List.map_id l)
theorem Q46 {y:Gh} (hl:y.Stacks.length≤1048576) (hs:∀ s∈y.Stacks,s.length≤1048576):R5 y=some ⟨(y.Stacks.map H6e,(marks fun i=>[mkN i]).map fun x=>(x,([]:List Int))),y.Height⟩:=by
 unfold R5
 rw [J5a hl hs]; rfl
theorem Ja2 {y:Gh} (hl:y.Stacks.length≤1048576) (hs:∀ s∈y.Stacks,s.length≤1048576):Qz ⟨(y.Stacks.map H6e,(marks fun i=>[mkN i]).map fun x=>(x,([]:List Int))),y.Height⟩ y=some true:=by
 unfold Qz
 rw [Ev rfl,cond_true,J5b hl hs]; rfl
end Go.Proofs.YtokjlondbjdlfaaGreat
