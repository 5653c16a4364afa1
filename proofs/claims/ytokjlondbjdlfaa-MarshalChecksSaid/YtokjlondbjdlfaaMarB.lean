/-
 What a model returns, What the functions return that lend and check integers and s Yards and orders: The reference's Right;
-/
import Derived.Test.YtokjlondbjdlfaaIter
import Derived.Test.YtokjlondbjdlfaaXE
namespace Go.Proofs.Ytokjlondbjdlfaa

section
variable {α β σ : Type} {Q : β → Prop}

def Wp (m : Option β) (Q : β → Prop) : Prop := ∃ r, m = some r ∧ Q r

theorem Jp {r : β} (h : Q r) : Wp (some r) Q := ⟨r, rfl, h⟩
theorem wp_mono {m : Option β} {Q' : β → Prop} (h : Wp m Q') (hq : ∀ r, Q' r → Q r) : Wp m Q := by
  obtain ⟨r, e, h⟩ := h; exact ⟨r, e, hq r h⟩
theorem J32 {m : Option α} {k : α → Option β} (h : Wp m (fun x => Wp (k x) Q)) : Wp (bnd m k) Q := by
  obtain ⟨x, rfl, h⟩ := h; exact h
theorem Ja {m : Option α} {k : α → Option β} {x : α} (e : m = some x) (h : Wp (k x) Q) : Wp (bnd m k) Q := by subst e; exact h
theorem G5c {z : Int} {k : Int → Option β} (h1 : -9223372036854775808 ≤ z ∧ z ≤ 9223372036854775807) (h : Wp (k z) Q) : Wp (chk z k) Q := by
  unfold chk Jf5
  rw [Ev h1.1, Ev h1.2]; exact h
theorem Zb {c : Bool} {x y : Option β} (h1 : c = true → Wp x Q) (h2 : c = false → Wp y Q) : Wp (bif c then x else y) Q := by
  cases c with
  | true => exact h1 rfl
  | false => exact h2 rfl
theorem Yf {b : Bool} {k : Option β} (hb : b = true) (h : Wp k Q) : Wp (need b k) Q := by subst hb; exact h
theorem Hb2 {l : List α} {i : Int} {k : α → Option β} {m : Nat} {x : α} (hi : i = (m : Int)) (hx : l[m]? = some x) (h : Wp (k x) Q) : Wp (Qu l i k) Q := by
  subst hi
  unfold Qu
  rw [Ev (by omega : (0 : Int) ≤ m), cond_true, show (m : Int).toNat = m by omega, hx]
  exact h
theorem Je2 {m : (α → Option β) → Option β} {k : α → Option β} (P : α → Prop) (hm : ∀ K : α → Option β, (∀ a, P a → Wp (K a) Q) → Wp (m K) Q) (hk : ∀ a, P a → Wp (k a) Q) : Wp (jp m k) Q := hm k hk
theorem Hbb {i : Int} {n m : Nat} {Q : Nat → Prop} (hi : i = (m : Int)) (hm : m ≤ n) (h : Q m) : Wp (Rj i n) Q := by
  subst hi
  unfold Rj
  rw [Ev (by omega : (0 : Int) ≤ m), show (m : Int).toNat = m by omega, Ev hm]
  exact Jp h
theorem Yg (I : List α → σ → Prop) {b : α → Nat → σ → (σ → Option β) → Option β} {kx : σ → Option β} {xs : List α} {s : σ} (h0 : I [] s)
    (hb : ∀ pre x post s nx, xs = pre ++ x :: post → I pre s → (∀ s', I (pre ++ [x]) s' → Wp (nx s') Q) → Wp (b x pre.length s nx) Q) (hk : ∀ s, I xs s → Wp (kx s) Q) : Wp (each b kx xs 0 s) Q := by
  have key : ∀ (post pre : List α) (s : σ), xs = pre ++ post → I pre s → Wp (each b kx post pre.length s) Q := by
    intro post
    induction post with
    | nil => intro pre s e hi; rw [List.append_nil] at e; subst e; exact hk s hi
    | cons x post ih =>
      intro pre s e hi
      rw [each]
      refine hb pre x post s _ e hi (fun s' h1 => ?_)
      have := ih (pre ++ [x]) s' (by rw [e]; simp) h1
      rw [Ki, Kj] at this
      exact this
  exact key xs [] s rfl h0
theorem J31 (I : Nat → σ → Prop) {b : Nat → σ → (σ → Option β) → Option β} {kx : σ → Option β} {n : Nat} {s : σ} (h0 : I 0 s)
    (hb : ∀ i s nx, i < n → I i s → (∀ s', I (i + 1) s' → Wp (nx s') Q) → Wp (b i s nx) Q) (hk : ∀ s, I n s → Wp (kx s) Q) : Wp (upto b kx n 0 s) Q := by
  have key : ∀ (m i : Nat) (s : σ), i + m = n → I i s → Wp (upto b kx m i s) Q := by
    intro m
    induction m with
    | zero => intro i s e hi; have e : i = n := by omega
              subst e; exact hk s hi
    | succ m ih =>
      intro i s e hi
      rw [upto]
      exact hb i s _ (by omega) hi (fun s' h1 => ih (i + 1) s' (by omega) h1)
  exact key n 0 s (by omega) h0
theorem G48 {m : Option β} {r : β} (h : Wp m (· = r)) : m = some r := by
  obtain ⟨x, e, rfl⟩ := h; exact e
end

set_option maxRecDepth 100000
set_option linter.unusedVariables false
open Go.RowKit

theorem G86 {n k:Nat} (hn:n≤10000001) (hk:k≤1000):decide (n*k≤140737488355328∧n≤maxLen)=true:=by
 refine Ev ⟨?_,by unfold maxLen; omega⟩
 exact Nat.le_trans (Nat.mul_le_mul hn hk) (by omega)
theorem Qb6 {n k:Nat} (hn:n≤10000001) (hk:k≤1000):decide (k*n≤281474976710656∧n≤maxLen)=true:=by
 refine Ev ⟨?_,by unfold maxLen; omega⟩
 exact Nat.le_trans (Nat.mul_le_mul hk hn) (by omega)
theorem Q49 {n:Nat} {z:Int} (h:z=(n:Int)):Ha3 z=some n:=by
 subst h
 unfold Ha3
 rw [Ev (by omega:(0:Int)≤(n:Int))]
 simp
section generic
variable {α β:Type}
theorem Gf7 {x:α} {k:α→Option β}:bnd (some x) k=k x:=rfl
def marks (mv:Nat→α):List α:=(List.range 12).map mv
theorem He0 {mv:Nat→α} {i:Nat} (h:i < 12):(marks mv)[i]? = some (mv i):=by
 unfold marks
 rw [Kf,List.getElem?_range h]; rfl
theorem H89 {mv:Nat→α}:(marks mv).length=12:=by simp [marks]
theorem Jc3 {mv:Nat→α} {i:Nat} (h:i < 12):(marks mv).take (i+1)=(marks mv).take i++[mv i]:=by
 rw [List.take_add_one,He0 h]; rfl
theorem J6c {mk:Int→Option β} {mv:Nat→β} (of:β→α) (h0:∀ i:Nat,i < 12→mk (i:Int)=some (mv i)) {by_:Nat} (h1:by_≤1000) {n:Nat} {s0:List α} (hn:s0.length=n) (hl:n≤1048576) :
  (need (decide ((12:Int)≤9223372036854775807)) <| upto (fun i (s:List α) nx=>bnd (mk (i:Int)) fun r=>need (decide ((s.length+[of r].length)*by_≤140737488355328∧s.length+[of r].length≤maxLen)) <| nx (s++[of r])) (fun s=>bnd (Rj (n:Int) s.length) fun m=>some (s.take m,s.drop m)) (12:Int).toNat 0 s0)=some (s0,(marks mv).map of):=by
 refine G48 (Yf rfl ?_)
 refine J31 (fun i s=>s=s0++((marks mv).map of).take i) (by simp) (fun i s nx hi hI h2=>?_) (fun s hI=>?_)
 ·have hi:i < 12:=hi
  subst hI
  have h4:(s0++((marks mv).map of).take i).length≤n+12:=by
   rw [Ki,List.length_take]; omega
  refine Ja (h0 i hi) (Yf (G86 (by rw [Kj]; omega) h1) (h2 _ ?_))
  rw [← List.map_take,← List.map_take,Jc3 hi,List.map_append,List.append_assoc]
  rfl
 ·have h3:(12:Int).toNat=12:=rfl
  rw [h3,List.take_of_length_le (by rw [Kn,H89]; omega)] at hI
  subst hI
  refine J32 (Hbb (m:=n) rfl (by rw [Ki]; omega) (Jp ?_))
  rw [← hn,List.take_left,List.drop_left]
theorem Q4e {mk:Int→Option α} {mv:Nat→α} (h1:∀ i:Nat,i < 12→mk (i:Int)=some (mv i)) {by_:Nat} (h0:by_≤1000) {l:List α} (hl:l.length≤1048576) :
  (chk ((l.length:Int)+12) fun v3=>bnd (Ha3 v3) fun m4=>need (decide (by_*m4≤281474976710656∧m4≤maxLen)) <| need (decide ((([]:List α).length+l.length)*by_≤140737488355328∧([]:List α).length+l.length≤maxLen)) <|
   need (decide ((12:Int)≤9223372036854775807)) <| upto (fun i (s:List α) nx=>bnd (mk (i:Int)) fun r=>need (decide ((s.length+[r].length)*by_≤140737488355328∧s.length+[r].length≤maxLen)) <| nx (s++[r])) (fun s=>bnd (Rj (l.length:Int) s.length) fun m=>some (s.take m,s.drop m)) (12:Int).toNat 0 (([]:List α)++l))=some (l,marks mv):=by
 refine G48 (G5c ⟨by omega,by omega⟩ (Ja (Q49 (n:=l.length+12) (by omega)) (Yf (Qb6 (by omega) h0) (Yf (G86 (by rw [List.length_nil]; omega) h0) ⟨_,J6c (fun x=>x) h1 h0 (s0:=([]:List α)++l) (n:=l.length) (by simp) hl,?_⟩))))
 rw [List.map_id'',List.nil_append]
 exact fun _=>rfl
theorem Jc5 {lx:β→Option α} {lv:β→α} {mk:Int→Option β} {mv:Nat→β} (of:β→α) (h1:∀ i:Nat,i < 12→mk (i:Int)=some (mv i)) {by_:Nat} (h0:by_≤1000) {l:List β} (h2:∀ x∈l,lx x=some (lv x)) (hl:l.length≤1048576) :
  (chk ((l.length:Int)+12) fun v3=>bnd (Ha3 v3) fun m4=>need (decide (by_*m4≤281474976710656∧m4≤maxLen)) <|
   each (fun y (i:Nat) (s:List α) nx=>bnd (lx y) fun r=>need (decide ((s.length+[r].length)*by_≤140737488355328∧s.length+[r].length≤maxLen)) <| nx (s++[r]))
   (fun(s0:List α)=>need (decide ((12:Int)≤9223372036854775807)) <| upto (fun i (s:List α) nx=>bnd (mk (i:Int)) fun r=>need (decide ((s.length+[of r].length)*by_≤140737488355328∧s.length+[of r].length≤maxLen)) <| nx (s++[of r])) (fun s=>bnd (Rj (l.length:Int) s.length) fun m=>some (s.take m,s.drop m)) (12:Int).toNat 0 s0) l 0 [])=some (l.map lv,(marks mv).map of):=by
 refine G48 (G5c ⟨by omega,by omega⟩ (Ja (Q49 (n:=l.length+12) (by omega)) (Yf (Qb6 (by omega) h0) ?_)))
 refine Yg (fun pre s=>s=pre.map lv) rfl (fun pre y post s nx e hI h3=>?_) (fun s hI=>?_)
 ·subst hI
  have hp:pre.length < l.length:=by rw [e]; simp
  refine Ja (h2 y (by rw [e]; simp)) (Yf (G86 (by rw [Kj,Kn]; omega) h0) (h3 _ ?_))
  rw [List.map_append]; rfl
 ·subst hI
  exact⟨_,J6c of h1 h0 (by simp) hl,rfl⟩
theorem Jf4 [Inhabited α] [Inhabited β] {mk:Int→Option β} {mv:Nat→β} (h3:∀ i:Nat,i < 12→mk (i:Int)=some (mv i)) {l:List β} (hl:l.length≤1048576) {xs:List α} {ys:List α} (hx:xs.length=l.length) (hy:ys.length=12)
  {body:α→Nat→Unit→(Unit→Option Bool)→Option Bool}
  (h1:∀ (i:Nat) y z nx,i < l.length→xs[i]? = some y→l[i]? = some z→body y i () nx=nx ())
  (h2:∀ (i:Nat) y nx,i < 12→ys[i]? = some y→body y (l.length+i) () nx=nx ()) :
  (bif decide ((((xs,ys):Ln α).1.length:Int)≠(l.length:Int)) then some false else (chk ((l.length:Int)+12) fun v6=>bnd (Rj v6 (((xs,ys):Ln α).1++((xs,ys):Ln α).2).length) fun m7=>each body (fun(_:Unit)=>some true) ((((xs,ys):Ln α).1++((xs,ys):Ln α).2).take m7) 0 ()))=some true:=by
 have hd:decide ((((xs,ys):Ln α).1.length:Int)≠(l.length:Int))=false:=Ew (by simp only [ne_eq,Decidable.not_not]; omega)
 rw [hd,cond_false]
 refine G48 (G5c ⟨by omega,by omega⟩ (J32 (Hbb (m:=l.length+12) (by omega) (by simp only [Ki]; omega) ?_)))
 have ht:(((xs,ys):Ln α).1++((xs,ys):Ln α).2).take (l.length+12)=xs++ys:=List.take_of_length_le (by simp only [Ki]; omega)
 rw [ht]
 refine Yg (fun _ _=>True) trivial (fun pre y post s nx e _ h0=>?_) (fun s _=>Jp rfl)
 have hg:(xs++ys)[pre.length]? = some y:=by rw [e]; simp
 rcases Ep pre.length l.length with h | h
 ·rw [Kd (by omega)] at hg
  rw [h1 pre.length y _ nx h hg (Ey h)]
  exact h0 _ trivial
 ·rw [Kc (by omega)] at hg
  have hp:pre.length < l.length+12:=by
   have:=congrArg List.length e
   simp only [Ki,Ke] at this
   omega
  have:=h2 (pre.length - l.length) y nx (by omega) (by rw [← hx]; exact hg)
  rw [show l.length+(pre.length - l.length)=pre.length by omega] at this
  rw [this]
  exact h0 _ trivial
theorem Q50 [DecidableEq α] [Inhabited α] {mk:Int→Option α} {mv:Nat→α} (h0:∀ i:Nat,i < 12→mk (i:Int)=some (mv i)) {l:List α} (hl:l.length≤1048576) :
  (bif decide ((((l,marks mv):Ln α).1.length:Int)≠(l.length:Int)) then some false else (chk ((l.length:Int)+12) fun v6=>bnd (Rj v6 (((l,marks mv):Ln α).1++((l,marks mv):Ln α).2).length) fun m7=>
   each (fun y29 i29 (s29:Unit) nx29=>
    bnd (bif decide ((i29:Int) < (l.length:Int)) then Qu l (i29:Int) some else some default) fun y34=>
    bnd (bif ((!((decide ((i29:Int) < (l.length:Int)))&&(!(decide (y29=y34)))))&&(decide ((l.length:Int)≤(i29:Int)))) then chk ((i29:Int) - (l.length:Int)) some else some 0) fun v35=>
    bnd (bif ((!((decide ((i29:Int) < (l.length:Int)))&&(!(decide (y29=y34)))))&&(decide ((l.length:Int)≤(i29:Int)))) then mk v35 else some default) fun r36=>
    bif (((decide ((i29:Int) < (l.length:Int)))&&(!(decide (y29=y34))))||((decide ((l.length:Int)≤(i29:Int)))&&(!(decide (y29=r36))))) then (some false) else (nx29 ()))
   (fun(_:Unit)=>some true) ((((l,marks mv):Ln α).1++((l,marks mv):Ln α).2).take m7) 0 ()))=some true:=by
 refine Jf4 h0 hl rfl H89 (fun i y z nx hi hy hz=>?_) (fun i y nx hi hy=>?_)
 ·rw [hy] at hz
  cases hz
  have hg:Qu l (i:Int) some=some y:=by
   unfold Qu
   rw [Ev (by omega:(0:Int)≤(i:Int)),cond_true,show (i:Int).toNat=i by omega,hy]; rfl
  rw [Ev (by omega:(i:Int) < (l.length:Int)),cond_true,hg]
  simp only [bnd,decide_true,Bool.not_true,Bool.and_false,Bool.not_false,Bool.true_and,Bool.false_or]
  rw [Ew (by omega:¬ (l.length:Int)≤(i:Int))]
  rfl
 ·rw [He0 hi] at hy
  cases hy
  have hc:((l.length+i:Nat):Int) - (l.length:Int)=(i:Int):=by omega
  rw [Ew (by omega:¬ ((l.length+i:Nat):Int) < (l.length:Int)),cond_false,hc,Ev (by omega:(l.length:Int)≤((l.length+i:Nat):Int))]
  have hk:chk (i:Int) some=some (i:Int):=G48 (G5c ⟨by omega,by omega⟩ (Jp rfl))
  simp only [bnd,Bool.false_and,Bool.not_false,Bool.and_self,cond_true,hk,h0 i hi,decide_true,Bool.not_true,Bool.and_false,Bool.or_self,cond_false]
theorem Jc7 [Inhabited α] [Inhabited β] {mk:Int→Option β} {mv:Nat→β} (h2:∀ i:Nat,i < 12→mk (i:Int)=some (mv i)) {lv of:β→α} {pl:α→β} {keep:α→β→Option Bool} {same:β→β→Option Bool} {l:List β} (hl:l.length≤1048576)
  (h0:∀ x∈l,keep (lv x) x=some true) (h1:∀ i:Nat,i < 12→same (pl (of (mv i))) (mv i)=some true) :
  (bif decide ((((l.map lv,(marks mv).map of):Ln α).1.length:Int)≠(l.length:Int)) then some false else (chk ((l.length:Int)+12) fun v6=>bnd (Rj v6 (((l.map lv,(marks mv).map of):Ln α).1++((l.map lv,(marks mv).map of):Ln α).2).length) fun m7=>
   each (fun y33 i33 (s33:Unit) nx33=>
    bnd (bif decide ((i33:Int) < (l.length:Int)) then Qu l (i33:Int) some else some default) fun y38=>
    bnd (bif decide ((i33:Int) < (l.length:Int)) then keep y33 y38 else some default) fun r39=>
    bnd (bif ((!((decide ((i33:Int) < (l.length:Int)))&&(!r39)))&&(decide ((l.length:Int)≤(i33:Int)))) then chk ((i33:Int) - (l.length:Int)) some else some 0) fun v40=>
    bnd (bif ((!((decide ((i33:Int) < (l.length:Int)))&&(!r39)))&&(decide ((l.length:Int)≤(i33:Int)))) then mk v40 else some default) fun r41=>
    bnd (bif ((!((decide ((i33:Int) < (l.length:Int)))&&(!r39)))&&(decide ((l.length:Int)≤(i33:Int)))) then same (pl y33) r41 else some default) fun r42=>
    bif (((decide ((i33:Int) < (l.length:Int)))&&(!r39))||((decide ((l.length:Int)≤(i33:Int)))&&(!r42))) then (some false) else (nx33 ()))
   (fun(_:Unit)=>some true) ((((l.map lv,(marks mv).map of):Ln α).1++((l.map lv,(marks mv).map of):Ln α).2).take m7) 0 ()))=some true:=by
 refine Jf4 h2 hl (by simp) (by simp [H89]) (fun i y z nx hi hy hz=>?_) (fun i y nx hi hy=>?_)
 ·rw [Kf,hz] at hy
  cases hy
  have hg:Qu l (i:Int) some=some z:=by
   unfold Qu
   rw [Ev (by omega:(0:Int)≤(i:Int)),cond_true,show (i:Int).toNat=i by omega,hz]; rfl
  rw [Ev (by omega:(i:Int) < (l.length:Int)),cond_true,hg]
  simp only [bnd,cond_true,h0 z (K0 hz),Bool.not_true,Bool.and_false,Bool.not_false,Bool.true_and,Bool.false_or]
  rw [Ew (by omega:¬ (l.length:Int)≤(i:Int))]
  rfl
 ·rw [Kf,He0 hi] at hy
  cases hy
  have hc:((l.length+i:Nat):Int) - (l.length:Int)=(i:Int):=by omega
  rw [Ew (by omega:¬ ((l.length+i:Nat):Int) < (l.length:Int)),cond_false,hc,Ev (by omega:(l.length:Int)≤((l.length+i:Nat):Int))]
  have hk:chk (i:Int) some=some (i:Int):=G48 (G5c ⟨by omega,by omega⟩ (Jp rfl))
  simp only [bnd,cond_false,Bool.false_and,Bool.not_false,Bool.and_self,cond_true,hk,h2 i hi,h1 i hi,Bool.not_true,Bool.and_false,Bool.or_self]
theorem Je7 {l:List α} {body:α→Nat→Unit→(Unit→Option Bool)→Option Bool} (h:∀ (i:Nat) y nx,l[i]? = some y→body y i () nx=nx ()) :
  (bif decide ((l.length:Int)≠(l.length:Int)) then some false else each body (fun(_:Unit)=>some true) l 0 ())=some true:=by
 rw [Ew (by simp),cond_false]
 refine G48 (Yg (fun _ _=>True) trivial (fun pre y post s nx e _ h0=>?_) (fun s _=>Jp rfl))
 rw [h pre.length y nx (by rw [e]; simp)]
 exact h0 _ trivial
theorem J3c {γ:Type} {l:List α} {i:Nat} {y:α} (h:l[i]? = some y) (k:α→Option γ):Qu l (i:Int) k=k y:=by
 unfold Qu
 rw [Ev (by omega:(0:Int)≤(i:Int)),cond_true,show (i:Int).toNat=i by omega,h]; rfl
end generic

def mkN (i:Nat):Int:=8000024+(i:Int)
theorem mark_eq (i:Nat) (h:i < 12):Qq 1 (i:Int)=some (mkN i):=by
 refine G48 ?_
 unfold Qq mkN
 exact G5c ⟨by decide,by decide⟩ (G5c ⟨by decide,by decide⟩ (G5c ⟨by omega,by omega⟩ (Jp (by omega))))
theorem Hab {l:List Int} (hl:l.length≤1048576):Jh l=some (l,marks mkN):=by
 unfold Jh
 exact Q4e mark_eq (by omega) hl
theorem Hac {l:List Int} (hl:l.length≤1048576):Ji (l,marks mkN) l=some true:=by
 unfold Ji
 exact Q50 mark_eq hl
theorem J0c (l:List Int):Jv l l=some true:=by
 unfold Jv
 refine Je7 (fun i y nx hy=>?_)
 rw [J3c hy,Ew (by simp),cond_false]
theorem H6a (i:Nat) (h:i < 12):Q7 1 (i:Int)=some [mkN i]:=by
 unfold Q7
 rw [mark_eq i h]; rfl
def J24 (l:List Int):Ln Int:=(l,marks mkN)
theorem J11 {l:List (List Int)} (hl:l.length≤1048576) (hs:∀ s∈l,s.length≤1048576):Qo l=some (l.map J24,(marks fun i=>[mkN i]).map fun x=>(x,([]:List Int))):=by
 unfold Qo
 exact Jc5 (lx:=Jh) (fun x=>(x,([]:List Int))) H6a (by omega) (fun x hx=>Hab (hs x hx)) hl
theorem J12 {l:List (List Int)} (hl:l.length≤1048576) (hs:∀ s∈l,s.length≤1048576):Qp (l.map J24,(marks fun i=>[mkN i]).map fun x=>(x,([]:List Int))) l=some true:=by
 unfold Qp
 exact Jc7 (pl:=fun e:Ln Int=>e.1) (keep:=Ji) (same:=Jv) H6a hl (fun x hx=>Hac (hs x hx)) (fun i hi=>J0c _)
theorem Q1a (l:List (List Int)):(l.map J24).map Prod.fst=l:=by
 rw [List.map_map]
 exact(List.map_congr_left (fun _ _=>rfl)).trans (List.map_id l)
theorem Qde {y:Gp} (hl:y.Stacks.length≤1048576) (hs:∀ s∈y.Stacks,s.length≤1048576):Qe y=some ⟨(y.Stacks.map J24,(marks fun i=>[mkN i]).map fun x=>(x,([]:List Int))),y.Height⟩:=by
 unfold Qe
 rw [J11 hl hs]; rfl
theorem Q98 {y:Gp} (hl:y.Stacks.length≤1048576) (hs:∀ s∈y.Stacks,s.length≤1048576):Qa ⟨(y.Stacks.map J24,(marks fun i=>[mkN i]).map fun x=>(x,([]:List Int))),y.Height⟩ y=some true:=by
 unfold Qa
 rw [Ev rfl,cond_true,J12 hl hs]; rfl

section
variable {α β σ:Type}
theorem Hec (P:Option β→Prop) (I:List α→σ→Prop) {b:α→Nat→σ→(σ→Option β)→Option β} {kx:σ→Option β} {xs:List α} {s:σ} (h0:I [] s)
  (hb:∀ pre x post s nx,xs=pre++x::post→I pre s→(∀ s',I (pre++[x]) s'→P (nx s'))→P (b x pre.length s nx)) (hk:∀ s,I xs s→P (kx s)):P (each b kx xs 0 s):=by
 have key:∀ (post pre:List α) (s:σ),xs=pre++post→I pre s→P (each b kx post pre.length s):=by
  intro post
  induction post with
  | nil=>intro pre s e hi; rw [List.append_nil] at e; subst e; exact hk s hi
  | cons x post ih=>
   intro pre s e hi
   rw [each]
   refine hb pre x post s _ e hi (fun s' h1=>?_)
   have:=ih (pre++[x]) s' (by rw [e]; simp) h1
   rw [Ki,Kj] at this
   exact this
 exact key xs [] s rfl h0
end

/-! ### Ranks -/
def rnk (order:List Int) (b:Int):Nat:=order.idxOf b
theorem Qcd (order:List Int) (b:Int):rnk order b≤order.length:=List.idxOf_le_length
theorem Jcb {x v:Int} (l:List Int) (h:x≠v):(x::l).idxOf v=l.idxOf v+1:=by
 rw [List.idxOf_cons]
 have:(x==v)=false:=by simpa using h
 rw [this]; rfl
theorem J6d (v:Int):∀ (l:List Int) (i:Nat),each (fun(y18:Int) i18 (s18:Unit) nx18=>bif decide (v=y18) then (some (i18:Int)) else (nx18 ())) (fun(s18:Unit)=>some (-1)) l i ()=some (if v∈l then ((i+l.idxOf v:Nat):Int) else -1)
 | [],i=>by simp [each]
 | x::l,i=>by
  rw [each]
  by_cases h:v=x
  ·subst h
   rw [Ev rfl,cond_true,if_pos (List.mem_cons_self ..),List.idxOf_cons_self]; rfl
  ·rw [Ew h,cond_false,J6d v l (i+1),Jcb l (fun e=>h e.symm)]
   simp only [Kr,h,false_or]
   split <;> simp <;> omega
theorem J7c (l:List Int) (v:Int):Qv l v=some (if v∈l then (l.idxOf v:Int) else -1):=by
 unfold Qv
 rw [J6d v l 0]; simp
theorem Q96 (order:List Int) (b:Int):Qh order b=some (rnk order b:Int):=by
 unfold Qh
 rw [J7c]
 unfold rnk
 simp only [bnd]
 by_cases h:b∈order
 ·rw [if_pos h,Ev (by omega:(0:Int)≤(order.idxOf b:Int)),cond_true]
 ·rw [if_neg h,Ew (by omega),cond_false,List.idxOf_eq_length h]
theorem Jea (b:Int) (n:Nat):∀ (l:List Int) (i:Nat),i+l.length=n→each (fun(y17:Int) i17 (s17:Unit) nx17=>bif decide (y17=b) then (some (i17:Int)) else (nx17 ())) (fun(s17:Unit)=>some (n:Int)) l i ()=some ((i+l.idxOf b:Nat):Int)
 | [],i,h=>by simp only [each,List.idxOf_nil]; simp at h; subst h; rfl
 | x::l,i,h=>by
  rw [each]
  by_cases e:x=b
  ·subst e
   rw [Ev rfl,cond_true,List.idxOf_cons_self]; rfl
  ·rw [Ew e,cond_false,Jea b n l (i+1) (by simp at h; omega),Jcb l e]
   congr 2; omega
theorem Hf9 (order:List Int) (b:Int):J5 order b=some (rnk order b:Int):=by
 unfold J5
 rw [Jea b order.length order 0 (by simp)]
 simp [rnk]

/-! ### A right yard, a right order -/
structure Qi (ss:List (List Int)) (H:Int):Prop where
 low:1≤H
 high:H≤6
 some_:1≤ss.length
 most:ss.length≤30
 fit:∀ s∈ss,(s.length:Int)≤H
 nodup:ss.flatten.Nodup
 ids:∀ b∈ss.flatten,1≤b∧b≤999999
theorem Qi.iff {ss:List (List Int)} {H:Int}:Qi ss H ↔ (1≤H∧H≤6∧1≤ss.length∧ss.length≤30)∧(∀ s∈ss,(s.length:Int)≤H)∧ss.flatten.Nodup∧∀ b∈ss.flatten,1≤b∧b≤999999:=
 ⟨fun h=>⟨⟨h.low,h.high,h.some_,h.most⟩,h.fit,h.nodup,h.ids⟩,fun h=>⟨h.1.1,h.1.2.1,h.1.2.2.1,h.1.2.2.2,h.2.1,h.2.2.1,h.2.2.2⟩⟩
instance {ss:List (List Int)} {H:Int}:Decidable (Qi ss H):=decidable_of_iff _ Qi.iff.symm
theorem Ha7 {ss:List (List Int)} {k:Nat} (h:∀ s∈ss,s.length≤k):ss.flatten.length≤ss.length*k:=by
 induction ss with
 | nil=>simp
 | cons s r ih=>
  rw [List.flatten_cons,Ki,Ke]
  have h1:=h s (List.mem_cons_self ..)
  have h2:=ih (fun x hx=>h x (List.mem_cons_of_mem _ hx))
  rw [Nat.add_mul,Nat.one_mul]; omega
theorem Qi.len {ss:List (List Int)} {H:Int} (h:Qi ss H):∀ s∈ss,s.length≤6:=fun s hs=>by
 have:=h.fit s hs; have:=h.high; omega
theorem Qi.all {ss:List (List Int)} {H:Int} (h:Qi ss H):ss.flatten.length≤180:=by
 have:=Ha7 h.len
 have:=h.most
 omega

section
variable {κ ν:Type} [DecidableEq κ]
theorem Je3 (m:Hj κ ν) (a:κ) (v:ν):Hj.Hf (Hj.put m a v)=G8d (Hj.Hf m) a v:=J16 m.l a v
theorem J8c (m:Hj κ ν) (a b:κ) (v z:ν):Hj.get (Hj.put m a v) b z=if a=b then v else Hj.get m b z:=by
 unfold Hj.get
 rw [Je3,H88]
 split <;> rfl
theorem Q3d (m:Hj κ ν) (a b:κ) (v:ν):Hj.has (Hj.put m a v) b=(decide (a=b)||Hj.has m b):=by
 unfold Hj.has
 rw [Je3,← Gb1,← Gb1,H88]
 by_cases h:a=b <;> simp [h]
end

/-! ### The program's Right -/
theorem H0f (ss:List (List Int)) (H:Int):Z8 ⟨ss,H⟩=some (decide (Qi ss H)):=by
 refine G48 ?_
 unfold Z8
 refine Zb (fun h=>Jp ?_) (fun h=>?_)
 ·simp only [Kt,Km] at h
  refine(Ew fun hr=>?_).symm
  have:=hr.low; have:=hr.high; have:=hr.some_; have:=hr.most
  omega
 simp only [Ku,decide_eq_false_iff_not] at h
 have h8:1≤H∧H≤6∧1≤ss.length∧ss.length≤30:=by omega
 refine Yg (fun pre s=>(∀ x∈pre,(x.length:Int)≤H)∧pre.flatten.Nodup∧(∀ b∈pre.flatten,1≤b∧b≤999999)∧∀ b,Hj.get s b 0=if b∈pre.flatten then 1 else 0) ⟨by simp,by simp,by simp,fun b=>by simp; rfl⟩ (fun pre x post s nx e hI h9=>?_) (fun s hI=>Jp ?_)
 ·have e:ss=pre++x::post:=e
  obtain⟨h1,h2,h3,h4⟩:=hI
  refine Zb (fun hx=>Jp ?_) (fun hx=>?_)
  ·refine(Ew fun hr=>?_).symm
   have:=hr.fit x (by rw [e]; simp)
   have hx:H < (x.length:Int):=Es hx
   omega
  have hx:¬ H < (x.length:Int):=Eu hx
  refine Yg (fun pr s=>(pre.flatten++pr).Nodup∧(∀ b∈pre.flatten++pr,1≤b∧b≤999999)∧∀ b,Hj.get s b 0=if b∈pre.flatten++pr then 1 else 0) ⟨by simpa using h2,by simpa using h3,by simpa using h4⟩ (fun pr b po s nx' e' h5 h7=>?_) (fun s h5=>h9 s ?_)
  ·obtain⟨g1,g2,g3⟩:=h5
   have hm:b∈ss.flatten:=by
    rw [e,e',List.flatten_append,List.flatten_cons]; simp
   refine Ja rfl ?_
   rw [g3 b]
   refine G5c (by split <;> omega) ?_
   by_cases hb:1≤b∧b≤999999
   ·have hc:(!(decide (b < 1)||decide (999999 < b)))=true:=by simp; omega
    rw [hc,cond_true,J8c,if_pos rfl]
    refine Ja rfl (Zb (fun hf=>Jp ?_) (fun hf=>h7 _ ?_))
    ·refine(Ew fun hr=>?_).symm
     simp only [Kt,Km] at hf
     have h0:b∈pre.flatten++pr:=by
      refine Classical.byContradiction fun hn=>?_
      rw [if_neg hn] at hf; omega
     have h6:=hr.nodup
     rw [e,e',List.flatten_append,List.flatten_cons,List.append_assoc,← List.append_assoc] at h6
     have:=(List.nodup_append.1 h6).2.2 b h0 b (by simp)
     exact this rfl
    ·simp only [Ku,decide_eq_false_iff_not] at hf
     have h0:b ∉ pre.flatten++pr:=fun hn=>by rw [if_pos hn] at hf; omega
     rw [← List.append_assoc]
     refine⟨List.nodup_append.2 ⟨g1,by simp,fun a ha c hc=>?_⟩,fun a ha=>?_,fun a=>?_⟩
     ·rw [Kq] at hc; subst hc; exact fun e=>h0 (e ▸ ha)
     ·rcases Ko.1 ha with ha | ha
      ·exact g2 a ha
      ·rw [Kq] at ha; subst ha; exact hb
     ·rw [J8c,g3 a]
      by_cases ea:b=a
      ·subst ea; rw [if_pos rfl]; simp [h0]
      ·rw [if_neg ea]; simp [Ne.symm ea]
   ·have hc:(!(decide (b < 1)||decide (999999 < b)))=false:=by
     simp only [Bool.not_eq_false',Kt,Km]; omega
    rw [hc,cond_false]
    refine Ja rfl (Zb (fun hf=>Jp ?_) (fun hf=>?_))
    ·exact(Ew fun hr=>hb (hr.ids b hm)).symm
    ·simp only [Ku,decide_eq_false_iff_not] at hf
     omega
  ·rw [List.flatten_append,List.flatten_singleton]
   refine⟨fun y hy=>?_,h5⟩
   rcases Ko.1 hy with hy | hy
   ·exact h1 y hy
   ·rw [Kq] at hy; subst hy; omega
 ·exact(Ev (Qi.iff.2 ⟨h8,hI.1,hI.2.1,hI.2.2.1⟩)).symm

theorem Q69 {ss:List (List Int)} {H:Int} (h:ss.flatten.length≤10000000):Qj ⟨ss,H⟩=some ss.flatten:=by
 refine G48 ?_
 unfold Qj
 refine Yg (fun pre s=>s=pre.flatten) rfl (fun pre x post s nx e hI h0=>?_) (fun s hI=>Jp hI)
 have e:ss=pre++x::post:=e
 subst hI
 refine Yf (G86 ?_ (by decide)) (h0 _ (by simp))
 rw [e,List.flatten_append,List.flatten_cons,Ki,Ki] at h
 omega

theorem H93 (F:Nat) (ss:List (List Int)) (H:Int):Q5 F ⟨ss,H⟩=some (decide (Qi ss H)):=by
 refine G48 ?_
 unfold Q5
 refine Zb (fun h=>Jp ?_) (fun h=>?_)
 ·simp only [Kt,Km] at h
  refine(Ew fun hr=>?_).symm
  have:=hr.low; have:=hr.high; have:=hr.some_; have:=hr.most
  omega
 simp only [Ku,decide_eq_false_iff_not] at h
 have h3:1≤H∧H≤6∧1≤ss.length∧ss.length≤30:=by omega
 refine Yg (fun pre s=>∀ x∈pre,(x.length:Int)≤H) (by simp) (fun pre x post s nx e hI h0=>?_) (fun s hI=>?_)
 ·have e:ss=pre++x::post:=e
  refine Zb (fun hx=>Jp ?_) (fun hx=>h0 _ fun y hy=>?_)
  ·refine(Ew fun hr=>?_).symm
   have:=hr.fit x (by rw [e]; simp)
   have hx:H < (x.length:Int):=Es hx
   omega
  ·have hx:¬ H < (x.length:Int):=Eu hx
   rcases Ko.1 hy with hy | hy
   ·exact hI y hy
   ·rw [Kq] at hy; subst hy; omega
 ·have hI:∀ x∈ss,(x.length:Int)≤H:=hI
  have hl:ss.flatten.length≤180:=by
   have:=Ha7 (ss:=ss) (k:=6) (fun x hx=>by have:=hI x hx; omega)
   omega
  refine Ja (Q69 (by omega)) ?_
  refine Yg (fun pre s=>pre.Nodup∧∀ b∈pre,1≤b∧b≤999999) ⟨by simp,by simp⟩ (fun pre b post s nx e hJ h0=>?_) (fun s hJ=>Jp ?_)
  ·have hm:b∈ss.flatten:=by rw [e]; simp
   refine Zb (fun hb=>Jp ?_) (fun hb=>?_)
   ·simp only [Kt,Km] at hb
    refine(Ew fun hr=>?_).symm
    have:=hr.ids b hm; omega
   ·simp only [Ku,decide_eq_false_iff_not] at hb
    have hp:pre.length < 180:=by
     have:=congrArg List.length e
     simp only [Ki,Ke] at this; omega
    refine Yf (Ev (by omega)) ?_
    have ht:((pre.length:Int)).toNat=pre.length:=by omega
    rw [ht]
    refine J31 (fun i s=>b ∉ pre.take i) (by simp) (fun i s nx' hi hK h2=>?_) (fun s hK=>h0 _ ?_)
    ·refine Hb2 (m:=i) rfl (x:=pre[i]) (by rw [e,Kd hi,Ey hi]) ?_
     refine Zb (fun hc=>Jp ?_) (fun hc=>h2 _ ?_)
     ·have hc:=Es hc
      refine(Ew fun hr=>?_).symm
      have h1:=hr.nodup
      rw [e] at h1
      exact(List.nodup_append.1 h1).2.2 b (by rw [← hc]; exact List.getElem_mem hi) b (by simp) rfl
     ·have hc:=Eu hc
      rw [List.take_add_one,Ey hi,Ko]
      simp only [Option.toList_some,Kq]
      exact fun h=>h.elim hK (fun h=>hc h.symm)
    ·rw [List.take_length] at hK
     refine⟨List.nodup_append.2 ⟨hJ.1,by simp,fun a ha c hc=>?_⟩,fun a ha=>?_⟩
     ·rw [Kq] at hc; subst hc; exact fun e=>hK (e ▸ ha)
     ·rcases Ko.1 ha with ha | ha
      ·exact hJ.2 a ha
      ·rw [Kq] at ha; subst ha; omega
  ·exact(Ev (Qi.iff.2 ⟨h3,hI,hJ.1,hJ.2⟩)).symm

/-! ### Find -/
def Gc9 (b:Int):List (List Int)→Nat→Int×Int×Bool
 | [],_=>(0,0,false)
 | s::r,i=>if b∈s then ((i:Int),(s.idxOf b:Int),true) else Gc9 b r (i+1)
theorem Jf8 (b:Int):∀ (ss:List (List Int)) (i:Nat),each (fun(y22:List Int) i22 (s22:Unit) nx22=>bnd (Qv y22 b) fun r28=>bif decide (0≤r28) then (some ((i22:Int),r28,true)) else (nx22 ())) (fun(s22:Unit)=>some ((0:Int),(0:Int),false)) ss i ()=some (Gc9 b ss i)
 | [],i=>rfl
 | s::r,i=>by
  rw [each,J7c,Gc9,Gf7]
  by_cases h:b∈s
  ·rw [if_pos h,if_pos h,Ev (by omega),cond_true]
  ·rw [if_neg h,if_neg h,Ew (by omega),cond_false,Jf8 b r (i+1)]
theorem J48 (ss:List (List Int)) (H b:Int):G1c ⟨ss,H⟩ b=some (Gc9 b ss 0):=by
 unfold G1c
 exact Jf8 b ss 0
theorem J61 {β:Type} (b:Int) (z:Nat→Option β) (k:Option β):∀ (s:List Int) (i:Nat),each (fun(y22:Int) i22 (s22:Unit) nx22=>bif decide (y22=b) then z i22 else (nx22 ())) (fun(s22:Unit)=>k) s i ()=if b∈s then z (i+s.idxOf b) else k
 | [],i=>by simp [each]
 | x::l,i=>by
  rw [each]
  by_cases h:x=b
  ·subst h
   rw [Ev rfl,cond_true,if_pos (List.mem_cons_self ..),List.idxOf_cons_self]; rfl
  ·rw [Ew h,cond_false,J61 b z k l (i+1),Jcb l h]
   simp only [Kr,Ne.symm h,false_or]
   split
   ·congr 1; omega
   ·rfl
theorem J1d (b:Int):∀ (ss:List (List Int)) (i:Nat),each (fun(y4:List Int) i4 (s4:Unit) nx4=>each (fun(y22:Int) i22 (s22:Unit) nx22=>bif decide (y22=b) then (some ((i4:Int),(i22:Int),true)) else (nx22 ())) (fun(s22:Unit)=>nx4 ()) y4 0 ()) (fun(s4:Unit)=>some ((0:Int),(0:Int),false)) ss i ()=some (Gc9 b ss i)
 | [],i=>rfl
 | s::r,i=>by
  rw [each,J61 b (fun j=>some ((i:Int),(j:Int),true)),Gc9,J1d b r (i+1)]
  split
  ·simp
  ·rfl
theorem Q59 (F:Nat) (ss:List (List Int)) (H b:Int):Qr F ⟨ss,H⟩ b=some (Gc9 b ss 0):=by
 unfold Qr
 exact J1d b ss 0
theorem H6f (b:Int):∀ (ss:List (List Int)) (i:Nat),(Gc9 b ss i).2.2=decide (b∈ss.flatten)
 | [],i=>by simp [Gc9]
 | s::r,i=>by
  rw [Gc9]
  by_cases h:b∈s
  ·simp [h]
  ·rw [if_neg h,H6f b r (i+1)]; simp [h]

/-! ### Orders -/
structure H48 (ss:List (List Int)) (order:List Int):Prop where
 nodup:order.Nodup
 in_:∀ b∈order,b∈ss.flatten
theorem H48.iff {ss:List (List Int)} {order:List Int}:H48 ss order ↔ order.Nodup∧∀ b∈order,b∈ss.flatten:=⟨fun h=>⟨h.1,h.2⟩,fun h=>⟨h.1,h.2⟩⟩
instance {ss:List (List Int)} {order:List Int}:Decidable (H48 ss order):=decidable_of_iff _ H48.iff.symm
structure G82 (ss:List (List Int)) (H:Int) (order:List Int):Prop where
 y:Qi ss H
 o:H48 ss order
theorem G82.iff {ss:List (List Int)} {H:Int} {order:List Int}:G82 ss H order ↔ Qi ss H∧H48 ss order:=⟨fun h=>⟨h.1,h.2⟩,fun h=>⟨h.1,h.2⟩⟩
instance {ss:List (List Int)} {H:Int} {order:List Int}:Decidable (G82 ss H order):=decidable_of_iff _ G82.iff.symm

theorem J37 {pre post:List Int} {b:Int}:rnk (pre++b::post) b=pre.length ↔ b ∉ pre:=by
 unfold rnk
 rw [List.idxOf_append]
 split
 ·rename_i h
  have:=List.idxOf_lt_length_of_mem h
  exact⟨fun e=>by omega,fun h'=>(h' h).elim⟩
 ·rename_i h
  rw [List.idxOf_cons_self]; simp [h]
theorem Jd2 (F:Nat) (ss:List (List Int)) (H:Int) (order:List Int):Jw F ⟨ss,H⟩ order=some (decide (G82 ss H order)):=by
 refine G48 ?_
 unfold Jw
 refine Ja (H93 F ss H) (Zb (fun h=>Jp ?_) (fun h=>?_))
 ·refine(Ew fun hr=>?_).symm
  simp [hr.y] at h
 have hY:Qi ss H:=by simpa using h
 refine Yg (fun pre s=>pre.Nodup∧∀ b∈pre,b∈ss.flatten) ⟨by simp,by simp⟩ (fun pre b post s nx e hI h1=>?_) (fun s hI=>Jp ?_)
 ·refine Ja (Q59 F ss H b) ?_
  rw [H6f,Hf9]
  by_cases hb:b∈ss.flatten
  ·rw [Ev hb]
   refine Ja (x:=(rnk order b:Int)) rfl (Zb (fun hf=>Jp ?_) (fun hf=>h1 _ ?_))
   ·refine(Ew fun hr=>?_).symm
    have hf:(rnk order b:Int)≠(pre.length:Int):=by simpa using hf
    have h0:=hr.o.nodup
    rw [e] at h0 hf
    have:b∈pre:=Classical.byContradiction fun hn=>hf (by rw [J37.2 hn])
    exact(List.nodup_append.1 h0).2.2 b this b (by simp) rfl
   ·have hf:(rnk order b:Int)=(pre.length:Int):=by simpa using hf
    rw [e] at hf
    have hn:b ∉ pre:=(J37 (post:=post)).1 (by omega)
    refine⟨List.nodup_append.2 ⟨hI.1,by simp,fun a ha c hc=>?_⟩,fun a ha=>?_⟩
    ·rw [Kq] at hc; subst hc; exact fun e=>hn (e ▸ ha)
    ·rcases Ko.1 ha with ha | ha
     ·exact hI.2 a ha
     ·rw [Kq] at ha; subst ha; exact hb
  ·rw [Ew hb]
   exact Ja (x:=default) rfl (Zb (fun _=>Jp (Ew fun hr=>hb (hr.o.in_ b (by rw [e]; simp))).symm) (fun hf=>by simp at hf))
 ·exact(Ev ⟨hY,⟨hI.1,hI.2⟩⟩).symm
end Go.Proofs.Ytokjlondbjdlfaa
