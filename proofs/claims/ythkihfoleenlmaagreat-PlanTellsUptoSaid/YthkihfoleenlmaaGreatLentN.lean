/-
 What a model returns, What the functions return that lend and check arguments.
-/
import Derived.Test.YthkihfoleenlmaaGreatRel
import Derived.Test.YthkihfoleenlmaaGreatXL
namespace Go.Proofs.YthkihfoleenlmaaGreat

section
variable {J β W : Type} {Q : β → Prop}

def Wp (m : Option β) (Q : β → Prop) : Prop := ∃ r, m = some r /\ Q r

theorem Gh {r : β} (h : Q r) : Wp (some r) Q := ⟨r, rfl, h⟩
theorem wp_mono {m : Option β} {Q' : β → Prop} (h : Wp m Q') (hq : ∀ r, Q' r → Q r) : Wp m Q := by
  obtain ⟨r, e, h⟩ := h; exact ⟨r, e, hq r h⟩
theorem Hc {m : Option J} {k : J → Option β} (h : Wp m (fun x => Wp (k x) Q)) : Wp (bnd m k) Q := by
  obtain ⟨x, rfl, h⟩ := h; exact h
theorem Gu {m : Option J} {k : J → Option β} {x : J} (e : m = some x) (h : Wp (k x) Q) : Wp (bnd m k) Q := by subst e; exact h
theorem bY {z : Int} {k : Int → Option β} (h1 : -9223372036854775808 ≤ z /\ z ≤ 9223372036854775807) (h : Wp (k z) Q) : Wp (chk z k) Q := by
  unfold chk H26
  rw [P8 h1.1, P8 h1.2]; exact h
theorem Hq {c : Bool} {x y : Option β} (h1 : c = true → Wp x Q) (h2 : c = false → Wp y Q) : Wp (bif c then x else y) Q := by
  cases c with
  | true => exact h1 rfl
  | false => exact h2 rfl
theorem aJ {b : Bool} {k : Option β} (hb : b = true) (h : Wp k Q) : Wp (need b k) Q := by subst hb; exact h
theorem dO {l : List J} {i : Int} {k : J → Option β} {m : Nat} {x : J} (hi : i = (m : Int)) (hx : l[m]? = some x) (h : Wp (k x) Q) : Wp (Jo l i k) Q := by
  subst hi
  unfold Jo
  rw [P8 (by omega : (0 : Int) ≤ m), cond_true, show (m : Int).toNat = m by omega, hx]
  exact h
theorem oP {m : (J → Option β) → Option β} {k : J → Option β} (P : J → Prop) (hm : ∀ K : J → Option β, (∀ a, P a → Wp (K a) Q) → Wp (m K) Q) (hk : ∀ a, P a → Wp (k a) Q) : Wp (jp m k) Q := hm k hk
theorem vI {i : Int} {n m : Nat} {Q : Nat → Prop} (hi : i = (m : Int)) (hm : m ≤ n) (h : Q m) : Wp (cO i n) Q := by
  subst hi
  unfold cO
  rw [P8 (by omega : (0 : Int) ≤ m), show (m : Int).toNat = m by omega, P8 hm]
  exact Gh h
theorem Q2 (I : List J → W → Prop) {b : J → Nat → W → (W → Option β) → Option β} {kx : W → Option β} {xs : List J} {s : W} (h0 : I [] s)
    (hb : ∀ pre x post s nx, xs = pre ++ x :: post → I pre s → (∀ s', I (pre ++ [x]) s' → Wp (nx s') Q) → Wp (b x pre.length s nx) Q) (hk : ∀ s, I xs s → Wp (kx s) Q) : Wp (each b kx xs 0 s) Q := by
  have key : ∀ (post pre : List J) (s : W), xs = pre ++ post → I pre s → Wp (each b kx post pre.length s) Q := by
    intro post
    induction post with
    | nil => intro pre s e hi; rw [List.append_nil] at e; subst e; exact hk s hi
    | cons x post ih =>
      intro pre s e hi
      rw [each]
      refine hb pre x post s _ e hi (fun s' h1 => ?_)
      have := ih (pre ++ [x]) s' (by rw [e]; simp) h1
      rw [Pn, Po] at this
      exact this
  exact key xs [] s rfl h0
theorem qR (I : Nat → W → Prop) {b : Nat → W → (W → Option β) → Option β} {kx : W → Option β} {n : Nat} {s : W} (h0 : I 0 s)
    (hb : ∀ i s nx, i < n → I i s → (∀ s', I (i + 1) s' → Wp (nx s') Q) → Wp (b i s nx) Q) (hk : ∀ s, I n s → Wp (kx s) Q) : Wp (upto b kx n 0 s) Q := by
  have key : ∀ (m i : Nat) (s : W), i + m = n → I i s → Wp (upto b kx m i s) Q := by
    intro m
    induction m with
    | zero => intro i s e hi; have e : i = n := by omega
              subst e; exact hk s hi
    | succ m ih =>
      intro i s e hi
      rw [upto]
      exact hb i s _ (by omega) hi (fun s' h1 => ih (i + 1) s' (by omega) h1)
  exact key n 0 s (by omega) h0
theorem bG {m : Option β} {r : β} (h : Wp m (· = r)) : m = some r := by
  obtain ⟨x, e, rfl⟩ := h; exact e
end

def sP {J : Type} (p : J → Bool) (l : List J) : List Int := (l.zipIdx.filter (fun x => p x.1)).map (fun x => (x.2 : Int))
theorem G89 {J : Type} (p : J → Bool) (l : List J) (x : J) : sP p (l ++ [x]) = sP p l ++ (if p x then [(l.length : Int)] else []) := by
  unfold sP
  rw [List.zipIdx_append, List.filter_append, List.map_append]
  by_cases h : p x <;> simp [h]
theorem H28 {J : Type} (p : J → Bool) (l : List J) : (sP p l).length ≤ l.length := by
  unfold sP
  rw [Pr]
  exact Nat.le_trans (P3 _ _) (by simp)
theorem H27 {J : Type} {p : J → Bool} {l : List J} : sP p l = [] ↔ ∀ x ∈ l, p x = false := by
  unfold sP
  rw [List.map_eq_nil_iff, List.filter_eq_nil_iff]
  constructor
  · intro h x hx
    obtain ⟨i, hi⟩ := List.mem_iff_getElem?.1 hx
    have := h (x, i) (List.mk_mem_zipIdx_iff_getElem?.2 hi)
    simpa using this
  · intro h y hy
    have := h y.1 (List.mem_iff_getElem?.2 ⟨y.2, List.mk_mem_zipIdx_iff_getElem?.1 hy⟩)
    simp [this]
set_option maxRecDepth 100000
set_option linter.unusedVariables false
open Go.RowKit
theorem G7e {n k:Nat} (hn:n≤10000001) (hk:k≤1000):decide (n*k≤140737488355328/\n≤maxLen)=true:=by
 refine P8 ⟨?_,by unfold maxLen; omega⟩
 exact Nat.le_trans (Nat.mul_le_mul hn hk) (by omega)
theorem Jc9 {n k:Nat} (hn:n≤10000001) (hk:k≤1000):decide (k*n≤281474976710656/\n≤maxLen)=true:=by
 refine P8 ⟨?_,by unfold maxLen; omega⟩
 exact Nat.le_trans (Nat.mul_le_mul hk hn) (by omega)
theorem J32 {n:Nat} {z:Int} (h:z=(n:Int)):nI z=some n:=by
 subst h
 unfold nI
 rw [P8 (by omega:(0:Int)≤(n:Int))]
 simp
section generic
variable {J β:Type}
theorem vF {x:J} {k:J→Option β}:bnd (some x) k=k x:=rfl
def marks (mv:Nat→J):List J:=(List.range 12).map mv
theorem G13 {mv:Nat→J} {i:Nat} (h:i < 12):(marks mv)[i]? = some (mv i):=by
 unfold marks
 rw [Pj,List.getElem?_range h]; rfl
theorem HY {mv:Nat→J}:(marks mv).length=12:=by simp [marks]
theorem H8a {mv:Nat→J} {i:Nat} (h:i < 12):(marks mv).take (i+1)=(marks mv).take i++[mv i]:=by
 rw [List.take_add_one,G13 h]; rfl
theorem H22 {mk:Int→Option β} {mv:Nat→β} (of:β→J) (h0:∀ i:Nat,i < 12→mk (i:Int)=some (mv i)) {by_:Nat} (h1:by_≤1000) {n:Nat} {s0:List J} (hn:s0.length=n) (hl:n≤1048576) :
  (need (decide ((12:Int)≤9223372036854775807)) <| upto (fun i (s:List J) nx=>bnd (mk (i:Int)) fun r=>need (decide ((s.length+[of r].length)*by_≤140737488355328/\s.length+[of r].length≤maxLen)) <| nx (s++[of r])) (fun s=>bnd (cO (n:Int) s.length) fun m=>some (s.take m,s.drop m)) (12:Int).toNat 0 s0)=some (s0,(marks mv).map of):=by
 refine bG (aJ rfl ?_)
 refine qR (fun i s=>s=s0++((marks mv).map of).take i) (by simp) (fun i s nx hi hI h2=>?_) (fun s hI=>?_)
 .have hi:i < 12:=hi
  subst hI
  have h4:(s0++((marks mv).map of).take i).length≤n+12:=by
   rw [Pn,List.length_take]; omega
  refine Gu (h0 i hi) (aJ (G7e (by rw [Po]; omega) h1) (h2 _ ?_))
  rw [← List.map_take,← List.map_take,H8a hi,List.map_append,List.append_assoc]
  rfl
 .have h3:(12:Int).toNat=12:=rfl
  rw [h3,List.take_of_length_le (by rw [Pr,HY]; omega)] at hI
  subst hI
  refine Hc (vI (m:=n) rfl (by rw [Pn]; omega) (Gh ?_))
  rw [← hn,List.take_left,List.drop_left]
theorem wP {mk:Int→Option J} {mv:Nat→J} (h1:∀ i:Nat,i < 12→mk (i:Int)=some (mv i)) {by_:Nat} (h0:by_≤1000) {l:List J} (hl:l.length≤1048576) :
  (chk ((l.length:Int)+12) fun v3=>bnd (nI v3) fun m4=>need (decide (by_*m4≤281474976710656/\m4≤maxLen)) <| need (decide ((([]:List J).length+l.length)*by_≤140737488355328/\([]:List J).length+l.length≤maxLen)) <|
   need (decide ((12:Int)≤9223372036854775807)) <| upto (fun i (s:List J) nx=>bnd (mk (i:Int)) fun r=>need (decide ((s.length+[r].length)*by_≤140737488355328/\s.length+[r].length≤maxLen)) <| nx (s++[r])) (fun s=>bnd (cO (l.length:Int) s.length) fun m=>some (s.take m,s.drop m)) (12:Int).toNat 0 (([]:List J)++l))=some (l,marks mv):=by
 refine bG (bY ⟨by omega,by omega⟩ (Gu (J32 (n:=l.length+12) (by omega)) (aJ (Jc9 (by omega) h0) (aJ (G7e (by rw [List.length_nil]; omega) h0) ⟨_,H22 (fun x=>x) h1 h0 (s0:=([]:List J)++l) (n:=l.length) (by simp) hl,?_⟩))))
 rw [List.map_id'',List.nil_append]
 exact fun _=>rfl
theorem pG {lx:β→Option J} {lv:β→J} {mk:Int→Option β} {mv:Nat→β} (of:β→J) (h1:∀ i:Nat,i < 12→mk (i:Int)=some (mv i)) {by_:Nat} (h0:by_≤1000) {l:List β} (h2:∀ x∈l,lx x=some (lv x)) (hl:l.length≤1048576) :
  (chk ((l.length:Int)+12) fun v3=>bnd (nI v3) fun m4=>need (decide (by_*m4≤281474976710656/\m4≤maxLen)) <|
   each (fun y (i:Nat) (s:List J) nx=>bnd (lx y) fun r=>need (decide ((s.length+[r].length)*by_≤140737488355328/\s.length+[r].length≤maxLen)) <| nx (s++[r]))
   (fun(s0:List J)=>need (decide ((12:Int)≤9223372036854775807)) <| upto (fun i (s:List J) nx=>bnd (mk (i:Int)) fun r=>need (decide ((s.length+[of r].length)*by_≤140737488355328/\s.length+[of r].length≤maxLen)) <| nx (s++[of r])) (fun s=>bnd (cO (l.length:Int) s.length) fun m=>some (s.take m,s.drop m)) (12:Int).toNat 0 s0) l 0 [])=some (l.map lv,(marks mv).map of):=by
 refine bG (bY ⟨by omega,by omega⟩ (Gu (J32 (n:=l.length+12) (by omega)) (aJ (Jc9 (by omega) h0) ?_)))
 refine Q2 (fun pre s=>s=pre.map lv) rfl (fun pre y post s nx e hI h3=>?_) (fun s hI=>?_)
 .subst hI
  have hp:pre.length < l.length:=by rw [e]; simp
  refine Gu (h2 y (by rw [e]; simp)) (aJ (G7e (by rw [Po,Pr]; omega) h0) (h3 _ ?_))
  rw [List.map_append]; rfl
 .subst hI
  exact⟨_,H22 of h1 h0 (by simp) hl,rfl⟩
theorem Hc1 [Inhabited J] [Inhabited β] {mk:Int→Option β} {mv:Nat→β} (h3:∀ i:Nat,i < 12→mk (i:Int)=some (mv i)) {l:List β} (hl:l.length≤1048576) {xs:List J} {ys:List J} (hx:xs.length=l.length) (hy:ys.length=12)
  {body:J→Nat→Unit→(Unit→Option Bool)→Option Bool}
  (h1:∀ (i:Nat) y z nx,i < l.length→xs[i]? = some y→l[i]? = some z→body y i () nx=nx ())
  (h2:∀ (i:Nat) y nx,i < 12→ys[i]? = some y→body y (l.length+i) () nx=nx ()) :
  (bif decide ((((xs,ys):Ln J).1.length:Int)≠(l.length:Int)) then some false else (chk ((l.length:Int)+12) fun v6=>bnd (cO v6 (((xs,ys):Ln J).1++((xs,ys):Ln J).2).length) fun m7=>each body (fun(_:Unit)=>some true) ((((xs,ys):Ln J).1++((xs,ys):Ln J).2).take m7) 0 ()))=some true:=by
 have hd:decide ((((xs,ys):Ln J).1.length:Int)≠(l.length:Int))=false:=P9 (by simp only [ne_eq,Decidable.not_not]; omega)
 rw [hd,cond_false]
 refine bG (bY ⟨by omega,by omega⟩ (Hc (vI (m:=l.length+12) (by omega) (by simp only [Pn]; omega) ?_)))
 have ht:(((xs,ys):Ln J).1++((xs,ys):Ln J).2).take (l.length+12)=xs++ys:=List.take_of_length_le (by simp only [Pn]; omega)
 rw [ht]
 refine Q2 (fun _ _=>True) trivial (fun pre y post s nx e _ h0=>?_) (fun s _=>Gh rfl)
 have hg:(xs++ys)[pre.length]? = some y:=by rw [e]; simp
 rcases P4 pre.length l.length with h | h
 .rw [Ph (by omega)] at hg
  rw [h1 pre.length y _ nx h hg (Pb h)]
  exact h0 _ trivial
 .rw [Pg (by omega)] at hg
  have hp:pre.length < l.length+12:=by
   have:=congrArg List.length e
   simp only [Pn,Pi] at this
   omega
  have:=h2 (pre.length - l.length) y nx (by omega) (by rw [← hx]; exact hg)
  rw [show l.length+(pre.length - l.length)=pre.length by omega] at this
  rw [this]
  exact h0 _ trivial
theorem wQ [DecidableEq J] [Inhabited J] {mk:Int→Option J} {mv:Nat→J} (h0:∀ i:Nat,i < 12→mk (i:Int)=some (mv i)) {l:List J} (hl:l.length≤1048576) :
  (bif decide ((((l,marks mv):Ln J).1.length:Int)≠(l.length:Int)) then some false else (chk ((l.length:Int)+12) fun v6=>bnd (cO v6 (((l,marks mv):Ln J).1++((l,marks mv):Ln J).2).length) fun m7=>
   each (fun y29 i29 (s29:Unit) nx29=>
    bnd (bif decide ((i29:Int) < (l.length:Int)) then Jo l (i29:Int) some else some default) fun y34=>
    bnd (bif ((!((decide ((i29:Int) < (l.length:Int)))&&(!(decide (y29=y34)))))&&(decide ((l.length:Int)≤(i29:Int)))) then chk ((i29:Int) - (l.length:Int)) some else some 0) fun v35=>
    bnd (bif ((!((decide ((i29:Int) < (l.length:Int)))&&(!(decide (y29=y34)))))&&(decide ((l.length:Int)≤(i29:Int)))) then mk v35 else some default) fun r36=>
    bif (((decide ((i29:Int) < (l.length:Int)))&&(!(decide (y29=y34))))||((decide ((l.length:Int)≤(i29:Int)))&&(!(decide (y29=r36))))) then (some false) else (nx29 ()))
   (fun(_:Unit)=>some true) ((((l,marks mv):Ln J).1++((l,marks mv):Ln J).2).take m7) 0 ()))=some true:=by
 refine Hc1 h0 hl rfl HY (fun i y z nx hi hy hz=>?_) (fun i y nx hi hy=>?_)
 .rw [hy] at hz
  cases hz
  have hg:Jo l (i:Int) some=some y:=by
   unfold Jo
   rw [P8 (by omega:(0:Int)≤(i:Int)),cond_true,show (i:Int).toNat=i by omega,hy]; rfl
  rw [P8 (by omega:(i:Int) < (l.length:Int)),cond_true,hg]
  simp only [bnd,decide_true,Bool.not_true,Bool.and_false,Bool.not_false,Bool.true_and,Bool.false_or]
  rw [P9 (by omega:¬ (l.length:Int)≤(i:Int))]
  rfl
 .rw [G13 hi] at hy
  cases hy
  have hc:((l.length+i:Nat):Int) - (l.length:Int)=(i:Int):=by omega
  rw [P9 (by omega:¬ ((l.length+i:Nat):Int) < (l.length:Int)),cond_false,hc,P8 (by omega:(l.length:Int)≤((l.length+i:Nat):Int))]
  have hk:chk (i:Int) some=some (i:Int):=bG (bY ⟨by omega,by omega⟩ (Gh rfl))
  simp only [bnd,Bool.false_and,Bool.not_false,Bool.and_self,cond_true,hk,h0 i hi,decide_true,Bool.not_true,Bool.and_false,Bool.or_self,cond_false]
theorem pH [Inhabited J] [Inhabited β] {mk:Int→Option β} {mv:Nat→β} (h2:∀ i:Nat,i < 12→mk (i:Int)=some (mv i)) {lv of:β→J} {pl:J→β} {keep:J→β→Option Bool} {same:β→β→Option Bool} {l:List β} (hl:l.length≤1048576)
  (h0:∀ x∈l,keep (lv x) x=some true) (h1:∀ i:Nat,i < 12→same (pl (of (mv i))) (mv i)=some true) :
  (bif decide ((((l.map lv,(marks mv).map of):Ln J).1.length:Int)≠(l.length:Int)) then some false else (chk ((l.length:Int)+12) fun v6=>bnd (cO v6 (((l.map lv,(marks mv).map of):Ln J).1++((l.map lv,(marks mv).map of):Ln J).2).length) fun m7=>
   each (fun y33 i33 (s33:Unit) nx33=>
    bnd (bif decide ((i33:Int) < (l.length:Int)) then Jo l (i33:Int) some else some default) fun y38=>
    bnd (bif decide ((i33:Int) < (l.length:Int)) then keep y33 y38 else some default) fun r39=>
    bnd (bif ((!((decide ((i33:Int) < (l.length:Int)))&&(!r39)))&&(decide ((l.length:Int)≤(i33:Int)))) then chk ((i33:Int) - (l.length:Int)) some else some 0) fun v40=>
    bnd (bif ((!((decide ((i33:Int) < (l.length:Int)))&&(!r39)))&&(decide ((l.length:Int)≤(i33:Int)))) then mk v40 else some default) fun r41=>
    bnd (bif ((!((decide ((i33:Int) < (l.length:Int)))&&(!r39)))&&(decide ((l.length:Int)≤(i33:Int)))) then same (pl y33) r41 else some default) fun r42=>
    bif (((decide ((i33:Int) < (l.length:Int)))&&(!r39))||((decide ((l.length:Int)≤(i33:Int)))&&(!r42))) then (some false) else (nx33 ()))
   (fun(_:Unit)=>some true) ((((l.map lv,(marks mv).map of):Ln J).1++((l.map lv,(marks mv).map of):Ln J).2).take m7) 0 ()))=some true:=by
 refine Hc1 h2 hl (by simp) (by simp [HY]) (fun i y z nx hi hy hz=>?_) (fun i y nx hi hy=>?_)
 .rw [Pj,hz] at hy
  cases hy
  have hg:Jo l (i:Int) some=some z:=by
   unfold Jo
   rw [P8 (by omega:(0:Int)≤(i:Int)),cond_true,show (i:Int).toNat=i by omega,hz]; rfl
  rw [P8 (by omega:(i:Int) < (l.length:Int)),cond_true,hg]
  simp only [bnd,cond_true,h0 z (Pd hz),Bool.not_true,Bool.and_false,Bool.not_false,Bool.true_and,Bool.false_or]
  rw [P9 (by omega:¬ (l.length:Int)≤(i:Int))]
  rfl
 .rw [Pj,G13 hi] at hy
  cases hy
  have hc:((l.length+i:Nat):Int) - (l.length:Int)=(i:Int):=by omega
  rw [P9 (by omega:¬ ((l.length+i:Nat):Int) < (l.length:Int)),cond_false,hc,P8 (by omega:(l.length:Int)≤((l.length+i:Nat):Int))]
  have hk:chk (i:Int) some=some (i:Int):=bG (bY ⟨by omega,by omega⟩ (Gh rfl))
  simp only [bnd,cond_false,Bool.false_and,Bool.not_false,Bool.and_self,cond_true,hk,h2 i hi,h1 i hi,Bool.not_true,Bool.and_false,Bool.or_self]
theorem nO {l:List J} {body:J→Nat→Unit→(Unit→Option Bool)→Option Bool} (h:∀ (i:Nat) y nx,l[i]? = some y→body y i () nx=nx ()) :
  (bif decide ((l.length:Int)≠(l.length:Int)) then some false else each body (fun(_:Unit)=>some true) l 0 ())=some true:=by
 rw [P9 (by simp),cond_false]
 refine bG (Q2 (fun _ _=>True) trivial (fun pre y post s nx e _ h0=>?_) (fun s _=>Gh rfl))
 rw [h pre.length y nx (by rw [e]; simp)]
 exact h0 _ trivial
theorem Qi {B:Type} {l:List J} {i:Nat} {y:J} (h:l[i]? = some y) (k:J→Option B):Jo l (i:Int) k=k y:=by
 unfold Jo
 rw [P8 (by omega:(0:Int)≤(i:Int)),cond_true,show (i:Int).toNat=i by omega,h]; rfl
end generic
def mkN (i:Nat):Int:=8000024+(i:Int)
theorem mark_eq (i:Nat) (h:i < 12):Ho 1 (i:Int)=some (mkN i):=by
 refine bG ?_
 unfold Ho mkN
 exact bY ⟨by decide,by decide⟩ (bY ⟨by decide,by decide⟩ (bY ⟨by omega,by omega⟩ (Gh (by omega))))
theorem eL (a:List Int):Ja a a=some true:=by
 unfold Ja
 exact nO (fun i y nx h=>by rw [Qi h]; simp)
theorem G5d (a:List Row):Zy a a=some true:=by
 unfold Zy
 exact nO (fun i y nx h=>by rw [Qi h]; simp)
theorem YF (a:List Frame):Yz a a=some true:=by
 unfold Yz
 exact nO (fun i y nx h=>by rw [Qi h]; simp)
abbrev wL:=mkN
theorem H88 (i:Nat) (h:i < 12):Ho 1 (i:Int)=some (wL i):=mark_eq i h
theorem rI {l:List Int} (hl:l.length≤1048576):R6 l=some (l,marks wL):=by
 unfold R6
 exact wP H88 (by omega) hl
theorem rK {l:List Int} (hl:l.length≤1048576):Jb (l,marks wL) l=some true:=by
 unfold Jb
 exact wQ H88 hl
def HW (i:Nat):Row:=(Y7 1 (i:Int)).getD default
theorem J33 (i:Nat) (h:i < 12):Y7 1 (i:Int)=some (HW i):=by
 unfold HW Y7
 rw [mark_eq i h]; rfl
theorem H35 {l:List Row} (hl:l.length≤1048576):aC l=some (l,marks HW):=by
 unfold aC
 exact wP J33 (by omega) hl
theorem H39 {l:List Row} (hl:l.length≤1048576):Yk (l,marks HW) l=some true:=by
 unfold Yk
 exact wQ J33 hl
def sL (i:Nat):Frame:=(Ri 1 (i:Int)).getD default
theorem H1a (i:Nat) (h:i < 12):Ri 1 (i:Int)=some (sL i):=by
 unfold sL Ri
 rw [mark_eq i h]; rfl
theorem G66 {l:List Frame} (hl:l.length≤1048576):Z3 l=some (l,marks sL):=by
 unfold Z3
 exact wP H1a (by omega) hl
theorem G6b {l:List Frame} (hl:l.length≤1048576):Y1 (l,marks sL) l=some true:=by
 unfold Y1
 exact wQ H1a hl
def YS (i:Nat):Box:=(Y8 1 (i:Int)).getD default
theorem Hbd (i:Nat) (h:i < 12):Y8 1 (i:Int)=some (YS i):=by
 unfold YS Y8
 rw [mark_eq i h]; rfl
theorem Gbb {l:List Box} (hl:l.length≤1048576):Zj l=some (l,marks YS):=by
 unfold Zj
 exact wP Hbd (by omega) hl
theorem Gbe {l:List Box} (hl:l.length≤1048576):Zk (l,marks YS) l=some true:=by
 unfold Zk
 exact wQ Hbd hl
def oL (i:Nat):G2:=(Qv 1 (i:Int)).getD default
theorem HX (i:Nat) (h:i < 12):Qv 1 (i:Int)=some (oL i):=by
 unfold oL Qv
 rw [mark_eq i h]; rfl
theorem G35 {l:List G2} (hl:l.length≤1048576):Yo l=some (l,marks oL):=by
 unfold Yo
 exact wP HX (by omega) hl
theorem G37 {l:List G2} (hl:l.length≤1048576):Rv (l,marks oL) l=some true:=by
 unfold Rv
 exact wQ HX hl
def lH (i:Nat):G6:=(R7 1 (i:Int)).getD default
theorem G83 (i:Nat) (h:i < 12):R7 1 (i:Int)=some (lH i):=by
 unfold lH R7
 rw [mark_eq i h]; rfl
def fM (x:G6):Gx:={ Gx.of x with Plugs:=(x.Plugs,marks wL) }
theorem G68 {x:G6} (h:x.Plugs.length≤1048576):Z5 x=some (fM x):=by
 unfold Z5
 rw [rI h]; rfl
theorem mU (a:G6):Q0 a a=some true:=by
 unfold Q0
 simp [eL,bnd]
theorem G6d {x:G6} (h:x.Plugs.length≤1048576):Y3 (fM x) x=some true:=by
 have e1:Q0 (Gx.pl (fM x)) x=some true:=mU x
 have e2:Jb (fM x).Plugs x.Plugs=some true:=rK h
 unfold Y3
 show bnd (Q0 (Gx.pl (fM x)) x) (fun r3=>bnd (bif r3 then Jb (fM x).Plugs x.Plugs else some default) fun r4=>some (r3&&r4))=some true
 rw [e1,vF,cond_true,e2,vF]; rfl
theorem G36 {l:List G6} (hl:l.length≤1048576) (h:∀ x∈l,x.Plugs.length≤1048576):Yp l=some (l.map fM,(marks lH).map Gx.of):=by
 unfold Yp
 exact pG Gx.of G83 (by omega) (fun x hx=>G68 (h x hx)) hl
theorem JN (a:List G6):Yn a a=some true:=by
 unfold Yn
 exact nO (fun i y nx h=>by rw [Qi h,mU]; rfl)
theorem G38 {l:List G6} (hl:l.length≤1048576) (h:∀ x∈l,x.Plugs.length≤1048576):Rw (l.map fM,(marks lH).map Gx.of) l=some true:=by
 unfold Rw
 exact pH (keep:=Y3) (same:=Q0) (pl:=Gx.pl) G83 hl (fun x hx=>G6d (h x hx)) (fun i hi=>mU (lH i))
theorem Hf1 (l:List G6):(l.map fM).map Gx.pl=l:=by
 rw [List.map_map]
 exact(List.map_congr_left (fun x _=>rfl)).trans (List.map_id l)
def pA (i:Nat):H3:=(Rj 1 (i:Int)).getD default
theorem H1b (i:Nat) (h:i < 12):Rj 1 (i:Int)=some (pA i):=by
 unfold pA Rj
 rw [mark_eq i h]; rfl
def jG (x:H3):Ha:={ Ha.of x with Rows:=(x.Rows,marks wL) }
theorem Gba {x:H3} (h:x.Rows.length≤1048576):Zi x=some (jG x):=by
 unfold Zi
 rw [rI h]; rfl
theorem pM (a:H3):Q5 a a=some true:=by
 unfold Q5
 simp [eL,bnd]
theorem Gbd {x:H3} (h:x.Rows.length≤1048576):Yc (jG x) x=some true:=by
 have e1:Q5 (Ha.pl (jG x)) x=some true:=pM x
 have e2:Jb (jG x).Rows x.Rows=some true:=rK h
 unfold Yc
 show bnd (Q5 (Ha.pl (jG x)) x) (fun r3=>bnd (bif r3 then Jb (jG x).Rows x.Rows else some default) fun r4=>some (r3&&r4))=some true
 rw [e1,vF,cond_true,e2,vF]; rfl
theorem G67 {l:List H3} (hl:l.length≤1048576) (h:∀ x∈l,x.Rows.length≤1048576):Z4 l=some (l.map jG,(marks pA).map Ha.of):=by
 unfold Z4
 exact pG Ha.of H1b (by omega) (fun x hx=>Gba (h x hx)) hl
theorem YG (a:List H3):Z0 a a=some true:=by
 unfold Z0
 exact nO (fun i y nx h=>by rw [Qi h,pM]; rfl)
theorem G6c {l:List H3} (hl:l.length≤1048576) (h:∀ x∈l,x.Rows.length≤1048576):Y2 (l.map jG,(marks pA).map Ha.of) l=some true:=by
 unfold Y2
 exact pH (keep:=Yc) (same:=Q5) (pl:=Ha.pl) H1b hl (fun x hx=>Gbd (h x hx)) (fun i hi=>pM (pA i))
theorem J2d (l:List H3):(l.map jG).map Ha.pl=l:=by
 rw [List.map_map]
 exact(List.map_congr_left (fun x _=>rfl)).trans (List.map_id l)
def uK (i:Nat):Hg:=(Ru 1 (i:Int)).getD default
theorem Hbc (i:Nat) (h:i < 12):Ru 1 (i:Int)=some (uK i):=by
 unfold uK Ru
 rw [mark_eq i h]; rfl
def mR (x:Hg):Hj:={ Hj.of x with Steps:=(x.Steps,marks wL) }
theorem H33 {x:Hg} (h:x.Steps.length≤1048576):aA x=some (mR x):=by
 unfold aA
 rw [rI h]; rfl
theorem rW (a:Hg):Qa a a=some true:=by
 unfold Qa
 simp [eL,bnd]
theorem H37 {x:Hg} (h:x.Steps.length≤1048576):Yj (mR x) x=some true:=by
 have e1:Qa (Hj.pl (mR x)) x=some true:=rW x
 have e2:Jb (mR x).Steps x.Steps=some true:=rK h
 unfold Yj
 show bnd (Qa (Hj.pl (mR x)) x) (fun r3=>bnd (bif r3 then Jb (mR x).Steps x.Steps else some default) fun r4=>some (r3&&r4))=some true
 rw [e1,vF,cond_true,e2,vF]; rfl
theorem Gb9 {l:List Hg} (hl:l.length≤1048576) (h:∀ x∈l,x.Steps.length≤1048576):Zh l=some (l.map mR,(marks uK).map Hj.of):=by
 unfold Zh
 exact pG Hj.of Hbc (by omega) (fun x hx=>H33 (h x hx)) hl
theorem G2d (a:List Hg):Zg a a=some true:=by
 unfold Zg
 exact nO (fun i y nx h=>by rw [Qi h,rW]; rfl)
theorem Gbc {l:List Hg} (hl:l.length≤1048576) (h:∀ x∈l,x.Steps.length≤1048576):Yb (l.map mR,(marks uK).map Hj.of) l=some true:=by
 unfold Yb
 exact pH (keep:=Yj) (same:=Qa) (pl:=Hj.pl) Hbc hl (fun x hx=>H37 (h x hx)) (fun i hi=>rW (uK i))
theorem J93 (l:List Hg):(l.map mR).map Hj.pl=l:=by
 rw [List.map_map]
 exact(List.map_congr_left (fun x _=>rfl)).trans (List.map_id l)
structure lO (s:Gq):Prop where
 cols:s.Columns.length≤1048576
 plugs:∀ c∈s.Columns,c.Plugs.length≤1048576
 covs:s.Covers.length≤1048576
 crows:∀ x∈s.Covers,x.Rows.length≤1048576
 rows:s.Rows.length≤1048576
 frames:s.Frames.length≤1048576
 tanks:s.Tanks.length≤1048576
 steps:∀ x∈s.Tanks,x.Steps.length≤1048576
def uN (s:Gq):Yh:=⟨(s.Columns.map fM,(marks lH).map Gx.of),(s.Covers.map jG,(marks pA).map Ha.of),s.Light,(s.Rows,marks HW),(s.Frames,marks sL),(s.Tanks.map mR,(marks uK).map Hj.of),s.Gk⟩
theorem H34 {s:Gq} (h:lO s):aB s=some (uN s):=by
 unfold aB
 rw [G36 h.cols h.plugs,G67 h.covs h.crows,H35 h.rows,G66 h.frames,Gb9 h.tanks h.steps]
 rfl
theorem J2b (s:Gq):Gq.mk ((uN s).Columns.1.map Gx.pl) ((uN s).Covers.1.map Ha.pl) (uN s).Light (uN s).Rows.1 (uN s).Frames.1 ((uN s).Tanks.1.map Hj.pl) (uN s).Gk=s:=by
 show Gq.mk ((s.Columns.map fM).map Gx.pl) ((s.Covers.map jG).map Ha.pl) s.Light s.Rows s.Frames ((s.Tanks.map mR).map Hj.pl) s.Gk=s
 rw [Hf1,J2d,J93]
theorem G5c (s:Gq):Zx s s=some true:=by
 unfold Zx
 simp [JN,YG,G5d,YF,G2d,bnd]
theorem H38 {s:Gq} (h:lO s):aE (uN s) s=some true:=by
 have e1:=G38 h.cols h.plugs
 have e2:=G6c h.covs h.crows
 have e3:=H39 h.rows
 have e4:=G6b h.frames
 have e5:=Gbc h.tanks h.steps
 unfold aE
 rw [J2b,G5c,vF,cond_true]
 show bnd (Rw (s.Columns.map fM,(marks lH).map Gx.of) s.Columns) _=_
 rw [e1,vF,Bool.and_self,cond_true]
 show bnd (Y2 (s.Covers.map jG,(marks pA).map Ha.of) s.Covers) _=_
 rw [e2,vF,Bool.and_self,cond_true]
 show bnd (Yk (s.Rows,marks HW) s.Rows) _=_
 rw [e3,vF,Bool.and_self,cond_true]
 show bnd (Y1 (s.Frames,marks sL) s.Frames) _=_
 rw [e4,vF,Bool.and_self,cond_true]
 show bnd (Yb (s.Tanks.map mR,(marks uK).map Hj.of) s.Tanks) _=_
 rw [e5,vF]
 rfl
end Go.Proofs.YthkihfoleenlmaaGreat
