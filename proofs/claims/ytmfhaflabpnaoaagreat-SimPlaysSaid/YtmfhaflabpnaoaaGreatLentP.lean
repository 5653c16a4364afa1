/-
 What a model returns, What the functions return that lend and check arguments.
-/
import Derived.Test.YtmfhaflabpnaoaaGreatRangeF
import Derived.Test.YtmfhaflabpnaoaaGreatXL
namespace Go.Proofs.YtmfhaflabpnaoaaGreat

section
variable {α β σ : Type} {Q : β → Prop}

def Wp (m : Option β) (Q : β → Prop) : Prop := ∃ r, m = some r ∧ Q r

theorem Gg {r : β} (h : Q r) : Wp (some r) Q := ⟨r, rfl, h⟩
theorem wp_mono {m : Option β} {Q' : β → Prop} (h : Wp m Q') (hq : ∀ r, Q' r → Q r) : Wp m Q := by
  obtain ⟨r, e, h⟩ := h; exact ⟨r, e, hq r h⟩
theorem H8 {m : Option α} {k : α → Option β} (h : Wp m (fun x => Wp (k x) Q)) : Wp (bnd m k) Q := by
  obtain ⟨x, rfl, h⟩ := h; exact h
theorem Gy {m : Option α} {k : α → Option β} {x : α} (e : m = some x) (h : Wp (k x) Q) : Wp (bnd m k) Q := by subst e; exact h
theorem Z2 {z : Int} {k : Int → Option β} (h1 : -9223372036854775808 ≤ z ∧ z ≤ 9223372036854775807) (h : Wp (k z) Q) : Wp (chk z k) Q := by
  unfold chk Q8a
  rw [Ky h1.1, Ky h1.2]; exact h
theorem Hb {c : Bool} {x y : Option β} (h1 : c = true → Wp x Q) (h2 : c = false → Wp y Q) : Wp (bif c then x else y) Q := by
  cases c with
  | true => exact h1 rfl
  | false => exact h2 rfl
theorem Zq {b : Bool} {k : Option β} (hb : b = true) (h : Wp k Q) : Wp (need b k) Q := by subst hb; exact h
theorem Zr {l : List α} {i : Int} {k : α → Option β} {m : Nat} {x : α} (hi : i = (m : Int)) (hx : l[m]? = some x) (h : Wp (k x) Q) : Wp (Qr l i k) Q := by
  subst hi
  unfold Qr
  rw [Ky (by omega : (0 : Int) ≤ m), cond_true, show (m : Int).toNat = m by omega, hx]
  exact h
theorem Hca {m : (α → Option β) → Option β} {k : α → Option β} (P : α → Prop) (hm : ∀ K : α → Option β, (∀ a, P a → Wp (K a) Q) → Wp (m K) Q) (hk : ∀ a, P a → Wp (k a) Q) : Wp (jp m k) Q := hm k hk
theorem Jd9 {i : Int} {n m : Nat} {Q : Nat → Prop} (hi : i = (m : Int)) (hm : m ≤ n) (h : Q m) : Wp (H79 i n) Q := by
  subst hi
  unfold H79
  rw [Ky (by omega : (0 : Int) ≤ m), show (m : Int).toNat = m by omega, Ky hm]
  exact Gg h
theorem Q8 (I : List α → σ → Prop) {b : α → Nat → σ → (σ → Option β) → Option β} {kx : σ → Option β} {xs : List α} {s : σ} (h0 : I [] s)
    (hb : ∀ pre x post s nx, xs = pre ++ x :: post → I pre s → (∀ s', I (pre ++ [x]) s' → Wp (nx s') Q) → Wp (b x pre.length s nx) Q) (hk : ∀ s, I xs s → Wp (kx s) Q) : Wp (each b kx xs 0 s) Q := by
  have key : ∀ (post pre : List α) (s : σ), xs = pre ++ post → I pre s → Wp (each b kx post pre.length s) Q := by
    intro post
    induction post with
    | nil => intro pre s e hi; rw [List.append_nil] at e; subst e; exact hk s hi
    | cons x post ih =>
      intro pre s e hi
      rw [each]
      refine hb pre x post s _ e hi (fun s' h1 => ?_)
      have := ih (pre ++ [x]) s' (by rw [e]; simp) h1
      rw [Mc, Md] at this
      exact this
  exact key xs [] s rfl h0
theorem Jc7 (I : Nat → σ → Prop) {b : Nat → σ → (σ → Option β) → Option β} {kx : σ → Option β} {n : Nat} {s : σ} (h0 : I 0 s)
    (hb : ∀ i s nx, i < n → I i s → (∀ s', I (i + 1) s' → Wp (nx s') Q) → Wp (b i s nx) Q) (hk : ∀ s, I n s → Wp (kx s) Q) : Wp (upto b kx n 0 s) Q := by
  have key : ∀ (m i : Nat) (s : σ), i + m = n → I i s → Wp (upto b kx m i s) Q := by
    intro m
    induction m with
    | zero => intro i s e hi; have e : i = n := by omega
              subst e; exact hk s hi
    | succ m ih =>
      intro i s e hi
      rw [upto]
      exact hb i s _ (by omega) hi (fun s' h1 => ih (i + 1) s' (by omega) h1)
  exact key n 0 s (by omega) h0
theorem Z3 {m : Option β} {r : β} (h : Wp m (· = r)) : m = some r := by
  obtain ⟨x, e, rfl⟩ := h; exact e
end

def H4d {α : Type} (p : α → Bool) (l : List α) : List Int := (l.zipIdx.filter (fun x => p x.1)).map (fun x => (x.2 : Int))
theorem Q8b {α : Type} (p : α → Bool) (l : List α) (x : α) : H4d p (l ++ [x]) = H4d p l ++ (if p x then [(l.length : Int)] else []) := by
  unfold H4d
  rw [List.zipIdx_append, List.filter_append, List.map_append]
  by_cases h : p x <;> simp [h]
theorem R11 {α : Type} (p : α → Bool) (l : List α) : (H4d p l).length ≤ l.length := by
  unfold H4d
  rw [Mg]
  exact Nat.le_trans (Kt _ _) (by simp)
theorem R10 {α : Type} {p : α → Bool} {l : List α} : H4d p l = [] ↔ ∀ x ∈ l, p x = false := by
  unfold H4d
  rw [List.map_eq_nil_iff, List.filter_eq_nil_iff]
  constructor
  · intro h x hx
    obtain ⟨i, hi⟩ := List.mem_iff_getElem?.1 hx
    have := h (x, i) (List.mk_mem_zipIdx_iff_getElem?.2 hi)
    simpa using this
  · intro h y hy
    have := h y.1 (List.mem_iff_getElem?.2 ⟨y.2, List.mk_mem_zipIdx_iff_getElem?.1 hy⟩)
    simp [this]
set_option maxRecDepth 100000
set_option linter.unusedVariables false
open Go.RowKit
theorem R9b {n k:Nat} (hn:n≤10000001) (hk:k≤1000):decide (n*k≤140737488355328∧n≤maxLen)=true:=by
 refine Ky ⟨?_,by unfold maxLen; omega⟩
 exact Nat.le_trans (Nat.mul_le_mul hn hk) (by omega)
theorem Y81 {n k:Nat} (hn:n≤10000001) (hk:k≤1000):decide (k*n≤281474976710656∧n≤maxLen)=true:=by
 refine Ky ⟨?_,by unfold maxLen; omega⟩
 exact Nat.le_trans (Nat.mul_le_mul hk hn) (by omega)
theorem Y19 {n:Nat} {z:Int} (h:z=(n:Int)):Q22 z=some n:=by
 subst h
 unfold Q22
 rw [Ky (by omega:(0:Int)≤(n:Int))]
 simp
section generic
variable {α β:Type}
def marks (mv:Nat→α):List α:=(List.range 12).map mv
theorem Q27 {mv:Nat→α} {i:Nat} (h:i < 12):(marks mv)[i]? = some (mv i):=by
 unfold marks
 rw [M9,List.getElem?_range h]; rfl
theorem J74 {mv:Nat→α}:(marks mv).length=12:=by simp [marks]
theorem R77 {mv:Nat→α} {i:Nat} (h:i < 12):(marks mv).take (i+1)=(marks mv).take i++[mv i]:=by
 rw [List.take_add_one,Q27 h]; rfl
theorem R0d {mk:Int→Option β} {mv:Nat→β} (of:β→α) (h0:∀ i:Nat,i < 12→mk (i:Int)=some (mv i)) {by_:Nat} (h1:by_≤1000) {n:Nat} {s0:List α} (hn:s0.length=n) (hl:n≤1048576) :
  (need (decide ((12:Int)≤9223372036854775807)) <| upto (fun i (s:List α) nx=>bnd (mk (i:Int)) fun r=>need (decide ((s.length+[of r].length)*by_≤140737488355328∧s.length+[of r].length≤maxLen)) <| nx (s++[of r])) (fun s=>bnd (H79 (n:Int) s.length) fun m=>some (s.take m,s.drop m)) (12:Int).toNat 0 s0)=some (s0,(marks mv).map of):=by
 refine Z3 (Zq rfl ?_)
 refine Jc7 (fun i s=>s=s0++((marks mv).map of).take i) (by simp) (fun i s nx hi hI h2=>?_) (fun s hI=>?_)
 ·have hi:i < 12:=hi
  subst hI
  have h4:(s0++((marks mv).map of).take i).length≤n+12:=by
   rw [Mc,List.length_take]; omega
  refine Gy (h0 i hi) (Zq (R9b (by rw [Md]; omega) h1) (h2 _ ?_))
  rw [← List.map_take,← List.map_take,R77 hi,List.map_append,List.append_assoc]
  rfl
 ·have h3:(12:Int).toNat=12:=rfl
  rw [h3,List.take_of_length_le (by rw [Mg,J74]; omega)] at hI
  subst hI
  refine H8 (Jd9 (m:=n) rfl (by rw [Mc]; omega) (Gg ?_))
  rw [← hn,List.take_left,List.drop_left]
theorem Y1d {mk:Int→Option α} {mv:Nat→α} (h1:∀ i:Nat,i < 12→mk (i:Int)=some (mv i)) {by_:Nat} (h0:by_≤1000) {l:List α} (hl:l.length≤1048576) :
  (chk ((l.length:Int)+12) fun v3=>bnd (Q22 v3) fun m4=>need (decide (by_*m4≤281474976710656∧m4≤maxLen)) <| need (decide ((([]:List α).length+l.length)*by_≤140737488355328∧([]:List α).length+l.length≤maxLen)) <|
   need (decide ((12:Int)≤9223372036854775807)) <| upto (fun i (s:List α) nx=>bnd (mk (i:Int)) fun r=>need (decide ((s.length+[r].length)*by_≤140737488355328∧s.length+[r].length≤maxLen)) <| nx (s++[r])) (fun s=>bnd (H79 (l.length:Int) s.length) fun m=>some (s.take m,s.drop m)) (12:Int).toNat 0 (([]:List α)++l))=some (l,marks mv):=by
 refine Z3 (Z2 ⟨by omega,by omega⟩ (Gy (Y19 (n:=l.length+12) (by omega)) (Zq (Y81 (by omega) h0) (Zq (R9b (by rw [List.length_nil]; omega) h0) ⟨_,R0d (fun x=>x) h1 h0 (s0:=([]:List α)++l) (n:=l.length) (by simp) hl,?_⟩))))
 rw [List.map_id'',List.nil_append]
 exact fun _=>rfl
theorem Rac [Inhabited α] [Inhabited β] {mk:Int→Option β} {mv:Nat→β} (h3:∀ i:Nat,i < 12→mk (i:Int)=some (mv i)) {l:List β} (hl:l.length≤1048576) {xs:List α} {ys:List α} (hx:xs.length=l.length) (hy:ys.length=12)
  {body:α→Nat→Unit→(Unit→Option Bool)→Option Bool}
  (h1:∀ (i:Nat) y z nx,i < l.length→xs[i]? = some y→l[i]? = some z→body y i () nx=nx ())
  (h2:∀ (i:Nat) y nx,i < 12→ys[i]? = some y→body y (l.length+i) () nx=nx ()) :
  (bif decide ((((xs,ys):Ln α).1.length:Int)≠(l.length:Int)) then some false else (chk ((l.length:Int)+12) fun v6=>bnd (H79 v6 (((xs,ys):Ln α).1++((xs,ys):Ln α).2).length) fun m7=>each body (fun(_:Unit)=>some true) ((((xs,ys):Ln α).1++((xs,ys):Ln α).2).take m7) 0 ()))=some true:=by
 have hd:decide ((((xs,ys):Ln α).1.length:Int)≠(l.length:Int))=false:=Kz (by simp only [ne_eq,Decidable.not_not]; omega)
 rw [hd,cond_false]
 refine Z3 (Z2 ⟨by omega,by omega⟩ (H8 (Jd9 (m:=l.length+12) (by omega) (by simp only [Mc]; omega) ?_)))
 have ht:(((xs,ys):Ln α).1++((xs,ys):Ln α).2).take (l.length+12)=xs++ys:=List.take_of_length_le (by simp only [Mc]; omega)
 rw [ht]
 refine Q8 (fun _ _=>True) trivial (fun pre y post s nx e _ h0=>?_) (fun s _=>Gg rfl)
 have hg:(xs++ys)[pre.length]? = some y:=by rw [e]; simp
 rcases Ku pre.length l.length with h | h
 ·rw [M7 (by omega)] at hg
  rw [h1 pre.length y _ nx h hg (M1 h)]
  exact h0 _ trivial
 ·rw [M6 (by omega)] at hg
  have hp:pre.length < l.length+12:=by
   have:=congrArg List.length e
   simp only [Mc,M8] at this
   omega
  have:=h2 (pre.length - l.length) y nx (by omega) (by rw [← hx]; exact hg)
  rw [show l.length+(pre.length - l.length)=pre.length by omega] at this
  rw [this]
  exact h0 _ trivial
theorem Y1f [DecidableEq α] [Inhabited α] {mk:Int→Option α} {mv:Nat→α} (h0:∀ i:Nat,i < 12→mk (i:Int)=some (mv i)) {l:List α} (hl:l.length≤1048576) :
  (bif decide ((((l,marks mv):Ln α).1.length:Int)≠(l.length:Int)) then some false else (chk ((l.length:Int)+12) fun v6=>bnd (H79 v6 (((l,marks mv):Ln α).1++((l,marks mv):Ln α).2).length) fun m7=>
   each (fun y29 i29 (s29:Unit) nx29=>
    bnd (bif decide ((i29:Int) < (l.length:Int)) then Qr l (i29:Int) some else some default) fun y34=>
    bnd (bif ((!((decide ((i29:Int) < (l.length:Int)))&&(!(decide (y29=y34)))))&&(decide ((l.length:Int)≤(i29:Int)))) then chk ((i29:Int) - (l.length:Int)) some else some 0) fun v35=>
    bnd (bif ((!((decide ((i29:Int) < (l.length:Int)))&&(!(decide (y29=y34)))))&&(decide ((l.length:Int)≤(i29:Int)))) then mk v35 else some default) fun r36=>
    bif (((decide ((i29:Int) < (l.length:Int)))&&(!(decide (y29=y34))))||((decide ((l.length:Int)≤(i29:Int)))&&(!(decide (y29=r36))))) then (some false) else (nx29 ()))
   (fun(_:Unit)=>some true) ((((l,marks mv):Ln α).1++((l,marks mv):Ln α).2).take m7) 0 ()))=some true:=by
 refine Rac h0 hl rfl J74 (fun i y z nx hi hy hz=>?_) (fun i y nx hi hy=>?_)
 ·rw [hy] at hz
  cases hz
  have hg:Qr l (i:Int) some=some y:=by
   unfold Qr
   rw [Ky (by omega:(0:Int)≤(i:Int)),cond_true,show (i:Int).toNat=i by omega,hy]; rfl
  rw [Ky (by omega:(i:Int) < (l.length:Int)),cond_true,hg]
  simp only [bnd,decide_true,Bool.not_true,Bool.and_false,Bool.not_false,Bool.true_and,Bool.false_or]
  rw [Kz (by omega:¬ (l.length:Int)≤(i:Int))]
  rfl
 ·rw [Q27 hi] at hy
  cases hy
  have hc:((l.length+i:Nat):Int) - (l.length:Int)=(i:Int):=by omega
  rw [Kz (by omega:¬ ((l.length+i:Nat):Int) < (l.length:Int)),cond_false,hc,Ky (by omega:(l.length:Int)≤((l.length+i:Nat):Int))]
  have hk:chk (i:Int) some=some (i:Int):=Z3 (Z2 ⟨by omega,by omega⟩ (Gg rfl))
  simp only [bnd,Bool.false_and,Bool.not_false,Bool.and_self,cond_true,hk,h0 i hi,decide_true,Bool.not_true,Bool.and_false,Bool.or_self,cond_false]
theorem G2e {γ:Type} {l:List α} {i:Nat} {y:α} (h:l[i]? = some y) (k:α→Option γ):Qr l (i:Int) k=k y:=by
 unfold Qr
 rw [Ky (by omega:(0:Int)≤(i:Int)),cond_true,show (i:Int).toNat=i by omega,h]; rfl
end generic
def mkN (i:Nat):Int:=8000024+(i:Int)
theorem mark_eq (i:Nat) (h:i < 12):G12 1 (i:Int)=some (mkN i):=by
 refine Z3 ?_
 unfold G12 mkN
 exact Z2 ⟨by decide,by decide⟩ (Z2 ⟨by decide,by decide⟩ (Z2 ⟨by omega,by omega⟩ (Gg (by omega))))
def Jcf (i:Nat):Move:=(R5 1 (i:Int)).getD default
theorem Ra5 (i:Nat) (h:i < 12):R5 1 (i:Int)=some (Jcf i):=by
 unfold Jcf R5
 rw [mark_eq i h]; rfl
theorem Qc8 {l:List Move} (hl:l.length≤1048576):Qx l=some (l,marks Jcf):=by
 unfold Qx
 exact Y1d Ra5 (by omega) hl
theorem Qc9 {l:List Move} (hl:l.length≤1048576):Ru (l,marks Jcf) l=some true:=by
 unfold Ru
 exact Y1f Ra5 hl
end Go.Proofs.YtmfhaflabpnaoaaGreat
