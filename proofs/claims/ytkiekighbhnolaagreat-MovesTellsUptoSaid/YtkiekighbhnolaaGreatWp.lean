/-
 The library's insertion sort,as the extractor's model has it What a model returns,
-/
import Derived.Test.YtkiekighbhnolaaGreatExt
import Derived.Test.YtkiekighbhnolaaGreatNest2
set_option linter.unusedVariables false
namespace Go.Proofs.YtkiekighbhnolaaGreat
open Go.RowKit

section isort
variable {J:Type}
def Q59 [Inhabited J] (F:Nat) (data:List J) (a:Int) (b:Int) (cmp:J->J->Option Int):Option (List J):=
 chk (a+1) fun v2=>
 loop (fun nx3 (s3:Int×(List J))=>
  bif decide (s3.1 < b) then
  (loop (fun nx58 (s58:Int×(List J))=>
    bnd (bif decide (a < s58.1) then Jk s58.2 s58.1 some else some default) fun y61=>
    bnd (bif decide (a < s58.1) then chk (s58.1 - 1) some else some 0) fun v62=>
    bnd (bif decide (a < s58.1) then Jk s58.2 v62 some else some default) fun y63=>
    bnd (bif decide (a < s58.1) then cmp y61 y63 else some default) fun r64=>
    bif ((decide (a < s58.1))&&(decide (r64 < 0))) then
    (chk (s58.1 - 1) fun v66=>
     chk (s58.1 - 1) fun v67=>
     Jk s58.2 v67 fun y68=>
     Jk s58.2 s58.1 fun y69=>
     Jk s58.2 s58.1 fun y70=>
     Jk (s58.2.set s58.1.toNat y68) v66 fun y71=>
     chk (s58.1 - 1) fun v72=>
     nx58 (v72,((s58.2.set s58.1.toNat y68).set v66.toNat y69)))
    else
    (chk (s3.1+1) fun v73=>
     nx3 (v73,s58.2))) F (s3.1,s3.2))
  else
  (some s3.2)) F (v2,data)

def RI (c:J->J->Int) (x:J):List J->List J->List J
 | [],mid=>x::mid
 | p::rp,mid=>if c x p < 0 then RI c x rp (p::mid) else (p::rp).reverse++x::mid
def pL (c:J->J->Int):List J->List J->List J
 | d,[]=>d
 | d,x::t=>pL c (RI c x d.reverse []) t
def kV (c:J->J->Int) (l:List J):List J:=pL c [] l

theorem QY (c:J->J->Int) (x:J):∀ (rp mid:List J),(RI c x rp mid).Perm (rp.reverse++x::mid)
 | [],mid=>.refl _
 | p::rp,mid=>by
  unfold RI;split
  .refine(QY c x rp (p::mid)).trans ?_;rw [List.reverse_cons,List.append_assoc];refine List.Perm.append_left _ ?_;exact List.Perm.swap p x mid
  .exact .refl _
theorem J19 (c:J->J->Int) (x:J) (rp mid:List J):(RI c x rp mid).length=rp.length+1+mid.length:=by
 rw [(QY c x rp mid).length_eq]; simp; omega
theorem G7a (c:J->J->Int):∀ (t d:List J),(pL c d t).Perm (d++t)
 | [],d=>by rw [List.append_nil]; exact .refl _
 | x::t,d=>by
  unfold pL;refine(G7a c t _).trans ?_;have h:=QY c x d.reverse [];rw [List.reverse_reverse] at h;refine(h.append_right t).trans ?_;simp
theorem jG (c:J->J->Int) (l:List J):(kV c l).Perm l:=G7a c l []
variable {l:List J} {c:J->J->Int}
theorem jY {x:J}:x∈kV c l ↔ x∈l:=(jG c l).mem_iff
theorem JN (c:J->J->Int) (l:List J):(kV c l).length=l.length:=(jG c l).length_eq

structure Gf7 (c:J->J->Int):Prop where
 asym:∀ x y,c x y < 0->¬ c y x < 0
 ntrans:∀ x y z,¬ c y x < 0->¬ c z y < 0->¬ c z x < 0
abbrev H27 (c:J->J->Int) (x y:J):Prop:=¬ c y x < 0

theorem G7d {c:J->J->Int} (hc:Gf7 c) (x:J):∀ (rp mid:List J),(rp.reverse++mid).Pairwise (H27 c)->(∀ y∈mid,c x y < 0)->(RI c x rp mid).Pairwise (H27 c)
 | [],mid,h,hm=>by
  unfold RI;exact List.pairwise_cons.2 ⟨fun y hy=>hc.asym _ _ (hm y hy),h⟩
 | p::rp,mid,h,hm=>by
  unfold RI;split
  .rename_i h0;refine G7d hc x rp (p::mid) ?_ ?_
   .rw [List.reverse_cons,List.append_assoc] at h; exact h
   .intro y hy;rcases Se.1 hy with rfl | hy
    .exact h0
    .exact hm y hy
  .rename_i h0;rw [List.pairwise_append] at h ⊢;refine⟨h.1,List.pairwise_cons.2 ⟨fun y hy=>hc.asym _ _ (hm y hy),h.2.1⟩,fun a ha b hb=>?_⟩;rcases Se.1 hb with rfl | hb
   .have h2:H27 c a p:=by
     rw [List.reverse_cons,List.pairwise_append] at h;rw [List.reverse_cons] at ha;rcases Sb.1 ha with ha | ha
     .exact h.1.2.2 a ha p (by simp)
     .have:a=p:=by simpa using ha
      subst this;intro h1;exact hc.asym _ _ h1 h1
    exact hc.ntrans _ _ _ h2 h0
   .exact h.2.2 a ha b hb
theorem RT {c:J->J->Int} (hc:Gf7 c):∀ (t d:List J),d.Pairwise (H27 c)->(pL c d t).Pairwise (H27 c)
 | [],_,h=>h
 | x::t,d,h=>by
  unfold pL;exact RT hc t _ (G7d hc x _ _ (by rw [List.reverse_reverse,List.append_nil]; exact h) (fun y hy=>by cases hy))
theorem jX (hc:Gf7 c) (l:List J):(kV c l).Pairwise (H27 c):=RT hc l [] .nil
theorem G79 (hc:Gf7 c) {q:List J} (hu:∀ a∈l,∀ b∈l,¬ c a b < 0->¬ c b a < 0->a=b) (hq:q.Perm l):kV c q=kV c l:=by
 refine List.Perm.eq_of_pairwise (le:=H27 c) (fun a b ha hb h0 h1=>?_) (jX hc q) (jX hc l) ((jG c q).trans (hq.trans (jG c l).symm));exact hu a (hq.mem_iff.1 (jY.1 ha)) b (jY.1 hb) h1 h0

theorem uF {β:Type} {z:Int} {k:Int->Option β} (h : -9223372036854775808<=z/\z<=9223372036854775807):chk z k=k z:=by
 unfold chk J1a;rw [Ps h.1,Ps h.2]; rfl
theorem QZ {β:Type} {i:Int} {k:J->Option β} {m:Nat} {x:J} (hi:i=(m:Int)) (hx:l[m]? = some x):Jk l i k=k x:=by
 subst hi;unfold Jk;rw [Ps (by omega:(0:Int)<=m),cond_true,show (m:Int).toNat=m by omega,hx];rfl

theorem G7c [Inhabited J] {β:Type} {cmp:J->J->Option Int} {c:J->J->Int} (hc:∀ x y,cmp x y=some (c x y)) {i:Int} {x:J} {post:List J} {nx3:Int×List J->Option β}
  (hi : -9223372036854775808<=i+1/\i+1<=9223372036854775807) :
  ∀ (rp mid:List J) (n:Nat),rp.length < n->rp.length < 4611686018427387904 ->
  loop (fun nx58 (s58:Int×(List J))=>
    bnd (bif decide (0 < s58.1) then Jk s58.2 s58.1 some else some default) fun y61=>
    bnd (bif decide (0 < s58.1) then chk (s58.1 - 1) some else some 0) fun v62=>
    bnd (bif decide (0 < s58.1) then Jk s58.2 v62 some else some default) fun y63=>
    bnd (bif decide (0 < s58.1) then cmp y61 y63 else some default) fun r64=>
    bif ((decide (0 < s58.1))&&(decide (r64 < 0))) then
    (chk (s58.1 - 1) fun v66=>
     chk (s58.1 - 1) fun v67=>
     Jk s58.2 v67 fun y68=>
     Jk s58.2 s58.1 fun y69=>
     Jk s58.2 s58.1 fun y70=>
     Jk (s58.2.set s58.1.toNat y68) v66 fun y71=>
     chk (s58.1 - 1) fun v72=>
     nx58 (v72,((s58.2.set s58.1.toNat y68).set v66.toNat y69)))
    else
    (chk (i+1) fun v73=>
     nx3 (v73,s58.2))) n ((rp.length:Int),rp.reverse++x::(mid++post))=nx3 (i+1,RI c x rp mid++post)
 | [],mid,n,hn,hl=>by
  obtain⟨n,rfl⟩:∃ m,n=m+1:=⟨n - 1,by simp at hn; omega⟩;rw [loop];simp only [List.length_nil,Int.natCast_zero,Int.lt_irrefl,decide_false,cond_false,bnd,Bool.false_and];rw [uF hi]; rfl
 | p::rp,mid,n,hn,hl=>by
  obtain⟨n,rfl⟩:∃ m,n=m+1:=⟨n - 1,by simp at hn; omega⟩;rw [S2] at hn hl;have e:(p::rp).reverse++x::(mid++post)=rp.reverse++p::x::(mid++post):=by simp
  have h0:(rp.reverse++p::x::(mid++post))[rp.length]? = some p:=by
   rw [S0 (by simp)]; simp
  have h1:(rp.reverse++p::x::(mid++post))[rp.length+1]? = some x:=by
   rw [S0 (by simp)]; simp
  have hj:decide (0 < (((p::rp).length:Nat):Int))=true:=by rw [S9,S2]; omega
  have hz:(((p::rp).length:Nat):Int)=((rp.length+1:Nat):Int):=by rw [S2]
  have ih:=G7c (nx3:=nx3) (post:=post) (x:=x) hc hi rp (p::mid) n (by omega) (by omega);rw [e,loop];generalize loop _ n=k at ih ⊢;simp only [hj,cond_true];rw [QZ (m:=rp.length+1) hz h1];simp only [bnd];rw [uF (by rw [hz]; omega)];simp only;rw [QZ (m:=rp.length) (by rw [hz]; omega) h0];simp only [hc,Bool.true_and];unfold RI;by_cases h2:c x p < 0
  .rw [if_pos h2,Ps h2,cond_true];rw [uF (by rw [hz]; omega),uF (by rw [hz]; omega)];rw [QZ (m:=rp.length) (by rw [hz]; omega) h0,QZ (m:=rp.length+1) hz h1,QZ (m:=rp.length+1) hz h1];have h5:(((p::rp).length:Nat):Int).toNat=rp.length+1:=by rw [hz]; omega
   have h6:((((p::rp).length:Nat):Int) - 1).toNat=rp.length:=by rw [hz]; omega
   have h3:(rp.reverse++p::x::(mid++post)).set (rp.length+1) p=rp.reverse++p::p::(mid++post):=by
    rw [List.set_append_right _ _ (by simp)]; simp
   have h4:(rp.reverse++p::p::(mid++post)).set rp.length x=rp.reverse++x::p::(mid++post):=by
    rw [List.set_append_right _ _ (by simp)]; simp
   have hg:(rp.reverse++p::p::(mid++post))[rp.length]? = some p:=by
    rw [S0 (by simp)]; simp
   rw [h5,h3,QZ (m:=rp.length) (by rw [hz]; omega) hg,uF (by rw [hz]; omega),h6,h4];rw [show (((p::rp).length:Nat):Int) - 1=(rp.length:Int) by rw [hz]; omega];exact ih
  .rw [if_neg h2,Pt h2,cond_false,uF hi];simp

theorem G7b [Inhabited J] {F:Nat} {cmp:J->J->Option Int} {c:J->J->Int} (hc:∀ x y,cmp x y=some (c x y)) {b:Nat} (hb:b < 4611686018427387904) (hF:b < F) :
  ∀ (t d:List J) (n:Nat),d.length+t.length=b->t.length < n ->
  loop (fun nx3 (s3:Int×(List J))=>
  bif decide (s3.1 < (b:Int)) then
  (loop (fun nx58 (s58:Int×(List J))=>
    bnd (bif decide (0 < s58.1) then Jk s58.2 s58.1 some else some default) fun y61=>
    bnd (bif decide (0 < s58.1) then chk (s58.1 - 1) some else some 0) fun v62=>
    bnd (bif decide (0 < s58.1) then Jk s58.2 v62 some else some default) fun y63=>
    bnd (bif decide (0 < s58.1) then cmp y61 y63 else some default) fun r64=>
    bif ((decide (0 < s58.1))&&(decide (r64 < 0))) then
    (chk (s58.1 - 1) fun v66=>
     chk (s58.1 - 1) fun v67=>
     Jk s58.2 v67 fun y68=>
     Jk s58.2 s58.1 fun y69=>
     Jk s58.2 s58.1 fun y70=>
     Jk (s58.2.set s58.1.toNat y68) v66 fun y71=>
     chk (s58.1 - 1) fun v72=>
     nx58 (v72,((s58.2.set s58.1.toNat y68).set v66.toNat y69)))
    else
    (chk (s3.1+1) fun v73=>
     nx3 (v73,s58.2))) F (s3.1,s3.2))
  else
  (some s3.2)) n ((d.length:Int),d++t)=some (pL c d t)
 | [],d,n,hd,hn=>by
  obtain⟨n,rfl⟩:∃ m,n=m+1:=⟨n - 1,by simp at hn; omega⟩;rw [loop];simp only [List.length_nil] at hd;rw [Pt (by omega),cond_false];simp [pL]
 | x::t,d,n,hd,hn=>by
  obtain⟨n,rfl⟩:∃ m,n=m+1:=⟨n - 1,by simp at hn; omega⟩;rw [S2] at hd hn;rw [loop];simp only;rw [Ps (by omega),cond_true];have h:=G7c (post:=t) (i:=(d.length:Int)) (x:=x) (nx3:=fun s3=>loop (fun nx3 (s3:Int×(List J))=>
  bif decide (s3.1 < (b:Int)) then
  (loop (fun nx58 (s58:Int×(List J))=>
    bnd (bif decide (0 < s58.1) then Jk s58.2 s58.1 some else some default) fun y61=>
    bnd (bif decide (0 < s58.1) then chk (s58.1 - 1) some else some 0) fun v62=>
    bnd (bif decide (0 < s58.1) then Jk s58.2 v62 some else some default) fun y63=>
    bnd (bif decide (0 < s58.1) then cmp y61 y63 else some default) fun r64=>
    bif ((decide (0 < s58.1))&&(decide (r64 < 0))) then
    (chk (s58.1 - 1) fun v66=>
     chk (s58.1 - 1) fun v67=>
     Jk s58.2 v67 fun y68=>
     Jk s58.2 s58.1 fun y69=>
     Jk s58.2 s58.1 fun y70=>
     Jk (s58.2.set s58.1.toNat y68) v66 fun y71=>
     chk (s58.1 - 1) fun v72=>
     nx58 (v72,((s58.2.set s58.1.toNat y68).set v66.toNat y69)))
    else
    (chk (s3.1+1) fun v73=>
     nx3 (v73,s58.2))) F (s3.1,s3.2))
  else
  (some s3.2)) n s3) hc (by omega) d.reverse [] F (by simp; omega) (by simp; omega)
  rw [List.length_reverse,List.reverse_reverse,List.nil_append] at h;rw [h];have hl:(RI c x d.reverse []).length=d.length+1:=by rw [J19]; simp
  have:=G7b hc hb hF t (RI c x d.reverse []) n (by rw [hl]; omega) (by omega);rw [hl] at this;rw [pL,<- this];rfl

theorem H57 [Inhabited J] {F:Nat} {cmp:J->J->Option Int} (hc:∀ x y,cmp x y=some (c x y)) {data:List J} {b:Int} (hb:b=(data.length:Int)) (hl:data.length < 4611686018427387904) (hF:data.length < F) :
  Q59 F data 0 b cmp=some (kV c data):=by
 subst hb;unfold Q59;rw [uF (by omega)];cases data with
 | nil=>
  obtain⟨n,rfl⟩:∃ m,F=m+1:=⟨F - 1,by simp at hF; omega⟩;rw [loop]; rfl
 | cons x t=>
  have h:=G7b (F:=F) hc hl hF t [x] F (by simp; omega) (by simp at hF; omega);rw [kV,pL,List.reverse_nil,RI];rw [<- h];rfl
end isort


section
variable {J β W : Type} {Q : β -> Prop}

def Wp (m : Option β) (Q : β -> Prop) : Prop := ∃ r, m = some r /\ Q r

theorem Gg {r : β} (h : Q r:=by rfl) : Wp (some r) Q := ⟨r, rfl, h⟩
theorem wp_mono {m : Option β} {Q' : β -> Prop} (h : Wp m Q') (hq : ∀ r, Q' r -> Q r) : Wp m Q := by
  obtain ⟨r, e, h⟩ := h; exact ⟨r, e, hq r h⟩
variable {k:J -> Option β}
theorem H6 {m : Option J} (h : Wp m (fun x => Wp (k x) Q)) : Wp (bnd m k) Q := by
  obtain ⟨x, rfl, h⟩ := h; exact h
theorem Gt {m : Option J} {x : J} (e : m = some x) (h : Wp (k x) Q) : Wp (bnd m k) Q := by subst e; exact h
theorem aT {z : Int} {k : Int -> Option β} (h1 : -9223372036854775808 <= z /\ z <= 9223372036854775807) (h : Wp (k z) Q) : Wp (chk z k) Q := by
  unfold chk J1a;rw [Ps h1.1, Ps h1.2]; exact h
theorem H7 {c : Bool} {x y : Option β} (h1 : c = true -> Wp x Q) (h2 : c = false -> Wp y Q) : Wp (bif c then x else y) Q := by
  cases c with
  | true => exact h1 rfl
  | false => exact h2 rfl
theorem Qs {b : Bool} {k : Option β} (hb : b = true) (h : Wp k Q) : Wp (need b k) Q := by subst hb; exact h
theorem Z2 {l : List J} {i : Int} {m : Nat} {x : J} (hi : i = (m : Int)) (hx : l[m]? = some x) (h : Wp (k x) Q) : Wp (Jk l i k) Q := by
  subst hi;unfold Jk;rw [Ps (by omega : (0 : Int) <= m), cond_true, show (m : Int).toNat = m by omega, hx];exact h
theorem gR {m : (J -> Option β) -> Option β} (P : J -> Prop) (hm : ∀ K : J -> Option β, (∀ a, P a -> Wp (K a) Q) -> Wp (m K) Q) (hk : ∀ a, P a -> Wp (k a) Q) : Wp (jp m k) Q := hm k hk
theorem Gac {i : Int} {n m : Nat} {Q : Nat -> Prop} (hi : i = (m : Int)) (hm : m <= n) (h : Q m) : Wp (oP i n) Q := by
  subst hi;unfold oP;rw [Ps (by omega : (0 : Int) <= m), show (m : Int).toNat = m by omega, Ps hm];exact Gg h
theorem Jw (I : List J -> W -> Prop) {b : J -> Nat -> W -> (W -> Option β) -> Option β} {kx : W -> Option β} {xs : List J} {s : W} (h0 : I [] s)
    (hb : ∀ pre x post s nx, xs = pre ++ x :: post -> I pre s -> (∀ s', I (pre ++ [x]) s' -> Wp (nx s') Q) -> Wp (b x pre.length s nx) Q) (hk : ∀ s, I xs s -> Wp (kx s) Q) : Wp (each b kx xs 0 s) Q := by
  have key : ∀ (post pre : List J) (s : W), xs = pre ++ post -> I pre s -> Wp (each b kx post pre.length s) Q := by
    intro post
    induction post with
    | nil => intro pre s e hi; rw [List.append_nil] at e; subst e; exact hk s hi
    | cons x post ih =>
      intro pre s e hi;rw [each];refine hb pre x post s _ e hi (fun s' h1 => ?_);have := ih (pre ++ [x]) s' (by rw [e]; simp) h1;rw [S6, S7] at this;exact this
  exact key xs [] s rfl h0
theorem kO (I : Nat -> W -> Prop) {b : Nat -> W -> (W -> Option β) -> Option β} {kx : W -> Option β} {n : Nat} {s : W} (h0 : I 0 s)
    (hb : ∀ i s nx, i < n -> I i s -> (∀ s', I (i + 1) s' -> Wp (nx s') Q) -> Wp (b i s nx) Q) (hk : ∀ s, I n s -> Wp (kx s) Q) : Wp (upto b kx n 0 s) Q := by
  have key : ∀ (m i : Nat) (s : W), i + m = n -> I i s -> Wp (upto b kx m i s) Q := by
    intro m
    induction m with
    | zero => intro i s e hi; have e : i = n := by omega
              subst e; exact hk s hi
    | succ m ih =>
      intro i s e hi;rw [upto];exact hb i s _ (by omega) hi (fun s' h1 => ih (i + 1) s' (by omega) h1)
  exact key n 0 s (by omega) h0
theorem Ys {m : Option β} {r : β} (h : Wp m (· = r)) : m = some r := by
  obtain ⟨x, e, rfl⟩ := h; exact e
end

def yC {J : Type} (p : J -> Bool) (l : List J) : AE := (l.zipIdx.filter (fun x => p x.1)).map (fun x => (x.2 : Int))
variable {J:Type}
theorem H59 (p : J -> Bool) (l : List J) (x : J) : yC p (l ++ [x]) = yC p l ++ (if p x then [(l.length : Int)] else []) := by
  unfold yC;rw [List.zipIdx_append, List.filter_append, List.map_append];by_cases h : p x <;> simp [h]
theorem J1c (p : J -> Bool) (l : List J) : (yC p l).length <= l.length := by
  unfold yC;rw [Sa];exact Nat.le_trans (Pn _ _) (by simp)
theorem J1b {p : J -> Bool} {l : List J} : yC p l = [] ↔ ∀ x ∈ l, p x = false := by
  unfold yC;rw [List.map_eq_nil_iff, List.filter_eq_nil_iff];constructor
  · intro h x hx
    obtain ⟨i, hi⟩ := List.mem_iff_getElem?.1 hx;have := h (x, i) (List.mk_mem_zipIdx_iff_getElem?.2 hi);simpa using this
  · intro h y hy
    have := h y.1 (List.mem_iff_getElem?.2 ⟨y.2, List.mk_mem_zipIdx_iff_getElem?.1 hy⟩);simp [this]
end Go.Proofs.YtkiekighbhnolaaGreat
