/-
 The library's insertion sort,as the extractor's model has it: it sorts,and keeps the elements. What a model returns, step by step: 'Wp m Q': the model m returns something of which Q holds.
-/
import Derived.Test.YteogacmpgdpjlaaGreatExt
import Derived.Test.YteogacmpgdpjlaaGreatRel
namespace Go.Proofs.YteogacmpgdpjlaaGreat
open Go.RowKit

section isort
variable {α:Type}
/-- The model of slices.insertionSortCmpFunc, whatever the elements are. -/
def isortM [Inhabited α] (F:Nat) (data:List α) (a:Int) (b:Int) (cmp:α→α→Option Int):Option (List α):=
 Yn (a+1) fun v2=>
 loop (fun nx3 (s3:Int×(List α))=>
  bif decide (s3.1 < b) then
  (loop (fun nx58 (s58:Int×(List α))=>
    bnd (bif decide (a < s58.1) then Jc s58.2 s58.1 some else some default) fun y61=>
    bnd (bif decide (a < s58.1) then Yn (s58.1 - 1) some else some 0) fun v62=>
    bnd (bif decide (a < s58.1) then Jc s58.2 v62 some else some default) fun y63=>
    bnd (bif decide (a < s58.1) then cmp y61 y63 else some default) fun r64=>
    bif ((decide (a < s58.1))&&(decide (r64 < 0))) then
    (Yn (s58.1 - 1) fun v66=>
     Yn (s58.1 - 1) fun v67=>
     Jc s58.2 v67 fun y68=>
     Jc s58.2 s58.1 fun y69=>
     Jc s58.2 s58.1 fun y70=>
     Jc (s58.2.set s58.1.toNat y68) v66 fun y71=>
     Yn (s58.1 - 1) fun v72=>
     nx58 (v72,((s58.2.set s58.1.toNat y68).set v66.toNat y69)))
    else
    (Yn (s3.1+1) fun v73=>
     nx3 (v73,s58.2))) F (s3.1,s3.2))
  else
  (some s3.2)) F (v2,data)

/-- An element moves ahead of those before it that are greater; the first list is backwards. -/
def J40 (c:α→α→Int) (x:α):List α→List α→List α
 | [],mid=>x::mid
 | p::rp,mid=>if c x p < 0 then J40 c x rp (p::mid) else (p::rp).reverse++x::mid
def H0e (c:α→α→Int):List α→List α→List α
 | d,[]=>d
 | d,x::t=>H0e c (J40 c x d.reverse []) t
/-- Sorting by insertion. -/
def Gb5 (c:α→α→Int) (l:List α):List α:=H0e c [] l

theorem J36 (c:α→α→Int) (x:α):∀ (rp mid:List α),(J40 c x rp mid).Perm (rp.reverse++x::mid)
 | [],mid=>.refl _
 | p::rp,mid=>by
  unfold J40
  split
  ·refine(J36 c x rp (p::mid)).trans ?_
   rw [List.reverse_cons,List.append_assoc]
   refine List.Perm.append_left _ ?_
   exact List.Perm.swap p x mid
  ·exact .refl _
theorem insb_length (c:α→α→Int) (x:α) (rp mid:List α):(J40 c x rp mid).length=rp.length+1+mid.length:=by
 rw [(J36 c x rp mid).length_eq]; simp; omega
theorem Jda (c:α→α→Int):∀ (t d:List α),(H0e c d t).Perm (d++t)
 | [],d=>by rw [List.append_nil]; exact .refl _
 | x::t,d=>by
  unfold H0e
  refine(Jda c t _).trans ?_
  have h:=J36 c x d.reverse []
  rw [List.reverse_reverse] at h
  refine(h.append_right t).trans ?_
  simp
theorem G95 (c:α→α→Int) (l:List α):(Gb5 c l).Perm l:=Jda c l []
theorem Ga4 {c:α→α→Int} {l:List α} {x:α}:x∈Gb5 c l ↔ x∈l:=(G95 c l).mem_iff
theorem J13 (c:α→α→Int) (l:List α):(Gb5 c l).length=l.length:=(G95 c l).length_eq

/-- What a comparison must be for its sorts. -/
structure Q50 (c:α→α→Int):Prop where
 asym:∀ x y,c x y < 0→¬ c y x < 0
 ntrans:∀ x y z,¬ c y x < 0→¬ c z y < 0→¬ c z x < 0
abbrev leOf (c:α→α→Int) (x y:α):Prop:=¬ c y x < 0

theorem Jdd {c:α→α→Int} (hc:Q50 c) (x:α):∀ (rp mid:List α),(rp.reverse++mid).Pairwise (leOf c)→(∀ y∈mid,c x y < 0)→(J40 c x rp mid).Pairwise (leOf c)
 | [],mid,h,hm=>by
  unfold J40
  exact List.pairwise_cons.2 ⟨fun y hy=>hc.asym _ _ (hm y hy),h⟩
 | p::rp,mid,h,hm=>by
  unfold J40
  split
  ·rename_i hlt
   refine Jdd hc x rp (p::mid) ?_ ?_
   ·rw [List.reverse_cons,List.append_assoc] at h; exact h
   ·intro y hy
    rcases List.mem_cons.1 hy with rfl | hy
    ·exact hlt
    ·exact hm y hy
  ·rename_i hlt
   rw [List.pairwise_append] at h ⊢
   refine⟨h.1,List.pairwise_cons.2 ⟨fun y hy=>hc.asym _ _ (hm y hy),h.2.1⟩,fun a ha b hb=>?_⟩
   rcases List.mem_cons.1 hb with rfl | hb
   ·have hap:leOf c a p:=by
     rw [List.reverse_cons,List.pairwise_append] at h
     rw [List.reverse_cons] at ha
     rcases List.mem_append.1 ha with ha | ha
     ·exact h.1.2.2 a ha p (by simp)
     ·have:a=p:=by simpa using ha
      subst this
      intro h1
      exact hc.asym _ _ h1 h1
    exact hc.ntrans _ _ _ hap hlt
   ·exact h.2.2 a ha b hb
theorem J4b {c:α→α→Int} (hc:Q50 c):∀ (t d:List α),d.Pairwise (leOf c)→(H0e c d t).Pairwise (leOf c)
 | [],_,h=>h
 | x::t,d,h=>by
  unfold H0e
  exact J4b hc t _ (Jdd hc x _ _ (by rw [List.reverse_reverse,List.append_nil]; exact h) (fun y hy=>by cases hy))
theorem Ga3 {c:α→α→Int} (hc:Q50 c) (l:List α):(Gb5 c l).Pairwise (leOf c):=J4b hc l [] .nil
theorem Jd9 {c:α→α→Int} (hc:Q50 c) {l q:List α} (hu:∀ a∈l,∀ b∈l,¬ c a b < 0→¬ c b a < 0→a=b) (hq:q.Perm l):Gb5 c q=Gb5 c l:=by
 refine List.Perm.eq_of_pairwise (le:=leOf c) (fun a b ha hb hab hba=>?_) (Ga3 hc q) (Ga3 hc l) ((G95 c q).trans (hq.trans (G95 c l).symm))
 exact hu a (hq.mem_iff.1 (Ga4.1 ha)) b (Ga4.1 hb) hba hab

theorem J19 {β:Type} {z:Int} {k:Int→Option β} (h : -9223372036854775808≤z∧z≤9223372036854775807):Yn z k=k z:=by
 unfold Yn inI64
 rw [decide_eq_true h.1,decide_eq_true h.2]; rfl
theorem J37 {β:Type} {l:List α} {i:Int} {k:α→Option β} {m:Nat} {x:α} (hi:i=(m:Int)) (hx:l[m]? = some x):Jc l i k=k x:=by
 subst hi
 unfold Jc
 rw [decide_eq_true (by omega:(0:Int)≤m),cond_true,show (m:Int).toNat=m by omega,hx]
 rfl

theorem Jdc [Inhabited α] {β:Type} {cmp:α→α→Option Int} {c:α→α→Int} (hc:∀ x y,cmp x y=some (c x y)) {i:Int} {x:α} {post:List α} {nx3:Int×List α→Option β}
  (hi : -9223372036854775808≤i+1∧i+1≤9223372036854775807) :
  ∀ (rp mid:List α) (n:Nat),rp.length < n→rp.length < 4611686018427387904 →
  loop (fun nx58 (s58:Int×(List α))=>
    bnd (bif decide (0 < s58.1) then Jc s58.2 s58.1 some else some default) fun y61=>
    bnd (bif decide (0 < s58.1) then Yn (s58.1 - 1) some else some 0) fun v62=>
    bnd (bif decide (0 < s58.1) then Jc s58.2 v62 some else some default) fun y63=>
    bnd (bif decide (0 < s58.1) then cmp y61 y63 else some default) fun r64=>
    bif ((decide (0 < s58.1))&&(decide (r64 < 0))) then
    (Yn (s58.1 - 1) fun v66=>
     Yn (s58.1 - 1) fun v67=>
     Jc s58.2 v67 fun y68=>
     Jc s58.2 s58.1 fun y69=>
     Jc s58.2 s58.1 fun y70=>
     Jc (s58.2.set s58.1.toNat y68) v66 fun y71=>
     Yn (s58.1 - 1) fun v72=>
     nx58 (v72,((s58.2.set s58.1.toNat y68).set v66.toNat y69)))
    else
    (Yn (i+1) fun v73=>
     nx3 (v73,s58.2))) n ((rp.length:Int),rp.reverse++x::(mid++post))=nx3 (i+1,J40 c x rp mid++post)
 | [],mid,n,hn,hl=>by
  obtain⟨n,rfl⟩:∃ m,n=m+1:=⟨n - 1,by simp at hn; omega⟩
  rw [loop]
  simp only [List.length_nil,Int.natCast_zero,Int.lt_irrefl,decide_false,cond_false,bnd,Bool.false_and]
  rw [J19 hi]; rfl
 | p::rp,mid,n,hn,hl=>by
  obtain⟨n,rfl⟩:∃ m,n=m+1:=⟨n - 1,by simp at hn; omega⟩
  rw [List.length_cons] at hn hl
  have e:(p::rp).reverse++x::(mid++post)=rp.reverse++p::x::(mid++post):=by simp
  have h0:(rp.reverse++p::x::(mid++post))[rp.length]? = some p:=by
   rw [List.getElem?_append_right (by simp)]; simp
  have h1:(rp.reverse++p::x::(mid++post))[rp.length+1]? = some x:=by
   rw [List.getElem?_append_right (by simp)]; simp
  have hj:decide (0 < (((p::rp).length:Nat):Int))=true:=by rw [decide_eq_true_eq,List.length_cons]; omega
  have hz:(((p::rp).length:Nat):Int)=((rp.length+1:Nat):Int):=by rw [List.length_cons]
  have ih:=Jdc (nx3:=nx3) (post:=post) (x:=x) hc hi rp (p::mid) n (by omega) (by omega)
  rw [e,loop]
  generalize loop _ n=k at ih ⊢
  simp only [hj,cond_true]
  rw [J37 (m:=rp.length+1) hz h1]
  simp only [bnd]
  rw [J19 (by rw [hz]; omega)]
  simp only
  rw [J37 (m:=rp.length) (by rw [hz]; omega) h0]
  simp only [hc,Bool.true_and]
  unfold J40
  by_cases hlt:c x p < 0
  ·rw [if_pos hlt,decide_eq_true hlt,cond_true]
   rw [J19 (by rw [hz]; omega),J19 (by rw [hz]; omega)]
   rw [J37 (m:=rp.length) (by rw [hz]; omega) h0,J37 (m:=rp.length+1) hz h1,J37 (m:=rp.length+1) hz h1]
   have hs1:(((p::rp).length:Nat):Int).toNat=rp.length+1:=by rw [hz]; omega
   have hs2:((((p::rp).length:Nat):Int) - 1).toNat=rp.length:=by rw [hz]; omega
   have hset1:(rp.reverse++p::x::(mid++post)).set (rp.length+1) p=rp.reverse++p::p::(mid++post):=by
    rw [List.set_append_right _ _ (by simp)]; simp
   have hset2:(rp.reverse++p::p::(mid++post)).set rp.length x=rp.reverse++x::p::(mid++post):=by
    rw [List.set_append_right _ _ (by simp)]; simp
   have hg:(rp.reverse++p::p::(mid++post))[rp.length]? = some p:=by
    rw [List.getElem?_append_right (by simp)]; simp
   rw [hs1,hset1,J37 (m:=rp.length) (by rw [hz]; omega) hg,J19 (by rw [hz]; omega),hs2,hset2]
   rw [show (((p::rp).length:Nat):Int) - 1=(rp.length:Int) by rw [hz]; omega]
   exact ih
  ·rw [if_neg hlt,decide_eq_false hlt,cond_false,J19 hi]
   simp

theorem Jdb [Inhabited α] {F:Nat} {cmp:α→α→Option Int} {c:α→α→Int} (hc:∀ x y,cmp x y=some (c x y)) {b:Nat} (hb:b < 4611686018427387904) (hF:b < F) :
  ∀ (t d:List α) (n:Nat),d.length+t.length=b→t.length < n →
  loop (fun nx3 (s3:Int×(List α))=>
  bif decide (s3.1 < (b:Int)) then
  (loop (fun nx58 (s58:Int×(List α))=>
    bnd (bif decide (0 < s58.1) then Jc s58.2 s58.1 some else some default) fun y61=>
    bnd (bif decide (0 < s58.1) then Yn (s58.1 - 1) some else some 0) fun v62=>
    bnd (bif decide (0 < s58.1) then Jc s58.2 v62 some else some default) fun y63=>
    bnd (bif decide (0 < s58.1) then cmp y61 y63 else some default) fun r64=>
    bif ((decide (0 < s58.1))&&(decide (r64 < 0))) then
    (Yn (s58.1 - 1) fun v66=>
     Yn (s58.1 - 1) fun v67=>
     Jc s58.2 v67 fun y68=>
     Jc s58.2 s58.1 fun y69=>
     Jc s58.2 s58.1 fun y70=>
     Jc (s58.2.set s58.1.toNat y68) v66 fun y71=>
     Yn (s58.1 - 1) fun v72=>
     nx58 (v72,((s58.2.set s58.1.toNat y68).set v66.toNat y69)))
    else
    (Yn (s3.1+1) fun v73=>
     nx3 (v73,s58.2))) F (s3.1,s3.2))
  else
  (some s3.2)) n ((d.length:Int),d++t)=some (H0e c d t)
 | [],d,n,hd,hn=>by
  obtain⟨n,rfl⟩:∃ m,n=m+1:=⟨n - 1,by simp at hn; omega⟩
  rw [loop]
  simp only [List.length_nil] at hd
  rw [decide_eq_false (by omega),cond_false]
  simp [H0e]
 | x::t,d,n,hd,hn=>by
  obtain⟨n,rfl⟩:∃ m,n=m+1:=⟨n - 1,by simp at hn; omega⟩
  rw [List.length_cons] at hd hn
  rw [loop]
  simp only
  rw [decide_eq_true (by omega),cond_true]
  have h:=Jdc (post:=t) (i:=(d.length:Int)) (x:=x) (nx3:=fun s3=>loop (fun nx3 (s3:Int×(List α))=>
  bif decide (s3.1 < (b:Int)) then
  (loop (fun nx58 (s58:Int×(List α))=>
    bnd (bif decide (0 < s58.1) then Jc s58.2 s58.1 some else some default) fun y61=>
    bnd (bif decide (0 < s58.1) then Yn (s58.1 - 1) some else some 0) fun v62=>
    bnd (bif decide (0 < s58.1) then Jc s58.2 v62 some else some default) fun y63=>
    bnd (bif decide (0 < s58.1) then cmp y61 y63 else some default) fun r64=>
    bif ((decide (0 < s58.1))&&(decide (r64 < 0))) then
    (Yn (s58.1 - 1) fun v66=>
     Yn (s58.1 - 1) fun v67=>
     Jc s58.2 v67 fun y68=>
     Jc s58.2 s58.1 fun y69=>
     Jc s58.2 s58.1 fun y70=>
     Jc (s58.2.set s58.1.toNat y68) v66 fun y71=>
     Yn (s58.1 - 1) fun v72=>
     nx58 (v72,((s58.2.set s58.1.toNat y68).set v66.toNat y69)))
    else
    (Yn (s3.1+1) fun v73=>
     nx3 (v73,s58.2))) F (s3.1,s3.2))
  else
  (some s3.2)) n s3) hc (by omega) d.reverse [] F (by simp; omega) (by simp; omega)
  rw [List.length_reverse,List.reverse_reverse,List.nil_append] at h
  rw [h]
  have hl:(J40 c x d.reverse []).length=d.length+1:=by rw [insb_length]; simp
  have:=Jdb hc hb hF t (J40 c x d.reverse []) n (by rw [hl]; omega) (by omega)
  rw [hl] at this
  rw [H0e,← this]
  rfl

theorem isortM_eq [Inhabited α] {F:Nat} {cmp:α→α→Option Int} {c:α→α→Int} (hc:∀ x y,cmp x y=some (c x y)) {data:List α} {b:Int} (hb:b=(data.length:Int)) (hl:data.length < 4611686018427387904) (hF:data.length < F) :
  isortM F data 0 b cmp=some (Gb5 c data):=by
 subst hb
 unfold isortM
 rw [J19 (by omega)]
 cases data with
 | nil=>
  obtain⟨n,rfl⟩:∃ m,F=m+1:=⟨F - 1,by simp at hF; omega⟩
  rw [loop]; rfl
 | cons x t=>
  have h:=Jdb (F:=F) hc hl hF t [x] F (by simp; omega) (by simp at hF; omega)
  rw [Gb5,H0e,List.reverse_nil,J40]
  rw [← h]
  rfl
end isort

end Go.Proofs.YteogacmpgdpjlaaGreat
namespace Go.Proofs.YteogacmpgdpjlaaGreat

section
variable {α β σ : Type} {Q : β → Prop}

def Wp (m : Option β) (Q : β → Prop) : Prop := ∃ r, m = some r ∧ Q r

theorem Gn {r : β} (h : Q r) : Wp (some r) Q := ⟨r, rfl, h⟩
theorem wp_mono {m : Option β} {Q' : β → Prop} (h : Wp m Q') (hq : ∀ r, Q' r → Q r) : Wp m Q := by
  obtain ⟨r, e, h⟩ := h; exact ⟨r, e, hq r h⟩
theorem H5 {m : Option α} {k : α → Option β} (h : Wp m (fun x => Wp (k x) Q)) : Wp (bnd m k) Q := by
  obtain ⟨x, rfl, h⟩ := h; exact h
theorem Gy {m : Option α} {k : α → Option β} {x : α} (e : m = some x) (h : Wp (k x) Q) : Wp (bnd m k) Q := by subst e; exact h
theorem G1a {z : Int} {k : Int → Option β} (h1 : -9223372036854775808 ≤ z ∧ z ≤ 9223372036854775807) (h : Wp (k z) Q) : Wp (Yn z k) Q := by
  unfold Yn inI64
  rw [decide_eq_true h1.1, decide_eq_true h1.2]; exact h
theorem Hm {c : Bool} {x y : Option β} (h1 : c = true → Wp x Q) (h2 : c = false → Wp y Q) : Wp (bif c then x else y) Q := by
  cases c with
  | true => exact h1 rfl
  | false => exact h2 rfl
theorem Qy {b : Bool} {k : Option β} (hb : b = true) (h : Wp k Q) : Wp (need b k) Q := by subst hb; exact h
theorem G43 {l : List α} {i : Int} {k : α → Option β} {m : Nat} {x : α} (hi : i = (m : Int)) (hx : l[m]? = some x) (h : Wp (k x) Q) : Wp (Jc l i k) Q := by
  subst hi
  unfold Jc
  rw [decide_eq_true (by omega : (0 : Int) ≤ m), cond_true, show (m : Int).toNat = m by omega, hx]
  exact h
theorem G82 {m : (α → Option β) → Option β} {k : α → Option β} (P : α → Prop) (hm : ∀ K : α → Option β, (∀ a, P a → Wp (K a) Q) → Wp (m K) Q) (hk : ∀ a, P a → Wp (k a) Q) : Wp (jp m k) Q := hm k hk
theorem Q04 {i : Int} {n m : Nat} {Q : Nat → Prop} (hi : i = (m : Int)) (hm : m ≤ n) (h : Q m) : Wp (G61 i n) Q := by
  subst hi
  unfold G61
  rw [decide_eq_true (by omega : (0 : Int) ≤ m), show (m : Int).toNat = m by omega, decide_eq_true hm]
  exact Gn h
theorem Q3 (I : List α → σ → Prop) {b : α → Nat → σ → (σ → Option β) → Option β} {kx : σ → Option β} {xs : List α} {s : σ} (h0 : I [] s)
    (hb : ∀ pre x post s nx, xs = pre ++ x :: post → I pre s → (∀ s', I (pre ++ [x]) s' → Wp (nx s') Q) → Wp (b x pre.length s nx) Q) (hk : ∀ s, I xs s → Wp (kx s) Q) : Wp (each b kx xs 0 s) Q := by
  have key : ∀ (post pre : List α) (s : σ), xs = pre ++ post → I pre s → Wp (each b kx post pre.length s) Q := by
    intro post
    induction post with
    | nil => intro pre s e hi; rw [List.append_nil] at e; subst e; exact hk s hi
    | cons x post ih =>
      intro pre s e hi
      rw [each]
      refine hb pre x post s _ e hi (fun s' hs' => ?_)
      have := ih (pre ++ [x]) s' (by rw [e]; simp) hs'
      rw [List.length_append, List.length_singleton] at this
      exact this
  exact key xs [] s rfl h0
theorem Gec (I : Nat → σ → Prop) {b : Nat → σ → (σ → Option β) → Option β} {kx : σ → Option β} {n : Nat} {s : σ} (h0 : I 0 s)
    (hb : ∀ i s nx, i < n → I i s → (∀ s', I (i + 1) s' → Wp (nx s') Q) → Wp (b i s nx) Q) (hk : ∀ s, I n s → Wp (kx s) Q) : Wp (upto b kx n 0 s) Q := by
  have key : ∀ (m i : Nat) (s : σ), i + m = n → I i s → Wp (upto b kx m i s) Q := by
    intro m
    induction m with
    | zero => intro i s e hi; have e : i = n := by omega
              subst e; exact hk s hi
    | succ m ih =>
      intro i s e hi
      rw [upto]
      exact hb i s _ (by omega) hi (fun s' hs' => ih (i + 1) s' (by omega) hs')
  exact key n 0 s (by omega) h0
theorem G38 {m : Option β} {r : β} (h : Wp m (· = r)) : m = some r := by
  obtain ⟨x, e, rfl⟩ := h; exact e
end

/-- The places at which something holds. -/
def Hb4 {α : Type} (p : α → Bool) (l : List α) : List Int := (l.zipIdx.filter (fun x => p x.1)).map (fun x => (x.2 : Int))
theorem idxs_snoc {α : Type} (p : α → Bool) (l : List α) (x : α) : Hb4 p (l ++ [x]) = Hb4 p l ++ (if p x then [(l.length : Int)] else []) := by
  unfold Hb4
  rw [List.zipIdx_append, List.filter_append, List.map_append]
  by_cases h : p x <;> simp [h]
theorem idxs_length {α : Type} (p : α → Bool) (l : List α) : (Hb4 p l).length ≤ l.length := by
  unfold Hb4
  rw [List.length_map]
  exact Nat.le_trans (List.length_filter_le _ _) (by simp)
theorem idxs_nil {α : Type} {p : α → Bool} {l : List α} : Hb4 p l = [] ↔ ∀ x ∈ l, p x = false := by
  unfold Hb4
  rw [List.map_eq_nil_iff, List.filter_eq_nil_iff]
  constructor
  · intro h x hx
    obtain ⟨i, hi⟩ := List.mem_iff_getElem?.1 hx
    have := h (x, i) (List.mk_mem_zipIdx_iff_getElem?.2 hi)
    simpa using this
  · intro h y hy
    have := h y.1 (List.mem_iff_getElem?.2 ⟨y.2, List.mk_mem_zipIdx_iff_getElem?.1 hy⟩)
    simp [this]
end Go.Proofs.YteogacmpgdpjlaaGreat
