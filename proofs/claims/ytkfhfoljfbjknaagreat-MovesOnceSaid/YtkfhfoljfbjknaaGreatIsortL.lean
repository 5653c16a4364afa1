/-
 The library's insertion sort,as the extractor's model has it: it sorts,and keeps the elements.
-/
import Derived.Test.YtkfhfoljfbjknaaGreatExt
namespace Go.Proofs.YtkfhfoljfbjknaaGreat
open Go.RowKit

section isort
variable {α:Type}
/-- The model of slices.insertionSortCmpFunc, whatever the elements are. -/
def isortM [Inhabited α] (F:Nat) (data:List α) (a:Int) (b:Int) (cmp:α→α→Option Int):Option (List α):=
 chk (a+1) fun v2=>
 loop (fun nx3 (s3:Int×(List α))=>
  bif decide (s3.1 < b) then
  (loop (fun nx58 (s58:Int×(List α))=>
    bnd (bif decide (a < s58.1) then Jy s58.2 s58.1 some else some default) fun y61=>
    bnd (bif decide (a < s58.1) then chk (s58.1 - 1) some else some 0) fun v62=>
    bnd (bif decide (a < s58.1) then Jy s58.2 v62 some else some default) fun y63=>
    bnd (bif decide (a < s58.1) then cmp y61 y63 else some default) fun r64=>
    bif ((decide (a < s58.1))&&(decide (r64 < 0))) then
    (chk (s58.1 - 1) fun v66=>
     chk (s58.1 - 1) fun v67=>
     Jy s58.2 v67 fun y68=>
     Jy s58.2 s58.1 fun y69=>
     Jy s58.2 s58.1 fun y70=>
     Jy (s58.2.set s58.1.toNat y68) v66 fun y71=>
     chk (s58.1 - 1) fun v72=>
     nx58 (v72,((s58.2.set s58.1.toNat y68).set v66.toNat y69)))
    else
    (chk (s3.1+1) fun v73=>
     nx3 (v73,s58.2))) F (s3.1,s3.2))
  else
  (some s3.2)) F (v2,data)

/-- An element moves ahead of those before it that are greater; the first list is backwards. -/
def insb (c:α→α→Int) (x:α):List α→List α→List α
 | [],mid=>x::mid
 | p::rp,mid=>if c x p < 0 then insb c x rp (p::mid) else (p::rp).reverse++x::mid
def isrtGo (c:α→α→Int):List α→List α→List α
 | d,[]=>d
 | d,x::t=>isrtGo c (insb c x d.reverse []) t
/-- Sorting by insertion. -/
def isrt (c:α→α→Int) (l:List α):List α:=isrtGo c [] l

theorem insb_perm (c:α→α→Int) (x:α):∀ (rp mid:List α),(insb c x rp mid).Perm (rp.reverse++x::mid)
 | [],mid=>.refl _
 | p::rp,mid=>by
  unfold insb
  split
  ·refine(insb_perm c x rp (p::mid)).trans ?_
   rw [List.reverse_cons,List.append_assoc]
   refine List.Perm.append_left _ ?_
   exact List.Perm.swap p x mid
  ·exact .refl _
theorem insb_length (c:α→α→Int) (x:α) (rp mid:List α):(insb c x rp mid).length=rp.length+1+mid.length:=by
 rw [(insb_perm c x rp mid).length_eq]; simp; omega
theorem isrtGo_perm (c:α→α→Int):∀ (t d:List α),(isrtGo c d t).Perm (d++t)
 | [],d=>by rw [List.append_nil]; exact .refl _
 | x::t,d=>by
  unfold isrtGo
  refine(isrtGo_perm c t _).trans ?_
  have h:=insb_perm c x d.reverse []
  rw [List.reverse_reverse] at h
  refine(h.append_right t).trans ?_
  simp
theorem isrt_perm (c:α→α→Int) (l:List α):(isrt c l).Perm l:=isrtGo_perm c l []
theorem isrt_mem {c:α→α→Int} {l:List α} {x:α}:x∈isrt c l ↔ x∈l:=(isrt_perm c l).mem_iff
theorem isrt_length (c:α→α→Int) (l:List α):(isrt c l).length=l.length:=(isrt_perm c l).length_eq

/-- What a comparison must be for its sorts. -/
structure Ordc (c:α→α→Int):Prop where
 asym:∀ x y,c x y < 0→¬ c y x < 0
 ntrans:∀ x y z,¬ c y x < 0→¬ c z y < 0→¬ c z x < 0
abbrev leOf (c:α→α→Int) (x y:α):Prop:=¬ c y x < 0

theorem insb_sorted {c:α→α→Int} (hc:Ordc c) (x:α):∀ (rp mid:List α),(rp.reverse++mid).Pairwise (leOf c)→(∀ y∈mid,c x y < 0)→(insb c x rp mid).Pairwise (leOf c)
 | [],mid,h,hm=>by
  unfold insb
  exact List.pairwise_cons.2 ⟨fun y hy=>hc.asym _ _ (hm y hy),h⟩
 | p::rp,mid,h,hm=>by
  unfold insb
  split
  ·rename_i hlt
   refine insb_sorted hc x rp (p::mid) ?_ ?_
   ·rw [List.reverse_cons,List.append_assoc] at h; exact h
   ·intro y hy
    rcases List.mem_cons.1 hy with rfl | hy
    ·exact hlt
    ·exact hm y hy
  ·rename_i hlt
   rw [List.pairwise_append] at h ⊢
   refine⟨h.1,List.pairwise_cons.2 ⟨fun y hy=>hc.asym _ _ (hm y hy),h.2.1⟩,fun a ha b hb=>?_⟩
   rcases List.mem_cons.1 hb with rfl | hb
   ·have hap:leOf c a p:=by
     rw [List.reverse_cons,List.pairwise_append] at h
     rw [List.reverse_cons] at ha
     rcases List.mem_append.1 ha with ha | ha
     ·exact h.1.2.2 a ha p (by simp)
     ·have:a=p:=by simpa using ha
      subst this
      intro h1
      exact hc.asym _ _ h1 h1
    exact hc.ntrans _ _ _ hap hlt
   ·exact h.2.2 a ha b hb
theorem isrtGo_sorted {c:α→α→Int} (hc:Ordc c):∀ (t d:List α),d.Pairwise (leOf c)→(isrtGo c d t).Pairwise (leOf c)
 | [],_,h=>h
 | x::t,d,h=>by
  unfold isrtGo
  exact isrtGo_sorted hc t _ (insb_sorted hc x _ _ (by rw [List.reverse_reverse,List.append_nil]; exact h) (fun y hy=>by cases hy))
theorem isrt_sorted {c:α→α→Int} (hc:Ordc c) (l:List α):(isrt c l).Pairwise (leOf c):=isrtGo_sorted hc l [] .nil
theorem isrt_unique {c:α→α→Int} (hc:Ordc c) {l q:List α} (hu:∀ a∈l,∀ b∈l,¬ c a b < 0→¬ c b a < 0→a=b) (hq:q.Perm l):isrt c q=isrt c l:=by
 refine List.Perm.eq_of_pairwise (le:=leOf c) (fun a b ha hb hab hba=>?_) (isrt_sorted hc q) (isrt_sorted hc l) ((isrt_perm c q).trans (hq.trans (isrt_perm c l).symm))
 exact hu a (hq.mem_iff.1 (isrt_mem.1 ha)) b (isrt_mem.1 hb) hba hab

theorem chk_in {β:Type} {z:Int} {k:Int→Option β} (h : -9223372036854775808≤z∧z≤9223372036854775807):chk z k=k z:=by
 unfold chk inI64
 rw [decide_eq_true h.1,decide_eq_true h.2]; rfl
theorem gidx_in {β:Type} {l:List α} {i:Int} {k:α→Option β} {m:Nat} {x:α} (hi:i=(m:Int)) (hx:l[m]? = some x):Jy l i k=k x:=by
 subst hi
 unfold Jy
 rw [decide_eq_true (by omega:(0:Int)≤m),cond_true,show (m:Int).toNat=m by omega,hx]
 rfl

theorem isort_inner [Inhabited α] {β:Type} {cmp:α→α→Option Int} {c:α→α→Int} (hc:∀ x y,cmp x y=some (c x y)) {i:Int} {x:α} {post:List α} {nx3:Int×List α→Option β}
  (hi : -9223372036854775808≤i+1∧i+1≤9223372036854775807) :
  ∀ (rp mid:List α) (n:Nat),rp.length < n→rp.length < 4611686018427387904 →
  loop (fun nx58 (s58:Int×(List α))=>
    bnd (bif decide (0 < s58.1) then Jy s58.2 s58.1 some else some default) fun y61=>
    bnd (bif decide (0 < s58.1) then chk (s58.1 - 1) some else some 0) fun v62=>
    bnd (bif decide (0 < s58.1) then Jy s58.2 v62 some else some default) fun y63=>
    bnd (bif decide (0 < s58.1) then cmp y61 y63 else some default) fun r64=>
    bif ((decide (0 < s58.1))&&(decide (r64 < 0))) then
    (chk (s58.1 - 1) fun v66=>
     chk (s58.1 - 1) fun v67=>
     Jy s58.2 v67 fun y68=>
     Jy s58.2 s58.1 fun y69=>
     Jy s58.2 s58.1 fun y70=>
     Jy (s58.2.set s58.1.toNat y68) v66 fun y71=>
     chk (s58.1 - 1) fun v72=>
     nx58 (v72,((s58.2.set s58.1.toNat y68).set v66.toNat y69)))
    else
    (chk (i+1) fun v73=>
     nx3 (v73,s58.2))) n ((rp.length:Int),rp.reverse++x::(mid++post))=nx3 (i+1,insb c x rp mid++post)
 | [],mid,n,hn,hl=>by
  obtain⟨n,rfl⟩:∃ m,n=m+1:=⟨n - 1,by simp at hn; omega⟩
  rw [loop]
  simp only [List.length_nil,Int.natCast_zero,Int.lt_irrefl,decide_false,cond_false,bnd,Bool.false_and]
  rw [chk_in hi]; rfl
 | p::rp,mid,n,hn,hl=>by
  obtain⟨n,rfl⟩:∃ m,n=m+1:=⟨n - 1,by simp at hn; omega⟩
  rw [List.length_cons] at hn hl
  have e:(p::rp).reverse++x::(mid++post)=rp.reverse++p::x::(mid++post):=by simp
  have h0:(rp.reverse++p::x::(mid++post))[rp.length]? = some p:=by
   rw [List.getElem?_append_right (by simp)]; simp
  have h1:(rp.reverse++p::x::(mid++post))[rp.length+1]? = some x:=by
   rw [List.getElem?_append_right (by simp)]; simp
  have hj:decide (0 < (((p::rp).length:Nat):Int))=true:=by rw [decide_eq_true_eq,List.length_cons]; omega
  have hz:(((p::rp).length:Nat):Int)=((rp.length+1:Nat):Int):=by rw [List.length_cons]
  have ih:=isort_inner (nx3:=nx3) (post:=post) (x:=x) hc hi rp (p::mid) n (by omega) (by omega)
  rw [e,loop]
  generalize loop _ n=k at ih ⊢
  simp only [hj,cond_true]
  rw [gidx_in (m:=rp.length+1) hz h1]
  simp only [bnd]
  rw [chk_in (by rw [hz]; omega)]
  simp only
  rw [gidx_in (m:=rp.length) (by rw [hz]; omega) h0]
  simp only [hc,Bool.true_and]
  unfold insb
  by_cases hlt:c x p < 0
  ·rw [if_pos hlt,decide_eq_true hlt,cond_true]
   rw [chk_in (by rw [hz]; omega),chk_in (by rw [hz]; omega)]
   rw [gidx_in (m:=rp.length) (by rw [hz]; omega) h0,gidx_in (m:=rp.length+1) hz h1,gidx_in (m:=rp.length+1) hz h1]
   have hs1:(((p::rp).length:Nat):Int).toNat=rp.length+1:=by rw [hz]; omega
   have hs2:((((p::rp).length:Nat):Int) - 1).toNat=rp.length:=by rw [hz]; omega
   have hset1:(rp.reverse++p::x::(mid++post)).set (rp.length+1) p=rp.reverse++p::p::(mid++post):=by
    rw [List.set_append_right _ _ (by simp)]; simp
   have hset2:(rp.reverse++p::p::(mid++post)).set rp.length x=rp.reverse++x::p::(mid++post):=by
    rw [List.set_append_right _ _ (by simp)]; simp
   have hg:(rp.reverse++p::p::(mid++post))[rp.length]? = some p:=by
    rw [List.getElem?_append_right (by simp)]; simp
   rw [hs1,hset1,gidx_in (m:=rp.length) (by rw [hz]; omega) hg,chk_in (by rw [hz]; omega),hs2,hset2]
   rw [show (((p::rp).length:Nat):Int) - 1=(rp.length:Int) by rw [hz]; omega]
   exact ih
  ·rw [if_neg hlt,decide_eq_false hlt,cond_false,chk_in hi]
   simp

theorem isort_outer [Inhabited α] {F:Nat} {cmp:α→α→Option Int} {c:α→α→Int} (hc:∀ x y,cmp x y=some (c x y)) {b:Nat} (hb:b < 4611686018427387904) (hF:b < F) :
  ∀ (t d:List α) (n:Nat),d.length+t.length=b→t.length < n →
  loop (fun nx3 (s3:Int×(List α))=>
  bif decide (s3.1 < (b:Int)) then
  (loop (fun nx58 (s58:Int×(List α))=>
    bnd (bif decide (0 < s58.1) then Jy s58.2 s58.1 some else some default) fun y61=>
    bnd (bif decide (0 < s58.1) then chk (s58.1 - 1) some else some 0) fun v62=>
    bnd (bif decide (0 < s58.1) then Jy s58.2 v62 some else some default) fun y63=>
    bnd (bif decide (0 < s58.1) then cmp y61 y63 else some default) fun r64=>
    bif ((decide (0 < s58.1))&&(decide (r64 < 0))) then
    (chk (s58.1 - 1) fun v66=>
     chk (s58.1 - 1) fun v67=>
     Jy s58.2 v67 fun y68=>
     Jy s58.2 s58.1 fun y69=>
     Jy s58.2 s58.1 fun y70=>
     Jy (s58.2.set s58.1.toNat y68) v66 fun y71=>
     chk (s58.1 - 1) fun v72=>
     nx58 (v72,((s58.2.set s58.1.toNat y68).set v66.toNat y69)))
    else
    (chk (s3.1+1) fun v73=>
     nx3 (v73,s58.2))) F (s3.1,s3.2))
  else
  (some s3.2)) n ((d.length:Int),d++t)=some (isrtGo c d t)
 | [],d,n,hd,hn=>by
  obtain⟨n,rfl⟩:∃ m,n=m+1:=⟨n - 1,by simp at hn; omega⟩
  rw [loop]
  simp only [List.length_nil] at hd
  rw [decide_eq_false (by omega),cond_false]
  simp [isrtGo]
 | x::t,d,n,hd,hn=>by
  obtain⟨n,rfl⟩:∃ m,n=m+1:=⟨n - 1,by simp at hn; omega⟩
  rw [List.length_cons] at hd hn
  rw [loop]
  simp only
  rw [decide_eq_true (by omega),cond_true]
  have h:=isort_inner (post:=t) (i:=(d.length:Int)) (x:=x) (nx3:=fun s3=>loop (fun nx3 (s3:Int×(List α))=>
  bif decide (s3.1 < (b:Int)) then
  (loop (fun nx58 (s58:Int×(List α))=>
    bnd (bif decide (0 < s58.1) then Jy s58.2 s58.1 some else some default) fun y61=>
    bnd (bif decide (0 < s58.1) then chk (s58.1 - 1) some else some 0) fun v62=>
    bnd (bif decide (0 < s58.1) then Jy s58.2 v62 some else some default) fun y63=>
    bnd (bif decide (0 < s58.1) then cmp y61 y63 else some default) fun r64=>
    bif ((decide (0 < s58.1))&&(decide (r64 < 0))) then
    (chk (s58.1 - 1) fun v66=>
     chk (s58.1 - 1) fun v67=>
     Jy s58.2 v67 fun y68=>
     Jy s58.2 s58.1 fun y69=>
     Jy s58.2 s58.1 fun y70=>
     Jy (s58.2.set s58.1.toNat y68) v66 fun y71=>
     chk (s58.1 - 1) fun v72=>
     nx58 (v72,((s58.2.set s58.1.toNat y68).set v66.toNat y69)))
    else
    (chk (s3.1+1) fun v73=>
     nx3 (v73,s58.2))) F (s3.1,s3.2))
  else
  (some s3.2)) n s3) hc (by omega) d.reverse [] F (by simp; omega) (by simp; omega)
  rw [List.length_reverse,List.reverse_reverse,List.nil_append] at h
  rw [h]
  have hl:(insb c x d.reverse []).length=d.length+1:=by rw [insb_length]; simp
  have:=isort_outer hc hb hF t (insb c x d.reverse []) n (by rw [hl]; omega) (by omega)
  rw [hl] at this
  rw [isrtGo,← this]
  rfl

theorem isortM_eq [Inhabited α] {F:Nat} {cmp:α→α→Option Int} {c:α→α→Int} (hc:∀ x y,cmp x y=some (c x y)) {data:List α} {b:Int} (hb:b=(data.length:Int)) (hl:data.length < 4611686018427387904) (hF:data.length < F) :
  isortM F data 0 b cmp=some (isrt c data):=by
 subst hb
 unfold isortM
 rw [chk_in (by omega)]
 cases data with
 | nil=>
  obtain⟨n,rfl⟩:∃ m,F=m+1:=⟨F - 1,by simp at hF; omega⟩
  rw [loop]; rfl
 | cons x t=>
  have h:=isort_outer (F:=F) hc hl hF t [x] F (by simp; omega) (by simp at hF; omega)
  rw [isrt,isrtGo,List.reverse_nil,insb]
  rw [← h]
  rfl
end isort

/-- So many different small numbers there are. -/
theorem pigeon:∀ (n:Nat) (l:List Nat),l.Nodup→(∀ x∈l,x < n)→l.length≤n
 | 0,l,_,h=>by
  cases l with
  | nil=>simp
  | cons x r=>exact absurd (h x (by simp)) (by omega)
 | n+1,l,hn,h=>by
  have h1:=pigeon n (l.filter (fun x=>decide (x≠n))) (hn.filter _) (fun x hx=>by
   have:=List.mem_filter.1 hx
   have h2:=h x this.1
   have h3:=of_decide_eq_true this.2
   omega)
  have h2:l.count n≤1:=List.nodup_iff_count.1 hn n
  have h3:=List.length_eq_countP_add_countP (fun x=>decide (x≠n)) (l:=l)
  rw [← List.countP_eq_length_filter] at h1
  have h4:l.countP (fun a=>decide (¬ decide (a≠n)=true))=l.count n:=by
   unfold List.count
   congr 1
   funext a
   by_cases e:a=n <;> simp [e]
  rw [h4] at h3
  omega
end Go.Proofs.YtkfhfoljfbjknaaGreat
