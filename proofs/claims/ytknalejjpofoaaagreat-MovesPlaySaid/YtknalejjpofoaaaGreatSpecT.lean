/-
 The library's insertion sort,as the extractor's model has it: it sorts,and keeps the elements. What moves.Tasks returns: the work of each bay and phase,in order; how the sorts of few elements end.
-/
import Derived.Test.YtknalejjpofoaaaGreatExt
import Derived.Test.YtknalejjpofoaaaGreatXM
set_option linter.unusedVariables false
namespace Go.Proofs.YtknalejjpofoaaaGreat
open Go.RowKit

section isort
variable {α:Type}
def isortM [Inhabited α] (F:Nat) (data:List α) (a:Int) (b:Int) (cmp:α→α→Option Int):Option (List α):=
 Rc (a+1) fun v2=>
 loop (fun nx3 (s3:Int×(List α))=>
  bif decide (s3.1 < b) then
  (loop (fun nx58 (s58:Int×(List α))=>
    bnd (bif decide (a < s58.1) then Q9 s58.2 s58.1 some else some default) fun y61=>
    bnd (bif decide (a < s58.1) then Rc (s58.1 - 1) some else some 0) fun v62=>
    bnd (bif decide (a < s58.1) then Q9 s58.2 v62 some else some default) fun y63=>
    bnd (bif decide (a < s58.1) then cmp y61 y63 else some default) fun r64=>
    bif ((decide (a < s58.1))&&(decide (r64 < 0))) then
    (Rc (s58.1 - 1) fun v66=>
     Rc (s58.1 - 1) fun v67=>
     Q9 s58.2 v67 fun y68=>
     Q9 s58.2 s58.1 fun y69=>
     Q9 s58.2 s58.1 fun y70=>
     Q9 (s58.2.set s58.1.toNat y68) v66 fun y71=>
     Rc (s58.1 - 1) fun v72=>
     nx58 (v72,((s58.2.set s58.1.toNat y68).set v66.toNat y69)))
    else
    (Rc (s3.1+1) fun v73=>
     nx3 (v73,s58.2))) F (s3.1,s3.2))
  else
  (some s3.2)) F (v2,data)

def J7d (c:α→α→Int) (x:α):List α→List α→List α
 | [],mid=>x::mid
 | p::rp,mid=>if c x p < 0 then J7d c x rp (p::mid) else (p::rp).reverse++x::mid
def H6d (c:α→α→Int):List α→List α→List α
 | d,[]=>d
 | d,x::t=>H6d c (J7d c x d.reverse []) t
def Gce (c:α→α→Int) (l:List α):List α:=H6d c [] l

theorem J7c (c:α→α→Int) (x:α):∀ (rp mid:List α),(J7d c x rp mid).Perm (rp.reverse++x::mid)
 | [],mid=>.refl _
 | p::rp,mid=>by
  unfold J7d
  split
  ·refine(J7c c x rp (p::mid)).trans ?_
   rw [List.reverse_cons,List.append_assoc]
   refine List.Perm.append_left _ ?_
   exact List.Perm.swap p x mid
  ·exact .refl _
theorem insb_length (c:α→α→Int) (x:α) (rp mid:List α):(J7d c x rp mid).length=rp.length+1+mid.length:=by
 rw [(J7c c x rp mid).length_eq]; simp; omega
theorem Ja6 (c:α→α→Int):∀ (t d:List α),(H6d c d t).Perm (d++t)
 | [],d=>by rw [List.append_nil]; exact .refl _
 | x::t,d=>by
  unfold H6d
  refine(Ja6 c t _).trans ?_
  have h:=J7c c x d.reverse []
  rw [List.reverse_reverse] at h
  refine(h.append_right t).trans ?_
  simp
theorem Gdb (c:α→α→Int) (l:List α):(Gce c l).Perm l:=Ja6 c l []
theorem H36 {c:α→α→Int} {l:List α} {x:α}:x∈Gce c l ↔ x∈l:=(Gdb c l).mem_iff
theorem G63 (c:α→α→Int) (l:List α):(Gce c l).length=l.length:=(Gdb c l).length_eq

structure Ordc (c:α→α→Int):Prop where
 asym:∀ x y,c x y < 0→¬ c y x < 0
 ntrans:∀ x y z,¬ c y x < 0→¬ c z y < 0→¬ c z x < 0
abbrev Jbd (c:α→α→Int) (x y:α):Prop:=¬ c y x < 0

theorem Ja9 {c:α→α→Int} (hc:Ordc c) (x:α):∀ (rp mid:List α),(rp.reverse++mid).Pairwise (Jbd c)→(∀ y∈mid,c x y < 0)→(J7d c x rp mid).Pairwise (Jbd c)
 | [],mid,h,hm=>by
  unfold J7d
  exact List.pairwise_cons.2 ⟨fun y hy=>hc.asym _ _ (hm y hy),h⟩
 | p::rp,mid,h,hm=>by
  unfold J7d
  split
  ·rename_i hlt
   refine Ja9 hc x rp (p::mid) ?_ ?_
   ·rw [List.reverse_cons,List.append_assoc] at h; exact h
   ·intro y hy
    rcases List.mem_cons.1 hy with rfl | hy
    ·exact hlt
    ·exact hm y hy
  ·rename_i hlt
   rw [List.pairwise_append] at h ⊢
   refine⟨h.1,List.pairwise_cons.2 ⟨fun y hy=>hc.asym _ _ (hm y hy),h.2.1⟩,fun a ha b hb=>?_⟩
   rcases List.mem_cons.1 hb with rfl | hb
   ·have hap:Jbd c a p:=by
     rw [List.reverse_cons,List.pairwise_append] at h
     rw [List.reverse_cons] at ha
     rcases List.mem_append.1 ha with ha | ha
     ·exact h.1.2.2 a ha p (by simp)
     ·have:a=p:=by simpa using ha
      subst this
      intro h1
      exact hc.asym _ _ h1 h1
    exact hc.ntrans _ _ _ hap hlt
   ·exact h.2.2 a ha b hb
theorem J12 {c:α→α→Int} (hc:Ordc c):∀ (t d:List α),d.Pairwise (Jbd c)→(H6d c d t).Pairwise (Jbd c)
 | [],_,h=>h
 | x::t,d,h=>by
  unfold H6d
  exact J12 hc t _ (Ja9 hc x _ _ (by rw [List.reverse_reverse,List.append_nil]; exact h) (fun y hy=>by cases hy))
theorem Gf6 {c:α→α→Int} (hc:Ordc c) (l:List α):(Gce c l).Pairwise (Jbd c):=J12 hc l [] .nil
theorem isrt_unique {c:α→α→Int} (hc:Ordc c) {l q:List α} (hu:∀ a∈l,∀ b∈l,¬ c a b < 0→¬ c b a < 0→a=b) (hq:q.Perm l):Gce c q=Gce c l:=by
 refine List.Perm.eq_of_pairwise (le:=Jbd c) (fun a b ha hb hab hba=>?_) (Gf6 hc q) (Gf6 hc l) ((Gdb c q).trans (hq.trans (Gdb c l).symm))
 exact hu a (hq.mem_iff.1 (H36.1 ha)) b (H36.1 hb) hba hab

theorem H6f {β:Type} {z:Int} {k:Int→Option β} (h : -9223372036854775808≤z∧z≤9223372036854775807):Rc z k=k z:=by
 unfold Rc inI64
 rw [decide_eq_true h.1,decide_eq_true h.2]; rfl
theorem Hfa {β:Type} {l:List α} {i:Int} {k:α→Option β} {m:Nat} {x:α} (hi:i=(m:Int)) (hx:l[m]? = some x):Q9 l i k=k x:=by
 subst hi
 unfold Q9
 rw [decide_eq_true (by omega:(0:Int)≤m),cond_true,show (m:Int).toNat=m by omega,hx]
 rfl

theorem Ja8 [Inhabited α] {β:Type} {cmp:α→α→Option Int} {c:α→α→Int} (hc:∀ x y,cmp x y=some (c x y)) {i:Int} {x:α} {post:List α} {nx3:Int×List α→Option β}
  (hi : -9223372036854775808≤i+1∧i+1≤9223372036854775807) :
  ∀ (rp mid:List α) (n:Nat),rp.length < n→rp.length < 4611686018427387904 →
  loop (fun nx58 (s58:Int×(List α))=>
    bnd (bif decide (0 < s58.1) then Q9 s58.2 s58.1 some else some default) fun y61=>
    bnd (bif decide (0 < s58.1) then Rc (s58.1 - 1) some else some 0) fun v62=>
    bnd (bif decide (0 < s58.1) then Q9 s58.2 v62 some else some default) fun y63=>
    bnd (bif decide (0 < s58.1) then cmp y61 y63 else some default) fun r64=>
    bif ((decide (0 < s58.1))&&(decide (r64 < 0))) then
    (Rc (s58.1 - 1) fun v66=>
     Rc (s58.1 - 1) fun v67=>
     Q9 s58.2 v67 fun y68=>
     Q9 s58.2 s58.1 fun y69=>
     Q9 s58.2 s58.1 fun y70=>
     Q9 (s58.2.set s58.1.toNat y68) v66 fun y71=>
     Rc (s58.1 - 1) fun v72=>
     nx58 (v72,((s58.2.set s58.1.toNat y68).set v66.toNat y69)))
    else
    (Rc (i+1) fun v73=>
     nx3 (v73,s58.2))) n ((rp.length:Int),rp.reverse++x::(mid++post))=nx3 (i+1,J7d c x rp mid++post)
 | [],mid,n,hn,hl=>by
  obtain⟨n,rfl⟩:∃ m,n=m+1:=⟨n - 1,by simp at hn; omega⟩
  rw [loop]
  simp only [List.length_nil,Int.natCast_zero,Int.lt_irrefl,decide_false,cond_false,bnd,Bool.false_and]
  rw [H6f hi]; rfl
 | p::rp,mid,n,hn,hl=>by
  obtain⟨n,rfl⟩:∃ m,n=m+1:=⟨n - 1,by simp at hn; omega⟩
  rw [List.length_cons] at hn hl
  have e:(p::rp).reverse++x::(mid++post)=rp.reverse++p::x::(mid++post):=by simp
  have h0:(rp.reverse++p::x::(mid++post))[rp.length]? = some p:=by
   rw [List.getElem?_append_right (by simp)]; simp
  have h1:(rp.reverse++p::x::(mid++post))[rp.length+1]? = some x:=by
   rw [List.getElem?_append_right (by simp)]; simp
  have hj:decide (0 < (((p::rp).length:Nat):Int))=true:=by rw [decide_eq_true_eq,List.length_cons]; omega
  have hz:(((p::rp).length:Nat):Int)=((rp.length+1:Nat):Int):=by rw [List.length_cons]
  have ih:=Ja8 (nx3:=nx3) (post:=post) (x:=x) hc hi rp (p::mid) n (by omega) (by omega)
  rw [e,loop]
  generalize loop _ n=k at ih ⊢
  simp only [hj,cond_true]
  rw [Hfa (m:=rp.length+1) hz h1]
  simp only [bnd]
  rw [H6f (by rw [hz]; omega)]
  simp only
  rw [Hfa (m:=rp.length) (by rw [hz]; omega) h0]
  simp only [hc,Bool.true_and]
  unfold J7d
  by_cases hlt:c x p < 0
  ·rw [if_pos hlt,decide_eq_true hlt,cond_true]
   rw [H6f (by rw [hz]; omega),H6f (by rw [hz]; omega)]
   rw [Hfa (m:=rp.length) (by rw [hz]; omega) h0,Hfa (m:=rp.length+1) hz h1,Hfa (m:=rp.length+1) hz h1]
   have hs1:(((p::rp).length:Nat):Int).toNat=rp.length+1:=by rw [hz]; omega
   have hs2:((((p::rp).length:Nat):Int) - 1).toNat=rp.length:=by rw [hz]; omega
   have hset1:(rp.reverse++p::x::(mid++post)).set (rp.length+1) p=rp.reverse++p::p::(mid++post):=by
    rw [List.set_append_right _ _ (by simp)]; simp
   have hset2:(rp.reverse++p::p::(mid++post)).set rp.length x=rp.reverse++x::p::(mid++post):=by
    rw [List.set_append_right _ _ (by simp)]; simp
   have hg:(rp.reverse++p::p::(mid++post))[rp.length]? = some p:=by
    rw [List.getElem?_append_right (by simp)]; simp
   rw [hs1,hset1,Hfa (m:=rp.length) (by rw [hz]; omega) hg,H6f (by rw [hz]; omega),hs2,hset2]
   rw [show (((p::rp).length:Nat):Int) - 1=(rp.length:Int) by rw [hz]; omega]
   exact ih
  ·rw [if_neg hlt,decide_eq_false hlt,cond_false,H6f hi]
   simp

theorem Ja7 [Inhabited α] {F:Nat} {cmp:α→α→Option Int} {c:α→α→Int} (hc:∀ x y,cmp x y=some (c x y)) {b:Nat} (hb:b < 4611686018427387904) (hF:b < F) :
  ∀ (t d:List α) (n:Nat),d.length+t.length=b→t.length < n →
  loop (fun nx3 (s3:Int×(List α))=>
  bif decide (s3.1 < (b:Int)) then
  (loop (fun nx58 (s58:Int×(List α))=>
    bnd (bif decide (0 < s58.1) then Q9 s58.2 s58.1 some else some default) fun y61=>
    bnd (bif decide (0 < s58.1) then Rc (s58.1 - 1) some else some 0) fun v62=>
    bnd (bif decide (0 < s58.1) then Q9 s58.2 v62 some else some default) fun y63=>
    bnd (bif decide (0 < s58.1) then cmp y61 y63 else some default) fun r64=>
    bif ((decide (0 < s58.1))&&(decide (r64 < 0))) then
    (Rc (s58.1 - 1) fun v66=>
     Rc (s58.1 - 1) fun v67=>
     Q9 s58.2 v67 fun y68=>
     Q9 s58.2 s58.1 fun y69=>
     Q9 s58.2 s58.1 fun y70=>
     Q9 (s58.2.set s58.1.toNat y68) v66 fun y71=>
     Rc (s58.1 - 1) fun v72=>
     nx58 (v72,((s58.2.set s58.1.toNat y68).set v66.toNat y69)))
    else
    (Rc (s3.1+1) fun v73=>
     nx3 (v73,s58.2))) F (s3.1,s3.2))
  else
  (some s3.2)) n ((d.length:Int),d++t)=some (H6d c d t)
 | [],d,n,hd,hn=>by
  obtain⟨n,rfl⟩:∃ m,n=m+1:=⟨n - 1,by simp at hn; omega⟩
  rw [loop]
  simp only [List.length_nil] at hd
  rw [decide_eq_false (by omega),cond_false]
  simp [H6d]
 | x::t,d,n,hd,hn=>by
  obtain⟨n,rfl⟩:∃ m,n=m+1:=⟨n - 1,by simp at hn; omega⟩
  rw [List.length_cons] at hd hn
  rw [loop]
  simp only
  rw [decide_eq_true (by omega),cond_true]
  have h:=Ja8 (post:=t) (i:=(d.length:Int)) (x:=x) (nx3:=fun s3=>loop (fun nx3 (s3:Int×(List α))=>
  bif decide (s3.1 < (b:Int)) then
  (loop (fun nx58 (s58:Int×(List α))=>
    bnd (bif decide (0 < s58.1) then Q9 s58.2 s58.1 some else some default) fun y61=>
    bnd (bif decide (0 < s58.1) then Rc (s58.1 - 1) some else some 0) fun v62=>
    bnd (bif decide (0 < s58.1) then Q9 s58.2 v62 some else some default) fun y63=>
    bnd (bif decide (0 < s58.1) then cmp y61 y63 else some default) fun r64=>
    bif ((decide (0 < s58.1))&&(decide (r64 < 0))) then
    (Rc (s58.1 - 1) fun v66=>
     Rc (s58.1 - 1) fun v67=>
     Q9 s58.2 v67 fun y68=>
     Q9 s58.2 s58.1 fun y69=>
     Q9 s58.2 s58.1 fun y70=>
     Q9 (s58.2.set s58.1.toNat y68) v66 fun y71=>
     Rc (s58.1 - 1) fun v72=>
     nx58 (v72,((s58.2.set s58.1.toNat y68).set v66.toNat y69)))
    else
    (Rc (s3.1+1) fun v73=>
     nx3 (v73,s58.2))) F (s3.1,s3.2))
  else
  (some s3.2)) n s3) hc (by omega) d.reverse [] F (by simp; omega) (by simp; omega)
  rw [List.length_reverse,List.reverse_reverse,List.nil_append] at h
  rw [h]
  have hl:(J7d c x d.reverse []).length=d.length+1:=by rw [insb_length]; simp
  have:=Ja7 hc hb hF t (J7d c x d.reverse []) n (by rw [hl]; omega) (by omega)
  rw [hl] at this
  rw [H6d,← this]
  rfl

theorem Hf7 [Inhabited α] {F:Nat} {cmp:α→α→Option Int} {c:α→α→Int} (hc:∀ x y,cmp x y=some (c x y)) {data:List α} {b:Int} (hb:b=(data.length:Int)) (hl:data.length < 4611686018427387904) (hF:data.length < F) :
  isortM F data 0 b cmp=some (Gce c data):=by
 subst hb
 unfold isortM
 rw [H6f (by omega)]
 cases data with
 | nil=>
  obtain⟨n,rfl⟩:∃ m,F=m+1:=⟨F - 1,by simp at hF; omega⟩
  rw [loop]; rfl
 | cons x t=>
  have h:=Ja7 (F:=F) hc hl hF t [x] F (by simp; omega) (by simp at hF; omega)
  rw [Gce,H6d,List.reverse_nil,J7d]
  rw [← h]
  rfl
end isort

theorem pigeon:∀ (n:Nat) (l:List Nat),l.Nodup→(∀ x∈l,x < n)→l.length≤n
 | 0,l,_,h=>by
  cases l with
  | nil=>simp
  | cons x r=>exact absurd (h x (by simp)) (by omega)
 | n+1,l,hn,h=>by
  have h1:=pigeon n (l.filter (fun x=>decide (x≠n))) (hn.filter _) (fun x hx=>by
   have:=List.mem_filter.1 hx
   have h2:=h x this.1
   have h3:=of_decide_eq_true this.2
   omega)
  have h2:l.count n≤1:=List.nodup_iff_count.1 hn n
  have h3:=List.length_eq_countP_add_countP (fun x=>decide (x≠n)) (l:=l)
  rw [← List.countP_eq_length_filter] at h1
  have h4:l.countP (fun a=>decide (¬ decide (a≠n)=true))=l.count n:=by
   unfold List.count
   congr 1
   funext a
   by_cases e:a=n <;> simp [e]
  rw [h4] at h3
  omega
end Go.Proofs.YtknalejjpofoaaaGreat
set_option maxRecDepth 100000
namespace Go.Proofs.YtknalejjpofoaaaGreat
open Go.RowKit

theorem Q22 (n:Nat) (h:n≤12):∃ r,Yt (IntKind.u64.wrap (n:Int))=some r:=by
 have hall:(List.range 13).all (fun n=>(Yt (IntKind.u64.wrap (n:Int))).isSome)=true:=by kernel_rfl
 have:=List.all_eq_true.1 hall n (List.mem_range.2 (by omega))
 exact Option.isSome_iff_exists.1 this

theorem sort_task {F:Nat} {x:List H8} {cmp:H8→H8→Option Int} {c:H8→H8→Int} (hc:∀ a b,cmp a b=some (c a b)) (hF:20≤F):Rg F x cmp=bif decide (x.length≤12) then some (Gce c x) else none:=by
 unfold Rg
 obtain⟨F,rfl⟩:∃ m,F=m+1:=⟨F - 1,by omega⟩
 by_cases hl:x.length≤12
 ·obtain⟨r,hr⟩:=Q22 _ hl
  rw [hr,decide_eq_true hl,cond_true]
  simp only [bnd]
  unfold Q7
  rw [loop]
  generalize loop _ F=k
  simp only
  rw [H6f (by omega),decide_eq_true (by omega),cond_true]
  have:=Hf7 (F:=F+1) hc (data:=x) (b:=(x.length:Int)) rfl (by omega) (by omega)
  rw [show Qj (F+1) x 0 (x.length:Int) cmp=some (Gce c x) from this]
  rfl
 ·rw [decide_eq_false hl,cond_false]
  cases hb:Yt (IntKind.u64.wrap (x.length:Int)) with
  | none=>rfl
  | some r=>
   simp only [bnd]
   have:Q7 (F+1) x 0 (x.length:Int) r cmp=none:=by
    unfold Q7
    rw [loop]
    generalize loop _ F=k
    simp only
    unfold Rc
    cases inI64 ((x.length:Int) - 0) with
    | false=>rfl
    | true=>
     simp only [cond_true]
     rw [decide_eq_false (by omega),cond_false]
     cases decide (r=0) <;> rfl
   rw [this]
theorem sort_stowed {F:Nat} {x:List Stowed} {cmp:Stowed→Stowed→Option Int} {c:Stowed→Stowed→Int} (hc:∀ a b,cmp a b=some (c a b)) (hF:20≤F) (hl:x.length≤12):R2 F x cmp=some (Gce c x):=by
 unfold R2
 obtain⟨F,rfl⟩:∃ m,F=m+1:=⟨F - 1,by omega⟩
 obtain⟨r,hr⟩:=Q22 _ hl
 rw [hr]
 simp only [bnd]
 unfold Qw
 rw [loop]
 generalize loop _ F=k
 simp only
 rw [H6f (by omega),decide_eq_true (by omega),cond_true]
 have:=Hf7 (F:=F+1) hc (data:=x) (b:=(x.length:Int)) rfl (by omega) (by omega)
 rw [show J7 (F+1) x 0 (x.length:Int) cmp=some (Gce c x) from this]
 rfl
theorem sort_int {F:Nat} {x:List Int} {cmp:Int→Int→Option Int} {c:Int→Int→Int} (hc:∀ a b,cmp a b=some (c a b)) (hF:20≤F) (hl:x.length≤12):Yx F x cmp=some (Gce c x):=by
 unfold Yx
 obtain⟨F,rfl⟩:∃ m,F=m+1:=⟨F - 1,by omega⟩
 obtain⟨r,hr⟩:=Q22 _ hl
 rw [hr]
 simp only [bnd]
 unfold Ya
 rw [loop]
 generalize loop _ F=k
 simp only
 rw [H6f (by omega),decide_eq_true (by omega),cond_true]
 have:=Hf7 (F:=F+1) hc (data:=x) (b:=(x.length:Int)) rfl (by omega) (by omega)
 rw [show Qx (F+1) x 0 (x.length:Int) cmp=some (Gce c x) from this]
 rfl
theorem sort_stable {F:Nat} {x:List Stowed} {cmp:Stowed→Stowed→Option Int} {c:Stowed→Stowed→Int} (hc:∀ a b,cmp a b=some (c a b)) (hF:30≤F) (hl:x.length≤12):Qg F x cmp=some (Gce c x):=by
 unfold Qg R1
 obtain⟨F,rfl⟩:∃ m,F=m+1:=⟨F - 1,by omega⟩
 rw [loop]
 generalize loop _ F=k
 simp only
 rw [decide_eq_false (by omega),cond_false]
 have:=Hf7 (F:=F+1) hc (data:=x) (b:=(x.length:Int)) rfl (by omega) (by omega)
 rw [show J7 (F+1) x 0 (x.length:Int) cmp=some (Gce c x) from this]
 simp only [bnd]
 rw [loop]
 generalize loop _ F=k2
 rw [decide_eq_false (by omega),cond_false]

def Hd5 (a b:Int):Int:=bif decide (a < b) then -1 else bif decide (b < a) then 1 else 0
theorem J5e (a b:Int):Qa a b=some (Hd5 a b):=by
 have h1:decide (a≠a)=false:=by simp
 have h2:decide (b≠b)=false:=by simp
 simp only [Qa,Yu,bnd,h1,h2,cond_false]
 unfold Hd5
 cases decide (a < b) <;> cases decide (b < a) <;> rfl
theorem cmp_u8 (a b:Int):Zx a b=some (Hd5 a b):=by
 have h1:decide (a≠a)=false:=by simp
 have h2:decide (b≠b)=false:=by simp
 simp only [Zx,G22,bnd,h1,h2,cond_false]
 unfold Hd5
 cases decide (a < b) <;> cases decide (b < a) <;> rfl
def orI:List Int→Int
 | []=>0
 | x::r=>bif decide (x≠0) then x else orI r
theorem cmp_or (l:List Int):G4d l=some (orI l):=by
 unfold G4d
 have key:∀ (l:List Int) (i:Nat),each (fun(y19:Int) (_:Nat) (_:Unit) nx19=>bif decide (y19≠0) then some y19 else nx19 ()) (fun(_:Unit)=>some (0:Int)) l i ()=some (orI l):=by
  intro l
  induction l with
  | nil=>intro i; rfl
  | cons x r ih=>
   intro i
   rw [each,orI]
   cases decide (x≠0) with
   | true=>rfl
   | false=>exact ih _
 exact key l 0
def scmp (a b:Slot):Int:=orI [Hd5 a.G4 b.G4,Hd5 a.Tier b.Tier,Hd5 a.Half b.Half]
theorem slot_cmp (a b:Slot):G68 a b=some (scmp a b):=by
 simp only [G68,J5e,cmp_u8,cmp_or,bnd]; rfl
def pcmp (a b:Stowed):Int:=orI [Hd5 a.Slot.Tier b.Slot.Tier,scmp a.Slot b.Slot]
theorem part_cmp (a b:Stowed):G3b a b=some (pcmp a b):=by
 simp only [G3b,J5e,slot_cmp,cmp_or,bnd]; rfl
def J04 (a b:Stowed):Int:=Hd5 b.Slot.Tier a.Slot.Tier
theorem above_cmp (a b:Stowed):Yp a b=some (J04 a b):=by
 simp only [Yp,J5e,bnd]; rfl
def tcmp (a b:H8):Int:=orI [Hd5 a.Phase b.Phase,Hd5 a.Bay b.Bay]
theorem task_cmp (a b:H8):Zr a b=some (tcmp a b):=by
 simp only [Zr,J5e,cmp_or,bnd]; rfl
theorem G99 {a b:Int}:Hd5 a b < 0 ↔ a < b:=by
 unfold Hd5
 by_cases h:a < b
 ·simp [h]
 ·by_cases h2:b < a <;> simp [h,h2]
theorem H20 {a b:Int}:Hd5 a b=0 ↔ a=b:=by
 unfold Hd5
 by_cases h:a < b
 ·simp [h]; omega
 ·by_cases h2:b < a
  ·simp [h,h2]; omega
  ·simp [h,h2]; omega
theorem J2e (a:Int) (r:List Int):orI (a::r) < 0 ↔ a < 0∨(a=0∧orI r < 0):=by
 rw [orI]
 by_cases h:a=0
 ·simp [h]
 ·simp [h]
theorem Hea (a b:H8):tcmp a b < 0 ↔ a.Phase < b.Phase∨(a.Phase=b.Phase∧a.Bay < b.Bay):=by
 unfold tcmp
 rw [J2e,J2e,G99,H20,G99,H20]
 simp [orI]
theorem tcmp_order:Ordc tcmp where
 asym x y:=by rw [Hea,Hea]; omega
 ntrans x y z:=by rw [Hea,Hea,Hea]; omega

theorem need_tt {β:Type} {k:Option β}:need true k=k:=rfl
theorem J4d {κ ν β:Type} {kx:List ν→Option β}:∀ (q:List (κ×ν)) (s:List ν),((s.length+q.length)*32≤140737488355328∧s.length+q.length≤maxLen) →
  J4f (fun(x:κ×ν) (s:List ν) nx=>need (decide ((s.length+[x.2].length)*32≤140737488355328∧s.length+[x.2].length≤maxLen)) <| nx (s++[x.2])) kx q s=kx (s++q.map (·.2))
 | [],s,_=>by simp [J4f]
 | x::q,s,h=>by
  rw [List.length_cons] at h
  have hd:decide ((s.length+[x.2].length)*32≤140737488355328∧s.length+[x.2].length≤maxLen)=true:=by
   rw [decide_eq_true_eq,List.length_singleton]; omega
  rw [J4f,hd]
  simp only [need_tt]
  rw [J4d q (s++[x.2]) (by rw [List.length_append,List.length_singleton]; omega)]
  simp
theorem rel_eachI {α σ R:Type} {r:R} (I:σ→Prop) {b:α→Nat→σ→(σ→Option Prop)→Option Prop} {b':α→Nat→σ→(σ→Option R)→Option R} {kx:σ→Option Prop} {kx':σ→Option R}
  (h:∀ x i s nx nx',I s→(∀ s,I s→Hdf r (nx s) (nx' s))→Hdf r (b x i s nx) (b' x i s nx')) (hk:∀ s,I s→Hdf r (kx s) (kx' s)):∀ {xs:List α} {i:Nat} {s:σ},I s→Hdf r (each b kx xs i s) (each b' kx' xs i s)
 | [],_,s,hs=>hk s hs
 | x::_,i,s,hs=>h x i s _ _ hs (fun _ h2=>rel_eachI I h hk h2)

def Gea (F:Nat) (s:Gw) (l:List Move):Option ((List H8)×Int):=
 bif decide (F < 60) then none else
 bnd (Z7 s) fun r4=>
 bif (!r4) then
 (some ([],2))
 else
 (each (fun y189 _ (s189:(H0 J4 H8)) nx189=>
   jp (fun kj196=>
    bif ((decide (y189.Kind < 1))||(decide (4 < y189.Kind))) then
    (kj196 ((decide (y189.Kind < 1))||(decide (4 < y189.Kind))))
    else
    (bif (((decide (y189.Kind=1))||(decide (y189.Kind=4)))&&((decide (y189.G9 < 0))||(decide ((s.Covers.length:Int)≤y189.G9)))) then
     (kj196 (((decide (y189.Kind=1))||(decide (y189.Kind=4)))&&((decide (y189.G9 < 0))||(decide ((s.Covers.length:Int)≤y189.G9)))))
     else
     (kj196 ((!((decide (y189.Kind=1))||(decide (y189.Kind=4))))&&((decide (y189.Slot.G4 < 0))||(decide ((s.Columns.length:Int)≤y189.Slot.G4))))))) fun(j196:Bool)=>
   bif j196 then
   (some ([],2))
   else
   (jp (fun kj201=>
     bif decide (3≤y189.Kind) then
     (kj201 2)
     else
     (kj201 1)) fun(j201:Int)=>
    jp (fun kj203=>
     bif ((decide (y189.Kind=1))||(decide (y189.Kind=4))) then
     (Q9 s.Covers y189.G9 fun y205=>
      kj203 y205.Bay)
     else
     (Q9 s.Columns y189.Slot.G4 fun y207=>
      kj203 y207.Bay)) fun(j203:Int)=>
    bnd (some (H0.get s189 (J4.mk j201 j203) (H8.mk 0 0 0 0))) fun v211=>
    bnd (some (H0.get s189 (J4.mk j201 j203) (H8.mk 0 0 0 0))) fun v212=>
    jp (fun kj213=>
     bif ((decide (y189.Kind=1))||(decide (y189.Kind=4))) then
     (Rc (v212.Covers+1) fun v215=>
      kj213 (v211.Lifts,v215))
     else
     (Rc (v211.Lifts+1) fun v216=>
      kj213 (v216,v212.Covers))) fun(j213:Int×Int)=>
    nx189 (H0.put s189 (J4.mk j201 j203) (H8.mk j203 j201 j213.1 j213.2))))
  (fun(s189:(H0 J4 H8))=>
   need (decide ((H0.l s189).length≤12)) <| some (Gce tcmp ((H0.l s189).map (·.2)),0)) l 0 (H0.empty:H0 J4 H8))

def TInv (s:H0 J4 H8):Prop:=∀ e∈H0.l s,e.1=J4.mk e.2.Phase e.2.Bay
theorem mput_mem {κ ν:Type} [DecidableEq κ] {a:κ} {v:ν} {l:List (κ×ν)} {e:κ×ν} (h:e∈Gf2 l a v):e=(a,v)∨e∈l:=by
 unfold Gf2 at h
 split at h
 ·obtain⟨p,hp,rfl⟩:=List.mem_map.1 h
  by_cases hpa:p.1=a
  ·rw [if_pos hpa]; exact .inl rfl
  ·rw [if_neg hpa]; exact .inr hp
 ·rcases List.mem_append.1 h with h | h
  ·exact .inr h
  ·exact .inl (List.mem_singleton.1 h)
theorem TInv.put {s:H0 J4 H8} (h:TInv s) (p b x y:Int):TInv (H0.put s (J4.mk p b) (H8.mk b p x y)):=fun e he=>by
 rcases mput_mem (l:=H0.l s) he with rfl | he
 ·rfl
 ·exact h e he
theorem nodup_key {κ ν:Type} {e f:κ×ν} (hk:e.1=f.1):∀ (l:List (κ×ν)),(l.map (·.1)).Nodup→e∈l→f∈l→e=f:=by
 intro l
 induction l with
 | nil=>intro _ h; simp at h
 | cons x r ih=>
  intro hn he hf
  rw [List.map_cons,List.nodup_cons] at hn
  rcases List.mem_cons.1 he with he1 | he1
  ·rcases List.mem_cons.1 hf with hf1 | hf1
   ·rw [he1,hf1]
   ·exact absurd (List.mem_map.2 ⟨f,hf1,by rw [← hk,he1]⟩) hn.1
  ·rcases List.mem_cons.1 hf with hf1 | hf1
   ·exact absurd (List.mem_map.2 ⟨e,he1,by rw [hk,hf1]⟩) hn.1
   ·exact ih hn.2 he1 hf1
theorem TInv.unique {s:H0 J4 H8} (h:TInv s):∀ a∈(H0.l s).map (·.2),∀ b∈(H0.l s).map (·.2),¬ tcmp a b < 0→¬ tcmp b a < 0→a=b:=by
 intro a ha b hb hab hba
 rw [Hea] at hab hba
 obtain⟨e,he,rfl⟩:=List.mem_map.1 ha
 obtain⟨f,hf,rfl⟩:=List.mem_map.1 hb
 have hk:e.1=f.1:=by
  rw [h e he,h f hf]
  have h1:e.2.Phase=f.2.Phase:=by omega
  have h2:e.2.Bay=f.2.Bay:=by omega
  rw [h1,h2]
 rw [nodup_key hk _ s.nd he hf]

theorem J63 (F:Nat) (s:Gw) (l:List Move) (r:(List H8)×Int):Hdf r (G95 F s l (fun r_=>r_=r)) (Gea F s l):=by
 unfold G95 Gea
 by_cases hF:F < 60
 ·rw [decide_eq_true hF]; exact H7d
 rw [decide_eq_false hF]
 simp only [cond_false]
 refine H12 (fun r4=>G47 (fun _=>H7c) (fun _=>?_))
 refine rel_eachI TInv (fun y i m nx nx' hm hnx=>?_) (fun m hm=>?_) (fun e he=>by cases he)
 ·refine Q0b (fun K K' hK=>G47 (fun _=>hK _) (fun _=>G47 (fun _=>hK _) (fun _=>hK _))) (fun j=>G47 (fun _=>H7c) (fun _=>?_))
  refine Q0b (fun K K' hK=>G47 (fun _=>hK _) (fun _=>hK _)) (fun j1=>?_)
  refine Q0b (fun K K' hK=>G47 (fun _=>rel_gidx (fun _=>hK _)) (fun _=>rel_gidx (fun _=>hK _))) (fun j2=>?_)
  refine H12 (fun v=>H12 (fun v2=>?_))
  refine Q0b (fun K K' hK=>G47 (fun _=>Jcd (fun _=>hK _)) (fun _=>Jcd (fun _=>hK _))) (fun j3=>hnx _ (hm.put _ _ _ _))
 ·intro h
  obtain⟨hd,h⟩:=Jd h
  have hd:=of_decide_eq_true hd
  refine⟨_,rfl,fun q hq=>?_⟩
  have hl:=hq.length_eq
  rw [J4d q [] (by simp only [List.length_nil,Nat.zero_add,hl]; constructor <;> (try unfold maxLen) <;> omega)]
  rw [List.nil_append]
  unfold Yo
  rw [sort_task (c:=tcmp) (fun a b=>task_cmp a b) (by omega),List.length_map,hl,decide_eq_true hd,cond_true]
  refine⟨_,rfl,?_⟩
  rw [isrt_unique tcmp_order hm.unique (hq.map _)]
  exact Option.some.inj h
def Jbf:=PLift.up (Jc8 Gea (fun F s l r h=>J63 F s l r h))
end Go.Proofs.YtknalejjpofoaaaGreat
