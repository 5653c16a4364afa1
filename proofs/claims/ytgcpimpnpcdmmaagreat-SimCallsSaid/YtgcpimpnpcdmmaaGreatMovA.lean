/-
 Between two states of a plan: What is open behind a cover's closing. The library's insertion sort,aQ the extractor's model has it What moves.Tasks returns: The moves of a call,aQ a list that is told outright.
-/
import Derived.Test.YtgcpimpnpcdmmaaGreatPlanV
import Derived.Test.YtgcpimpnpcdmmaaGreatEnds
import Derived.Test.YtgcpimpnpcdmmaaGreatXM
import Derived.Test.YtgcpimpnpcdmmaaGreatMoreA
set_option maxRecDepth 100000
set_option linter.unusedVariables false
namespace Go.Proofs.YtgcpimpnpcdmmaaGreat
open Go.RowKit
theorem Qb9 {boxes:List Box} {m half:Int} (p:G1→Bool):∀ (l:List G1),Rs boxes (l.filter p) m half≤Rs boxes l m half:=by
 intro l
 induction l with
 | nil=>exact Int.le_refl _
 | cons x r ih=>
  unfold Rs at *
  have h0:=(Jc8 (boxes:=boxes) (column:=m) (half:=half) (n:=0) (x:=x)).1
  rw [List.foldl_cons,H80 r]
  rw [List.filter_cons]
  split
  ·rw [List.foldl_cons,H80 (r.filter p)]
   omega
  ·omega
theorem G58 {l:List G1} (h:l.Pairwise (fun a b=>a.Box < b.Box)):l.Nodup:=h.imp (fun {a b} h e=>by subst e; omega)
theorem Y0d {l q:List G1} (hl:l.Pairwise (fun a b=>a.Box < b.Box)) (hq:q.Pairwise (fun a b=>a.Box < b.Box)) (hs:∀ y∈q,y∈l):q=l.filter (fun y=>decide (y∈q)):=by
 refine H41 ((List.perm_ext_iff_of_nodup (G58 hq) ((G58 hl).sublist List.filter_sublist)).2 fun y=>?_) hq (hl.sublist List.filter_sublist)
 rw [Mr,Mk]
 exact⟨fun h=>⟨hs y h,h⟩,fun h=>h.2⟩
theorem Q95 {boxes:List Box} {m half:Int} {l q:List G1} (hl:l.Pairwise (fun a b=>a.Box < b.Box)) (hq:q.Pairwise (fun a b=>a.Box < b.Box)) (hs:∀ y∈q,y∈l):Rs boxes q m half≤Rs boxes l m half:=by
 rw [Y0d hl hq hs]
 exact Qb9 _ l
theorem Y21 {l:List G1} (h:l.Pairwise (fun a b=>¬ Hd8 b.Slot a.Slot)) {x y:G1} (hx:x∈l) (hy:y∈l) (h4:x≠y):¬ Hd8 x.Slot y.Slot:=by
 induction l with
 | nil=>cases hx
 | cons z r ih=>
  obtain⟨h1,h2⟩:=List.pairwise_cons.1 h
  rcases Mq.1 hx with e1 | h0 <;> rcases Mq.1 hy with e2 | h3
  ·exact(h4 (e1.trans e2.symm)).elim
  ·subst e1; exact fun hm=>h1 y h3 (Hce hm)
  ·subst e2; exact h1 x h0
  ·exact ih h2 h0 h3
structure G1c (s:Gh) (boxes:List Box) (bf af:List G1) (set:List Int):Prop where
 ship:J7e s
 bef:R5 s boxes bf
 aft:R5 s boxes af
 lb:bf.length≤10
 la:af.length≤10
 least:J47 s bf af set
section
variable {s:Gh} {boxes:List Box} {bf af l:List G1} {set:List Int}
theorem G64 (hs:l.Pairwise (fun a b=>a.Box < b.Box)) {x:G1} (hx:x∈l):Yr l x.Box=(x.Slot,true):=by
 have h1:(Yr l x.Box).2=true:=Qbf.2 (Mo.2 ⟨x,hx,rfl⟩)
 obtain⟨y,hy,e1,e2⟩:=Hd2 h1
 have:=Ha7 hs hy hx e1
 subst this
 exact Prod.ext e2 h1
theorem G1c.swap (h:G1c s boxes bf af set) (hl:J47 s af bf set):G1c s boxes af bf set:=⟨h.ship,h.aft,h.bef,h.la,h.lb,hl⟩
theorem G1c.stays (h:G1c s boxes bf af set) {x:G1} (hx:x∈bf) (hn:x.Box ∉ set):x∈af:=by
 have he:Yr bf x.Box=Yr af x.Box:=Classical.byContradiction fun e=>hn (h.least.seeds bf (by simp) x hx e)
 rw [G64 h.bef.sorted hx] at he
 obtain⟨y,hy,e1,e2⟩:=Hd2 (l:=af) (id:=x.Box) (by rw [← he])
 rw [← he] at e2
 have:y=x:=by
  cases y; cases x
  simp only at e1 e2
  subst e1 e2
  rfl
 exact this ▸ hy
theorem G1c.stays2 (h:G1c s boxes bf af set) {x:G1} (hx:x∈af) (hn:x.Box ∉ set):x∈bf:=by
 have he:Yr bf x.Box=Yr af x.Box:=Classical.byContradiction fun e=>hn (h.least.seeds af (by simp) x hx e)
 rw [G64 h.aft.sorted hx] at he
 obtain⟨y,hy,e1,e2⟩:=Hd2 (l:=bf) (id:=x.Box) (by rw [he])
 rw [he] at e2
 have:y=x:=by
  cases y; cases x
  simp only at e1 e2
  subst e1 e2
  rfl
 exact this ▸ hy
theorem G1c.over (h:G1c s boxes bf af set) {x y:G1} (hx:x∈bf) (hy:y∈bf) (hm:x.Box∈set) (ho:H44 y.Slot x.Slot):y.Box∈set:=
 h.least.closed x.Box hm y.Box ⟨bf,by simp,by rw [G64 h.bef.sorted hx],.inl ⟨y,hy,rfl,by rw [G64 h.bef.sorted hx]; exact ho⟩⟩
theorem G1c.upon (h:G1c s boxes bf af set) {x y:G1} (hx:x∈bf∨x∈af) (hy:y∈bf∨y∈af) (hm:x.Box∈set) (ho:upon s x.Slot y.Slot):y.Box∈set:=by
 have h0:∃ st2∈[bf,af],y∈st2:=by
  rcases hy with hy | hy
  ·exact⟨bf,by simp,hy⟩
  ·exact⟨af,by simp,hy⟩
 obtain⟨st2,h2,h0⟩:=h0
 rcases hx with hx | hx
 ·exact h.least.closed x.Box hm y.Box ⟨bf,by simp,by rw [G64 h.bef.sorted hx],.inr ⟨st2,h2,y,h0,rfl,by rw [G64 h.bef.sorted hx]; exact ho⟩⟩
 ·exact h.least.closed x.Box hm y.Box ⟨af,by simp,by rw [G64 h.aft.sorted hx],.inr ⟨st2,h2,y,h0,rfl,by rw [G64 h.aft.sorted hx]; exact ho⟩⟩
structure R58 (s:Gh) (boxes:List Box) (bf:List G1) (set:List Int) (l:List G1):Prop where
 sta:Sta s boxes l
 sub:∀ x∈l,x∈bf
 keep:∀ x∈bf,x.Box ∉ set→x∈l
structure Y3d (s:Gh) (boxes:List Box) (af:List G1) (set:List Int) (l:List G1):Prop where
 sta:Sta s boxes l
 sub:∀ x∈l,x∈af
 keep:∀ x∈af,x.Box ∉ set→x∈l
theorem G1c.start (h:G1c s boxes bf af set):R58 s boxes bf set bf:=⟨⟨h.ship,h.bef,by have:=h.lb; omega⟩,fun _ hx=>hx,fun _ hx _=>hx⟩
theorem R58.take (h:R58 s boxes bf set l) {pre post:List G1} {x:G1} (e:l=pre++x::post) (hx:x.Box∈set) (ho:H3c l x.Slot=[]):R58 s boxes bf set (pre++post):=by
 subst e
 have h0:(pre++x::post).length=(pre++post).length+1:=by simp only [Mh,Md]; omega
 refine⟨⟨h.sta.ship,Qa3 h.sta.right ho,by have:=h.sta.len; omega⟩,fun z hz=>h.sub z (R46 hz),fun z hz hn=>?_⟩
 have:=h.keep z hz hn
 simp only [Mn,Mq] at this ⊢
 rcases this with hz | rfl | hz
 ·exact .inl hz
 ·exact(hn hx).elim
 ·exact .inr hz
theorem R58.turn (h:G1c s boxes bf af set) (h1:R58 s boxes bf set l) (hd:∀ x∈l,x.Box ∉ set):Y3d s boxes af set l:=
 ⟨h1.sta,fun x hx=>h.stays (h1.sub x hx) (hd x hx),fun x hx hn=>h1.keep x (h.stays2 hx hn) hn⟩
theorem Y3d.done (h:G1c s boxes bf af set) (h2:Y3d s boxes af set l) (hd:∀ x∈af,x.Box∈set→x∈l):l=af:=by
 refine H41 ((List.perm_ext_iff_of_nodup (G58 h2.sta.right.sorted) (G58 h.aft.sorted)).2 fun y=>⟨h2.sub y,fun hy=>?_⟩) h2.sta.right.sorted h.aft.sorted
 by_cases hm:y.Box∈set
 ·exact hd y hy hm
 ·exact h2.keep y hy hm
end
theorem R58.len {s:Gh} {boxes:List Box} {bf l:List G1} {set:List Int} (h:R58 s boxes bf set l):l.length≤bf.length:=
 (G58 h.sta.right.sorted).length_le_of_subset (fun y hy=>h.sub y hy)
section
variable {s:Gh} {boxes:List Box} {bf af:List G1} {set:List Int}
end
section isort
variable {α:Type}
def Yde [Inhabited α] (F:Nat) (data:List α) (a:Int) (b:Int) (cmp:α→α→Option Int):Option (List α):=
 chk (a+1) fun v2=>
 loop (fun nx3 (s3:Int×(List α))=>
  bif decide (s3.1 < b) then
  (loop (fun nx58 (s58:Int×(List α))=>
    bnd (bif decide (a < s58.1) then Qy s58.2 s58.1 some else some default) fun y61=>
    bnd (bif decide (a < s58.1) then chk (s58.1 - 1) some else some 0) fun v62=>
    bnd (bif decide (a < s58.1) then Qy s58.2 v62 some else some default) fun y63=>
    bnd (bif decide (a < s58.1) then cmp y61 y63 else some default) fun r64=>
    bif ((decide (a < s58.1))&&(decide (r64 < 0))) then
    (chk (s58.1 - 1) fun v66=>
     chk (s58.1 - 1) fun v67=>
     Qy s58.2 v67 fun y68=>
     Qy s58.2 s58.1 fun y69=>
     Qy s58.2 s58.1 fun y70=>
     Qy (s58.2.set s58.1.toNat y68) v66 fun y71=>
     chk (s58.1 - 1) fun v72=>
     nx58 (v72,((s58.2.set s58.1.toNat y68).set v66.toNat y69)))
    else
    (chk (s3.1+1) fun v73=>
     nx3 (v73,s58.2))) F (s3.1,s3.2))
  else
  (some s3.2)) F (v2,data)
def Jf5 (c:α→α→Int) (x:α):List α→List α→List α
 | [],mid=>x::mid
 | p::rp,mid=>if c x p < 0 then Jf5 c x rp (p::mid) else (p::rp).reverse++x::mid
def Hbb (c:α→α→Int):List α→List α→List α
 | d,[]=>d
 | d,x::t=>Hbb c (Jf5 c x d.reverse []) t
def H4e (c:α→α→Int) (l:List α):List α:=Hbb c [] l
theorem Jf4 (c:α→α→Int) (x:α):∀ (rp mid:List α),(Jf5 c x rp mid).Perm (rp.reverse++x::mid)
 | [],mid=>.refl _
 | p::rp,mid=>by
  unfold Jf5
  split
  ·refine(Jf4 c x rp (p::mid)).trans ?_
   rw [List.reverse_cons,List.append_assoc]
   refine List.Perm.append_left _ ?_
   exact List.Perm.swap p x mid
  ·exact .refl _
theorem Rae (c:α→α→Int) (x:α) (rp mid:List α):(Jf5 c x rp mid).length=rp.length+1+mid.length:=by
 rw [(Jf4 c x rp mid).length_eq]; simp; omega
theorem Q32 (c:α→α→Int):∀ (t d:List α),(Hbb c d t).Perm (d++t)
 | [],d=>by rw [List.append_nil]; exact .refl _
 | x::t,d=>by
  unfold Hbb
  refine(Q32 c t _).trans ?_
  have h:=Jf4 c x d.reverse []
  rw [List.reverse_reverse] at h
  refine(h.append_right t).trans ?_
  simp
theorem H1d (c:α→α→Int) (l:List α):(H4e c l).Perm l:=Q32 c l []
theorem H7c {c:α→α→Int} {l:List α} {x:α}:x∈H4e c l ↔ x∈l:=(H1d c l).mem_iff
theorem G8e (c:α→α→Int) (l:List α):(H4e c l).length=l.length:=(H1d c l).length_eq
structure Ya9 (c:α→α→Int):Prop where
 asym:∀ x y,c x y < 0→¬ c y x < 0
 ntrans:∀ x y z,¬ c y x < 0→¬ c z y < 0→¬ c z x < 0
abbrev Q46 (c:α→α→Int) (x y:α):Prop:=¬ c y x < 0
theorem Q35 {c:α→α→Int} (hc:Ya9 c) (x:α):∀ (rp mid:List α),(rp.reverse++mid).Pairwise (Q46 c)→(∀ y∈mid,c x y < 0)→(Jf5 c x rp mid).Pairwise (Q46 c)
 | [],mid,h,hm=>by
  unfold Jf5
  exact List.pairwise_cons.2 ⟨fun y hy=>hc.asym _ _ (hm y hy),h⟩
 | p::rp,mid,h,hm=>by
  unfold Jf5
  split
  ·rename_i h0
   refine Q35 hc x rp (p::mid) ?_ ?_
   ·rw [List.reverse_cons,List.append_assoc] at h; exact h
   ·intro y hy
    rcases Mq.1 hy with rfl | hy
    ·exact h0
    ·exact hm y hy
  ·rename_i h0
   rw [List.pairwise_append] at h ⊢
   refine⟨h.1,List.pairwise_cons.2 ⟨fun y hy=>hc.asym _ _ (hm y hy),h.2.1⟩,fun a ha b hb=>?_⟩
   rcases Mq.1 hb with rfl | hb
   ·have h2:Q46 c a p:=by
     rw [List.reverse_cons,List.pairwise_append] at h
     rw [List.reverse_cons] at ha
     rcases Mn.1 ha with ha | ha
     ·exact h.1.2.2 a ha p (by simp)
     ·have:a=p:=by simpa using ha
      subst this
      intro h1
      exact hc.asym _ _ h1 h1
    exact hc.ntrans _ _ _ h2 h0
   ·exact h.2.2 a ha b hb
theorem J77 {c:α→α→Int} (hc:Ya9 c):∀ (t d:List α),d.Pairwise (Q46 c)→(Hbb c d t).Pairwise (Q46 c)
 | [],_,h=>h
 | x::t,d,h=>by
  unfold Hbb
  exact J77 hc t _ (Q35 hc x _ _ (by rw [List.reverse_reverse,List.append_nil]; exact h) (fun y hy=>by cases hy))
theorem H3f {c:α→α→Int} (hc:Ya9 c) (l:List α):(H4e c l).Pairwise (Q46 c):=J77 hc l [] .nil
theorem Hfc {β:Type} {z:Int} {k:Int→Option β} (h : -9223372036854775808≤z∧z≤9223372036854775807):chk z k=k z:=by
 unfold chk R1c
 rw [M3 h.1,M3 h.2]; rfl
theorem J5a {β:Type} {l:List α} {i:Int} {k:α→Option β} {m:Nat} {x:α} (hi:i=(m:Int)) (hx:l[m]? = some x):Qy l i k=k x:=by
 subst hi
 unfold Qy
 rw [M3 (by omega:(0:Int)≤m),cond_true,show (m:Int).toNat=m by omega,hx]
 rfl
theorem Q34 [Inhabited α] {β:Type} {cmp:α→α→Option Int} {c:α→α→Int} (hc:∀ x y,cmp x y=some (c x y)) {i:Int} {x:α} {post:List α} {nx3:Int×List α→Option β}
  (hi : -9223372036854775808≤i+1∧i+1≤9223372036854775807) :
  ∀ (rp mid:List α) (n:Nat),rp.length < n→rp.length < 4611686018427387904 →
  loop (fun nx58 (s58:Int×(List α))=>
    bnd (bif decide (0 < s58.1) then Qy s58.2 s58.1 some else some default) fun y61=>
    bnd (bif decide (0 < s58.1) then chk (s58.1 - 1) some else some 0) fun v62=>
    bnd (bif decide (0 < s58.1) then Qy s58.2 v62 some else some default) fun y63=>
    bnd (bif decide (0 < s58.1) then cmp y61 y63 else some default) fun r64=>
    bif ((decide (0 < s58.1))&&(decide (r64 < 0))) then
    (chk (s58.1 - 1) fun v66=>
     chk (s58.1 - 1) fun v67=>
     Qy s58.2 v67 fun y68=>
     Qy s58.2 s58.1 fun y69=>
     Qy s58.2 s58.1 fun y70=>
     Qy (s58.2.set s58.1.toNat y68) v66 fun y71=>
     chk (s58.1 - 1) fun v72=>
     nx58 (v72,((s58.2.set s58.1.toNat y68).set v66.toNat y69)))
    else
    (chk (i+1) fun v73=>
     nx3 (v73,s58.2))) n ((rp.length:Int),rp.reverse++x::(mid++post))=nx3 (i+1,Jf5 c x rp mid++post)
 | [],mid,n,hn,hl=>by
  obtain⟨n,rfl⟩:∃ m,n=m+1:=⟨n - 1,by simp at hn; omega⟩
  rw [loop]
  simp only [List.length_nil,Int.natCast_zero,Int.lt_irrefl,decide_false,cond_false,bnd,Bool.false_and]
  rw [Hfc hi]; rfl
 | p::rp,mid,n,hn,hl=>by
  obtain⟨n,rfl⟩:∃ m,n=m+1:=⟨n - 1,by simp at hn; omega⟩
  rw [Md] at hn hl
  have e:(p::rp).reverse++x::(mid++post)=rp.reverse++p::x::(mid++post):=by simp
  have h0:(rp.reverse++p::x::(mid++post))[rp.length]? = some p:=by
   rw [Mb (by simp)]; simp
  have h1:(rp.reverse++p::x::(mid++post))[rp.length+1]? = some x:=by
   rw [Mb (by simp)]; simp
  have hj:decide (0 < (((p::rp).length:Nat):Int))=true:=by rw [Mk,Md]; omega
  have hz:(((p::rp).length:Nat):Int)=((rp.length+1:Nat):Int):=by rw [Md]
  have ih:=Q34 (nx3:=nx3) (post:=post) (x:=x) hc hi rp (p::mid) n (by omega) (by omega)
  rw [e,loop]
  generalize loop _ n=k at ih ⊢
  simp only [hj,cond_true]
  rw [J5a (m:=rp.length+1) hz h1]
  simp only [bnd]
  rw [Hfc (by rw [hz]; omega)]
  simp only
  rw [J5a (m:=rp.length) (by rw [hz]; omega) h0]
  simp only [hc,Bool.true_and]
  unfold Jf5
  by_cases h2:c x p < 0
  ·rw [if_pos h2,M3 h2,cond_true]
   rw [Hfc (by rw [hz]; omega),Hfc (by rw [hz]; omega)]
   rw [J5a (m:=rp.length) (by rw [hz]; omega) h0,J5a (m:=rp.length+1) hz h1,J5a (m:=rp.length+1) hz h1]
   have h5:(((p::rp).length:Nat):Int).toNat=rp.length+1:=by rw [hz]; omega
   have h6:((((p::rp).length:Nat):Int) - 1).toNat=rp.length:=by rw [hz]; omega
   have h3:(rp.reverse++p::x::(mid++post)).set (rp.length+1) p=rp.reverse++p::p::(mid++post):=by
    rw [List.set_append_right _ _ (by simp)]; simp
   have h4:(rp.reverse++p::p::(mid++post)).set rp.length x=rp.reverse++x::p::(mid++post):=by
    rw [List.set_append_right _ _ (by simp)]; simp
   have hg:(rp.reverse++p::p::(mid++post))[rp.length]? = some p:=by
    rw [Mb (by simp)]; simp
   rw [h5,h3,J5a (m:=rp.length) (by rw [hz]; omega) hg,Hfc (by rw [hz]; omega),h6,h4]
   rw [show (((p::rp).length:Nat):Int) - 1=(rp.length:Int) by rw [hz]; omega]
   exact ih
  ·rw [if_neg h2,M4 h2,cond_false,Hfc hi]
   simp
theorem Q33 [Inhabited α] {F:Nat} {cmp:α→α→Option Int} {c:α→α→Int} (hc:∀ x y,cmp x y=some (c x y)) {b:Nat} (hb:b < 4611686018427387904) (hF:b < F) :
  ∀ (t d:List α) (n:Nat),d.length+t.length=b→t.length < n →
  loop (fun nx3 (s3:Int×(List α))=>
  bif decide (s3.1 < (b:Int)) then
  (loop (fun nx58 (s58:Int×(List α))=>
    bnd (bif decide (0 < s58.1) then Qy s58.2 s58.1 some else some default) fun y61=>
    bnd (bif decide (0 < s58.1) then chk (s58.1 - 1) some else some 0) fun v62=>
    bnd (bif decide (0 < s58.1) then Qy s58.2 v62 some else some default) fun y63=>
    bnd (bif decide (0 < s58.1) then cmp y61 y63 else some default) fun r64=>
    bif ((decide (0 < s58.1))&&(decide (r64 < 0))) then
    (chk (s58.1 - 1) fun v66=>
     chk (s58.1 - 1) fun v67=>
     Qy s58.2 v67 fun y68=>
     Qy s58.2 s58.1 fun y69=>
     Qy s58.2 s58.1 fun y70=>
     Qy (s58.2.set s58.1.toNat y68) v66 fun y71=>
     chk (s58.1 - 1) fun v72=>
     nx58 (v72,((s58.2.set s58.1.toNat y68).set v66.toNat y69)))
    else
    (chk (s3.1+1) fun v73=>
     nx3 (v73,s58.2))) F (s3.1,s3.2))
  else
  (some s3.2)) n ((d.length:Int),d++t)=some (Hbb c d t)
 | [],d,n,hd,hn=>by
  obtain⟨n,rfl⟩:∃ m,n=m+1:=⟨n - 1,by simp at hn; omega⟩
  rw [loop]
  simp only [List.length_nil] at hd
  rw [M4 (by omega),cond_false]
  simp [Hbb]
 | x::t,d,n,hd,hn=>by
  obtain⟨n,rfl⟩:∃ m,n=m+1:=⟨n - 1,by simp at hn; omega⟩
  rw [Md] at hd hn
  rw [loop]
  simp only
  rw [M3 (by omega),cond_true]
  have h:=Q34 (post:=t) (i:=(d.length:Int)) (x:=x) (nx3:=fun s3=>loop (fun nx3 (s3:Int×(List α))=>
  bif decide (s3.1 < (b:Int)) then
  (loop (fun nx58 (s58:Int×(List α))=>
    bnd (bif decide (0 < s58.1) then Qy s58.2 s58.1 some else some default) fun y61=>
    bnd (bif decide (0 < s58.1) then chk (s58.1 - 1) some else some 0) fun v62=>
    bnd (bif decide (0 < s58.1) then Qy s58.2 v62 some else some default) fun y63=>
    bnd (bif decide (0 < s58.1) then cmp y61 y63 else some default) fun r64=>
    bif ((decide (0 < s58.1))&&(decide (r64 < 0))) then
    (chk (s58.1 - 1) fun v66=>
     chk (s58.1 - 1) fun v67=>
     Qy s58.2 v67 fun y68=>
     Qy s58.2 s58.1 fun y69=>
     Qy s58.2 s58.1 fun y70=>
     Qy (s58.2.set s58.1.toNat y68) v66 fun y71=>
     chk (s58.1 - 1) fun v72=>
     nx58 (v72,((s58.2.set s58.1.toNat y68).set v66.toNat y69)))
    else
    (chk (s3.1+1) fun v73=>
     nx3 (v73,s58.2))) F (s3.1,s3.2))
  else
  (some s3.2)) n s3) hc (by omega) d.reverse [] F (by simp; omega) (by simp; omega)
  rw [List.length_reverse,List.reverse_reverse,List.nil_append] at h
  rw [h]
  have hl:(Jf5 c x d.reverse []).length=d.length+1:=by rw [Rae]; simp
  have:=Q33 hc hb hF t (Jf5 c x d.reverse []) n (by rw [hl]; omega) (by omega)
  rw [hl] at this
  rw [Hbb,← this]
  rfl
theorem Jf3 [Inhabited α] {F:Nat} {cmp:α→α→Option Int} {c:α→α→Int} (hc:∀ x y,cmp x y=some (c x y)) {data:List α} {b:Int} (hb:b=(data.length:Int)) (hl:data.length < 4611686018427387904) (hF:data.length < F) :
  Yde F data 0 b cmp=some (H4e c data):=by
 subst hb
 unfold Yde
 rw [Hfc (by omega)]
 cases data with
 | nil=>
  obtain⟨n,rfl⟩:∃ m,F=m+1:=⟨F - 1,by simp at hF; omega⟩
  rw [loop]; rfl
 | cons x t=>
  have h:=Q33 (F:=F) hc hl hF t [x] F (by simp; omega) (by simp at hF; omega)
  rw [H4e,Hbb,List.reverse_nil,Jf5]
  rw [← h]
  rfl
end isort
theorem Ycc:∀ (n:Nat) (l:List Nat),l.Nodup→(∀ x∈l,x < n)→l.length≤n
 | 0,l,_,h=>by
  cases l with
  | nil=>simp
  | cons x r=>exact absurd (h x (by simp)) (by omega)
 | n+1,l,hn,h=>by
  have h1:=Ycc n (l.filter (fun x=>decide (x≠n))) (hn.filter _) (fun x hx=>by
   have:=Mr.1 hx
   have h2:=h x this.1
   have h3:=M1 this.2
   omega)
  have h2:l.count n≤1:=List.nodup_iff_count.1 hn n
  have h3:=List.length_eq_countP_add_countP (fun x=>decide (x≠n)) (l:=l)
  rw [← List.countP_eq_length_filter] at h1
  have h4:l.countP (fun a=>decide (¬ decide (a≠n)=true))=l.count n:=by
   unfold List.count
   congr 1
   funext a
   by_cases e:a=n <;> simp [e]
  rw [h4] at h3
  omega
theorem Rbc (n:Nat) (h:n≤12):∃ r,G27 (IntKind.u64.wrap (n:Int))=some r:=by
 have h0:(List.range 13).all (fun n=>(G27 (IntKind.u64.wrap (n:Int))).isSome)=true:=by kernel_rfl
 have:=List.all_eq_true.1 h0 n (List.mem_range.2 (by omega))
 exact Kt this
theorem R9a {F:Nat} {x:List G1} {cmp:G1→G1→Option Int} {c:G1→G1→Int} (hc:∀ a b,cmp a b=some (c a b)) (hF:20≤F) (hl:x.length≤12):Rk F x cmp=some (H4e c x):=by
 unfold Rk
 obtain⟨F,rfl⟩:∃ m,F=m+1:=⟨F - 1,by omega⟩
 obtain⟨r,hr⟩:=Rbc _ hl
 rw [hr]
 simp only [bnd]
 unfold R9
 rw [loop]
 generalize loop _ F=k
 simp only
 rw [Hfc (by omega),M3 (by omega),cond_true]
 have:=Jf3 (F:=F+1) hc (data:=x) (b:=(x.length:Int)) rfl (by omega) (by omega)
 rw [show J8 (F+1) x 0 (x.length:Int) cmp=some (H4e c x) from this]
 rfl
theorem Yc2 {F:Nat} {x:List Int} {cmp:Int→Int→Option Int} {c:Int→Int→Int} (hc:∀ a b,cmp a b=some (c a b)) (hF:20≤F) (hl:x.length≤12):Zf F x cmp=some (H4e c x):=by
 unfold Zf
 obtain⟨F,rfl⟩:∃ m,F=m+1:=⟨F - 1,by omega⟩
 obtain⟨r,hr⟩:=Rbc _ hl
 rw [hr]
 simp only [bnd]
 unfold Yz
 rw [loop]
 generalize loop _ F=k
 simp only
 rw [Hfc (by omega),M3 (by omega),cond_true]
 have:=Jf3 (F:=F+1) hc (data:=x) (b:=(x.length:Int)) rfl (by omega) (by omega)
 rw [show Ra (F+1) x 0 (x.length:Int) cmp=some (H4e c x) from this]
 rfl
theorem R9b {F:Nat} {x:List G1} {cmp:G1→G1→Option Int} {c:G1→G1→Int} (hc:∀ a b,cmp a b=some (c a b)) (hF:30≤F) (hl:x.length≤12):Qk F x cmp=some (H4e c x):=by
 unfold Qk Rj
 obtain⟨F,rfl⟩:∃ m,F=m+1:=⟨F - 1,by omega⟩
 rw [loop]
 generalize loop _ F=k
 simp only
 rw [M4 (by omega),cond_false]
 have:=Jf3 (F:=F+1) hc (data:=x) (b:=(x.length:Int)) rfl (by omega) (by omega)
 rw [show J8 (F+1) x 0 (x.length:Int) cmp=some (H4e c x) from this]
 simp only [bnd]
 rw [loop]
 generalize loop _ F=k2
 rw [M4 (by omega),cond_false]
theorem Z76 (a b:Int):G10 a b=some (J39 a b):=by
 have h1:decide (a≠a)=false:=by simp
 have h2:decide (b≠b)=false:=by simp
 simp only [G10,G3a,bnd,h1,h2,cond_false]
 unfold J39
 cases decide (a < b) <;> cases decide (b < a) <;> rfl
def orI:List Int→Int
 | []=>0
 | x::r=>bif decide (x≠0) then x else orI r
theorem Yea (l:List Int):Gb0 l=some (orI l):=by
 unfold Gb0
 have key:∀ (l:List Int) (i:Nat),each (fun(y19:Int) (_:Nat) (_:Unit) nx19=>bif decide (y19≠0) then some y19 else nx19 ()) (fun(_:Unit)=>some (0:Int)) l i ()=some (orI l):=by
  intro l
  induction l with
  | nil=>intro i; rfl
  | cons x r ih=>
   intro i
   rw [each,orI]
   cases decide (x≠0) with
   | true=>rfl
   | false=>exact ih _
 exact key l 0
def Z1f (a b:Slot):Int:=orI [J39 a.G3 b.G3,J39 a.Tier b.Tier,J39 a.Half b.Half]
theorem Yc5 (a b:Slot):G93 a b=some (Z1f a b):=by
 simp only [G93,Jc6,Z76,Yea,bnd]; rfl
def Ra4 (a b:G1):Int:=orI [J39 a.Slot.Tier b.Slot.Tier,Z1f a.Slot b.Slot]
theorem Yce (a b:G1):G23 a b=some (Ra4 a b):=by
 simp only [G23,Jc6,Yc5,Yea,bnd]; rfl
def J6b (a b:G1):Int:=J39 b.Slot.Tier a.Slot.Tier
theorem Ya7 (a b:G1):Z9 a b=some (J6b a b):=by
 simp only [Z9,Jc6,bnd]; rfl
theorem H35 {a b:Int}:J39 a b < 0 ↔ a < b:=by
 unfold J39
 by_cases h:a < b
 ·simp [h]
 ·by_cases h2:b < a <;> simp [h,h2]
theorem J61 {a b:Int}:J39 a b=0 ↔ a=b:=by
 unfold J39
 by_cases h:a < b
 ·simp [h]; omega
 ·by_cases h2:b < a
  ·simp [h,h2]; omega
  ·simp [h,h2]; omega
theorem Qa8 (a:Int) (r:List Int):orI (a::r) < 0 ↔ a < 0∨(a=0∧orI r < 0):=by
 rw [orI]
 by_cases h:a=0
 ·simp [h]
 ·simp [h]
def G0e (s:Gh) (x:Slot):G3:=(s.Columns[x.G3.toNat]?).getD default
theorem H43 {s:Gh} {x:Slot} {m:Nat} {c:G3} (h1:x.G3=(m:Int)) (h2:s.Columns[m]? = some c):G0e s x=c:=by
 unfold G0e
 rw [h1,show (m:Int).toNat=m by omega,h2]; rfl
def H7f (s:Gh) (lf:List Int) (bay:Int) (deck:Bool) (x:G1):Bool:=(decide ((G0e s x.Slot).Bay=bay)&&((G0e s x.Slot).Deck==deck))&&lf.any (fun y=>decide (x.Box=y))
def Zh (s:Gh) (l:List G1) (lf:List Int) (bay:Int) (deck:Bool):List G1:=H4e Ra4 (l.filter (H7f s lf bay deck))
theorem R26 (l:List Int) (v:Int):Q1 l v=some (l.any (fun y=>decide (v=y))):=by
 unfold Q1
 have h:Rw l v=some (J36 (fun y=>decide (v=y)) l):=by
  unfold Rw
  exact H82 (f:=fun y=>some (decide (v=y))) (fun x _=>rfl)
 rw [h]
 simp only [H84]
 rw [H40]
theorem Qc0 {α:Type} {p:α→Bool} {l:List α} {n:Nat} (h:l.length≤n):(l.filter p).length≤n:=Nat.le_trans (Ky _ _) h
theorem J52 {s:Gh} {l:List G1} {lf:List Int} {bay:Int} {deck:Bool} {F:Nat} (hF:60≤F) (hc:∀ x∈l,Hb1 s x.Slot) (hl:l.length≤12) :
  Z6 F s l lf bay deck=some (Zh s l lf bay deck):=by
 refine G28 ?_
 unfold Z6
 refine Jg (fun pre st=>st=pre.filter (H7f s lf bay deck)) rfl (fun pre x post st nx e h0 h4=>?_) (fun st h0=>?_)
 ·subst h0
  obtain⟨m,c,h1,h2⟩:=hc x (by rw [e]; simp)
  have h3:=H43 h1 h2
  have hp:pre.length≤12:=by rw [e] at hl; simp at hl; omega
  refine Zy (fun j=>j=(pre++[x]).filter (H7f s lf bay deck)) (fun K hK=>Zb h1 h2 ?_) (fun j hj=>h4 _ hj)
  have h5:Wp (bif ((decide (c.Bay=bay))&&(c.Deck==deck)) then Q1 lf x.Box else some default) (fun r58=>(((decide (c.Bay=bay))&&(c.Deck==deck))&&r58)=H7f s lf bay deck x):=by
   unfold H7f
   rw [h3]
   cases ((decide (c.Bay=bay))&&(c.Deck==deck)) with
   | true=>exact⟨_,R26 _ _,rfl⟩
   | false=>exact⟨_,rfl,rfl⟩
  refine H6 (wp_mono h5 (fun r58 h6=>?_))
  rw [h6]
  have h7:(pre.filter (H7f s lf bay deck)).length≤12:=Qc0 hp
  refine Hs (fun h=>Rr (Zz (by rw [Mi]; omega) (by omega)) (hK _ ?_)) (fun h=>hK _ ?_)
  ·rw [G57,h]; rfl
  ·rw [G57,h]; simp
 ·subst h0
  unfold Zq
  rw [R9a (c:=Ra4) (fun a b=>Yce a b) (by omega) (Qc0 hl)]
  exact Gm rfl
theorem Ge3 {s:Gh} {l:List G1} {lf:List Int} {bay:Int} {deck:Bool} {x:G1}:x∈Zh s l lf bay deck ↔ x∈l∧H7f s lf bay deck x=true:=by
 unfold Zh
 rw [H7c,Mr]
theorem H1a {s:Gh} {l:List G1} {lf:List Int} {bay:Int} {deck:Bool}:(Zh s l lf bay deck).length≤l.length:=by
 unfold Zh
 rw [G8e]; exact Ky _ _
theorem H7e {s:Gh} {lf:List Int} {bay:Int} {deck:Bool} {x:G1}:H7f s lf bay deck x=true ↔ (G0e s x.Slot).Bay=bay∧(G0e s x.Slot).Deck=deck∧x.Box∈lf:=by
 unfold H7f
 simp only [Mj,Mk,beq_iff_eq,List.any_eq_true]
 constructor
 ·rintro⟨⟨h1,h2⟩,y,hy,rfl⟩; exact⟨h1,h2,hy⟩
 ·rintro⟨h1,h2,h3⟩; exact⟨⟨h1,h2⟩,_,h3,rfl⟩
theorem Rc2 {l:List G1} {F:Nat} (hF:60≤F) (hl:l.length≤12):G02 F l=some (H4e J6b l):=by
 unfold G02
 rw [R9b (c:=J6b) (fun a b=>Ya7 a b) (by omega) hl]
 rfl
def G7a (u:List Int) (k:Int):List Int:=bif decide (0≤k)&&!(u.any (fun y=>decide (k=y))) then u++[k] else u
theorem Y3b {u:List Int} {k a:Int}:a∈G7a u k ↔ a∈u∨(a=k∧0≤k):=by
 unfold G7a
 by_cases h:0≤k
 ·rw [M3 h,Bool.true_and]
  cases hu:u.any (fun y=>decide (k=y)) with
  | true=>
   obtain⟨y,hy,he⟩:=List.any_eq_true.1 hu
   have he:=M1 he
   simp only [Bool.not_true,cond_false]
   exact⟨.inl,fun h1=>h1.elim _root_.id (fun h2=>by rw [h2.1,he]; exact hy)⟩
  | false=>
   simp only [Bool.not_false,cond_true,Mn,Mp]
   exact⟨fun h1=>h1.elim .inl (fun h2=>.inr ⟨h2,h⟩),fun h1=>h1.elim .inl (fun h2=>.inr h2.1)⟩
 ·rw [M4 h,Bool.false_and]
  simp only [cond_false]
  exact⟨.inl,fun h1=>h1.elim _root_.id (fun h2=>absurd h2.2 h)⟩
theorem R57 {u:List Int} {k:Int} (h:u.Nodup):(G7a u k).Nodup:=by
 unfold G7a
 cases hc:decide (0≤k)&&!(u.any (fun y=>decide (k=y))) with
 | false=>exact h
 | true=>
  rw [Mj,Bool.not_eq_true'] at hc
  rw [cond_true,List.nodup_append]
  refine⟨h,by simp,fun a ha b hb=>?_⟩
  rw [Mp] at hb; subst hb
  have:=List.any_eq_false.1 hc.2 a ha
  intro e
  exact this (M3 e.symm)
def Gfd (s:Gh) (x:G1):Int:=Jt s (G0e s x.Slot)
def Ha4 (s:Gh) (bf af:List G1) (lf:List Int) (bay:Int):List Int:=((Zh s bf lf bay false++Zh s af lf bay false).map (Gfd s)).foldl G7a []
def G7f (s:Gh) (bf af:List G1) (lf:List Int) (bay:Int):List Int:=H4e J39 (Ha4 s bf af lf bay)
theorem Q3b {a:Int}:∀ (l u:List Int),a∈l.foldl G7a u ↔ a∈u∨(a∈l∧0≤a)
 | [],u=>by simp
 | k::l,u=>by
  rw [List.foldl_cons,Q3b l,Y3b,Mq]
  constructor
  ·rintro((h | ⟨rfl,h⟩) | h)
   ·exact .inl h
   ·exact .inr ⟨.inl rfl,h⟩
   ·exact .inr ⟨.inr h.1,h.2⟩
  ·rintro(h | ⟨rfl | h,h2⟩)
   ·exact .inl (.inl h)
   ·exact .inl (.inr ⟨rfl,h2⟩)
   ·exact .inr ⟨h,h2⟩
theorem J79:∀ (l u:List Int),u.Nodup→(l.foldl G7a u).Nodup
 | [],_,h=>h
 | _::l,_,h=>J79 l _ (R57 h)
theorem Ha3 {s:Gh} {bf af:List G1} {lf:List Int} {bay a:Int}:a∈Ha4 s bf af lf bay ↔ 0≤a∧∃ x,(x∈bf∨x∈af)∧H7f s lf bay false x=true∧Gfd s x=a:=by
 unfold Ha4
 rw [Q3b,Mo]
 constructor
 ·rintro(h | ⟨⟨x,hx,e⟩,h⟩)
  ·exact(M9 h).elim
  ·rw [Mn,Ge3,Ge3] at hx
   rcases hx with g | g
   ·exact⟨h,x,.inl g.1,g.2,e⟩
   ·exact⟨h,x,.inr g.1,g.2,e⟩
 ·rintro⟨h,x,hx,hp,e⟩
  refine .inr ⟨⟨x,?_,e⟩,h⟩
  rw [Mn,Ge3,Ge3]
  exact hx.elim (fun h=>.inl ⟨h,hp⟩) (fun h=>.inr ⟨h,hp⟩)
theorem Q2e {s:Gh} {bf af:List G1} {lf:List Int} {bay a:Int}:a∈G7f s bf af lf bay ↔ 0≤a∧∃ x,(x∈bf∨x∈af)∧H7f s lf bay false x=true∧Gfd s x=a:=by
 unfold G7f
 rw [H7c,Ha3]
theorem Y37 {s:Gh} {c:G3}:Jt s c < (s.Covers.length:Int):=by
 unfold Jt
 rcases H21 (fun x=>Hd4 x c) s.Covers with ⟨h,_⟩ | ⟨m,x,h,h2,_⟩
 ·rw [h]; omega
 ·have:=(M5 h2).1
  rw [h]; omega
theorem J75 {s:Gh} {bf af:List G1} {lf:List Int} {bay:Int}:(Ha4 s bf af lf bay).Nodup:=J79 _ _ List.nodup_nil
theorem Q2d {s:Gh} {bf af:List G1} {lf:List Int} {bay:Int}:(Ha4 s bf af lf bay).length≤s.Covers.length:=by
 have h:=Ycc s.Covers.length ((Ha4 s bf af lf bay).map (·.toNat)) ?_ ?_
 ·rwa [Mm] at h
 ·refine List.pairwise_map.2 (List.Pairwise.imp_of_mem (fun {a b} ha hb h0=>?_) J75)
  have h1:=(Ha3.1 ha).1
  have h2:=(Ha3.1 hb).1
  intro e
  exact h0 (by omega)
 ·intro x hx
  obtain⟨a,ha,rfl⟩:=Mo.1 hx
  obtain⟨h1,y,_,_,e⟩:=Ha3.1 ha
  have:=Y37 (s:=s) (c:=G0e s y.Slot)
  unfold Gfd at e
  rw [e] at this
  omega
theorem J31 {s:Gh} {bf af:List G1} {lf:List Int} {bay:Int}:(G7f s bf af lf bay).length≤s.Covers.length:=by
 unfold G7f
 rw [G8e]; exact Q2d
theorem J76 {s:Gh} {bf af:List G1} {lf:List Int} {bay:Int}:(G7f s bf af lf bay).Nodup:=by
 unfold G7f
 exact(H1d _ _).nodup_iff.2 J75
theorem J38:∀ (l u:List Int),(l.foldl G7a u).length≤u.length+l.length
 | [],u=>by simp
 | k::l,u=>by
  rw [List.foldl_cons,Md]
  have:=J38 l (G7a u k)
  have h:(G7a u k).length≤u.length+1:=by
   unfold G7a
   cases decide (0≤k)&&!(u.any (fun y=>decide (k=y))) <;> simp
  omega
structure H60 (s:Gh):Prop where
 covs:s.Covers.length≤10
 rows:∀ x∈s.Covers,x.Rows.length≤1000000
theorem R12 {s:Gh} {bf af:List G1} {lf:List Int} {bay:Int} {F:Nat} (hF:60≤F) (hs:H60 s) (hb:∀ x∈bf,Hb1 s x.Slot) (ha:∀ x∈af,Hb1 s x.Slot) (lb:bf.length≤12) (la:af.length≤12) :
  G53 F s bf af lf bay=some (G7f s bf af lf bay):=by
 refine G28 ?_
 unfold G53
 have one:∀ (l:List G1) (u:List Int) (nx:List Int→Option (List Int)) (Q:List Int→Prop),(∀ x∈l,Hb1 s x.Slot)→l.length≤12→u.length≤100→Wp (nx ((l.map (Gfd s)).foldl G7a u)) Q →
   Wp (each (fun y52 i52 (s52:(List Int)) nx52=>
   jp (fun kj55=>
    bnd (R8 s y52.Slot.G3) fun r58=>
    bnd (bif decide (0≤r58) then Q1 s52 r58 else some default) fun r60=>
    bif ((decide (0≤r58))&&(!r60)) then
    (need (decide ((s52.length+[r58].length)*8≤140737488355328∧s52.length+[r58].length≤maxLen)) <|
     kj55 (s52++[r58]))
    else
    (kj55 s52)) fun(j55:(List Int))=>
   nx52 j55)
  (fun(s52:(List Int))=>
   nx s52) l 0 u) Q:=by
  intro l u nx Q h4 hl hu hQ
  refine Jg (fun pre st=>st=(pre.map (Gfd s)).foldl G7a u) rfl (fun pre x post st nx2 e h0 h6=>?_) (fun st h0=>by rw [h0]; exact hQ)
  subst h0
  obtain⟨m,c,h1,h2⟩:=h4 x (by rw [e]; simp)
  have hp:pre.length≤12:=by rw [e] at hl; simp at hl; omega
  have h3:=J38 (pre.map (Gfd s)) u
  rw [Mm] at h3
  have hk:Gfd s x=Jt s c:=by unfold Gfd; rw [H43 h1 h2]
  refine Zy (fun j=>j=((pre++[x]).map (Gfd s)).foldl G7a u) (fun K hK=>?_) (fun j hj=>h6 _ hj)
  rw [h1]
  refine Gt (Gf6 h2 hs.rows (by have:=hs.covs; omega)) ?_
  rw [List.map_append,List.foldl_append] at hK
  simp only [List.map_cons,List.map_nil,List.foldl_cons,List.foldl_nil] at hK
  rw [hk] at hK
  generalize (pre.map (Gfd s)).foldl G7a u=w at hK h3
  have h7:Wp (bif decide (0≤Jt s c) then Q1 w (Jt s c) else some default) (fun r60=>((decide (0≤Jt s c))&&(!r60))=(decide (0≤Jt s c)&&!(w.any (fun y=>decide (Jt s c=y))))):=by
   cases decide (0≤Jt s c) with
   | true=>exact⟨_,R26 _ _,rfl⟩
   | false=>exact⟨_,rfl,rfl⟩
  refine H6 (wp_mono h7 (fun r60 h8=>?_))
  rw [h8]
  unfold G7a at hK
  refine Hs (fun h=>Rr (Zz (by rw [Mi]; omega) (by omega)) (hK _ ?_)) (fun h=>hK _ ?_)
  ·rw [h]; rfl
  ·rw [h]; rfl
 have h5:((Zh s af lf bay false).map (Gfd s)).foldl G7a (((Zh s bf lf bay false).map (Gfd s)).foldl G7a [])=Ha4 s bf af lf bay:=by
  unfold Ha4
  rw [List.map_append,List.foldl_append]
 have h9:∀ x∈Zh s bf lf bay false,Hb1 s x.Slot:=fun x hx=>hb x (Ge3.1 hx).1
 have a0:∀ x∈Zh s af lf bay false,Hb1 s x.Slot:=fun x hx=>ha x (Ge3.1 hx).1
 have lb':(Zh s bf lf bay false).length≤12:=Nat.le_trans H1a lb
 have la':(Zh s af lf bay false).length≤12:=Nat.le_trans H1a la
 rw [each]
 refine Gt (J52 hF hb lb) (one _ _ _ _ h9 lb' (by simp) ?_)
 rw [each]
 refine Gt (J52 hF ha la) (one _ _ _ _ a0 la' ?_ ?_)
 ·have:=J38 ((Zh s bf lf bay false).map (Gfd s)) []
  rw [Mm] at this
  simp only [List.length_nil] at this
  omega
 ·rw [each,h5]
  unfold G61
  rw [Yc2 (c:=J39) (fun a b=>Jc6 a b) (by omega) (by have:=Q2d (s:=s) (bf:=bf) (af:=af) (lf:=lf) (bay:=bay); have:=hs.covs; omega)]
  exact Gm rfl
def mvS (kind:Int) (x:G1):Move:=Move.mk kind x.Box x.Slot 0
def mvC (kind:Int) (k:Int):Move:=Move.mk kind 0 (Slot.mk 0 0 0) k
theorem R53 (kind:Int) (l:List G1) (p:List Move) (hl:l.length≤12) (hp:p.length≤100000):Zv kind l p=some (p++l.map (mvS kind)):=by
 refine G28 ?_
 unfold Zv
 refine Jg (fun pre st=>st=p++pre.map (mvS kind)) (by simp) (fun pre x post st nx e h0 h1=>?_) (fun st h0=>Gm h0)
 subst h0
 have hq:pre.length≤12:=by rw [e] at hl; simp at hl; omega
 refine Rr (Zz (by rw [Mi,Mh,Mm]; omega) (by omega)) (h1 _ ?_)
 rw [List.map_append,List.append_assoc]; rfl
theorem Yee (kind:Int) (l:List Int) (p:List Move) (hl:l.length≤12) (hp:p.length≤100000):G54 kind l p=some (p++l.map (mvC kind)):=by
 refine G28 ?_
 unfold G54
 refine Jg (fun pre st=>st=p++pre.map (mvC kind)) (by simp) (fun pre x post st nx e h0 h1=>?_) (fun st h0=>Gm h0)
 subst h0
 have hq:pre.length≤12:=by rw [e] at hl; simp at hl; omega
 refine Rr (Zz (by rw [Mi,Mh,Mm]; omega) (by omega)) (h1 _ ?_)
 rw [List.map_append,List.append_assoc]; rfl
def J2e (s:Gh) (bf af:List G1) (lf:List Int) (bay:Int):List Move:=
 (H4e J6b (Zh s bf lf bay true)).map (mvS 2)++(G7f s bf af lf bay).map (mvC 1)++(H4e J6b (Zh s bf lf bay false)).map (mvS 2)
def Q37 (s:Gh) (bf af:List G1) (lf:List Int) (bay:Int):List Move:=
 (Zh s af lf bay false).map (mvS 3)++(G7f s bf af lf bay).map (mvC 4)++(Zh s af lf bay true).map (mvS 3)
def outs (s:Gh) (bf af:List G1) (lf:List Int) (n:Nat):List Move:=(List.range n).flatMap (fun b:Nat=>J2e s bf af lf (b:Int))
def ins (s:Gh) (bf af:List G1) (lf:List Int) (n:Nat):List Move:=(List.range n).flatMap (fun b:Nat=>Q37 s bf af lf (b:Int))
def H0e (s:Gh) (bf af:List G1) (lf:List Int):List Move:=outs s bf af lf 40++ins s bf af lf 40
theorem Jee {s:Gh} {bf af:List G1} {lf:List Int} (n:Nat):outs s bf af lf (n+1)=outs s bf af lf n++J2e s bf af lf (n:Int):=by
 unfold outs
 rw [List.range_succ,List.flatMap_append]; simp
theorem Qb6 {s:Gh} {bf af:List G1} {lf:List Int} (n:Nat):ins s bf af lf (n+1)=ins s bf af lf n++Q37 s bf af lf (n:Int):=by
 unfold ins
 rw [List.range_succ,List.flatMap_append]; simp
section
variable {s:Gh} {bf af:List G1} {lf:List Int}
theorem Y22 (hs:H60 s) (lb:bf.length≤12) {bay:Int}:(J2e s bf af lf bay).length≤40:=by
 have h1:=H1a (s:=s) (l:=bf) (lf:=lf) (bay:=bay) (deck:=true)
 have h2:=H1a (s:=s) (l:=bf) (lf:=lf) (bay:=bay) (deck:=false)
 have h3:=J31 (s:=s) (bf:=bf) (af:=af) (lf:=lf) (bay:=bay)
 have h4:=hs.covs
 unfold J2e
 simp only [Mh,Mm,G8e]
 omega
theorem Y96 (hs:H60 s) (la:af.length≤12) {bay:Int}:(Q37 s bf af lf bay).length≤40:=by
 have h1:=H1a (s:=s) (l:=af) (lf:=lf) (bay:=bay) (deck:=true)
 have h2:=H1a (s:=s) (l:=af) (lf:=lf) (bay:=bay) (deck:=false)
 have h3:=J31 (s:=s) (bf:=bf) (af:=af) (lf:=lf) (bay:=bay)
 have h4:=hs.covs
 unfold Q37
 simp only [Mh,Mm]
 omega
theorem Jb9 (hs:H60 s) (lb:bf.length≤12):∀ n:Nat,(outs s bf af lf n).length≤40*n
 | 0=>by simp [outs]
 | n+1=>by
  have h1:=Jb9 hs lb n
  have h2:=Y22 (af:=af) (lf:=lf) hs lb (bay:=(n:Int))
  rw [Jee,Mh]; omega
theorem R48 (hs:H60 s) (la:af.length≤12):∀ n:Nat,(ins s bf af lf n).length≤40*n
 | 0=>by simp [ins]
 | n+1=>by
  have h1:=R48 hs la n
  have h2:=Y96 (bf:=bf) (lf:=lf) hs la (bay:=(n:Int))
  rw [Qb6,Mh]; omega
theorem Z39 {F:Nat} (hF:60≤F) (hs:H60 s) (hb:∀ x∈bf,Hb1 s x.Slot) (ha:∀ x∈af,Hb1 s x.Slot) (lb:bf.length≤12) (la:af.length≤12) :
  H05 F s bf af lf=some (H0e s bf af lf):=by
 refine G28 ?_
 unfold H05
 have pl:∀ {l:List G1} {bay:Int} {deck:Bool},l.length≤12→(Zh s l lf bay deck).length≤12:=fun h=>Nat.le_trans H1a h
 have nl:∀ {bay:Int},(G7f s bf af lf bay).length≤12:=Nat.le_trans J31 (by have:=hs.covs; omega)
 refine Rr rfl (He2 (fun i st=>st=outs s bf af lf i) (by simp [outs]) (fun i st nx hi h0 h1=>?_) (fun st h0=>Rr rfl (He2 (fun i st=>st=outs s bf af lf 40++ins s bf af lf i) (by rw [h0]; simp [ins]) (fun i st nx hi h0 h1=>?_) (fun st h0=>Gm h0))))
 ·subst h0
  have h2:=Jb9 (af:=af) (lf:=lf) hs lb i
  have h3:i < 40:=hi
  refine Gt (J52 hF hb lb) (Gt (Rc2 hF (pl lb)) (Gt (R53 _ _ _ (by rw [G8e]; exact pl lb) (by omega)) ?_))
  refine Gt (R12 hF hs hb ha lb la) (Gt (Yee _ _ _ nl ?_) ?_)
  ·rw [Mh,Mm,G8e]; have:=pl lb (bay:=(i:Int)) (deck:=true); omega
  refine Gt (J52 hF hb lb) (Gt (Rc2 hF (pl lb)) (Gt (R53 _ _ _ (by rw [G8e]; exact pl lb) ?_) (h1 _ ?_)))
  ·rw [Mh,Mh,Mm,Mm,G8e]; have:=pl lb (bay:=(i:Int)) (deck:=true); have:=nl (bay:=(i:Int)); omega
  ·rw [Jee]
   unfold J2e
   simp only [List.append_assoc]
 ·subst h0
  have h2:=Jb9 (af:=af) (lf:=lf) hs lb 40
  have h5:=R48 (bf:=bf) (lf:=lf) hs la i
  have h3:i < 40:=hi
  have h4:(outs s bf af lf 40++ins s bf af lf i).length≤5000:=by rw [Mh]; omega
  generalize hg:outs s bf af lf 40++ins s bf af lf i=g at h4 h1 ⊢
  refine Gt (J52 hF ha la) (Gt (R53 _ _ _ (pl la) (by omega)) ?_)
  refine Gt (R12 hF hs hb ha lb la) (Gt (Yee _ _ _ nl ?_) ?_)
  ·rw [Mh,Mm]; have:=pl la (bay:=(i:Int)) (deck:=false); omega
  refine Gt (J52 hF ha la) (Gt (R53 _ _ _ (pl la) ?_) (h1 _ ?_))
  ·rw [Mh,Mh,Mm,Mm]; have:=pl la (bay:=(i:Int)) (deck:=false); have:=nl (bay:=(i:Int)); omega
  ·rw [Qb6,← List.append_assoc (outs s bf af lf 40),hg]
   unfold Q37
   simp only [List.append_assoc]
theorem Ya4 (hs:H60 s) (lb:bf.length≤12) (la:af.length≤12):(H0e s bf af lf).length≤4000:=by
 have h1:=Jb9 (af:=af) (lf:=lf) hs lb 40
 have h2:=R48 (bf:=bf) (lf:=lf) hs la 40
 unfold H0e
 rw [Mh]; omega
end
end Go.Proofs.YtgcpimpnpcdmmaaGreat
