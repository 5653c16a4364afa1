/-
 What is taken,one by one,with covers opened as soon as that can be done.
-/
import Derived.Test.YtapmanciffiibaaGreatPutN
set_option linter.unusedSimpArgs false
set_option linter.unnecessarySimpa false
set_option maxRecDepth 100000
set_option linter.unusedVariables false
namespace Go.Proofs.YtapmanciffiibaaGreat
open Go.RowKit

/-- A box that cannot be taken, or is not there. -/
def H06 (s:Gu) (l:List Stowed) (o:List Int) (id:Int):Prop:=∀ x∈l,x.Ga=id→Zb l x.Slot≠[]∨H4b s o x.Slot
theorem take_all {s:Gu} {boxes:List Ga} {l:List Stowed} {o:List Int} (h:Hbb s boxes l) (hO:G3b s o) (id:Int) :
  Wp (G00 s boxes l o id) (fun r=>(r.2≠0∧H06 s l o id)∨(r.2=0∧∃ pre x post,l=pre++x::post∧x.Ga=id∧r.1=pre++post∧Zb l x.Slot=[]∧¬ H4b s o x.Slot)):=by
 by_cases hm:∃ x∈l,x.Ga=id
 ·obtain⟨x,hx,rfl⟩:=hm
  obtain⟨v,hv,hc⟩:=free_spec h hO hx
  have hst:Zb l x.Slot≠[]∨H4b s o x.Slot→H06 s l o x.Ga:=fun hh y hy e=>by
   rw [G5f h.right.sorted hy hx e]; exact hh
  refine wp_mono (take_spec h hx hv) (fun r hr=>?_)
  obtain⟨h1,h2⟩:=hr
  rcases hc with ⟨e,hh⟩ | ⟨e,_,hh⟩ | ⟨e,h3,h4⟩
  ·exact .inl ⟨by omega,hst (.inl hh)⟩
  ·exact .inl ⟨by omega,hst (.inr hh)⟩
  ·obtain⟨pre,post,e1,e2⟩:=h2 e
   exact .inr ⟨by omega,pre,x,post,e1,rfl,e2,h3,h4⟩
 ·have habove:Yh l id=some ([],6):=by
   have:=h.len
   rw [H41 l id (by omega)]
   have:Ge0 l id=none:=by
    unfold Ge0
    refine List.find?_eq_none.2 fun z hz h=>?_
    exact hm ⟨z,hz,by simpa using h⟩
   unfold H8e
   rw [this]
  have hfree:Rm s boxes l o id=some 6:=by
   refine G35 ?_
   unfold Rm
   exact H3 (h.checked hO) (Ha (fun h=>by cases h) (fun _=>H3 habove (Ha (fun _=>Gf rfl) (fun h=>absurd h (by decide)))))
  unfold G00
  exact H3 hfree (Ha (fun _=>Gf (.inl ⟨by show (6:Int)≠0; decide,fun x hx e=>(hm ⟨x,hx,e⟩).elim⟩)) (fun h=>absurd h (by decide)))

/-- What stands behind some rounds. -/
structure EmI (s:Gu) (boxes:List Ga) (L0:List Stowed) (set:List Int) (never:Int) (l:List Stowed) (o:List Int) (n:Int):Prop where
 sta:Hbb s boxes l
 sub:∀ x∈l,x∈L0
 gone:∀ x∈L0,x ∉ l→x.Ga∈set∧x.Ga≠never
 opn:G3b s o
 free:∀ k∈o,H05 s l k
 num:(l.length:Int)+n=L0.length
 closed:∀ a b,a ∉ l.map (·.Ga)→Pl s L0 a b→b ∉ l.map (·.Ga)
theorem EmI.start {s:Gu} {boxes:List Ga} {L0:List Stowed} (h:Hbb s boxes L0) (set:List Int) (never:Int):EmI s boxes L0 set never L0 [] 0:=
 ⟨h,fun _ hx=>hx,fun x hx hn=>(hn hx).elim,openR_nil,fun k hk=>(List.not_mem_nil hk).elim,by omega,fun a b ha hp=>by
  obtain⟨x,hx,e,_⟩:=hp
  exact(ha (List.mem_map.2 ⟨x,hx,e⟩)).elim⟩
theorem EmI.le {s:Gu} {boxes:List Ga} {L0:List Stowed} {set:List Int} {never:Int} {l:List Stowed} {o:List Int} {n:Int} (h:EmI s boxes L0 set never l o n) (h0:Hbb s boxes L0):n≤(set.length:Int):=by
 have hn:(L0.map (·.Ga)).Nodup:=R7 (List.pairwise_map.2 h0.right.sorted)
 have:=hn.length_le_of_subset (l₂:=l.map (·.Ga)++set) (fun a ha=>by
  obtain⟨x,hx,rfl⟩:=List.mem_map.1 ha
  by_cases hl:x∈l
  ·exact List.mem_append.2 (.inl (List.mem_map.2 ⟨x,hl,rfl⟩))
  ·exact List.mem_append.2 (.inr (h.gone x hx hl).1))
 rw [List.length_append,List.length_map,List.length_map] at this
 have:=h.num
 omega
theorem EmI.take {s:Gu} {boxes:List Ga} {L0:List Stowed} {set:List Int} {never:Int} {pre post:List Stowed} {x:Stowed} {o:List Int} {n:Int} (h:EmI s boxes L0 set never (pre++x::post) o n) (h0:Hbb s boxes L0)
  (h1:x.Ga∈set) (h2:x.Ga≠never) (ho:Zb (pre++x::post) x.Slot=[]) (hs:¬ H4b s o x.Slot):EmI s boxes L0 set never (pre++post) o (n+1):=by
 have hx:x∈pre++x::post:=by simp
 have hlen:(pre++x::post).length=(pre++post).length+1:=by simp only [List.length_append,List.length_cons]; omega
 refine⟨⟨h.sta.ship,right_less h.sta.right ho,by have:=h.sta.len; omega⟩,fun z hz=>h.sub z (H66 hz),fun z hz hn=>?_,h.opn,fun k hk y hy=>h.free k hk y (H66 hy),by have:=h.num; omega,fun a b ha hp hb=>?_⟩
 ·by_cases hl:z∈pre++x::post
  ·have:z=x:=by
    simp only [List.mem_append,List.mem_cons,not_or] at hl hn
    rcases hl with hl | hl | hl
    ·exact(hn.1 hl).elim
    ·exact hl
    ·exact(hn.2 hl).elim
   subst this
   exact⟨h1,h2⟩
  ·exact h.gone z hz hl
 ·obtain⟨y,hy,rfl⟩:=List.mem_map.1 hb
  have hyl:y∈pre++x::post:=H66 hy
  by_cases hal:a∈(pre++x::post).map (·.Ga)
  ·have hax:a=x.Ga:=by
    obtain⟨w,hw,rfl⟩:=List.mem_map.1 hal
    simp only [List.mem_append,List.mem_cons] at hw
    rcases hw with hw | hw | hw
    ·exact(ha (List.mem_map.2 ⟨w,List.mem_append.2 (.inl hw),rfl⟩)).elim
    ·rw [hw]
    ·exact(ha (List.mem_map.2 ⟨w,List.mem_append.2 (.inr hw),rfl⟩)).elim
   obtain⟨z,hz,e,w,hw,ew,hh⟩:=hp
   have hzx:z=x:=G5f h0.right.sorted hz (h.sub x hx) (e.trans hax)
   subst hzx
   have hwy:w=y:=G5f h0.right.sorted hw (h.sub y hyl) ew
   subst hwy
   rcases hh with hh | hh
   ·have:w.Ga∈Zb (pre++z::post) z.Slot:=G2a.2 ⟨w,hyl,rfl,hh⟩
    rw [ho] at this; cases this
   ·obtain⟨m0,c0,m1,c1,e1,e2,e3,e4,q1,q2,q3,q4⟩:=hh
    refine hs ⟨m0,c0,e1,e2,q1,q3,fun hk=>?_⟩
    exact h.free _ hk w hyl m1 c1 e3 e4 q2 q4
  ·exact h.closed a y.Ga hal hp (List.mem_map.2 ⟨y,hyl,rfl⟩)
/-- No cover can be opened any more, and nothing taken. -/
def FinB (s:Gu) (set:List Int) (never:Int) (l:List Stowed) (o:List Int):Prop:=
 (∀ k:Nat,k < s.Covers.length→H05 s l (k:Int)→(k:Int)∈o)∧∀ id∈set,id≠never→H06 s l o id
theorem open_grows {o q:List Int} {k:Int} (ho:o.Pairwise (· < ·)) (hm:∀ a,a∈q ↔ a∈o∨a=k) (hk:k ∉ o):o.length < q.length:=by
 have:(k::o).Nodup:=List.nodup_cons.2 ⟨hk,R7 ho⟩
 have:=this.length_le_of_subset (l₂:=q) (fun a ha=>(hm a).2 (by
  rcases List.mem_cons.1 ha with h | h
  ·exact .inr h
  ·exact .inl h))
 rw [List.length_cons] at this
 omega
theorem H6e {F:Nat} {s:Gu} {boxes:List Ga} {L0:List Stowed} (h0:Hbb s boxes L0) (set:List Int) (never:Int) (hF:40≤F) :
  Wp (Ju F s boxes L0 set never) (fun r=>∃ o,EmI s boxes L0 set never r.1 o r.2∧FinB s set never r.1 o):=by
 unfold Ju
 have hl0:=h0.len
 have hcl:=h0.ship.covs.len
 refine G26 (fun j=>∃ o,EmI s boxes L0 set never j.1 o j.2∧FinB s set never j.1 o) (fun K hK=>?_) (fun j hj=>Gf hj)
 refine wp_loop (fun st=>EmI s boxes L0 set never st.1 st.2.1 st.2.2.1∧(st.2.2.2=false→FinB s set never st.1 st.2.1)) (fun st=>(s.Covers.length - st.2.1.length)+st.1.length+(bif st.2.2.2 then 1 else 0)) ⟨EmI.start h0 set never,fun h=>by cases h⟩ (by show s.Covers.length - 0+L0.length+1 < F; omega) (fun st nx hI hnx=>?_)
 obtain⟨l,o,n,more⟩:=st
 obtain⟨hE,hfin⟩:=hI
 have hE:EmI s boxes L0 set never l o n:=hE
 have hnx:∀ l' o' n' more',EmI s boxes L0 set never l' o' n'→(more'=false→FinB s set never l' o')→(s.Covers.length - o'.length)+l'.length+(bif more' then 1 else 0) < (s.Covers.length - o.length)+l.length+(bif more then 1 else 0)→Wp (nx (l',o',n',more')) _:=fun l' o' n' more' h1 h2 h3=>hnx (l',o',n',more') ⟨h1,h2⟩ h3
 refine Ha (fun hmore=>?_) (fun hmore=>hK _ ⟨o,hE,hfin hmore⟩)
 have hmore:more=true:=hmore
 subst hmore
 refine Jp (fun pre st=>G3b s st.1∧(∀ k∈st.1,H05 s l k)∧o.length≤st.1.length∧(st.2=true→o.length < st.1.length)∧(st.2=false→st.1=o∧∀ k:Nat,k < pre.length→H05 s l (k:Int)→(k:Int)∈o)) ⟨hE.opn,hE.free,Nat.le_refl _,fun h=>(by cases h),fun _=>⟨rfl,fun k hk=>by simp at hk⟩⟩ (fun pre y post st nx2 e hJ hnx2=>?_) (fun st hJ=>?_)
 ·obtain⟨j1,j2,j3,j4,j5⟩:=hJ
  have hpl:pre.length < s.Covers.length:=by rw [e]; simp
  refine G26 (fun st=>G3b s st.1∧(∀ k∈st.1,H05 s l k)∧o.length≤st.1.length∧(st.2=true→o.length < st.1.length)∧(st.2=false→st.1=o∧∀ k:Nat,k < (pre++[y]).length→H05 s l (k:Int)→(k:Int)∈o)) (fun K2 hK2=>?_) (fun j hj=>hnx2 _ hj)
  have hlast:∀ k:Nat,k < (pre++[y]).length→k < pre.length∨k=pre.length:=fun k hk=>by
   simp only [List.length_append,List.length_singleton] at hk; omega
  refine Gz (wp_mono (open_spec hE.sta j1 (by omega) hpl) (fun r hr=>?_))
  rcases hr with ⟨hno,rfl⟩ | ⟨hu,hr0,hro,hrm⟩
  ·refine Ha (fun h=>absurd h (by simp)) (fun _=>hK2 _ ⟨j1,j2,j3,j4,fun hf=>⟨(j5 hf).1,fun k hk hku=>?_⟩⟩)
   rcases hlast k hk with hk | rfl
   ·exact(j5 hf).2 k hk hku
   ·exact(hno hku).elim
  ·rw [hr0]
   refine Ha (fun h=>hK2 _ ⟨hro,fun k hk=>?_,?_,fun _=>?_,fun h=>(by cases h)⟩) (fun h=>hK2 _ ⟨j1,j2,j3,j4,fun hf=>⟨(j5 hf).1,fun k hk hku=>?_⟩⟩)
   ·rcases (hrm k).1 hk with hk | rfl
    ·exact j2 k hk
    ·exact hu
   ·simp only [decide_true,Bool.true_and,decide_eq_true_eq] at h
    show o.length≤r.1.length
    omega
   ·simp only [decide_true,Bool.true_and,decide_eq_true_eq] at h
    show o.length < r.1.length
    omega
   ·rcases hlast k hk with hk | rfl
    ·exact(j5 hf).2 k hk hku
    ·simp only [decide_true,Bool.true_and,decide_eq_false_iff_not] at h
     have hin:(pre.length:Int)∈st.1:=Classical.byContradiction fun hn=>by
      have:=open_grows j1.sorted hrm hn
      omega
     rw [← (j5 hf).1]; exact hin
 obtain⟨o1,m1⟩:=st
 obtain⟨j1,j2,j3,j4,j5⟩:=hJ
 have j1:G3b s o1:=j1
 have j2:∀ k∈o1,H05 s l k:=j2
 have j3:o.length≤o1.length:=j3
 have j4:m1=true→o.length < o1.length:=j4
 have j5:m1=false→o1=o∧∀ k:Nat,k < s.Covers.length→H05 s l (k:Int)→(k:Int)∈o:=j5
 have hol:=j1.len
 have hE1:EmI s boxes L0 set never l o1 n:=⟨hE.sta,hE.sub,hE.gone,j1,j2,hE.num,hE.closed⟩
 refine Jp (fun pre st=>EmI s boxes L0 set never st.1 o1 st.2.1∧st.1.length≤l.length∧(st.2.2=true→m1=true∨st.1.length < l.length)∧(st.2.2=false→m1=false∧st.1=l∧∀ id∈pre,id≠never→H06 s l o1 id)) ⟨hE1,Nat.le_refl _,fun h=>.inl h,fun h=>⟨h,rfl,fun id hid=>(List.not_mem_nil hid).elim⟩⟩ (fun pre y post st nx2 e hJ hnx2=>?_) (fun st hJ=>?_)
 ·obtain⟨l2,n2,m2⟩:=st
  obtain⟨i1,i2,i3,i4⟩:=hJ
  have i1:EmI s boxes L0 set never l2 o1 n2:=i1
  have i2:l2.length≤l.length:=i2
  have i3:m2=true→m1=true∨l2.length < l.length:=i3
  have i4:m2=false→m1=false∧l2=l∧∀ id∈pre,id≠never→H06 s l o1 id:=i4
  have hy:y∈set:=by rw [e]; simp
  refine G26 (fun st=>EmI s boxes L0 set never st.1 o1 st.2.1∧st.1.length≤l.length∧(st.2.2=true→m1=true∨st.1.length < l.length)∧(st.2.2=false→m1=false∧st.1=l∧∀ id∈pre++[y],id≠never→H06 s l o1 id)) (fun K2 hK2=>?_) (fun j hj=>hnx2 _ hj)
  have hle:=i1.num
  have hll:=i1.sta.len
  refine Gz (wp_mono (take_all i1.sta i1.opn y) (fun r hr=>?_))
  have keep:(y≠never→H06 s l2 o1 y)→Wp (K2 (l2,n2,m2)) _:=fun hst=>hK2 _ ⟨i1,i2,i3,fun hf=>⟨(i4 hf).1,(i4 hf).2.1,R4 (i4 hf).2.2 (fun hne=>by rw [← (i4 hf).2.1]; exact hst hne)⟩⟩
  rcases hr with ⟨hr0,hst⟩ | ⟨hr0,pre2,x,post2,e2,hxb,hr1,ho,hsh⟩
  ·refine Ha (fun h=>?_) (fun _=>keep (fun _=>hst))
   simp only [Bool.and_eq_true,decide_eq_true_eq] at h
   exact(hr0 h.2).elim
  ·refine Ha (fun h=>?_) (fun h=>keep (fun hne=>?_))
   ·simp only [Bool.and_eq_true,decide_eq_true_eq] at h
    refine Q8 ⟨by show -9223372036854775808≤n2+1; omega,by show n2+1≤9223372036854775807; omega⟩ ?_
    rw [hr1]
    subst e2
    have hE2:=i1.take h0 (by rw [hxb]; exact hy) (by rw [hxb]; exact h.1) ho hsh
    have hlen:(pre2++x::post2).length=(pre2++post2).length+1:=by simp only [List.length_append,List.length_cons]; omega
    exact hK2 _ ⟨hE2,by show (pre2++post2).length≤l.length; omega,fun _=>.inr (by show (pre2++post2).length < l.length; omega),fun hf=>(by cases hf)⟩
   ·rw [hr0] at h
    simp only [decide_true,Bool.and_true,decide_eq_false_iff_not,ne_eq,Decidable.not_not] at h
    exact(hne h).elim
 obtain⟨l2,n2,m2⟩:=st
 obtain⟨i1,i2,i3,i4⟩:=hJ
 have i1:EmI s boxes L0 set never l2 o1 n2:=i1
 have i2:l2.length≤l.length:=i2
 have i3:m2=true→m1=true∨l2.length < l.length:=i3
 have i4:m2=false→m1=false∧l2=l∧∀ id∈set,id≠never→H06 s l o1 id:=i4
 have hle:=i1.le h0
 refine Ha (fun h=>?_) (fun _=>hnx l2 o1 n2 m2 i1 (fun hf=>?_) ?_)
 ·simp only [Bool.or_eq_true,decide_eq_true_eq] at h
  rcases h with h | h
  ·have h:(set.length:Int) < n2:=h
   omega
  ·have h:(s.Covers.length:Int) < (o1.length:Int):=h
   omega
 ·obtain⟨f1,f2,f3⟩:=i4 hf
  obtain⟨f4,f5⟩:=j5 f1
  subst f2
  exact⟨by rw [f4]; exact f5,f3⟩
 ·have hol0:=hE.opn.len
  cases m2 with
  | false=>
   simp only [cond_false,cond_true]
   omega
  | true=>
   simp only [cond_true]
   rcases i3 rfl with h | h
   ·have:=j4 h
    omega
   ·omega
end Go.Proofs.YtapmanciffiibaaGreat
