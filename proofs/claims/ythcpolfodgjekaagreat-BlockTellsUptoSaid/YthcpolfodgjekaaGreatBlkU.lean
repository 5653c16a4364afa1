/-
 The examples of the chapter. BlockTells: the reference's functions return what the program's do.
-/
import Derived.Test.YthcpolfodgjekaaGreatXP
import Derived.Test.YthcpolfodgjekaaGreatBlkT
set_option maxRecDepth 100000
namespace Go.Proofs.YthcpolfodgjekaaGreat
open Go.RowKit
theorem awake22:Yi 60=some true:=by kernel_rfl
end Go.Proofs.YthcpolfodgjekaaGreat
set_option maxRecDepth 100000
set_option linter.unusedVariables false
namespace Go.Proofs.YthcpolfodgjekaaGreat
open Go.RowKit

theorem Heb (boxes:List Gg) (id:Int):Jm boxes id=some (G16 boxes id):=by
 unfold Jm G16
 rw [Jeb]
 cases G3a boxes id <;> rfl
theorem ref_way {F:Nat} {s:H2} {boxes:List Gg} {l:List Stowed} (h:BdT F s boxes l) {x:Stowed} (hx:x∈l) (id:Int) :
  Wp (G17 F s boxes l id x.Gg) (fun r=>r=true ↔ x.Gg≠id∧G16 boxes x.Gg < G16 boxes id∧RcS s l [x.Gg] id):=by
 unfold G17
 refine H1 (Heb boxes id) (H1 (Heb boxes x.Gg) (J3 (fun hh=>Gt (Y0 fun hc=>?_)) (fun hh=>?_)))
 ·have:=of_decide_eq_true hh
  have:=hc.2.1
  omega
 have hh:=of_decide_eq_false hh
 refine Hs (wp_mono (h.refR (inOne hx)) (fun r hr=>?_))
 refine Qi (fun pre _=>id ∉ pre) (fun h=>(List.not_mem_nil h).elim) (fun pre y post u nx e hI hnx=>J3 (fun hq=>Gt ?_) (fun hq=>hnx _ ?_)) (fun u hI=>Gt (Y0 fun hc=>hI (hr.2.iff.2 hc.2.2)))
 ·have hq:=of_decide_eq_true hq
  have hm:id∈r.1:=by rw [e,hq]; simp
  exact⟨fun _=>⟨fun e=>by rw [e] at hh; omega,by omega,hr.2.iff.1 hm⟩,fun _=>rfl⟩
 ·have hq:=of_decide_eq_false hq
  rw [List.mem_append,List.mem_singleton]
  exact fun hh=>hh.elim hI (fun e=>hq e.symm)
theorem J9f {F:Nat} {s:H2} {boxes:List Gg} {l:List Stowed} (h:BdT F s boxes l) (id:Int):Rr F s boxes l id=some (J70 s boxes l id):=by
 have hl:=h.len
 refine Zz ?_
 unfold Rr J70
 classical
 refine G49 (p:=fun x:Stowed=>decide (x.Gg≠id∧G16 boxes x.Gg < G16 boxes id∧RcS s l [x.Gg] id)) (f:=(·.Gg)) (by omega) (fun y i st nx hy hst ht hf=>?_) (Gt rfl)
 exact H9b (g:=fun r:Bool=>r) (c:=y.Gg≠id∧G16 boxes y.Gg < G16 boxes id∧RcS s l [y.Gg] id) hst (ref_way h hy id) (fun hc=>ht (decide_eq_true hc)) (fun hc=>hf (decide_eq_false hc))
theorem at_in {l:List Stowed} {id:Int}:decide (H9c (fun x:Stowed=>decide (x.Gg=id)) l < 0)=!decide (id∈l.map (·.Gg)):=by
 rcases G6a (fun x:Stowed=>decide (x.Gg=id)) l with ⟨h1,h2,_⟩ | ⟨q,x,h1,h2,h3,_⟩
 ·rw [h1,decide_eq_true (by omega:(-1:Int) < 0),decide_eq_false]
  ·rfl
  ·intro hh
   obtain⟨x,hx,e⟩:=List.mem_map.1 hh
   have:=h2 x hx
   rw [decide_eq_true e] at this; cases this
 ·rw [h1,decide_eq_false (by omega),decide_eq_true (List.mem_map.2 ⟨x,List.mem_of_getElem? h2,of_decide_eq_true h3⟩)]
  rfl
theorem blocked_both {F:Nat} {s:H2} {boxes:List Gg} {l:List Stowed} (h:PreT F s boxes l) (id:Int):∃ v,Yb F s boxes l id=some v∧Qx F s boxes l id=some v:=by
 obtain⟨b,h1,h2,h3⟩:=h.right
 cases b with
 | false=>exact⟨([],2),by unfold Yb; rw [h1]; rfl,by unfold Qx; rw [h2]; rfl⟩
 | true=>
  obtain⟨hS,hR⟩:=h3.1 rfl
  have hB:BdT F s boxes l:=⟨h,hS,hR⟩
  by_cases hi:id∈l.map (·.Gg)
  ·refine⟨(J70 s boxes l id,0),Zz ?_,Zz ?_⟩
   ·unfold Yb
    refine H1 h1 (J3 (fun h=>by cases h) (fun _=>H1 (block_on l id) (J3 (fun hh=>?_) (fun _=>H1 (blockedT hB id) (Gt rfl)))))
    rw [decide_eq_true hi] at hh; cases hh
   ·unfold Qx
    refine H1 h2 (J3 (fun h=>by cases h) (fun _=>H1 (ref_at l id) (J3 (fun hh=>?_) (fun _=>H1 (J9f hB id) (Gt rfl)))))
    rw [at_in,decide_eq_true hi] at hh; cases hh
  ·refine⟨([],6),Zz ?_,Zz ?_⟩
   ·unfold Yb
    refine H1 h1 (J3 (fun h=>by cases h) (fun _=>H1 (block_on l id) (J3 (fun hh=>Gt rfl) (fun hh=>?_))))
    rw [decide_eq_false hi] at hh; cases hh
   ·unfold Qx
    refine H1 h2 (J3 (fun h=>by cases h) (fun _=>H1 (ref_at l id) (J3 (fun hh=>Gt rfl) (fun hh=>?_))))
    rw [at_in,decide_eq_false hi] at hh; cases hh
theorem blockers_both {F:Nat} {s:H2} {boxes:List Gg} {l:List Stowed} (h:PreT F s boxes l):∃ v,Yh F s boxes l=some v∧Rc F s boxes l=some v:=by
 obtain⟨b,h1,h2,h3⟩:=h.right
 cases b with
 | false=>exact⟨([],2),by unfold Yh; rw [h1]; rfl,by unfold Rc; rw [h2]; rfl⟩
 | true=>
  obtain⟨hS,hR⟩:=h3.1 rfl
  have hB:BdT F s boxes l:=⟨h,hS,hR⟩
  have hl:=h.len
  obtain⟨r,hr,r2,rs,rm⟩:=BlockersT hB
  refine⟨r,hr,Zz ?_⟩
  unfold Rc
  refine H1 h2 (J3 (fun h=>by cases h) (fun _=>?_))
  refine G49 (p:=fun x:Stowed=>decide (0 < (J70 s boxes l x.Gg).length)) (f:=(·.Gg)) (by omega) (fun y i st nx hy hst ht hf=>H9b (c:=0 < (J70 s boxes l y.Gg).length) hst ⟨_,J9f hB y.Gg,by show decide _=true ↔ _; rw [decide_eq_true_eq]; omega⟩ (fun hc=>ht (decide_eq_true hc)) (fun hc=>hf (decide_eq_false hc))) (Gt (Prod.ext ?_ r2.symm))
  refine J4c (List.pairwise_map.2 (hR.sorted.sublist List.filter_sublist)) rs (fun id=>?_)
  rw [rm,List.mem_map]
  constructor
  ·rintro⟨x,hx,rfl⟩
   obtain⟨hx,hb⟩:=List.mem_filter.1 hx
   obtain⟨b,hb⟩:=List.exists_mem_of_length_pos (of_decide_eq_true hb)
   obtain⟨k1,_,k2,k3⟩:=mem_blkL.1 hb
   obtain⟨y,hy,e⟩:=List.mem_map.1 k1
   subst e
   exact⟨y,hy,k2,k3⟩
  ·rintro⟨x,hx,k2,k3⟩
   obtain⟨y,hy,e⟩:=List.mem_map.1 (k3.G0a (inOne hx))
   subst e
   refine⟨y,List.mem_filter.2 ⟨hy,decide_eq_true (List.length_pos_of_mem (mem_blkL.2 ⟨List.mem_map.2 ⟨x,hx,rfl⟩,fun e=>?_,k2,k3⟩))⟩,rfl⟩
   rw [e] at k2; omega
theorem ref_leaving {F:Nat} {s:H2} {boxes:List Gg} {l:List Stowed} (h:BdT F s boxes l) (h2:Q9 F s boxes l=some true) (hne:l≠[]):Wp (Qm F s boxes l) (LevP s boxes l):=by
 have hl:=h.len
 obtain⟨x0,r0,rfl⟩:∃ x0 r0,l=x0::r0:=by
  cases l with
  | nil=>exact(hne rfl).elim
  | cons x r=>exact⟨x,r,rfl⟩
 unfold Qm
 refine H1 h2 (J3 (fun h=>by cases h) (fun _=>J3 (fun h=>?_) (fun _=>?_)))
 ·have:=of_decide_eq_true h; simp only [List.length_cons] at this; omega
 refine G58 (m:=0) rfl rfl (H1 (Heb boxes x0.Gg) ?_)
 refine Qi (fun pre n=>n≤G16 boxes x0.Gg∧(∀ x∈pre,n≤G16 boxes x.Gg)∧∃ x∈x0::r0,G16 boxes x.Gg=n) ⟨Int.le_refl _,fun x hx=>(List.not_mem_nil hx).elim,x0,by simp,rfl⟩ (fun pre y post n nx e hI hnx=>?_) (fun n hI=>?_)
 ·obtain⟨i0,i1,x,hx,i2⟩:=hI
  refine Haa (fun j=>j=min n (G16 boxes y.Gg)) (fun K hK=>H1 (Heb boxes y.Gg) (J3 (fun hh=>hK _ ?_) (fun hh=>hK _ ?_))) (fun j hj=>?_)
  ·have:=of_decide_eq_true hh; omega
  ·have:=of_decide_eq_false hh; omega
  subst hj
  refine hnx _ ⟨by omega,Qn (P:=fun x:Stowed=>min n (G16 boxes y.Gg)≤G16 boxes x.Gg) (fun z hz=>by have:=i1 z hz; omega) (by omega),?_⟩
  rcases Int.le_total n (G16 boxes y.Gg) with hh | hh
  ·exact⟨x,hx,by omega⟩
  ·exact⟨y,by rw [e]; simp,by omega⟩
 obtain⟨_,i1,i2⟩:=hI
 refine G49 (p:=fun x:Stowed=>decide (G16 boxes x.Gg=n)) (f:=(·.Gg)) (by omega) (fun y i st nx hy hst ht hf=>H9b (c:=G16 boxes y.Gg=n) hst ⟨_,Heb boxes y.Gg,by simp⟩ (fun hc=>ht (decide_eq_true hc)) (fun hc=>hf (decide_eq_false hc))) ?_
 refine Hs (wp_mono (h.refR (ids:=levL boxes (x0::r0) n) J47) (fun r hr=>?_))
 have hrl:=hr.2.len J47
 exact G49 (p:=fun b:Int=>decide (n < G16 boxes b)) (f:=fun b=>b) (by omega) (fun y i st nx hy hst ht hf=>H9b (c:=n < G16 boxes y) hst ⟨_,Heb boxes y,by simp⟩ (fun hc=>ht (decide_eq_true hc)) (fun hc=>hf (decide_eq_false hc))) (Gt ⟨n,r.1,⟨i1,i2⟩,hr.2,by rw [List.map_id']; rfl⟩)
theorem leaving_both {F:Nat} {s:H2} {boxes:List Gg} {l:List Stowed} (h:PreT F s boxes l):∃ v,Z4 F s boxes l=some v∧Qm F s boxes l=some v:=by
 obtain⟨b,h1,h2,h3⟩:=h.right
 cases b with
 | false=>exact⟨(0,[],[],2),by unfold Z4; rw [h1]; rfl,by unfold Qm; rw [h2]; rfl⟩
 | true=>
  obtain⟨hS,hR⟩:=h3.1 rfl
  have hB:BdT F s boxes l:=⟨h,hS,hR⟩
  by_cases hne:l=[]
  ·subst hne
   exact⟨(0,[],[],6),by unfold Z4; rw [h1]; rfl,by unfold Qm; rw [h2]; rfl⟩
  ·obtain⟨a,ha,ha'⟩:=LeavingT hB hne
   obtain⟨b,hb,hb'⟩:=ref_leaving hB h2 hne
   rw [ha'.eq hb'] at ha
   exact⟨b,ha,hb⟩

/-! ### The law -/
structure Few22 (s:H2) (boxes:List Gg) (l:List Stowed):Prop where
 covs:s.Covers.length≤12
 len:l.length≤14
 cov:∀ x∈s.Covers,x.Rows.length≤12
theorem few22_spec (s:H2) (boxes:List Gg) (l:List Stowed):Wp (G18 s boxes l) (fun r=>r=true→Few22 s boxes l):=by
 unfold G18
 refine J3 (fun h=>Gt (fun h=>Bool.noConfusion h)) (fun h=>?_)
 simp only [Bool.or_eq_false_iff,decide_eq_false_iff_not] at h
 obtain⟨⟨⟨h1,h2⟩,h3⟩,h4⟩:=h
 refine Qi (fun pre _=>True) trivial (fun pre y post u nx e hI hnx=>J3 (fun h=>Gt (fun h=>Bool.noConfusion h)) (fun h=>hnx _ trivial)) (fun u hI=>?_)
 refine Qi (fun pre _=>∀ x∈pre,x.Rows.length≤12) (fun c hc=>(List.not_mem_nil hc).elim) (fun pre y post u nx e hI hnx=>J3 (fun h=>Gt (fun h=>Bool.noConfusion h)) (fun h=>hnx _ (Qn (P:=fun x:G9=>x.Rows.length≤12) hI ?_))) (fun u hI2=>Gt (fun _=>⟨by omega,by omega,hI2⟩))
 simp only [decide_eq_false_iff_not] at h; omega
theorem lawTells22F {F:Nat} (hF:40≤F) (hA:Yi F=some true) (s:H2) (boxes:List Gg) (l:List Stowed) (id:Int) (hs:Hf7 s) (hb:∀ b∈boxes,0≤b.Size∧b.Size≤255) (l1:boxes.length≤1048576) (l2:l.length≤1048576):Rz F s boxes l id=some true:=by
 refine Zz ?_
 unfold Rz
 refine Hs (wp_mono (few22_spec s boxes l) (fun r4 h4=>J3 (fun _=>H1 hA (Gt rfl)) (fun h=>?_)))
 have hf:=h4 (by simpa using h)
 have hP:PreT F s boxes l:=⟨hs.plugs,fun x hx=>by have:=hf.cov x hx; omega,by have:=hf.covs; omega,hb,hf.len,hF⟩
 refine H1 (LentShip_eq hs) (H1 (LentBoxes_eq l1) (H1 (Q16 l2) ?_))
 rw [plShip]
 obtain⟨v,hv1,hv2⟩:=blocked_both hP id
 obtain⟨u,hu1,hu2⟩:=blockers_both hP
 obtain⟨w,hw1,hw2⟩:=leaving_both hP
 refine H1 hv1 (H1 hv2 (H1 hu1 (H1 hu2 (H1 hw1 (H1 hw2 ?_)))))
 have c1:decide (v.2≠v.2)=false:=decide_eq_false (by simp)
 have c2:decide (u.2≠u.2)=false:=decide_eq_false (by simp)
 have c3:decide (w.2.2.2≠w.2.2.2)=false:=decide_eq_false (by simp)
 have c4:decide (w.1≠w.1)=false:=decide_eq_false (by simp)
 rw [c1,c2,c3,c4,G52,G52,G52,G52]
 simp only [Bool.or_self,Bool.not_false,cond_true,Hd6,Bool.not_true,cond_false]
 rw [KeptShip_eq hs,Hd6,cond_true,KeptBoxes_eq l1,Hd6,Bool.and_self,cond_true,Q18 l2,Hd6,Bool.and_self,cond_true,hA,Hd6]
 exact Gt rfl
theorem lawTells22 (s:H2) (boxes:List Gg) (l:List Stowed) (id:Int) (hs:Hf7 s) (hb:∀ b∈boxes,0≤b.Size∧b.Size≤255) (l1:boxes.length≤1048576) (l2:l.length≤1048576):Rz 60 s boxes l id=some true:=
 lawTells22F (by omega) awake22 s boxes l id hs hb l1 l2
end Go.Proofs.YthcpolfodgjekaaGreat
