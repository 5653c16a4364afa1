/-
 PlanLifts: the law's plain mathematics.
-/
import Derived.Test.YteogacmpgdpjlaaGreatRefL
set_option maxRecDepth 100000
set_option linter.unusedVariables false
namespace Go.Proofs.YteogacmpgdpjlaaGreat
open Go.RowKit

section lifted
variable {s:H8} {before after:List G6}
/-- The marked boxes in order, each once: what is left is greater than all that were told. -/
structure OutR (L:List Gw) (out:List Int) (last:Int):Prop where
 sorted:out.Pairwise (· < ·)
 sub:∀ a∈out,∃ m∈L,m.id=a∧m.in_=true
 last:out=[]∨(last∈out∧∀ a∈out,a≤last)
 rest:∀ m∈L,m.in_=true→m.id∈out∨∀ b∈out,b < m.id
theorem out_loop {F:Nat} {L:List Gw} (hF:L.length+1≤F) (hl:L.length≤100000) :
  Wp (loop (fun nx162 (s162:(List Int)×Int)=>
      each (fun y188 i188 (s188:Int×Bool) nx188=>
       jp (fun kj191=>
        bnd (G16 L y188.id) fun r193=>
        bif ((r193&&((decide ((s162.1.length:Int)=0))||(decide (s162.2 < y188.id))))&&((!s188.2)||(decide (y188.id < s188.1)))) then
        (kj191 (y188.id,true))
        else
        (kj191 (s188.1,s188.2))) fun(j191:Int×Bool)=>
       nx188 (j191.1,j191.2))
      (fun(s188:Int×Bool)=>
       bif (!s188.2) then
       (some (s162.1,(0:Int)))
       else
       (need (decide ((s162.1.length+[s188.1].length)*8≤140737488355328∧s162.1.length+[s188.1].length≤maxLen)) <|
        nx162 ((s162.1++[s188.1]),s188.1))) L 0 (0,false)) F ([],0)) (fun r=>r.2=0∧r.1.Pairwise (· < ·)∧∀ a,a∈r.1 ↔ ∃ m∈L,m.id=a∧m.in_=true):=by
 have hsub:∀ {out:List Int} {last:Int},OutR L out last→out.length≤L.length:=fun {out last} h=>by
  have hn:out.Nodup:=h.sorted.imp (fun h=>by omega)
  have:=hn.length_le_of_subset (l₂:=L.map (·.id)) (fun a ha=>by
   obtain⟨m,hm,e,_⟩:=h.sub a ha
   exact List.mem_map.2 ⟨m,hm,e⟩)
  rwa [List.length_map] at this
 refine wp_loop (fun st:(List Int)×Int=>OutR L st.1 st.2) (fun st=>L.length - st.1.length) ⟨List.Pairwise.nil,fun a ha=>(List.not_mem_nil ha).elim,.inl rfl,fun m hm hmi=>.inr (fun b hb=>(List.not_mem_nil hb).elim)⟩ (by simp only [List.length_nil]; omega) (fun st nx hI hnx=>?_)
 obtain⟨out,last⟩:=st
 simp only at hI ⊢
 have hol:=hsub hI
 -- a box that may come next
 let cand:Gw→Prop:=fun m=>(∃ m'∈L,m'.id=m.id∧m'.in_=true)∧(out=[]∨last < m.id)
 refine Q3 (fun pre (st:Int×Bool)=>(st.2=false→∀ m∈pre,¬ cand m)∧(st.2=true→(∃ m∈pre,cand m∧m.id=st.1)∧∀ m∈pre,cand m→st.1≤m.id)) ⟨fun _ m hm=>(List.not_mem_nil hm).elim,fun h=>Bool.noConfusion h⟩ (fun pre y post st nx2 e hJ hnx2=>?_) (fun st hJ=>?_)
 ·obtain⟨nxt,some_⟩:=st
  simp only at hJ ⊢
  refine G82 (fun j:Int×Bool=>(j.2=false→∀ m∈pre++[y],¬ cand m)∧(j.2=true→(∃ m∈pre++[y],cand m∧m.id=j.1)∧∀ m∈pre++[y],cand m→j.1≤m.id)) (fun K hK=>?_) (fun j hj=>hnx2 _ hj)
  refine H5 (wp_mono (ref_in L y.id) (fun r193 h193=>?_))
  have hc:(r193&&(decide ((out.length:Int)=0)||decide (last < y.id)))=true ↔ cand y:=by
   rw [Bool.and_eq_true,h193,Bool.or_eq_true,decide_eq_true_eq,decide_eq_true_eq]
   have:((out.length:Int)=0) ↔ out=[]:=⟨fun h=>List.eq_nil_of_length_eq_zero (by omega),fun h=>by rw [h]; rfl⟩
   rw [this]
  refine Hm (fun h=>hK _ ⟨fun h=>Bool.noConfusion h,fun _=>⟨⟨y,by simp,?_,rfl⟩,Q1 (P:=fun m:Gw=>cand m→y.id≤m.id) (fun m hm hcm=>?_) (fun _=>Int.le_refl _)⟩⟩) (fun h=>hK _ ⟨fun hs=>Q1 (P:=fun m:Gw=>¬ cand m) (hJ.1 hs) (fun hcy=>?_),fun hs=>⟨?_,Q1 (P:=fun m:Gw=>cand m→nxt≤m.id) (hJ.2 hs).2 (fun hcy=>?_)⟩⟩)
  ·rw [Bool.and_eq_true] at h; exact hc.1 h.1
  ·rw [Bool.and_eq_true,Bool.or_eq_true,Bool.not_eq_true',decide_eq_true_eq] at h
   rcases h.2 with h2 | h2
   ·exact(hJ.1 h2 m hm hcm).elim
   ·cases hso:some_ with
    | false=>exact(hJ.1 hso m hm hcm).elim
    | true=>have:=(hJ.2 hso).2 m hm hcm; omega
  ·simp only at hs
   rw [hc.2 hcy,hs] at h; cases h
  ·obtain⟨m,hm,h1,h2⟩:=(hJ.2 hs).1
   exact⟨m,List.mem_append.2 (.inl hm),h1,h2⟩
  ·simp only at hs
   rw [hc.2 hcy,hs] at h
   simp only [Bool.not_true,Bool.false_or,Bool.true_and,decide_eq_false_iff_not] at h
   omega
 ·obtain⟨nxt,some_⟩:=st
  simp only at hJ ⊢
  refine Hm (fun h=>Gn ⟨rfl,hI.sorted,fun a=>⟨hI.sub a,fun⟨m,hm,e,hmi⟩=>?_⟩⟩) (fun h=>?_)
  ·have hso:some_=false:=by simpa using h
   rcases hI.rest m hm hmi with h2 | h2
   ·rw [← e]; exact h2
   ·refine(hJ.1 hso m hm ⟨⟨m,hm,rfl,hmi⟩,?_⟩).elim
    rcases hI.last with h3 | ⟨h3,_⟩
    ·exact .inl h3
    ·exact .inr (h2 _ h3)
  ·have hso:some_=true:=by simpa using h
   obtain⟨⟨m,hm,hcm,hme⟩,hmin⟩:=hJ.2 hso
   obtain⟨⟨m',hm',e',hmi'⟩,hgt⟩:=hcm
   have hlt:∀ a∈out,a < nxt:=fun a ha=>by
    rcases hgt with h3 | h3
    ·rw [h3] at ha; cases ha
    ·rcases hI.last with h4 | ⟨_,h4⟩
     ·rw [h4] at ha; cases ha
     ·have:=h4 a ha; omega
   have hI':OutR L (out++[nxt]) nxt:=by
    refine⟨H1b hI.sorted hlt,Q1 hI.sub ⟨m',hm',by omega,hmi'⟩,.inr ⟨by simp,Q1 (P:=fun a:Int=>a≤nxt) (fun a ha=>by have:=hlt a ha; omega) (Int.le_refl _)⟩,fun m2 hm2 hmi2=>?_⟩
    rcases hI.rest m2 hm2 hmi2 with h2 | h2
    ·exact .inl (List.mem_append.2 (.inl h2))
    ·have hc2:cand m2:=⟨⟨m2,hm2,rfl,hmi2⟩,by
      rcases hI.last with h3 | ⟨h3,_⟩
      ·exact .inl h3
      ·exact .inr (h2 _ h3)⟩
     have:=hmin m2 hm2 hc2
     by_cases he:m2.id=nxt
     ·exact .inl (by rw [he]; simp)
     ·exact .inr (Q1 (P:=fun b:Int=>b < m2.id) h2 (by omega))
   have hl2:=hsub hI'
   rw [List.length_append,List.length_singleton] at hl2
   refine Qy (H06 (by rw [List.length_singleton]; omega) (by omega)) (hnx _ hI' ?_)
   show L.length - (out++[nxt]).length < L.length - out.length
   rw [List.length_append,List.length_singleton]
   omega
theorem right_st {boxes:List H2} {st:List G6} (h:R0 s boxes st):StR s st:=⟨h.sorted,fun y hy=>by
 obtain⟨b,_,hb,_⟩:=h.each y hy
 exact J60 hb⟩
theorem ref_lifted {F:Nat} {boxes:List H2} (hp:∀ c∈s.Columns,c.Plugs.length≤1048576) (hr:∀ x∈s.Covers,x.Rows.length≤1048576) (hb:∀ b∈boxes,0≤b.Size∧b.Size≤255) (hbl:boxes.length≤30) (h1:before.length≤1000) (h2:after.length≤1000) (hF:60≤F) :
  Wp (Zv F s boxes before after) (fun r=>(¬ (H25 s∧R0 s boxes before∧R0 s boxes after)∧r=([],2))∨(H25 s∧R0 s boxes before∧R0 s boxes after∧r.2=0∧r.1.Pairwise (· < ·)∧J26 s before after r.1)):=by
 unfold Zv
 refine H5 (wp_mono (ref_stow (F:=F) (l:=before) hp hr hb (by omega)) (fun r4 h4=>?_))
 cases r4 with
 | false=>
  refine H5 (Gn (Gn (.inl ⟨fun h=>?_,rfl⟩)))
  have:=h4.2 ⟨h.1,h.2.1⟩; cases this
 | true=>
  have hR:=h4.1 rfl
  simp only [Bool.not_true,Bool.not_false,cond_true,Bool.false_or]
  refine H5 (wp_mono (ref_stow (F:=F) (l:=after) hp hr hb (by omega)) (fun r5 h5=>Hm (fun h=>Gn (.inl ⟨fun hh=>?_,rfl⟩)) (fun h=>?_)))
  ·rw [h5.2 ⟨hh.1,hh.2.2⟩] at h; cases h
  have hR2:R0 s boxes after:=by
   cases r5 with
   | true=>exact(h5.1 rfl).2
   | false=>cases h
  clear h h4 h5
  obtain⟨hS,hR1⟩:=hR
  have hsb:=right_st hR1
  have hsa:=right_st hR2
  let inE:H2→Bool:=fun b=>(Qz before b.ID).2||(Qz after b.ID).2
  have hfalse:∀ {st:List G6} {id:Int},(Qz st id).2=false→Qz st id=(⟨0,0,0⟩,false):=fun {st id} h=>by
   rcases Gc6 st id with ⟨_,h2⟩ | ⟨_,_,_,_,_,h2⟩
   ·exact h2
   ·rw [h2] at h; cases h
  refine Q3 (fun pre L=>L.map (·.id)=(pre.filter inE).map (·.ID)∧∀ m∈L,(m.in_=true ↔ Qz before m.id≠Qz after m.id)) ⟨rfl,fun m hm=>(List.not_mem_nil hm).elim⟩ (fun pre y post L nx e hI hnx=>?_) (fun L hI=>?_)
  ·obtain⟨hI1,hI2⟩:=hI
   have hLl:L.length≤30:=by
    have:=congrArg List.length hI1
    rw [List.length_map,List.length_map] at this
    have:=List.length_filter_le inE pre
    rw [e] at hbl
    simp only [List.length_append,List.length_cons] at hbl
    omega
   refine G82 (fun L'=>L'.map (·.id)=((pre++[y]).filter inE).map (·.ID)∧∀ m∈L',(m.in_=true ↔ Qz before m.id≠Qz after m.id)) (fun K hK=>?_) (fun j hj=>hnx _ hj)
   have hfl:(pre++[y]).filter inE=pre.filter inE++(if inE y then [y] else []):=by
    rw [List.filter_append]
    by_cases h:inE y <;> simp [h]
   rw [hfl] at hK
   have hadd:inE y=true→Wp (bnd (Yw before after y.ID) fun r60=>
     need (decide ((L.length+[(Gw.mk y.ID r60)].length)*16≤140737488355328∧L.length+[(Gw.mk y.ID r60)].length≤maxLen)) <|
     K (L++[(Gw.mk y.ID r60)])) (fun r=>(¬ (H25 s∧R0 s boxes before∧R0 s boxes after)∧r=([],2))∨(H25 s∧R0 s boxes before∧R0 s boxes after∧r.2=0∧r.1.Pairwise (· < ·)∧J26 s before after r.1)):=fun hin=>by
    refine H5 (wp_mono (ref_moved before after y.ID) (fun r60 h60=>Qy (H06 (by rw [List.length_singleton]; omega) (by omega)) (hK _ ⟨?_,Q1 hI2 ?_⟩)))
    ·rw [if_pos hin,List.map_append,List.map_append,hI1]; rfl
    ·show r60=true ↔ Qz before y.ID≠Qz after y.ID
     rw [h60]
     have hin':(Qz before y.ID).2=true∨(Qz after y.ID).2=true:=by simpa [inE] using hin
     constructor
     ·intro hn he
      rw [he] at hin' hn
      exact hn ⟨hin'.elim (fun h=>h) (fun h=>h),hin'.elim (fun h=>h) (fun h=>h),rfl⟩
     ·intro hn ⟨g1,g2,g3⟩
      exact hn (Prod.ext g3 (g1.trans g2.symm))
   rcases Gc6 before y.ID with ⟨a1,a2⟩ | ⟨m,x,a1,a2,a3,a4⟩
   ·rw [a1]
    refine H5 (Gn ?_)
    rcases Gc6 after y.ID with ⟨b1,b2⟩ | ⟨k,z,b1,b2,b3,b4⟩
    ·refine Gy (show (bif (!(decide ((0:Int) ≤ -1))) then Jv after y.ID else some default)=some (-1) from b1) ?_
     have hno:inE y=false:=by simp [inE,a2,b2]
     refine hK _ ⟨by rw [if_neg (by rw [hno]; simp),List.append_nil]; exact hI1,hI2⟩
    ·refine Gy (show (bif (!(decide ((0:Int) ≤ -1))) then Jv after y.ID else some default)=some (k:Int) from b1) ?_
     rw [decide_eq_true (by omega:(0:Int)≤(k:Int)),Bool.or_true,cond_true]
     exact hadd (by simp [inE,b4])
   ·rw [a1]
    refine H5 (Gn ?_)
    rw [decide_eq_true (by omega:(0:Int)≤(m:Int))]
    refine H5 (Gn ?_)
    rw [Bool.true_or,cond_true]
    exact hadd (by simp [inE,a4])
  ·obtain⟨hI1,hI2⟩:=hI
   have hLl:L.length≤30:=by
    have:=congrArg List.length hI1
    rw [List.length_map,List.length_map] at this
    have:=List.length_filter_le inE boxes
    omega
   -- what a seed is
   have hseed:∀ a,Seed before after a→Qz before a≠Qz after a:=fun a ⟨st,hst,y,hy,e,hne⟩=>hne
   have hM0:H68 s before after (L.map (·.id)) L:=by
    refine⟨rfl,fun m hm hs=>(hI2 m hm).2 (hseed _ hs),fun m hm hmi C _ hC=>hC _ ?_⟩
    have hne:=(hI2 m hm).1 hmi
    have hin:m.id∈L.map (·.id):=List.mem_map.2 ⟨m,hm,rfl⟩
    rw [hI1] at hin
    obtain⟨b,hbm,hbe⟩:=List.mem_map.1 hin
    have hbi:=(List.mem_filter.1 hbm).2
    simp only [inE,Bool.or_eq_true] at hbi
    rcases hbi with hh | hh
    ·obtain⟨y,hy,e1,_⟩:=J39 hh
     exact⟨before,by simp,y,hy,by omega,hne⟩
    ·obtain⟨y,hy,e1,_⟩:=J39 hh
     exact⟨after,by simp,y,hy,by omega,hne⟩
   generalize hids:L.map (·.id)=ids at hM0 hI1
   have hil:ids.length≤30:=by rw [← hids,List.length_map]; exact hLl
   have hnat:((L.length:Nat):Int).toNat=ids.length:=by rw [← hids,List.length_map]; omega
   rw [hnat]
   have hfle:∀ {L':List Gw},H68 s before after ids L'→G50 L'≤30:=fun {L'} h=>by
    have h3:=H5b h
    have h4:G50 L'≤L'.length:=List.countP_le_length
    omega
   refine wp_loop (fun st:Bool×List Gw=>H68 s before after ids st.2∧(st.1=false→Done s before after st.2 (fun _ _=>True))) (fun st=>G50 st.2+(if st.1 then 1 else 0)) ⟨hM0,fun h=>Bool.noConfusion h⟩ (by have:=hfle hM0; simp only [if_true]; omega) (fun st nx hI hnx=>?_)
   obtain⟨more,L1⟩:=st
   simp only at hI hnx ⊢
   obtain⟨hM,hD⟩:=hI
   have hL1:=H5b hM
   refine Hm (fun hmore=>?_) (fun hmore=>?_)
   ·refine Qy (decide_eq_true (by omega)) ?_
    refine Gec (fun i (st:Bool×List Gw)=>H68 s before after ids st.2∧G50 st.2≤G50 L1∧(st.1=true→G50 st.2 < G50 L1)∧(st.1=false→Done s before after st.2 (fun i' _=>i' < i))) ⟨hM,Nat.le_refl _,fun h=>Bool.noConfusion h,fun _ i k x y h=>by omega⟩ (fun i st nx2 hi hJ hnx2=>?_) (fun st hJ=>hnx _ ⟨hJ.1,fun h i k x y _ hx hy=>hJ.2.2.2 h i k x y (by have:i < st.2.length:=(List.getElem?_eq_some_iff.1 hx).1; have:=H5b hJ.1; omega) hx hy⟩ ?_)
    ·obtain⟨more1,L2⟩:=st
     simp only at hJ hnx2 ⊢
     refine Qy (decide_eq_true (by omega)) ?_
     refine Gec (fun k (st:Bool×List Gw)=>H68 s before after ids st.2∧G50 st.2≤G50 L1∧(st.1=true→G50 st.2 < G50 L1)∧(st.1=false→Done s before after st.2 (fun i' k'=>i' < i∨(i'=i∧k' < k)))) ⟨hJ.1,hJ.2.1,hJ.2.2.1,fun h i' k' x y hor hx hy=>hJ.2.2.2 h i' k' x y (hor.elim (fun h=>h) (fun h=>by omega)) hx hy⟩ (fun k st nx3 hk hK hnx3=>?_) (fun st hK=>hnx2 _ ⟨hK.1,hK.2.1,hK.2.2.1,fun h i' k' x y hlt hx hy=>hK.2.2.2 h i' k' x y (by
       have:k' < st.2.length:=(List.getElem?_eq_some_iff.1 hy).1
       have:=H5b hK.1
       rcases Nat.lt_or_ge i' i with h | h
       ·exact .inl h
       ·exact .inr ⟨by omega,by omega⟩) hx hy⟩)
     obtain⟨more2,L3⟩:=st
     simp only at hK hnx3 ⊢
     refine G82 (fun st:Bool×List Gw=>H68 s before after ids st.2∧G50 st.2≤G50 L1∧(st.1=true→G50 st.2 < G50 L1)∧(st.1=false→Done s before after st.2 (fun i' k'=>i' < i∨(i'=i∧k' < k+1)))) (fun K hKK=>?_) (fun j hj=>hnx3 _ hj)
     refine step_ok hsb hsa hK.1 hi hk (fun x y hx hy himp=>hKK _ ⟨hK.1,hK.2.1,hK.2.2.1,fun h i' k' x' y' hor hx' hy' hin hpl=>?_⟩) (fun x y hx hy hxi hyi hpl=>hKK _ ⟨hK.1.set hx hy hyi hpl,?_,fun _=>?_,fun h=>Bool.noConfusion h⟩)
     ·rcases hor with h1 | ⟨rfl,h1⟩
      ·exact hK.2.2.2 h i' k' x' y' (.inl h1) hx' hy' hin hpl
      ·by_cases hkk:k'=k
       ·subst hkk
        rw [hx] at hx'; rw [hy] at hy'
        cases hx'; cases hy'
        exact himp hin hpl
       ·exact hK.2.2.2 h i' k' x' y' (.inr ⟨rfl,by omega⟩) hx' hy' hin hpl
     ·have:=J6c L3 i x hx hxi
      have:=hK.2.1
      show G50 (L3.set i ⟨x.id,true⟩)≤_
      omega
     ·have:=J6c L3 i x hx hxi
      have:=hK.2.1
      show G50 (L3.set i ⟨x.id,true⟩) < _
      omega
    ·show G50 st.2+(if st.1 then 1 else 0) < G50 L1+(if more then 1 else 0)
     rw [if_pos hmore]
     cases hs1:st.1 with
     | true=>have:=hJ.2.2.1 hs1; rw [if_pos rfl]; omega
     | false=>have:=hJ.2.1; rw [if_neg (by simp)]; omega
   ·have hdone:=hD hmore
    refine wp_mono (out_loop (L:=L1) (F:=F) (by omega) (by omega)) (fun r hr=>.inr ⟨hS,hR1,hR2,hr.1,hr.2.1,?_⟩)
    have hmem:∀ st∈[before,after],∀ y∈st,∃ m∈L1,m.id=y.H2:=fun st hst y hy=>by
     have hrt:R0 s boxes st:=by
      simp only [List.mem_cons,List.not_mem_nil,or_false] at hst
      rcases hst with rfl | rfl
      ·exact hR1
      ·exact hR2
     obtain⟨b,hfb,_⟩:=hrt.each y hy
     have hbm:b∈boxes:=List.mem_of_find?_eq_some hfb
     have hbe:b.ID=y.H2:=of_decide_eq_true (List.find?_some (p:=fun b:H2=>decide (b.ID=y.H2)) hfb)
     have hfound:(Qz st b.ID).2=true:=J6b.2 (List.mem_map.2 ⟨y,hy,hbe.symm⟩)
     have hin:inE b=true:=by
      simp only [List.mem_cons,List.not_mem_nil,or_false] at hst
      rcases hst with rfl | rfl
      ·simp [inE,hfound]
      ·simp [inE,hfound]
     have:y.H2∈ids:=by
      rw [hI1]
      exact List.mem_map.2 ⟨b,List.mem_filter.2 ⟨hbm,hin⟩,hbe⟩
     rw [← hM.ids] at this
     exact List.mem_map.1 this
    refine⟨fun st hst y hy hne=>(hr.2.2 _).2 ?_,fun a ha b hpl=>(hr.2.2 b).2 ?_,fun C hC1 hC2 a ha=>?_⟩
    ·obtain⟨m,hm,hme⟩:=hmem st hst y hy
     exact⟨m,hm,hme,hM.seeds m hm (by rw [hme]; exact⟨st,hst,y,hy,rfl,hne⟩)⟩
    ·obtain⟨m,hm,hme,hmi⟩:=(hr.2.2 a).1 ha
     obtain⟨st,hst,hin,hor⟩:=hpl
     have:∃ st2∈[before,after],∃ y∈st2,y.H2=b:=by
      rcases hor with ⟨y,hy,e,_⟩ | ⟨st2,hst2,y,hy,e,_⟩
      ·exact⟨st,hst,y,hy,e⟩
      ·exact⟨st2,hst2,y,hy,e⟩
     obtain⟨st2,hst2,y,hy,e⟩:=this
     obtain⟨x,hx,hxe⟩:=hmem st2 hst2 y hy
     obtain⟨i,hi⟩:=List.mem_iff_getElem?.1 hx
     obtain⟨k,hk⟩:=List.mem_iff_getElem?.1 hm
     exact⟨x,hx,by omega,hdone i k x m trivial hi hk hmi (by rw [hme,hxe,e]; exact⟨st,hst,hin,hor⟩)⟩
    ·obtain⟨m,hm,hme,hmi⟩:=(hr.2.2 a).1 ha
     rw [← hme]
     exact hM.sound m hm hmi C hC1 (fun a' ⟨st,hst,y,hy,e,hne⟩=>by
      rw [← e]
      exact hC2 st hst y hy (by rw [e]; exact hne))
end lifted
end Go.Proofs.YteogacmpgdpjlaaGreat
