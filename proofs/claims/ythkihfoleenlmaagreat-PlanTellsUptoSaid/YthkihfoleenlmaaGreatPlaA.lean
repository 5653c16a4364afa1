/-
 PlanLifts: PlanTells:
-/
import Derived.Test.YthkihfoleenlmaaGreatRefL
set_option maxRecDepth 100000
set_option linter.unusedVariables false
namespace Go.Proofs.YthkihfoleenlmaaGreat
open Go.RowKit

section lf
variable {s:Gq} {bf af:List G2}
structure Jef (L:List Gt) (out:List Int) (last:Int):Prop where
 sorted:out.Pairwise (· < ·)
 sub:∀ a∈out,∃ m∈L,m.id=a/\m.in_=true
 last:out=[]\/(last∈out/\∀ a∈out,a≤last)
 rest:∀ m∈L,m.in_=true→m.id∈out\/∀ b∈out,b < m.id
theorem J2e {F:Nat} {L:List Gt} (hF:L.length+1≤F) (hl:L.length≤100000) :
  Wp (loop (fun nx162 (s162:(List Int)×Int)=>
      each (fun y188 i188 (s188:Int×Bool) nx188=>
       jp (fun kj191=>
        bnd (bA L y188.id) fun r193=>
        bif ((r193&&((decide ((s162.1.length:Int)=0))||(decide (s162.2 < y188.id))))&&((!s188.2)||(decide (y188.id < s188.1)))) then
        (kj191 (y188.id,true))
        else
        (kj191 (s188.1,s188.2))) fun(j191:Int×Bool)=>
       nx188 (j191.1,j191.2))
      (fun(s188:Int×Bool)=>
       bif (!s188.2) then
       (some (s162.1,(0:Int)))
       else
       (need (decide ((s162.1.length+[s188.1].length)*8≤140737488355328/\s162.1.length+[s188.1].length≤maxLen)) <|
        nx162 ((s162.1++[s188.1]),s188.1))) L 0 (0,false)) F ([],0)) (fun r=>r.2=0/\r.1.Pairwise (· < ·)/\∀ a,a∈r.1 ↔ ∃ m∈L,m.id=a/\m.in_=true):=by
 have h6:∀ {out:List Int} {last:Int},Jef L out last→out.length≤L.length:=fun {out last} h=>by
  have hn:out.Nodup:=h.sorted.imp (fun h=>by omega)
  have:=hn.length_le_of_subset (l₂:=L.map (·.id)) (fun a ha=>by
   obtain⟨m,hm,e,_⟩:=h.sub a ha
   exact Pt.2 ⟨m,hm,e⟩)
  rwa [Pr] at this
 refine wp_loop (fun st:(List Int)×Int=>Jef L st.1 st.2) (fun st=>L.length - st.1.length) ⟨List.Pairwise.nil,fun a ha=>(Pe ha).elim,.inl rfl,fun m hm h7=>.inr (fun b hb=>(Pe hb).elim)⟩ (by simp only [List.length_nil]; omega) (fun st nx hI a7=>?_)
 obtain⟨out,last⟩:=st
 simp only at hI ⊢
 have b2:=h6 hI
 -- a box that may come next
 let cand:Gt→Prop:=fun m=>(∃ m'∈L,m'.id=m.id/\m'.in_=true)/\(out=[]\/last < m.id)
 refine Q2 (fun pre (st:Int×Bool)=>(st.2=false→∀ m∈pre,¬ cand m)/\(st.2=true→(∃ m∈pre,cand m/\m.id=st.1)/\∀ m∈pre,cand m→st.1≤m.id)) ⟨fun _ m hm=>(Pe hm).elim,fun h=>Bool.noConfusion h⟩ (fun pre y post st nx2 e hJ a3=>?_) (fun st hJ=>?_)
 .obtain⟨nxt,some_⟩:=st
  simp only at hJ ⊢
  refine oP (fun j:Int×Bool=>(j.2=false→∀ m∈pre++[y],¬ cand m)/\(j.2=true→(∃ m∈pre++[y],cand m/\m.id=j.1)/\∀ m∈pre++[y],cand m→j.1≤m.id)) (fun K hK=>?_) (fun j hj=>a3 _ hj)
  refine Hc (wp_mono (Je2 L y.id) (fun r193 a4=>?_))
  have hc:(r193&&(decide ((out.length:Int)=0)||decide (last < y.id)))=true ↔ cand y:=by
   rw [Pp,a4,Px,Pq,Pq]
   have:((out.length:Int)=0) ↔ out=[]:=⟨fun h=>P1 (by omega),fun h=>by rw [h]; rfl⟩
   rw [this]
  refine Hq (fun h=>hK _ ⟨fun h=>Bool.noConfusion h,fun _=>⟨⟨y,by simp,?_,rfl⟩,Qp (P:=fun m:Gt=>cand m→y.id≤m.id) (fun m hm h5=>?_) (fun _=>Int.le_refl _)⟩⟩) (fun h=>hK _ ⟨fun hs=>Qp (P:=fun m:Gt=>¬ cand m) (hJ.1 hs) (fun h8=>?_),fun hs=>⟨?_,Qp (P:=fun m:Gt=>cand m→nxt≤m.id) (hJ.2 hs).2 (fun h8=>?_)⟩⟩)
  .rw [Pp] at h; exact hc.1 h.1
  .rw [Pp,Px,Bool.not_eq_true',Pq] at h
   rcases h.2 with h2 | h2
   .exact(hJ.1 h2 m hm h5).elim
   .cases h0:some_ with
    | false=>exact(hJ.1 h0 m hm h5).elim
    | true=>have:=(hJ.2 h0).2 m hm h5; omega
  .simp only at hs
   rw [hc.2 h8,hs] at h; cases h
  .obtain⟨m,hm,h1,h2⟩:=(hJ.2 hs).1
   exact⟨m,Ps.2 (.inl hm),h1,h2⟩
  .simp only at hs
   rw [hc.2 h8,hs] at h
   simp only [Bool.not_true,Bool.false_or,Bool.true_and,decide_eq_false_iff_not] at h
   omega
 .obtain⟨nxt,some_⟩:=st
  simp only at hJ ⊢
  refine Hq (fun h=>Gh ⟨rfl,hI.sorted,fun a=>⟨hI.sub a,fun⟨m,hm,e,h7⟩=>?_⟩⟩) (fun h=>?_)
  .have h0:some_=false:=by simpa using h
   rcases hI.rest m hm h7 with h2 | h2
   .rw [← e]; exact h2
   .refine(hJ.1 h0 m hm ⟨⟨m,hm,rfl,h7⟩,?_⟩).elim
    rcases hI.last with h3 | ⟨h3,_⟩
    .exact .inl h3
    .exact .inr (h2 _ h3)
  .have h0:some_=true:=by simpa using h
   obtain⟨⟨m,hm,h5,b3⟩,a5⟩:=hJ.2 h0
   obtain⟨⟨m',a8,e',a6⟩,a9⟩:=h5
   have a1:∀ a∈out,a < nxt:=fun a ha=>by
    rcases a9 with h3 | h3
    .rw [h3] at ha; cases ha
    .rcases hI.last with h4 | ⟨_,h4⟩
     .rw [h4] at ha; cases ha
     .have:=h4 a ha; omega
   have a2:Jef L (out++[nxt]) nxt:=by
    refine⟨rB hI.sorted a1,Qp hI.sub ⟨m',a8,by omega,a6⟩,.inr ⟨by simp,Qp (P:=fun a:Int=>a≤nxt) (fun a ha=>by have:=a1 a ha; omega) (Int.le_refl _)⟩,fun m2 h9 a0=>?_⟩
    rcases hI.rest m2 h9 a0 with h2 | h2
    .exact .inl (Ps.2 (.inl h2))
    .have b0:cand m2:=⟨⟨m2,h9,rfl,a0⟩,by
      rcases hI.last with h3 | ⟨h3,_⟩
      .exact .inl h3
      .exact .inr (h2 _ h3)⟩
     have:=a5 m2 h9 b0
     by_cases he:m2.id=nxt
     .exact .inl (by rw [he]; simp)
     .exact .inr (Qp (P:=fun b:Int=>b < m2.id) h2 (by omega))
   have b1:=h6 a2
   rw [Pn,Po] at b1
   refine aJ (G7e (by rw [Po]; omega) (by omega)) (a7 _ a2 ?_)
   show L.length - (out++[nxt]).length < L.length - out.length
   rw [Pn,Po]
   omega
theorem H12 {bx:List Box} {st:List G2} (h:Yg s bx st):StR s st:=⟨h.sorted,fun y hy=>by
 obtain⟨b,_,hb,_⟩:=h.each y hy
 exact zD hb⟩
theorem H82 {F:Nat} {bx:List Box} (hp:∀ c∈s.Columns,c.Plugs.length≤1048576) (hr:∀ x∈s.Covers,x.Rows.length≤1048576) (hb:∀ b∈bx,0≤b.Size/\b.Size≤255) (d1:bx.length≤30) (h1:bf.length≤1000) (h2:af.length≤1000) (hF:60≤F) :
  Wp (Rr F s bx bf af) (fun r=>(¬ (sU s/\Yg s bx bf/\Yg s bx af)/\r=([],2))\/(sU s/\Yg s bx bf/\Yg s bx af/\r.2=0/\r.1.Pairwise (· < ·)/\yF s bf af r.1)):=by
 unfold Rr
 refine Hc (wp_mono (G09 (F:=F) (l:=bf) hp hr hb (by omega)) (fun r4 h4=>?_))
 cases r4 with
 | false=>
  refine Hc (Gh (Gh (.inl ⟨fun h=>?_,rfl⟩)))
  have:=h4.2 ⟨h.1,h.2.1⟩; cases this
 | true=>
  have hR:=h4.1 rfl
  simp only [Bool.not_true,Bool.not_false,cond_true,Bool.false_or]
  refine Hc (wp_mono (G09 (F:=F) (l:=af) hp hr hb (by omega)) (fun r5 h5=>Hq (fun h=>Gh (.inl ⟨fun hh=>?_,rfl⟩)) (fun h=>?_)))
  .rw [h5.2 ⟨hh.1,hh.2.2⟩] at h; cases h
  have b9:Yg s bx af:=by
   cases r5 with
   | true=>exact(h5.1 rfl).2
   | false=>cases h
  clear h h4 h5
  obtain⟨hS,c0⟩:=hR
  have e0:=H12 c0
  have e2:=H12 b9
  let inE:Box→Bool:=fun b=>(Qu bf b.ID).2||(Qu af b.ID).2
  have e3:∀ {st:List G2} {id:Int},(Qu st id).2=false→Qu st id=(⟨0,0,0⟩,false):=fun {st id} h=>by
   rcases fN st id with ⟨_,h2⟩ | ⟨_,_,_,_,_,h2⟩
   .exact h2
   .rw [h2] at h; cases h
  refine Q2 (fun pre L=>L.map (·.id)=(pre.filter inE).map (·.ID)/\∀ m∈L,(m.in_=true ↔ Qu bf m.id≠Qu af m.id)) ⟨rfl,fun m hm=>(Pe hm).elim⟩ (fun pre y post L nx e hI b6=>?_) (fun L hI=>?_)
  .obtain⟨h7,a7⟩:=hI
   have d2:L.length≤30:=by
    have:=congrArg List.length h7
    rw [Pr,Pr] at this
    have:=P3 inE pre
    rw [e] at d1
    simp only [Pn,Pi] at d1
    omega
   refine oP (fun L'=>L'.map (·.id)=((pre++[y]).filter inE).map (·.ID)/\∀ m∈L',(m.in_=true ↔ Qu bf m.id≠Qu af m.id)) (fun K hK=>?_) (fun j hj=>b6 _ hj)
   have e4:(pre++[y]).filter inE=pre.filter inE++(if inE y then [y] else []):=by
    rw [List.filter_append]
    by_cases h:inE y <;> simp [h]
   rw [e4] at hK
   have c1:inE y=true→Wp (bnd (Yu bf af y.ID) fun r60=>
     need (decide ((L.length+[(Gt.mk y.ID r60)].length)*16≤140737488355328/\L.length+[(Gt.mk y.ID r60)].length≤maxLen)) <|
     K (L++[(Gt.mk y.ID r60)])) (fun r=>(¬ (sU s/\Yg s bx bf/\Yg s bx af)/\r=([],2))\/(sU s/\Yg s bx bf/\Yg s bx af/\r.2=0/\r.1.Pairwise (· < ·)/\yF s bf af r.1)):=fun h0=>by
    refine Hc (wp_mono (Hed bf af y.ID) (fun r60 e5=>aJ (G7e (by rw [Po]; omega) (by omega)) (hK _ ⟨?_,Qp a7 ?_⟩)))
    .rw [if_pos h0,List.map_append,List.map_append,h7]; rfl
    .show r60=true ↔ Qu bf y.ID≠Qu af y.ID
     rw [e5]
     have b0:(Qu bf y.ID).2=true\/(Qu af y.ID).2=true:=by simpa [inE] using h0
     constructor
     .intro hn he
      rw [he] at b0 hn
      exact hn ⟨b0.elim (fun h=>h) (fun h=>h),b0.elim (fun h=>h) (fun h=>h),rfl⟩
     .intro hn ⟨g1,g2,g3⟩
      exact hn (Prod.ext g3 (g1.trans g2.symm))
   rcases fN bf y.ID with ⟨a1,a2⟩ | ⟨m,x,a1,a2,a3,a4⟩
   .rw [a1]
    refine Hc (Gh ?_)
    rcases fN af y.ID with ⟨b1,b2⟩ | ⟨k,z,b1,b2,b3,b4⟩
    .refine Gu (show (bif (!(decide ((0:Int) ≤ -1))) then Jg af y.ID else some default)=some (-1) from b1) ?_
     have e6:inE y=false:=by simp [inE,a2,b2]
     refine hK _ ⟨by rw [if_neg (by rw [e6]; simp),List.append_nil]; exact h7,a7⟩
    .refine Gu (show (bif (!(decide ((0:Int) ≤ -1))) then Jg af y.ID else some default)=some (k:Int) from b1) ?_
     rw [P8 (by omega:(0:Int)≤(k:Int)),Bool.or_true,cond_true]
     exact c1 (by simp [inE,b4])
   .rw [a1]
    refine Hc (Gh ?_)
    rw [P8 (by omega:(0:Int)≤(m:Int))]
    refine Hc (Gh ?_)
    rw [Bool.true_or,cond_true]
    exact c1 (by simp [inE,a4])
  .obtain⟨h7,a7⟩:=hI
   have d2:L.length≤30:=by
    have:=congrArg List.length h7
    rw [Pr,Pr] at this
    have:=P3 inE bx
    omega
   -- what a seed is
   have c9:∀ a,Jed bf af a→Qu bf a≠Qu af a:=fun a ⟨st,h6,y,hy,e,h8⟩=>h8
   have c2:pN s bf af (L.map (·.id)) L:=by
    refine⟨rfl,fun m hm hs=>(a7 m hm).2 (c9 _ hs),fun m hm a8 C _ hC=>hC _ ?_⟩
    have h8:=(a7 m hm).1 a8
    have h0:m.id∈L.map (·.id):=Pt.2 ⟨m,hm,rfl⟩
    rw [h7] at h0
    obtain⟨b,c3,c4⟩:=Pt.1 h0
    have d3:=(Pw.1 c3).2
    simp only [inE,Px] at d3
    rcases d3 with hh | hh
    .obtain⟨y,hy,e1,_⟩:=xQ hh
     exact⟨bf,by simp,y,hy,by omega,h8⟩
    .obtain⟨y,hy,e1,_⟩:=xQ hh
     exact⟨af,by simp,y,hy,by omega,h8⟩
   generalize c5:L.map (·.id)=ids at c2 h7
   have f4:ids.length≤30:=by rw [← c5,Pr]; exact d2
   have d7:((L.length:Nat):Int).toNat=ids.length:=by rw [← c5,Pr]; omega
   rw [d7]
   have d8:∀ {L':List Gt},pN s bf af ids L'→dJ L'≤30:=fun {L'} h=>by
    have h3:=pC h
    have h4:dJ L'≤L'.length:=List.countP_le_length
    omega
   refine wp_loop (fun st:Bool×List Gt=>pN s bf af ids st.2/\(st.1=false→Done s bf af st.2 (fun _ _=>True))) (fun st=>dJ st.2+(if st.1 then 1 else 0)) ⟨c2,fun h=>Bool.noConfusion h⟩ (by have:=d8 c2; simp only [if_true]; omega) (fun st nx hI b6=>?_)
   obtain⟨more,L1⟩:=st
   simp only at hI b6 ⊢
   obtain⟨hM,hD⟩:=hI
   have f5:=pC hM
   refine Hq (fun a6=>?_) (fun a6=>?_)
   .refine aJ (P8 (by omega)) ?_
    refine qR (fun i (st:Bool×List Gt)=>pN s bf af ids st.2/\dJ st.2≤dJ L1/\(st.1=true→dJ st.2 < dJ L1)/\(st.1=false→Done s bf af st.2 (fun i' _=>i' < i))) ⟨hM,Pf,fun h=>Bool.noConfusion h,fun _ i k x y h=>by omega⟩ (fun i st nx2 hi hJ c6=>?_) (fun st hJ=>b6 _ ⟨hJ.1,fun h i k x y _ hx hy=>hJ.2.2.2 h i k x y (by have:i < st.2.length:=(Pa hx).1; have:=pC hJ.1; omega) hx hy⟩ ?_)
    .obtain⟨more1,L2⟩:=st
     simp only at hJ c6 ⊢
     refine aJ (P8 (by omega)) ?_
     refine qR (fun k (st:Bool×List Gt)=>pN s bf af ids st.2/\dJ st.2≤dJ L1/\(st.1=true→dJ st.2 < dJ L1)/\(st.1=false→Done s bf af st.2 (fun i' k'=>i' < i\/(i'=i/\k' < k)))) ⟨hJ.1,hJ.2.1,hJ.2.2.1,fun h i' k' x y a0 hx hy=>hJ.2.2.2 h i' k' x y (a0.elim (fun h=>h) (fun h=>by omega)) hx hy⟩ (fun k st nx3 hk hK c7=>?_) (fun st hK=>c6 _ ⟨hK.1,hK.2.1,hK.2.2.1,fun h i' k' x y f6 hx hy=>hK.2.2.2 h i' k' x y (by
       have:k' < st.2.length:=(Pa hy).1
       have:=pC hK.1
       rcases P4 i' i with h | h
       .exact .inl h
       .exact .inr ⟨by omega,by omega⟩) hx hy⟩)
     obtain⟨more2,L3⟩:=st
     simp only at hK c7 ⊢
     refine oP (fun st:Bool×List Gt=>pN s bf af ids st.2/\dJ st.2≤dJ L1/\(st.1=true→dJ st.2 < dJ L1)/\(st.1=false→Done s bf af st.2 (fun i' k'=>i' < i\/(i'=i/\k' < k+1)))) (fun K d4=>?_) (fun j hj=>c7 _ hj)
     refine step_ok e0 e2 hK.1 hi hk (fun x y hx hy d9=>d4 _ ⟨hK.1,hK.2.1,hK.2.2.1,fun h i' k' x' y' a0 b7 b8 h0 h9=>?_⟩) (fun x y hx hy d5 e7 h9=>d4 _ ⟨hK.1.set hx hy e7 h9,?_,fun _=>?_,fun h=>Bool.noConfusion h⟩)
     .rcases a0 with h1 | ⟨rfl,h1⟩
      .exact hK.2.2.2 h i' k' x' y' (.inl h1) b7 b8 h0 h9
      .by_cases e8:k'=k
       .subst e8
        rw [hx] at b7; rw [hy] at b8
        cases b7; cases b8
        exact d9 h0 h9
       .exact hK.2.2.2 h i' k' x' y' (.inr ⟨rfl,by omega⟩) b7 b8 h0 h9
     .have:=zM L3 i x hx d5
      have:=hK.2.1
      show dJ (L3.set i ⟨x.id,true⟩)≤_
      omega
     .have:=zM L3 i x hx d5
      have:=hK.2.1
      show dJ (L3.set i ⟨x.id,true⟩) < _
      omega
    .show dJ st.2+(if st.1 then 1 else 0) < dJ L1+(if more then 1 else 0)
     rw [if_pos a6]
     cases e9:st.1 with
     | true=>have:=hJ.2.2.1 e9; rw [if_pos rfl]; omega
     | false=>have:=hJ.2.1; rw [if_neg (by simp)]; omega
   .have d0:=hD a6
    refine wp_mono (J2e (L:=L1) (F:=F) (by omega) (by omega)) (fun r hr=>.inr ⟨hS,c0,b9,hr.1,hr.2.1,?_⟩)
    have c8:∀ st∈[bf,af],∀ y∈st,∃ m∈L1,m.id=y.Box:=fun st h6 y hy=>by
     have f0:Yg s bx st:=by
      simp only [Pv,Pe,or_false] at h6
      rcases h6 with rfl | rfl
      .exact c0
      .exact b9
     obtain⟨b,d6,_⟩:=f0.each y hy
     have c3:b∈bx:=List.mem_of_find?_eq_some d6
     have c4:b.ID=y.Box:=P6 (List.find?_some (p:=fun b:Box=>decide (b.ID=y.Box)) d6)
     have a9:(Qu st b.ID).2=true:=zL.2 (Pt.2 ⟨y,hy,c4.symm⟩)
     have h0:inE b=true:=by
      simp only [Pv,Pe,or_false] at h6
      rcases h6 with rfl | rfl
      .simp [inE,a9]
      .simp [inE,a9]
     have:y.Box∈ids:=by
      rw [h7]
      exact Pt.2 ⟨b,Pw.2 ⟨c3,h0⟩,c4⟩
     rw [← hM.ids] at this
     exact Pt.1 this
    refine⟨fun st h6 y hy h8=>(hr.2.2 _).2 ?_,fun a ha b h9=>(hr.2.2 b).2 ?_,fun C f1 f2 a ha=>?_⟩
    .obtain⟨m,hm,a5⟩:=c8 st h6 y hy
     exact⟨m,hm,a5,hM.seeds m hm (by rw [a5]; exact⟨st,h6,y,hy,rfl,h8⟩)⟩
    .obtain⟨m,hm,a5,a8⟩:=(hr.2.2 a).1 ha
     obtain⟨st,h6,h0,a0⟩:=h9
     have:∃ st2∈[bf,af],∃ y∈st2,y.Box=b:=by
      rcases a0 with ⟨y,hy,e,_⟩ | ⟨st2,b5,y,hy,e,_⟩
      .exact⟨st,h6,y,hy,e⟩
      .exact⟨st2,b5,y,hy,e⟩
     obtain⟨st2,b5,y,hy,e⟩:=this
     obtain⟨x,hx,f3⟩:=c8 st2 b5 y hy
     obtain⟨i,hi⟩:=List.mem_iff_getElem?.1 hx
     obtain⟨k,hk⟩:=List.mem_iff_getElem?.1 hm
     exact⟨x,hx,by omega,d0 i k x m trivial hi hk a8 (by rw [a5,f3,e]; exact⟨st,h6,h0,a0⟩)⟩
    .obtain⟨m,hm,a5,a8⟩:=(hr.2.2 a).1 ha
     rw [← a5]
     exact hM.sound m hm a8 C f1 (fun a' ⟨st,h6,y,hy,e,h8⟩=>by
      rw [← e]
      exact f2 st h6 y hy (by rw [e]; exact h8))
end lf

theorem sV (a:List G2):R3 a a=some true:=by
 unfold R3
 exact nO (fun i y nx h=>by rw [Qi h]; simp)
def GS (i:Nat):List G2:=(Rh 1 (i:Int)).getD default
theorem H19 (i:Nat) (h:i < 12):Rh 1 (i:Int)=some (GS i):=by
 unfold GS Rh
 rw [HX i h]; rfl
def sO (l:List (List G2)):Ln (Ln G2):=(l.map (fun x=>(x,marks oL)),(marks GS).map (fun e=>(e,([]:List G2))))
theorem G65 {l:List (List G2)} (hl:l.length≤1048576) (h:∀ x∈l,x.length≤1048576):Z2 l=some (sO l):=by
 unfold Z2
 exact pG (fun e=>(e,([]:List G2))) H19 (by omega) (fun x hx=>G35 (h x hx)) hl
theorem G6a {l:List (List G2)} (hl:l.length≤1048576) (h:∀ x∈l,x.length≤1048576):Z7 (sO l) l=some true:=by
 unfold Z7
 exact pH (keep:=Rv) (same:=R3) (pl:=Prod.fst) H19 hl (fun x hx=>G37 (h x hx)) (fun i hi=>sV (GS i))
theorem J2a (l:List (List G2)):(sO l).1.map Prod.fst=l:=by
 show (l.map (fun x=>(x,marks oL))).map Prod.fst=l
 rw [List.map_map]
 exact(List.map_congr_left (fun x _=>rfl)).trans (List.map_id l)
theorem YE (a:List (List G2)):Yy a a=some true:=by
 unfold Yy
 exact nO (fun i y nx h=>by rw [Qi h,sV]; rfl)
def GR (i:Nat):List Int:=(Rg 1 (i:Int)).getD default
theorem H18 (i:Nat) (h:i < 12):Rg 1 (i:Int)=some (GR i):=by
 unfold GR Rg
 rw [H88 i h]; rfl
def sN (l:List (List Int)):Ln (Ln Int):=(l.map (fun x=>(x,marks wL)),(marks GR).map (fun e=>(e,([]:List Int))))
theorem G64 {l:List (List Int)} (hl:l.length≤1048576) (h:∀ x∈l,x.length≤1048576):Z1 l=some (sN l):=by
 unfold Z1
 exact pG (fun e=>(e,([]:List Int))) H18 (by omega) (fun x hx=>rI (h x hx)) hl
theorem G69 {l:List (List Int)} (hl:l.length≤1048576) (h:∀ x∈l,x.length≤1048576):Z6 (sN l) l=some true:=by
 unfold Z6
 exact pH (keep:=Jb) (same:=Ja) (pl:=Prod.fst) H18 hl (fun x hx=>rK (h x hx)) (fun i hi=>eL (GR i))
theorem J29 (l:List (List Int)):(sN l).1.map Prod.fst=l:=by
 show (l.map (fun x=>(x,marks wL))).map Prod.fst=l
 rw [List.map_map]
 exact(List.map_congr_left (fun x _=>rfl)).trans (List.map_id l)
theorem YD (a:List (List Int)):Yx a a=some true:=by
 unfold Yx
 exact nO (fun i y nx h=>by rw [Qi h,eL]; rfl)
structure JQ (p:Ya):Prop where
 n:p.States.length≤1048576
 each:∀ x∈p.States,x.length≤1048576
 wn:p.Water.length≤1048576
 weach:∀ x∈p.Water,x.length≤1048576
def HZ (p:Ya):iO:=⟨sO p.States,sN p.Water⟩
theorem H36 {p:Ya} (h:JQ p):aD p=some (HZ p):=by
 unfold aD
 rw [G65 h.n h.each,G64 h.wn h.weach]; rfl
theorem J2c (p:Ya):Ya.mk ((HZ p).States.1.map Prod.fst) ((HZ p).Water.1.map Prod.fst)=p:=by
 show Ya.mk ((sO p.States).1.map Prod.fst) ((sN p.Water).1.map Prod.fst)=p
 rw [J2a,J29]
theorem G5e (p:Ya):Zz p p=some true:=by
 unfold Zz
 rw [YE,vF,cond_true,YD,vF,Bool.and_self]
theorem H3a {p:Ya} (h:JQ p):aF (HZ p) p=some true:=by
 unfold aF
 rw [J2c,G5e,vF,cond_true,show (HZ p).States=sO p.States from rfl,G6a h.n h.each,vF,Bool.and_self,cond_true,show (HZ p).Water=sN p.Water from rfl,G69 h.wn h.weach,vF,Bool.and_self]

/-! ### A plan is checked alike -/
structure BxP (calls:Int) (b:Box):Prop where
 id:1≤b.ID/\b.ID≤999999
 size:b.Size=40\/(b.Size=20/\b.High=false)
 stay:0≤b.Load/\b.Load < b.Discharge/\b.Discharge < calls
structure Hd1 (bx:List Box) (calls:Int):Prop where
 n:1≤calls/\calls≤20
 len:bx.length≤2000
 each:∀ b∈bx,BxP calls b
 inc:(bx.map (·.ID)).Pairwise (· < ·)
theorem Gaa {pre:List Box} {y:Box} {v:Int} (hp:(pre.map (·.ID)).Pairwise (· < ·)) (hv:(pre=[]/\v=0)\/∃ b,pre[pre.length - 1]? = some b/\b.ID=v) (h:v < y.ID):((pre++[y]).map (·.ID)).Pairwise (· < ·):=by
 rw [List.map_append]
 refine rB hp fun a ha=>?_
 rcases hv with ⟨rfl,_⟩ | ⟨b,hb,h0⟩
 .cases ha
 .have h1:(pre.map (·.ID))[(pre.map (·.ID)).length - 1]? = some v:=by rw [Pj,Pr,hb,← h0]; rfl
  exact mF hp h1 h a ha
theorem Hef (bx:List Box) (calls:Int):Wp (fJ bx calls) (fun r=>r=true ↔ Hd1 bx calls):=by
 unfold fJ
 refine Hq (fun h=>Gh (Ra fun hh=>?_)) (fun h=>?_)
 .simp only [Px,Pq] at h
  have:=hh.n; have:=hh.len; omega
 simp only [Py,decide_eq_false_iff_not] at h
 refine Q2 (fun pre (v:Int)=>(∀ b∈pre,BxP calls b)/\(pre.map (·.ID)).Pairwise (· < ·)/\((pre=[]/\v=0)\/∃ b,pre[pre.length - 1]? = some b/\b.ID=v)) ⟨fun b hb=>(Pe hb).elim,List.Pairwise.nil,.inl ⟨rfl,rfl⟩⟩ (fun pre y post v nx e hI h4=>?_) (fun v hI=>Gh ⟨fun _=>⟨by omega,by omega,hI.1,hI.2.1⟩,fun _=>rfl⟩)
 obtain⟨h1,h2,h3⟩:=hI
 have h6:0≤v:=by
  rcases h3 with ⟨_,rfl⟩ | ⟨b,hb,rfl⟩
  .omega
  .have:=(h1 b (Pd hb)).id; omega
 refine Hq (fun hc=>Gh (Ra fun hh=>?_)) (fun hc=>?_)
 .subst e
  have hy:=hh.each y (List.mem_append_right _ (List.mem_cons_self ..))
  have h7:v < y.ID:=by
   rcases h3 with ⟨_,rfl⟩ | ⟨b,hb,rfl⟩
   .have:=hy.id; omega
   .have hi:=hh.inc
    rw [List.map_append,List.map_cons] at hi
    exact(List.pairwise_append.1 hi).2.2 b.ID (Pt.2 ⟨b,Pd hb,rfl⟩) y.ID (List.mem_cons_self ..)
  simp only [Px,Pp,Pq] at hc
  rcases hy.size with h | ⟨h,h5⟩
  .have:=hy.id; have:=hy.stay; omega
  .rw [h5] at hc
   have:=hy.id; have:=hy.stay
   simp only [Bool.false_eq_true,or_false] at hc
   omega
 .simp only [Py,Bool.and_eq_false_imp,decide_eq_false_iff_not,Pq] at hc
  obtain⟨⟨⟨⟨⟨c1,c2⟩,c3⟩,c4⟩,c5⟩,c6⟩:=hc
  refine h4 _ ⟨Qp (P:=BxP calls) h1 ⟨by omega,?_,by omega⟩,Gaa h2 h3 (by omega),.inr ⟨y,by simp,rfl⟩⟩
  by_cases h0:y.Size=40
  .exact .inl h0
  .have:=c3 h0
   exact .inr ⟨by omega,this.2⟩
theorem J25 (bx:List Box) (calls:Int):Wp (Y5 bx calls) (fun r=>r=true ↔ Hd1 bx calls):=by
 unfold Y5
 refine Hq (fun h=>Gh (Ra fun hh=>?_)) (fun h=>?_)
 .simp only [Px,Pq] at h
  have:=hh.n; have:=hh.len; omega
 simp only [Py,decide_eq_false_iff_not] at h
 refine Q2 (fun pre (_:Unit)=>(∀ b∈pre,BxP calls b)/\(pre.map (·.ID)).Pairwise (· < ·)) ⟨fun b hb=>(Pe hb).elim,List.Pairwise.nil⟩ (fun pre y post u nx e hI h7=>?_) (fun u hI=>Gh ⟨fun _=>⟨by omega,by omega,hI.1,hI.2⟩,fun _=>rfl⟩)
 obtain⟨h1,h2⟩:=hI
 have a1:pre.length < bx.length:=by rw [e]; simp
 have a0:bx.length≤2000:=by omega
 refine Hc (wp_mono (Q':=fun v=>1≤y.ID/\y.ID≤999999/\0 < pre.length→v=((pre.length - 1:Nat):Int)) (Hq (fun hc=>?_) (fun hc=>Gh (fun h=>?_))) (fun v hv=>?_))
 .simp only [Pp,Bool.not_eq_true',Py,decide_eq_false_iff_not,Pq] at hc
  exact bY ⟨by omega,by omega⟩ (Gh fun _=>by omega)
 .simp only [Bool.and_eq_false_imp,Bool.not_eq_true',Py,decide_eq_false_iff_not] at hc
  have:=hc ⟨by omega,by omega⟩
  omega
 refine Hc (wp_mono (Q':=fun z=>1≤y.ID/\y.ID≤999999/\0 < pre.length→pre[pre.length - 1]? = some z) (Hq (fun hc=>?_) (fun hc=>Gh (fun h=>?_))) (fun z hz=>?_))
 .simp only [Pp,Bool.not_eq_true',Py,decide_eq_false_iff_not,Pq] at hc
  have hp:0 < pre.length:=by omega
  obtain⟨b,hb⟩:∃ b,pre[pre.length - 1]? = some b:=⟨_,Pb (by omega)⟩
  refine dO (hv ⟨by omega,by omega,hp⟩) (x:=b) ?_ (Gh fun _=>hb)
  rw [e,Ph (by omega)]; exact hb
 .simp only [Bool.and_eq_false_imp,Bool.not_eq_true',Py,decide_eq_false_iff_not] at hc
  have:=hc ⟨by omega,by omega⟩
  omega
 have h5:Hd1 bx calls→∀ b∈pre,b.ID < y.ID:=fun hh b hb=>by
  have hi:=hh.inc
  rw [e,List.map_append,List.map_cons] at hi
  exact(List.pairwise_append.1 hi).2.2 b.ID (Pt.2 ⟨b,hb,rfl⟩) y.ID (List.mem_cons_self ..)
 have h3:y∈bx:=by rw [e]; exact List.mem_append_right _ (List.mem_cons_self ..)
 refine Hq (fun hc=>Gh (Ra fun hh=>?_)) (fun hc=>?_)
 .have hy:=hh.each y h3
  have hid:=hy.id
  simp only [Px,Pp,Pq] at hc
  rcases hc with hc | hc
  .omega
  .have h8:=hz ⟨hid.1,hid.2,by omega⟩
   have:=h5 hh z (Pd h8)
   omega
 simp only [Py,Bool.and_eq_false_imp,decide_eq_false_iff_not,Pq] at hc
 refine Hq (fun hd=>Gh (Ra fun hh=>?_)) (fun hd=>?_)
 .have hy:=(hh.each y h3).size
  simp only [Px,Pp,Pq] at hd
  rcases hy with h | ⟨h,h9⟩
  .omega
  .rw [h9] at hd
   simp only [Bool.false_eq_true,and_false,or_false] at hd
   omega
 simp only [Py,Bool.and_eq_false_imp,decide_eq_false_iff_not,Pq] at hd
 refine Hq (fun hf=>Gh (Ra fun hh=>?_)) (fun hf=>?_)
 .have hy:=(hh.each y h3).stay
  simp only [Px,Pq] at hf
  omega
 simp only [Py,decide_eq_false_iff_not] at hf
 refine h7 _ ⟨Qp (P:=BxP calls) h1 ⟨by omega,?_,by omega⟩,?_⟩
 .by_cases h6:y.Size=40
  .exact .inl h6
  .by_cases h4:y.Size=20
   .exact .inr ⟨h4,hd.2 h4⟩
   .have:=hd.1 h4
    exact absurd h6 this
 .rcases Nat.eq_zero_or_pos pre.length with h0 | h0
  .have:pre=[]:=P1 h0
   subst this
   exact Gaa h2 (.inl ⟨rfl,rfl⟩) (by omega)
  .exact Gaa h2 (.inr ⟨z,hz ⟨by omega,by omega,h0⟩,rfl⟩) (by have:=hc.2 (by omega); omega)
theorem G90 (bx:List Box) (calls:Int):∃ r,fJ bx calls=some r/\Y5 bx calls=some r/\(r=true ↔ Hd1 bx calls):=by
 obtain⟨r,er,hr⟩:=Hef bx calls
 obtain⟨q,eq,hq⟩:=J25 bx calls
 have:r=q:=by
  rw [Bool.eq_iff_iff,hr,hq]
 exact⟨r,er,this ▸ eq,hr⟩
end Go.Proofs.YthkihfoleenlmaaGreat
