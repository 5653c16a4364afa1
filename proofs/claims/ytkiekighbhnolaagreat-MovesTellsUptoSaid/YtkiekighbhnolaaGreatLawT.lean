/- PlanLifts: -/
import Derived.Test.YtkiekighbhnolaaGreatRefL
set_option maxRecDepth 100000
set_option linter.unusedVariables false
namespace Go.Proofs.YtkiekighbhnolaaGreat
open Go.RowKit

section lf
variable {s:Ge} {bf af:AG}
structure Qfb (L:List Gx) (out:AE) (last:Int):Prop where
 sorted:out.Pairwise (· < ·)
 sub:∀ a∈out,∃ m∈L,m.id=a/\m.in_=true
 last:out=[]\/(last∈out/\∀ a∈out,a<=last)
 rest:∀ m∈L,m.in_=true->m.id∈out\/∀ b∈out,b < m.id
theorem Q50 {F:Nat} {L:List Gx} (hF:L.length+1<=F) (hl:L.length<=100000) :
  Wp (loop (fun nx162 (s162:AE×Int)=>
      each (fun y188 i188 (s188:Int×Bool) nx188=>
       jp (fun kj191=>
        bnd (bL L y188.id) fun r193=>
        bif ((r193&&((decide ((s162.1.length:Int)=0))||(decide (s162.2 < y188.id))))&&((!s188.2)||(decide (y188.id < s188.1)))) then
        (kj191 (y188.id,true))
        else
        (kj191 (s188.1,s188.2))) fun(j191:Int×Bool)=>
       nx188 (j191.1,j191.2))
      (fun(s188:Int×Bool)=>
       bif (!s188.2) then
       (some (s162.1,(0:Int)))
       else
       (need (decide ((s162.1.length+[s188.1].length)*8<=140737488355328/\s162.1.length+[s188.1].length<=maxLen)) <|
        nx162 ((s162.1++[s188.1]),s188.1))) L 0 (0,false)) F ([],0)) (fun r=>r.2=0/\r.1.Pairwise (· < ·)/\∀ a,a∈r.1 ↔ ∃ m∈L,m.id=a/\m.in_=true):=by
 have h6:∀ {out:AE} {last:Int},Qfb L out last->out.length<=L.length:=fun {out last} h=>by
  have hn:out.Nodup:=h.sorted.imp (fun h=>by omega);have:=hn.length_le_of_subset (l₂:=L.map (·.id)) (fun a ha=>by
   obtain⟨m,hm,e,_⟩:=h.sub a ha;exact Sc.2 ⟨m,hm,e⟩)
  rwa [Sa] at this
 refine wp_loop (fun st:AE×Int=>Qfb L st.1 st.2) (fun st=>L.length - st.1.length) ⟨List.Pairwise.nil,fun a ha=>(Py ha).elim,.inl rfl,fun m hm h7=>.inr (fun b hb=>(Py hb).elim)⟩ (by simp only [List.length_nil]; omega) (fun st nx hI a7=>?_);obtain⟨out,last⟩:=st;simp only at hI ⊢;have b2:=h6 hI
 -- a box that may come next
 let cand:Gx->Prop:=fun m=>(∃ m'∈L,m'.id=m.id/\m'.in_=true)/\(out=[]\/last < m.id)
 refine Jw (fun pre (st:Int×Bool)=>(st.2=false->∀ m∈pre,¬ cand m)/\(st.2=true->(∃ m∈pre,cand m/\m.id=st.1)/\∀ m∈pre,cand m->st.1<=m.id)) ⟨fun _ m hm=>(Py hm).elim,fun h=>Bool.noConfusion h⟩ (fun pre y post st nx2 e hJ a3=>?_) (fun st hJ=>?_)
 .obtain⟨nxt,some_⟩:=st;simp only at hJ ⊢;refine gR (fun j:Int×Bool=>(j.2=false->∀ m∈pre++[y],¬ cand m)/\(j.2=true->(∃ m∈pre++[y],cand m/\m.id=j.1)/\∀ m∈pre++[y],cand m->j.1<=m.id)) (fun K hK=>?_) (fun j hj=>a3 _ hj);refine H6 (wp_mono (Qec L y.id) (fun r193 a4=>?_));have hc:(r193&&(decide ((out.length:Int)=0)||decide (last < y.id)))=true ↔ cand y:=by
   rw [S8,a4,Sg,S9,S9];have:((out.length:Int)=0) ↔ out=[]:=⟨fun h=>Pk (by omega),fun h=>by rw [h]; rfl⟩;rw [this]
  refine H7 (fun h=>hK _ ⟨fun h=>Bool.noConfusion h,fun _=>⟨⟨y,by simp,?_,rfl⟩,Q2 (P:=fun m:Gx=>cand m->y.id<=m.id) (fun m hm h5=>?_) (fun _=>Int.le_refl _)⟩⟩) (fun h=>hK _ ⟨fun hs=>Q2 (P:=fun m:Gx=>¬ cand m) (hJ.1 hs) (fun h8=>?_),fun hs=>⟨?_,Q2 (P:=fun m:Gx=>cand m->nxt<=m.id) (hJ.2 hs).2 (fun h8=>?_)⟩⟩)
  .rw [S8] at h; exact hc.1 h.1
  .rw [S8,Sg,Bool.not_eq_true',S9] at h;rcases h.2 with h2 | h2
   .exact(hJ.1 h2 m hm h5).elim
   .cases h0:some_ with
    | false=>exact(hJ.1 h0 m hm h5).elim
    | true=>have:=(hJ.2 h0).2 m hm h5; omega
  .simp only at hs;rw [hc.2 h8,hs] at h; cases h
  .obtain⟨m,hm,h1,h2⟩:=(hJ.2 hs).1;exact⟨m,Sb.2 (.inl hm),h1,h2⟩
  .simp only at hs;rw [hc.2 h8,hs] at h;simp only [Bool.not_true,Bool.false_or,Bool.true_and,decide_eq_false_iff_not] at h;omega
 .obtain⟨nxt,some_⟩:=st;simp only at hJ ⊢;refine H7 (fun h=>Gg ⟨rfl,hI.sorted,fun a=>⟨hI.sub a,fun⟨m,hm,e,h7⟩=>?_⟩⟩) (fun h=>?_)
  .have h0:some_=false:=by simpa using h
   rcases hI.rest m hm h7 with h2 | h2
   .rw [<- e]; exact h2
   .refine(hJ.1 h0 m hm ⟨⟨m,hm,rfl,h7⟩,?_⟩).elim;rcases hI.last with h3 | ⟨h3,_⟩
    .exact .inl h3
    .exact .inr (h2 _ h3)
  .have h0:some_=true:=by simpa using h
   obtain⟨⟨m,hm,h5,b3⟩,a5⟩:=hJ.2 h0;obtain⟨⟨m',a8,e',a6⟩,a9⟩:=h5;have a1:∀ a∈out,a < nxt:=fun a ha=>by
    rcases a9 with h3 | h3
    .rw [h3] at ha; cases ha
    .rcases hI.last with h4 | ⟨_,h4⟩
     .rw [h4] at ha; cases ha
     .have:=h4 a ha; omega
   have a2:Qfb L (out++[nxt]) nxt:=by
    refine⟨oN hI.sorted a1,Q2 hI.sub ⟨m',a8,by omega,a6⟩,.inr ⟨by simp,Q2 (P:=fun a:Int=>a<=nxt) (fun a ha=>by have:=a1 a ha; omega) (Int.le_refl _)⟩,fun m2 h9 a0=>?_⟩;rcases hI.rest m2 h9 a0 with h2 | h2
    .exact .inl (Sb.2 (.inl h2))
    .have b0:cand m2:=⟨⟨m2,h9,rfl,a0⟩,by
      rcases hI.last with h3 | ⟨h3,_⟩
      .exact .inl h3
      .exact .inr (h2 _ h3)⟩
     have:=a5 m2 h9 b0;by_cases he:m2.id=nxt
     .exact .inl (by rw [he]; simp)
     .exact .inr (Q2 (P:=fun b:Int=>b < m2.id) h2 (by omega))
   have b1:=h6 a2;rw [S6,S7] at b1;refine Qs (pC (by rw [S7]; omega) (by omega)) (a7 _ a2 ?_);show L.length - (out++[nxt]).length < L.length - out.length
   rw [S6,S7];omega
theorem Hfe {bx:AK} {st:AG} (h:Qq s bx st):StR s st:=⟨h.sorted,fun y hy=>by
 obtain⟨b,_,hb,_⟩:=h.each y hy;exact YT hb⟩
theorem J9a {F:Nat} {bx:AK} (hp:∀ c∈s.Columns,c.Plugs.length<=1048576) (hr:∀ x∈s.Covers,x.Rows.length<=1048576) (hb:∀ b∈bx,0<=b.Size/\b.Size<=255) (d1:bx.length<=30) (h1:bf.length<=1000) (h2:af.length<=1000) (hF:60<=F) :
  Wp (aF F s bx bf af) (fun r=>(¬ (qV s/\Qq s bx bf/\Qq s bx af)/\r=([],2))\/(qV s/\Qq s bx bf/\Qq s bx af/\r.2=0/\r.1.Pairwise (· < ·)/\QH s bf af r.1)):=by
 unfold aF;refine H6 (wp_mono (Gd5 (F:=F) (l:=bf) hp hr hb (by omega)) (fun r4 h4=>?_));cases r4 with
 | false=>
  refine H6 (Gg (Gg (.inl ⟨fun h=>?_,rfl⟩)));have:=h4.2 ⟨h.1,h.2.1⟩; cases this
 | true=>
  have hR:=h4.1 rfl;simp only [Bool.not_true,Bool.not_false,cond_true,Bool.false_or];refine H6 (wp_mono (Gd5 (F:=F) (l:=af) hp hr hb (by omega)) (fun r5 h5=>H7 (fun h=>Gg (.inl ⟨fun hh=>?_,rfl⟩)) (fun h=>?_)))
  .rw [h5.2 ⟨hh.1,hh.2.2⟩] at h; cases h
  have b9:Qq s bx af:=by
   cases r5 with
   | true=>exact(h5.1 rfl).2
   | false=>cases h
  clear h h4 h5;obtain⟨hS,c0⟩:=hR;have e0:=Hfe c0;have e2:=Hfe b9
  let inE:Box->Bool:=fun b=>(R8 bf b.ID).2||(R8 af b.ID).2
  have e3:∀ {st:AG} {id:Int},(R8 st id).2=false->R8 st id=(⟨0,0,0⟩,false):=fun {st id} h=>by
   rcases lP st id with ⟨_,h2⟩ | ⟨_,_,_,_,_,h2⟩
   .exact h2
   .rw [h2] at h; cases h
  refine Jw (fun pre L=>L.map (·.id)=(pre.filter inE).map (·.ID)/\∀ m∈L,(m.in_=true ↔ R8 bf m.id≠R8 af m.id)) ⟨rfl,fun m hm=>(Py hm).elim⟩ (fun pre y post L nx e hI b6=>?_) (fun L hI=>?_)
  .obtain⟨h7,a7⟩:=hI;have d2:L.length<=30:=by
    have:=congrArg List.length h7;rw [Sa,Sa] at this;have:=Pn inE pre;rw [e] at d1;simp only [S6,S2] at d1;omega
   refine gR (fun L'=>L'.map (·.id)=((pre++[y]).filter inE).map (·.ID)/\∀ m∈L',(m.in_=true ↔ R8 bf m.id≠R8 af m.id)) (fun K hK=>?_) (fun j hj=>b6 _ hj);have e4:(pre++[y]).filter inE=pre.filter inE++(if inE y then [y] else []):=by
    rw [List.filter_append];by_cases h:inE y <;> simp [h]
   rw [e4] at hK;have c1:inE y=true->Wp (bnd (Z5 bf af y.ID) fun r60=>
     need (decide ((L.length+[(Gx.mk y.ID r60)].length)*16<=140737488355328/\L.length+[(Gx.mk y.ID r60)].length<=maxLen)) <|
     K (L++[(Gx.mk y.ID r60)])) (fun r=>(¬ (qV s/\Qq s bx bf/\Qq s bx af)/\r=([],2))\/(qV s/\Qq s bx bf/\Qq s bx af/\r.2=0/\r.1.Pairwise (· < ·)/\QH s bf af r.1)):=fun h0=>by
    refine H6 (wp_mono (Q0a bf af y.ID) (fun r60 e5=>Qs (pC (by rw [S7]; omega) (by omega)) (hK _ ⟨?_,Q2 a7 ?_⟩)))
    .rw [if_pos h0,List.map_append,List.map_append,h7]; rfl
    .show r60=true ↔ R8 bf y.ID≠R8 af y.ID
     rw [e5];have b0:(R8 bf y.ID).2=true\/(R8 af y.ID).2=true:=by simpa [inE] using h0
     constructor
     .intro hn he;rw [he] at b0 hn;exact hn ⟨b0.elim (fun h=>h) (fun h=>h),b0.elim (fun h=>h) (fun h=>h),rfl⟩
     .intro hn ⟨g1,g2,g3⟩;exact hn (Prod.ext g3 (g1.trans g2.symm))
   rcases lP bf y.ID with ⟨a1,a2⟩ | ⟨m,x,a1,a2,a3,a4⟩
   .rw [a1];refine H6 (Gg ?_);rcases lP af y.ID with ⟨b1,b2⟩ | ⟨k,z,b1,b2,b3,b4⟩
    .refine Gt (show (bif (!(decide ((0:Int) <= -1))) then Jz af y.ID else some default)=some (-1) from b1) ?_;have e6:inE y=false:=by simp [inE,a2,b2]
     refine hK _ ⟨by rw [if_neg (by rw [e6]; simp),List.append_nil]; exact h7,a7⟩
    .refine Gt (show (bif (!(decide ((0:Int) <= -1))) then Jz af y.ID else some default)=some (k:Int) from b1) ?_;rw [Ps (by omega:(0:Int)<=(k:Int)),Bool.or_true,cond_true];exact c1 (by simp [inE,b4])
   .rw [a1];refine H6 (Gg ?_);rw [Ps (by omega:(0:Int)<=(m:Int))];refine H6 (Gg ?_);rw [Bool.true_or,cond_true];exact c1 (by simp [inE,a4])
  .obtain⟨h7,a7⟩:=hI;have d2:L.length<=30:=by
    have:=congrArg List.length h7;rw [Sa,Sa] at this;have:=Pn inE bx;omega
   -- what a seed is
   have c9:∀ a,Qf9 bf af a->R8 bf a≠R8 af a:=fun a ⟨st,h6,y,hy,e,h8⟩=>h8;have c2:uN s bf af (L.map (·.id)) L:=by
    refine⟨rfl,fun m hm hs=>(a7 m hm).2 (c9 _ hs),fun m hm a8 C _ hC=>hC _ ?_⟩;have h8:=(a7 m hm).1 a8;have h0:m.id∈L.map (·.id):=Sc.2 ⟨m,hm,rfl⟩;rw [h7] at h0;obtain⟨b,c3,c4⟩:=Sc.1 h0;have d3:=(Sf.1 c3).2;simp only [inE,Sg] at d3;rcases d3 with hh | hh
    .obtain⟨y,hy,e1,_⟩:=RC hh;exact⟨bf,by simp,y,hy,by omega,h8⟩
    .obtain⟨y,hy,e1,_⟩:=RC hh;exact⟨af,by simp,y,hy,by omega,h8⟩
   generalize c5:L.map (·.id)=ids at c2 h7;have f4:ids.length<=30:=by rw [<- c5,Sa]; exact d2
   have d7:((L.length:Nat):Int).toNat=ids.length:=by rw [<- c5,Sa]; omega
   rw [d7];have d8:∀ {L':List Gx},uN s bf af ids L'->eU L'<=30:=fun {L'} h=>by
    have h3:=tV h;have h4:eU L'<=L'.length:=List.countP_le_length;omega
   refine wp_loop (fun st:Bool×List Gx=>uN s bf af ids st.2/\(st.1=false->Done s bf af st.2 (fun _ _=>True))) (fun st=>eU st.2+(if st.1 then 1 else 0)) ⟨c2,fun h=>Bool.noConfusion h⟩ (by have:=d8 c2; simp only [if_true]; omega) (fun st nx hI b6=>?_);obtain⟨more,L1⟩:=st;simp only at hI b6 ⊢;obtain⟨hM,hD⟩:=hI;have f5:=tV hM;refine H7 (fun a6=>?_) (fun a6=>?_)
   .refine Qs (Ps (by omega)) ?_;refine kO (fun i (st:Bool×List Gx)=>uN s bf af ids st.2/\eU st.2<=eU L1/\(st.1=true->eU st.2 < eU L1)/\(st.1=false->Done s bf af st.2 (fun i' _=>i' < i))) ⟨hM,Pz,fun h=>Bool.noConfusion h,fun _ i k x y h=>by omega⟩ (fun i st nx2 hi hJ c6=>?_) (fun st hJ=>b6 _ ⟨hJ.1,fun h i k x y _ hx hy=>hJ.2.2.2 h i k x y (by have:i < st.2.length:=(Pu hx).1; have:=tV hJ.1; omega) hx hy⟩ ?_)
    .obtain⟨more1,L2⟩:=st;simp only at hJ c6 ⊢;refine Qs (Ps (by omega)) ?_;refine kO (fun k (st:Bool×List Gx)=>uN s bf af ids st.2/\eU st.2<=eU L1/\(st.1=true->eU st.2 < eU L1)/\(st.1=false->Done s bf af st.2 (fun i' k'=>i' < i\/(i'=i/\k' < k)))) ⟨hJ.1,hJ.2.1,hJ.2.2.1,fun h i' k' x y a0 hx hy=>hJ.2.2.2 h i' k' x y (a0.elim (fun h=>h) (fun h=>by omega)) hx hy⟩ (fun k st nx3 hk hK c7=>?_) (fun st hK=>c6 _ ⟨hK.1,hK.2.1,hK.2.2.1,fun h i' k' x y f6 hx hy=>hK.2.2.2 h i' k' x y (by
       have:k' < st.2.length:=(Pu hy).1;have:=tV hK.1;rcases Po i' i with h | h
       .exact .inl h
       .exact .inr ⟨by omega,by omega⟩) hx hy⟩)
     obtain⟨more2,L3⟩:=st;simp only at hK c7 ⊢;refine gR (fun st:Bool×List Gx=>uN s bf af ids st.2/\eU st.2<=eU L1/\(st.1=true->eU st.2 < eU L1)/\(st.1=false->Done s bf af st.2 (fun i' k'=>i' < i\/(i'=i/\k' < k+1)))) (fun K d4=>?_) (fun j hj=>c7 _ hj);refine step_ok e0 e2 hK.1 hi hk (fun x y hx hy d9=>d4 _ ⟨hK.1,hK.2.1,hK.2.2.1,fun h i' k' x' y' a0 b7 b8 h0 h9=>?_⟩) (fun x y hx hy d5 e7 h9=>d4 _ ⟨hK.1.set hx hy e7 h9,?_,fun _=>?_,fun h=>Bool.noConfusion h⟩)
     .rcases a0 with h1 | ⟨rfl,h1⟩
      .exact hK.2.2.2 h i' k' x' y' (.inl h1) b7 b8 h0 h9
      .by_cases e8:k'=k
       .subst e8;rw [hx] at b7; rw [hy] at b8;cases b7; cases b8;exact d9 h0 h9
       .exact hK.2.2.2 h i' k' x' y' (.inr ⟨rfl,by omega⟩) b7 b8 h0 h9
     .have:=ZF L3 i x hx d5;have:=hK.2.1;show eU (L3.set i ⟨x.id,true⟩)<=_
      omega
     .have:=ZF L3 i x hx d5;have:=hK.2.1;show eU (L3.set i ⟨x.id,true⟩) < _
      omega
    .show eU st.2+(if st.1 then 1 else 0) < eU L1+(if more then 1 else 0)
     rw [if_pos a6];cases e9:st.1 with
     | true=>have:=hJ.2.2.1 e9; rw [if_pos rfl]; omega
     | false=>have:=hJ.2.1; rw [if_neg (by simp)]; omega
   .have d0:=hD a6;refine wp_mono (Q50 (L:=L1) (F:=F) (by omega) (by omega)) (fun r hr=>.inr ⟨hS,c0,b9,hr.1,hr.2.1,?_⟩);have c8:∀ st∈[bf,af],∀ y∈st,∃ m∈L1,m.id=y.Box:=fun st h6 y hy=>by
     have f0:Qq s bx st:=by
      simp only [Se,Py,or_false] at h6;rcases h6 with rfl | rfl
      .exact c0
      .exact b9
     obtain⟨b,d6,_⟩:=f0.each y hy;have c3:b∈bx:=List.mem_of_find?_eq_some d6;have c4:b.ID=y.Box:=Pq (List.find?_some (p:=fun b:Box=>decide (b.ID=y.Box)) d6);have a9:(R8 st b.ID).2=true:=ZE.2 (Sc.2 ⟨y,hy,c4.symm⟩);have h0:inE b=true:=by
      simp only [Se,Py,or_false] at h6;rcases h6 with rfl | rfl
      .simp [inE,a9]
      .simp [inE,a9]
     have:y.Box∈ids:=by
      rw [h7];exact Sc.2 ⟨b,Sf.2 ⟨c3,h0⟩,c4⟩
     rw [<- hM.ids] at this;exact Sc.1 this
    refine⟨fun st h6 y hy h8=>(hr.2.2 _).2 ?_,fun a ha b h9=>(hr.2.2 b).2 ?_,fun C f1 f2 a ha=>?_⟩
    .obtain⟨m,hm,a5⟩:=c8 st h6 y hy;exact⟨m,hm,a5,hM.seeds m hm (by rw [a5]; exact⟨st,h6,y,hy,rfl,h8⟩)⟩
    .obtain⟨m,hm,a5,a8⟩:=(hr.2.2 a).1 ha;obtain⟨st,h6,h0,a0⟩:=h9;have:∃ st2∈[bf,af],∃ y∈st2,y.Box=b:=by
      rcases a0 with ⟨y,hy,e,_⟩ | ⟨st2,b5,y,hy,e,_⟩
      .exact⟨st,h6,y,hy,e⟩
      .exact⟨st2,b5,y,hy,e⟩
     obtain⟨st2,b5,y,hy,e⟩:=this;obtain⟨x,hx,f3⟩:=c8 st2 b5 y hy;obtain⟨i,hi⟩:=List.mem_iff_getElem?.1 hx;obtain⟨k,hk⟩:=List.mem_iff_getElem?.1 hm;exact⟨x,hx,by omega,d0 i k x m trivial hi hk a8 (by rw [a5,f3,e]; exact⟨st,h6,h0,a0⟩)⟩
    .obtain⟨m,hm,a5,a8⟩:=(hr.2.2 a).1 ha;rw [<- a5];exact hM.sound m hm a8 C f1 (fun a' ⟨st,h6,y,hy,e,h8⟩=>by
      rw [<- e];exact f2 st h6 y hy (by rw [e]; exact h8))
end lf
end Go.Proofs.YtkiekighbhnolaaGreat
