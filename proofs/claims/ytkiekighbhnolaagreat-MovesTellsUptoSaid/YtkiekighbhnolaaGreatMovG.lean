/-
 MovesTells: MovesTells: MovesTells:
-/
import Derived.Test.YtkiekighbhnolaaGreatIns
import Derived.Test.YtkiekighbhnolaaGreatXQ
set_option maxRecDepth 100000
set_option linter.unusedVariables false
namespace Go.Proofs.YtkiekighbhnolaaGreat
open Go.RowKit

theorem G74 (bx:AK) (k:Int) (hl:bx.length<=100000):jK bx k=some (mJ bx k):=by
 refine Ys ?_;unfold jK mJ;refine Jw (fun pre s=>s=(pre.filter (abB k)).map (·.ID)) rfl (fun pre y post s nx e hs h0=>?_) (fun s hs=>Gg hs);subst hs;have hp:pre.length+1<=bx.length:=by rw [e]; simp
 have hf:=Pn (abB k) pre;refine gR (fun j=>j=((pre++[y]).filter (abB k)).map (·.ID)) (fun K hK=>H7 (fun h=>Qs (Ga0 (by simp only [Sa,S7]; omega) (by omega)) (hK _ ?_)) (fun h=>hK _ ?_)) (fun j hj=>h0 _ hj)
 .have h':abB k y=true:=h;rw [List.filter_append,List.map_append,List.filter_cons,h']; simp
 .have h':abB k y=false:=h;rw [List.filter_append,List.filter_cons,h']; simp
theorem J9c (bx:AK) (k:Int) (hl:bx.length<=100000):aG bx k=some (mJ bx k):=(show aG bx k=jK bx k from rfl).trans (G74 bx k hl)
variable {bx:AK}
theorem Jb8 (h:(bx.map (·.ID)).Pairwise (· < ·)) (k:Int):(mJ bx k).Pairwise (· < ·):=by
 unfold mJ;exact h.sublist ((List.filter_sublist).map _)
theorem Q19 (l:AG) (ids:AE):bI l ids (fun z0 z1=>hU z0 z1)=some (decide (l.map (·.Box)=ids)):=by
 refine Ys ?_;unfold bI;refine H7 (fun h=>?_) (fun h=>?_)
 .refine Gg (Pt fun e=>?_).symm;have:=Pq h;subst e;rw [Sa] at this; exact this rfl
 .have h0:l.length=ids.length:=by have:=Pr h; omega
  refine Jw (fun pre (_:Unit)=>pre.map (·.Box)=ids.take pre.length) (by simp) (fun pre y post u nx e hI h1=>?_) (fun u hI=>Gg ?_)
  .have h2:pre.length < ids.length:=by rw [<- h0,e]; simp
   obtain⟨z,hz⟩:∃ z,ids[pre.length]? = some z:=⟨_,Pv h2⟩;refine Z2 rfl hz (Gt (show hU y z=some (decide (y.Box=z)) from rfl) (H7 (fun hc=>Gg ?_) (fun hc=>h1 _ ?_)))
   .refine(Pt fun ee=>?_).symm;simp only [Bool.not_eq_true',decide_eq_false_iff_not] at hc;refine hc ?_;have:(l.map (·.Box))[pre.length]? = some y.Box:=by rw [e,List.map_append,S0 (by rw [Sa]; exact Pz),Sa,Nat.sub_self]; rfl
    rw [ee,hz] at this;exact(Pw this).symm
   .simp only [Bool.not_eq_false',S9] at hc;rw [List.map_append,hI,S6,S7,List.take_add_one,hz,<- hc]; rfl
  .rw [h0,List.take_length] at hI;exact(Ps hI).symm
noncomputable def RU (s:Ge) (bx:AK) (i:Nat) (y:AG):Int:=by
 classical exact if Qq s bx y then (if y.map (·.Box)=mJ bx (i:Int) then 0 else 233) else 232
noncomputable def uE (s:Ge) (bx:AK):List AG->Nat->Int×Int
 | [],_=>(0,0)
 | y::r,i=>if RU s bx i y=0 then uE s bx r (i+1) else ((i:Int),RU s bx i y)
section check
variable {s:Ge} {bx:AK} {AF:Int} {p:dO}
variable {y:AG} {i:Nat}
theorem J25 (h:¬ Qq s bx y):RU s bx i y=232:=by unfold RU; rw [if_neg h]
theorem Geb (h:Qq s bx y) (h2:¬ y.map (·.Box)=mJ bx (i:Int)):RU s bx i y=233:=by unfold RU; rw [if_pos h,if_neg h2]
theorem Je0 (h:Qq s bx y) (h2:y.map (·.Box)=mJ bx (i:Int)):RU s bx i y=0:=by unfold RU; rw [if_pos h,if_pos h2]
theorem uD {r:List AG} {c:Int} (h:RU s bx i y=c) (hc:c≠0):uE s bx (y::r) i=((i:Int),c):=by rw [uE,h,if_neg hc]
theorem J1e {r:List AG} (h:RU s bx i y=0):uE s bx (y::r) i=uE s bx r (i+1):=by rw [uE,if_pos h]
theorem Jc9:∀ {a b:AE},a.Nodup->(∀ x∈a,x∈b)->b.length<=a.length->∀ x∈b,x∈a
 | [],b,_,_,hl,x,hx=>by
  have:b=[]:=Pk (Nat.le_zero.1 hl);subst this; exact hx
 | z::r,b,hn,h,hl,x,hx=>by
  have hz:=h z (List.mem_cons_self ..);have hn:=List.nodup_cons.1 hn;by_cases e:x=z
  .subst e; exact List.mem_cons_self ..
  .refine List.mem_cons_of_mem _ (Jc9 (b:=b.erase z) hn.2 (fun w hw=>?_) ?_ x ((List.mem_erase_of_ne e).2 hx))
   .exact(List.mem_erase_of_ne (fun ee:w=z=>hn.1 (ee ▸ hw))).2 (h w (List.mem_cons_of_mem _ hw))
   .rw [List.length_erase_of_mem hz];rw [S2] at hl; omega
theorem Qaf {ids:AE} (hy:y.Pairwise (fun a b=>a.Box < b.Box)) (hi:ids.Pairwise (· < ·)) (hl:ids.length=y.length) (h:∀ z∈ids,z∈y.map (·.Box)):y.map (·.Box)=ids:=by
 have h0:(y.map (·.Box)).Pairwise (· < ·):=List.pairwise_map.2 hy;have h1:ids.Nodup:=hi.imp (fun h=>by omega);exact GC h0 hi fun x=>⟨Jc9 h1 h (by rw [Sa]; omega) x,h x⟩
theorem Jb4 {F:Nat} (hs:pQ s) (hb:∀ b∈bx,0<=b.Size/\b.Size<=255) (hl:bx.length<=30) (h6:∀ y∈p.States,y.length<=14) :
  ∃ r,fV s bx AF p=some r/\Ri F s bx AF p=some r/\(r.2=0->(p.States.length:Int)=AF/\AF<=20):=by
 obtain⟨q1,e1,h1⟩:=zP s hs.plugs hs.crows;obtain⟨q2,e2,h2⟩:=G2f (F:=F) s hs.plugs hs.crows;have:q1=q2:=by rw [Bool.eq_iff_iff,h1,h2]
 subst this;cases q1 with
 | false=>
  refine⟨(0,2),Ys ?_,Ys ?_,fun h=>by cases h⟩
  .unfold fV; exact Gt e1 (H7 (fun _=>Gg) (fun h=>by cases h))
  .unfold Ri; exact Gt e2 (H7 (fun _=>Gg) (fun h=>by cases h))
 | true=>
 have hS:=h1.1 rfl;obtain⟨q,f1,f2,hq⟩:=Q1f bx AF;cases q with
 | false=>
  refine⟨(0,230),Ys ?_,Ys ?_,fun h=>by cases h⟩
  .unfold fV; exact Gt e1 (H7 (fun h=>by cases h) (fun _=>Gt f1 (H7 (fun _=>Gg) (fun h=>by cases h))))
  .unfold Ri; exact Gt e2 (H7 (fun h=>by cases h) (fun _=>Gt f2 (H7 (fun _=>Gg) (fun h=>by cases h))))
 | true=>
 have hB:=hq.1 rfl;by_cases hn:(p.States.length:Int)=AF
 .refine⟨uE s bx p.States 0,Ys ?_,Ys ?_,fun _=>⟨hn,hB.n.2⟩⟩
  .unfold fV;refine Gt e1 (H7 (fun h=>by cases h) (fun _=>Gt f1 (H7 (fun h=>by cases h) (fun _=>H7 (fun h=>absurd hn (Pq h)) (fun _=>?_)))));refine Jw (fun pre (_:Unit)=>uE s bx p.States 0=uE s bx (p.States.drop pre.length) pre.length) (by simp) (fun pre y post u nx e hI h4=>?_) (fun u hI=>Gg ?_)
   .have hd:p.States.drop pre.length=y::post:=by rw [e,List.drop_left]
    rw [hd] at hI;have h0:y∈p.States:=by rw [e]; exact List.mem_append_right _ (List.mem_cons_self ..)
    refine H6 (wp_mono (G32 (bx:=bx) (l:=y) hs.plugs hs.crows (by have:=h6 y h0; omega)) (fun r hr=>H7 (fun h=>Gg ?_) (fun h=>?_)))
    .have h3:¬ Qq s bx y:=fun hh=>by rw [hr.2 ⟨hS,hh⟩] at h; cases h
     rw [hI,uD (J25 h3) (by decide)]
    have hR:Qq s bx y:=by
     cases r with
     | true=>exact(hr.1 rfl).2
     | false=>cases h
    refine Gt (G74 bx _ (by omega)) (Gt (Q19 y _) (H7 (fun h=>Gg ?_) (fun h=>h4 _ ?_)))
    .simp only [Bool.not_eq_true',decide_eq_false_iff_not] at h;rw [hI,uD (Geb hR h) (by decide)]
    .simp only [Bool.not_eq_false',S9] at h;rw [hI,J1e (Je0 hR h),S6,S7,e,show pre++y::post=(pre++[y])++post by simp,List.drop_left' (by simp)]
   .rw [hI,List.drop_length]; rfl
  .unfold Ri;refine Gt e2 (H7 (fun h=>by cases h) (fun _=>Gt f2 (H7 (fun h=>by cases h) (fun _=>H7 (fun h=>absurd hn (Pq h)) (fun _=>?_)))));have h9:AF.toNat=p.States.length:=by omega
   refine Qs (Ps (by have:=hB.n; omega)) ?_;rw [h9];refine kO (fun i (_:Unit)=>uE s bx p.States 0=uE s bx (p.States.drop i) i) (by simp) (fun i u nx hi hI h4=>?_) (fun u hI=>Gg ?_)
   .obtain⟨y,hy⟩:∃ y,p.States[i]? = some y:=⟨_,Pv hi⟩;have hd:p.States.drop i=y::p.States.drop (i+1):=by
     rw [List.drop_eq_getElem_cons hi]; congr 1;rw [Pv hi] at hy; exact Pw hy
    rw [hd] at hI;have h0:y∈p.States:=Px hy;refine Z2 rfl hy (H6 (wp_mono (Gd5 (F:=F) (bx:=bx) (l:=y) hs.plugs hs.crows hb (by have:=h6 y h0; omega)) (fun r hr=>H7 (fun h=>Gg ?_) (fun h=>?_))))
    .have h3:¬ Qq s bx y:=fun hh=>by rw [hr.2 ⟨hS,hh⟩] at h; cases h
     rw [hI,uD (J25 h3) (by decide)]
    have hR:Qq s bx y:=by
     cases r with
     | true=>exact(hr.1 rfl).2
     | false=>cases h
    refine Gt (J9c bx _ (by omega)) (Z2 rfl hy (H7 (fun h=>Gg ?_) (fun h=>?_)))
    .have h:=Pq h;rw [hI,uD (Geb hR (fun ee=>h (by rw [<- ee,Sa]))) (by decide)]
    have h7:(mJ bx (i:Int)).length=y.length:=by have:=Pr h; omega
    refine Jw (fun pre (_:Unit)=>∀ z∈pre,z∈y.map (·.Box)) (fun z hz=>(Py hz).elim) (fun pre z post u2 nx2 e2 h5 h8=>?_) (fun u2 h5=>h4 _ ?_)
    .refine Z2 rfl hy (Gt (Q48 y z) ?_);rcases pM (fun x:G2=>decide (x.Box=z)) y with ⟨g1,g2,_⟩ | ⟨m,x,g1,g2,g3,_⟩
     .rw [g1];refine H7 (fun _=>Gg ?_) (fun h=>by simp at h);refine(hI.trans (uD (Geb hR fun ee=>?_) (by decide))).symm;have hz:z∈y.map (·.Box):=by rw [ee,e2]; exact List.mem_append_right _ (List.mem_cons_self ..)
      obtain⟨x,hx,a0⟩:=Sc.1 hz;have:=g2 x hx;simp [a0] at this
     .rw [g1];refine H7 (fun h=>by have:=Pq h; omega) (fun _=>h8 _ ?_);refine Q2 (P:=fun z=>z∈y.map (·.Box)) h5 ?_;exact Sc.2 ⟨x,Px g2,Pq g3⟩
    .rw [hI,J1e (Je0 hR (Qaf hR.sorted (Jb8 hB.inc _) h7 h5))]
   .rw [hI,List.drop_length]; rfl
 .refine⟨(0,231),Ys ?_,Ys ?_,fun h=>by cases h⟩
  .unfold fV; exact Gt e1 (H7 (fun h=>by cases h) (fun _=>Gt f1 (H7 (fun h=>by cases h) (fun _=>H7 (fun _=>Gg) (fun h=>absurd hn (by simpa using h))))))
  .unfold Ri; exact Gt e2 (H7 (fun h=>by cases h) (fun _=>Gt f2 (H7 (fun h=>by cases h) (fun _=>H7 (fun _=>Gg) (fun h=>absurd hn (by simpa using h))))))
end check

theorem H8b:Z7 60=some true:=by kernel_rfl
structure Qc1 (s:Ge) (bx:AK):Prop where
 cols:s.Columns.length<=12
 covs:s.Covers.length<=12
 bxs30:bx.length<=30
 col:∀ c∈s.Columns,c.Plugs.length<=12/\c.AP<=10
 cov:∀ x∈s.Covers,x.Rows.length<=12
theorem Q5d (s:Ge) (bx:AK):Wp (dI s bx) (fun r=>r=true->Qc1 s bx):=by
 unfold dI;refine H7 (fun h=>Gg (fun h=>Bool.noConfusion h)) (fun h=>?_);simp only [Sh,decide_eq_false_iff_not] at h;obtain⟨⟨h1,h2⟩,h3⟩:=h;refine Jw (fun pre _=>∀ c∈pre,c.Plugs.length<=12/\c.AP<=10) (fun c hc=>(Py hc).elim) (fun pre y post u nx e hI h0=>H7 (fun h=>Gg (fun h=>Bool.noConfusion h)) (fun h=>h0 _ (Q2 (P:=fun c:G5=>c.Plugs.length<=12/\c.AP<=10) hI ?_))) (fun u hI=>?_)
 .simp only [Sh,decide_eq_false_iff_not] at h; omega
 refine Jw (fun pre _=>∀ x∈pre,x.Rows.length<=12) (fun c hc=>(Py hc).elim) (fun pre y post u nx e hI h0=>H7 (fun h=>Gg (fun h=>Bool.noConfusion h)) (fun h=>h0 _ (Q2 (P:=fun x:Gv=>x.Rows.length<=12) hI ?_))) (fun u h4=>Gg (fun _=>⟨by omega,by omega,by omega,hI,h4⟩));simp only [decide_eq_false_iff_not] at h; omega
variable {s:Ge} {F:Nat}
theorem J08 {bf af:AG} (hf:Qc1 s bx) (h1:bf.length<=14) (h2:af.length<=14) (hF:60<=F) :
  Wp (mD F s bx bf af) (fun r=>(¬ (qV s/\Qq s bx bf/\Qq s bx af)/\r=([],2))\/(qV s/\Qq s bx bf/\Qq s bx af/\r.2=0/\r.1.Pairwise (· < ·)/\QH s bf af r.1)):=by
 have hp:∀ c∈s.Columns,c.Plugs.length<=1048576:=fun c hc=>by have:=(hf.col c hc).1; omega
 have hr:∀ x∈s.Covers,x.Rows.length<=1048576:=fun x hx=>by have:=hf.cov x hx; omega
 unfold mD;refine H6 (wp_mono (G32 (bx:=bx) (l:=bf) hp hr (by omega)) (fun r4 h4=>?_));cases r4 with
 | false=>
  refine H6 (Gg (Gg (.inl ⟨fun h=>?_,rfl⟩)));have:=h4.2 ⟨h.1,h.2.1⟩; cases this
 | true=>
  have hR:=h4.1 rfl;simp only [Bool.not_true,Bool.not_false,cond_true,Bool.false_or];refine H6 (wp_mono (G32 (bx:=bx) (l:=af) hp hr (by omega)) (fun r5 h5=>H7 (fun h=>Gg (.inl ⟨fun hh=>?_,rfl⟩)) (fun h=>?_)))
  .rw [h5.2 ⟨hh.1,hh.2.2⟩] at h; cases h
  have h0:Qq s bx af:=by
   cases r5 with
   | true=>exact(h5.1 rfl).2
   | false=>cases h
  clear h h4 h5;obtain⟨hS,h3⟩:=hR;obtain⟨r,er,hs⟩:=zP s hp hr;have h6:Small s:=⟨er.trans (congrArg some (hs.2 hS)),⟨hS.num.1,by have:=hf.cols; omega⟩,fun c hc=>by have:=(hf.col c hc).2; omega,by have:=hf.covs; omega,fun x hx=>by have:=hf.cov x hx; omega⟩;have h7:=Q00 h6 h3 h0 (by omega) (by omega);exact H6 (wp_mono (J16 h7 (F:=F) (by simp only [S6,Sa]; omega)) (fun r hr=>Gg (.inr ⟨hS,h3,h0,rfl,hr.1,hr.2.2⟩)))
theorem Gf6 (a:AH):Zv a a=some true:=by
 unfold Zv;exact oK (fun i y nx h=>by rw [Qk h]; simp)
theorem Gf4 (a:List He):Zu a a=some true:=by
 unfold Zu;exact oK (fun i y nx h=>by rw [Qk h]; simp)
theorem Ja7 {l:AH} (hl:l.length<=100000):∃ r,gJ l=some r/\eG l=some r:=by
 have h:Wp (gJ l) (fun _=>True):=by
  unfold gJ;refine Jw (fun pre (st:Int)=>0<=st/\st<=(pre.length:Int)) ⟨Int.le_refl _,by simp⟩ (fun pre y post st nx e hI h0=>?_) (fun st _=>Gg trivial);have h1:pre.length < l.length:=by rw [e]; simp
  refine gR (fun j:Int=>0<=j/\j<=((pre++[y]).length:Int)) (fun K hK=>?_) (fun j hj=>h0 _ hj);rw [S6,S7] at hK;exact H7 (fun _=>aT ⟨by omega,by omega⟩ (hK _ ⟨by omega,by omega⟩)) (fun _=>hK _ ⟨by omega,by omega⟩)
 obtain⟨r,e,_⟩:=h;exact⟨r,e,e⟩
theorem Q1e {bf af:AG} (hF:60<=F) (hs:pQ s) (hf:Qc1 s bx) (hb:∀ b∈bx,0<=b.Size/\b.Size<=255) (l1:bf.length<=14) (l2:af.length<=14) :
  ∃ r,dE F s bx bf af=some r/\Yp F s bx bf af=some r/\r.1.length<=100000:=by
 obtain⟨r13,e13,h0⟩:=J08 (bx:=bx) hf l1 l2 hF;obtain⟨r15,e15,h1⟩:=J9a (F:=F) (s:=s) (bx:=bx) (bf:=bf) (af:=af) hs.plugs hs.crows hb hf.bxs30 (by omega) (by omega) hF;have h4:r13=r15:=by
  rcases h0 with ⟨p1,p2⟩ | ⟨p1,p2,p3,p4,p5,p6⟩
  .rcases h1 with ⟨q1,q2⟩ | ⟨q1,q2,q3,_⟩
   .rw [p2,q2]
   .exact(p1 ⟨q1,q2,q3⟩).elim
  .rcases h1 with ⟨q1,q2⟩ | ⟨q1,q2,q3,q4,q5,q6⟩
   .exact(q1 ⟨p1,p2,p3⟩).elim
   .exact Prod.ext (GC p5 q5 (fun x=>⟨fun h=>p6.least (·∈r15.1) (fun a b ha hp=>q6.closed a ha b hp) q6.seeds x h,fun h=>q6.least (·∈r13.1) (fun a b ha hp=>p6.closed a ha b hp) p6.seeds x h⟩)) (p4.trans q4.symm)
 subst h4;rcases h0 with ⟨_,rfl⟩ | ⟨p1,p2,p3,p4,_,_⟩
 .refine⟨([],2),Ys ?_,Ys ?_,by simp⟩
  .unfold dE;exact Gt e13 (H7 (fun _=>Gg) (fun h=>by simp at h))
  .unfold Yp;exact Gt e15 (H7 (fun _=>Gg) (fun h=>by simp at h))
 .obtain⟨r,er,h2,h3⟩:=Jb5 (F:=F) (lf:=r13.1) p2 p3 l1 l2 (fun x hx=>by have:=hf.cov x hx; omega) hf.covs (by omega);refine⟨(r,0),Ys ?_,Ys ?_,h2⟩
  .unfold dE;exact Gt e13 (H7 (fun h=>by rw [p4] at h; simp at h) (fun _=>Gt er Gg))
  .unfold Yp;exact Gt e15 (H7 (fun h=>by rw [p4] at h; simp at h) (fun _=>⟨_,h3 (k:=fun _=>none),rfl⟩))
theorem J91 {l:AH} (hF:60<=F) (hs:pQ s) (hl:l.length<=100000):bD F (wU s) s l=some true:=by
 refine Ys ?_;unfold bD;refine Gt (H92 (by omega)) ?_;rw [Ja0];obtain⟨q1,e1,h1⟩:=zP s hs.plugs hs.crows;obtain⟨q2,e2,h2⟩:=G2f (F:=F) s hs.plugs hs.crows;have h0:∃ r,cW s l=some r/\Yc F s l=some r:=by
  by_cases hS:qV s
  .rw [h1.2 hS] at e1;rw [h2.2 hS] at e2;obtain⟨r,er,hr⟩:=J9f (l:=l) e1 hl;obtain⟨q,eq,hq⟩:=Q08 (l:=l) hS e2 hl (by omega);have:r=q:=by
    rcases hr with ⟨a,rfl⟩ | ⟨a,b,c⟩ <;> rcases hq with ⟨a',rfl⟩ | ⟨a',b',c'⟩
    .rfl
    .exact(a a').elim
    .exact(a' a).elim
    .exact Prod.ext (c.eq c') (b.trans b'.symm)
   exact⟨r,er,this ▸ eq⟩
  .have f1:q1=false:=by
    cases q1 with
    | false=>rfl
    | true=>exact(hS (h1.1 rfl)).elim
   have f2:q2=false:=by
    cases q2 with
    | false=>rfl
    | true=>exact(hS (h2.1 rfl)).elim
   subst f1 f2;refine⟨([],2),Ys ?_,Ys ?_⟩
   .unfold cW;exact Gt e1 (H7 (fun _=>Gg) (fun h=>by cases h))
   .unfold Yc;exact Gt e2 (H7 (fun _=>Gg) (fun h=>by cases h))
 obtain⟨r,er,eq⟩:=h0;obtain⟨n,en1,en2⟩:=Ja7 hl;refine Gt er (Gt eq ?_);rw [Gf4,pP,Ps (rfl:r.2=r.2),Bool.and_self,cond_true,cond_true,en1,pP,en2,pP,Ps (rfl:n=n),Bool.and_self,cond_true,H96 (by omega),pP,Bool.and_self,cond_true,J34 hs,pP];exact Gg

def H80 (F:Nat) (s:Ge) (bx:AK) (b y:AG):AH:=((dE F s bx b y).getD ([],0)).1
def goV (F:Nat) (s:Ge) (bx:AK):AG->List AG->List AH
 | _,[]=>[]
 | b,y::r=>H80 F s bx b y::goV F s bx y r
def RP (p:dO) (i:Nat):AG:=if i=0 then [] else (p.States[i - 1]?).getD []
theorem H9e {AF:Int} {p:dO} (hF:60<=F) (hs:pQ s) (hf:Qc1 s bx) (hb:∀ b∈bx,0<=b.Size/\b.Size<=255) (h5:∀ y∈p.States,y.length<=14) :
  ∃ r,iB F s bx AF p=some r/\Yt F s bx AF p=some r/\r.1.length<=20/\∀ m∈r.1,m.length<=100000:=by
 obtain⟨c,c1,c2,hc⟩:=Jb4 (F:=F) (AF:=AF) hs hb hf.bxs30 h5;by_cases h0:c.2=0
 .obtain⟨hn,a4⟩:=hc h0;have h4:∀ b y:AG,b.length<=14->y.length<=14->∃ r,dE F s bx b y=some r/\Yp F s bx b y=some r/\r.1=H80 F s bx b y/\r.1.length<=100000:=fun b y h1 h2=>by
   obtain⟨r,e1,e2,e3⟩:=Q1e hF hs hf hb h1 h2;exact⟨r,e1,e2,by unfold H80; rw [e1]; rfl,e3⟩
  have h7:∀ (l:List AG) b,(goV F s bx b l).length=l.length:=fun l=>by
   induction l with
   | nil=>intro b; rfl
   | cons y r ih=>intro b; show (goV F s bx y r).length+1=r.length+1; rw [ih]
  have h8:∀ (l:List AG) (b:AG),b.length<=14->(∀ y∈l,y.length<=14)->∀ m∈goV F s bx b l,m.length<=100000:=fun l=>by
   induction l with
   | nil=>intro b _ _ m hm; cases hm
   | cons y r ih=>
    intro b h9 hl m hm;have hy:=hl y (List.mem_cons_self ..);rcases Se.1 hm with rfl | hm
    .obtain⟨q,_,_,e3,e4⟩:=h4 b y h9 hy;rw [<- e3]; exact e4
    .exact ih y hy (fun z hz=>hl z (List.mem_cons_of_mem _ hz)) m hm
  refine⟨(goV F s bx [] p.States,0),Ys ?_,Ys ?_,by show (goV F s bx [] p.States).length<=20; rw [h7]; omega,h8 p.States [] (Nat.zero_le _) h5⟩
  .unfold iB;refine Gt c1 (H7 (fun h=>absurd h0 (Pq h)) (fun _=>?_));refine Jw (fun pre (st:List AH×AG)=>st.1++goV F s bx st.2 (p.States.drop pre.length)=goV F s bx [] p.States/\st.1.length=pre.length/\st.2.length<=14) ⟨by simp,rfl,Nat.zero_le _⟩ (fun pre y post st nx e hI h6=>?_) (fun st hI=>Gg ?_)
   .obtain⟨h1,h2,h3⟩:=hI;have hd:p.States.drop pre.length=y::post:=by rw [e,List.drop_left]
    rw [hd] at h1;have hy:y.length<=14:=h5 y (by rw [e]; exact List.mem_append_right _ (List.mem_cons_self ..));have a5:pre.length+1<=p.States.length:=by rw [e]; simp
    obtain⟨q,q1,q2,q3,q4⟩:=h4 st.2 y h3 hy;refine Gt q1 (Qs (Ps ⟨by rw [h2,S7]; omega,by rw [h2,S7]; unfold maxLen; omega⟩) (h6 _ ⟨?_,?_,hy⟩))
    .rw [S6,S7,e,show pre++y::post=(pre++[y])++post by simp,List.drop_left' (by simp),<- e.trans (show pre++y::post=(pre++[y])++post by simp),<- h1,q3,List.append_assoc]; rfl
    .show (st.1++[q.1]).length=_
     rw [S6,S6,h2]; rfl
   .have h1:=hI.1;rw [List.drop_length] at h1;have h1:st.1++[]=goV F s bx [] p.States:=h1;rw [List.append_nil] at h1;rw [h1]
  .unfold Yt;refine Gt c2 (H7 (fun h=>absurd h0 (Pq h)) (fun _=>?_));have a0:AF.toNat=p.States.length:=by omega
   refine Qs (Ps (by omega)) ?_;rw [a0];refine kO (fun i (st:List AH)=>st++goV F s bx (RP p i) (p.States.drop i)=goV F s bx [] p.States/\st.length=i) ⟨by simp [RP],rfl⟩ (fun i st nx hi hI h6=>?_) (fun st hI=>Gg ?_)
   .obtain⟨h1,h2⟩:=hI;obtain⟨y,hy⟩:∃ y,p.States[i]? = some y:=⟨_,Pv hi⟩;have hd:p.States.drop i=y::p.States.drop (i+1):=by
     rw [List.drop_eq_getElem_cons hi]; congr 1;rw [Pv hi] at hy; exact Pw hy
    rw [hd] at h1;have a1:=h5 y (Px hy);have a2:(RP p i).length<=14:=by
     unfold RP;split
     .exact Nat.zero_le _
     .obtain⟨z,hz⟩:∃ z,p.States[i - 1]? = some z:=⟨_,Pv (by omega)⟩;rw [hz]; exact h5 z (Px hz)
    refine gR (fun b=>b=RP p i) (fun K hK=>H7 (fun h=>?_) (fun h=>hK _ ?_)) (fun b a3=>?_)
    .have h:=Pq h;obtain⟨z,hz⟩:∃ z,p.States[i - 1]? = some z:=⟨_,Pv (by omega)⟩;refine aT ⟨by omega,by omega⟩ (Z2 (m:=i - 1) (by omega) hz (hK _ ?_));unfold RP;rw [if_neg (by omega),hz]; rfl
    .have h:=Pr h;unfold RP;rw [if_pos (by omega)]
    .subst a3;obtain⟨q,q1,q2,q3,q4⟩:=h4 (RP p i) y a2 a1;refine Z2 rfl hy (Gt q2 (Qs (Ps ⟨by rw [h2,S7]; omega,by rw [h2,S7]; unfold maxLen; omega⟩) (h6 _ ⟨?_,?_⟩)))
     .have:RP p (i+1)=y:=by
       unfold RP;rw [if_neg (Nat.succ_ne_zero _),Nat.add_sub_cancel,hy]; rfl
      rw [this,<- h1,q3,List.append_assoc]; rfl
     .rw [S6,h2]; rfl
   .have h1:=hI.1;rw [List.drop_length] at h1;have h1:st++[]=goV F s bx [] p.States:=h1;rw [List.append_nil] at h1;rw [h1]
 .refine⟨([],c.2),Ys ?_,Ys ?_,Nat.zero_le _,fun m hm=>by cases hm⟩
  .unfold iB; exact Gt c1 (H7 (fun _=>Gg) (fun h=>absurd h0 (by simpa using h)))
  .unfold Yt; exact Gt c2 (H7 (fun _=>Gg) (fun h=>absurd h0 (by simpa using h)))
theorem Ja8 (s:Ge) (bx:AK) (AF:Int) (p:dO) (l:AH) (hs:pQ s) (hb:∀ b∈bx,0<=b.Size/\b.Size<=255) (l1:bx.length<=1048576) (hp:G44 p):aR 60 s bx AF p l=some true:=by
 refine Ys ?_;unfold aR;refine H6 (wp_mono (Q5d s bx) (fun r4 h4=>H7 (fun _=>Gt H8b Gg) (fun h=>?_)));simp only [Sh,decide_eq_false_iff_not,Bool.not_eq_false'] at h;obtain⟨⟨g1,g2⟩,g3⟩:=h;have hf:=h4 g1;refine Jw (fun pre (_:Unit)=>∀ y∈pre,y.length<=14) (fun y hy=>(Py hy).elim) (fun pre y post u nx e hI h0=>H7 (fun _=>Gt H8b Gg) (fun h=>h0 _ (Q2 (P:=fun y:AG=>y.length<=14) hI (by have:=Pr h; omega)))) (fun u h1=>?_);refine Gt (J2f hs) (Gt (H94 l1) (Gt (J31 hp) ?_));rw [Ja0,Q4d];obtain⟨r,e1,e2,h3,h2⟩:=H9e (F:=60) (AF:=AF) (by omega) hs hf hb h1;refine Gt e1 (Gt e2 (H7 (fun h=>by simp at h) (fun _=>?_)));refine Jw (fun pre (_:Unit)=>True) trivial (fun pre y post u nx e _ h0=>?_) (fun u _=>?_)
 .refine Z2 (m:=pre.length) (x:=y) rfl (by rw [e]; simp) (Gt (Gf6 y) (H7 (fun h=>by cases h) (fun _=>h0 _ trivial)))
 .have ha:fF r.1=some true:=by
   unfold fF need;rw [Ps (show r.1.length<=1000 by omega),Bool.true_and,List.all_eq_true.2 (fun m hm=>Ps (by have:=h2 m hm; omega))];rfl
  rw [J91 (by omega) hs (by omega),pP,cond_true,H98 l1,pP,Bool.and_self,cond_true,J36 hp,pP,Bool.and_self,cond_true,ha,pP,Bool.and_self,cond_true,H8b,pP];exact Gg
end Go.Proofs.YtkiekighbhnolaaGreat
