/-
 PlanTells: PlanTells: What slices.Insert and slices.Delete do to a slice of the ca
-/
import Derived.Test.YthkihfoleenlmaaGreatPlaA
import Derived.Test.YthkihfoleenlmaaGreatApl
import Derived.Lib.Overlaps
import Derived.Lib.AppendZerosOnto
set_option maxRecDepth 100000
set_option linter.unusedVariables false
namespace Go.Proofs.YthkihfoleenlmaaGreat
open Go.RowKit

theorem wK (bx:List Box) (k:Int) (hl:bx.length≤100000):dD bx k=some (jH bx k):=by
 refine bG ?_
 unfold dD jH
 refine Q2 (fun pre s=>s=(pre.filter (abB k)).map (·.ID)) rfl (fun pre y post s nx e hs h0=>?_) (fun s hs=>Gh hs)
 subst hs
 have hp:pre.length+1≤bx.length:=by rw [e]; simp
 have hf:=P3 (abB k) pre
 refine oP (fun j=>j=((pre++[y]).filter (abB k)).map (·.ID)) (fun K hK=>Hq (fun h=>aJ (uG (by simp only [Pr,Po]; omega) (by omega)) (hK _ ?_)) (fun h=>hK _ ?_)) (fun j hj=>h0 _ hj)
 .have h':abB k y=true:=h
  rw [List.filter_append,List.map_append,List.filter_cons,h']; simp
 .have h':abB k y=false:=h
  rw [List.filter_append,List.filter_cons,h']; simp
theorem G0c (bx:List Box) (k:Int) (hl:bx.length≤100000):Yi bx k=some (jH bx k):=(show Yi bx k=dD bx k from rfl).trans (wK bx k hl)
theorem H9c {bx:List Box} (h:(bx.map (·.ID)).Pairwise (· < ·)) (k:Int):(jH bx k).Pairwise (· < ·):=by
 unfold jH
 exact h.sublist ((List.filter_sublist).map _)
theorem Hff (l:List G2) (ids:List Int):aV l ids (fun z0 z1=>fC z0 z1)=some (decide (l.map (·.Box)=ids)):=by
 refine bG ?_
 unfold aV
 refine Hq (fun h=>?_) (fun h=>?_)
 .refine Gh (P9 fun e=>?_).symm
  have:=P6 h
  subst e
  rw [Pr] at this; exact this rfl
 .have h0:l.length=ids.length:=by have:=P7 h; omega
  refine Q2 (fun pre (_:Unit)=>pre.map (·.Box)=ids.take pre.length) (by simp) (fun pre y post u nx e hI h1=>?_) (fun u hI=>Gh ?_)
  .have h2:pre.length < ids.length:=by rw [← h0,e]; simp
   obtain⟨z,hz⟩:∃ z,ids[pre.length]? = some z:=⟨_,Pb h2⟩
   refine dO rfl hz (Gu (show fC y z=some (decide (y.Box=z)) from rfl) (Hq (fun hc=>Gh ?_) (fun hc=>h1 _ ?_)))
   .refine(P9 fun ee=>?_).symm
    simp only [Bool.not_eq_true',decide_eq_false_iff_not] at hc
    refine hc ?_
    have:(l.map (·.Box))[pre.length]? = some y.Box:=by rw [e,List.map_append,Pg (by rw [Pr]; exact Pf),Pr,Nat.sub_self]; rfl
    rw [ee,hz] at this
    exact(Pc this).symm
   .simp only [Bool.not_eq_false',Pq] at hc
    rw [List.map_append,hI,Pn,Po,List.take_add_one,hz,← hc]; rfl
  .rw [h0,List.take_length] at hI
   exact(P8 hI).symm
noncomputable def wT (s:Gq) (bx:List Box) (i:Nat) (y:List G2):Int:=by
 classical exact if Yg s bx y then (if y.map (·.Box)=jH bx (i:Int) then 0 else 233) else 232
noncomputable def mS (s:Gq) (bx:List Box):List (List G2)→Nat→Int×Int
 | [],_=>(0,0)
 | y::r,i=>if wT s bx i y=0 then mS s bx r (i+1) else ((i:Int),wT s bx i y)
section check
variable {s:Gq} {bx:List Box} {calls:Int} {p:Ya}
theorem G22 {i:Nat} {y:List G2} (h:¬ Yg s bx y):wT s bx i y=232:=by unfold wT; rw [if_neg h]
theorem G21 {i:Nat} {y:List G2} (h:Yg s bx y) (h2:¬ y.map (·.Box)=jH bx (i:Int)):wT s bx i y=233:=by unfold wT; rw [if_pos h,if_neg h2]
theorem Hc4 {i:Nat} {y:List G2} (h:Yg s bx y) (h2:y.map (·.Box)=jH bx (i:Int)):wT s bx i y=0:=by unfold wT; rw [if_pos h,if_pos h2]
theorem lN {y:List G2} {r:List (List G2)} {i:Nat} {c:Int} (h:wT s bx i y=c) (hc:c≠0):mS s bx (y::r) i=((i:Int),c):=by rw [mS,h,if_neg hc]
theorem G1c {y:List G2} {r:List (List G2)} {i:Nat} (h:wT s bx i y=0):mS s bx (y::r) i=mS s bx r (i+1):=by rw [mS,if_pos h]
theorem H2a:∀ {l:List (List G2)} {i:Nat},(mS s bx l i).2=0→∀ y∈l,Yg s bx y
 | [],i,_,y,hy=>(Pe hy).elim
 | z::r,i,h,y,hy=>by
  by_cases hz:wT s bx i z=0
  .rw [G1c hz] at h
   rcases Pv.1 hy with rfl | hy
   .by_cases hR:Yg s bx y
    .exact hR
    .rw [G22 hR] at hz; exact absurd hz (by decide)
   .exact H2a h y hy
  .rw [lN rfl hz] at h; exact(hz h).elim
theorem Hb0:∀ {a b:List Int},a.Nodup→(∀ x∈a,x∈b)→b.length≤a.length→∀ x∈b,x∈a
 | [],b,_,_,hl,x,hx=>by
  have:b=[]:=P1 (Nat.le_zero.1 hl)
  subst this; exact hx
 | z::r,b,hn,h,hl,x,hx=>by
  have hz:=h z (List.mem_cons_self ..)
  have hn:=List.nodup_cons.1 hn
  by_cases e:x=z
  .subst e; exact List.mem_cons_self ..
  .refine List.mem_cons_of_mem _ (Hb0 (b:=b.erase z) hn.2 (fun w hw=>?_) ?_ x ((List.mem_erase_of_ne e).2 hx))
   .exact(List.mem_erase_of_ne (fun ee:w=z=>hn.1 (ee ▸ hw))).2 (h w (List.mem_cons_of_mem _ hw))
   .rw [List.length_erase_of_mem hz]
    rw [Pi] at hl; omega
theorem J9c {y:List G2} {ids:List Int} (hy:y.Pairwise (fun a b=>a.Box < b.Box)) (hi:ids.Pairwise (· < ·)) (hl:ids.length=y.length) (h:∀ z∈ids,z∈y.map (·.Box)):y.map (·.Box)=ids:=by
 have h0:(y.map (·.Box)).Pairwise (· < ·):=List.pairwise_map.2 hy
 have h1:ids.Nodup:=hi.imp (fun h=>by omega)
 exact HA h0 hi fun x=>⟨Hb0 h1 h (by rw [Pr]; omega) x,h x⟩
theorem G23 {F:Nat} (hs:lO s) (hb:∀ b∈bx,0≤b.Size/\b.Size≤255) (hl:bx.length≤30) (h6:∀ y∈p.States,y.length≤14) :
  ∃ r,bW s bx calls p=some r/\Qy F s bx calls p=some r/\(r.2=0→sU s/\(p.States.length:Int)=calls/\calls≤20/\∀ y∈p.States,Yg s bx y):=by
 obtain⟨q1,e1,h1⟩:=zE s hs.plugs hs.crows
 obtain⟨q2,e2,h2⟩:=G7f (F:=F) s hs.plugs hs.crows
 have:q1=q2:=by rw [Bool.eq_iff_iff,h1,h2]
 subst this
 cases q1 with
 | false=>
  refine⟨(0,2),bG ?_,bG ?_,fun h=>by cases h⟩
  .unfold bW; exact Gu e1 (Hq (fun _=>Gh rfl) (fun h=>by cases h))
  .unfold Qy; exact Gu e2 (Hq (fun _=>Gh rfl) (fun h=>by cases h))
 | true=>
 have hS:=h1.1 rfl
 obtain⟨q,f1,f2,hq⟩:=G90 bx calls
 cases q with
 | false=>
  refine⟨(0,230),bG ?_,bG ?_,fun h=>by cases h⟩
  .unfold bW; exact Gu e1 (Hq (fun h=>by cases h) (fun _=>Gu f1 (Hq (fun _=>Gh rfl) (fun h=>by cases h))))
  .unfold Qy; exact Gu e2 (Hq (fun h=>by cases h) (fun _=>Gu f2 (Hq (fun _=>Gh rfl) (fun h=>by cases h))))
 | true=>
 have hB:=hq.1 rfl
 by_cases hn:(p.States.length:Int)=calls
 .refine⟨mS s bx p.States 0,bG ?_,bG ?_,fun h=>⟨hS,hn,hB.n.2,H2a h⟩⟩
  .unfold bW
   refine Gu e1 (Hq (fun h=>by cases h) (fun _=>Gu f1 (Hq (fun h=>by cases h) (fun _=>Hq (fun h=>absurd hn (P6 h)) (fun _=>?_)))))
   refine Q2 (fun pre (_:Unit)=>mS s bx p.States 0=mS s bx (p.States.drop pre.length) pre.length) (by simp) (fun pre y post u nx e hI h4=>?_) (fun u hI=>Gh ?_)
   .have hd:p.States.drop pre.length=y::post:=by rw [e,List.drop_left]
    rw [hd] at hI
    have h0:y∈p.States:=by rw [e]; exact List.mem_append_right _ (List.mem_cons_self ..)
    refine Hc (wp_mono (Hee (bx:=bx) (l:=y) hs.plugs hs.crows (by have:=h6 y h0; omega)) (fun r hr=>Hq (fun h=>Gh ?_) (fun h=>?_)))
    .have h3:¬ Yg s bx y:=fun hh=>by rw [hr.2 ⟨hS,hh⟩] at h; cases h
     rw [hI,lN (G22 h3) (by decide)]
    have hR:Yg s bx y:=by
     cases r with
     | true=>exact(hr.1 rfl).2
     | false=>cases h
    refine Gu (wK bx _ (by omega)) (Gu (Hff y _) (Hq (fun h=>Gh ?_) (fun h=>h4 _ ?_)))
    .simp only [Bool.not_eq_true',decide_eq_false_iff_not] at h
     rw [hI,lN (G21 hR h) (by decide)]
    .simp only [Bool.not_eq_false',Pq] at h
     rw [hI,G1c (Hc4 hR h),Pn,Po,e,show pre++y::post=(pre++[y])++post by simp,List.drop_left' (by simp)]
   .rw [hI,List.drop_length]; rfl
  .unfold Qy
   refine Gu e2 (Hq (fun h=>by cases h) (fun _=>Gu f2 (Hq (fun h=>by cases h) (fun _=>Hq (fun h=>absurd hn (P6 h)) (fun _=>?_)))))
   have h9:calls.toNat=p.States.length:=by omega
   refine aJ (P8 (by have:=hB.n; omega)) ?_
   rw [h9]
   refine qR (fun i (_:Unit)=>mS s bx p.States 0=mS s bx (p.States.drop i) i) (by simp) (fun i u nx hi hI h4=>?_) (fun u hI=>Gh ?_)
   .obtain⟨y,hy⟩:∃ y,p.States[i]? = some y:=⟨_,Pb hi⟩
    have hd:p.States.drop i=y::p.States.drop (i+1):=by
     rw [List.drop_eq_getElem_cons hi]; congr 1
     rw [Pb hi] at hy; exact Pc hy
    rw [hd] at hI
    have h0:y∈p.States:=Pd hy
    refine dO rfl hy (Hc (wp_mono (G09 (F:=F) (bx:=bx) (l:=y) hs.plugs hs.crows hb (by have:=h6 y h0; omega)) (fun r hr=>Hq (fun h=>Gh ?_) (fun h=>?_))))
    .have h3:¬ Yg s bx y:=fun hh=>by rw [hr.2 ⟨hS,hh⟩] at h; cases h
     rw [hI,lN (G22 h3) (by decide)]
    have hR:Yg s bx y:=by
     cases r with
     | true=>exact(hr.1 rfl).2
     | false=>cases h
    refine Gu (G0c bx _ (by omega)) (dO rfl hy (Hq (fun h=>Gh ?_) (fun h=>?_)))
    .have h:=P6 h
     rw [hI,lN (G21 hR (fun ee=>h (by rw [← ee,Pr]))) (by decide)]
    have h7:(jH bx (i:Int)).length=y.length:=by have:=P7 h; omega
    refine Q2 (fun pre (_:Unit)=>∀ z∈pre,z∈y.map (·.Box)) (fun z hz=>(Pe hz).elim) (fun pre z post u2 nx2 e2 h5 h8=>?_) (fun u2 h5=>h4 _ ?_)
    .refine dO rfl hy (Gu (J26 y z) ?_)
     rcases lK (fun x:G2=>decide (x.Box=z)) y with ⟨g1,g2,_⟩ | ⟨m,x,g1,g2,g3,_⟩
     .rw [g1]
      refine Hq (fun _=>Gh ?_) (fun h=>by simp at h)
      refine(hI.trans (lN (G21 hR fun ee=>?_) (by decide))).symm
      have hz:z∈y.map (·.Box):=by rw [ee,e2]; exact List.mem_append_right _ (List.mem_cons_self ..)
      obtain⟨x,hx,a0⟩:=Pt.1 hz
      have:=g2 x hx
      simp [a0] at this
     .rw [g1]
      refine Hq (fun h=>by have:=P6 h; omega) (fun _=>h8 _ ?_)
      refine Qp (P:=fun z=>z∈y.map (·.Box)) h5 ?_
      exact Pt.2 ⟨x,Pd g2,P6 g3⟩
    .rw [hI,G1c (Hc4 hR (J9c hR.sorted (H9c hB.inc _) h7 h5))]
   .rw [hI,List.drop_length]; rfl
 .refine⟨(0,231),bG ?_,bG ?_,fun h=>by cases h⟩
  .unfold bW; exact Gu e1 (Hq (fun h=>by cases h) (fun _=>Gu f1 (Hq (fun h=>by cases h) (fun _=>Hq (fun _=>Gh rfl) (fun h=>absurd hn (by simpa using h))))))
  .unfold Qy; exact Gu e2 (Hq (fun h=>by cases h) (fun _=>Gu f2 (Hq (fun h=>by cases h) (fun _=>Hq (fun _=>Gh rfl) (fun h=>absurd hn (by simpa using h))))))
end check
structure Jb0 (s:Gq) (bx:List Box):Prop where
 cols:s.Columns.length≤12
 covs:s.Covers.length≤12
 bxs30:bx.length≤30
 col:∀ c∈s.Columns,c.Plugs.length≤12/\c.Tiers≤10
 cov:∀ x∈s.Covers,x.Rows.length≤12
def pF (F:Nat) (s:Gq) (a b:List G2):List Int:=(Zm F s a b).getD []
def stays (a b:List G2) (id:Int):Bool:=(Qu a id).2&&(Qu b id).2
def G07 (F:Nat) (s:Gq) (a b:List G2):List Int:=(pF F s a b).filter (stays a b)
section rest
variable {F:Nat} {s:Gq} {bx:List Box}
theorem Hf6 (hF:60≤F) (hs:lO s) (hS:sU s) (hf:Jb0 s bx) (hb:∀ b∈bx,0≤b.Size/\b.Size≤255) {a b:List G2} (h1:Yg s bx a) (h2:Yg s bx b) (l1:a.length≤14) (l2:b.length≤14) :
  Zm F s a b=some (pF F s a b)/\(∃ e,Rr F s bx a b=some (pF F s a b,e))/\(pF F s a b).length≤28:=by
 obtain⟨q,eq,hq⟩:=zE s hs.plugs hs.crows
 have h0:Small s:=⟨eq.trans (congrArg some (hq.2 hS)),⟨hS.num.1,by have:=hf.cols; omega⟩,fun c hc=>by have:=(hf.col c hc).2; omega,by have:=hf.covs; omega,fun x hx=>by have:=hf.cov x hx; omega⟩
 have h3:=He3 h0 h1 h2 (by omega) (by omega)
 obtain⟨r,er,p5,pU,p6⟩:=H21 h3 (F:=F) (by simp only [Pn,Pr]; omega)
 have hL:pF F s a b=r:=by unfold pF; rw [er]; rfl
 obtain⟨r',er',h'⟩:=H82 (F:=F) (s:=s) (bx:=bx) (bf:=a) (af:=b) hs.plugs hs.crows hb hf.bxs30 (by omega) (by omega) hF
 have h4:r'.1=r:=by
  rcases h' with ⟨q1,_⟩ | ⟨_,_,_,_,q5,q6⟩
  .exact(q1 ⟨hS,h1,h2⟩).elim
  .exact(HA p5 q5 (fun x=>⟨fun h=>p6.least (·∈r'.1) (fun a b ha hp=>q6.closed a ha b hp) q6.seeds x h,fun h=>q6.least (·∈r) (fun a b ha hp=>p6.closed a ha b hp) p6.seeds x h⟩)).symm
 refine⟨by rw [hL]; exact er,⟨r'.2,by rw [hL,← h4]; exact er'⟩,?_⟩
 rw [hL]
 have h5:r.Nodup:=p5.imp (fun h=>by omega)
 have hU:(a.map (·.Box)++b.map (·.Box)).length≤28:=by simp only [Pn,Pr]; omega
 exact Nat.le_trans (h5.length_le_of_subset (fun a ha=>pU a ha)) hU
end rest

theorem H96 {F:Nat} {l:List Int} {del:Int→Option Bool} {p:Int→Bool} (hd:∀ x∈l,del x=some (p x)) (hF:l.length+2≤F) (hl:l.length≤100000):Ym F l del=some (l.filter (fun x=>!p x)):=by
 refine bG ?_
 unfold Ym
 have hi:cX l del=some (uO p l):=sR hd
 refine Gu hi ?_
 rcases lK p l with ⟨h1,h2,_⟩ | ⟨m,x,h1,h2,h3,h4⟩
 .rw [h1]
  refine Hq (fun _=>Gh ?_) (fun h=>by simp at h)
  exact(List.filter_eq_self.2 (fun a ha=>by rw [h2 a ha]; rfl)).symm
 .have hm:=(Pa h2).1
  rw [h1]
  refine Hq (fun h=>?_) (fun _=>?_)
  .have:=P6 h; omega
  refine bY ⟨by omega,by omega⟩ ?_
  have h6:∀ k,k < m→∀ y,l[k]? = some y→p y=false:=by
   intro k hk y hy
   obtain⟨_,j,hj,b0,a9⟩:=List.find?_eq_some_iff_getElem.1 h4
   have a0:l.findIdx? p=some m:=by
    have h5:=h1
    unfold uO at h5
    cases hf:l.findIdx? p with
    | none=>rw [hf] at h5; simp only at h5; omega
    | some j2=>rw [hf] at h5; simp only at h5; rw [show j2=m by omega]
   obtain⟨_,_,hb⟩:=List.findIdx?_eq_some_iff_getElem.1 a0
   have:=hb k hk
   have a3:=(Pa hy)
   obtain⟨b1,e⟩:=a3
   rw [e] at this
   simpa using this
  refine wp_loop (fun st=>∃ i j:Nat,st.1=(i:Int)/\st.2.1=(j:Int)/\i < j/\j≤l.length/\st.2.2.length=l.length/\st.2.2.take i=(l.take j).filter (fun x=>!p x)/\st.2.2.drop j=l.drop j) (fun st=>l.length+1 - st.2.1.toNat)
   ⟨m,m+1,rfl,rfl,by omega,by omega,rfl,?_,rfl⟩ (by show l.length+1 - ((m:Int)+1).toNat < F; omega) (fun st nx hI a4=>?_)
  .rw [List.take_add_one,h2,List.filter_append]
   simp only [Option.toList_some,List.filter_cons,h3,Bool.not_true,Bool.false_eq_true,if_false,List.filter_nil,List.append_nil]
   refine(List.filter_eq_self.2 (fun a ha=>?_)).symm
   obtain⟨k,hk⟩:=List.mem_iff_getElem?.1 ha
   have h8:k < m:=by
    have:=(Pa hk).1
    rw [List.length_take] at this; omega
   rw [List.getElem?_take_of_lt h8] at hk
   rw [h6 k h8 a hk]; rfl
  .obtain⟨a1,a2,cur⟩:=st
   obtain⟨i,j,e1,e2,b2,b3,h7,ht,h0⟩:=hI
   simp only at e1 e2 h7 ht h0 ⊢
   subst e1 e2
   refine Hq (fun h=>?_) (fun h=>?_)
   .have hj:j < l.length:=by have:=P6 h; omega
    have a5:cur[j]? = some l[j]:=by
     have:(cur.drop j)[0]? = (l.drop j)[0]? := by rw [h0]
     rw [Pm,Pm] at this
     simpa [hj] using this
    have h9:l[j]? = some l[j]:=by simp [hj]
    refine oP (fun st=>∃ i':Nat,st.1=(i':Int)/\i' < j+1/\st.2.length=l.length/\st.2.take i'=(l.take (j+1)).filter (fun x=>!p x)/\st.2.drop (j+1)=l.drop (j+1)) (fun K hK=>?_) (fun st a6=>?_)
    .refine dO rfl a5 (Gu (hd l[j] (List.getElem_mem hj)) (Hq (fun hp=>?_) (fun hp=>hK _ ?_)))
     .have a7:cur[i]? = some (cur[i]'(by omega)):=Pb (by omega)
      refine dO rfl a7 (bY ⟨by omega,by omega⟩ (hK _ ⟨i+1,rfl,by omega,by simpa using h7,?_,?_⟩))
      .simp only [Int.toNat_natCast]
       rw [List.take_add_one,List.take_set_of_le (Pf),ht,List.take_add_one,h9,List.filter_append]
       have:(cur.set i l[j])[i]? = some l[j]:=by rw [List.getElem?_set_self (by omega)]
       rw [this]
       simp [hp]
      .simp only [Int.toNat_natCast]
       rw [List.drop_set_of_lt (by omega)]
       have:=congrArg (List.drop 1) h0
       rw [List.drop_drop,List.drop_drop] at this
       exact this
     .refine⟨i,rfl,by omega,h7,?_,?_⟩
      .rw [ht,List.take_add_one,h9,List.filter_append]
       simp [hp]
      .have:=congrArg (List.drop 1) h0
       rw [List.drop_drop,List.drop_drop] at this
       exact this
    .obtain⟨i',g1,g2,g3,g4,g5⟩:=a6
     refine bY ⟨by omega,by omega⟩ (a4 _ ⟨i',j+1,g1,by simp,g2,by omega,g3,g4,g5⟩ ?_)
     simp only
     omega
   .have hj:j=l.length:=by have:=P7 h; omega
    subst hj
    have a8:(blank cur i (cur.length - i) (0:Int)).length=cur.length:=by
     unfold blank
     simp only [Pn,List.length_take,List.length_replicate,List.length_drop]
     omega
    refine Hc (vI rfl (by omega) (Hc (vI rfl (by rw [a8]; omega) (Gh ?_))))
    unfold blank
    rw [List.append_assoc,List.take_left' (by rw [List.length_take]; omega),ht,List.take_length]
def cD (l:List (List G2)) (k:Nat):List G2:=if k=0 then [] else (l[k - 1]?).getD []
theorem H85 (p:Ya):∃ ys,gR p=some ys/\ys.length=p.States.length/\∀ k y,ys[k]? = some y→y.1=cD p.States k/\p.States[k]? = some y.2:=by
 have:Wp (gR p) (fun ys=>ys.length=p.States.length/\∀ k y,ys[k]? = some y→y.1=cD p.States k/\p.States[k]? = some y.2):=by
  unfold gR
  refine Q2 (fun pre st=>st.1=cD p.States pre.length/\st.2.length=pre.length/\∀ k y,st.2[k]? = some y→y.1=cD p.States k/\p.States[k]? = some y.2) ⟨rfl,rfl,fun k y h=>by simp at h⟩ (fun pre y post st nx e hI h0=>?_) (fun st hI=>Gh hI.2)
  obtain⟨h1,h2,h3⟩:=hI
  have hy:p.States[pre.length]? = some y:=by rw [e]; simp
  refine h0 _ ⟨?_,by simp [h2],fun k z hz=>?_⟩
  .show y=cD p.States (pre++[y]).length
   unfold cD
   rw [Pn,Po,if_neg (by omega),Nat.add_sub_cancel,hy]; rfl
  .rw [List.getElem?_append] at hz
   split at hz
   .exact h3 k z hz
   .rename_i hk
    have h4:k - st.2.length=0:=by
     have:=(Pa hz).1
     simp only [Po] at this; omega
    rw [h4] at hz
    simp only [List.getElem?_cons_zero,Option.some.injEq] at hz
    subst hz
    have:k=pre.length:=by omega
    subst this
    exact⟨h1,hy⟩
 obtain⟨ys,e,h⟩:=this
 exact⟨ys,e,h⟩

theorem G3c.one {w:World} {ob:Option Nat} {t k n c:Nat} {v:Value} (h:G3c w ob t k n c v):v.oneCell'=true:=by
 rcases h with ⟨rfl,_⟩ | ⟨b,rfl,_⟩ <;> rfl

section state
variable {N:Cfg} {l:Fr} {L:Loc} {w0 w:World} {β0 β:H4} {L0:Loc} {a:Act}
theorem Jx.over {s:Nat} {u:AV} (h:Jx a w β L l) (hv:V w β L u (a.tmps.getD s undef)):Jx a w β L ((s,u)::l):=⟨fun t=>by
 rw [look]
 cases hb:Nat.beq s t with
 | true=>have:=P2 hb; subst this; exact hv
 | false=>exact h.tmp t⟩
theorem Ry.vcap (hs:Ry N w0 β0 L0 a w β l L) {s i ver k n t:Nat} {xs:List AV} (h1:look l s=.vec i ver k n) (hi:lk L i=some (.vec t k ver xs)):∃ c,xs.length≤c/\c≤maxLen/\Ry N w0 β0 L0 a w β ((s,.vcap i ver k xs.length c)::l) L:=by
 have hv:=hs.frame.tmp s
 rw [h1] at hv
 obtain⟨rfl,_,h⟩:=iL hs.sat hi hv
 suffices h0:∃ c,xs.length≤c/\c≤maxLen/\G3c w (β.at_ i) t k xs.length c (a.tmps.getD s undef) from by
  obtain⟨c,c1,c2,c3⟩:=h0
  exact⟨c,c1,c2,hs.sat,hs.step,hs.frame.over (.vcap ⟨t,ver,xs,hi,Pf,fun _=>c3⟩ c3.one),hs.size,hs.base,hs.defers⟩
 rcases h with ⟨e1,rfl,e3⟩ | ⟨b,cap,vs,e1,e2,e3,e4,e5,e6,_⟩
 .exact⟨0,Pf,Nat.zero_le _,.inl ⟨e1,rfl,rfl,e3⟩⟩
 .exact⟨cap,e3,e4,.inr ⟨b,e1,e2,e3,e4,by simp [World.shape?,e5,e6]⟩⟩

end state

section ghosts
variable {P:Program} {N:Cfg} {Q:Post} {l:Fr} {L:Loc} {ops:Array Oper} {rest:List Oper} {c:Code}
end ghosts

section ops
variable {P:Program} {N:Cfg} {o:Oper} {l:Fr} {L:Loc} {u:AV}
/-! ### Typed elements -/
end ops
end Go.Proofs.YthkihfoleenlmaaGreat
