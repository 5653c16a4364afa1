/- PlanTells: -/
import Derived.Test.YthkihfoleenlmaaGreatIns
import Derived.Test.YthkihfoleenlmaaGreatXQ
set_option maxRecDepth 100000
set_option linter.unusedVariables false
namespace Go.Proofs.YthkihfoleenlmaaGreat
open Go.RowKit

theorem Gb1:aR 60=some true:=by kernel_rfl
theorem J3b (s:Gq) (bx:List Box):Wp (cF s bx) (fun r=>r=true→Jb0 s bx):=by
 unfold cF
 refine Hq (fun h=>Gh (fun h=>Bool.noConfusion h)) (fun h=>?_)
 simp only [Py,decide_eq_false_iff_not] at h
 obtain⟨⟨h1,h2⟩,h3⟩:=h
 refine Q2 (fun pre _=>∀ c∈pre,c.Plugs.length≤12/\c.Tiers≤10) (fun c hc=>(Pe hc).elim) (fun pre y post u nx e hI h0=>Hq (fun h=>Gh (fun h=>Bool.noConfusion h)) (fun h=>h0 _ (Qp (P:=fun c:G6=>c.Plugs.length≤12/\c.Tiers≤10) hI ?_))) (fun u hI=>?_)
 .simp only [Py,decide_eq_false_iff_not] at h; omega
 refine Q2 (fun pre _=>∀ x∈pre,x.Rows.length≤12) (fun c hc=>(Pe hc).elim) (fun pre y post u nx e hI h0=>Hq (fun h=>Gh (fun h=>Bool.noConfusion h)) (fun h=>h0 _ (Qp (P:=fun x:H3=>x.Rows.length≤12) hI ?_))) (fun u h4=>Gh (fun _=>⟨by omega,by omega,by omega,hI,h4⟩))
 simp only [decide_eq_false_iff_not] at h; omega
theorem H80 (p:Ya):Wp (aQ p) (fun r=>r=true→∀ y∈p.States,y.length≤14):=by
 unfold aQ
 refine Q2 (fun pre (_:Unit)=>∀ y∈pre,y.length≤14) (fun y hy=>(Pe hy).elim) (fun pre y post u nx e hI h0=>Hq (fun _=>Gh (fun h=>Bool.noConfusion h)) (fun h=>h0 _ (Qp (P:=fun y:List G2=>y.length≤14) hI (by have:=P7 h; omega)))) (fun u hI=>Gh (fun _=>hI))
def Gb3 (F:Nat) (s:Gq) (l:List (List G2)) (n:Nat):List (List Int):=(List.range n).map (fun k=>G07 F s (cD l k) ((l[k]?).getD []))
theorem G27 {F:Nat} {s:Gq} {l:List (List G2)} {n:Nat}:(Gb3 F s l n).length=n:=by unfold Gb3; rw [Pr,List.length_range]
theorem G93 {F:Nat} {s:Gq} {l:List (List G2)} {n:Nat} {y:List G2} (h:l[n]? = some y):Gb3 F s l (n+1)=Gb3 F s l n++[G07 F s (cD l n) y]:=by
 unfold Gb3
 rw [List.range_succ,List.map_append,List.map_singleton,h]; rfl
theorem Hf0 {l:List (List G2)} {n:Nat} {y:List G2} (h:l[n]? = some y):cD l (n+1)=y:=by
 unfold cD
 rw [if_neg (Nat.succ_ne_zero n),Nat.add_sub_cancel,h]; rfl
section law
variable {F:Nat} {s:Gq} {bx:List Box} {calls:Int} {p:Ya}
theorem GJ (hF:60≤F) (hs:lO s) (hf:Jb0 s bx) (hb:∀ b∈bx,0≤b.Size/\b.Size≤255) (h2:∀ y∈p.States,y.length≤14) :
  ∃ r,aX F s bx calls p=some r/\Re F s bx calls p=some r/\r.1.length≤20/\∀ m∈r.1,m.length≤28:=by
 obtain⟨c,c1,c2,hc⟩:=G23 (F:=F) (calls:=calls) hs hb hf.bxs30 h2
 by_cases h0:c.2=0
 .obtain⟨hS,hn,a7,hR⟩:=hc h0
  have h9:∀ k,k≤p.States.length→Yg s bx (cD p.States k)/\(cD p.States k).length≤14:=fun k hk=>by
   unfold cD
   split
   .exact⟨G06,Nat.zero_le _⟩
   .obtain⟨z,hz⟩:∃ z,p.States[k - 1]? = some z:=⟨_,Pb (by omega)⟩
    rw [hz]
    exact⟨hR z (Pd hz),h2 z (Pd hz)⟩
  have h1:∀ k y,p.States[k]? = some y→Zm F s (cD p.States k) y=some (pF F s (cD p.States k) y)/\(∃ e,Rr F s bx (cD p.States k) y=some (pF F s (cD p.States k) y,e))/\(pF F s (cD p.States k) y).length≤28:=fun k y hy=>by
   have hk:=(Pa hy).1
   obtain⟨a1,a2⟩:=h9 k (by omega)
   exact Hf6 hF hs hS hf hb a1 (hR y (Pd hy)) a2 (h2 y (Pd hy))
  refine⟨(Gb3 F s p.States p.States.length,0),bG ?_,bG ?_,by simp only [G27]; omega,fun m hm=>?_⟩
  .unfold aX
   obtain⟨ys,ey,a0,a4⟩:=H85 p
   refine Gu c1 (Hq (fun h=>absurd h0 (P6 h)) (fun _=>Gu rfl (Gu ey ?_)))
   refine Q2 (fun pre (st:List (List Int))=>st=Gb3 F s p.States pre.length) rfl (fun pre y post st nx e hI h3=>?_) (fun st hI=>Gh ?_)
   .obtain⟨h6,h4⟩:=a4 pre.length y (by rw [e]; simp)
    have a5:pre.length < p.States.length:=(Pa h4).1
    obtain⟨a1,_,a3⟩:=h1 pre.length y.2 h4
    rw [← h6] at a1 a3
    have h7:Ym F (pF F s y.1 y.2) (fun z0=>bP z0 y.1 y.2)=some (G07 F s y.1 y.2):=by
     have hd:=H96 (F:=F) (l:=pF F s y.1 y.2) (del:=fun z0=>bP z0 y.1 y.2) (p:=fun id=>(!(Qu y.1 id).2)||(!(Qu y.2 id).2)) (fun x _=>bG (by unfold bP; exact Gu (sK y.1 x) (Gu (sK y.2 x) (Gh rfl)))) (by omega) (by omega)
     rw [hd]
     unfold G07
     congr 2
     funext id
     unfold stays
     cases (Qu y.1 id).2 <;> cases (Qu y.2 id).2 <;> rfl
    have a8:st.length=pre.length:=by rw [hI,G27]
    refine Gu a1 (Gu h7 (aJ (uG (by rw [Po]; omega) (by omega)) (h3 _ ?_)))
    rw [Pn,Po,G93 h4,← hI,← h6]
   .rw [hI,a0]
  .unfold Re
   refine Gu c2 (Hq (fun h=>absurd h0 (P6 h)) (fun _=>?_))
   have a6:calls.toNat=p.States.length:=by omega
   refine aJ (P8 (by omega)) ?_
   rw [a6]
   refine qR (fun i (st:List (List Int)×List G2)=>st=(Gb3 F s p.States i,cD p.States i)) rfl (fun i st nx hi hI h3=>?_) (fun st hI=>Gh (by rw [hI]))
   subst hI
   obtain⟨y,hy⟩:∃ y,p.States[i]? = some y:=⟨_,Pb hi⟩
   obtain⟨_,⟨e',a2⟩,a3⟩:=h1 i y hy
   refine dO rfl hy (Gu a2 ?_)
   refine Q2 (fun pre (st:List Int)=>st=pre.filter (stays (cD p.States i) y)) rfl (fun pre z post st nx2 e hI h8=>?_) (fun st hI=>?_)
   .have a5:pre.length < 28:=by
     have:=congrArg List.length e
     simp only [Pn,Pi] at this
     omega
    have a9:st.length≤pre.length:=by rw [hI]; exact P3 ..
    refine oP (fun j=>j=(pre++[z]).filter (stays (cD p.States i) y)) (fun K hK=>?_) (fun j hj=>h8 _ hj)
    have h5:∀ j,j=st++(if stays (cD p.States i) y z then [z] else [])→Wp (K j) _:=fun j hj=>hK j (by
     rw [List.filter_append,← hI,hj,List.filter_cons,List.filter_nil])
    rcases fN (cD p.States i) z with ⟨b1,b2⟩ | ⟨m,x,b1,_,_,b2⟩
    .refine Gu b1 (Hc (Gh (Hc (Gh (Hq (fun h=>by simp at h) (fun _=>h5 _ ?_))))))
     have:stays (cD p.States i) y z=false:=by unfold stays; rw [b2]; rfl
     rw [this,if_neg Bool.false_ne_true,List.append_nil]
    .have hm:decide ((0:Int)≤(m:Int))=true:=P8 (by omega)
     refine Gu b1 ?_
     rw [hm]
     simp only [cond_true,Bool.true_and]
     refine Hc (dO rfl hy (Gh ?_))
     rcases fN y z with ⟨d1,d2⟩ | ⟨m2,x2,d1,_,_,d2⟩
     .refine Gu d1 (Hq (fun h=>by simp at h) (fun _=>h5 _ ?_))
      have:stays (cD p.States i) y z=false:=by unfold stays; rw [b2,d2]; rfl
      rw [this,if_neg Bool.false_ne_true,List.append_nil]
     .refine Gu d1 (Hq (fun _=>aJ (uG (by rw [Po]; omega) (by omega)) (h5 _ ?_)) (fun h=>by have:=P7 h; omega))
      have:stays (cD p.States i) y z=true:=by unfold stays; rw [b2,d2]; rfl
      rw [this,if_pos rfl]
   .refine aJ (uG (by simp only [G27,Po]; omega) (by omega)) (dO rfl hy (h3 _ ?_))
    rw [G93 hy,Hf0 hy,hI]; rfl
  .unfold Gb3 at hm
   obtain⟨k,hk,rfl⟩:=Pt.1 hm
   have hk:=List.mem_range.1 hk
   obtain⟨y,hy⟩:∃ y,p.States[k]? = some y:=⟨_,Pb hk⟩
   rw [hy]
   exact Nat.le_trans (P3 ..) (h1 k y hy).2.2
 .refine⟨([],c.2),bG ?_,bG ?_,Nat.zero_le _,fun m hm=>by cases hm⟩
  .unfold aX; exact Gu c1 (Hq (fun _=>Gh rfl) (fun h=>absurd h0 (by simpa using h)))
  .unfold Re; exact Gu c2 (Hq (fun _=>Gh rfl) (fun h=>absurd h0 (by simpa using h)))
theorem H97 (hF:60≤F) (hs:lO s) (hf:Jb0 s bx) (hb:∀ b∈bx,0≤b.Size/\b.Size≤255) (h0:∀ y∈p.States,y.length≤14) :
  ∃ r,eG F s bx calls p=some r/\aN F s bx calls p=some r:=by
 obtain⟨r,e1,e2,hl,hm⟩:=GJ (calls:=calls) hF hs hf hb h0
 have h:Wp (eG F s bx calls p) (fun _=>True):=by
  unfold eG
  refine Gu e1 (Q2 (fun pre (st:Int)=>0≤st/\st≤28*(pre.length:Int)) ⟨Int.le_refl _,by simp⟩ (fun pre y post st nx e hI h1=>?_) (fun st _=>Gh trivial))
  have h2:pre.length < r.1.length:=by rw [e]; simp
  have hy:=hm y (by rw [e]; simp)
  exact bY ⟨by omega,by omega⟩ (h1 _ ⟨by omega,by rw [Pn,Po]; omega⟩)
 obtain⟨q,eq,_⟩:=h
 refine⟨q,eq,?_⟩
 rw [← eq]
 unfold eG aN
 rw [e1,e2]
end law
theorem H8d (s:Gq) (bx:List Box) (calls call:Int) (p:Ya) (hs:lO s) (hb:∀ b∈bx,0≤b.Size/\b.Size≤255) (l1:bx.length≤1048576) (hp:JQ p):aS 60 s bx calls call p=some true:=by
 refine bG ?_
 unfold aS
 refine Hc (wp_mono (J3b s bx) (fun r4 h4=>?_))
 cases r4 with
 | false=>exact Hc (Gh (Hq (fun _=>Gu Gb1 (Gh rfl)) (fun h=>by simp at h)))
 | true=>
 refine Hc (wp_mono (H80 p) (fun r5 h5=>Hq (fun _=>Gu Gb1 (Gh rfl)) (fun h=>?_)))
 have h0:=h5 (by simpa using h)
 have hf:=h4 rfl
 have h3:=hf.bxs30
 refine Gu (H34 hs) (Gu (Gbb l1) (Gu (H36 hp) ?_))
 rw [J2b,J2c]
 obtain⟨c,c1,c2,_⟩:=G23 (F:=60) (calls:=calls) hs hb hf.bxs30 h0
 obtain⟨q,b1,b2,_⟩:=G90 bx calls
 obtain⟨r,e1,e2,h2,hm⟩:=GJ (F:=60) (calls:=calls) (by omega) hs hf hb h0
 obtain⟨n,n1,n2⟩:=H97 (F:=60) (calls:=calls) (by omega) hs hf hb h0
 refine Gu c1 (Gu c2 ?_)
 rw [P9 (show ¬ (c.1≠c.1) from fun h=>h rfl),P9 (show ¬ (c.2≠c.2) from fun h=>h rfl)]
 refine Gu b1 (Gu b2 ?_)
 rw [show (q==q)=true by cases q <;> rfl]
 refine Gu (wK bx call (by omega)) (Gu (G0c bx call (by omega)) (Gu (eL _) (Hq (fun h=>by simp at h) (fun _=>?_))))
 refine Gu e1 (Gu e2 (Gu n1 (Gu n2 (Hq (fun h=>by simp at h) (fun _=>?_)))))
 refine Q2 (fun pre (_:Unit)=>True) trivial (fun pre y post u nx e _ h1=>?_) (fun u _=>?_)
 .exact dO (m:=pre.length) (x:=y) rfl (by rw [e]; simp) (Gu (eL y) (Hq (fun h=>by cases h) (fun _=>h1 _ trivial)))
 .have ha:eM r.1=some true:=by
   unfold eM need
   rw [P8 (show r.1.length≤1000 by omega),Bool.true_and,List.all_eq_true.2 (fun m h=>P8 (by have:=hm m h; omega))]
   rfl
  simp only [H38 hs,vF,cond_true,Bool.and_self,Gbe l1,H3a hp,ha,Gb1]
  exact Gh rfl
end Go.Proofs.YthkihfoleenlmaaGreat
