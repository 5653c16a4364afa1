/-
 MovesCalls: Tasks of the reference; Lifts. MovesCalls: the law.
-/
import Derived.Test.YteogacmpgdpjlaaGreatMovY
set_option maxRecDepth 100000
set_option linter.unusedVariables false
namespace Go.Proofs.YteogacmpgdpjlaaGreat
open Go.RowKit

section
variable {s:H8} {l:List Move}
/-- The tasks of the phases and bays ahead of one. -/
def DoneT (s:H8) (l:List Move) (ph i:Int) (t:Hh):Prop:=∃ p b,(p < ph∨(p=ph∧b < i))∧nT s p b false l+nT s p b true l≠0∧t=tk s l p b
theorem nz_zero (hS:H25 s) (hm:∀ m∈l,Q51 s m) {p b:Int} (h:nT s p b false l+nT s p b true l≠0):(p=1∨p=2)∧0≤b∧b < 40:=by
 by_cases h1:nT s p b false l=0
 ·exact nT_zero hS hm (c:=true) (by omega)
 ·exact nT_zero hS hm h1
theorem ref_count30 {β:Type} {Q:β→Prop} (hm:∀ m∈l,Q51 s m) (hl:l.length≤100000) {ph i:Int} (hp:ph=1∨ph=2) {k:Int×Int×Int×Int→Option β} (hk:Wp (k (i,ph,nT s ph i false l,nT s ph i true l)) Q) :
  Wp (each (fun y131 i131 (s131:Int×Int×Int×Int) nx131=>
        jp (fun kj134=>
         bif (!((decide (y131.Kind≤2))==(decide (ph=1)))) then
         (kj134 (s131.2.2.1,s131.2.2.2))
         else
         (jp (fun kj138=>
           bnd (bif ((decide (y131.Kind=1))||(decide (y131.Kind=4))) then Jc s.Covers y131.Ge some else some default) fun y140=>
           bif (((decide (y131.Kind=1))||(decide (y131.Kind=4)))&&(decide (y140.Bay=i))) then
           (Yn (s131.2.2.2+1) fun v141=>
            kj138 v141)
           else
           (kj138 s131.2.2.2)) fun(j138:Int)=>
          bnd (bif ((decide (y131.Kind=2))||(decide (y131.Kind=3))) then Jc s.Columns y131.Slot.G4 some else some default) fun y143=>
          bif (((decide (y131.Kind=2))||(decide (y131.Kind=3)))&&(decide (y143.Bay=i))) then
          (Yn (s131.2.2.1+1) fun v144=>
           kj134 (v144,j138))
          else
          (kj134 (s131.2.2.1,j138)))) fun(j134:Int×Int)=>
        nx131 (s131.1,s131.2.1,j134.1,j134.2)) k l 0 (i,ph,0,0)) Q:=by
 refine Q3 (fun pre (st:Int×Int×Int×Int)=>st=(i,ph,nT s ph i false pre,nT s ph i true pre)) rfl (fun pre y post st nx e hI hnx=>?_) (fun st hI=>by rw [hI]; exact hk)
 subst hI
 have hym:y∈l:=by rw [e]; simp
 have hpl:pre.length < l.length:=by rw [e]; simp
 have hy:=hm y hym
 have hkk:1≤y.Kind∧y.Kind≤4:=by unfold Q51 at hy; omega
 have b1:=J4a s ph i false pre
 have b2:=J4a s ph i true pre
 have hsn:∀ c,nT s ph i c (pre++[y])=nT s ph i c pre+(if J6a s ph i c y=true then 1 else 0):=fun c=>J84 s ph i c pre y
 refine G82 (fun j:Int×Int=>j=(nT s ph i false (pre++[y]),nT s ph i true (pre++[y]))) (fun K hK=>?_) (fun j hj=>hnx _ (by rw [hj]))
 by_cases hph:H7b y=ph
 ·have hq:((decide (y.Kind≤2))==(decide (ph=1)))=true:=by
   rw [beq_iff_eq,decide_eq_decide]
   unfold H7b at hph
   split at hph <;> omega
  rw [hq]
  refine Hm (fun h=>by cases h) (fun _=>?_)
  have hh:∀ c,J6a s ph i c y=((decide (Gc5 s y=i))&&(isC y==c)):=fun c=>by unfold J6a; rw [decide_eq_true hph,Bool.true_and]
  cases hc:isC y with
  | true=>
   obtain⟨x,hx,h0,hb⟩:=hy.cover hc
   have hkind:=(J35 y).1 hc
   rw [show (decide (y.Kind=1)||decide (y.Kind=4))=true from hc,show (decide (y.Kind=2)||decide (y.Kind=3))=false by rw [Bool.or_eq_false_iff,decide_eq_false_iff_not,decide_eq_false_iff_not]; omega]
   have hf:nT s ph i false (pre++[y])=nT s ph i false pre:=by rw [hsn,hh,hc]; simp
   refine G82 (fun j:Int=>j=nT s ph i true (pre++[y])) (fun K2 hK2=>?_) (fun j hj=>?_)
   ·refine H5 (Hm (fun _=>G43 (m:=y.Ge.toNat) (by omega) hx (Gn ?_)) (fun h=>by cases h))
    rw [Bool.true_and]
    refine Hm (fun h=>G1a ⟨by simp only; omega,by simp only; omega⟩ (hK2 _ ?_)) (fun h=>hK2 _ ?_)
    ·have:=of_decide_eq_true h
     rw [hsn,hh,hc,decide_eq_true (hb.trans this)]; rfl
    ·have:=of_decide_eq_false h
     rw [hsn,hh,hc,decide_eq_false (fun g=>this (hb.symm.trans g))]; simp
   ·refine H5 (Hm (fun h=>by cases h) (fun _=>Gn (Hm (fun h=>by cases h) (fun _=>hK _ (by rw [hj,hf])))))
  | false=>
   obtain⟨x,hx,h0,hb⟩:=hy.column hc
   have hkind:¬ (y.Kind=1∨y.Kind=4):=fun g=>by rw [(J35 y).2 g] at hc; cases hc
   rw [show (decide (y.Kind=1)||decide (y.Kind=4))=false from hc,show (decide (y.Kind=2)||decide (y.Kind=3))=true by rw [Bool.or_eq_true,decide_eq_true_eq,decide_eq_true_eq]; omega]
   have hf:nT s ph i true (pre++[y])=nT s ph i true pre:=by rw [hsn,hh,hc]; simp
   refine G82 (fun j:Int=>j=nT s ph i true pre) (fun K2 hK2=>H5 (Hm (fun h=>by cases h) (fun _=>Gn (Hm (fun h=>by cases h) (fun _=>hK2 _ rfl))))) (fun j hj=>?_)
   refine H5 (Hm (fun _=>G43 (m:=y.Slot.G4.toNat) (by omega) hx (Gn ?_)) (fun h=>by cases h))
   rw [Bool.true_and]
   refine Hm (fun h=>G1a ⟨by simp only; omega,by simp only; omega⟩ (hK _ ?_)) (fun h=>hK _ ?_)
   ·have:=of_decide_eq_true h
    rw [hj,hf,hsn,hh,hc,decide_eq_true (hb.trans this)]; rfl
   ·have:=of_decide_eq_false h
    rw [hj,hf,hsn,hh,hc,decide_eq_false (fun g=>this (hb.symm.trans g))]; simp
 ·have hq:((decide (y.Kind≤2))==(decide (ph=1)))=false:=by
   rw [Bool.eq_false_iff]
   intro g
   rw [beq_iff_eq,decide_eq_decide] at g
   unfold H7b at hph
   split at hph <;> omega
  rw [hq]
  have hf:∀ c,nT s ph i c (pre++[y])=nT s ph i c pre:=fun c=>by rw [hsn]; unfold J6a; rw [decide_eq_false hph]; simp
  exact Hm (fun _=>hK _ (by rw [hf,hf])) (fun h=>by cases h)
theorem ref_tasks {F:Nat} (hS:H25 s) (hR:Y4 F s=some true) (hl:l.length≤100000) (hF:10≤F):Wp (Y3 F s l) (fun r=>(¬ (∀ m∈l,Q51 s m)∧r=([],2))∨((∀ m∈l,Q51 s m)∧r.2=0∧Jb4 s l r.1)):=by
 unfold Y3
 refine Gy hR (Hm (fun h=>by cases h) (fun _=>?_))
 refine Q3 (fun pre _=>∀ x∈pre,Q51 s x) (fun x hx=>(List.not_mem_nil hx).elim) (fun pre y post u nx e hI hnx=>?_) (fun u hm=>?_)
 ·obtain⟨r,er,hr⟩:=ref30_right (s:=s) y
  refine Gy er (Hm (fun h=>Gn (.inl ⟨fun hh=>?_,rfl⟩)) (fun h=>hnx _ (Q1 hI (hr.1 (by simpa using h)))))
  rw [hr.2 (hh y (by rw [e]; simp))] at h; cases h
 ·have h40:(40:Int).toNat=40:=rfl
  refine wp_loop (fun st:List Hh×Int=>(st.2=1∨st.2=2∨st.2=3)∧st.1.Pairwise (fun a b=>J5d a b < 0)∧(∀ t,t∈st.1 ↔ DoneT s l st.2 0 t)∧(st.1.length:Int)≤40*(st.2 - 1)) (fun st=>(3 - st.2).toNat)
   ⟨.inl rfl,List.Pairwise.nil,fun t=>⟨fun h=>(List.not_mem_nil h).elim,fun⟨p,b,g1,g2,_⟩=>by have:=nz_zero hS hm g2; simp only at g1; omega⟩,by simp⟩ (by show (3 - 1:Int).toNat < F; omega) (fun st nx hI hnx=>?_)
  obtain⟨out,ph⟩:=st
  obtain⟨i1,i2,i3,i4⟩:=hI
  simp only at i1 i2 i3 i4 hnx ⊢
  refine Hm (fun hle=>?_) (fun hgt=>Gn (.inr ⟨hm,rfl,i2,fun t=>(i3 t).trans ?_⟩))
  ·have hle:=of_decide_eq_true hle
   have hp:ph=1∨ph=2:=by omega
   refine Qy rfl (Gec (fun i (o:List Hh)=>o.Pairwise (fun a b=>J5d a b < 0)∧(∀ t,t∈o ↔ DoneT s l ph (i:Int) t)∧(o.length:Int)≤40*(ph - 1)+i) ⟨i2,i3,by omega⟩ (fun i o nx2 hi hJ hnx2=>?_) (fun o hJ=>?_))
   ·obtain⟨j1,j2,j3⟩:=hJ
    have hi40:i < 40:=hi
    refine G82 (fun o2:List Hh=>o2.Pairwise (fun a b=>J5d a b < 0)∧(∀ t,t∈o2 ↔ DoneT s l ph ((i+1:Nat):Int) t)∧(o2.length:Int)≤40*(ph - 1)+((i+1:Nat):Int)) (fun K hK=>?_) (fun o2 ho=>hnx2 _ ho)
    refine ref_count30 hm hl hp ?_
    have b1:=J4a s ph (i:Int) false l
    have b2:=J4a s ph (i:Int) true l
    have hsplit:∀ t,DoneT s l ph ((i+1:Nat):Int) t ↔ (DoneT s l ph (i:Int) t∨(nT s ph (i:Int) false l+nT s ph (i:Int) true l≠0∧t=tk s l ph (i:Int))):=fun t=>by
     constructor
     ·rintro⟨p,b,g1,g2,g3⟩
      by_cases hb:p=ph∧b=(i:Int)
      ·obtain⟨rfl,rfl⟩:=hb
       exact .inr ⟨g2,g3⟩
      ·exact .inl ⟨p,b,by omega,g2,g3⟩
     ·rintro(⟨p,b,g1,g2,g3⟩ | ⟨g2,g3⟩)
      ·exact⟨p,b,by omega,g2,g3⟩
      ·exact⟨ph,(i:Int),by omega,g2,g3⟩
    refine G1a ⟨by simp only; omega,by simp only; omega⟩ (Hm (fun h=>?_) (fun h=>hK _ ⟨j1,fun t=>(j2 t).trans ((hsplit t).trans ?_).symm,by omega⟩))
    ·have h:=of_decide_eq_true h
     simp only at h
     refine Qy (H06 (by rw [List.length_singleton]; omega) (by omega)) (hK _ ⟨H1b j1 (fun a ha=>?_),fun t=>?_,by rw [List.length_append,List.length_singleton]; omega⟩)
     ·obtain⟨p,b,g1,_,rfl⟩:=(j2 a).1 ha
      rw [Hd7]
      show p < ph∨(p=ph∧b < (i:Int))
      exact g1
     ·rw [List.mem_append,List.mem_singleton,hsplit,j2]
      exact⟨fun g=>g.imp (fun g=>g) (fun g=>⟨by omega,g⟩),fun g=>g.imp (fun g=>g) (fun g=>g.2)⟩
    ·have h:=of_decide_eq_false h
     simp only at h
     exact⟨fun g=>g.elim (fun g=>g) (fun g=>(g.1 (by omega)).elim),.inl⟩
   ·obtain⟨j1,j2,j3⟩:=hJ
    have j3:(o.length:Int)≤40*(ph - 1)+40:=j3
    refine G1a ⟨by omega,by omega⟩ (hnx _ ⟨by show ph+1=1∨ph+1=2∨ph+1=3; omega,j1,fun t=>(j2 t).trans ⟨fun⟨p,b,g1,g2,g3⟩=>⟨p,b,?_,g2,g3⟩,fun⟨p,b,g1,g2,g3⟩=>⟨p,b,?_,g2,g3⟩⟩,by show (o.length:Int)≤40*(ph+1 - 1); omega⟩ (by show (3 - (ph+1)).toNat < (3 - ph).toNat; omega))
    ·show p < ph+1∨(p=ph+1∧b < 0)
     omega
    ·have:=nz_zero hS hm g2
     have g1:p < ph+1∨(p=ph+1∧b < 0):=g1
     show p < ph∨(p=ph∧b < 40)
     omega
  ·have hgt:=of_decide_eq_false hgt
   exact⟨fun⟨p,b,_,g2,g3⟩=>⟨p,b,g2,g3⟩,fun⟨p,b,g2,g3⟩=>⟨p,b,by have:=nz_zero hS hm g2; omega,g2,g3⟩⟩
end
end Go.Proofs.YteogacmpgdpjlaaGreat
set_option maxRecDepth 100000
set_option linter.unusedVariables false
namespace Go.Proofs.YteogacmpgdpjlaaGreat
open Go.RowKit

theorem awake30:G11 60=some true:=by kernel_rfl
structure FewR (s:H8) (boxes:List H2):Prop where
 cols:s.Columns.length≤12
 covs:s.Covers.length≤12
 boxes:boxes.length≤30
 col:∀ c∈s.Columns,c.Plugs.length≤12∧c.Tiers≤10
 cov:∀ x∈s.Covers,x.Rows.length≤12
theorem few_spec (s:H8) (boxes:List H2):Wp (G31 s boxes) (fun r=>r=true→FewR s boxes):=by
 unfold G31
 refine Hm (fun h=>Gn (fun h=>Bool.noConfusion h)) (fun h=>?_)
 simp only [Bool.or_eq_false_iff,decide_eq_false_iff_not] at h
 obtain⟨⟨h1,h2⟩,h3⟩:=h
 refine Q3 (fun pre _=>∀ c∈pre,c.Plugs.length≤12∧c.Tiers≤10) (fun c hc=>(List.not_mem_nil hc).elim) (fun pre y post u nx e hI hnx=>Hm (fun h=>Gn (fun h=>Bool.noConfusion h)) (fun h=>hnx _ (Q1 (P:=fun c:G4=>c.Plugs.length≤12∧c.Tiers≤10) hI ?_))) (fun u hI=>?_)
 ·simp only [Bool.or_eq_false_iff,decide_eq_false_iff_not] at h; omega
 refine Q3 (fun pre _=>∀ x∈pre,x.Rows.length≤12) (fun c hc=>(List.not_mem_nil hc).elim) (fun pre y post u nx e hI hnx=>Hm (fun h=>Gn (fun h=>Bool.noConfusion h)) (fun h=>hnx _ (Q1 (P:=fun x:Ge=>x.Rows.length≤12) hI ?_))) (fun u hI2=>Gn (fun _=>⟨by omega,by omega,by omega,hI,hI2⟩))
 simp only [decide_eq_false_iff_not] at h; omega
theorem prog_lifted {F:Nat} {s:H8} {boxes:List H2} {before after:List G6} (hf:FewR s boxes) (h1:before.length≤14) (h2:after.length≤14) (hF:60≤F) :
  Wp (Gd3 F s boxes before after) (fun r=>(¬ (H25 s∧R0 s boxes before∧R0 s boxes after)∧r=([],2))∨(H25 s∧R0 s boxes before∧R0 s boxes after∧r.2=0∧r.1.Pairwise (· < ·)∧J26 s before after r.1)):=by
 have hp:∀ c∈s.Columns,c.Plugs.length≤1048576:=fun c hc=>by have:=(hf.col c hc).1; omega
 have hr:∀ x∈s.Covers,x.Rows.length≤1048576:=fun x hx=>by have:=hf.cov x hx; omega
 unfold Gd3
 refine H5 (wp_mono (prog_stow (boxes:=boxes) (l:=before) hp hr (by omega)) (fun r4 h4=>?_))
 cases r4 with
 | false=>
  refine H5 (Gn (Gn (.inl ⟨fun h=>?_,rfl⟩)))
  have:=h4.2 ⟨h.1,h.2.1⟩; cases this
 | true=>
  have hR:=h4.1 rfl
  simp only [Bool.not_true,Bool.not_false,cond_true,Bool.false_or]
  refine H5 (wp_mono (prog_stow (boxes:=boxes) (l:=after) hp hr (by omega)) (fun r5 h5=>Hm (fun h=>Gn (.inl ⟨fun hh=>?_,rfl⟩)) (fun h=>?_)))
  ·rw [h5.2 ⟨hh.1,hh.2.2⟩] at h; cases h
  have hR2:R0 s boxes after:=by
   cases r5 with
   | true=>exact(h5.1 rfl).2
   | false=>cases h
  clear h h4 h5
  obtain⟨hS,hR1⟩:=hR
  obtain⟨r,er,hs⟩:=J61 s hp hr
  have hsm:Small s:=⟨er.trans (congrArg some (hs.2 hS)),⟨hS.num.1,by have:=hf.cols; omega⟩,fun c hc=>by have:=(hf.col c hc).2; omega,by have:=hf.covs; omega,fun x hx=>by have:=hf.cov x hx; omega⟩
  have hok:=states_ok hsm hR1 hR2 (by omega) (by omega)
  exact H5 (wp_mono (lifted_full hok (F:=F) (by simp only [List.length_append,List.length_map]; omega)) (fun r hr=>Gn (.inr ⟨hS,hR1,hR2,rfl,hr.1,hr.2.2⟩)))
theorem Q4e (a:List Move):Yd a a=some true:=by
 unfold Yd
 exact H8d (fun i y nx h=>by rw [Qg h]; simp)
theorem Q4c (a:List Hh):Zi a a=some true:=by
 unfold Zi
 exact H8d (fun i y nx h=>by rw [Qg h]; simp)
theorem lifts_both {l:List Move} (hl:l.length≤100000):∃ r,G6c l=some r∧G46 l=some r:=by
 have h:Wp (G6c l) (fun _=>True):=by
  unfold G6c
  refine Q3 (fun pre (st:Int)=>0≤st∧st≤(pre.length:Int)) ⟨Int.le_refl _,by simp⟩ (fun pre y post st nx e hI hnx=>?_) (fun st _=>Gn trivial)
  have hpl:pre.length < l.length:=by rw [e]; simp
  refine G82 (fun j:Int=>0≤j∧j≤((pre++[y]).length:Int)) (fun K hK=>?_) (fun j hj=>hnx _ hj)
  rw [List.length_append,List.length_singleton] at hK
  exact Hm (fun _=>G1a ⟨by omega,by omega⟩ (hK _ ⟨by omega,by omega⟩)) (fun _=>hK _ ⟨by omega,by omega⟩)
 obtain⟨r,e,_⟩:=h
 exact⟨r,e,e⟩
theorem call_both {F:Nat} {s:H8} {boxes:List H2} {before after:List G6} (hF:60≤F) (hs:Hb9 s) (hf:FewR s boxes) (hb:∀ b∈boxes,0≤b.Size∧b.Size≤255) (l1:before.length≤14) (l2:after.length≤14) :
  ∃ r,G7f F s boxes before after=some r∧Za F s boxes before after=some r∧r.1.length≤100000:=by
 obtain⟨r13,e13,h13⟩:=prog_lifted (boxes:=boxes) hf l1 l2 hF
 obtain⟨r15,e15,h15⟩:=ref_lifted (F:=F) (s:=s) (boxes:=boxes) (before:=before) (after:=after) hs.plugs hs.crows hb hf.boxes (by omega) (by omega) hF
 have heq:r13=r15:=by
  rcases h13 with ⟨p1,p2⟩ | ⟨p1,p2,p3,p4,p5,p6⟩
  ·rcases h15 with ⟨q1,q2⟩ | ⟨q1,q2,q3,_⟩
   ·rw [p2,q2]
   ·exact(p1 ⟨q1,q2,q3⟩).elim
  ·rcases h15 with ⟨q1,q2⟩ | ⟨q1,q2,q3,q4,q5,q6⟩
   ·exact(q1 ⟨p1,p2,p3⟩).elim
   ·exact Prod.ext (J8b p5 q5 (fun x=>⟨fun h=>p6.least (·∈r15.1) (fun a b ha hp=>q6.closed a ha b hp) q6.seeds x h,fun h=>q6.least (·∈r13.1) (fun a b ha hp=>p6.closed a ha b hp) p6.seeds x h⟩)) (p4.trans q4.symm)
 subst heq
 rcases h13 with ⟨_,rfl⟩ | ⟨p1,p2,p3,p4,_,_⟩
 ·refine⟨([],2),G38 ?_,G38 ?_,by simp⟩
  ·unfold G7f
   exact Gy e13 (Hm (fun _=>Gn rfl) (fun h=>by simp at h))
  ·unfold Za
   exact Gy e15 (Hm (fun _=>Gn rfl) (fun h=>by simp at h))
 ·obtain⟨r,er,hlen,href⟩:=calls_both (F:=F) (lifted:=r13.1) p2 p3 l1 l2 (fun x hx=>by have:=hf.cov x hx; omega) hf.covs (by omega)
  refine⟨(r,0),G38 ?_,G38 ?_,hlen⟩
  ·unfold G7f
   exact Gy e13 (Hm (fun h=>by rw [p4] at h; simp at h) (fun _=>Gy er (Gn rfl)))
  ·unfold Za
   exact Gy e15 (Hm (fun h=>by rw [p4] at h; simp at h) (fun _=>⟨_,href (k:=fun _=>none),rfl⟩))
theorem tasks_true {F:Nat} {s:H8} {l:List Move} (hF:60≤F) (hs:Hb9 s) (hl:l.length≤100000):G10 F (H9c s) s l=some true:=by
 refine G38 ?_
 unfold G10
 refine Gy (LentMoves_eq (by omega)) ?_
 rw [plShip]
 obtain⟨q1,e1,h1⟩:=J61 s hs.plugs hs.crows
 obtain⟨q2,e2,h2⟩:=ref_right (F:=F) s hs.plugs hs.crows
 have hboth:∃ r,G2a s l=some r∧Y3 F s l=some r:=by
  by_cases hS:H25 s
  ·rw [h1.2 hS] at e1
   rw [h2.2 hS] at e2
   obtain⟨r,er,hr⟩:=prog_tasks (l:=l) e1 hl
   obtain⟨q,eq,hq⟩:=ref_tasks (l:=l) hS e2 hl (by omega)
   have:r=q:=by
    rcases hr with ⟨a,rfl⟩ | ⟨a,b,c⟩ <;> rcases hq with ⟨a',rfl⟩ | ⟨a',b',c'⟩
    ·rfl
    ·exact(a a').elim
    ·exact(a' a).elim
    ·exact Prod.ext (c.eq c') (b.trans b'.symm)
   exact⟨r,er,this ▸ eq⟩
  ·have f1:q1=false:=by
    cases q1 with
    | false=>rfl
    | true=>exact(hS (h1.1 rfl)).elim
   have f2:q2=false:=by
    cases q2 with
    | false=>rfl
    | true=>exact(hS (h2.1 rfl)).elim
   subst f1 f2
   refine⟨([],2),G38 ?_,G38 ?_⟩
   ·unfold G2a
    exact Gy e1 (Hm (fun _=>Gn rfl) (fun h=>by cases h))
   ·unfold Y3
    exact Gy e2 (Hm (fun _=>Gn rfl) (fun h=>by cases h))
 obtain⟨r,er,eq⟩:=hboth
 obtain⟨n,en1,en2⟩:=lifts_both hl
 refine Gy er (Gy eq ?_)
 rw [Q4c,H63,decide_eq_true (rfl:r.2=r.2),Bool.and_self,cond_true,cond_true,en1,H63,en2,H63,decide_eq_true (rfl:n=n),Bool.and_self,cond_true,KeptMoves_eq (by omega),H63,Bool.and_self,cond_true,KeptShip_eq hs,H63]
 exact Gn rfl
theorem lawCalls (s:H8) (boxes:List H2) (before after:List G6) (hs:Hb9 s) (hb:∀ b∈boxes,0≤b.Size∧b.Size≤255) (l1:boxes.length≤1048576) (l2:before.length≤1048576) (l3:after.length≤1048576):G04 60 s boxes before after=some true:=by
 refine G38 ?_
 unfold G04
 refine H5 (wp_mono (few_spec s boxes) (fun r4 h4=>Hm (fun _=>Gy awake30 (Gn rfl)) (fun h=>?_)))
 simp only [Bool.or_eq_false_iff,decide_eq_false_iff_not,Bool.not_eq_false'] at h
 obtain⟨⟨g1,g2⟩,g3⟩:=h
 have hf:=h4 g1
 refine Gy (LentShip_eq hs) (Gy (LentBoxes_eq l1) (Gy (J24 l2) (Gy (J24 l3) ?_)))
 rw [plShip]
 obtain⟨r,e1,e2,hlen⟩:=call_both (F:=60) (by omega) hs hf hb (before:=before) (after:=after) (by omega) (by omega)
 refine Gy e1 (Gy e2 ?_)
 rw [Q4e,H63,decide_eq_true (rfl:r.2=r.2),Bool.and_self,cond_true,tasks_true (by omega) hs hlen,H63,Bool.and_self,cond_true,KeptBoxes_eq l1,H63,Bool.and_self,cond_true,J27 l2,H63,Bool.and_self,cond_true,J27 l3,H63,Bool.and_self,cond_true,awake30,H63]
 exact Gn rfl
end Go.Proofs.YteogacmpgdpjlaaGreat
