/-
 PlanLifts: the law.
-/
import Derived.Test.YtfkilljboodoaaaGreatLawT
set_option maxRecDepth 100000
set_option linter.unusedVariables false
namespace Go.Proofs.YtfkilljboodoaaaGreat
open Go.RowKit

theorem awake23:Y2 60=some true:=by kernel_rfl
structure FewR (s:Hb) (boxes:List Gv):Prop where
 cols:s.Columns.length≤12
 covs:s.Covers.length≤12
 boxes:boxes.length≤30
 col:∀ c∈s.Columns,c.Plugs.length≤12∧c.Tiers≤10
 cov:∀ x∈s.Covers,x.Rows.length≤12
theorem few_spec (s:Hb) (boxes:List Gv):Wp (Zv s boxes) (fun r=>r=true→FewR s boxes):=by
 unfold Zv
 refine Jg (fun h=>Gi (fun h=>Bool.noConfusion h)) (fun h=>?_)
 simp only [Bool.or_eq_false_iff,decide_eq_false_iff_not] at h
 obtain⟨⟨h1,h2⟩,h3⟩:=h
 refine Qg (fun pre _=>∀ c∈pre,c.Plugs.length≤12∧c.Tiers≤10) (fun c hc=>(List.not_mem_nil hc).elim) (fun pre y post u nx e hI hnx=>Jg (fun h=>Gi (fun h=>Bool.noConfusion h)) (fun h=>hnx _ (Qo (P:=fun c:G4=>c.Plugs.length≤12∧c.Tiers≤10) hI ?_))) (fun u hI=>?_)
 ·simp only [Bool.or_eq_false_iff,decide_eq_false_iff_not] at h; omega
 refine Qg (fun pre _=>∀ x∈pre,x.Rows.length≤12) (fun c hc=>(List.not_mem_nil hc).elim) (fun pre y post u nx e hI hnx=>Jg (fun h=>Gi (fun h=>Bool.noConfusion h)) (fun h=>hnx _ (Qo (P:=fun x:Gg=>x.Rows.length≤12) hI ?_))) (fun u hI2=>Gi (fun _=>⟨by omega,by omega,by omega,hI,hI2⟩))
 simp only [decide_eq_false_iff_not] at h; omega
theorem prog_lifted {F:Nat} {s:Hb} {boxes:List Gv} {before after:List G6} (hf:FewR s boxes) (h1:before.length≤14) (h2:after.length≤14) (hF:60≤F) :
  Wp (G2f F s boxes before after) (fun r=>(¬ (H35 s∧Zk s boxes before∧Zk s boxes after)∧r=([],2))∨(H35 s∧Zk s boxes before∧Zk s boxes after∧r.2=0∧r.1.Pairwise (· < ·)∧H93 s before after r.1)):=by
 have hp:∀ c∈s.Columns,c.Plugs.length≤1048576:=fun c hc=>by have:=(hf.col c hc).1; omega
 have hr:∀ x∈s.Covers,x.Rows.length≤1048576:=fun x hx=>by have:=hf.cov x hx; omega
 unfold G2f
 refine H6 (wp_mono (prog_stow (boxes:=boxes) (l:=before) hp hr (by omega)) (fun r4 h4=>?_))
 cases r4 with
 | false=>
  refine H6 (Gi (Gi (.inl ⟨fun h=>?_,rfl⟩)))
  have:=h4.2 ⟨h.1,h.2.1⟩; cases this
 | true=>
  have hR:=h4.1 rfl
  simp only [Bool.not_true,Bool.not_false,cond_true,Bool.false_or]
  refine H6 (wp_mono (prog_stow (boxes:=boxes) (l:=after) hp hr (by omega)) (fun r5 h5=>Jg (fun h=>Gi (.inl ⟨fun hh=>?_,rfl⟩)) (fun h=>?_)))
  ·rw [h5.2 ⟨hh.1,hh.2.2⟩] at h; cases h
  have hR2:Zk s boxes after:=by
   cases r5 with
   | true=>exact(h5.1 rfl).2
   | false=>cases h
  clear h h4 h5
  obtain⟨hS,hR1⟩:=hR
  obtain⟨r,er,hs⟩:=J6b s hp hr
  have hsm:Small s:=⟨er.trans (congrArg some (hs.2 hS)),⟨hS.num.1,by have:=hf.cols; omega⟩,fun c hc=>by have:=(hf.col c hc).2; omega,by have:=hf.covs; omega,fun x hx=>by have:=hf.cov x hx; omega⟩
  have hok:=states_ok hsm hR1 hR2 (by omega) (by omega)
  exact H6 (wp_mono (lifted_full hok (F:=F) (by simp only [List.length_append,List.length_map]; omega)) (fun r hr=>Gi (.inr ⟨hS,hR1,hR2,rfl,hr.1,hr.2.2⟩)))
theorem lawLiftsF {F:Nat} (hF:60≤F) (hA:Y2 F=some true) (s:Hb) (boxes:List Gv) (before after:List G6) (hs:Ha9 s) (hb:∀ b∈boxes,0≤b.Size∧b.Size≤255) (l1:boxes.length≤1048576) (l2:before.length≤1048576) (l3:after.length≤1048576):Rs F s boxes before after=some true:=by
 refine G6b ?_
 unfold Rs
 refine H6 (wp_mono (few_spec s boxes) (fun r4 h4=>Jg (fun _=>H5 hA (Gi rfl)) (fun h=>?_)))
 simp only [Bool.or_eq_false_iff,decide_eq_false_iff_not,Bool.not_eq_false'] at h
 obtain⟨⟨g1,g2⟩,g3⟩:=h
 have hf:=h4 g1
 refine H5 (LentShip_eq hs) (H5 (LentBoxes_eq l1) (H5 (H91 l2) (H5 (H91 l3) ?_)))
 rw [plShip]
 refine H6 (wp_mono (prog_lifted hf (before:=before) (after:=after) (by omega) (by omega) hF) (fun r13 h13=>H6 (wp_mono (ref_lifted (F:=F) (s:=s) (boxes:=boxes) (before:=before) (after:=after) hs.plugs hs.crows hb hf.boxes (by omega) (by omega) hF) (fun r15 h15=>?_))))
 have heq:r13=r15:=by
  rcases h13 with ⟨p1,p2⟩ | ⟨p1,p2,p3,p4,p5,p6⟩
  ·rcases h15 with ⟨q1,q2⟩ | ⟨q1,q2,q3,_⟩
   ·rw [p2,q2]
   ·exact(p1 ⟨q1,q2,q3⟩).elim
  ·rcases h15 with ⟨q1,q2⟩ | ⟨q1,q2,q3,q4,q5,q6⟩
   ·exact(q1 ⟨p1,p2,p3⟩).elim
   ·exact Prod.ext (eq_of_sorted p5 q5 (fun x=>⟨fun h=>p6.least (·∈r15.1) (fun a b ha hp=>q6.closed a ha b hp) q6.seeds x h,fun h=>q6.least (·∈r13.1) (fun a b ha hp=>p6.closed a ha b hp) p6.seeds x h⟩)) (p4.trans q4.symm)
 rw [heq,Gb0]
 refine H6 (Gi ?_)
 rw [decide_eq_true (rfl:r15.2=r15.2),Bool.and_self,cond_true,KeptShip_eq hs,H8b,Bool.and_self,cond_true,KeptBoxes_eq l1,H8b,Bool.and_self,cond_true,H94 l2,H8b,Bool.and_self,cond_true,H94 l3,H8b,Bool.and_self,cond_true,hA,H8b]
 exact Gi rfl
theorem lawLifts (s:Hb) (boxes:List Gv) (before after:List G6) (hs:Ha9 s) (hb:∀ b∈boxes,0≤b.Size∧b.Size≤255) (l1:boxes.length≤1048576) (l2:before.length≤1048576) (l3:after.length≤1048576):Rs 60 s boxes before after=some true:=
 lawLiftsF (by omega) awake23 s boxes before after hs hb l1 l2 l3
end Go.Proofs.YtfkilljboodoaaaGreat
