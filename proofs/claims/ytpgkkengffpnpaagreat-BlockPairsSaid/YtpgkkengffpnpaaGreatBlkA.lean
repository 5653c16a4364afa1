/-
 What the functions of the chapter on blocked boxes return,of the states that its statements make.
-/
import Derived.Test.YtpgkkengffpnpaaGreatPutN
set_option linter.unusedSimpArgs false
set_option linter.unnecessarySimpa false
set_option maxRecDepth 100000
set_option linter.unusedVariables false
namespace Go.Proofs.YtpgkkengffpnpaaGreat
open Go.RowKit

theorem lim_of_built {s:Gs} (h:BuiltOk s):LimOk s:=
 ⟨h.some,h.cols.len,fun c hc=>⟨c,0,h.cols.each c hc,.inl rfl,by rw [← (h.cols.each c hc).height]⟩,h.cols.nodup,h.covs⟩

theorem Loaded_upto {s:Gs} {l0:List Gn} (hs:Small s) (hl0:∀ d∈l0,H97 d) {most:Nat} (hmost:most≤10) :
  Wp (Ra s l0 (most:Int)) (fun r=>r.1=G4f (l0.take (min l0.length most))∧Yv s r.1 r.2∧r.2.length≤most):=by
 unfold Ra
 have hcols:=hs.cols
 refine H8 (H2c (m:=min l0.length most) (by omega) (by omega) ?_)
 have hlen:(l0.take (min l0.length most)).length≤most:=by rw [List.length_take]; omega
 have hl:∀ d∈l0.take (min l0.length most),H97 d:=fun d hd=>hl0 d (List.mem_of_mem_take hd)
 generalize l0.take (min l0.length most)=l at hlen hl
 refine wp_mono (Q':=fun r=>r.1=G4f l∧Yv s (G4f l) r.2∧r.2.length≤l.length) ?_ (fun r hr=>⟨hr.1,by rw [hr.1]; exact hr.2.1,by omega⟩)
 refine Qc (fun pre st=>st.2=G4f pre∧Yv s (G4f pre) st.1∧st.1.length≤pre.length) ⟨rfl,J58,Nat.le_refl _⟩ (fun pre y post st nx e hI hnx=>?_) (fun st hI=>Gj hI)
 obtain⟨h1,h2,h3⟩:=hI
 obtain⟨⟨c1,c2⟩,⟨k1,k2⟩⟩:=hl y (by rw [e]; simp)
 have hp:pre.length < most:=by rw [e] at hlen; simp only [List.length_append,List.length_cons] at hlen; omega
 have hbl:=J72 pre
 have hb1:st.2.length≤most:=by rw [h1]; omega
 refine G84 (fun j=>j.2=G4f (pre++[y])∧Yv s (G4f (pre++[y])) j.1∧j.1.length≤(pre++[y]).length) (fun K hK=>?_) (fun j hj=>hnx _ hj)
 refine Qp ⟨by omega,by omega⟩ (Qp ⟨by omega,by omega⟩ (Qp ⟨by omega,by omega⟩ (Qp ⟨by omega,by omega⟩ ?_)))
 refine G84 (fun j17=>j17=Gf7 (strip y)) (fun K' hK'=>Hs (fun h=>hK' _ ?_) (fun h=>hK' _ ?_)) (fun j17 h17=>?_)
 ·unfold Gf7 strip; simp only [h,cond_true]
 ·unfold Gf7 strip; simp only [h,cond_false]
 subst h17
 have hbox:st.2++[Ga.mk (5*((pre.length+1:Nat):Int)) ByteArray.empty (Gf7 (strip y)).1 (Gf7 (strip y)).2 (1000+100*y.Kilos) 0 1 0 false]=G4f (pre++[y]):=by
  rw [J06,h1]; rfl
 rw [hbox]
 refine Ym (G96 (by rw [List.length_singleton]; omega) (by omega)) ?_
 refine H8 (wp_mono (slot_all hs _) (fun r22 h22=>?_))
 have hmore:Yv s (G4f (pre++[y])) st.1:=by rw [J06]; exact rightP_more h2
 refine Qc (fun _ s49=>s49=st.1) rfl (fun pre2 x post2 s49 nx2 e2 hJ hnx2=>?_) (fun s49 hJ=>hK _ ⟨rfl,by rw [hJ]; exact hmore,by rw [hJ,List.length_append,List.length_singleton]; show st.1.length≤_; omega⟩)
 subst hJ
 simp only [List.nil_append]
 refine Ym (G96 (by simp only [List.length_nil]; omega) (by omega)) (Ym (G96 (by rw [List.length_singleton]; omega) (by omega)) (Qp ⟨by omega,by omega⟩ (H8 (J20 (by omega) ?_))))
 by_cases hc:x.G4=y.G4.tmod (s.Columns.length:Int)
 ·rw [decide_eq_true hc]
  simp only [cond_true,Bool.true_and]
  refine H8 (wp_mono (H12 hs.right hs.tier (by simp only [List.length_append,List.length_singleton]; omega)) (fun v hv=>Hs (fun h=>hK _ ⟨rfl,hv.1 h,?_⟩) (fun h=>hnx2 _ rfl)))
  simp only [List.length_append,List.length_singleton]; omega
 ·rw [decide_eq_false hc]
  simp only [cond_false,Bool.false_and]
  exact H8 (Gj (hnx2 _ rfl))

/-! ### Boxes with a call at which they leave -/
def disOf (b:Ga):Int:=1+(b.Kilos.tdiv 100).tmod 4
def J54 (b:Ga):Ga:=Ga.mk b.ID b.Number b.Size b.High b.Kilos b.Load (disOf b) b.Class b.Reefer
theorem find_setD (boxes:List Ga) (id:Int):Rf (boxes.map J54) id=(Rf boxes id).map J54:=by
 unfold Rf
 induction boxes with
 | nil=>rfl
 | cons b r ih=>
  rw [List.map_cons,List.find?_cons,List.find?_cons]
  show (match decide (b.ID=id) with | true=>some (J54 b) | false=>_)=_
  cases decide (b.ID=id) with
  | true=>rfl
  | false=>exact ih
theorem J00 (boxes:List Ga) (m half:Int):∀ (l:List Stowed) (n:Int),l.foldl (G51 (boxes.map J54) m half) n=l.foldl (G51 boxes m half) n:=by
 intro l
 induction l with
 | nil=>intro n; rfl
 | cons x r ih=>
  intro n
  have e:G51 (boxes.map J54) m half n x=G51 boxes m half n x:=by
   unfold G51
   rw [find_setD]
   cases Rf boxes x.Ga <;> rfl
  rw [List.foldl_cons,List.foldl_cons,e]
  exact ih _
theorem right_setD {s:Gs} {boxes:List Ga} {l:List Stowed} (h:Yv s boxes l):Yv s (boxes.map J54) l:=by
 refine⟨fun x hx=>?_,h.sorted,h.apart,fun m c hc=>?_⟩
 ·obtain⟨b,h1,h2⟩:=h.each x hx
  exact⟨J54 b,by rw [find_setD,h1]; rfl,h2⟩
 ·have:=h.fits m c hc
  unfold H7c G7b at this ⊢
  rw [J00,J00]
  exact this
theorem disOf_in {b:Ga} (h:0≤b.Kilos):1≤disOf b∧disOf b≤4:=by
 unfold disOf
 have h1:(0:Int)≤b.Kilos.tdiv 100:=Int.tdiv_nonneg h (by decide)
 rw [Int.tmod_eq_emod_of_nonneg h1]
 omega
/-- What Made makes. -/
structure MadeOk (most:Nat) (s:Gs) (boxes:List Ga) (l:List Stowed):Prop where
 sta:J79 s boxes l
 num:boxes.length≤most
 len:l.length≤most
 box:∀ b∈boxes,5≤b.ID∧b.ID≤5*(most:Int)∧(b.Size=20∨b.Size=40)∧1≤b.Discharge∧b.Discharge≤4
theorem mem_boxesL {l:List Gn} (hl:∀ d∈l,H97 d) {b:Ga} (h:b∈G4f l):5≤b.ID∧b.ID≤5*(l.length:Int)∧(b.Size=20∨b.Size=40)∧0≤b.Kilos∧b.Kilos≤100000:=by
 unfold G4f at h
 obtain⟨p,hp,rfl⟩:=List.mem_map.1 h
 obtain⟨t,i⟩:=p
 have hi:=List.mk_mem_zipIdx_iff_getElem?.1 hp
 have hlt:=(List.getElem?_eq_some_iff.1 hi).1
 rw [List.length_map] at hlt
 rw [List.getElem?_map] at hi
 obtain⟨d,hd,rfl⟩:=Option.map_eq_some_iff.1 hi
 obtain⟨k1,k2⟩:=(hl d (List.mem_of_getElem? hd)).kilos
 have hsz:(Gf7 (strip d)).1=20∨(Gf7 (strip d)).1=40:=by
  unfold Gf7
  cases (strip d).2.1 with
  | true=>exact .inl rfl
  | false=>exact .inr rfl
 refine⟨?_,?_,hsz,?_,?_⟩
 ·show (5:Int)≤5*((i+1:Nat):Int); omega
 ·show 5*((i+1:Nat):Int)≤_; omega
 ·show (0:Int)≤1000+100*d.Kilos; omega
 ·show (1000:Int)+100*d.Kilos≤100000; omega
theorem made_spec (l:List Gx) (covers:Int) (drops:List Gn) (hp:∀ p∈l,Hbd p) (hd:∀ x∈drops,H97 x) {most:Nat} (hmost:most≤10) :
  Wp (Jd l covers drops (most:Int)) (fun r=>MadeOk most r.1 r.2.1 r.2.2):=by
 unfold Jd
 refine H8 (wp_mono (built_spec l covers hp) (fun s hB=>?_))
 have hL:=lim_of_built hB
 refine H8 (wp_mono (Loaded_upto (G43 hL) hd hmost) (fun r5 h5=>?_))
 obtain⟨g1,g2,g3⟩:=h5
 have hdr:∀ d∈drops.take (min drops.length most),H97 d:=fun d hh=>hd d (List.mem_of_mem_take hh)
 have hdl:(drops.take (min drops.length most)).length≤most:=by rw [List.length_take]; omega
 have hbx:∀ b∈r5.1,5≤b.ID∧b.ID≤5*(most:Int)∧(b.Size=20∨b.Size=40)∧0≤b.Kilos∧b.Kilos≤100000:=fun b hb=>by
  have:=mem_boxesL hdr (by rw [← g1]; exact hb)
  omega
 have hbl:r5.1.length≤most:=by rw [g1,J72]; exact hdl
 refine Qc (fun pre t=>t=pre.map J54++r5.1.drop pre.length) (by simp) (fun pre y post t nx e hI hnx=>?_) (fun t hI=>Gj ?_)
 ·subst hI
  have hyk:=(hbx y (by rw [e]; simp)).2.2.2
  have hdrop:r5.1.drop pre.length=y::post:=by rw [e]; simp
  have hget:(pre.map J54++r5.1.drop pre.length)[pre.length]? = some y:=by rw [hdrop,List.getElem?_append_right (by simp)]; simp
  have hdis:=disOf_in (b:=y) hyk.1
  refine Y6 rfl hget (H8 (wp_quo (by decide) ⟨by omega,by omega⟩ (H8 (J20 (by decide) (Qp ?_ (Y6 rfl hget (hnx _ ?_)))))))
  ·show -9223372036854775808≤disOf y∧disOf y≤9223372036854775807
   omega
  ·show List.set _ _ (J54 y)=_
   rw [hdrop,show ((pre.length:Int)).toNat=pre.length by omega,List.set_append_right _ _ (by simp)]
   have:r5.1.drop (pre++[y]).length=post:=by rw [e]; simp
   rw [this]
   simp
 ·have hI:t=r5.1.map J54:=by rw [hI]; simp
  subst hI
  exact⟨⟨hL,right_setD g2,by show r5.2.length≤10; omega⟩,by rw [List.length_map]; exact hbl,g3,fun b hb=>by
   obtain⟨b0,hb0,rfl⟩:=List.mem_map.1 hb
   have h1:=hbx b0 hb0
   have h2:=disOf_in (b:=b0) h1.2.2.2.1
   exact⟨h1.1,h1.2.1,h1.2.2.1,h2.1,h2.2⟩⟩

/-! ### Who is in the way -/
/-- When a box leaves. -/
def Zg (boxes:List Ga) (id:Int):Int:=match Rf boxes id with
 | some b=>b.Discharge
 | none=>0
theorem H65 (boxes:List Ga) (id:Int):J4 boxes id=some (Zg boxes id):=by
 unfold J4 Zg
 rw [H55]
 cases Rf boxes id <;> rfl
theorem J64 (boxes:List Ga) (id:Int):Jz boxes id=some (Zg boxes id):=by
 refine G23 ?_
 unfold Jz
 refine Qc (fun pre _=>∀ b∈pre,b.ID≠id) (fun b hb=>(List.not_mem_nil hb).elim) (fun pre y post u nx e hI hnx=>Hs (fun h=>Gj ?_) (fun h=>hnx _ (Yp (P:=fun b:Ga=>b.ID≠id) hI (of_decide_eq_false h)))) (fun u hI=>Gj ?_)
 ·have h:=of_decide_eq_true h
  have:Rf boxes id=some y:=by
   unfold Rf
   rw [e,List.find?_append,List.find?_cons,decide_eq_true h]
   have:pre.find? (fun b=>decide (b.ID=id))=none:=List.find?_eq_none.2 fun b hb hh=>hI b hb (of_decide_eq_true hh)
   rw [this]; rfl
  unfold Zg
  rw [this]
 ·have:Rf boxes id=none:=by
   unfold Rf
   exact List.find?_eq_none.2 fun b hb hh=>hI b hb (of_decide_eq_true hh)
  unfold Zg
  rw [this]
theorem law_holds (l:List Int) (n:Int):M_twistlocklaw22_holds l n=some (decide (n∈l)):=by
 refine G23 ?_
 unfold M_twistlocklaw22_holds
 refine Qc (fun pre _=>n ∉ pre) (fun h=>(List.not_mem_nil h).elim) (fun pre y post u nx e hI hnx=>Hs (fun h=>Gj ?_) (fun h=>hnx _ ?_)) (fun u hI=>Gj (decide_eq_false hI).symm)
 ·have h:=of_decide_eq_true h
  exact(decide_eq_true (by rw [e,h]; simp)).symm
 ·have h:=of_decide_eq_false h
  rw [List.mem_append,List.mem_singleton]
  exact fun hh=>hh.elim hI (fun e=>h e.symm)
/-- What has to be lifted with some boxes. -/
def J1b (s:Gs) (l:List Stowed) (ids:List Int) (b:Int):Prop:=∀ C:Int→Prop,(∀ a b,C a→Pl s l a b→C b)→(∀ a∈ids,C a)→C b
theorem G15.iff {s:Gs} {l:List Stowed} {ids r:List Int} (h:G15 s l ids r) {b:Int}:b∈r ↔ J1b s l ids b:=
 ⟨fun hb C h1 h2=>h.least C h1 h2 b hb,fun hb=>hb (·∈r) (fun a b ha hp=>h.closed a ha b hp) h.seeds⟩
theorem J1b.one {s:Gs} {l:List Stowed} {ids:List Int} {b:Int}:J1b s l ids b ↔ ∃ a∈ids,J1b s l [a] b:=by
 constructor
 ·intro h
  refine h (fun b=>∃ a∈ids,J1b s l [a] b) (fun a b ⟨c,hc,hr⟩ hp=>⟨c,hc,fun C h1 h2=>h1 a b (hr C h1 h2) hp⟩) (fun a ha=>⟨a,ha,fun C _ h2=>h2 a (by simp)⟩)
 ·rintro⟨a,ha,h⟩ C h1 h2
  exact h C h1 (fun b hb=>by rw [List.mem_singleton] at hb; rw [hb]; exact h2 a ha)
theorem J1b.step {s:Gs} {l:List Stowed} {ids:List Int} {a b:Int} (h:J1b s l ids a) (hp:Pl s l a b):J1b s l ids b:=fun C h1 h2=>h1 a b (h C h1 h2) hp
theorem J1b.Y5 {s:Gs} {l:List Stowed} {ids:List Int} {b:Int} (h:J1b s l ids b) (hi:∀ a∈ids,a∈l.map (·.Ga)):b∈l.map (·.Ga):=
 h (·∈l.map (·.Ga)) (fun a b _ hp=>by
  obtain⟨x,_,_,y,hy,e,_⟩:=hp
  exact List.mem_map.2 ⟨y,hy,e⟩) hi
open Classical in
/-- The boxes that a box is in the way of. -/
noncomputable def Gb9 (s:Gs) (boxes:List Ga) (l:List Stowed) (id:Int):List Int:=
 (l.filter (fun x=>decide (x.Ga≠id∧Zg boxes x.Ga < Zg boxes id∧J1b s l [x.Ga] id))).map (·.Ga)
theorem J5f {s:Gs} {boxes:List Ga} {l:List Stowed} {id b:Int}:b∈Gb9 s boxes l id ↔ b∈l.map (·.Ga)∧b≠id∧Zg boxes b < Zg boxes id∧J1b s l [b] id:=by
 unfold Gb9
 simp only [List.mem_map,List.mem_filter,decide_eq_true_eq]
 constructor
 ·rintro⟨x,⟨hx,h⟩,rfl⟩
  exact⟨⟨x,hx,rfl⟩,h⟩
 ·rintro⟨⟨x,hx,rfl⟩,h⟩
  exact⟨x,⟨hx,h⟩,rfl⟩
theorem blkL_sorted {s:Gs} {boxes:List Ga} {l:List Stowed} (h:l.Pairwise (fun a b=>a.Ga < b.Ga)) (id:Int):(Gb9 s boxes l id).Pairwise (· < ·):=by
 unfold Gb9
 exact List.pairwise_map.2 (h.sublist List.filter_sublist)
theorem blkL_len {s:Gs} {boxes:List Ga} {l:List Stowed} (id:Int):(Gb9 s boxes l id).length≤l.length:=by
 unfold Gb9
 rw [List.length_map]
 exact List.length_filter_le _ _
theorem J79.rightM {s:Gs} {boxes:List Ga} {l:List Stowed} (h:J79 s boxes l):Q2 s boxes l=some true:=by
 have hl:=h.len
 exact G23 (wp_mono (H12 (G43 h.ship).right (G43 h.ship).tier (by omega)) (fun r hr=>hr.2 h.right))
theorem block_on (l:List Stowed) (id:Int):G91 l id=some (decide (id∈l.map (·.Ga))):=by
 have h:=H02 (p:=fun y:Stowed=>decide (y.Ga=id)) (f:=fun z0=>G4a z0 id) (xs:=l) (fun y _=>rfl)
 have e:Q1 l (fun z0=>G4a z0 id)=some (Hb6 (fun y:Stowed=>decide (y.Ga=id)) l):=h
 unfold G91 Jq
 refine G23 (H8 (H6 e (Gj (Gj ?_))))
 rw [Ge9,Bool.eq_iff_iff,List.any_eq_true,decide_eq_true_eq,List.mem_map]
 exact⟨fun⟨y,hy,h⟩=>⟨y,hy,of_decide_eq_true h⟩,fun⟨y,hy,h⟩=>⟨y,hy,decide_eq_true h⟩⟩
theorem J73 {F:Nat} {s:Gs} {boxes:List Ga} {l:List Stowed} (h:J79 s boxes l) (hF:40≤F) {x:Stowed} (hx:x∈l) (d id:Int) :
  Wp (Yr F x.Ga s boxes l d id) (fun r=>r=true ↔ Zg boxes x.Ga < d∧J1b s l [x.Ga] id):=by
 unfold Yr
 refine H8 (wp_mono (h.reach hF (fun a ha=>by rw [List.mem_singleton] at ha; rw [ha]; exact List.mem_map.2 ⟨x,hx,rfl⟩)) (fun r hr=>H6 (H65 boxes x.Ga) ?_))
 by_cases hd:Zg boxes x.Ga < d
 ·rw [decide_eq_true hd]
  simp only [cond_true,Bool.true_and]
  refine H6 (Gb6 _ _) (Gj ?_)
  rw [Gb7,hr.2.iff]
  exact⟨fun h=>⟨hd,h⟩,fun h=>h.2⟩
 ·rw [decide_eq_false hd]
  exact H8 (Gj (Gj (G8c fun h=>hd h.1)))
theorem blocked_spec {F:Nat} {s:Gs} {boxes:List Ga} {l:List Stowed} (h:J79 s boxes l) (hF:40≤F) (id:Int):Zi F s boxes l id=some (Gb9 s boxes l id):=by
 have hl:=h.len
 refine G23 ?_
 unfold Zi
 refine H6 (H65 boxes id) ?_
 unfold Gb9
 classical
 refine Qc (fun pre r=>r=(pre.filter (fun x=>decide (x.Ga≠id∧Zg boxes x.Ga < Zg boxes id∧J1b s l [x.Ga] id))).map (·.Ga)) rfl (fun pre y post r nx e hI hnx=>?_) (fun r hI=>Gj hI)
 have hy:y∈l:=by rw [e]; simp
 have hpl:pre.length < l.length:=by rw [e]; simp
 have hrl:r.length≤pre.length:=by rw [hI,List.length_map]; exact List.length_filter_le _ _
 have key:∀ b:Bool,(b=true ↔ y.Ga≠id∧Zg boxes y.Ga < Zg boxes id∧J1b s l [y.Ga] id)→(pre++[y]).filter (fun x=>decide (x.Ga≠id∧Zg boxes x.Ga < Zg boxes id∧J1b s l [x.Ga] id))=pre.filter (fun x=>decide (x.Ga≠id∧Zg boxes x.Ga < Zg boxes id∧J1b s l [x.Ga] id))++(if b=true then [y] else []):=fun b hb=>by
  rw [List.filter_append]
  congr 1
  by_cases hbt:b=true
  ·rw [if_pos hbt,List.filter_cons,if_pos (decide_eq_true (hb.1 hbt))]; rfl
  ·rw [if_neg hbt,List.filter_cons,if_neg (fun hh=>hbt (hb.2 (of_decide_eq_true hh)))]; rfl
 refine G84 (fun j=>j=((pre++[y]).filter (fun x=>decide (x.Ga≠id∧Zg boxes x.Ga < Zg boxes id∧J1b s l [x.Ga] id))).map (·.Ga)) (fun K hK=>?_) (fun j hj=>hnx _ hj)
 have hr:Wp (bif decide (y.Ga≠id) then Yr F y.Ga s boxes l (Zg boxes id) id else some default) (fun b=>((decide (y.Ga≠id))&&b)=true ↔ y.Ga≠id∧Zg boxes y.Ga < Zg boxes id∧J1b s l [y.Ga] id):=by
  by_cases hne:y.Ga≠id
  ·rw [decide_eq_true hne]
   simp only [cond_true,Bool.true_and]
   exact wp_mono (J73 h hF hy _ _) (fun b hb=>by rw [hb]; exact⟨fun h=>⟨hne,h⟩,fun h=>h.2⟩)
  ·rw [decide_eq_false hne]
   exact Gj (G8c fun h=>hne h.1)
 refine H8 (wp_mono hr (fun b hb=>Hs (fun hh=>Ym (room8L (by rw [List.length_singleton]; omega)) (hK _ ?_)) (fun hh=>hK _ ?_)))
 ·rw [key _ hb,if_pos hh,List.map_append,hI]; rfl
 ·rw [key _ hb,if_neg (by rw [hh]; decide),List.append_nil,hI]
theorem Blocked_spec {F:Nat} {s:Gs} {boxes:List Ga} {l:List Stowed} (h:J79 s boxes l) (hF:40≤F) {x:Stowed} (hx:x∈l):Jp F s boxes l x.Ga=some (Gb9 s boxes l x.Ga,0):=by
 refine G23 ?_
 unfold Jp
 refine H6 h.rightM (Hs (fun h=>by cases h) (fun _=>H6 (block_on l x.Ga) ?_))
 rw [decide_eq_true (List.mem_map.2 ⟨x,hx,rfl⟩)]
 exact Hs (fun h=>by cases h) (fun _=>H6 (blocked_spec h hF x.Ga) (Gj rfl))
theorem Blockers_spec {F:Nat} {s:Gs} {boxes:List Ga} {l:List Stowed} (h:J79 s boxes l) (hF:40≤F) :
  Wp (Qw F s boxes l) (fun r=>r.2=0∧r.1.Pairwise (· < ·)∧∀ id,id∈r.1 ↔ ∃ x∈l,Zg boxes x.Ga < Zg boxes id∧J1b s l [x.Ga] id):=by
 have hl:=h.len
 unfold Qw
 refine H6 h.rightM (Hs (fun h=>by cases h) (fun _=>?_))
 refine Qc (fun pre m=>∃ L:List Int,H5.l m=tally L∧L.length≤pre.length*10∧∀ id,id∈L ↔ ∃ x∈pre,Zg boxes x.Ga < Zg boxes id∧J1b s l [x.Ga] id) ⟨[],rfl,by simp,fun id=>⟨fun h=>(List.not_mem_nil h).elim,fun⟨x,hx,_⟩=>(List.not_mem_nil hx).elim⟩⟩ (fun pre y post m nx e hI hnx=>?_) (fun m hI=>?_)
 ·obtain⟨L,hL,hLl,hLm⟩:=hI
  have hy:y∈l:=by rw [e]; simp
  have hpl:pre.length < l.length:=by rw [e]; simp
  have hyi:∀ a∈[y.Ga],a∈l.map (·.Ga):=fun a ha=>by rw [List.mem_singleton] at ha; rw [ha]; exact List.mem_map.2 ⟨y,hy,rfl⟩
  refine H8 (wp_mono (h.reach hF hyi) (fun r hr=>?_))
  have hrl:=hr.2.len hyi
  refine Qc (fun pr m=>∃ L2:List Int,H5.l m=tally (L++L2)∧L2.length≤pr.length∧∀ id,id∈L2 ↔ id∈pr∧Zg boxes y.Ga < Zg boxes id) ⟨[],by rw [List.append_nil]; exact hL,Nat.le_refl _,fun id=>⟨fun h=>(List.not_mem_nil h).elim,fun h=>(List.not_mem_nil h.1).elim⟩⟩ (fun pr z po m nx2 e2 hJ hnx2=>?_) (fun m hJ=>?_)
  ·obtain⟨L2,j1,j2,j3⟩:=hJ
   have hprl:pr.length < r.1.length:=by rw [e2]; simp
   refine G84 (fun m=>∃ L2:List Int,H5.l m=tally (L++L2)∧L2.length≤(pr++[z]).length∧∀ id,id∈L2 ↔ id∈pr++[z]∧Zg boxes y.Ga < Zg boxes id) (fun K hK=>?_) (fun j hj=>hnx2 _ hj)
   refine H6 (H65 boxes z) (H6 (H65 boxes y.Ga) (Hs (fun hh=>?_) (fun hh=>hK _ ⟨L2,j1,?_,fun id=>?_⟩)))
   ·have hh:=of_decide_eq_true hh
    have hb:=get_b j1 z
    rw [List.length_append] at hb
    refine H8 (Gj (Qp ⟨by omega,by omega⟩ (hK _ ⟨L2++[z],?_,?_,fun id=>?_⟩)))
    ·rw [← List.append_assoc]; exact put_l j1 z
    ·simp only [List.length_append,List.length_singleton]; omega
    ·rw [List.mem_append,List.mem_append,j3,List.mem_singleton]
     constructor
     ·rintro(⟨a,b⟩ | rfl)
      ·exact⟨.inl a,b⟩
      ·exact⟨.inr rfl,hh⟩
     ·rintro⟨a | a,b⟩
      ·exact .inl ⟨a,b⟩
      ·exact .inr a
   ·simp only [List.length_append,List.length_singleton]; omega
   ·have hh:=of_decide_eq_false hh
    rw [j3,List.mem_append,List.mem_singleton]
    constructor
    ·exact fun⟨a,b⟩=>⟨.inl a,b⟩
    ·rintro⟨a | rfl,b⟩
     ·exact⟨a,b⟩
     ·exact(hh b).elim
  ·obtain⟨L2,j1,j2,j3⟩:=hJ
   refine hnx _ ⟨L++L2,j1,?_,fun id=>?_⟩
   ·simp only [List.length_append,List.length_singleton]; omega
   ·rw [List.mem_append,hLm,j3,hr.2.iff]
    constructor
    ·rintro(⟨x,hx,h⟩ | ⟨h1,h2⟩)
     ·exact⟨x,List.mem_append.2 (.inl hx),h⟩
     ·exact⟨y,by simp,h2,h1⟩
    ·rintro⟨x,hx,h⟩
     rcases List.mem_append.1 hx with hx | hx
     ·exact .inl ⟨x,hx,h⟩
     ·rw [List.mem_singleton] at hx; subst hx
      exact .inr ⟨h.2,h.1⟩
 ·obtain⟨L,hL,hLl,hLm⟩:=hI
  have hn:((H5.l m).map (·.1)).Nodup:=by rw [hL]; exact Hf2 L
  have hmk:∀ a,a∈(H5.l m).map (·.1) ↔ a∈L:=fun a=>by rw [hL]; exact⟨tally_sub L a,tally_sup L a⟩
  have hkl:(H5.l m).length≤L.length:=by
   have:=hn.length_le_of_subset (fun a ha=>(hmk a).1 ha)
   rwa [List.length_map] at this
  have hse:G30 ((H5.l m).map (·.1))=some (G24 ((H5.l m).map (·.1))):=by
   unfold G30
   rw [decide_eq_true (show ((H5.l m).map (·.1)).length < 4611686018427387904 by rw [List.length_map]; omega)]
   rfl
  have hpm:=G62 ((H5.l m).map (·.1))
  refine Ym (decide_eq_true ⟨by omega,by simp only [maxLen]; omega⟩) (H6 hse (Gj ⟨rfl,?_,fun id=>?_⟩))
  ·have hnd:(G24 ((H5.l m).map (·.1))).Nodup:=hpm.nodup_iff.2 hn
   exact(List.pairwise_and_iff.2 ⟨G40 _,hnd⟩).imp (fun {a b} h=>by have h1:=h.1; have h2:=h.2; omega)
  ·show id∈G24 _ ↔ _
   rw [hpm.mem_iff,hmk,hLm]
end Go.Proofs.YtpgkkengffpnpaaGreat
