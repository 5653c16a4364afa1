/-
 What the functions of the chapter on blocked boxes return,of the states that its statements make.
-/
import Derived.Test.YtpgkkengffpnpaaGreatPutN
set_option linter.unusedSimpArgs false
set_option linter.unnecessarySimpa false
set_option maxRecDepth 100000
set_option linter.unusedVariables false
namespace Go.Proofs.YtpgkkengffpnpaaGreat
open Go.RowKit

theorem lim_of_built {s:Gr} (h:BuiltOk s):LimOk s:=
 ⟨h.some,h.cols.len,fun c hc=>⟨c,0,h.cols.each c hc,.inl rfl,by rw [← (h.cols.each c hc).height]⟩,h.cols.nodup,h.covs⟩

theorem Loaded_upto {s:Gr} {l0:List Gk} (hs:Small s) (hl0:∀ d∈l0,Ge1 d) {most:Nat} (hmost:most≤10) :
  Wp (Re s l0 (most:Int)) (fun r=>r.1=G51 (l0.take (min l0.length most))∧Y2 s r.1 r.2∧r.2.length≤most):=by
 unfold Re
 have hcols:=hs.cols
 refine H7 (H34 (m:=min l0.length most) (by omega) (by omega) ?_)
 have hlen:(l0.take (min l0.length most)).length≤most:=by rw [List.length_take]; omega
 have hl:∀ d∈l0.take (min l0.length most),Ge1 d:=fun d hd=>hl0 d (List.mem_of_mem_take hd)
 generalize l0.take (min l0.length most)=l at hlen hl
 refine wp_mono (Q':=fun r=>r.1=G51 l∧Y2 s (G51 l) r.2∧r.2.length≤l.length) ?_ (fun r hr=>⟨hr.1,by rw [hr.1]; exact hr.2.1,by omega⟩)
 refine Jm (fun pre st=>st.2=G51 pre∧Y2 s (G51 pre) st.1∧st.1.length≤pre.length) ⟨rfl,J63,Nat.le_refl _⟩ (fun pre y post st nx e hI hnx=>?_) (fun st hI=>Gh hI)
 obtain⟨h1,h2,h3⟩:=hI
 obtain⟨⟨c1,c2⟩,⟨k1,k2⟩⟩:=hl y (by rw [e]; simp)
 have hp:pre.length < most:=by rw [e] at hlen; simp only [List.length_append,List.length_cons] at hlen; omega
 have hbl:=J7b pre
 have hb1:st.2.length≤most:=by rw [h1]; omega
 refine G25 (fun j=>j.2=G51 (pre++[y])∧Y2 s (G51 (pre++[y])) j.1∧j.1.length≤(pre++[y]).length) (fun K hK=>?_) (fun j hj=>hnx _ hj)
 refine Qg ⟨by omega,by omega⟩ (Qg ⟨by omega,by omega⟩ (Qg ⟨by omega,by omega⟩ (Qg ⟨by omega,by omega⟩ ?_)))
 refine G25 (fun j17=>j17=Gfc (strip y)) (fun K' hK'=>Hf (fun h=>hK' _ ?_) (fun h=>hK' _ ?_)) (fun j17 h17=>?_)
 ·unfold Gfc strip; simp only [h,cond_true]
 ·unfold Gfc strip; simp only [h,cond_false]
 subst h17
 have hbox:st.2++[G9.mk (5*((pre.length+1:Nat):Int)) ByteArray.empty (Gfc (strip y)).1 (Gfc (strip y)).2 (1000+100*y.Kilos) 0 1 0 false]=G51 (pre++[y]):=by
  rw [J10,h1]; rfl
 rw [hbox]
 refine Rq (G99 (by rw [List.length_singleton]; omega) (by omega)) ?_
 refine H7 (wp_mono (slot_all hs _) (fun r22 h22=>?_))
 have hmore:Y2 s (G51 (pre++[y])) st.1:=by rw [J10]; exact rightP_more h2
 refine Jm (fun _ s49=>s49=st.1) rfl (fun pre2 x post2 s49 nx2 e2 hJ hnx2=>?_) (fun s49 hJ=>hK _ ⟨rfl,by rw [hJ]; exact hmore,by rw [hJ,List.length_append,List.length_singleton]; show st.1.length≤_; omega⟩)
 subst hJ
 simp only [List.nil_append]
 refine Rq (G99 (by simp only [List.length_nil]; omega) (by omega)) (Rq (G99 (by rw [List.length_singleton]; omega) (by omega)) (Qg ⟨by omega,by omega⟩ (H7 (J2b (by omega) ?_))))
 by_cases hc:x.G4=y.G4.tmod (s.Columns.length:Int)
 ·rw [decide_eq_true hc]
  simp only [cond_true,Bool.true_and]
  refine H7 (wp_mono (H18 hs.right hs.tier (by simp only [List.length_append,List.length_singleton]; omega)) (fun v hv=>Hf (fun h=>hK _ ⟨rfl,hv.1 h,?_⟩) (fun h=>hnx2 _ rfl)))
  simp only [List.length_append,List.length_singleton]; omega
 ·rw [decide_eq_false hc]
  simp only [cond_false,Bool.false_and]
  exact H7 (Gh (hnx2 _ rfl))

/-! ### Boxes with a call at which they leave -/
def disOf (b:G9):Int:=1+(b.Kilos.tdiv 100).tmod 4
def J5f (b:G9):G9:=G9.mk b.ID b.Number b.Size b.High b.Kilos b.Load (disOf b) b.Class b.Reefer
theorem find_setD (boxes:List G9) (id:Int):Ri (boxes.map J5f) id=(Ri boxes id).map J5f:=by
 unfold Ri
 induction boxes with
 | nil=>rfl
 | cons b r ih=>
  rw [List.map_cons,List.find?_cons,List.find?_cons]
  show (match decide (b.ID=id) with | true=>some (J5f b) | false=>_)=_
  cases decide (b.ID=id) with
  | true=>rfl
  | false=>exact ih
theorem J0a (boxes:List G9) (m half:Int):∀ (l:List Stowed) (n:Int),l.foldl (G53 (boxes.map J5f) m half) n=l.foldl (G53 boxes m half) n:=by
 intro l
 induction l with
 | nil=>intro n; rfl
 | cons x r ih=>
  intro n
  have e:G53 (boxes.map J5f) m half n x=G53 boxes m half n x:=by
   unfold G53
   rw [find_setD]
   cases Ri boxes x.G9 <;> rfl
  rw [List.foldl_cons,List.foldl_cons,e]
  exact ih _
theorem right_setD {s:Gr} {boxes:List G9} {l:List Stowed} (h:Y2 s boxes l):Y2 s (boxes.map J5f) l:=by
 refine⟨fun x hx=>?_,h.sorted,h.apart,fun m c hc=>?_⟩
 ·obtain⟨b,h1,h2⟩:=h.each x hx
  exact⟨J5f b,by rw [find_setD,h1]; rfl,h2⟩
 ·have:=h.fits m c hc
  unfold H55 G28 at this ⊢
  rw [J0a,J0a]
  exact this
theorem disOf_in {b:G9} (h:0≤b.Kilos):1≤disOf b∧disOf b≤4:=by
 unfold disOf
 have h1:(0:Int)≤b.Kilos.tdiv 100:=Int.tdiv_nonneg h (by decide)
 rw [Int.tmod_eq_emod_of_nonneg h1]
 omega
/-- What Made makes. -/
structure J86 (most:Nat) (s:Gr) (boxes:List G9) (l:List Stowed):Prop where
 sta:H9c s boxes l
 num:boxes.length≤most
 len:l.length≤most
 box:∀ b∈boxes,5≤b.ID∧b.ID≤5*(most:Int)∧(b.Size=20∨b.Size=40)∧1≤b.Discharge∧b.Discharge≤4
theorem mem_boxesL {l:List Gk} (hl:∀ d∈l,Ge1 d) {b:G9} (h:b∈G51 l):5≤b.ID∧b.ID≤5*(l.length:Int)∧(b.Size=20∨b.Size=40)∧0≤b.Kilos∧b.Kilos≤100000:=by
 unfold G51 at h
 obtain⟨p,hp,rfl⟩:=List.mem_map.1 h
 obtain⟨t,i⟩:=p
 have hi:=List.mk_mem_zipIdx_iff_getElem?.1 hp
 have hlt:=(List.getElem?_eq_some_iff.1 hi).1
 rw [List.length_map] at hlt
 rw [List.getElem?_map] at hi
 obtain⟨d,hd,rfl⟩:=Option.map_eq_some_iff.1 hi
 obtain⟨k1,k2⟩:=(hl d (List.mem_of_getElem? hd)).kilos
 have hsz:(Gfc (strip d)).1=20∨(Gfc (strip d)).1=40:=by
  unfold Gfc
  cases (strip d).2.1 with
  | true=>exact .inl rfl
  | false=>exact .inr rfl
 refine⟨?_,?_,hsz,?_,?_⟩
 ·show (5:Int)≤5*((i+1:Nat):Int); omega
 ·show 5*((i+1:Nat):Int)≤_; omega
 ·show (0:Int)≤1000+100*d.Kilos; omega
 ·show (1000:Int)+100*d.Kilos≤100000; omega
theorem He4 (l:List Gx) (covers:Int) (drops:List Gk) (hp:∀ p∈l,Gbe p) (hd:∀ x∈drops,Ge1 x) {most:Nat} (hmost:most≤10) :
  Wp (Je l covers drops (most:Int)) (fun r=>J86 most r.1 r.2.1 r.2.2):=by
 unfold Je
 refine H7 (wp_mono (built_spec l covers hp) (fun s hB=>?_))
 have hL:=lim_of_built hB
 refine H7 (wp_mono (Loaded_upto (G45 hL) hd hmost) (fun r5 h5=>?_))
 obtain⟨g1,g2,g3⟩:=h5
 have hdr:∀ d∈drops.take (min drops.length most),Ge1 d:=fun d hh=>hd d (List.mem_of_mem_take hh)
 have hdl:(drops.take (min drops.length most)).length≤most:=by rw [List.length_take]; omega
 have hbx:∀ b∈r5.1,5≤b.ID∧b.ID≤5*(most:Int)∧(b.Size=20∨b.Size=40)∧0≤b.Kilos∧b.Kilos≤100000:=fun b hb=>by
  have:=mem_boxesL hdr (by rw [← g1]; exact hb)
  omega
 have hbl:r5.1.length≤most:=by rw [g1,J7b]; exact hdl
 refine Jm (fun pre t=>t=pre.map J5f++r5.1.drop pre.length) (by simp) (fun pre y post t nx e hI hnx=>?_) (fun t hI=>Gh ?_)
 ·subst hI
  have hyk:=(hbx y (by rw [e]; simp)).2.2.2
  have hdrop:r5.1.drop pre.length=y::post:=by rw [e]; simp
  have hget:(pre.map J5f++r5.1.drop pre.length)[pre.length]? = some y:=by rw [hdrop,List.getElem?_append_right (by simp)]; simp
  have hdis:=disOf_in (b:=y) hyk.1
  refine Y3 rfl hget (H7 (wp_quo (by decide) ⟨by omega,by omega⟩ (H7 (J2b (by decide) (Qg ?_ (Y3 rfl hget (hnx _ ?_)))))))
  ·show -9223372036854775808≤disOf y∧disOf y≤9223372036854775807
   omega
  ·show List.set _ _ (J5f y)=_
   rw [hdrop,show ((pre.length:Int)).toNat=pre.length by omega,List.set_append_right _ _ (by simp)]
   have:r5.1.drop (pre++[y]).length=post:=by rw [e]; simp
   rw [this]
   simp
 ·have hI:t=r5.1.map J5f:=by rw [hI]; simp
  subst hI
  exact⟨⟨hL,right_setD g2,by show r5.2.length≤10; omega⟩,by rw [List.length_map]; exact hbl,g3,fun b hb=>by
   obtain⟨b0,hb0,rfl⟩:=List.mem_map.1 hb
   have h1:=hbx b0 hb0
   have h2:=disOf_in (b:=b0) h1.2.2.2.1
   exact⟨h1.1,h1.2.1,h1.2.2.1,h2.1,h2.2⟩⟩

/-! ### Who is in the way -/
/-- When a box leaves. -/
def Qy (boxes:List G9) (id:Int):Int:=match Ri boxes id with
 | some b=>b.Discharge
 | none=>0
theorem G69 (boxes:List G9) (id:Int):J5 boxes id=some (Qy boxes id):=by
 unfold J5 Qy
 rw [H5f]
 cases Ri boxes id <;> rfl
theorem law_holds (l:List Int) (n:Int):M_twistlocklaw22_holds l n=some (decide (n∈l)):=by
 refine G0c ?_
 unfold M_twistlocklaw22_holds
 refine Jm (fun pre _=>n ∉ pre) (fun h=>(List.not_mem_nil h).elim) (fun pre y post u nx e hI hnx=>Hf (fun h=>Gh ?_) (fun h=>hnx _ ?_)) (fun u hI=>Gh (decide_eq_false hI).symm)
 ·have h:=of_decide_eq_true h
  exact(decide_eq_true (by rw [e,h]; simp)).symm
 ·have h:=of_decide_eq_false h
  rw [List.mem_append,List.mem_singleton]
  exact fun hh=>hh.elim hI (fun e=>h e.symm)
/-- What has to be lifted with some boxes. -/
def H30 (s:Gr) (l:List Stowed) (ids:List Int) (b:Int):Prop:=∀ C:Int→Prop,(∀ a b,C a→Pl s l a b→C b)→(∀ a∈ids,C a)→C b
theorem G18.iff {s:Gr} {l:List Stowed} {ids r:List Int} (h:G18 s l ids r) {b:Int}:b∈r ↔ H30 s l ids b:=
 ⟨fun hb C h1 h2=>h.least C h1 h2 b hb,fun hb=>hb (·∈r) (fun a b ha hp=>h.closed a ha b hp) h.seeds⟩
theorem H30.one {s:Gr} {l:List Stowed} {ids:List Int} {b:Int}:H30 s l ids b ↔ ∃ a∈ids,H30 s l [a] b:=by
 constructor
 ·intro h
  refine h (fun b=>∃ a∈ids,H30 s l [a] b) (fun a b ⟨c,hc,hr⟩ hp=>⟨c,hc,fun C h1 h2=>h1 a b (hr C h1 h2) hp⟩) (fun a ha=>⟨a,ha,fun C _ h2=>h2 a (by simp)⟩)
 ·rintro⟨a,ha,h⟩ C h1 h2
  exact h C h1 (fun b hb=>by rw [List.mem_singleton] at hb; rw [hb]; exact h2 a ha)
theorem H30.self {s:Gr} {l:List Stowed} {a:Int}:H30 s l [a] a:=fun C _ h2=>h2 a (by simp)
theorem H30.step {s:Gr} {l:List Stowed} {ids:List Int} {a b:Int} (h:H30 s l ids a) (hp:Pl s l a b):H30 s l ids b:=fun C h1 h2=>h1 a b (h C h1 h2) hp
theorem H30.Y9 {s:Gr} {l:List Stowed} {ids:List Int} {b:Int} (h:H30 s l ids b) (hi:∀ a∈ids,a∈l.map (·.G9)):b∈l.map (·.G9):=
 h (·∈l.map (·.G9)) (fun a b _ hp=>by
  obtain⟨x,_,_,y,hy,e,_⟩:=hp
  exact List.mem_map.2 ⟨y,hy,e⟩) hi
open Classical in
/-- The boxes that a box is in the way of. -/
noncomputable def G74 (s:Gr) (boxes:List G9) (l:List Stowed) (id:Int):List Int:=
 (l.filter (fun x=>decide (x.G9≠id∧Qy boxes x.G9 < Qy boxes id∧H30 s l [x.G9] id))).map (·.G9)
theorem G7f {s:Gr} {boxes:List G9} {l:List Stowed} {id b:Int}:b∈G74 s boxes l id ↔ b∈l.map (·.G9)∧b≠id∧Qy boxes b < Qy boxes id∧H30 s l [b] id:=by
 unfold G74
 simp only [List.mem_map,List.mem_filter,decide_eq_true_eq]
 constructor
 ·rintro⟨x,⟨hx,h⟩,rfl⟩
  exact⟨⟨x,hx,rfl⟩,h⟩
 ·rintro⟨⟨x,hx,rfl⟩,h⟩
  exact⟨x,⟨hx,h⟩,rfl⟩
theorem H9c.rightM {s:Gr} {boxes:List G9} {l:List Stowed} (h:H9c s boxes l):Q3 s boxes l=some true:=by
 have hl:=h.len
 exact G0c (wp_mono (H18 (G45 h.ship).right (G45 h.ship).tier (by omega)) (fun r hr=>hr.2 h.right))
theorem block_on (l:List Stowed) (id:Int):G94 l id=some (decide (id∈l.map (·.G9))):=by
 have h:=H07 (p:=fun y:Stowed=>decide (y.G9=id)) (f:=fun z0=>G4c z0 id) (xs:=l) (fun y _=>rfl)
 have e:Q2 l (fun z0=>G4c z0 id)=some (Hc0 (fun y:Stowed=>decide (y.G9=id)) l):=h
 unfold G94 Jt
 refine G0c (H7 (Gz e (Gh (Gh ?_))))
 rw [Gef,Bool.eq_iff_iff,List.any_eq_true,decide_eq_true_eq,List.mem_map]
 exact⟨fun⟨y,hy,h⟩=>⟨y,hy,of_decide_eq_true h⟩,fun⟨y,hy,h⟩=>⟨y,hy,decide_eq_true h⟩⟩
theorem J7c {F:Nat} {s:Gr} {boxes:List G9} {l:List Stowed} (h:H9c s boxes l) (hF:40≤F) {x:Stowed} (hx:x∈l) (d id:Int) :
  Wp (Yw F x.G9 s boxes l d id) (fun r=>r=true ↔ Qy boxes x.G9 < d∧H30 s l [x.G9] id):=by
 unfold Yw
 refine H7 (wp_mono (h.reach hF (fun a ha=>by rw [List.mem_singleton] at ha; rw [ha]; exact List.mem_map.2 ⟨x,hx,rfl⟩)) (fun r hr=>Gz (G69 boxes x.G9) ?_))
 by_cases hd:Qy boxes x.G9 < d
 ·rw [decide_eq_true hd]
  simp only [cond_true,Bool.true_and]
  refine Gz (Gba _ _) (Gh ?_)
  rw [Gbb,hr.2.iff]
  exact⟨fun h=>⟨hd,h⟩,fun h=>h.2⟩
 ·rw [decide_eq_false hd]
  exact H7 (Gh (Gh (G8f fun h=>hd h.1)))
theorem blocked_spec {F:Nat} {s:Gr} {boxes:List G9} {l:List Stowed} (h:H9c s boxes l) (hF:40≤F) (id:Int):Zm F s boxes l id=some (G74 s boxes l id):=by
 have hl:=h.len
 refine G0c ?_
 unfold Zm
 refine Gz (G69 boxes id) ?_
 unfold G74
 classical
 refine Jm (fun pre r=>r=(pre.filter (fun x=>decide (x.G9≠id∧Qy boxes x.G9 < Qy boxes id∧H30 s l [x.G9] id))).map (·.G9)) rfl (fun pre y post r nx e hI hnx=>?_) (fun r hI=>Gh hI)
 have hy:y∈l:=by rw [e]; simp
 have hpl:pre.length < l.length:=by rw [e]; simp
 have hrl:r.length≤pre.length:=by rw [hI,List.length_map]; exact List.length_filter_le _ _
 have key:∀ b:Bool,(b=true ↔ y.G9≠id∧Qy boxes y.G9 < Qy boxes id∧H30 s l [y.G9] id)→(pre++[y]).filter (fun x=>decide (x.G9≠id∧Qy boxes x.G9 < Qy boxes id∧H30 s l [x.G9] id))=pre.filter (fun x=>decide (x.G9≠id∧Qy boxes x.G9 < Qy boxes id∧H30 s l [x.G9] id))++(if b=true then [y] else []):=fun b hb=>by
  rw [List.filter_append]
  congr 1
  by_cases hbt:b=true
  ·rw [if_pos hbt,List.filter_cons,if_pos (decide_eq_true (hb.1 hbt))]; rfl
  ·rw [if_neg hbt,List.filter_cons,if_neg (fun hh=>hbt (hb.2 (of_decide_eq_true hh)))]; rfl
 refine G25 (fun j=>j=((pre++[y]).filter (fun x=>decide (x.G9≠id∧Qy boxes x.G9 < Qy boxes id∧H30 s l [x.G9] id))).map (·.G9)) (fun K hK=>?_) (fun j hj=>hnx _ hj)
 have hr:Wp (bif decide (y.G9≠id) then Yw F y.G9 s boxes l (Qy boxes id) id else some default) (fun b=>((decide (y.G9≠id))&&b)=true ↔ y.G9≠id∧Qy boxes y.G9 < Qy boxes id∧H30 s l [y.G9] id):=by
  by_cases hne:y.G9≠id
  ·rw [decide_eq_true hne]
   simp only [cond_true,Bool.true_and]
   exact wp_mono (J7c h hF hy _ _) (fun b hb=>by rw [hb]; exact⟨fun h=>⟨hne,h⟩,fun h=>h.2⟩)
  ·rw [decide_eq_false hne]
   exact Gh (G8f fun h=>hne h.1)
 refine H7 (wp_mono hr (fun b hb=>Hf (fun hh=>Rq (room8L (by rw [List.length_singleton]; omega)) (hK _ ?_)) (fun hh=>hK _ ?_)))
 ·rw [key _ hb,if_pos hh,List.map_append,hI]; rfl
 ·rw [key _ hb,if_neg (by rw [hh]; decide),List.append_nil,hI]
theorem Gc6 {F:Nat} {s:Gr} {boxes:List G9} {l:List Stowed} (h:H9c s boxes l) (hF:40≤F) {x:Stowed} (hx:x∈l):Jq F s boxes l x.G9=some (G74 s boxes l x.G9,0):=by
 refine G0c ?_
 unfold Jq
 refine Gz h.rightM (Hf (fun h=>by cases h) (fun _=>Gz (block_on l x.G9) ?_))
 rw [decide_eq_true (List.mem_map.2 ⟨x,hx,rfl⟩)]
 exact Hf (fun h=>by cases h) (fun _=>Gz (blocked_spec h hF x.G9) (Gh rfl))
end Go.Proofs.YtpgkkengffpnpaaGreat
