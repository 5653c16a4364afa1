/-
 What the functions of the chapter on blocked boxes return,of the states that its statements make. The examples of the chapter. BlockPairs: the law's plain mathematics. BlockLeaves: the law's plain mathematics.
-/
import Derived.Test.YtpgkkengffpnpaaGreatPutB
import Derived.Test.YtpgkkengffpnpaaGreatXP
set_option linter.unusedSimpArgs false
set_option linter.unnecessarySimpa false
set_option maxRecDepth 100000
set_option linter.unusedVariables false
namespace Go.Proofs.YtpgkkengffpnpaaGreat
open Go.RowKit

theorem lim_of_built {s:Gp} (h:BuiltOk s):LimOk s:=
 ⟨h.some,h.cols.len,fun c hc=>⟨c,0,h.cols.each c hc,.inl rfl,by rw [← (h.cols.each c hc).height]⟩,h.cols.nodup,h.covs⟩

theorem Loaded_upto {s:Gp} {l0:List Gi} (hs:Small s) (hl0:∀ d∈l0,G9b d) {most:Nat} (hmost:most≤10) :
  Wp (Rk s l0 (most:Int)) (fun r=>r.1=G2d (l0.take (min l0.length most))∧Rf s r.1 r.2∧r.2.length≤most):=by
 unfold Rk
 have hcols:=hs.cols
 refine H4 (H41 (m:=min l0.length most) (by omega) (by omega) ?_)
 have hlen:(l0.take (min l0.length most)).length≤most:=by rw [List.length_take]; omega
 have hl:∀ d∈l0.take (min l0.length most),G9b d:=fun d hd=>hl0 d (List.mem_of_mem_take hd)
 generalize l0.take (min l0.length most)=l at hlen hl
 refine wp_mono (Q':=fun r=>r.1=G2d l∧Rf s (G2d l) r.2∧r.2.length≤l.length) ?_ (fun r hr=>⟨hr.1,by rw [hr.1]; exact hr.2.1,by omega⟩)
 refine Je (fun pre st=>st.2=G2d pre∧Rf s (G2d pre) st.1∧st.1.length≤pre.length) ⟨rfl,J70,Nat.le_refl _⟩ (fun pre y post st nx e hI hnx=>?_) (fun st hI=>Gh hI)
 obtain⟨h1,h2,h3⟩:=hI
 obtain⟨⟨c1,c2⟩,⟨k1,k2⟩⟩:=hl y (by rw [e]; simp)
 have hp:pre.length < most:=by rw [e] at hlen; simp only [List.length_append,List.length_cons] at hlen; omega
 have hbl:=J89 pre
 have hb1:st.2.length≤most:=by rw [h1]; omega
 refine G08 (fun j=>j.2=G2d (pre++[y])∧Rf s (G2d (pre++[y])) j.1∧j.1.length≤(pre++[y]).length) (fun K hK=>?_) (fun j hj=>hnx _ hj)
 refine Qc ⟨by omega,by omega⟩ (Qc ⟨by omega,by omega⟩ (Qc ⟨by omega,by omega⟩ (Qc ⟨by omega,by omega⟩ ?_)))
 refine G08 (fun j17=>j17=H03 (strip y)) (fun K' hK'=>Hb (fun h=>hK' _ ?_) (fun h=>hK' _ ?_)) (fun j17 h17=>?_)
 ·unfold H03 strip; simp only [h,cond_true]
 ·unfold H03 strip; simp only [h,cond_false]
 subst h17
 have hbox:st.2++[G9.mk (5*((pre.length+1:Nat):Int)) ByteArray.empty (H03 (strip y)).1 (H03 (strip y)).2 (1000+100*y.Kilos) 0 1 0 false]=G2d (pre++[y]):=by
  rw [J21,h1]; rfl
 rw [hbox]
 refine Qn (G64 (by rw [List.length_singleton]; omega) (by omega)) ?_
 refine H4 (wp_mono (slot_all hs _) (fun r22 h22=>?_))
 have hmore:Rf s (G2d (pre++[y])) st.1:=by rw [J21]; exact J15 h2
 refine Je (fun _ s49=>s49=st.1) rfl (fun pre2 x post2 s49 nx2 e2 hJ hnx2=>?_) (fun s49 hJ=>hK _ ⟨rfl,by rw [hJ]; exact hmore,by rw [hJ,List.length_append,List.length_singleton]; show st.1.length≤_; omega⟩)
 subst hJ
 simp only [List.nil_append]
 refine Qn (G64 (by simp only [List.length_nil]; omega) (by omega)) (Qn (G64 (by rw [List.length_singleton]; omega) (by omega)) (Qc ⟨by omega,by omega⟩ (H4 (He5 (by omega) ?_))))
 by_cases hc:x.G4=y.G4.tmod (s.Columns.length:Int)
 ·rw [decide_eq_true hc]
  simp only [cond_true,Bool.true_and]
  refine H4 (wp_mono (H22 hs.right hs.tier (by simp only [List.length_append,List.length_singleton]; omega)) (fun v hv=>Hb (fun h=>hK _ ⟨rfl,hv.1 h,?_⟩) (fun h=>hnx2 _ rfl)))
  simp only [List.length_append,List.length_singleton]; omega
 ·rw [decide_eq_false hc]
  simp only [cond_false,Bool.false_and]
  exact H4 (Gh (hnx2 _ rfl))

/-! ### Boxes with a call at which they leave -/
def disOf (b:G9):Int:=1+(b.Kilos.tdiv 100).tmod 4
def J6c (b:G9):G9:=G9.mk b.ID b.Number b.Size b.High b.Kilos b.Load (disOf b) b.Class b.Reefer
theorem find_setD (boxes:List G9) (id:Int):Q6 (boxes.map J6c) id=(Q6 boxes id).map J6c:=by
 unfold Q6
 induction boxes with
 | nil=>rfl
 | cons b r ih=>
  rw [List.map_cons,List.find?_cons,List.find?_cons]
  show (match decide (b.ID=id) with | true=>some (J6c b) | false=>_)=_
  cases decide (b.ID=id) with
  | true=>rfl
  | false=>exact ih
theorem J1b (boxes:List G9) (m half:Int):∀ (l:List Stowed) (n:Int),l.foldl (G59 (boxes.map J6c) m half) n=l.foldl (G59 boxes m half) n:=by
 intro l
 induction l with
 | nil=>intro n; rfl
 | cons x r ih=>
  intro n
  have e:G59 (boxes.map J6c) m half n x=G59 boxes m half n x:=by
   unfold G59
   rw [find_setD]
   cases Q6 boxes x.G9 <;> rfl
  rw [List.foldl_cons,List.foldl_cons,e]
  exact ih _
theorem right_setD {s:Gp} {boxes:List G9} {l:List Stowed} (h:Rf s boxes l):Rf s (boxes.map J6c) l:=by
 refine⟨fun x hx=>?_,h.sorted,h.apart,fun m c hc=>?_⟩
 ·obtain⟨b,h1,h2⟩:=h.each x hx
  exact⟨J6c b,by rw [find_setD,h1]; rfl,h2⟩
 ·have:=h.fits m c hc
  unfold H3c G30 at this ⊢
  rw [J1b,J1b]
  exact this
theorem disOf_in {b:G9} (h:0≤b.Kilos):1≤disOf b∧disOf b≤4:=by
 unfold disOf
 have h1:(0:Int)≤b.Kilos.tdiv 100:=Int.tdiv_nonneg h (by decide)
 rw [Int.tmod_eq_emod_of_nonneg h1]
 omega
/-- What Made makes. -/
structure Ha7 (most:Nat) (s:Gp) (boxes:List G9) (l:List Stowed):Prop where
 sta:H12 s boxes l
 num:boxes.length≤most
 len:l.length≤most
 box:∀ b∈boxes,5≤b.ID∧b.ID≤5*(most:Int)∧(b.Size=20∨b.Size=40)∧1≤b.Discharge∧b.Discharge≤4
theorem mem_boxesL {l:List Gi} (hl:∀ d∈l,G9b d) {b:G9} (h:b∈G2d l):5≤b.ID∧b.ID≤5*(l.length:Int)∧(b.Size=20∨b.Size=40)∧0≤b.Kilos∧b.Kilos≤100000:=by
 unfold G2d at h
 obtain⟨p,hp,rfl⟩:=List.mem_map.1 h
 obtain⟨t,i⟩:=p
 have hi:=List.mk_mem_zipIdx_iff_getElem?.1 hp
 have hlt:=(List.getElem?_eq_some_iff.1 hi).1
 rw [List.length_map] at hlt
 rw [List.getElem?_map] at hi
 obtain⟨d,hd,rfl⟩:=Option.map_eq_some_iff.1 hi
 obtain⟨k1,k2⟩:=(hl d (List.mem_of_getElem? hd)).kilos
 have hsz:(H03 (strip d)).1=20∨(H03 (strip d)).1=40:=by
  unfold H03
  cases (strip d).2.1 with
  | true=>exact .inl rfl
  | false=>exact .inr rfl
 refine⟨?_,?_,hsz,?_,?_⟩
 ·show (5:Int)≤5*((i+1:Nat):Int); omega
 ·show 5*((i+1:Nat):Int)≤_; omega
 ·show (0:Int)≤1000+100*d.Kilos; omega
 ·show (1000:Int)+100*d.Kilos≤100000; omega
theorem Hf3 (l:List Gx) (covers:Int) (drops:List Gi) (hp:∀ p∈l,Gc6 p) (hd:∀ x∈drops,G9b x) {most:Nat} (hmost:most≤10) :
  Wp (Jf l covers drops (most:Int)) (fun r=>Ha7 most r.1 r.2.1 r.2.2):=by
 unfold Jf
 refine H4 (wp_mono (built_spec l covers hp) (fun s hB=>?_))
 have hL:=lim_of_built hB
 refine H4 (wp_mono (Loaded_upto (Zn hL) hd hmost) (fun r5 h5=>?_))
 obtain⟨g1,g2,g3⟩:=h5
 have hdr:∀ d∈drops.take (min drops.length most),G9b d:=fun d hh=>hd d (List.mem_of_mem_take hh)
 have hdl:(drops.take (min drops.length most)).length≤most:=by rw [List.length_take]; omega
 have hbx:∀ b∈r5.1,5≤b.ID∧b.ID≤5*(most:Int)∧(b.Size=20∨b.Size=40)∧0≤b.Kilos∧b.Kilos≤100000:=fun b hb=>by
  have:=mem_boxesL hdr (by rw [← g1]; exact hb)
  omega
 have hbl:r5.1.length≤most:=by rw [g1,J89]; exact hdl
 refine Je (fun pre t=>t=pre.map J6c++r5.1.drop pre.length) (by simp) (fun pre y post t nx e hI hnx=>?_) (fun t hI=>Gh ?_)
 ·subst hI
  have hyk:=(hbx y (by rw [e]; simp)).2.2.2
  have hdrop:r5.1.drop pre.length=y::post:=by rw [e]; simp
  have hget:(pre.map J6c++r5.1.drop pre.length)[pre.length]? = some y:=by rw [hdrop,List.getElem?_append_right (by simp)]; simp
  have hdis:=disOf_in (b:=y) hyk.1
  refine Ro rfl hget (H4 (wp_quo (by decide) ⟨by omega,by omega⟩ (H4 (He5 (by decide) (Qc ?_ (Ro rfl hget (hnx _ ?_)))))))
  ·show -9223372036854775808≤disOf y∧disOf y≤9223372036854775807
   omega
  ·show List.set _ _ (J6c y)=_
   rw [hdrop,show ((pre.length:Int)).toNat=pre.length by omega,List.set_append_right _ _ (by simp)]
   have:r5.1.drop (pre++[y]).length=post:=by rw [e]; simp
   rw [this]
   simp
 ·have hI:t=r5.1.map J6c:=by rw [hI]; simp
  subst hI
  exact⟨⟨hL,right_setD g2,by show r5.2.length≤10; omega⟩,by rw [List.length_map]; exact hbl,g3,fun b hb=>by
   obtain⟨b0,hb0,rfl⟩:=List.mem_map.1 hb
   have h1:=hbx b0 hb0
   have h2:=disOf_in (b:=b0) h1.2.2.2.1
   exact⟨h1.1,h1.2.1,h1.2.2.1,h2.1,h2.2⟩⟩

/-! ### Who is in the way -/
/-- When a box leaves. -/
def R1 (boxes:List G9) (id:Int):Int:=match Q6 boxes id with
 | some b=>b.Discharge
 | none=>0
theorem G6f (boxes:List G9) (id:Int):J5 boxes id=some (R1 boxes id):=by
 unfold J5 R1
 rw [H0a]
 cases Q6 boxes id <;> rfl
/-- What has to be lifted with some boxes. -/
def H7e (s:Gp) (l:List Stowed) (ids:List Int) (b:Int):Prop:=∀ C:Int→Prop,(∀ a b,C a→Pl s l a b→C b)→(∀ a∈ids,C a)→C b
theorem G1f.iff {s:Gp} {l:List Stowed} {ids r:List Int} (h:G1f s l ids r) {b:Int}:b∈r ↔ H7e s l ids b:=
 ⟨fun hb C h1 h2=>h.least C h1 h2 b hb,fun hb=>hb (·∈r) (fun a b ha hp=>h.closed a ha b hp) h.seeds⟩
theorem H7e.one {s:Gp} {l:List Stowed} {ids:List Int} {b:Int}:H7e s l ids b ↔ ∃ a∈ids,H7e s l [a] b:=by
 constructor
 ·intro h
  refine h (fun b=>∃ a∈ids,H7e s l [a] b) (fun a b ⟨c,hc,hr⟩ hp=>⟨c,hc,fun C h1 h2=>h1 a b (hr C h1 h2) hp⟩) (fun a ha=>⟨a,ha,fun C _ h2=>h2 a (by simp)⟩)
 ·rintro⟨a,ha,h⟩ C h1 h2
  exact h C h1 (fun b hb=>by rw [List.mem_singleton] at hb; rw [hb]; exact h2 a ha)
theorem H7e.step {s:Gp} {l:List Stowed} {ids:List Int} {a b:Int} (h:H7e s l ids a) (hp:Pl s l a b):H7e s l ids b:=fun C h1 h2=>h1 a b (h C h1 h2) hp
theorem H7e.Ya {s:Gp} {l:List Stowed} {ids:List Int} {b:Int} (h:H7e s l ids b) (hi:∀ a∈ids,a∈l.map (·.G9)):b∈l.map (·.G9):=
 h (·∈l.map (·.G9)) (fun a b _ hp=>by
  obtain⟨x,_,_,y,hy,e,_⟩:=hp
  exact List.mem_map.2 ⟨y,hy,e⟩) hi
open Classical in
/-- The boxes that a box is in the way of. -/
noncomputable def G8d (s:Gp) (boxes:List G9) (l:List Stowed) (id:Int):List Int:=
 (l.filter (fun x=>decide (x.G9≠id∧R1 boxes x.G9 < R1 boxes id∧H7e s l [x.G9] id))).map (·.G9)
theorem H12.rightM {s:Gp} {boxes:List G9} {l:List Stowed} (h:H12 s boxes l):Q3 s boxes l=some true:=by
 have hl:=h.len
 exact G09 (wp_mono (H22 (Zn h.ship).right (Zn h.ship).tier (by omega)) (fun r hr=>hr.2 h.right))
theorem block_on (l:List Stowed) (id:Int):G9a l id=some (decide (id∈l.map (·.G9))):=by
 have h:=H10 (p:=fun y:Stowed=>decide (y.G9=id)) (f:=fun z0=>G53 z0 id) (xs:=l) (fun y _=>rfl)
 have e:Q2 l (fun z0=>G53 z0 id)=some (Hcd (fun y:Stowed=>decide (y.G9=id)) l):=h
 unfold G9a Jt
 refine G09 (H4 (Gy e (Gh (Gh ?_))))
 rw [Gf5,Bool.eq_iff_iff,List.any_eq_true,decide_eq_true_eq,List.mem_map]
 exact⟨fun⟨y,hy,h⟩=>⟨y,hy,of_decide_eq_true h⟩,fun⟨y,hy,h⟩=>⟨y,hy,decide_eq_true h⟩⟩
theorem J8a {F:Nat} {s:Gp} {boxes:List G9} {l:List Stowed} (h:H12 s boxes l) (hF:40≤F) {x:Stowed} (hx:x∈l) (d id:Int) :
  Wp (Yx F x.G9 s boxes l d id) (fun r=>r=true ↔ R1 boxes x.G9 < d∧H7e s l [x.G9] id):=by
 unfold Yx
 refine H4 (wp_mono (h.reach hF (fun a ha=>by rw [List.mem_singleton] at ha; rw [ha]; exact List.mem_map.2 ⟨x,hx,rfl⟩)) (fun r hr=>Gy (G6f boxes x.G9) ?_))
 by_cases hd:R1 boxes x.G9 < d
 ·rw [decide_eq_true hd]
  simp only [cond_true,Bool.true_and]
  refine Gy (Gc1 _ _) (Gh ?_)
  rw [Gc2,hr.2.iff]
  exact⟨fun h=>⟨hd,h⟩,fun h=>h.2⟩
 ·rw [decide_eq_false hd]
  exact H4 (Gh (Gh (G95 fun h=>hd h.1)))
theorem Hd1 {F:Nat} {s:Gp} {boxes:List G9} {l:List Stowed} (h:H12 s boxes l) (hF:40≤F) (id:Int):Zo F s boxes l id=some (G8d s boxes l id):=by
 have hl:=h.len
 refine G09 ?_
 unfold Zo
 refine Gy (G6f boxes id) ?_
 unfold G8d
 classical
 refine Je (fun pre r=>r=(pre.filter (fun x=>decide (x.G9≠id∧R1 boxes x.G9 < R1 boxes id∧H7e s l [x.G9] id))).map (·.G9)) rfl (fun pre y post r nx e hI hnx=>?_) (fun r hI=>Gh hI)
 have hy:y∈l:=by rw [e]; simp
 have hpl:pre.length < l.length:=by rw [e]; simp
 have hrl:r.length≤pre.length:=by rw [hI,List.length_map]; exact List.length_filter_le _ _
 have key:∀ b:Bool,(b=true ↔ y.G9≠id∧R1 boxes y.G9 < R1 boxes id∧H7e s l [y.G9] id)→(pre++[y]).filter (fun x=>decide (x.G9≠id∧R1 boxes x.G9 < R1 boxes id∧H7e s l [x.G9] id))=pre.filter (fun x=>decide (x.G9≠id∧R1 boxes x.G9 < R1 boxes id∧H7e s l [x.G9] id))++(if b=true then [y] else []):=fun b hb=>by
  rw [List.filter_append]
  congr 1
  by_cases hbt:b=true
  ·rw [if_pos hbt,List.filter_cons,if_pos (decide_eq_true (hb.1 hbt))]; rfl
  ·rw [if_neg hbt,List.filter_cons,if_neg (fun hh=>hbt (hb.2 (of_decide_eq_true hh)))]; rfl
 refine G08 (fun j=>j=((pre++[y]).filter (fun x=>decide (x.G9≠id∧R1 boxes x.G9 < R1 boxes id∧H7e s l [x.G9] id))).map (·.G9)) (fun K hK=>?_) (fun j hj=>hnx _ hj)
 have hr:Wp (bif decide (y.G9≠id) then Yx F y.G9 s boxes l (R1 boxes id) id else some default) (fun b=>((decide (y.G9≠id))&&b)=true ↔ y.G9≠id∧R1 boxes y.G9 < R1 boxes id∧H7e s l [y.G9] id):=by
  by_cases hne:y.G9≠id
  ·rw [decide_eq_true hne]
   simp only [cond_true,Bool.true_and]
   exact wp_mono (J8a h hF hy _ _) (fun b hb=>by rw [hb]; exact⟨fun h=>⟨hne,h⟩,fun h=>h.2⟩)
  ·rw [decide_eq_false hne]
   exact Gh (G95 fun h=>hne h.1)
 refine H4 (wp_mono hr (fun b hb=>Hb (fun hh=>Qn (room8L (by rw [List.length_singleton]; omega)) (hK _ ?_)) (fun hh=>hK _ ?_)))
 ·rw [key _ hb,if_pos hh,List.map_append,hI]; rfl
 ·rw [key _ hb,if_neg (by rw [hh]; decide),List.append_nil,hI]
theorem Gce {F:Nat} {s:Gp} {boxes:List G9} {l:List Stowed} (h:H12 s boxes l) (hF:40≤F) {x:Stowed} (hx:x∈l):Jq F s boxes l x.G9=some (G8d s boxes l x.G9,0):=by
 refine G09 ?_
 unfold Jq
 refine Gy h.rightM (Hb (fun h=>by cases h) (fun _=>Gy (block_on l x.G9) ?_))
 rw [decide_eq_true (List.mem_map.2 ⟨x,hx,rfl⟩)]
 exact Hb (fun h=>by cases h) (fun _=>Gy (Hd1 h hF x.G9) (Gh rfl))
end Go.Proofs.YtpgkkengffpnpaaGreat
set_option linter.unusedVariables false
set_option linter.unusedSimpArgs false
set_option linter.unnecessarySimpa false
set_option maxRecDepth 100000
namespace Go.Proofs.YtpgkkengffpnpaaGreat
open Go.RowKit
theorem awake22:J3 60=some true:=by kernel_rfl
end Go.Proofs.YtpgkkengffpnpaaGreat
set_option linter.unusedSimpArgs false
set_option linter.unnecessarySimpa false
set_option maxRecDepth 100000
set_option linter.unusedVariables false
namespace Go.Proofs.YtpgkkengffpnpaaGreat
open Go.RowKit

theorem fin_yes {A:Bool} {m:Option Bool} (hA:A=true) (hm:m=some true):Wp (bnd (bif A then m else some default) fun r=>some (A&&r)) (·=true):=by
 subst hA hm
 exact⟨true,rfl,rfl⟩
end Go.Proofs.YtpgkkengffpnpaaGreat
set_option linter.unusedSimpArgs false
set_option linter.unnecessarySimpa false
set_option maxRecDepth 100000
set_option linter.unusedVariables false
namespace Go.Proofs.YtpgkkengffpnpaaGreat
open Go.RowKit

theorem Pl.sub {s:Gp} {l q:List Stowed} {a b:Int} (h:Pl s q a b) (hs:∀ x∈q,x∈l):Pl s l a b:=by
 obtain⟨x,hx,e,y,hy,e2,hh⟩:=h
 exact⟨x,hs x hx,e,y,hs y hy,e2,hh⟩
theorem H7e.sub {s:Gp} {l q:List Stowed} {ids:List Int} {b:Int} (h:H7e s q ids b) (hs:∀ x∈q,x∈l):H7e s l ids b:=fun C h1 h2=>h C (fun a b ha hp=>h1 a b ha (hp.sub hs)) h2
theorem room32 {n m:Nat} (h:n+m≤1000):decide ((n+m)*32≤140737488355328∧n+m≤maxLen)=true:=decide_eq_true ⟨by omega,by simp only [maxLen]; omega⟩
end Go.Proofs.YtpgkkengffpnpaaGreat
