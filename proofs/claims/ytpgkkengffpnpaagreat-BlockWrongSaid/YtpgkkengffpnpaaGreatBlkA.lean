/-
 What can be put, taken, opened and closed. What Free, Take, Open, Close and Put return, of states that are right. What Put returns, and that states stay right. States with a box more or less are right. What the functions of the chapter on blocked boxes return,of the states that its statements make.
-/
import Derived.Test.YtpgkkengffpnpaaGreatMoreR
import Derived.Test.YtpgkkengffpnpaaGreatXT
set_option linter.unusedSimpArgs false
set_option linter.unnecessarySimpa false
set_option maxRecDepth 100000
set_option linter.unusedVariables false
namespace Go.Proofs.YtpgkkengffpnpaaGreat
open Go.RowKit

/-- Open covers: some that there are, in order. -/
structure Gbd (s : Gp) (o : List Int) : Prop where
  mem : ∀ y ∈ o, 0 ≤ y ∧ y < (s.Covers.length : Int)
  sorted : o.Pairwise (· < ·)
theorem H0e {s : Gp} : Gbd s [] := ⟨fun y hy => (List.not_mem_nil hy).elim, List.Pairwise.nil⟩
theorem Gbd.len {s : Gp} {o : List Int} (h : Gbd s o) : o.length ≤ s.Covers.length := by
  have hn : o.Nodup := G83 h.sorted
  have := hn.length_le_of_subset (l₂ := (List.range s.Covers.length).map (fun n : Nat => (n : Int))) (fun a ha => by
    obtain ⟨h1, h2⟩ := h.mem a ha
    exact List.mem_map.2 ⟨a.toNat, List.mem_range.2 (by omega), by omega⟩)
  simpa using this
theorem checked_spec {s : Gp} (hs : Small s) (boxes : List G9) (l : List Stowed) (o : List Int) (hl : l.length ≤ 1000000) : Wp (Qp s boxes l o) (fun r => r = true ↔ Gbd s o ∧ Ri s boxes l) := by
  unfold Qp
  refine Jf (fun pre _ => Gbd s pre) H0e (fun pre y post u nx e hI hnx => ?_) (fun u hI => ?_)
  · have no : ¬ Gbd s o → Wp (some false) (fun r => r = true ↔ Gbd s o ∧ Ri s boxes l) := fun h => Gg (G98 fun hh => h hh.1)
    by_cases hy : y < 0 ∨ (s.Covers.length : Int) ≤ y
    · have hc : (decide (y < 0) || decide ((s.Covers.length : Int) ≤ y)) = true := by simpa using hy
      rw [hc]
      refine H3 (Gg (H3 (Gg (H7 (fun _ => no fun h => ?_) (fun h => by cases h)))))
      have := h.mem y (by rw [e]; simp)
      omega
    have hc : (decide (y < 0) || decide ((s.Covers.length : Int) ≤ y)) = false := by
      rw [Bool.or_eq_false_iff]; exact ⟨decide_eq_false (by omega), decide_eq_false (by omega)⟩
    rw [hc]
    simp only [Bool.not_false, Bool.true_and, Bool.false_or]
    have hyok : 0 ≤ y ∧ y < (s.Covers.length : Int) := by omega
    have hprev : Wp (bif decide (0 < (pre.length : Int)) then G0d ((pre.length : Int) - 1) some else some 0) (fun v => Wp (bif decide (0 < (pre.length : Int)) then Z2 o v some else some default) (fun p => (decide (0 < (pre.length : Int)) && decide (y ≤ p)) = false → Gbd s (pre ++ [y])) ∧ Wp (bif decide (0 < (pre.length : Int)) then Z2 o v some else some default) (fun p => (decide (0 < (pre.length : Int)) && decide (y ≤ p)) = true → ¬ Gbd s o)) := by
      by_cases hp : 0 < pre.length
      · obtain ⟨p, hp1, hp2, hp3⟩ := J37 e hp
        rw [decide_eq_true (show 0 < (pre.length : Int) by omega)]
        simp only [cond_true, Bool.true_and]
        have : pre.length < 1 + s.Covers.length := by have := hI.len; omega
        have := hs.covs
        refine Q7 ⟨by omega, by omega⟩ (Gg ⟨Rj (m := pre.length - 1) (by omega) hp1 (Gg fun h => ?_), Rj (m := pre.length - 1) (by omega) hp1 (Gg fun h hh => ?_)⟩)
        · have hlt : p < y := by have := of_decide_eq_false h; omega
          exact ⟨Rn hI.mem hyok, pw_snoc hI.sorted (H49 hI.sorted hp2 hlt)⟩
        · have h := of_decide_eq_true h
          have hso := hh.sorted
          rw [e] at hso
          have := G85 hso p hp3
          omega
      · have h0 : pre = [] := List.eq_nil_of_length_eq_zero (by omega)
        subst h0
        exact Gg ⟨Gg fun _ => ⟨fun z hz => (List.mem_singleton.1 hz) ▸ hyok, List.pairwise_singleton ..⟩, Gg fun h => Bool.noConfusion h⟩
    refine H3 (wp_mono hprev (fun v hv => ?_))
    obtain ⟨p, hp, h1⟩ := hv.1
    obtain ⟨p', hp', h2⟩ := hv.2
    rw [hp] at hp'; cases hp'
    rw [hp]
    refine H3 (Gg (H7 (fun h => no (h2 h)) (fun h => hnx _ (h1 h))))
  · exact H3 (wp_mono (Gd6 hs.right hs.tier hl) (fun r hr => Gg (hr.trans ⟨fun h => ⟨hI, h⟩, fun h => h.2⟩)))
end Go.Proofs.YtpgkkengffpnpaaGreat
set_option linter.unusedSimpArgs false
set_option linter.unnecessarySimpa false
set_option maxRecDepth 100000
set_option linter.unusedVariables false
namespace Go.Proofs.YtpgkkengffpnpaaGreat
open Go.RowKit

instance (a b : Slot) : Decidable (H36 a b) := by unfold H36 Ga2; infer_instance
theorem H07.checked {s : Gp} {boxes : List G9} {l : List Stowed} (h : H07 s boxes l) {o : List Int} (hO : Gbd s o) : Qp s boxes l o = some true := by
  have hl := h.len
  exact Y4 (wp_mono (checked_spec (Zd h.ship) boxes l o (by omega)) (fun r hr => hr.2 ⟨hO, h.right⟩))
end Go.Proofs.YtpgkkengffpnpaaGreat
set_option linter.unusedSimpArgs false
set_option linter.unnecessarySimpa false
set_option maxRecDepth 100000
set_option linter.unusedVariables false
namespace Go.Proofs.YtpgkkengffpnpaaGreat
open Go.RowKit

theorem G16 {l : List Stowed} {y : Slot} {half : Int} (h : below (l.map (·.Slot)) y half) : ∃ z ∈ l, z.Slot = ⟨y.G4, y.Tier - 1, half⟩ := by
  obtain ⟨z, hz, e⟩ := List.mem_map.1 h
  exact ⟨z, hz, e⟩
end Go.Proofs.YtpgkkengffpnpaaGreat
set_option linter.unusedSimpArgs false
set_option linter.unnecessarySimpa false
set_option maxRecDepth 100000
set_option linter.unusedVariables false
namespace Go.Proofs.YtpgkkengffpnpaaGreat
open Go.RowKit

/-- What stands in a column stands upon something, down to the lowest tier. -/
theorem chain {s:Gp} {boxes:List G9} {l:List Stowed} (h:Ri s boxes l) {t:Int} (h0:0≤t):∀ (n:Nat) (z:Stowed),z∈l→z.Slot.Tier=t+(n:Int)+1 →
  (∃ w∈l,w.Slot=⟨z.Slot.G4,t,z.Slot.Half⟩)∨(z.Slot.Half=0∧(∃ w∈l,w.Slot=⟨z.Slot.G4,t,1⟩)∧∃ w∈l,w.Slot=⟨z.Slot.G4,t,2⟩):=by
 intro n
 induction n with
 | zero=>
  intro z hz ht
  obtain⟨_,_,_,hh⟩:=h.each z hz
  have e:z.Slot.Tier - 1=t:=by omega
  rcases hh with hh | hh | ⟨hz0,h1,h2⟩
  ·omega
  ·obtain⟨w,hw,ew⟩:=G16 hh
   rw [e] at ew
   exact .inl ⟨w,hw,ew⟩
  ·obtain⟨w,hw,ew⟩:=G16 h1
   obtain⟨v,hv,ev⟩:=G16 h2
   rw [e] at ew ev
   exact .inr ⟨hz0,⟨w,hw,ew⟩,⟨v,hv,ev⟩⟩
 | succ n ih=>
  intro z hz ht
  obtain⟨_,_,_,hh⟩:=h.each z hz
  have one:∀ w∈l,∀ half,w.Slot=⟨z.Slot.G4,z.Slot.Tier - 1,half⟩→half≠0→∃ v∈l,v.Slot=⟨z.Slot.G4,t,half⟩:=fun w hw half ew hne=>by
   have:=ih w hw (by rw [ew]; simp only; omega)
   rw [ew] at this
   rcases this with h | ⟨h,_⟩
   ·exact h
   ·exact(hne h).elim
  rcases hh with hh | hh | ⟨hz0,h1,h2⟩
  ·omega
  ·obtain⟨w,hw,ew⟩:=G16 hh
   have:=ih w hw (by rw [ew]; simp only; omega)
   rw [ew] at this
   exact this
  ·obtain⟨w,hw,ew⟩:=G16 h1
   obtain⟨v,hv,ev⟩:=G16 h2
   exact .inr ⟨hz0,one w hw 1 ew (by decide),one v hv 2 ev (by decide)⟩
end Go.Proofs.YtpgkkengffpnpaaGreat
set_option linter.unusedSimpArgs false
set_option linter.unnecessarySimpa false
set_option maxRecDepth 100000
set_option linter.unusedVariables false
namespace Go.Proofs.YtpgkkengffpnpaaGreat
open Go.RowKit

theorem lim_of_built {s:Gp} (h:BuiltOk s):LimOk s:=
 ⟨h.some,h.cols.len,fun c hc=>⟨c,0,h.cols.each c hc,.inl rfl,by rw [← (h.cols.each c hc).height]⟩,h.cols.nodup,h.covs⟩

theorem Loaded_upto {s:Gp} {l0:List Gi} (hs:Small s) (hl0:∀ d∈l0,G6e d) {most:Nat} (hmost:most≤10) :
  Wp (Ro s l0 (most:Int)) (fun r=>r.1=G2e (l0.take (min l0.length most))∧Ri s r.1 r.2∧r.2.length≤most):=by
 unfold Ro
 have hcols:=hs.cols
 refine H3 (H41 (m:=min l0.length most) (by omega) (by omega) ?_)
 have hlen:(l0.take (min l0.length most)).length≤most:=by rw [List.length_take]; omega
 have hl:∀ d∈l0.take (min l0.length most),G6e d:=fun d hd=>hl0 d (List.mem_of_mem_take hd)
 generalize l0.take (min l0.length most)=l at hlen hl
 refine wp_mono (Q':=fun r=>r.1=G2e l∧Ri s (G2e l) r.2∧r.2.length≤l.length) ?_ (fun r hr=>⟨hr.1,by rw [hr.1]; exact hr.2.1,by omega⟩)
 refine Jf (fun pre st=>st.2=G2e pre∧Ri s (G2e pre) st.1∧st.1.length≤pre.length) ⟨rfl,Ha1,Nat.le_refl _⟩ (fun pre y post st nx e hI hnx=>?_) (fun st hI=>Gg hI)
 obtain⟨h1,h2,h3⟩:=hI
 obtain⟨⟨c1,c2⟩,⟨k1,k2⟩⟩:=hl y (by rw [e]; simp)
 have hp:pre.length < most:=by rw [e] at hlen; simp only [List.length_append,List.length_cons] at hlen; omega
 have hbl:=J8e pre
 have hb1:st.2.length≤most:=by rw [h1]; omega
 refine G09 (fun j=>j.2=G2e (pre++[y])∧Ri s (G2e (pre++[y])) j.1∧j.1.length≤(pre++[y]).length) (fun K hK=>?_) (fun j hj=>hnx _ hj)
 refine Q7 ⟨by omega,by omega⟩ (Q7 ⟨by omega,by omega⟩ (Q7 ⟨by omega,by omega⟩ (Q7 ⟨by omega,by omega⟩ ?_)))
 refine G09 (fun j17=>j17=H05 (strip y)) (fun K' hK'=>H7 (fun h=>hK' _ ?_) (fun h=>hK' _ ?_)) (fun j17 h17=>?_)
 ·unfold H05 strip; simp only [h,cond_true]
 ·unfold H05 strip; simp only [h,cond_false]
 subst h17
 have hbox:st.2++[G9.mk (5*((pre.length+1:Nat):Int)) ByteArray.empty (H05 (strip y)).1 (H05 (strip y)).2 (1000+100*y.Kilos) 0 1 0 false]=G2e (pre++[y]):=by
  rw [J25,h1]; rfl
 rw [hbox]
 refine Qe (G64 (by rw [List.length_singleton]; omega) (by omega)) ?_
 refine H3 (wp_mono (slot_all hs _) (fun r22 h22=>?_))
 have hmore:Ri s (G2e (pre++[y])) st.1:=by rw [J25]; exact J19 h2
 refine Jf (fun _ s49=>s49=st.1) rfl (fun pre2 x post2 s49 nx2 e2 hJ hnx2=>?_) (fun s49 hJ=>hK _ ⟨rfl,by rw [hJ]; exact hmore,by rw [hJ,List.length_append,List.length_singleton]; show st.1.length≤_; omega⟩)
 subst hJ
 simp only [List.nil_append]
 refine Qe (G64 (by simp only [List.length_nil]; omega) (by omega)) (Qe (G64 (by rw [List.length_singleton]; omega) (by omega)) (Q7 ⟨by omega,by omega⟩ (H3 (He8 (by omega) ?_))))
 by_cases hc:x.G4=y.G4.tmod (s.Columns.length:Int)
 ·rw [decide_eq_true hc]
  simp only [cond_true,Bool.true_and]
  refine H3 (wp_mono (Gd6 hs.right hs.tier (by simp only [List.length_append,List.length_singleton]; omega)) (fun v hv=>H7 (fun h=>hK _ ⟨rfl,hv.1 h,?_⟩) (fun h=>hnx2 _ rfl)))
  simp only [List.length_append,List.length_singleton]; omega
 ·rw [decide_eq_false hc]
  simp only [cond_false,Bool.false_and]
  exact H3 (Gg (hnx2 _ rfl))

/-! ### Boxes with a call at which they leave -/
def disOf (b:G9):Int:=1+(b.Kilos.tdiv 100).tmod 4
def J71 (b:G9):G9:=G9.mk b.ID b.Number b.Size b.High b.Kilos b.Load (disOf b) b.Class b.Reefer
theorem find_setD (boxes:List G9) (id:Int):Jw (boxes.map J71) id=(Jw boxes id).map J71:=by
 unfold Jw
 induction boxes with
 | nil=>rfl
 | cons b r ih=>
  rw [List.map_cons,List.find?_cons,List.find?_cons]
  show (match decide (b.ID=id) with | true=>some (J71 b) | false=>_)=_
  cases decide (b.ID=id) with
  | true=>rfl
  | false=>exact ih
theorem J1f (boxes:List G9) (m half:Int):∀ (l:List Stowed) (n:Int),l.foldl (G59 (boxes.map J71) m half) n=l.foldl (G59 boxes m half) n:=by
 intro l
 induction l with
 | nil=>intro n; rfl
 | cons x r ih=>
  intro n
  have e:G59 (boxes.map J71) m half n x=G59 boxes m half n x:=by
   unfold G59
   rw [find_setD]
   cases Jw boxes x.G9 <;> rfl
  rw [List.foldl_cons,List.foldl_cons,e]
  exact ih _
theorem right_setD {s:Gp} {boxes:List G9} {l:List Stowed} (h:Ri s boxes l):Ri s (boxes.map J71) l:=by
 refine⟨fun x hx=>?_,h.sorted,h.apart,fun m c hc=>?_⟩
 ·obtain⟨b,h1,h2⟩:=h.each x hx
  exact⟨J71 b,by rw [find_setD,h1]; rfl,h2⟩
 ·have:=h.fits m c hc
  unfold H3c G31 at this ⊢
  rw [J1f,J1f]
  exact this
theorem disOf_in {b:G9} (h:0≤b.Kilos):1≤disOf b∧disOf b≤4:=by
 unfold disOf
 have h1:(0:Int)≤b.Kilos.tdiv 100:=Int.tdiv_nonneg h (by decide)
 rw [Int.tmod_eq_emod_of_nonneg h1]
 omega
/-- What Made makes. -/
structure H5b (most:Nat) (s:Gp) (boxes:List G9) (l:List Stowed):Prop where
 sta:H07 s boxes l
 num:boxes.length≤most
 len:l.length≤most
 box:∀ b∈boxes,5≤b.ID∧b.ID≤5*(most:Int)∧(b.Size=20∨b.Size=40)∧1≤b.Discharge∧b.Discharge≤4
theorem mem_boxesL {l:List Gi} (hl:∀ d∈l,G6e d) {b:G9} (h:b∈G2e l):5≤b.ID∧b.ID≤5*(l.length:Int)∧(b.Size=20∨b.Size=40)∧0≤b.Kilos∧b.Kilos≤100000:=by
 unfold G2e at h
 obtain⟨p,hp,rfl⟩:=List.mem_map.1 h
 obtain⟨t,i⟩:=p
 have hi:=List.mk_mem_zipIdx_iff_getElem?.1 hp
 have hlt:=(List.getElem?_eq_some_iff.1 hi).1
 rw [List.length_map] at hlt
 rw [List.getElem?_map] at hi
 obtain⟨d,hd,rfl⟩:=Option.map_eq_some_iff.1 hi
 obtain⟨k1,k2⟩:=(hl d (List.mem_of_getElem? hd)).kilos
 have hsz:(H05 (strip d)).1=20∨(H05 (strip d)).1=40:=by
  unfold H05
  cases (strip d).2.1 with
  | true=>exact .inl rfl
  | false=>exact .inr rfl
 refine⟨?_,?_,hsz,?_,?_⟩
 ·show (5:Int)≤5*((i+1:Nat):Int); omega
 ·show 5*((i+1:Nat):Int)≤_; omega
 ·show (0:Int)≤1000+100*d.Kilos; omega
 ·show (1000:Int)+100*d.Kilos≤100000; omega
theorem H73 (l:List Gy) (covers:Int) (drops:List Gi) (hp:∀ p∈l,G87 p) (hd:∀ x∈drops,G6e x) {most:Nat} (hmost:most≤10) :
  Wp (Jg l covers drops (most:Int)) (fun r=>H5b most r.1 r.2.1 r.2.2):=by
 unfold Jg
 refine H3 (wp_mono (built_spec l covers hp) (fun s hB=>?_))
 have hL:=lim_of_built hB
 refine H3 (wp_mono (Loaded_upto (Zd hL) hd hmost) (fun r5 h5=>?_))
 obtain⟨g1,g2,g3⟩:=h5
 have hdr:∀ d∈drops.take (min drops.length most),G6e d:=fun d hh=>hd d (List.mem_of_mem_take hh)
 have hdl:(drops.take (min drops.length most)).length≤most:=by rw [List.length_take]; omega
 have hbx:∀ b∈r5.1,5≤b.ID∧b.ID≤5*(most:Int)∧(b.Size=20∨b.Size=40)∧0≤b.Kilos∧b.Kilos≤100000:=fun b hb=>by
  have:=mem_boxesL hdr (by rw [← g1]; exact hb)
  omega
 have hbl:r5.1.length≤most:=by rw [g1,J8e]; exact hdl
 refine Jf (fun pre t=>t=pre.map J71++r5.1.drop pre.length) (by simp) (fun pre y post t nx e hI hnx=>?_) (fun t hI=>Gg ?_)
 ·subst hI
  have hyk:=(hbx y (by rw [e]; simp)).2.2.2
  have hdrop:r5.1.drop pre.length=y::post:=by rw [e]; simp
  have hget:(pre.map J71++r5.1.drop pre.length)[pre.length]? = some y:=by rw [hdrop,List.getElem?_append_right (by simp)]; simp
  have hdis:=disOf_in (b:=y) hyk.1
  refine Rj rfl hget (H3 (wp_quo (by decide) ⟨by omega,by omega⟩ (H3 (He8 (by decide) (Q7 ?_ (Rj rfl hget (hnx _ ?_)))))))
  ·show -9223372036854775808≤disOf y∧disOf y≤9223372036854775807
   omega
  ·show List.set _ _ (J71 y)=_
   rw [hdrop,show ((pre.length:Int)).toNat=pre.length by omega,List.set_append_right _ _ (by simp)]
   have:r5.1.drop (pre++[y]).length=post:=by rw [e]; simp
   rw [this]
   simp
 ·have hI:t=r5.1.map J71:=by rw [hI]; simp
  subst hI
  exact⟨⟨hL,right_setD g2,by show r5.2.length≤10; omega⟩,by rw [List.length_map]; exact hbl,g3,fun b hb=>by
   obtain⟨b0,hb0,rfl⟩:=List.mem_map.1 hb
   have h1:=hbx b0 hb0
   have h2:=disOf_in (b:=b0) h1.2.2.2.1
   exact⟨h1.1,h1.2.1,h1.2.2.1,h2.1,h2.2⟩⟩

/-! ### Who is in the way -/
/-- What has to be lifted with some boxes. -/
def H80 (s:Gp) (l:List Stowed) (ids:List Int) (b:Int):Prop:=∀ C:Int→Prop,(∀ a b,C a→Pl s l a b→C b)→(∀ a∈ids,C a)→C b
theorem H80.one {s:Gp} {l:List Stowed} {ids:List Int} {b:Int}:H80 s l ids b ↔ ∃ a∈ids,H80 s l [a] b:=by
 constructor
 ·intro h
  refine h (fun b=>∃ a∈ids,H80 s l [a] b) (fun a b ⟨c,hc,hr⟩ hp=>⟨c,hc,fun C h1 h2=>h1 a b (hr C h1 h2) hp⟩) (fun a ha=>⟨a,ha,fun C _ h2=>h2 a (by simp)⟩)
 ·rintro⟨a,ha,h⟩ C h1 h2
  exact h C h1 (fun b hb=>by rw [List.mem_singleton] at hb; rw [hb]; exact h2 a ha)
theorem H80.step {s:Gp} {l:List Stowed} {ids:List Int} {a b:Int} (h:H80 s l ids a) (hp:Pl s l a b):H80 s l ids b:=fun C h1 h2=>h1 a b (h C h1 h2) hp
theorem H80.Yc {s:Gp} {l:List Stowed} {ids:List Int} {b:Int} (h:H80 s l ids b) (hi:∀ a∈ids,a∈l.map (·.G9)):b∈l.map (·.G9):=
 h (·∈l.map (·.G9)) (fun a b _ hp=>by
  obtain⟨x,_,_,y,hy,e,_⟩:=hp
  exact List.mem_map.2 ⟨y,hy,e⟩) hi
theorem H07.rightM {s:Gp} {boxes:List G9} {l:List Stowed} (h:H07 s boxes l):Q2 s boxes l=some true:=by
 have hl:=h.len
 exact Y4 (wp_mono (Gd6 (Zd h.ship).right (Zd h.ship).tier (by omega)) (fun r hr=>hr.2 h.right))
theorem Hd4 (l:List Stowed) (id:Int):G9d l id=some (decide (id∈l.map (·.G9))):=by
 have h:=H12 (p:=fun y:Stowed=>decide (y.G9=id)) (f:=fun z0=>G53 z0 id) (xs:=l) (fun y _=>rfl)
 have e:Q5 l (fun z0=>G53 z0 id)=some (Hcf (fun y:Stowed=>decide (y.G9=id)) l):=h
 unfold G9d Ju
 refine Y4 (H3 (Gs e (Gg (Gg ?_))))
 rw [Gf7,Bool.eq_iff_iff,List.any_eq_true,decide_eq_true_eq,List.mem_map]
 exact⟨fun⟨y,hy,h⟩=>⟨y,hy,of_decide_eq_true h⟩,fun⟨y,hy,h⟩=>⟨y,hy,decide_eq_true h⟩⟩
end Go.Proofs.YtpgkkengffpnpaaGreat
