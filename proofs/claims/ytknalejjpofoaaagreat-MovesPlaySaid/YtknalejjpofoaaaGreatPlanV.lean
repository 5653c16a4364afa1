/-
 The voyages that twistlocklaw23.Voyage makes,and what is lifted between two states.
-/
import Derived.Test.YtknalejjpofoaaaGreatPutB
set_option maxRecDepth 100000
set_option linter.unusedVariables false
namespace Go.Proofs.YtknalejjpofoaaaGreat
open Go.RowKit
section maps
variable {κ ν:Type} [DecidableEq κ]
theorem Q24 (a:κ) (z:ν):H0.get (H0.empty:H0 κ ν) a z=z:=rfl
theorem amap_get_put (m:H0 κ ν) (a b:κ) (v z:ν):H0.get (H0.put m a v) b z=if a=b then v else H0.get m b z:=by
 unfold H0.get H0.put
 simp only [Hf3]
 split <;> rfl
end maps
def J13 (l:List Stowed) (x:Stowed):List Stowed:=l.filter (fun y=>decide (y.Gd < x.Gd))++[x]++l.filter (fun y=>decide (x.Gd < y.Gd))
theorem G06 {α:Type} (p:α→Bool) (l:List α) (x:α):(l++[x]).filter p=l.filter p++(if p x then [x] else []):=by
 rw [List.filter_append]
 by_cases h:p x <;> simp [h]
theorem Q16 (l:List Stowed) (x:Stowed) (hl:l.length≤100000):Rq l x=some (J13 l x):=by
 refine Yq ?_
 unfold Rq J13
 refine J8 (fun pre s=>s=pre.filter (fun y=>decide (y.Gd < x.Gd))) rfl (fun pre y post s nx e hs hnx=>?_) (fun s hs=>?_)
 ·subst hs
  have hp:pre.length+1≤l.length:=by rw [e]; simp
  have hf:=List.length_filter_le (fun y:Stowed=>decide (y.Gd < x.Gd)) pre
  refine Zt (fun j=>j=(pre++[y]).filter (fun y=>decide (y.Gd < x.Gd))) (fun K hK=>H7 (fun h=>Q8 (Z5 (by rw [List.length_singleton]; omega) (by omega)) (hK _ ?_)) (fun h=>hK _ ?_)) (fun j hj=>hnx _ hj)
  ·rw [G06,h]; rfl
  ·rw [G06,h]; simp
 ·subst hs
  have hf:=List.length_filter_le (fun y:Stowed=>decide (y.Gd < x.Gd)) l
  refine Q8 (Z5 (by rw [List.length_singleton]; omega) (by omega)) ?_
  refine J8 (fun pre s=>s=l.filter (fun y=>decide (y.Gd < x.Gd))++[x]++pre.filter (fun y=>decide (x.Gd < y.Gd))) (by simp) (fun pre y post s nx e hs hnx=>?_) (fun s hs=>Gn hs)
  subst hs
  have hp:pre.length+1≤l.length:=by rw [e]; simp
  have hg:=List.length_filter_le (fun y:Stowed=>decide (x.Gd < y.Gd)) pre
  refine Zt (fun j=>j=l.filter (fun y=>decide (y.Gd < x.Gd))++[x]++(pre++[y]).filter (fun y=>decide (x.Gd < y.Gd))) (fun K hK=>H7 (fun h=>Q8 (Z5 (by simp only [List.length_append,List.length_singleton]; omega) (by omega)) (hK _ ?_)) (fun h=>hK _ ?_)) (fun j hj=>hnx _ hj)
  ·rw [G06,h]; simp
  ·rw [G06,h]; simp
theorem Hf8 {l:List Stowed} {x y:Stowed}:y∈J13 l x ↔ y=x∨(y∈l∧y.Gd≠x.Gd):=by
 unfold J13
 simp only [List.mem_append,List.mem_filter,List.mem_singleton,decide_eq_true_eq]
 constructor
 ·rintro((⟨h1,h2⟩ | h) | ⟨h1,h2⟩)
  ·exact .inr ⟨h1,by omega⟩
  ·exact .inl h
  ·exact .inr ⟨h1,by omega⟩
 ·rintro(h | ⟨h1,h2⟩)
  ·exact .inl (.inr h)
  ·rcases Int.lt_or_gt_of_ne h2 with h | h
   ·exact .inl (.inl ⟨h1,h⟩)
   ·exact .inr ⟨h1,h⟩
theorem insSt_length (l:List Stowed) (x:Stowed):(J13 l x).length≤2*l.length+1:=by
 unfold J13
 have h1:=List.length_filter_le (fun y:Stowed=>decide (y.Gd < x.Gd)) l
 have h2:=List.length_filter_le (fun y:Stowed=>decide (x.Gd < y.Gd)) l
 simp only [List.length_append,List.length_singleton]
 omega
def holdsB (l:List Stowed) (id:Int):Bool:=l.any (fun x=>decide (x.Gd=id))
theorem holdsB_iff {l:List Stowed} {id:Int}:holdsB l id=true ↔ id∈l.map (·.Gd):=by
 unfold holdsB
 rw [List.any_eq_true,List.mem_map]
 constructor
 ·rintro⟨x,h1,h2⟩; exact⟨x,h1,of_decide_eq_true h2⟩
 ·rintro⟨x,h1,h2⟩; exact⟨x,h1,decide_eq_true h2⟩
theorem law23_holds (l:List Stowed) (id:Int):M_twistlocklaw23_holds l id=some (holdsB l id):=by
 refine Yq ?_
 unfold M_twistlocklaw23_holds
 refine J8 (fun pre _=>∀ x∈pre,decide (x.Gd=id)=false) (fun x hx=>(List.not_mem_nil hx).elim) (fun pre y post s nx e hI hnx=>H7 (fun h=>Gn ?_) (fun h=>hnx _ (fun x hx=>?_))) (fun s hI=>Gn ?_)
 ·exact(List.any_eq_true.2 ⟨y,by rw [e]; simp,h⟩).symm
 ·rcases List.mem_append.1 hx with hx | hx
  ·exact hI x hx
  ·rw [List.mem_singleton] at hx; subst hx; exact h
 ·refine(List.any_eq_false.2 fun x hx=>?_).symm
  rw [hI x hx]; exact Bool.false_ne_true
def Ge8 (boxes:List Gd) (k:Int):List Int:=(boxes.filter (abB k)).map (·.ID)
theorem plan_aboard (boxes:List Gd) (k:Int) (hl:boxes.length≤100000):G93 boxes k=some (Ge8 boxes k):=by
 refine Yq ?_
 unfold G93 Ge8
 refine J8 (fun pre s=>s=(pre.filter (abB k)).map (·.ID)) rfl (fun pre y post s nx e hs hnx=>?_) (fun s hs=>Gn hs)
 subst hs
 have hp:pre.length+1≤boxes.length:=by rw [e]; simp
 have hf:=List.length_filter_le (abB k) pre
 refine Zt (fun j=>j=((pre++[y]).filter (abB k)).map (·.ID)) (fun K hK=>H7 (fun h=>Q8 (Z5 (by simp only [List.length_map,List.length_singleton]; omega) (by omega)) (hK _ ?_)) (fun h=>hK _ ?_)) (fun j hj=>hnx _ hj)
 ·have h':abB k y=true:=h
  rw [G06,h']; simp
 ·have h':abB k y=false:=h
  rw [G06,h']; simp
theorem equal_ids {l:List Stowed} {ids:List Int} (h:l.map (·.Gd)=ids):Ym l ids (fun z0 z1=>G11 z0 z1)=some true:=by
 refine Yq ?_
 subst h
 unfold Ym
 refine H7 (fun h=>?_) (fun _=>?_)
 ·have:=of_decide_eq_true h
  rw [List.length_map] at this
  exact(this rfl).elim
 refine J8 (fun _ _=>True) trivial (fun pre y post s nx e _ hnx=>?_) (fun s _=>Gn rfl)
 refine Y9 (m:=pre.length) (x:=y.Gd) rfl (by rw [e]; simp) ?_
 have:G11 y y.Gd=some true:=by unfold G11; simp
 exact Gu this (H7 (fun h=>by cases h) (fun _=>hnx _ trivial))
theorem Ga8 (l:List Stowed) (id:Int):G6d l id=some (Y1 l id):=by
 unfold G6d
 have h:Q2 l (fun z0=>G92 z0 id)=some (J34 (fun x:Stowed=>decide (x.Gd=id)) l):=H3b (fun x _=>rfl)
 rw [h]
 simp only [H3c]
 unfold Y1 Hd1
 rcases G49 (fun x:Stowed=>decide (x.Gd=id)) l with ⟨h1,_,h3⟩ | ⟨m,x,h1,h2,_,h4⟩
 ·rw [h1,h3]; rfl
 ·rw [h1,h4,decide_eq_false (by omega),cond_false]
  unfold Q9
  rw [decide_eq_true (by omega),cond_true,show (m:Int).toNat=m by omega,h2]
  rfl
theorem Q1d {l:List Stowed} {id:Int}:(Y1 l id).2=true ↔ id∈l.map (·.Gd):=by
 unfold Y1
 cases h:Hd1 l id with
 | none=>
  refine⟨fun e=>(by cases e),fun e=>?_⟩
  obtain⟨x,hx,he⟩:=List.mem_map.1 e
  have:=List.find?_eq_none.1 h x hx
  simp [he] at this
 | some x=>
  refine⟨fun _=>?_,fun _=>rfl⟩
  have h1:=List.mem_of_find?_eq_some h
  have h2:=of_decide_eq_true (List.find?_some (p:=fun x:Stowed=>decide (x.Gd=id)) h)
  exact List.mem_map.2 ⟨x,h1,h2⟩
theorem H81 {l:List Stowed} {id:Int} (h:(Y1 l id).2=true):∃ x∈l,x.Gd=id∧(Y1 l id).1=x.Slot:=by
 unfold Y1 at h ⊢
 cases hf:Hd1 l id with
 | none=>rw [hf] at h; cases h
 | some x=>exact⟨x,List.mem_of_find?_eq_some hf,of_decide_eq_true (List.find?_some (p:=fun x:Stowed=>decide (x.Gd=id)) hf),rfl⟩
theorem J58 {s:Gw} (h:Jd6 s):LimOk s:=
 ⟨h.some,h.cols.len,fun c hc=>⟨c,0,h.cols.each c hc,.inl rfl,by rw [← (h.cols.each c hc).height]⟩,h.cols.nodup,h.covs⟩
theorem built_small {s:Gw} (h:Jd6 s):Small s:=Gda (J58 h)
theorem set_add (m:H0 Int Unit) (k:Int):G10 m k=some (if H0.has m k then (false,m) else (true,H0.put m k ())):=by
 unfold G10
 cases H0.has m k <;> rfl
structure Hda (s:Gw) (U:List Int) (states:List (List Stowed)):Prop where
 small:Small s
 each:∀ st∈states,∀ x∈st,x.Gd∈U∧H64 s x.Slot
 len:U.length≤1000
structure BoxOk (calls:Int) (b:Gd):Prop where
 id:5≤b.ID∧b.ID≤999999
 size:b.Size=40∨(b.Size=20∧b.High=false)
 load:0≤b.Load
 stay:b.Load < b.Discharge
 out:b.Discharge < calls
structure G23 (calls:Int) (boxes:List Gd):Prop where
 num:1≤calls∧calls≤20
 len:boxes.length≤8
 each:∀ b∈boxes,BoxOk calls b
 sorted:boxes.Pairwise (fun a b=>a.ID < b.ID)
theorem G23.ids {calls:Int} {boxes:List Gd} (h:G23 calls boxes):(boxes.map (·.ID)).Pairwise (· < ·):=List.pairwise_map.2 h.sorted
theorem G23.inj {calls:Int} {boxes:List Gd} (h:G23 calls boxes) {a b:Gd} (ha:a∈boxes) (hb:b∈boxes) (e:a.ID=b.ID):a=b:=by
 obtain⟨i,hi⟩:=List.mem_iff_getElem?.1 ha
 obtain⟨j,hj⟩:=List.mem_iff_getElem?.1 hb
 obtain⟨hi1,hi2⟩:=List.getElem?_eq_some_iff.1 hi
 obtain⟨hj1,hj2⟩:=List.getElem?_eq_some_iff.1 hj
 have hp:=List.pairwise_iff_getElem.1 h.sorted
 rcases Nat.lt_trichotomy i j with hl | hl | hl
 ·have:=hp i j hi1 hj1 hl
  rw [hi2,hj2] at this; omega
 ·subst hl; rw [← hi2,← hj2]
 ·have:=hp j i hj1 hi1 hl
  rw [hi2,hj2] at this; omega
theorem plan_boxes {calls:Int} {boxes:List Gd} (h:G23 calls boxes):Gc8 boxes calls=some true:=by
 refine Yq ?_
 unfold Gc8
 have hc:=h.num
 have hl:=h.len
 refine H7 (fun hb=>?_) (fun _=>?_)
 ·simp only [Bool.or_eq_true,decide_eq_true_eq] at hb
  omega
 refine J8 (fun pre last=>0≤last∧(pre=[]∧last=0∨∃ a∈pre,a.ID=last)) ⟨Int.le_refl _,.inl ⟨rfl,rfl⟩⟩ (fun pre y post last nx e hI hnx=>?_) (fun s _=>Gn rfl)
 have hy:=h.each y (by rw [e]; simp)
 obtain⟨⟨i1,i2⟩,hs,h3,h4,h5⟩:=hy
 have hlast:last < y.ID:=by
  rcases hI.2 with ⟨_,h⟩ | ⟨a,ha,h⟩
  ·omega
  ·have:=h.symm
   have hp:=G23.sorted ‹G23 calls boxes›
   rw [e] at hp
   have:=Gbd hp a ha
   omega
 refine H7 (fun hb=>?_) (fun _=>hnx _ ⟨by omega,.inr ⟨y,by simp,rfl⟩⟩)
 have e1:decide (y.ID≤last)=false:=decide_eq_false (by omega)
 have e2:decide (999999 < y.ID)=false:=decide_eq_false (by omega)
 have e3:decide (y.Load < 0)=false:=decide_eq_false (by omega)
 have e4:decide (y.Discharge≤y.Load)=false:=decide_eq_false (by omega)
 have e5:decide (calls≤y.Discharge)=false:=decide_eq_false (by omega)
 rw [e1,e2,e3,e4,e5] at hb
 rcases hs with hs | ⟨hs,hh⟩
 ·simp [hs] at hb
 ·simp [hs,hh] at hb
structure H13 (s:Gw) (boxes:List Gd) (k:Int) (l:List Stowed):Prop where
 right:Ri s boxes l
 ids:l.map (·.Gd)=Ge8 boxes k
structure J38 (s:Gw) (boxes:List Gd) (calls:Int) (p:H4e):Prop where
 len:(p.States.length:Int)=calls
 each:∀ (k:Nat) l,p.States[k]? = some l→H13 s boxes k l
theorem aboard_len (boxes:List Gd) (k:Int):(Ge8 boxes k).length≤boxes.length:=by
 unfold Ge8
 rw [List.length_map]
 exact List.length_filter_le _ _
theorem H13.len {s:Gw} {boxes:List Gd} {k:Int} {l:List Stowed} (h:H13 s boxes k l):l.length≤boxes.length:=by
 have:=congrArg List.length h.ids
 rw [List.length_map] at this
 rw [this]
 exact aboard_len boxes k
theorem plan_check {s:Gw} {boxes:List Gd} {calls:Int} {p:H4e} (hs:Small s) (hb:G23 calls boxes) (hp:J38 s boxes calls p):Gc7 s boxes calls p=some (0,0):=by
 refine Yq ?_
 unfold Gc7
 have hl:=hb.len
 refine Gu hs.right (H7 (fun h=>by cases h) (fun _=>Gu (plan_boxes hb) (H7 (fun h=>by cases h) (fun _=>H7 (fun h=>?_) (fun _=>?_)))))
 ·exact(of_decide_eq_true h hp.len).elim
 refine J8 (fun _ _=>True) trivial (fun pre y post u nx e _ hnx=>?_) (fun u _=>Gn rfl)
 have hy:H13 s boxes pre.length y:=hp.each pre.length y (by rw [e]; simp)
 have hyl:=hy.len
 refine H4 (wp_mono (G62 hs.right hs.tier (by omega)) (fun r hr=>?_))
 refine H7 (fun h=>?_) (fun _=>?_)
 ·have:=hr.2 hy.right
  rw [this] at h; cases h
 ·refine Gu (plan_aboard boxes pre.length (by omega)) (Gu (equal_ids hy.ids) (H7 (fun h=>by cases h) (fun _=>hnx _ trivial)))
theorem states_ok {s:Gw} {boxes:List Gd} {before after:List Stowed} (hs:Small s) (h1:Ri s boxes before) (h2:Ri s boxes after) (l1:before.length≤100) (l2:after.length≤100) :
  Hda s (before.map (·.Gd)++after.map (·.Gd)) [before,after]:=by
 refine⟨hs,fun st hst x hx=>?_,by simp only [List.length_append,List.length_map]; omega⟩
 simp only [List.mem_cons,List.not_mem_nil,or_false] at hst
 rcases hst with rfl | rfl
 ·obtain⟨b,_,hb,_⟩:=h1.each x hx
  exact⟨List.mem_append.2 (.inl (List.mem_map.2 ⟨x,hx,rfl⟩)),Ga0 hb⟩
 ·obtain⟨b,_,hb,_⟩:=h2.each x hx
  exact⟨List.mem_append.2 (.inr (List.mem_map.2 ⟨x,hx,rfl⟩)),Ga0 hb⟩
theorem Hd9.len {s:Gw} {boxes:List Gd} {k:Int} {l:List Stowed} (h:Hd9 s boxes k l):l.length≤boxes.length:=by
 have h1:(l.map (·.Gd)).Pairwise (· < ·):=List.pairwise_map.2 h.right.sorted
 have:=(Z4 h1).length_le_of_subset (l₂:=boxes.map (·.ID)) (fun a ha=>by
  obtain⟨x,hx,rfl⟩:=List.mem_map.1 ha
  obtain⟨b,hb,e,_⟩:=h.mem x hx
  exact List.mem_map.2 ⟨b,hb,e⟩)
 rw [List.length_map,List.length_map] at this
 exact this
theorem try_spec {s:Gw} {boxes:List Gd} {calls k:Int} {l:List Stowed} {b:Gd} (x:Slot) (hs:Small s) (hb:G23 calls boxes) (h:Hd9 s boxes k l) (hbm:b∈boxes) (hab:abB k b=true) :
  Wp (Re s boxes (J13 l ⟨b.ID,x⟩)) (fun v=>v=true→Hd9 s boxes k (J13 l ⟨b.ID,x⟩)∧b.ID∈(J13 l ⟨b.ID,x⟩).map (·.Gd)∧∀ a∈l.map (·.Gd),a∈(J13 l ⟨b.ID,x⟩).map (·.Gd)):=by
 have hl:=h.len
 have hbl:=hb.len
 have hil:=insSt_length l ⟨b.ID,x⟩
 refine wp_mono (G62 hs.right hs.tier (by omega)) (fun v hv e=>⟨⟨hv.1 e,fun y hy=>?_⟩,List.mem_map.2 ⟨_,Hf8.2 (.inl rfl),rfl⟩,fun a ha=>?_⟩)
 ·rcases Hf8.1 hy with rfl | ⟨hy,_⟩
  ·exact⟨b,hbm,rfl,hab⟩
  ·exact h.mem y hy
 ·obtain⟨y,hy,rfl⟩:=List.mem_map.1 ha
  by_cases hyb:y.Gd=b.ID
  ·exact List.mem_map.2 ⟨_,Hf8.2 (.inl rfl),hyb.symm⟩
  ·exact List.mem_map.2 ⟨y,Hf8.2 (.inr ⟨hy,hyb⟩),rfl⟩
theorem Hd9.done {s:Gw} {boxes:List Gd} {calls k:Int} {l:List Stowed} (hb:G23 calls boxes) (h:Hd9 s boxes k l) (hall:∀ b∈boxes,abB k b=true→b.ID∈l.map (·.Gd)):H13 s boxes k l:=by
 refine⟨h.right,J5b (List.pairwise_map.2 h.right.sorted) (List.pairwise_map.2 (hb.sorted.filter _)) (fun a=>?_)⟩
 unfold Ge8
 constructor
 ·intro ha
  obtain⟨x,hx,rfl⟩:=List.mem_map.1 ha
  obtain⟨b,hb1,e,hab⟩:=h.mem x hx
  exact List.mem_map.2 ⟨b,List.mem_filter.2 ⟨hb1,hab⟩,e⟩
 ·intro ha
  obtain⟨b,hb1,rfl⟩:=List.mem_map.1 ha
  obtain⟨hb2,hab⟩:=List.mem_filter.1 hb1
  exact hall b hb2 hab
theorem voyage_spec {s:Gw} {boxes:List Gd} {home:H0 Int Int} {calls:Int} {F:Nat} (hs:Small s) (hb:G23 calls boxes) (hh:∀ a,0≤H0.get home a 0∧H0.get home a 0≤1000) (hF:60≤F) :
  Wp (Y5 F s boxes home calls) (fun r=>r.2.2=home∧(r.2.1=0→J38 s boxes calls r.1)):=by
 unfold Y5
 have hnum:=hb.num
 have hbl:=hb.len
 have hcols:=hs.cols
 refine Q8 (decide_eq_true (by omega)) ?_
 refine H51 (fun i s6=>s6.1.length=i∧∀ (k:Nat) l,s6.1[k]? = some l→H13 s boxes k l) ⟨rfl,fun k l h=>by simp at h⟩ (fun i s6 nx hi hI hnx=>?_) (fun s6 hI=>Gn ⟨rfl,fun _=>⟨by show (s6.1.length:Int)=calls; have:=hI.1; omega,hI.2⟩⟩)
 refine Q8 (by decide) ?_
 refine H51 (fun _ l=>Hd9 s boxes i l) Hd9.nil (fun t l nx2 ht hl hnx2=>?_) (fun l hl=>?_)
 ·refine J8 (fun _ l=>Hd9 s boxes i l) hl (fun pre y post l nx3 e hl hnx3=>?_) (fun l hl=>hnx2 _ hl)
  have hy:y∈boxes:=by rw [e]; simp
  refine Zt (fun j=>Hd9 s boxes i j) (fun K hK=>?_) (fun j hj=>hnx3 _ hj)
  refine Gu rfl (H7 (fun hc=>?_) (fun _=>hK _ hl))
  have hab:abB i y=true:=by
   simp only [Bool.and_eq_true,decide_eq_true_eq] at hc
   unfold abB
   rw [decide_eq_true (by omega),decide_eq_true hc.2]; rfl
  have hll:=hl.len
  exact Gu (Q16 l _ (by omega)) (H4 (wp_mono (try_spec _ hs hb hl hy hab) (fun r53 h53=>H7 (fun h=>hK _ (h53 h).1) (fun _=>hK _ hl))))
 ·refine J8 (fun pre l=>Hd9 s boxes i l∧∀ b∈pre,abB i b=true→b.ID∈l.map (·.Gd)) ⟨hl,fun b hb=>(List.not_mem_nil hb).elim⟩ (fun pre y post l nx3 e hI3 hnx3=>?_) (fun l hI3=>?_)
  ·obtain⟨hl,hpre⟩:=hI3
   have hy:y∈boxes:=by rw [e]; simp
   have hll:=hl.len
   refine Zt (fun j=>Hd9 s boxes i j∧∀ b∈pre++[y],abB i b=true→b.ID∈j.map (·.Gd)) (fun K hK=>?_) (fun j hj=>hnx3 _ hj)
   by_cases hab:abB i y=true
   ·have hab':=hab
    unfold abB at hab'
    simp only [Bool.and_eq_true,decide_eq_true_eq] at hab'
    rw [decide_eq_false (show ¬ (i:Int) < y.Load by omega),decide_eq_false (show ¬ y.Discharge≤(i:Int) by omega)]
    simp only [Bool.or_self,Bool.not_false,cond_true,Bool.false_or]
    refine Gu (law23_holds l y.ID) (H7 (fun h=>hK _ ⟨hl,fun b hb1 hb2=>?_⟩) (fun h=>?_))
    ·rcases List.mem_append.1 hb1 with hb1 | hb1
     ·exact hpre b hb1 hb2
     ·rw [List.mem_singleton] at hb1; subst hb1
      exact holdsB_iff.1 h
    ·refine wp_loop (fun st:List Stowed×Bool×Int=>Hd9 s boxes i st.1∧(∀ a∈l.map (·.Gd),a∈st.1.map (·.Gd))∧(st.2.1=true→y.ID∈st.1.map (·.Gd))∧0≤st.2.2∧st.2.2≤(s.Columns.length:Int)) (fun st=>s.Columns.length+1 - st.2.2.toNat)
      ⟨hl,fun a ha=>ha,fun h=>(by cases h),Int.le_refl _,by simp⟩ (by show s.Columns.length+1 - 0 < F; omega) (fun st nx4 hst hnx4=>?_)
     obtain⟨l1,done,turn⟩:=st
     obtain⟨i1,i2,i3,i4,i5⟩:=hst
     simp only at i1 i2 i3 i4 i5 ⊢
     refine H7 (fun hc=>?_) (fun hc=>?_)
     ·simp only [Bool.and_eq_true,decide_eq_true_eq,Bool.not_eq_true'] at hc
      obtain⟨c1,rfl⟩:=hc
      refine Zt (fun j=>Hd9 s boxes i j.1∧(∀ a∈l.map (·.Gd),a∈j.1.map (·.Gd))∧(j.2=true→y.ID∈j.1.map (·.Gd))) (fun K' hK'=>?_) (fun j hj=>?_)
      ·refine H4 (wp_mono (slot_all hs y.Size) (fun r72 _=>?_))
       refine J8 (fun _ s99=>s99=(l1,false)) rfl (fun pre2 x post2 s99 nx5 e2 hI5 hnx5=>?_) (fun s99 hI5=>by subst hI5; exact hK' _ ⟨i1,i2,fun h=>by cases h⟩)
       subst hI5
       have hl1:=i1.len
       refine Gu (Q16 l1 _ (by omega)) (Gu rfl ?_)
       have hg:=hh y.ID
       refine Qb ⟨by omega,by omega⟩ (H4 (Hbe (by omega) ?_))
       by_cases hcol:x.G4=(H0.get home y.ID 0+turn).tmod (s.Columns.length:Int)
       ·rw [decide_eq_true hcol]
        simp only [cond_true,Bool.true_and]
        refine H4 (wp_mono (try_spec x hs hb i1 hy hab) (fun r110 h110=>H7 (fun h=>?_) (fun _=>hnx5 _ rfl)))
        obtain⟨g1,g2,g3⟩:=h110 h
        exact hK' _ ⟨g1,fun a ha=>g3 a (i2 a ha),fun _=>g2⟩
       ·rw [decide_eq_false hcol]
        simp only [cond_false,Bool.false_and]
        exact H4 (Gn (hnx5 _ rfl))
      ·obtain⟨j1,j2,j3⟩:=hj
       refine Qb ⟨by omega,by omega⟩ (hnx4 _ ⟨j1,j2,j3,by show 0≤turn+1; omega,by show turn+1≤s.Columns.length; omega⟩ ?_)
       show s.Columns.length+1 - (turn+1).toNat < s.Columns.length+1 - turn.toNat
       omega
     ·refine H7 (fun hd=>Gn ⟨rfl,fun h0=>?_⟩) (fun hd=>hK _ ⟨i1,fun b hb1 hb2=>?_⟩)
      ·have:=(hb.each y hy).id
       have h0':y.ID=0:=h0
       omega
      ·rcases List.mem_append.1 hb1 with hb1 | hb1
       ·exact i2 _ (hpre b hb1 hb2)
       ·rw [List.mem_singleton] at hb1; subst hb1
        exact i3 (by simpa using hd)
   ·have hK2:Hd9 s boxes i l∧∀ b∈pre++[y],abB i b=true→b.ID∈l.map (·.Gd):=⟨hl,fun b hb1 hb2=>by
     rcases List.mem_append.1 hb1 with hb1 | hb1
     ·exact hpre b hb1 hb2
     ·rw [List.mem_singleton] at hb1; subst hb1; exact(hab hb2).elim⟩
    have hor:((decide ((i:Int) < y.Load))||(decide (y.Discharge≤(i:Int))))=true:=by
     unfold abB at hab
     simp only [Bool.and_eq_true,decide_eq_true_eq] at hab
     simp only [Bool.or_eq_true,decide_eq_true_eq]
     omega
    rw [hor]
    simp only [Bool.not_true,cond_false,Bool.true_or,cond_true]
    exact H4 (Gn (hK _ hK2))
  ·obtain⟨hl,hall⟩:=hI3
   have hst:=hl.done hb hall
   refine J8 (fun _ _=>True) trivial (fun pre y post m nx4 e _ hnx4=>hnx4 _ trivial) (fun m _=>?_)
   have hi':i < 20:=by omega
   refine Q8 (Z5 (by rw [List.length_singleton]; have:=hI.1; omega) (by omega)) (hnx _ ⟨by simp [hI.1],fun k l' hk=>?_⟩)
   rw [List.getElem?_append] at hk
   split at hk
   ·exact hI.2 k l' hk
   ·rename_i hkl
    have hk0:k - s6.1.length=0:=by
     have:=(List.getElem?_eq_some_iff.1 hk).1
     simp only [List.length_singleton] at this; omega
    rw [hk0] at hk
    simp only [List.getElem?_cons_zero,Option.some.injEq] at hk
    subst hk
    have:k=i:=by have:=hI.1; omega
    subst this
    exact hst
structure ItemOk (x:Hi):Prop where
 column:Byte x.G4
 kilos:Byte x.Kilos
 load:Byte x.Load
 stay:Byte x.Stay
theorem Voyage_spec {s:Gw} {items:List Hi} {calls:Int} {F:Nat} (hs:Small s) (hi:∀ x∈items,ItemOk x) (hc:2≤calls∧calls≤6) (hF:60≤F) :
  Wp (Y6 F s items calls 8) (fun r=>G23 calls r.1∧J38 s r.1 calls r.2):=by
 unfold Y6
 have hcols:=hs.cols
 refine H4 (Hbf (m:=min items.length 8) (by omega) (by omega) ?_)
 have hl8:(items.take (min items.length 8)).length≤8:=by rw [List.length_take]; omega
 refine J8 (fun pre st=>G23 calls st.1∧st.1.length=pre.length∧(∀ b∈st.1,b.ID≤5*(pre.length:Int))∧∀ a,0≤H0.get st.2 a 0∧H0.get st.2 a 0≤1000)
  ⟨⟨by omega,by simp,fun b hb=>(List.not_mem_nil hb).elim,List.Pairwise.nil⟩,rfl,fun b hb=>(List.not_mem_nil hb).elim,fun a=>by rw [Q24]; omega⟩ (fun pre y post st nx e hI hnx=>?_) (fun st hI=>?_)
 ·obtain⟨hb,hlen,hid,hhome⟩:=hI
  have hy:ItemOk y:=hi y (List.mem_of_mem_take (by rw [e]; simp:y∈items.take (min items.length 8)))
  obtain⟨⟨c1,c2⟩,⟨k1,k2⟩,⟨l1,l2⟩,⟨t1,t2⟩⟩:=hy
  have hp:pre.length < 8:=by rw [e] at hl8; simp only [List.length_append,List.length_cons] at hl8; omega
  refine Qb ⟨by omega,by omega⟩ (Qb ⟨by omega,by omega⟩ (Qb ⟨by omega,by omega⟩ (Qb ⟨by omega,by omega⟩ (Qb ⟨by omega,by omega⟩ (Qb ⟨by omega,by omega⟩ ?_)))))
  refine H4 (Hbe (by omega) ?_)
  have eL:y.Load.tmod (calls - 1)=y.Load % (calls - 1):=Int.tmod_eq_emod_of_nonneg l1
  rw [eL]
  have rL:0≤y.Load % (calls - 1)∧y.Load % (calls - 1) < calls - 1:=⟨Int.emod_nonneg _ (by omega),Int.emod_lt_of_pos _ (by omega)⟩
  generalize y.Load % (calls - 1)=L at rL
  refine Qb ⟨by omega,by omega⟩ (Qb ⟨by omega,by omega⟩ (Qb ⟨by omega,by omega⟩ (Qb ⟨by omega,by omega⟩ ?_)))
  refine H4 (Hbe (by omega) ?_)
  have eS:y.Stay.tmod (calls - 1 - L)=y.Stay % (calls - 1 - L):=Int.tmod_eq_emod_of_nonneg t1
  rw [eS]
  have rS:0≤y.Stay % (calls - 1 - L)∧y.Stay % (calls - 1 - L) < calls - 1 - L:=⟨Int.emod_nonneg _ (by omega),Int.emod_lt_of_pos _ (by omega)⟩
  generalize y.Stay % (calls - 1 - L)=T at rS
  refine Qb ⟨by omega,by omega⟩ ?_
  refine Zt (fun j:Int×Bool=>j.1=40∨(j.1=20∧j.2=false)) (fun K hK=>H7 (fun _=>hK _ (.inr ⟨rfl,rfl⟩)) (fun _=>hK _ (.inl rfl))) (fun j hj=>?_)
  refine Qb ⟨by omega,by omega⟩ (H4 (Hbe (by omega) ?_))
  have eC:y.G4.tmod (s.Columns.length:Int)=y.G4 % (s.Columns.length:Int):=Int.tmod_eq_emod_of_nonneg c1
  rw [eC]
  have rC:0≤y.G4 % (s.Columns.length:Int)∧y.G4 % (s.Columns.length:Int) < s.Columns.length:=⟨Int.emod_nonneg _ (by omega),Int.emod_lt_of_pos _ (by omega)⟩
  generalize y.G4 % (s.Columns.length:Int)=C at rC
  refine Q8 (Z5 (by rw [List.length_singleton]; omega) (by omega)) (hnx _ ⟨⟨by omega,by simp only [List.length_append,List.length_singleton]; omega,fun b hb'=>?_,?_⟩,by simp [hlen],fun b hb'=>?_,fun a=>?_⟩)
  ·rcases List.mem_append.1 hb' with hb' | hb'
   ·exact hb.each b hb'
   ·rw [List.mem_singleton] at hb'; subst hb'
    exact⟨⟨by simp only; omega,by simp only; omega⟩,hj,by simp only; omega,by simp only; omega,by simp only; omega⟩
  ·refine H6c hb.sorted (fun a ha=>?_)
   have:=hid a ha
   simp only
   omega
  ·rw [List.length_append,List.length_singleton]
   rcases List.mem_append.1 hb' with hb' | hb'
   ·have:=hid b hb'; omega
   ·rw [List.mem_singleton] at hb'; subst hb'
    simp only; omega
  ·rw [amap_get_put]
   split
   ·omega
   ·exact hhome a
 ·obtain⟨hb,hlen,_,hhome⟩:=hI
  have hbl:=hb.len
  refine Qb ⟨by omega,by omega⟩ (Q8 (decide_eq_true (by omega)) ?_)
  refine H51 (fun _ st=>G23 calls st.1∧∀ a,0≤H0.get st.2 a 0∧H0.get st.2 a 0≤1000) ⟨hb,hhome⟩ (fun i st nx hi hI hnx=>?_) (fun st _=>?_)
  ·obtain⟨hb,hhome⟩:=hI
   refine H4 (wp_mono (voyage_spec hs hb hhome hF) (fun r153 h153=>?_))
   obtain⟨g1,g2⟩:=h153
   refine H7 (fun h=>Gn ⟨hb,g2 (of_decide_eq_true h)⟩) (fun _=>?_)
   have hbl:=hb.len
   refine J8 (fun pre l=>l=pre.filter (fun b=>decide (b.ID≠r153.2.1))) rfl (fun pre y post l nx2 e hl hnx2=>?_) (fun l hl=>?_)
   ·subst hl
    have hf:=List.length_filter_le (fun b:Gd=>decide (b.ID≠r153.2.1)) pre
    have hp:pre.length+1≤st.1.length:=by rw [e]; simp
    refine Zt (fun j=>j=(pre++[y]).filter (fun b=>decide (b.ID≠r153.2.1))) (fun K hK=>H7 (fun h=>Q8 (Z5 (by rw [List.length_singleton]; omega) (by omega)) (hK _ ?_)) (fun h=>hK _ ?_)) (fun j hj=>hnx2 _ hj)
    ·rw [G06,h]; rfl
    ·rw [G06,h]; simp
   ·subst hl
    refine hnx _ ⟨⟨hb.num,?_,fun b hb'=>hb.each b (List.mem_filter.1 hb').1,hb.sorted.filter _⟩,by rw [g1]; exact hhome⟩
    have:=List.length_filter_le (fun b:Gd=>decide (b.ID≠r153.2.1)) st.1
    show (st.1.filter (fun b=>decide (b.ID≠r153.2.1))).length≤8
    omega
  ·obtain⟨m,hm⟩:∃ m:Nat,calls=(m:Int):=⟨calls.toNat,by omega⟩
   have hno:natOf calls=some m:=by
    unfold natOf
    rw [decide_eq_true (by omega),hm]
    rfl
   refine Gu hno (Q8 (decide_eq_true ⟨by omega,Nat.le_trans (show m≤6 by omega) (by decide),by omega⟩) (Gn ⟨⟨by omega,by simp,fun b hb=>(List.not_mem_nil hb).elim,List.Pairwise.nil⟩,by simp [hm],fun k l hk=>?_⟩))
   have:l=[]:=by
    have:=List.mem_of_getElem? hk
    exact List.eq_of_mem_replicate this
   subst this
   exact⟨J2c,rfl⟩
section
variable {s:Gw} {U:List Int} {states:List (List Stowed)} {l l' l2:List Int} {id y:Int} {m m2:H0 Int Unit}
end
theorem H7f {α:Type} {P:α→Prop} {l:List α} {x:α} (h1:∀ y∈l,P y) (h2:P x):∀ y∈l++[x],P y:=fun y hy=>by
 rcases List.mem_append.1 hy with hy | hy
 ·exact h1 y hy
 ·exact List.mem_singleton.1 hy ▸ h2
theorem add_full {s:Gw} {U:List Int} {states:List (List Stowed)} (hs:Hda s U states):∀ (F:Nat) (id:Int) (m:H0 Int Unit) (l:List Int),G96 U m l→id∈U→U.length+1≤F+l.length →
  Wp (Rb F id m l states s) (fun r=>Grown s U states l id r.1 r.2):=by
 intro F
 induction F with
 | zero=>intro id m l hi _ hF; have:=hi.le; omega
 | succ F ih=>
  intro id m l hi hid hF
  show Wp (Zs (Rb F) F id m l states s) _
  unfold Zs
  refine Gu (set_add m id) ?_
  rw [hi.has]
  by_cases hmem:id∈l
  ·rw [if_pos (decide_eq_true hmem)]
   exact H7 (fun _=>Gn ⟨hi,fun a ha=>ha,hmem,fun a ha hn=>(hn ha).elim,fun C _ hl _ a ha=>hl a ha⟩) (fun h=>by cases h)
  rw [if_neg (by rw [decide_eq_false hmem]; exact Bool.false_ne_true)]
  refine H7 (fun h=>by cases h) (fun _=>?_)
  have hle:=hi.le
  have hlen:=hs.len
  have h1:=hi.snoc hmem hid
  have h1le:=h1.le
  have hl1:(l++[id]).length=l.length+1:=by simp
  refine Q8 (Z5 (by rw [List.length_singleton]; omega) (by omega)) ?_
  have again:∀ (y:Stowed) (st:List Stowed) (m':H0 Int Unit) (l':List Int),st∈states→y∈st→Rch s U states l id m' l'→G8e s states id y.Gd →
    Wp (Rb F y.Gd m' l' states s) (fun r=>Rch s U states l id r.1 r.2∧(∀ a∈l',a∈r.2)∧y.Gd∈r.2):=
   fun y st m' l' h2 h3 h4 h5=>wp_mono (ih y.Gd m' l' h4.inv (hs.each st h2 y h3).1 (by
    have:=h1.nodup.length_le_of_subset (fun a ha=>h4.sub a ha)
    omega)) (fun r hr=>h4.step h5 hr)
  have hcov:∀ {k:Nat} {c:G4},s.Columns[k]? = some c→Qv s (k:Int)=some (Jt s c):=fun hc=>G75 hc (fun x hx=>by have:=hs.small.rows x hx; omega) (by have:=hs.small.covs; omega)
  refine J8 (fun pre s7=>Rch s U states l id s7.1 s7.2∧∀ st∈pre,∀ b,PullsIn s states st id b→b∈s7.2) ⟨.start h1,fun st h=>(List.not_mem_nil h).elim⟩ (fun pre st post s7 nx e hI hnx=>?_) (fun s7 hI=>Gn ?_)
  ·have hst:st∈states:=by rw [e]; simp
   obtain⟨hR,hD⟩:=hI
   refine Zt (fun j=>Rch s U states l id j.1 j.2∧(∀ a∈s7.2,a∈j.2)∧∀ b,PullsIn s states st id b→b∈j.2) (fun K hK=>?_) (fun j hj=>hnx _ ⟨hj.1,H7f (fun st' h' b hb=>hj.2.1 _ (hD st' h' b hb)) hj.2.2⟩)
   refine Gu (Ga8 st id) (H7 (fun hf=>hK _ ⟨hR,fun a ha=>ha,fun b hb=>?_⟩) (fun hf=>?_))
   ·rw [hb.1] at hf; cases hf
   have hft:(Y1 st id).2=true:=by simpa using hf
   obtain⟨x,hx,_,hxs⟩:=H81 hft
   obtain⟨m0,c0,hm0,hc0⟩:=(hs.each st hst x hx).2
   rw [hxs]
   refine Zt (fun j17=>j17=if c0.Deck=true then -1 else Jt s c0) (fun K' hK'=>Y9 hm0 hc0 (H7 (fun hd=>?_) (fun hd=>hK' _ (by
    rw [if_pos (by simpa using hd)])))) (fun j17 h17=>?_)
   ·rw [hm0]
    exact Gu (hcov hc0) (hK' _ (by rw [if_neg (by simpa using hd)]))
   refine J8 (fun pre s56=>Rch s U states l id s56.1 s56.2∧(∀ a∈s7.2,a∈s56.2)∧∀ y∈pre,Gc1 y.Slot x.Slot→y.Gd∈s56.2) ⟨hR,fun a ha=>ha,fun y h=>(List.not_mem_nil h).elim⟩ (fun pre y post s56 nx e hI hnx=>?_) (fun s56 hI=>?_)
   ·have hy:y∈st:=by rw [e]; simp
    obtain⟨i1,i2,i3⟩:=hI
    refine Zt (fun j=>Rch s U states l id j.1 j.2∧(∀ a∈s56.2,a∈j.2)∧(Gc1 y.Slot x.Slot→y.Gd∈j.2)) (fun K' hK'=>?_) (fun j hj=>hnx _ ⟨hj.1,fun a ha=>hj.2.1 a (i2 a ha),H7f (fun y' h' ho=>hj.2.1 _ (i3 y' h' ho)) hj.2.2⟩)
    refine H4 (wp_mono (J74 y.Slot x.Slot) (fun r62 h62=>H7 (fun hr=>?_) (fun hr=>hK' _ ⟨i1,fun a ha=>ha,fun ho=>?_⟩)))
    ·exact H4 (wp_mono (again y st _ _ hst hy i1 ⟨st,hst,hft,.inl ⟨y,hy,rfl,by rw [hxs]; exact h62.1 hr⟩⟩) (fun r hr=>hK' _ ⟨hr.1,hr.2.1,fun _=>hr.2.2⟩))
    ·rw [h62.2 ho] at hr; cases hr
   ·obtain⟨i1,i2,i3⟩:=hI
    refine J8 (fun pre s65=>Rch s U states l id s65.1 s65.2∧(∀ a∈s56.2,a∈s65.2)∧∀ st2∈pre,∀ y∈st2,upon s x.Slot y.Slot→y.Gd∈s65.2) ⟨i1,fun a ha=>ha,fun st2 h=>(List.not_mem_nil h).elim⟩ (fun pre st2 post s65 nx e hI hnx=>?_) (fun s65 hI=>hK _ ⟨hI.1,fun a ha=>hI.2.1 a (i2 a ha),fun b hb=>?_⟩)
    ·obtain⟨j1,j2,j3⟩:=hI
     have hst2:st2∈states:=by rw [e]; simp
     refine J8 (fun pre s107=>Rch s U states l id s107.1 s107.2∧(∀ a∈s65.2,a∈s107.2)∧∀ y∈pre,upon s x.Slot y.Slot→y.Gd∈s107.2) ⟨j1,fun a ha=>ha,fun y h=>(List.not_mem_nil h).elim⟩ (fun pre y post s107 nx2 e hI hnx2=>?_) (fun s107 hI=>hnx _ ⟨hI.1,fun a ha=>hI.2.1 a (j2 a ha),H7f (fun st' h' y hy hu=>hI.2.1 _ (j3 st' h' y hy hu)) hI.2.2⟩)
     obtain⟨k1,k2,k3⟩:=hI
     have hy:y∈st2:=by rw [e]; simp
     obtain⟨m1,c1,hm1,hc1⟩:=(hs.each st2 hst2 y hy).2
     have hup:upon s x.Slot y.Slot ↔ (0≤j17∧c1.Deck=true∧Jt s c1=j17):=by
      constructor
      ·rintro⟨n0,d0,n1,d1,e1,e2,e3,e4,q1,q2,q3,q4⟩
       have e5:n0=m0:=by omega
       have e6:n1=m1:=by omega
       subst e5 e6
       rw [hc0] at e2; cases e2
       rw [hc1] at e4; cases e4
       rw [if_neg (by rw [q1]; exact Bool.false_ne_true)] at h17
       rw [h17]
       exact⟨q3,q2,q4⟩
      ·rintro⟨q1,q2,q3⟩
       by_cases hd:c0.Deck=true
       ·rw [if_pos hd] at h17; omega
       ·rw [if_neg hd] at h17
        exact⟨m0,c0,m1,c1,hm0,hc0,hm1,hc1,by simpa using hd,q2,by omega,by omega⟩
     refine Zt (fun j=>Rch s U states l id j.1 j.2∧(∀ a∈s107.2,a∈j.2)∧(upon s x.Slot y.Slot→y.Gd∈j.2)) (fun K' hK'=>?_) (fun j hj=>hnx2 _ ⟨hj.1,fun a ha=>hj.2.1 a (k2 a ha),H7f (fun y' h' ho=>hj.2.1 _ (k3 y' h' ho)) hj.2.2⟩)
     by_cases hj:0≤j17
     ·rw [decide_eq_true hj]
      simp only [cond_true,Bool.true_and]
      refine H4 (Y9 hm1 hc1 (Gn ?_))
      cases hd:c1.Deck with
      | true=>
       simp only [cond_true,Bool.true_and]
       rw [hm1]
       refine Gu (hcov hc1) (H7 (fun hc=>?_) (fun hc=>hK' _ ⟨k1,fun a ha=>ha,fun hu=>?_⟩))
       ·exact H4 (wp_mono (again y st2 _ _ hst2 hy k1 ⟨st,hst,hft,.inr ⟨st2,hst2,y,hy,rfl,by rw [hxs]; exact hup.2 ⟨hj,hd,of_decide_eq_true hc⟩⟩⟩) (fun r hr=>hK' _ ⟨hr.1,hr.2.1,fun _=>hr.2.2⟩))
       ·exact(of_decide_eq_false hc (hup.1 hu).2.2).elim
      | false=>
       simp only [cond_false,Bool.false_and]
       exact H4 (Gn (hK' _ ⟨k1,fun a ha=>ha,fun hu=>by have:=(hup.1 hu).2.1; rw [hd] at this; cases this⟩))
     ·rw [decide_eq_false hj]
      simp only [cond_false,Bool.false_and]
      exact H4 (Gn (H4 (Gn (hK' _ ⟨k1,fun a ha=>ha,fun hu=>(hj (hup.1 hu).1).elim⟩))))
    ·rcases hb.2 with ⟨y,hy,rfl,ho⟩ | ⟨st2,h2,y,hy,rfl,hu⟩
     ·exact hI.2.1 _ (i3 y hy (by rw [← hxs]; exact ho))
     ·exact hI.2.2 st2 h2 y hy (by rw [← hxs]; exact hu)
  ·obtain⟨hR,hD⟩:=hI
   refine⟨hR.inv,fun a ha=>hR.sub a (List.mem_append.2 (.inl ha)),hR.sub id (by simp),fun a ha hn b hb=>?_,hR.least⟩
   by_cases e:a=id
   ·subst e
    obtain⟨st,hst,hp⟩:=hb
    exact hD st hst b hp
   ·exact hR.closed a ha hn e b hb
theorem He5.perm {s:Gw} {before after:List Stowed} {l l':List Int} (h:He5 s before after l) (hp:∀ a,a∈l' ↔ a∈l):He5 s before after l':=
 ⟨fun st hst y hy hne=>(hp _).2 (h.seeds st hst y hy hne),fun a ha b hb=>(hp b).2 (h.closed a ((hp a).1 ha) b hb),fun C hc hl a ha=>h.least C hc hl a ((hp a).1 ha)⟩
theorem differ {p q:Slot×Bool}:((!(p.2==q.2))||(!decide (p.1=q.1)))=true ↔ p≠q:=by
 obtain⟨p1,p2⟩:=p
 obtain⟨q1,q2⟩:=q
 simp only [Bool.or_eq_true,Bool.not_eq_true',beq_eq_false_iff_ne,decide_eq_false_iff_not,ne_eq,Prod.mk.injEq,not_and]
 constructor
 ·rintro(h | h) h1 h2
  ·exact h h2
  ·exact h h1
 ·intro h
  by_cases e:p1=q1
  ·exact .inl (h e)
  ·exact .inr e
theorem lifted_full {s:Gw} {U:List Int} {before after:List Stowed} (hs:Hda s U [before,after]) {F:Nat} (hF:U.length+1≤F) :
  Wp (Z8 F s before after) (fun r=>r.Pairwise (· < ·)∧(∀ a∈r,a∈U)∧He5 s before after r):=by
 unfold Z8
 have go:∀ {m:H0 Int Unit} {l:List Int} {y:Stowed} {st:List Stowed} {m2:H0 Int Unit} {l2:List Int},st∈[before,after]→y∈st→Y1 before y.Gd≠Y1 after y.Gd →
   (G96 U m l∧(∀ a∈l,∀ b,G8e s [before,after] a b→b∈l)∧∀ C:Int→Prop,(∀ a b,C a→G8e s [before,after] a b→C b)→(∀ st∈[before,after],∀ y∈st,Y1 before y.Gd≠Y1 after y.Gd→C y.Gd)→∀ a∈l,C a) →
   Grown s U [before,after] l y.Gd m2 l2 →
   (G96 U m2 l2∧(∀ a∈l2,∀ b,G8e s [before,after] a b→b∈l2)∧∀ C:Int→Prop,(∀ a b,C a→G8e s [before,after] a b→C b)→(∀ st∈[before,after],∀ y∈st,Y1 before y.Gd≠Y1 after y.Gd→C y.Gd)→∀ a∈l2,C a):=
  fun {m l y st m2 l2} hst hy hne hI g=>⟨g.inv,fun a ha b hb=>by
   by_cases hal:a∈l
   ·exact g.sub b (hI.2.1 a hal b hb)
   ·exact g.closed a ha hal b hb,fun C hc hl=>g.least C hc (hI.2.2 C hc hl) (hl st hst y hy hne)⟩
 refine J8 (fun pre s9=>(G96 U s9.1 s9.2∧(∀ a∈s9.2,∀ b,G8e s [before,after] a b→b∈s9.2)∧∀ C:Int→Prop,(∀ a b,C a→G8e s [before,after] a b→C b)→(∀ st∈[before,after],∀ y∈st,Y1 before y.Gd≠Y1 after y.Gd→C y.Gd)→∀ a∈s9.2,C a) ∧
   ∀ st∈pre,∀ y∈st,Y1 before y.Gd≠Y1 after y.Gd→y.Gd∈s9.2)
  ⟨⟨.start,fun a h=>(List.not_mem_nil h).elim,fun C _ _ a h=>(List.not_mem_nil h).elim⟩,fun st h=>(List.not_mem_nil h).elim⟩ (fun pre st post s9 nx e hI hnx=>?_) (fun s9 hI=>?_)
 ·have hst:st∈[before,after]:=by rw [e]; simp
  obtain⟨hA,hB⟩:=hI
  refine J8 (fun pre s59=>(G96 U s59.1 s59.2∧(∀ a∈s59.2,∀ b,G8e s [before,after] a b→b∈s59.2)∧∀ C:Int→Prop,(∀ a b,C a→G8e s [before,after] a b→C b)→(∀ st∈[before,after],∀ y∈st,Y1 before y.Gd≠Y1 after y.Gd→C y.Gd)→∀ a∈s59.2,C a) ∧
    (∀ a∈s9.2,a∈s59.2)∧∀ y∈pre,Y1 before y.Gd≠Y1 after y.Gd→y.Gd∈s59.2)
   ⟨hA,fun a ha=>ha,fun y h=>(List.not_mem_nil h).elim⟩ (fun pre y post s59 nx2 e hI hnx2=>?_) (fun s59 hI=>hnx _ ⟨hI.1,H7f (fun st' h' y hy hne=>hI.2.1 _ (hB st' h' y hy hne)) hI.2.2⟩)
  have hy:y∈st:=by rw [e]; simp
  obtain⟨j1,j2,j3⟩:=hI
  refine Zt (fun j=>(G96 U j.1 j.2∧(∀ a∈j.2,∀ b,G8e s [before,after] a b→b∈j.2)∧∀ C:Int→Prop,(∀ a b,C a→G8e s [before,after] a b→C b)→(∀ st∈[before,after],∀ y∈st,Y1 before y.Gd≠Y1 after y.Gd→C y.Gd)→∀ a∈j.2,C a) ∧
    (∀ a∈s59.2,a∈j.2)∧(Y1 before y.Gd≠Y1 after y.Gd→y.Gd∈j.2)) (fun K hK=>?_) (fun j hj=>hnx2 _ ⟨hj.1,fun a ha=>hj.2.1 a (j2 a ha),H7f (fun y' h' ho=>hj.2.1 _ (j3 y' h' ho)) hj.2.2⟩)
  refine Gu (Ga8 before y.Gd) (Gu (Ga8 after y.Gd) (H7 (fun hd=>?_) (fun hd=>hK _ ⟨j1,fun a ha=>ha,fun hne=>?_⟩)))
  ·have hne:=differ.1 hd
   exact H4 (wp_mono (add_full hs F y.Gd _ _ j1.1 (hs.each st hst y hy).1 (by omega)) (fun r hr=>hK _ ⟨go hst hy hne j1 hr,hr.sub,fun _=>hr.has⟩))
  ·rw [differ.2 hne] at hd; cases hd
 ·obtain⟨⟨hA,hB,hC⟩,hD⟩:=hI
  have h1:=hA.le
  have h2:=hs.len
  have hse:H9d s9.2=some (Gbb s9.2):=by
   unfold H9d
   rw [decide_eq_true (show s9.2.length < 4611686018427387904 by omega)]
   rfl
  have hp:=H2d s9.2
  refine Gu hse (Gn ⟨?_,fun a ha=>hA.sub a (hp.mem_iff.1 ha),He5.perm ⟨hD,hB,hC⟩ (fun a=>hp.mem_iff)⟩)
  have hn:(Gbb s9.2).Nodup:=hp.nodup_iff.2 hA.nodup
  exact(List.pairwise_and_iff.2 ⟨H9c s9.2,hn⟩).imp (fun {a b} h=>by have h1:=h.1; have h2:=h.2; omega)
section
variable {s:Gw} {boxes:List Gd} {before after:List Stowed} {r:List Int}
end
theorem Q14 {s:Gw} {boxes:List Gd} {before after:List Stowed} {F:Nat} (hs:Small s) (h1:Ri s boxes before) (h2:Ri s boxes after) (l1:before.length≤9) (l2:after.length≤9) (hF:60≤F) :
  Wp (Z9 F s boxes before after) (fun r=>r.2=0∧r.1.Pairwise (· < ·)∧(∀ a∈r.1,a∈before.map (·.Gd)++after.map (·.Gd))∧He5 s before after r.1):=by
 unfold Z9
 refine H4 (wp_mono (G62 hs.right hs.tier (by omega)) (fun r4 h4=>?_))
 rw [h4.2 h1]
 simp only [Bool.not_true,Bool.not_false,cond_true,Bool.false_or]
 refine H4 (wp_mono (G62 hs.right hs.tier (by omega)) (fun r5 h5=>?_))
 rw [h5.2 h2]
 simp only [Bool.not_true,cond_false]
 exact H4 (wp_mono (lifted_full (states_ok hs h1 h2 (by omega) (by omega)) (by simp only [List.length_append,List.length_map]; omega)) (fun r hr=>Gn ⟨rfl,hr⟩))
end Go.Proofs.YtknalejjpofoaaaGreat
