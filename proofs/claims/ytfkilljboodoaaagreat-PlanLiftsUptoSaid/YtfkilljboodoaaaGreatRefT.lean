/-
 When a state is right: what the reference says.
-/
import Derived.Test.YtfkilljboodoaaaGreatLiftT
set_option maxRecDepth 100000
set_option linter.unusedVariables false
namespace Go.Proofs.YtfkilljboodoaaaGreat
open Go.RowKit

theorem Gaf {α:Type} [Inhabited α] {c:Bool} {m:Option α} {x:α} (h:c=true→m=some x):∃ r,(bif c then m else some default)=some r∧(c=true→r=x):=by
 cases c with
 | true=>exact⟨x,h rfl,fun _=>rfl⟩
 | false=>exact⟨default,rfl,fun e=>by cases e⟩
theorem ref_find (boxes:List Gv) (id:Int):Yc boxes id=some (match G3d boxes id with
  | some b=>(b,true)
  | none=>(Gv.mk 0 ByteArray.empty 0 false 0 0 0 0 false,false)):=by
 refine G6b ?_
 unfold Yc
 refine Qg (fun pre _=>∀ b∈pre,¬ b.ID=id) (fun b hb=>(List.not_mem_nil hb).elim) (fun pre y post s nx e hI hnx=>Jg (fun h=>Gi ?_) (fun h=>hnx _ (Qo (P:=fun b:Gv=>¬ b.ID=id) hI (of_decide_eq_false h)))) (fun s hI=>Gi ?_)
 ·have:G3d boxes id=some y:=by
   unfold G3d
   rw [e,List.find?_append,List.find?_eq_none.2 (fun b hb=>by simpa using hI b hb)]
   simp only [Option.none_or,List.find?_cons,h]
  rw [this]
 ·have:G3d boxes id=none:=by
   unfold G3d
   exact List.find?_eq_none.2 (fun b hb=>by simpa using hI b hb)
  rw [this]
theorem ref_slot (s:Hb) (x:Slot) (size:Int):Wp (Z8 s x size) (fun r=>r=true ↔ J08 s x size):=by
 unfold Z8
 have hhalf:(((decide (size=40))&&(decide (x.Half=0)))||((decide (size=20))&&((decide (x.Half=1))||(decide (x.Half=2)))))=true ↔ x.Half∈He5 size:=by
  unfold He5
  simp only [Bool.or_eq_true,Bool.and_eq_true,decide_eq_true_eq]
  by_cases h4:size=40
  ·rw [if_pos h4]; subst h4; simp
  ·rw [if_neg h4]
   by_cases h2:size=20
   ·rw [if_pos h2]; subst h2; simp
   ·rw [if_neg h2]; simp [h4,h2]
 by_cases h0:0≤x.G4∧x.G4 < (s.Columns.length:Int)∧0≤x.Tier
 ·obtain⟨m,hm⟩:∃ m:Nat,x.G4=(m:Int):=⟨x.G4.toNat,by omega⟩
  have hml:m < s.Columns.length:=by omega
  have hc:s.Columns[m]? = some s.Columns[m]:=by simp [hml]
  have hok:((decide (x.G4 < 0)||decide ((s.Columns.length:Int)≤x.G4))||decide (x.Tier < 0))=false:=by
   simp only [Bool.or_eq_false_iff,decide_eq_false_iff_not]; omega
  rw [hok]
  simp only [Bool.not_false,cond_true,Bool.false_or]
  rw [hm]
  refine H5 ((Qa hc some).trans rfl) (Jg (fun h=>Gi (Rc fun hs=>?_)) (fun h=>Gi ?_))
  ·obtain⟨m',c,e1,e2,e3⟩:=hs.col
   have:m'=m:=by omega
   subst this
   rw [hc] at e2; cases e2
   have:=of_decide_eq_true h
   omega
  ·rw [hhalf]
   exact⟨fun hh=>⟨⟨m,_,hm,hc,by have:=of_decide_eq_false h; omega⟩,h0.2.2,hh⟩,fun hs=>hs.half⟩
 ·have hok:((decide (x.G4 < 0)||decide ((s.Columns.length:Int)≤x.G4))||decide (x.Tier < 0))=true:=by
   simp only [Bool.or_eq_true,decide_eq_true_eq]; omega
  rw [hok]
  simp only [Bool.not_true,cond_false,Bool.true_or,cond_true]
  refine H6 (Gi (Gi (Rc fun hs=>h0 ?_)))
  obtain⟨m',c,e1,e2,e3⟩:=hs.col
  have:=(List.getElem?_eq_some_iff.1 e2).1
  have:=hs.tier
  omega
theorem J4e (l:List Slot) (x:Slot) (half:Int) (ht : -1000000≤x.Tier∧x.Tier≤1000000):Wp (R5 l x half) (fun r=>r=true ↔ below l x half):=by
 unfold R5 below
 have key:∀ y:Slot,(y.G4=x.G4∧y.Tier=x.Tier - 1∧y.Half=half) ↔ y=⟨x.G4,x.Tier - 1,half⟩:=fun y=>by
  cases y
  simp
 refine Qg (fun pre _=>∀ y∈pre,¬ y=⟨x.G4,x.Tier - 1,half⟩) (fun b hb=>(List.not_mem_nil hb).elim) (fun pre y post s nx e hI hnx=>?_) (fun s hI=>Gi (Rc fun h=>hI _ h rfl))
 obtain⟨r,e1,h1⟩:=Gaf (c:=decide (y.G4=x.G4)) (m:=G32 (x.Tier - 1) some) (x:=x.Tier - 1) (fun _=>G6b (G2a ⟨by omega,by omega⟩ (Gi rfl)))
 refine H5 e1 (Jg (fun h=>Gi ⟨fun _=>?_,fun _=>rfl⟩) (fun h=>hnx _ (Qo hI fun hy=>?_)))
 ·simp only [Bool.and_eq_true,decide_eq_true_eq] at h
  have hr:=h1 (decide_eq_true h.1.1)
  have:=(key y).1 ⟨h.1.1,by rw [h.1.2,hr],h.2⟩
  rw [← this,e]; simp
 ·have hk:=(key y).2 hy
  have hr:=h1 (decide_eq_true hk.1)
  rw [hr,decide_eq_true hk.1,decide_eq_true hk.2.1,decide_eq_true hk.2.2] at h
  cases h
theorem ref_held (x:Slot) (l:List Slot) (ht : -1000000≤x.Tier∧x.Tier≤1000000):Wp (Zj x l) (fun r=>r=true ↔ J39 x l):=by
 unfold Zj J39
 refine Jg (fun h=>Gi ⟨fun _=>.inl (of_decide_eq_true h),fun _=>rfl⟩) (fun h=>?_)
 have h0:=of_decide_eq_false h
 refine Jg (fun h=>?_) (fun h=>?_)
 ·have hh:=of_decide_eq_true h
  refine H6 (wp_mono (J4e l x 0 ht) (fun r8 h8=>?_))
  rw [hh]
  cases r8 with
  | true=>exact H6 (Gi (H6 (Gi (Gi ⟨fun _=>.inr (.inl (h8.1 rfl)),fun _=>rfl⟩))))
  | false=>
   simp only [Bool.not_false,cond_true,Bool.true_and,Bool.false_or]
   refine H6 (wp_mono (J4e l x 1 ht) (fun r9 h9=>?_))
   have n0:¬ below l x 0:=fun hb=>by have:=h8.2 hb; cases this
   cases r9 with
   | true=>
    simp only [cond_true,Bool.true_and]
    refine H6 (wp_mono (J4e l x 2 ht) (fun r10 h10=>Gi ?_))
    rw [h10]
    exact⟨fun hb=>.inr (.inr ⟨trivial,h9.1 rfl,hb⟩),fun hh=>hh.elim (fun h=>(h0 h).elim) (fun h=>h.elim (fun h=>(n0 h).elim) (fun h=>h.2.2))⟩
   | false=>
    simp only [cond_false,Bool.false_and]
    refine H6 (Gi (Gi (Rc fun hh=>hh.elim h0 (fun h=>h.elim n0 (fun h=>?_)))))
    have:=h9.2 h.2.1; cases this
 ·have hh:=of_decide_eq_false h
  refine H6 (wp_mono (J4e l x x.Half ht) (fun r h1=>Gi ?_))
  rw [h1]
  exact⟨fun h=>.inr (.inl h),fun h=>h.elim (fun h=>(h0 h).elim) (fun h=>h.elim (fun h=>h) (fun h=>(hh h.1).elim))⟩
def Hda (a b:Int):Bool:=((decide (a=b))||(decide (a=0)))||(decide (b=0))
theorem J70 (a b:Int):Qy a b=some (Hda a b):=rfl
theorem J2c {a b:Int}:Hda a b=true ↔ H17 a b:=by
 unfold Hda H17
 simp only [Bool.or_eq_true,decide_eq_true_eq,or_assoc]
theorem ref_meet (a b:Slot):Wp (Zi a b) (fun r=>r=true ↔ H62 a b):=by
 unfold Zi H62
 obtain⟨r,e1,h1⟩:=Gaf (c:=decide (a.G4=b.G4)&&decide (a.Tier=b.Tier)) (m:=Qy a.Half b.Half) (x:=Hda a.Half b.Half) (fun _=>J70 _ _)
 refine H5 e1 (Gi ?_)
 cases hc:(decide (a.G4=b.G4)&&decide (a.Tier=b.Tier)) with
 | true=>
  rw [h1 hc]
  simp only [Bool.and_eq_true,decide_eq_true_eq] at hc
  rw [Bool.true_and,J2c]
  exact⟨fun h=>⟨hc.1,hc.2,h⟩,fun h=>h.2.2⟩
 | false=>
  simp only [Bool.false_and]
  refine Rc fun h=>?_
  rw [decide_eq_true h.1,decide_eq_true h.2.1] at hc
  cases hc
theorem ref_over (a b:Slot):Wp (Zh a b) (fun r=>r=true ↔ Hee a b):=by
 unfold Zh Hee
 obtain⟨r,e1,h1⟩:=Gaf (c:=decide (a.G4=b.G4)&&decide (b.Tier < a.Tier)) (m:=Qy a.Half b.Half) (x:=Hda a.Half b.Half) (fun _=>J70 _ _)
 refine H5 e1 (Gi ?_)
 cases hc:(decide (a.G4=b.G4)&&decide (b.Tier < a.Tier)) with
 | true=>
  rw [h1 hc]
  simp only [Bool.and_eq_true,decide_eq_true_eq] at hc
  rw [Bool.true_and,J2c]
  exact⟨fun h=>⟨hc.1,hc.2,h⟩,fun h=>h.2.2⟩
 | false=>
  simp only [Bool.false_and]
  refine Rc fun h=>?_
  rw [decide_eq_true h.1,decide_eq_true h.2.1] at hc
  cases hc
theorem J6f (boxes:List Gv) (l:List G6) (column half:Int) (hl:l.length≤1000000):Qx boxes l column half=some (G4f boxes l column half):=by
 refine G6b ?_
 unfold Qx
 refine Qg (fun pre n=>n=G4f boxes pre column half∧0≤n∧n≤2896*(pre.length:Int)) ⟨rfl,by omega,by simp⟩ (fun pre y post n nx e hI hnx=>?_) (fun n hI=>Gi hI.1)
 obtain⟨i1,i2,i3⟩:=hI
 have hpl:pre.length < 1000000:=by rw [e] at hl; simp only [List.length_append,List.length_cons] at hl; omega
 have hstep:G4f boxes (pre++[y]) column half=Hca boxes column half n y:=by
  unfold G4f; rw [List.foldl_append,i1]; rfl
 have hle:=addH_le (boxes:=boxes) (column:=column) (half:=half) (n:=n) (x:=y)
 refine H60 (fun j=>j=Hca boxes column half n y) (fun K hK=>?_) (fun j hj=>hnx _ ⟨by rw [hstep,hj],by omega,by rw [List.length_append,List.length_singleton]; omega⟩)
 refine H5 (ref_find boxes y.Gv) ?_
 unfold Hca at hK
 cases hf:G3d boxes y.Gv with
 | none=>
  rw [hf] at hK
  simp only [Bool.not_false,Bool.true_or,cond_true]
  exact hK _ (by split <;> rfl)
 | some b=>
  rw [hf] at hK
  simp only [Bool.not_true,Bool.false_or]
  refine Jg (fun h=>hK _ ?_) (fun h=>?_)
  ·simp only [Bool.or_eq_true,Bool.and_eq_true,decide_eq_true_eq,ne_eq] at h
   have hneg:¬ (y.Slot.G4=column∧(y.Slot.Half=half∨y.Slot.Half=0)):=fun hc=>h.elim (fun h=>h hc.1) (fun h=>hc.2.elim h.1 h.2)
   rw [if_neg hneg]
  ·simp only [Bool.or_eq_false_iff,Bool.and_eq_false_iff,decide_eq_false_iff_not,ne_eq,Decidable.not_not] at h
   rw [if_pos ⟨h.1,h.2⟩] at hK
   unfold tallI at hK
   refine Jg (fun hh=>G2a ⟨by omega,by omega⟩ (hK _ (by show _=n+(if b.High=true then 2896 else 2591); rw [if_pos hh]))) (fun hh=>G2a ⟨by omega,by omega⟩ (hK _ (by show _=n+(if b.High=true then 2896 else 2591); rw [if_neg (by rw [hh]; simp)])))
theorem ref_slots (l:List G6) (hl:l.length≤1000000):Z7 l=some (l.map (·.Slot)):=by
 refine G6b ?_
 unfold Z7
 refine Qg (fun pre s=>s=pre.map (·.Slot)) rfl (fun pre y post s nx e hI hnx=>?_) (fun s hI=>Gi hI)
 have hpl:pre.length < 1000000:=by rw [e] at hl; simp only [List.length_append,List.length_cons] at hl; omega
 subst hI
 refine G1d (roomS (by rw [List.length_map,List.length_singleton]; omega) (by omega)) (hnx _ (by simp))
theorem ref_high {s:Hb} {boxes:List Gv} {l:List G6} {m:Nat} {c:G4} (hc:s.Columns[m]? = some c) (h0:0≤c.Height) (hl:l.length≤1000000):Wp (Zg s boxes l (m:Int)) (fun r=>r=true ↔ ¬ J3c boxes l m c):=by
 unfold Zg J3c
 rw [Qa hc]
 refine Jg (fun h=>Gi (Rc fun h2=>h2 (.inl (by have:=of_decide_eq_true h; omega)))) (fun h=>?_)
 have hh:=of_decide_eq_false h
 refine H5 (J6f boxes l m 1 hl) ?_
 rw [Qa hc]
 obtain⟨r,e1,h1⟩:=Gaf (c:=!(decide (c.Height < G4f boxes l m 1))) (m:=Qx boxes l m 2) (x:=G4f boxes l m 2) (fun _=>J6f boxes l m 2 hl)
 obtain⟨r2,e2,h2⟩:=Gaf (c:=!(decide (c.Height < G4f boxes l m 1))) (m:=Q3 s.Columns (m:Int) some) (x:=c) (fun _=>Qa hc some)
 refine H5 e1 (H5 e2 (Gi ?_))
 by_cases hlt:c.Height < G4f boxes l m 1
 ·rw [decide_eq_true hlt,Bool.true_or]
  exact⟨fun _ hf=>by omega,fun _=>rfl⟩
 ·have e3:=h1 (by rw [decide_eq_false hlt]; rfl)
  have e4:=h2 (by rw [decide_eq_false hlt]; rfl)
  rw [e3,e4,decide_eq_false hlt,Bool.false_or,decide_eq_true_eq]
  omega
theorem ref_stow {F:Nat} {s:Hb} {boxes:List Gv} {l:List G6} (hp:∀ c∈s.Columns,c.Plugs.length≤1048576) (hr:∀ x∈s.Covers,x.Rows.length≤1048576) (hb:∀ b∈boxes,0≤b.Size∧b.Size≤255) (hl:l.length≤1000000) :
  Wp (Y1 F s boxes l) (fun r=>r=true ↔ H35 s∧Zk s boxes l):=by
 unfold Y1
 refine H6 (wp_mono (ref_right (F:=F) s hp hr) (fun r hs=>Jg (fun h=>Gi (Rc fun hh=>?_)) (fun h=>?_)))
 ·rw [hs.2 hh.1] at h; cases h
 have hS:H35 s:=by
  cases r with
  | true=>exact hs.1 rfl
  | false=>cases h
 have htier:∀ c∈s.Columns,c.Tiers≤10:=fun c hc=>by have:=(hS.col c hc).place; omega
 refine Qg (fun pre _=>(∀ x∈pre,∃ b,G3d boxes x.Gv=some b∧J08 s x.Slot b.Size∧J39 x.Slot (l.map (·.Slot)))∧pre.Pairwise (fun a b=>a.Gv < b.Gv)∧pre.Pairwise (fun a b=>¬ H62 b.Slot a.Slot))
  ⟨fun x hx=>(List.not_mem_nil hx).elim,List.Pairwise.nil,List.Pairwise.nil⟩ (fun pre y post u nx e hI hnx=>?_) (fun u hI=>?_)
 ·obtain⟨i1,i2,i3⟩:=hI
  have hym:y∈l:=by rw [e]; simp
  have hpl:pre.length < l.length:=by rw [e]; simp
  refine H5 (ref_find boxes y.Gv) ?_
  cases hf:G3d boxes y.Gv with
  | none=>
   simp only [Bool.not_false,Bool.not_true,cond_false,Bool.true_or,cond_true]
   refine H6 (Gi (H6 (Gi (H6 (Gi (H6 (Gi (Gi (Rc fun hh=>?_)))))))))
   obtain⟨b,h1,_⟩:=hh.2.each y hym
   rw [hf] at h1; cases h1
  | some b=>
   have hbm:b∈boxes:=List.mem_of_find?_eq_some hf
   have hbs:=hb b hbm
   simp only [Bool.not_true,Bool.not_false,cond_true,Bool.false_or]
   refine H6 (G2a ⟨by omega,by omega⟩ (Gi (H6 (wp_mono (ref_slot s y.Slot b.Size) (fun r17 h17=>?_)))))
   cases r17 with
   | false=>
    simp only [Bool.not_false,Bool.not_true,cond_false,Bool.true_or,cond_true]
    refine H6 (Gi (H6 (Gi (Gi (Rc fun hh=>?_)))))
    obtain⟨b',h1,h2,_⟩:=hh.2.each y hym
    rw [hf] at h1; cases h1
    have:=h17.2 h2; cases this
   | true=>
    have hslot:=h17.1 rfl
    simp only [Bool.not_true,Bool.not_false,cond_true,Bool.false_or]
    refine H5 (ref_slots l hl) ?_
    have htr : -1000000≤y.Slot.Tier∧y.Slot.Tier≤1000000:=by
     obtain⟨m',c,_,e2,e3⟩:=hslot.col
     have:=htier c (List.mem_of_getElem? e2)
     have:=hslot.tier
     omega
    refine H6 (wp_mono (ref_held y.Slot (l.map (·.Slot)) htr) (fun r19 h19=>Jg (fun h=>Gi (Rc fun hh=>?_)) (fun h=>?_)))
    ·obtain⟨b',h1,_,h2⟩:=hh.2.each y hym
     rw [h19.2 h2] at h; cases h
    have hheld:J39 y.Slot (l.map (·.Slot)):=by
     cases r19 with
     | true=>exact h19.1 rfl
     | false=>cases h
    refine G1d (decide_eq_true (by omega)) ?_
    rw [show (pre.length:Int).toNat=pre.length by omega]
    refine H99 (fun i _=>∀ (k:Nat) z,k < i→pre[k]? = some z→z.Gv < y.Gv∧¬ H62 z.Slot y.Slot) (fun k z hk=>by omega) (fun i u nx2 hi hJ hnx2=>?_) (fun u hJ=>hnx _ ?_)
    ·have hx:pre[i]? = some (pre[i]'hi):=List.getElem?_eq_getElem hi
     have hsx:l[i]? = some (pre[i]'hi):=by rw [e,List.getElem?_append_left hi]; exact hx
     have hzm:pre[i]'hi∈pre:=List.getElem_mem _
     generalize pre[i]'hi=z at hx hsx hzm
     rw [Qa hsx]
     obtain⟨q1,e1,h1⟩:=Gaf (c:=!(decide (y.Gv≤z.Gv))) (m:=Q3 l (i:Int) some) (x:=z) (fun _=>Qa hsx some)
     refine H5 e1 ?_
     by_cases hbz:y.Gv≤z.Gv
     ·rw [decide_eq_true hbz]
      simp only [Bool.not_true,cond_false,Bool.true_or,cond_true]
      refine H6 (Gi (Gi (Rc fun hh=>?_)))
      have h1:=hh.2.sorted
      rw [e] at h1
      have:=(List.pairwise_append.1 h1).2.2 z hzm y (by simp)
      omega
     ·have hq:=h1 (by rw [decide_eq_false hbz]; rfl)
      subst hq
      rw [decide_eq_false hbz]
      simp only [Bool.not_false,cond_true,Bool.false_or]
      refine H6 (wp_mono (ref_meet q1.Slot y.Slot) (fun r47 h47=>Jg (fun h=>Gi (Rc fun hh=>?_)) (fun h=>hnx2 _ (fun k c hk2 hc2=>?_))))
      ·have h1:=hh.2.apart
       rw [e] at h1
       have h2:=(List.pairwise_append.1 h1).2.2 q1 hzm y (by simp)
       have h3:=h47.1 h
       refine h2 ?_
       unfold H62 H17 at h3 ⊢
       obtain⟨a1,a2,a3⟩:=h3
       exact⟨a1.symm,a2.symm,by omega⟩
      ·by_cases hki:k < i
       ·exact hJ k c hki hc2
       ·have:k=i:=by omega
        subst this
        rw [hx] at hc2
        cases hc2
        exact⟨by omega,fun h3=>by rw [h47.2 h3] at h; cases h⟩
    ·have hall:∀ z∈pre,z.Gv < y.Gv∧¬ H62 z.Slot y.Slot:=fun z hz=>by
      obtain⟨k,hk⟩:=List.mem_iff_getElem?.1 hz
      exact hJ k z (List.getElem?_eq_some_iff.1 hk).1 hk
     refine⟨Qo i1 ⟨b,hf,hslot,hheld⟩,H51 i2 (fun z hz=>(hall z hz).1),H51 i3 (fun z hz h3=>(hall z hz).2 ?_)⟩
     unfold H62 H17 at h3 ⊢
     obtain⟨a1,a2,a3⟩:=h3
     exact⟨a1.symm,a2.symm,by omega⟩
 ·obtain⟨i1,i2,i3⟩:=hI
  refine Qg (fun pre _=>∀ (k:Nat) c,k < pre.length→s.Columns[k]? = some c→J3c boxes l k c) (fun k c hk=>by simp at hk) (fun pre y post u nx e hJ hnx=>?_) (fun u hJ=>Gi ⟨fun _=>⟨hS,i1,i2,i3,fun m c hc=>hJ m c (List.getElem?_eq_some_iff.1 hc).1 hc⟩,fun _=>rfl⟩)
  have hy:s.Columns[pre.length]? = some y:=by rw [e]; simp
  have h0:0≤y.Height:=by have:=(hS.col y (by rw [e]; simp)).place; omega
  refine H6 (wp_mono (ref_high (boxes:=boxes) (l:=l) hy h0 hl) (fun r67 h67=>Jg (fun h=>Gi (Rc fun hh=>h67.1 h (hh.2.fits _ _ hy))) (fun h=>hnx _ (fun k c hk hc=>?_))))
  rw [List.length_append,List.length_singleton] at hk
  by_cases hkp:k < pre.length
  ·exact hJ k c hkp hc
  ·have:k=pre.length:=by omega
   subst this
   rw [hy] at hc
   cases hc
   refine Classical.byContradiction fun hf=>?_
   rw [h67.2 hf] at h; cases h
/-- What the program says of a state, of any ship. -/
theorem prog_stow {s:Hb} {boxes:List Gv} {l:List G6} (hp:∀ c∈s.Columns,c.Plugs.length≤1048576) (hr:∀ x∈s.Covers,x.Rows.length≤1048576) (hl:l.length≤1000000) :
  Wp (G0b s boxes l) (fun r=>r=true ↔ H35 s∧Zk s boxes l):=by
 obtain⟨r,er,hs⟩:=J6b s hp hr
 cases r with
 | true=>
  have hS:=hs.1 rfl
  refine wp_mono (stow_right er (fun c hc=>by have:=(hS.col c hc).place; omega) hl) (fun r h=>h.trans ⟨fun h=>⟨hS,h⟩,fun h=>h.2⟩)
 | false=>
  unfold G0b
  refine H5 er (Jg (fun _=>Gi (Rc fun hh=>?_)) (fun h=>by cases h))
  have:=hs.2 hh.1; cases this
end Go.Proofs.YtfkilljboodoaaaGreat
