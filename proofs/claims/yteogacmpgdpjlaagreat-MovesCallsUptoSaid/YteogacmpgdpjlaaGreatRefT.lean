/-
 When a state is right: what the reference says.
-/
import Derived.Test.YteogacmpgdpjlaaGreatLiftT
set_option maxRecDepth 100000
set_option linter.unusedVariables false
namespace Go.Proofs.YteogacmpgdpjlaaGreat
open Go.RowKit

theorem H1d {α:Type} [Inhabited α] {c:Bool} {m:Option α} {x:α} (h:c=true→m=some x):∃ r,(bif c then m else some default)=some r∧(c=true→r=x):=by
 cases c with
 | true=>exact⟨x,h rfl,fun _=>rfl⟩
 | false=>exact⟨default,rfl,fun e=>by cases e⟩
theorem ref_find (boxes:List H2) (id:Int):Zb boxes id=some (match G7e boxes id with
  | some b=>(b,true)
  | none=>(H2.mk 0 ByteArray.empty 0 false 0 0 0 0 false,false)):=by
 refine G38 ?_
 unfold Zb
 refine Q3 (fun pre _=>∀ b∈pre,¬ b.ID=id) (fun b hb=>(List.not_mem_nil hb).elim) (fun pre y post s nx e hI hnx=>Hm (fun h=>Gn ?_) (fun h=>hnx _ (Q1 (P:=fun b:H2=>¬ b.ID=id) hI (of_decide_eq_false h)))) (fun s hI=>Gn ?_)
 ·have:G7e boxes id=some y:=by
   unfold G7e
   rw [e,List.find?_append,List.find?_eq_none.2 (fun b hb=>by simpa using hI b hb)]
   simp only [Option.none_or,List.find?_cons,h]
  rw [this]
 ·have:G7e boxes id=none:=by
   unfold G7e
   exact List.find?_eq_none.2 (fun b hb=>by simpa using hI b hb)
  rw [this]
theorem ref_slot (s:H8) (x:Slot) (size:Int):Wp (G0f s x size) (fun r=>r=true ↔ Jb6 s x size):=by
 unfold G0f
 have hhalf:(((decide (size=40))&&(decide (x.Half=0)))||((decide (size=20))&&((decide (x.Half=1))||(decide (x.Half=2)))))=true ↔ x.Half∈J89 size:=by
  unfold J89
  simp only [Bool.or_eq_true,Bool.and_eq_true,decide_eq_true_eq]
  by_cases h4:size=40
  ·rw [if_pos h4]; subst h4; simp
  ·rw [if_neg h4]
   by_cases h2:size=20
   ·rw [if_pos h2]; subst h2; simp
   ·rw [if_neg h2]; simp [h4,h2]
 by_cases h0:0≤x.G4∧x.G4 < (s.Columns.length:Int)∧0≤x.Tier
 ·obtain⟨m,hm⟩:∃ m:Nat,x.G4=(m:Int):=⟨x.G4.toNat,by omega⟩
  have hml:m < s.Columns.length:=by omega
  have hc:s.Columns[m]? = some s.Columns[m]:=by simp [hml]
  have hok:((decide (x.G4 < 0)||decide ((s.Columns.length:Int)≤x.G4))||decide (x.Tier < 0))=false:=by
   simp only [Bool.or_eq_false_iff,decide_eq_false_iff_not]; omega
  rw [hok]
  simp only [Bool.not_false,cond_true,Bool.false_or]
  rw [hm]
  refine Gy ((Qg hc some).trans rfl) (Hm (fun h=>Gn (Y1 fun hs=>?_)) (fun h=>Gn ?_))
  ·obtain⟨m',c,e1,e2,e3⟩:=hs.col
   have:m'=m:=by omega
   subst this
   rw [hc] at e2; cases e2
   have:=of_decide_eq_true h
   omega
  ·rw [hhalf]
   exact⟨fun hh=>⟨⟨m,_,hm,hc,by have:=of_decide_eq_false h; omega⟩,h0.2.2,hh⟩,fun hs=>hs.half⟩
 ·have hok:((decide (x.G4 < 0)||decide ((s.Columns.length:Int)≤x.G4))||decide (x.Tier < 0))=true:=by
   simp only [Bool.or_eq_true,decide_eq_true_eq]; omega
  rw [hok]
  simp only [Bool.not_true,cond_false,Bool.true_or,cond_true]
  refine H5 (Gn (Gn (Y1 fun hs=>h0 ?_)))
  obtain⟨m',c,e1,e2,e3⟩:=hs.col
  have:=(List.getElem?_eq_some_iff.1 e2).1
  have:=hs.tier
  omega
theorem Jfd (l:List Slot) (x:Slot) (half:Int) (ht : -1000000≤x.Tier∧x.Tier≤1000000):Wp (Rw l x half) (fun r=>r=true ↔ below l x half):=by
 unfold Rw below
 have key:∀ y:Slot,(y.G4=x.G4∧y.Tier=x.Tier - 1∧y.Half=half) ↔ y=⟨x.G4,x.Tier - 1,half⟩:=fun y=>by
  cases y
  simp
 refine Q3 (fun pre _=>∀ y∈pre,¬ y=⟨x.G4,x.Tier - 1,half⟩) (fun b hb=>(List.not_mem_nil hb).elim) (fun pre y post s nx e hI hnx=>?_) (fun s hI=>Gn (Y1 fun h=>hI _ h rfl))
 obtain⟨r,e1,h1⟩:=H1d (c:=decide (y.G4=x.G4)) (m:=Yn (x.Tier - 1) some) (x:=x.Tier - 1) (fun _=>G38 (G1a ⟨by omega,by omega⟩ (Gn rfl)))
 refine Gy e1 (Hm (fun h=>Gn ⟨fun _=>?_,fun _=>rfl⟩) (fun h=>hnx _ (Q1 hI fun hy=>?_)))
 ·simp only [Bool.and_eq_true,decide_eq_true_eq] at h
  have hr:=h1 (decide_eq_true h.1.1)
  have:=(key y).1 ⟨h.1.1,by rw [h.1.2,hr],h.2⟩
  rw [← this,e]; simp
 ·have hk:=(key y).2 hy
  have hr:=h1 (decide_eq_true hk.1)
  rw [hr,decide_eq_true hk.1,decide_eq_true hk.2.1,decide_eq_true hk.2.2] at h
  cases h
theorem ref_held (x:Slot) (l:List Slot) (ht : -1000000≤x.Tier∧x.Tier≤1000000):Wp (G20 x l) (fun r=>r=true ↔ Je5 x l):=by
 unfold G20 Je5
 refine Hm (fun h=>Gn ⟨fun _=>.inl (of_decide_eq_true h),fun _=>rfl⟩) (fun h=>?_)
 have h0:=of_decide_eq_false h
 refine Hm (fun h=>?_) (fun h=>?_)
 ·have hh:=of_decide_eq_true h
  refine H5 (wp_mono (Jfd l x 0 ht) (fun r8 h8=>?_))
  rw [hh]
  cases r8 with
  | true=>exact H5 (Gn (H5 (Gn (Gn ⟨fun _=>.inr (.inl (h8.1 rfl)),fun _=>rfl⟩))))
  | false=>
   simp only [Bool.not_false,cond_true,Bool.true_and,Bool.false_or]
   refine H5 (wp_mono (Jfd l x 1 ht) (fun r9 h9=>?_))
   have n0:¬ below l x 0:=fun hb=>by have:=h8.2 hb; cases this
   cases r9 with
   | true=>
    simp only [cond_true,Bool.true_and]
    refine H5 (wp_mono (Jfd l x 2 ht) (fun r10 h10=>Gn ?_))
    rw [h10]
    exact⟨fun hb=>.inr (.inr ⟨trivial,h9.1 rfl,hb⟩),fun hh=>hh.elim (fun h=>(h0 h).elim) (fun h=>h.elim (fun h=>(n0 h).elim) (fun h=>h.2.2))⟩
   | false=>
    simp only [cond_false,Bool.false_and]
    refine H5 (Gn (Gn (Y1 fun hh=>hh.elim h0 (fun h=>h.elim n0 (fun h=>?_)))))
    have:=h9.2 h.2.1; cases this
 ·have hh:=of_decide_eq_false h
  refine H5 (wp_mono (Jfd l x x.Half ht) (fun r h1=>Gn ?_))
  rw [h1]
  exact⟨fun h=>.inr (.inl h),fun h=>h.elim (fun h=>(h0 h).elim) (fun h=>h.elim (fun h=>h) (fun h=>(hh h.1).elim))⟩
def J7b (a b:Int):Bool:=((decide (a=b))||(decide (a=0)))||(decide (b=0))
theorem Q33 (a b:Int):Re a b=some (J7b a b):=rfl
theorem Jd2 {a b:Int}:J7b a b=true ↔ H8c a b:=by
 unfold J7b H8c
 simp only [Bool.or_eq_true,decide_eq_true_eq,or_assoc]
theorem ref_meet (a b:Slot):Wp (G1f a b) (fun r=>r=true ↔ Hed a b):=by
 unfold G1f Hed
 obtain⟨r,e1,h1⟩:=H1d (c:=decide (a.G4=b.G4)&&decide (a.Tier=b.Tier)) (m:=Re a.Half b.Half) (x:=J7b a.Half b.Half) (fun _=>Q33 _ _)
 refine Gy e1 (Gn ?_)
 cases hc:(decide (a.G4=b.G4)&&decide (a.Tier=b.Tier)) with
 | true=>
  rw [h1 hc]
  simp only [Bool.and_eq_true,decide_eq_true_eq] at hc
  rw [Bool.true_and,Jd2]
  exact⟨fun h=>⟨hc.1,hc.2,h⟩,fun h=>h.2.2⟩
 | false=>
  simp only [Bool.false_and]
  refine Y1 fun h=>?_
  rw [decide_eq_true h.1,decide_eq_true h.2.1] at hc
  cases hc
theorem ref_over (a b:Slot):Wp (G1e a b) (fun r=>r=true ↔ J93 a b):=by
 unfold G1e J93
 obtain⟨r,e1,h1⟩:=H1d (c:=decide (a.G4=b.G4)&&decide (b.Tier < a.Tier)) (m:=Re a.Half b.Half) (x:=J7b a.Half b.Half) (fun _=>Q33 _ _)
 refine Gy e1 (Gn ?_)
 cases hc:(decide (a.G4=b.G4)&&decide (b.Tier < a.Tier)) with
 | true=>
  rw [h1 hc]
  simp only [Bool.and_eq_true,decide_eq_true_eq] at hc
  rw [Bool.true_and,Jd2]
  exact⟨fun h=>⟨hc.1,hc.2,h⟩,fun h=>h.2.2⟩
 | false=>
  simp only [Bool.false_and]
  refine Y1 fun h=>?_
  rw [decide_eq_true h.1,decide_eq_true h.2.1] at hc
  cases hc
theorem Q32 (boxes:List H2) (l:List G6) (column half:Int) (hl:l.length≤1000000):Rc boxes l column half=some (G98 boxes l column half):=by
 refine G38 ?_
 unfold Rc
 refine Q3 (fun pre n=>n=G98 boxes pre column half∧0≤n∧n≤2896*(pre.length:Int)) ⟨rfl,by omega,by simp⟩ (fun pre y post n nx e hI hnx=>?_) (fun n hI=>Gn hI.1)
 obtain⟨i1,i2,i3⟩:=hI
 have hpl:pre.length < 1000000:=by rw [e] at hl; simp only [List.length_append,List.length_cons] at hl; omega
 have hstep:G98 boxes (pre++[y]) column half=J6d boxes column half n y:=by
  unfold G98; rw [List.foldl_append,i1]; rfl
 have hle:=addH_le (boxes:=boxes) (column:=column) (half:=half) (n:=n) (x:=y)
 refine G82 (fun j=>j=J6d boxes column half n y) (fun K hK=>?_) (fun j hj=>hnx _ ⟨by rw [hstep,hj],by omega,by rw [List.length_append,List.length_singleton]; omega⟩)
 refine Gy (ref_find boxes y.H2) ?_
 unfold J6d at hK
 cases hf:G7e boxes y.H2 with
 | none=>
  rw [hf] at hK
  simp only [Bool.not_false,Bool.true_or,cond_true]
  exact hK _ (by split <;> rfl)
 | some b=>
  rw [hf] at hK
  simp only [Bool.not_true,Bool.false_or]
  refine Hm (fun h=>hK _ ?_) (fun h=>?_)
  ·simp only [Bool.or_eq_true,Bool.and_eq_true,decide_eq_true_eq,ne_eq] at h
   have hneg:¬ (y.Slot.G4=column∧(y.Slot.Half=half∨y.Slot.Half=0)):=fun hc=>h.elim (fun h=>h hc.1) (fun h=>hc.2.elim h.1 h.2)
   rw [if_neg hneg]
  ·simp only [Bool.or_eq_false_iff,Bool.and_eq_false_iff,decide_eq_false_iff_not,ne_eq,Decidable.not_not] at h
   rw [if_pos ⟨h.1,h.2⟩] at hK
   unfold tallI at hK
   refine Hm (fun hh=>G1a ⟨by omega,by omega⟩ (hK _ (by show _=n+(if b.High=true then 2896 else 2591); rw [if_pos hh]))) (fun hh=>G1a ⟨by omega,by omega⟩ (hK _ (by show _=n+(if b.High=true then 2896 else 2591); rw [if_neg (by rw [hh]; simp)])))
theorem ref_slots (l:List G6) (hl:l.length≤1000000):G0e l=some (l.map (·.Slot)):=by
 refine G38 ?_
 unfold G0e
 refine Q3 (fun pre s=>s=pre.map (·.Slot)) rfl (fun pre y post s nx e hI hnx=>?_) (fun s hI=>Gn hI)
 have hpl:pre.length < 1000000:=by rw [e] at hl; simp only [List.length_append,List.length_cons] at hl; omega
 subst hI
 refine Qy (H06 (by rw [List.length_map,List.length_singleton]; omega) (by omega)) (hnx _ (by simp))
theorem ref_high {s:H8} {boxes:List H2} {l:List G6} {m:Nat} {c:G4} (hc:s.Columns[m]? = some c) (h0:0≤c.Height) (hl:l.length≤1000000):Wp (G1d s boxes l (m:Int)) (fun r=>r=true ↔ ¬ Je7 boxes l m c):=by
 unfold G1d Je7
 rw [Qg hc]
 refine Hm (fun h=>Gn (Y1 fun h2=>h2 (.inl (by have:=of_decide_eq_true h; omega)))) (fun h=>?_)
 have hh:=of_decide_eq_false h
 refine Gy (Q32 boxes l m 1 hl) ?_
 rw [Qg hc]
 obtain⟨r,e1,h1⟩:=H1d (c:=!(decide (c.Height < G98 boxes l m 1))) (m:=Rc boxes l m 2) (x:=G98 boxes l m 2) (fun _=>Q32 boxes l m 2 hl)
 obtain⟨r2,e2,h2⟩:=H1d (c:=!(decide (c.Height < G98 boxes l m 1))) (m:=Jc s.Columns (m:Int) some) (x:=c) (fun _=>Qg hc some)
 refine Gy e1 (Gy e2 (Gn ?_))
 by_cases hlt:c.Height < G98 boxes l m 1
 ·rw [decide_eq_true hlt,Bool.true_or]
  exact⟨fun _ hf=>by omega,fun _=>rfl⟩
 ·have e3:=h1 (by rw [decide_eq_false hlt]; rfl)
  have e4:=h2 (by rw [decide_eq_false hlt]; rfl)
  rw [e3,e4,decide_eq_false hlt,Bool.false_or,decide_eq_true_eq]
  omega
theorem ref_stow {F:Nat} {s:H8} {boxes:List H2} {l:List G6} (hp:∀ c∈s.Columns,c.Plugs.length≤1048576) (hr:∀ x∈s.Covers,x.Rows.length≤1048576) (hb:∀ b∈boxes,0≤b.Size∧b.Size≤255) (hl:l.length≤1000000) :
  Wp (Yx F s boxes l) (fun r=>r=true ↔ H25 s∧R0 s boxes l):=by
 unfold Yx
 refine H5 (wp_mono (ref_right (F:=F) s hp hr) (fun r hs=>Hm (fun h=>Gn (Y1 fun hh=>?_)) (fun h=>?_)))
 ·rw [hs.2 hh.1] at h; cases h
 have hS:H25 s:=by
  cases r with
  | true=>exact hs.1 rfl
  | false=>cases h
 have htier:∀ c∈s.Columns,c.Tiers≤10:=fun c hc=>by have:=(hS.col c hc).place; omega
 refine Q3 (fun pre _=>(∀ x∈pre,∃ b,G7e boxes x.H2=some b∧Jb6 s x.Slot b.Size∧Je5 x.Slot (l.map (·.Slot)))∧pre.Pairwise (fun a b=>a.H2 < b.H2)∧pre.Pairwise (fun a b=>¬ Hed b.Slot a.Slot))
  ⟨fun x hx=>(List.not_mem_nil hx).elim,List.Pairwise.nil,List.Pairwise.nil⟩ (fun pre y post u nx e hI hnx=>?_) (fun u hI=>?_)
 ·obtain⟨i1,i2,i3⟩:=hI
  have hym:y∈l:=by rw [e]; simp
  have hpl:pre.length < l.length:=by rw [e]; simp
  refine Gy (ref_find boxes y.H2) ?_
  cases hf:G7e boxes y.H2 with
  | none=>
   simp only [Bool.not_false,Bool.not_true,cond_false,Bool.true_or,cond_true]
   refine H5 (Gn (H5 (Gn (H5 (Gn (H5 (Gn (Gn (Y1 fun hh=>?_)))))))))
   obtain⟨b,h1,_⟩:=hh.2.each y hym
   rw [hf] at h1; cases h1
  | some b=>
   have hbm:b∈boxes:=List.mem_of_find?_eq_some hf
   have hbs:=hb b hbm
   simp only [Bool.not_true,Bool.not_false,cond_true,Bool.false_or]
   refine H5 (G1a ⟨by omega,by omega⟩ (Gn (H5 (wp_mono (ref_slot s y.Slot b.Size) (fun r17 h17=>?_)))))
   cases r17 with
   | false=>
    simp only [Bool.not_false,Bool.not_true,cond_false,Bool.true_or,cond_true]
    refine H5 (Gn (H5 (Gn (Gn (Y1 fun hh=>?_)))))
    obtain⟨b',h1,h2,_⟩:=hh.2.each y hym
    rw [hf] at h1; cases h1
    have:=h17.2 h2; cases this
   | true=>
    have hslot:=h17.1 rfl
    simp only [Bool.not_true,Bool.not_false,cond_true,Bool.false_or]
    refine Gy (ref_slots l hl) ?_
    have htr : -1000000≤y.Slot.Tier∧y.Slot.Tier≤1000000:=by
     obtain⟨m',c,_,e2,e3⟩:=hslot.col
     have:=htier c (List.mem_of_getElem? e2)
     have:=hslot.tier
     omega
    refine H5 (wp_mono (ref_held y.Slot (l.map (·.Slot)) htr) (fun r19 h19=>Hm (fun h=>Gn (Y1 fun hh=>?_)) (fun h=>?_)))
    ·obtain⟨b',h1,_,h2⟩:=hh.2.each y hym
     rw [h19.2 h2] at h; cases h
    have hheld:Je5 y.Slot (l.map (·.Slot)):=by
     cases r19 with
     | true=>exact h19.1 rfl
     | false=>cases h
    refine Qy (decide_eq_true (by omega)) ?_
    rw [show (pre.length:Int).toNat=pre.length by omega]
    refine Gec (fun i _=>∀ (k:Nat) z,k < i→pre[k]? = some z→z.H2 < y.H2∧¬ Hed z.Slot y.Slot) (fun k z hk=>by omega) (fun i u nx2 hi hJ hnx2=>?_) (fun u hJ=>hnx _ ?_)
    ·have hx:pre[i]? = some (pre[i]'hi):=List.getElem?_eq_getElem hi
     have hsx:l[i]? = some (pre[i]'hi):=by rw [e,List.getElem?_append_left hi]; exact hx
     have hzm:pre[i]'hi∈pre:=List.getElem_mem _
     generalize pre[i]'hi=z at hx hsx hzm
     rw [Qg hsx]
     obtain⟨q1,e1,h1⟩:=H1d (c:=!(decide (y.H2≤z.H2))) (m:=Jc l (i:Int) some) (x:=z) (fun _=>Qg hsx some)
     refine Gy e1 ?_
     by_cases hbz:y.H2≤z.H2
     ·rw [decide_eq_true hbz]
      simp only [Bool.not_true,cond_false,Bool.true_or,cond_true]
      refine H5 (Gn (Gn (Y1 fun hh=>?_)))
      have h1:=hh.2.sorted
      rw [e] at h1
      have:=(List.pairwise_append.1 h1).2.2 z hzm y (by simp)
      omega
     ·have hq:=h1 (by rw [decide_eq_false hbz]; rfl)
      subst hq
      rw [decide_eq_false hbz]
      simp only [Bool.not_false,cond_true,Bool.false_or]
      refine H5 (wp_mono (ref_meet q1.Slot y.Slot) (fun r47 h47=>Hm (fun h=>Gn (Y1 fun hh=>?_)) (fun h=>hnx2 _ (fun k c hk2 hc2=>?_))))
      ·have h1:=hh.2.apart
       rw [e] at h1
       have h2:=(List.pairwise_append.1 h1).2.2 q1 hzm y (by simp)
       have h3:=h47.1 h
       refine h2 ?_
       unfold Hed H8c at h3 ⊢
       obtain⟨a1,a2,a3⟩:=h3
       exact⟨a1.symm,a2.symm,by omega⟩
      ·by_cases hki:k < i
       ·exact hJ k c hki hc2
       ·have:k=i:=by omega
        subst this
        rw [hx] at hc2
        cases hc2
        exact⟨by omega,fun h3=>by rw [h47.2 h3] at h; cases h⟩
    ·have hall:∀ z∈pre,z.H2 < y.H2∧¬ Hed z.Slot y.Slot:=fun z hz=>by
      obtain⟨k,hk⟩:=List.mem_iff_getElem?.1 hz
      exact hJ k z (List.getElem?_eq_some_iff.1 hk).1 hk
     refine⟨Q1 i1 ⟨b,hf,hslot,hheld⟩,H1b i2 (fun z hz=>(hall z hz).1),H1b i3 (fun z hz h3=>(hall z hz).2 ?_)⟩
     unfold Hed H8c at h3 ⊢
     obtain⟨a1,a2,a3⟩:=h3
     exact⟨a1.symm,a2.symm,by omega⟩
 ·obtain⟨i1,i2,i3⟩:=hI
  refine Q3 (fun pre _=>∀ (k:Nat) c,k < pre.length→s.Columns[k]? = some c→Je7 boxes l k c) (fun k c hk=>by simp at hk) (fun pre y post u nx e hJ hnx=>?_) (fun u hJ=>Gn ⟨fun _=>⟨hS,i1,i2,i3,fun m c hc=>hJ m c (List.getElem?_eq_some_iff.1 hc).1 hc⟩,fun _=>rfl⟩)
  have hy:s.Columns[pre.length]? = some y:=by rw [e]; simp
  have h0:0≤y.Height:=by have:=(hS.col y (by rw [e]; simp)).place; omega
  refine H5 (wp_mono (ref_high (boxes:=boxes) (l:=l) hy h0 hl) (fun r67 h67=>Hm (fun h=>Gn (Y1 fun hh=>h67.1 h (hh.2.fits _ _ hy))) (fun h=>hnx _ (fun k c hk hc=>?_))))
  rw [List.length_append,List.length_singleton] at hk
  by_cases hkp:k < pre.length
  ·exact hJ k c hkp hc
  ·have:k=pre.length:=by omega
   subst this
   rw [hy] at hc
   cases hc
   refine Classical.byContradiction fun hf=>?_
   rw [h67.2 hf] at h; cases h
/-- What the program says of a state, of any ship. -/
theorem prog_stow {s:H8} {boxes:List H2} {l:List G6} (hp:∀ c∈s.Columns,c.Plugs.length≤1048576) (hr:∀ x∈s.Covers,x.Rows.length≤1048576) (hl:l.length≤1000000) :
  Wp (G64 s boxes l) (fun r=>r=true ↔ H25 s∧R0 s boxes l):=by
 obtain⟨r,er,hs⟩:=J61 s hp hr
 cases r with
 | true=>
  have hS:=hs.1 rfl
  refine wp_mono (stow_right er (fun c hc=>by have:=(hS.col c hc).place; omega) hl) (fun r h=>h.trans ⟨fun h=>⟨hS,h⟩,fun h=>h.2⟩)
 | false=>
  unfold G64
  refine Gy er (Hm (fun _=>Gn (Y1 fun hh=>?_)) (fun h=>by cases h))
  have:=hs.2 hh.1; cases this
end Go.Proofs.YteogacmpgdpjlaaGreat
