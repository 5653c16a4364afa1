/- When a state is right: -/
import Derived.Test.YthkihfoleenlmaaGreatLiftT
set_option maxRecDepth 100000
set_option linter.unusedVariables false
namespace Go.Proofs.YthkihfoleenlmaaGreat
open Go.RowKit

theorem mA {J:Type} [Inhabited J] {c:Bool} {m:Option J} {x:J} (h:c=true→m=some x):∃ r,(bif c then m else some default)=some r/\(c=true→r=x):=by
 cases c with
 | true=>exact⟨x,h rfl,fun _=>rfl⟩
 | false=>exact⟨default,rfl,fun e=>by cases e⟩
theorem H15 (bx:List Box) (id:Int):Ze bx id=some (match fH bx id with
  | some b=>(b,true)
  | none=>(Box.mk 0 ByteArray.empty 0 false 0 0 0 0 false,false)):=by
 refine bG ?_
 unfold Ze
 refine Q2 (fun pre _=>∀ b∈pre,¬ b.ID=id) (fun b hb=>(Pe hb).elim) (fun pre y post s nx e hI h0=>Hq (fun h=>Gh ?_) (fun h=>h0 _ (Qp (P:=fun b:Box=>¬ b.ID=id) hI (P7 h)))) (fun s hI=>Gh ?_)
 .have:fH bx id=some y:=by
   unfold fH
   rw [e,List.find?_append,List.find?_eq_none.2 (fun b hb=>by simpa using hI b hb)]
   simp only [Option.none_or,List.find?_cons,h]
  rw [this]
 .have:fH bx id=none:=by
   unfold fH
   exact List.find?_eq_none.2 (fun b hb=>by simpa using hI b hb)
  rw [this]
theorem J20 (s:Gq) (x:Slot) (size:Int):Wp (aP s x size) (fun r=>r=true ↔ JM s x size):=by
 unfold aP
 have h3:(((decide (size=40))&&(decide (x.Half=0)))||((decide (size=20))&&((decide (x.Half=1))||(decide (x.Half=2)))))=true ↔ x.Half∈GX size:=by
  unfold GX
  simp only [Px,Pp,Pq]
  by_cases h4:size=40
  .rw [if_pos h4]; subst h4; simp
  .rw [if_neg h4]
   by_cases h2:size=20
   .rw [if_pos h2]; subst h2; simp
   .rw [if_neg h2]; simp [h4,h2]
 by_cases h0:0≤x.G6/\x.G6 < (s.Columns.length:Int)/\0≤x.Tier
 .obtain⟨m,hm⟩:∃ m:Nat,x.G6=(m:Int):=⟨x.G6.toNat,by omega⟩
  have h5:m < s.Columns.length:=by omega
  have hc:s.Columns[m]? = some s.Columns[m]:=by simp [h5]
  have h1:((decide (x.G6 < 0)||decide ((s.Columns.length:Int)≤x.G6))||decide (x.Tier < 0))=false:=by
   simp only [Py,decide_eq_false_iff_not]; omega
  rw [h1]
  simp only [Bool.not_false,cond_true,Bool.false_or]
  rw [hm]
  refine Gu ((Qi hc some).trans rfl) (Hq (fun h=>Gh (Ra fun hs=>?_)) (fun h=>Gh ?_))
  .obtain⟨m',c,e1,e2,e3⟩:=hs.col
   have:m'=m:=by omega
   subst this
   rw [hc] at e2; cases e2
   have:=P6 h
   omega
  .rw [h3]
   exact⟨fun hh=>⟨⟨m,_,hm,hc,by have:=P7 h; omega⟩,h0.2.2,hh⟩,fun hs=>hs.half⟩
 .have h1:((decide (x.G6 < 0)||decide ((s.Columns.length:Int)≤x.G6))||decide (x.Tier < 0))=true:=by
   simp only [Px,Pq]; omega
  rw [h1]
  simp only [Bool.not_true,cond_false,Bool.true_or,cond_true]
  refine Hc (Gh (Gh (Ra fun hs=>h0 ?_)))
  obtain⟨m',c,e1,e2,e3⟩:=hs.col
  have:=(Pa e2).1
  have:=hs.tier
  omega
theorem YP (l:List Slot) (x:Slot) (half:Int) (ht : -1000000≤x.Tier/\x.Tier≤1000000):Wp (Y0 l x half) (fun r=>r=true ↔ below l x half):=by
 unfold Y0 below
 have key:∀ y:Slot,(y.G6=x.G6/\y.Tier=x.Tier - 1/\y.Half=half) ↔ y=⟨x.G6,x.Tier - 1,half⟩:=fun y=>by
  cases y
  simp
 refine Q2 (fun pre _=>∀ y∈pre,¬ y=⟨x.G6,x.Tier - 1,half⟩) (fun b hb=>(Pe hb).elim) (fun pre y post s nx e hI h0=>?_) (fun s hI=>Gh (Ra fun h=>hI _ h rfl))
 obtain⟨r,e1,h1⟩:=mA (c:=decide (y.G6=x.G6)) (m:=chk (x.Tier - 1) some) (x:=x.Tier - 1) (fun _=>bG (bY ⟨by omega,by omega⟩ (Gh rfl)))
 refine Gu e1 (Hq (fun h=>Gh ⟨fun _=>?_,fun _=>rfl⟩) (fun h=>h0 _ (Qp hI fun hy=>?_)))
 .simp only [Pp,Pq] at h
  have hr:=h1 (P8 h.1.1)
  have:=(key y).1 ⟨h.1.1,by rw [h.1.2,hr],h.2⟩
  rw [← this,e]; simp
 .have hk:=(key y).2 hy
  have hr:=h1 (P8 hk.1)
  rw [hr,P8 hk.1,P8 hk.2.1,P8 hk.2.2] at h
  cases h
theorem J24 (x:Slot) (l:List Slot) (ht : -1000000≤x.Tier/\x.Tier≤1000000):Wp (bL x l) (fun r=>r=true ↔ RU x l):=by
 unfold bL RU
 refine Hq (fun h=>Gh ⟨fun _=>.inl (P6 h),fun _=>rfl⟩) (fun h=>?_)
 have h0:=P7 h
 refine Hq (fun h=>?_) (fun h=>?_)
 .have hh:=P6 h
  refine Hc (wp_mono (YP l x 0 ht) (fun r8 h8=>?_))
  rw [hh]
  cases r8 with
  | true=>exact Hc (Gh (Hc (Gh (Gh ⟨fun _=>.inr (.inl (h8.1 rfl)),fun _=>rfl⟩))))
  | false=>
   simp only [Bool.not_false,cond_true,Bool.true_and,Bool.false_or]
   refine Hc (wp_mono (YP l x 1 ht) (fun r9 h9=>?_))
   have n0:¬ below l x 0:=fun hb=>by have:=h8.2 hb; cases this
   cases r9 with
   | true=>
    simp only [cond_true,Bool.true_and]
    refine Hc (wp_mono (YP l x 2 ht) (fun r10 h2=>Gh ?_))
    rw [h2]
    exact⟨fun hb=>.inr (.inr ⟨trivial,h9.1 rfl,hb⟩),fun hh=>hh.elim (fun h=>(h0 h).elim) (fun h=>h.elim (fun h=>(n0 h).elim) (fun h=>h.2.2))⟩
   | false=>
    simp only [cond_false,Bool.false_and]
    refine Hc (Gh (Gh (Ra fun hh=>hh.elim h0 (fun h=>h.elim n0 (fun h=>?_)))))
    have:=h9.2 h.2.1; cases this
 .have hh:=P7 h
  refine Hc (wp_mono (YP l x x.Half ht) (fun r h1=>Gh ?_))
  rw [h1]
  exact⟨fun h=>.inr (.inl h),fun h=>h.elim (fun h=>(h0 h).elim) (fun h=>h.elim (fun h=>h) (fun h=>(hh h.1).elim))⟩
def GD (a b:Int):Bool:=((decide (a=b))||(decide (a=0)))||(decide (b=0))
theorem G0b (a b:Int):Rt a b=some (GD a b):=rfl
theorem RC {a b:Int}:GD a b=true ↔ qX a b:=by
 unfold GD qX
 simp only [Px,Pq,or_assoc]
theorem J22 (a b:Slot):Wp (bK a b) (fun r=>r=true ↔ vA a b):=by
 unfold bK vA
 obtain⟨r,e1,h1⟩:=mA (c:=decide (a.G6=b.G6)&&decide (a.Tier=b.Tier)) (m:=Rt a.Half b.Half) (x:=GD a.Half b.Half) (fun _=>G0b _ _)
 refine Gu e1 (Gh ?_)
 cases hc:(decide (a.G6=b.G6)&&decide (a.Tier=b.Tier)) with
 | true=>
  rw [h1 hc]
  simp only [Pp,Pq] at hc
  rw [Bool.true_and,RC]
  exact⟨fun h=>⟨hc.1,hc.2,h⟩,fun h=>h.2.2⟩
 | false=>
  simp only [Bool.false_and]
  refine Ra fun h=>?_
  rw [P8 h.1,P8 h.2.1] at hc
  cases hc
theorem J21 (a b:Slot):Wp (bJ a b) (fun r=>r=true ↔ HE a b):=by
 unfold bJ HE
 obtain⟨r,e1,h1⟩:=mA (c:=decide (a.G6=b.G6)&&decide (b.Tier < a.Tier)) (m:=Rt a.Half b.Half) (x:=GD a.Half b.Half) (fun _=>G0b _ _)
 refine Gu e1 (Gh ?_)
 cases hc:(decide (a.G6=b.G6)&&decide (b.Tier < a.Tier)) with
 | true=>
  rw [h1 hc]
  simp only [Pp,Pq] at hc
  rw [Bool.true_and,RC]
  exact⟨fun h=>⟨hc.1,hc.2,h⟩,fun h=>h.2.2⟩
 | false=>
  simp only [Bool.false_and]
  refine Ra fun h=>?_
  rw [P8 h.1,P8 h.2.1] at hc
  cases hc
theorem G0a (bx:List Box) (l:List G2) (column half:Int) (hl:l.length≤1000000):Rs bx l column half=some (gI bx l column half):=by
 refine bG ?_
 unfold Rs
 refine Q2 (fun pre n=>n=gI bx pre column half/\0≤n/\n≤2896*(pre.length:Int)) ⟨rfl,by omega,by simp⟩ (fun pre y post n nx e hI h2=>?_) (fun n hI=>Gh hI.1)
 obtain⟨i1,i2,i3⟩:=hI
 have h3:pre.length < 1000000:=by rw [e] at hl; simp only [Pn,Pi] at hl; omega
 have h0:gI bx (pre++[y]) column half=zO bx column half n y:=by
  unfold gI; rw [List.foldl_append,i1]; rfl
 have h4:=Hc6 (bx:=bx) (column:=column) (half:=half) (n:=n) (x:=y)
 refine oP (fun j=>j=zO bx column half n y) (fun K hK=>?_) (fun j hj=>h2 _ ⟨by rw [h0,hj],by omega,by rw [Pn,Po]; omega⟩)
 refine Gu (H15 bx y.Box) ?_
 unfold zO at hK
 cases hf:fH bx y.Box with
 | none=>
  rw [hf] at hK
  simp only [Bool.not_false,Bool.true_or,cond_true]
  exact hK _ (by split <;> rfl)
 | some b=>
  rw [hf] at hK
  simp only [Bool.not_true,Bool.false_or]
  refine Hq (fun h=>hK _ ?_) (fun h=>?_)
  .simp only [Px,Pp,Pq,ne_eq] at h
   have h1:¬ (y.Slot.G6=column/\(y.Slot.Half=half\/y.Slot.Half=0)):=fun hc=>h.elim (fun h=>h hc.1) (fun h=>hc.2.elim h.1 h.2)
   rw [if_neg h1]
  .simp only [Py,Bool.and_eq_false_iff,decide_eq_false_iff_not,ne_eq,Decidable.not_not] at h
   rw [if_pos ⟨h.1,h.2⟩] at hK
   unfold G77 at hK
   refine Hq (fun hh=>bY ⟨by omega,by omega⟩ (hK _ (by show _=n+(if b.High=true then 2896 else 2591); rw [if_pos hh]))) (fun hh=>bY ⟨by omega,by omega⟩ (hK _ (by show _=n+(if b.High=true then 2896 else 2591); rw [if_neg (by rw [hh]; simp)])))
theorem Hec (l:List G2) (hl:l.length≤1000000):aO l=some (l.map (·.Slot)):=by
 refine bG ?_
 unfold aO
 refine Q2 (fun pre s=>s=pre.map (·.Slot)) rfl (fun pre y post s nx e hI h0=>?_) (fun s hI=>Gh hI)
 have h1:pre.length < 1000000:=by rw [e] at hl; simp only [Pn,Pi] at hl; omega
 subst hI
 refine aJ (G7e (by rw [Pr,Po]; omega) (by omega)) (h0 _ (by simp))
theorem J23 {s:Gq} {bx:List Box} {l:List G2} {m:Nat} {c:G6} (hc:s.Columns[m]? = some c) (h0:0≤c.Height) (hl:l.length≤1000000):Wp (bI s bx l (m:Int)) (fun r=>r=true ↔ ¬ RW bx l m c):=by
 unfold bI RW
 rw [Qi hc]
 refine Hq (fun h=>Gh (Ra fun h2=>h2 (.inl (by have:=P6 h; omega)))) (fun h=>?_)
 have hh:=P7 h
 refine Gu (G0a bx l m 1 hl) ?_
 rw [Qi hc]
 obtain⟨r,e1,h1⟩:=mA (c:=!(decide (c.Height < gI bx l m 1))) (m:=Rs bx l m 2) (x:=gI bx l m 2) (fun _=>G0a bx l m 2 hl)
 obtain⟨r2,e2,h2⟩:=mA (c:=!(decide (c.Height < gI bx l m 1))) (m:=Jo s.Columns (m:Int) some) (x:=c) (fun _=>Qi hc some)
 refine Gu e1 (Gu e2 (Gh ?_))
 by_cases h3:c.Height < gI bx l m 1
 .rw [P8 h3,Bool.true_or]
  exact⟨fun _ hf=>by omega,fun _=>rfl⟩
 .have e3:=h1 (by rw [P9 h3]; rfl)
  have e4:=h2 (by rw [P9 h3]; rfl)
  rw [e3,e4,P9 h3,Bool.false_or,Pq]
  omega
theorem G09 {F:Nat} {s:Gq} {bx:List Box} {l:List G2} (hp:∀ c∈s.Columns,c.Plugs.length≤1048576) (hr:∀ x∈s.Covers,x.Rows.length≤1048576) (hb:∀ b∈bx,0≤b.Size/\b.Size≤255) (hl:l.length≤1000000) :
  Wp (Y6 F s bx l) (fun r=>r=true ↔ sU s/\Yg s bx l):=by
 unfold Y6
 refine Hc (wp_mono (G7f (F:=F) s hp hr) (fun r hs=>Hq (fun h=>Gh (Ra fun hh=>?_)) (fun h=>?_)))
 .rw [hs.2 hh.1] at h; cases h
 have hS:sU s:=by
  cases r with
  | true=>exact hs.1 rfl
  | false=>cases h
 have a5:∀ c∈s.Columns,c.Tiers≤10:=fun c hc=>by have:=(hS.col c hc).place; omega
 refine Q2 (fun pre _=>(∀ x∈pre,∃ b,fH bx x.Box=some b/\JM s x.Slot b.Size/\RU x.Slot (l.map (·.Slot)))/\pre.Pairwise (fun a b=>a.Box < b.Box)/\pre.Pairwise (fun a b=>¬ vA b.Slot a.Slot))
  ⟨fun x hx=>(Pe hx).elim,List.Pairwise.nil,List.Pairwise.nil⟩ (fun pre y post u nx e hI h5=>?_) (fun u hI=>?_)
 .obtain⟨i1,i2,i3⟩:=hI
  have h6:y∈l:=by rw [e]; simp
  have b6:pre.length < l.length:=by rw [e]; simp
  refine Gu (H15 bx y.Box) ?_
  cases hf:fH bx y.Box with
  | none=>
   simp only [Bool.not_false,Bool.not_true,cond_false,Bool.true_or,cond_true]
   refine Hc (Gh (Hc (Gh (Hc (Gh (Hc (Gh (Gh (Ra fun hh=>?_)))))))))
   obtain⟨b,h1,_⟩:=hh.2.each y h6
   rw [hf] at h1; cases h1
  | some b=>
   have b2:b∈bx:=List.mem_of_find?_eq_some hf
   have b7:=hb b b2
   simp only [Bool.not_true,Bool.not_false,cond_true,Bool.false_or]
   refine Hc (bY ⟨by omega,by omega⟩ (Gh (Hc (wp_mono (J20 s y.Slot b.Size) (fun r17 a7=>?_)))))
   cases r17 with
   | false=>
    simp only [Bool.not_false,Bool.not_true,cond_false,Bool.true_or,cond_true]
    refine Hc (Gh (Hc (Gh (Gh (Ra fun hh=>?_)))))
    obtain⟨b',h1,h2,_⟩:=hh.2.each y h6
    rw [hf] at h1; cases h1
    have:=a7.2 h2; cases this
   | true=>
    have h4:=a7.1 rfl
    simp only [Bool.not_true,Bool.not_false,cond_true,Bool.false_or]
    refine Gu (Hec l hl) ?_
    have b3 : -1000000≤y.Slot.Tier/\y.Slot.Tier≤1000000:=by
     obtain⟨m',c,_,e2,e3⟩:=h4.col
     have:=a5 c (Pd e2)
     have:=h4.tier
     omega
    refine Hc (wp_mono (J24 y.Slot (l.map (·.Slot)) b3) (fun r19 a8=>Hq (fun h=>Gh (Ra fun hh=>?_)) (fun h=>?_)))
    .obtain⟨b',h1,_,h2⟩:=hh.2.each y h6
     rw [a8.2 h2] at h; cases h
    have a6:RU y.Slot (l.map (·.Slot)):=by
     cases r19 with
     | true=>exact a8.1 rfl
     | false=>cases h
    refine aJ (P8 (by omega)) ?_
    rw [show (pre.length:Int).toNat=pre.length by omega]
    refine qR (fun i _=>∀ (k:Nat) z,k < i→pre[k]? = some z→z.Box < y.Box/\¬ vA z.Slot y.Slot) (fun k z hk=>by omega) (fun i u nx2 hi hJ b1=>?_) (fun u hJ=>h5 _ ?_)
    .have hx:pre[i]? = some (pre[i]'hi):=Pb hi
     have h7:l[i]? = some (pre[i]'hi):=by rw [e,Ph hi]; exact hx
     have h8:pre[i]'hi∈pre:=List.getElem_mem _
     generalize pre[i]'hi=z at hx h7 h8
     rw [Qi h7]
     obtain⟨q1,e1,h1⟩:=mA (c:=!(decide (y.Box≤z.Box))) (m:=Jo l (i:Int) some) (x:=z) (fun _=>Qi h7 some)
     refine Gu e1 ?_
     by_cases h9:y.Box≤z.Box
     .rw [P8 h9]
      simp only [Bool.not_true,cond_false,Bool.true_or,cond_true]
      refine Hc (Gh (Gh (Ra fun hh=>?_)))
      have h1:=hh.2.sorted
      rw [e] at h1
      have:=(List.pairwise_append.1 h1).2.2 z h8 y (by simp)
      omega
     .have hq:=h1 (by rw [P9 h9]; rfl)
      subst hq
      rw [P9 h9]
      simp only [Bool.not_false,cond_true,Bool.false_or]
      refine Hc (wp_mono (J22 q1.Slot y.Slot) (fun r47 a9=>Hq (fun h=>Gh (Ra fun hh=>?_)) (fun h=>b1 _ (fun k c b8 a0=>?_))))
      .have h1:=hh.2.apart
       rw [e] at h1
       have h2:=(List.pairwise_append.1 h1).2.2 q1 h8 y (by simp)
       have h3:=a9.1 h
       refine h2 ?_
       unfold vA qX at h3 ⊢
       obtain⟨a1,a2,a3⟩:=h3
       exact⟨a1.symm,a2.symm,by omega⟩
      .by_cases b4:k < i
       .exact hJ k c b4 a0
       .have:k=i:=by omega
        subst this
        rw [hx] at a0
        cases a0
        exact⟨by omega,fun h3=>by rw [a9.2 h3] at h; cases h⟩
    .have a4:∀ z∈pre,z.Box < y.Box/\¬ vA z.Slot y.Slot:=fun z hz=>by
      obtain⟨k,hk⟩:=List.mem_iff_getElem?.1 hz
      exact hJ k z (Pa hk).1 hk
     refine⟨Qp i1 ⟨b,hf,h4,a6⟩,rB i2 (fun z hz=>(a4 z hz).1),rB i3 (fun z hz h3=>(a4 z hz).2 ?_)⟩
     unfold vA qX at h3 ⊢
     obtain⟨a1,a2,a3⟩:=h3
     exact⟨a1.symm,a2.symm,by omega⟩
 .obtain⟨i1,i2,i3⟩:=hI
  refine Q2 (fun pre _=>∀ (k:Nat) c,k < pre.length→s.Columns[k]? = some c→RW bx l k c) (fun k c hk=>by simp at hk) (fun pre y post u nx e hJ h5=>?_) (fun u hJ=>Gh ⟨fun _=>⟨hS,i1,i2,i3,fun m c hc=>hJ m c (Pa hc).1 hc⟩,fun _=>rfl⟩)
  have hy:s.Columns[pre.length]? = some y:=by rw [e]; simp
  have h0:0≤y.Height:=by have:=(hS.col y (by rw [e]; simp)).place; omega
  refine Hc (wp_mono (J23 (bx:=bx) (l:=l) hy h0 hl) (fun r67 b0=>Hq (fun h=>Gh (Ra fun hh=>b0.1 h (hh.2.fits _ _ hy))) (fun h=>h5 _ (fun k c hk hc=>?_))))
  rw [Pn,Po] at hk
  by_cases b5:k < pre.length
  .exact hJ k c b5 hc
  .have:k=pre.length:=by omega
   subst this
   rw [hy] at hc
   cases hc
   refine Classical.byContradiction fun hf=>?_
   rw [b0.2 hf] at h; cases h
theorem Hee {s:Gq} {bx:List Box} {l:List G2} (hp:∀ c∈s.Columns,c.Plugs.length≤1048576) (hr:∀ x∈s.Covers,x.Rows.length≤1048576) (hl:l.length≤1000000) :
  Wp (cW s bx l) (fun r=>r=true ↔ sU s/\Yg s bx l):=by
 obtain⟨r,er,hs⟩:=zE s hp hr
 cases r with
 | true=>
  have hS:=hs.1 rfl
  refine wp_mono (H7b er (fun c hc=>by have:=(hS.col c hc).place; omega) hl) (fun r h=>h.trans ⟨fun h=>⟨hS,h⟩,fun h=>h.2⟩)
 | false=>
  unfold cW
  refine Gu er (Hq (fun _=>Gh (Ra fun hh=>?_)) (fun h=>by cases h))
  have:=hs.2 hh.1; cases this
end Go.Proofs.YthkihfoleenlmaaGreat
