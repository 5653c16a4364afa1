/-
 When a state is right: SearchStates:
-/
import Derived.Test.YtbgfgnddogfpcaaGreatLiftT
import Derived.Test.YtbgfgnddogfpcaaGreatRefP
set_option maxRecDepth 100000
set_option linter.unusedVariables false
namespace Go.Proofs.YtbgfgnddogfpcaaGreat
open Go.RowKit
theorem QB {W:Type} [Inhabited W] {c:Bool} {m:Option W} {x:W} (h:c=true->m=some x):∃ r,(bif c then m else some default)=some r/\(c=true->r=x):=by
 cases c with
 | true=>exact⟨x,h rfl,fun _=>rfl⟩
 | false=>exact⟨default,rfl,fun e=>by cases e⟩
theorem xR (GU:AH) (id:Int):Y8 GU id=some (match bC GU id with
  | some b=>(b,true)
  | none=>(Box.mk 0 ByteArray.empty 0 false 0 0 0 0 false,false)):=by
 refine Zs ?_;unfold Y8;refine Q6 (fun pre _=>∀ b∈pre,¬ b.ID=id) (fun b hb=>(Pe hb).elim) (fun pre y post s nx e hI h0=>Ja (fun h=>Gt ?_) (fun h=>h0 _ (bT (P:=fun b:Box=>¬ b.ID=id) hI (P7 h)))) (fun s hI=>Gt ?_)
 .have:bC GU id=some y:=by
   unfold bC;rw [e,List.find?_append,List.find?_eq_none.2 (fun b hb=>by simpa using hI b hb)];simp only [Option.none_or,List.find?_cons,h]
  rw [this]
 .have:bC GU id=none:=by
   unfold bC;exact List.find?_eq_none.2 (fun b hb=>by simpa using hI b hb)
  rw [this]
theorem Ja9 (s:Gf) (x:Slot) (size:Int):Wp (R8 s x size) (fun r=>r=true ↔ yG s x size):=by
 unfold R8;have h3:(((decide (size=40))&&(decide (x.Half=0)))||((decide (size=20))&&((decide (x.Half=1))||(decide (x.Half=2)))))=true ↔ x.Half∈sH size:=by
  unfold sH;simp only [Px,Pp,Pq];by_cases h4:size=40
  .rw [if_pos h4]; subst h4; simp
  .rw [if_neg h4];by_cases h2:size=20
   .rw [if_pos h2]; subst h2; simp
   .rw [if_neg h2]; simp [h4,h2]
 by_cases h0:0<=x.G5/\x.G5 < (s.Columns.length:Int)/\0<=x.AB
 .obtain⟨m,hm⟩:∃ m:Nat,x.G5=(m:Int):=⟨x.G5.toNat,by omega⟩;have h5:m < s.Columns.length:=by omega
  have hc:s.Columns[m]? = some s.Columns[m]:=by simp [h5]
  have h1:((decide (x.G5 < 0)||decide ((s.Columns.length:Int)<=x.G5))||decide (x.AB < 0))=false:=by
   simp only [Py,decide_eq_false_iff_not]; omega
  rw [h1];simp only [Bool.not_false,cond_true,Bool.false_or];rw [hm];refine H2 ((Zu hc some).trans rfl) (Ja (fun h=>Gt (Za fun hs=>?_)) (fun h=>Gt ?_))
  .obtain⟨m',c,e1,e2,e3⟩:=hs.col;have:m'=m:=by omega
   subst this;rw [hc] at e2; cases e2;have:=P6 h;omega
  .rw [h3];exact⟨fun hh=>⟨⟨m,_,hm,hc,by have:=P7 h; omega⟩,h0.2.2,hh⟩,fun hs=>hs.half⟩
 .have h1:((decide (x.G5 < 0)||decide ((s.Columns.length:Int)<=x.G5))||decide (x.AB < 0))=true:=by
   simp only [Px,Pq]; omega
  rw [h1];simp only [Bool.not_true,cond_false,Bool.true_or,cond_true];refine Hq (Gt (Gt (Za fun hs=>h0 ?_)));obtain⟨m',c,e1,e2,e3⟩:=hs.col;have:=(Pa e2).1;have:=hs.tier;omega
theorem G17 (l:List Slot) (x:Slot) (half:Int) (ht : -1000000<=x.AB/\x.AB<=1000000):Wp (Rq l x half) (fun r=>r=true ↔ below l x half):=by
 unfold Rq below;have key:∀ y:Slot,(y.G5=x.G5/\y.AB=x.AB - 1/\y.Half=half) ↔ y=⟨x.G5,x.AB - 1,half⟩:=fun y=>by
  cases y;simp
 refine Q6 (fun pre _=>∀ y∈pre,¬ y=⟨x.G5,x.AB - 1,half⟩) (fun b hb=>(Pe hb).elim) (fun pre y post s nx e hI h0=>?_) (fun s hI=>Gt (Za fun h=>hI _ h rfl));obtain⟨r,e1,h1⟩:=QB (c:=decide (y.G5=x.G5)) (m:=chk (x.AB - 1) some) (x:=x.AB - 1) (fun _=>Zs (bW ⟨by omega,by omega⟩ Gt));refine H2 e1 (Ja (fun h=>Gt ⟨fun _=>?_,fun _=>rfl⟩) (fun h=>h0 _ (bT hI fun hy=>?_)))
 .simp only [Pp,Pq] at h;have hr:=h1 (P8 h.1.1);have:=(key y).1 ⟨h.1.1,by rw [h.1.2,hr],h.2⟩;rw [<- this,e]; simp
 .have hk:=(key y).2 hy;have hr:=h1 (P8 hk.1);rw [hr,P8 hk.1,P8 hk.2.1,P8 hk.2.2] at h;cases h
theorem Jac (x:Slot) (l:List Slot) (ht : -1000000<=x.AB/\x.AB<=1000000):Wp (aO x l) (fun r=>r=true ↔ G04 x l):=by
 unfold aO G04;refine Ja (fun h=>Gt ⟨fun _=>.inl (P6 h),fun _=>rfl⟩) (fun h=>?_);have h0:=P7 h;refine Ja (fun h=>?_) (fun h=>?_)
 .have hh:=P6 h;refine Hq (wp_mono (G17 l x 0 ht) (fun r8 h8=>?_));rw [hh];cases r8 with
  | true=>exact Hq (Gt (Hq (Gt (Gt ⟨fun _=>.inr (.inl (h8.1 rfl)),fun _=>rfl⟩))))
  | false=>
   simp only [Bool.not_false,cond_true,Bool.true_and,Bool.false_or];refine Hq (wp_mono (G17 l x 1 ht) (fun r9 h9=>?_));have n0:¬ below l x 0:=fun hb=>by have:=h8.2 hb; cases this
   cases r9 with
   | true=>
    simp only [cond_true,Bool.true_and];refine Hq (wp_mono (G17 l x 2 ht) (fun r10 h2=>Gt ?_));rw [h2];exact⟨fun hb=>.inr (.inr ⟨trivial,h9.1 rfl,hb⟩),fun hh=>hh.elim (fun h=>(h0 h).elim) (fun h=>h.elim (fun h=>(n0 h).elim) (fun h=>h.2.2))⟩
   | false=>
    simp only [cond_false,Bool.false_and];refine Hq (Gt (Gt (Za fun hh=>hh.elim h0 (fun h=>h.elim n0 (fun h=>?_)))));have:=h9.2 h.2.1; cases this
 .have hh:=P7 h;refine Hq (wp_mono (G17 l x x.Half ht) (fun r h1=>Gt ?_));rw [h1];exact⟨fun h=>.inr (.inl h),fun h=>h.elim (fun h=>(h0 h).elim) (fun h=>h.elim (fun h=>h) (fun h=>(hh h.1).elim))⟩
def G15 (a b:Int):Bool:=((decide (a=b))||(decide (a=0)))||(decide (b=0))
theorem J03 (a b:Int):Zf a b=some (G15 a b):=rfl
theorem H6c {a b:Int}:G15 a b=true ↔ sB a b:=by
 unfold G15 sB;simp only [Px,Pq,or_assoc]
theorem Jaa (a b:Slot):Wp (aN a b) (fun r=>r=true ↔ wH a b):=by
 unfold aN wH;obtain⟨r,e1,h1⟩:=QB (c:=decide (a.G5=b.G5)&&decide (a.AB=b.AB)) (m:=Zf a.Half b.Half) (x:=G15 a.Half b.Half) (fun _=>J03 _ _);refine H2 e1 (Gt ?_);cases hc:(decide (a.G5=b.G5)&&decide (a.AB=b.AB)) with
 | true=>
  rw [h1 hc];simp only [Pp,Pq] at hc;rw [Bool.true_and,H6c];exact⟨fun h=>⟨hc.1,hc.2,h⟩,fun h=>h.2.2⟩
 | false=>
  simp only [Bool.false_and];refine Za fun h=>?_;rw [P8 h.1,P8 h.2.1] at hc;cases hc
theorem G4d (GU:AH) (l:AG) (AJ half:Int) (hl:l.length<=1000000):Re GU l AJ half=some (gS GU l AJ half):=by
 refine Zs ?_;unfold Re;refine Q6 (fun pre n=>n=gS GU pre AJ half/\0<=n/\n<=2896*(pre.length:Int)) ⟨rfl,by omega,by simp⟩ (fun pre y post n nx e hI h2=>?_) (fun n hI=>Gt hI.1);obtain⟨i1,i2,i3⟩:=hI;have h3:pre.length < 1000000:=by rw [e] at hl; simp only [Pn,Pi] at hl; omega
 have h0:gS GU (pre++[y]) AJ half=HH GU AJ half n y:=by
  unfold gS; rw [List.foldl_append,i1]; rfl
 have h4:=J46 (GU:=GU) (AJ:=AJ) (half:=half) (n:=n) (x:=y);refine oM (fun j=>j=HH GU AJ half n y) (fun K hK=>?_) (fun j hj=>h2 _ ⟨by rw [h0,hj],by omega,by rw [Pn,Po]; omega⟩);refine H2 (xR GU y.Box) ?_;unfold HH at hK;cases hf:bC GU y.Box with
 | none=>
  rw [hf] at hK;simp only [Bool.not_false,Bool.true_or,cond_true];exact hK _ (by split <;> rfl)
 | some b=>
  rw [hf] at hK;simp only [Bool.not_true,Bool.false_or];refine Ja (fun h=>hK _ ?_) (fun h=>?_)
  .simp only [Px,Pp,Pq,ne_eq] at h;have h1:¬ (y.Slot.G5=AJ/\(y.Slot.Half=half\/y.Slot.Half=0)):=fun hc=>h.elim (fun h=>h hc.1) (fun h=>hc.2.elim h.1 h.2);rw [if_neg h1]
  .simp only [Py,Bool.and_eq_false_iff,decide_eq_false_iff_not,ne_eq,Decidable.not_not] at h;rw [if_pos ⟨h.1,h.2⟩] at hK;unfold Gc4 at hK;refine Ja (fun hh=>bW ⟨by omega,by omega⟩ (hK _ (by show _=n+(if b.BS=true then 2896 else 2591); rw [if_pos hh]))) (fun hh=>bW ⟨by omega,by omega⟩ (hK _ (by show _=n+(if b.BS=true then 2896 else 2591); rw [if_neg (by rw [hh]; simp)])))
theorem J6c (l:AG) (hl:l.length<=1000000):Zx l=some (l.map (·.Slot)):=by
 refine Zs ?_;unfold Zx;refine Q6 (fun pre s=>s=pre.map (·.Slot)) rfl (fun pre y post s nx e hI h0=>?_) (fun s hI=>Gt hI);have h1:pre.length < 1000000:=by rw [e] at hl; simp only [Pn,Pi] at hl; omega
 subst hI;refine Yt (J2f (by rw [Pr,Po]; omega) (by omega)) (h0 _ (by simp))
variable {s:Gf} {GU:AH} {l:AG}
theorem Jab {m:Nat} {c:G5} (hc:s.Columns[m]? = some c) (h0:0<=c.Height) (hl:l.length<=1000000):Wp (aM s GU l (m:Int)) (fun r=>r=true ↔ ¬ G06 GU l m c):=by
 unfold aM G06;rw [Zu hc];refine Ja (fun h=>Gt (Za fun h2=>h2 (.inl (by have:=P6 h; omega)))) (fun h=>?_);have hh:=P7 h;refine H2 (G4d GU l m 1 hl) ?_;rw [Zu hc];obtain⟨r,e1,h1⟩:=QB (c:=!(decide (c.Height < gS GU l m 1))) (m:=Re GU l m 2) (x:=gS GU l m 2) (fun _=>G4d GU l m 2 hl);obtain⟨r2,e2,h2⟩:=QB (c:=!(decide (c.Height < gS GU l m 1))) (m:=Jw s.Columns (m:Int) some) (x:=c) (fun _=>Zu hc some);refine H2 e1 (H2 e2 (Gt ?_));by_cases h3:c.Height < gS GU l m 1
 .rw [P8 h3,Bool.true_or];exact⟨fun _ hf=>by omega,fun _=>rfl⟩
 .have e3:=h1 (by rw [P9 h3]; rfl);have e4:=h2 (by rw [P9 h3]; rfl);rw [e3,e4,P9 h3,Bool.false_or,Pq];omega
variable {F:Nat}
theorem Ja8 (hp:∀ c∈s.Columns,c.Plugs.length<=1048576) (hr:∀ x∈s.Covers,x.Rows.length<=1048576) (hb:∀ b∈GU,0<=b.Size/\b.Size<=255) (hl:l.length<=1000000) :
  Wp (Zy F s GU l) (fun r=>r=true ↔ G03 s/\dJ s GU l):=by
 unfold Zy;refine Hq (wp_mono (RH (F:=F) s hp hr) (fun r hs=>Ja (fun h=>Gt (Za fun hh=>?_)) (fun h=>?_)))
 .rw [hs.2 hh.1] at h; cases h
 have hS:G03 s:=by
  cases r with
  | true=>exact hs.1 rfl
  | false=>cases h
 have a5:∀ c∈s.Columns,c.AC<=10:=fun c hc=>by have:=(hS.col c hc).place; omega
 refine Q6 (fun pre _=>(∀ x∈pre,∃ b,bC GU x.Box=some b/\yG s x.Slot b.Size/\G04 x.Slot (l.map (·.Slot)))/\pre.Pairwise (fun a b=>a.Box < b.Box)/\pre.Pairwise (fun a b=>¬ wH b.Slot a.Slot))
  ⟨fun x hx=>(Pe hx).elim,List.Pairwise.nil,List.Pairwise.nil⟩ (fun pre y post u nx e hI h5=>?_) (fun u hI=>?_)
 .obtain⟨i1,i2,i3⟩:=hI;have h6:y∈l:=by rw [e]; simp
  have b6:pre.length < l.length:=by rw [e]; simp
  refine H2 (xR GU y.Box) ?_;cases hf:bC GU y.Box with
  | none=>
   simp only [Bool.not_false,Bool.not_true,cond_false,Bool.true_or,cond_true];refine Hq (Gt (Hq (Gt (Hq (Gt (Hq (Gt (Gt (Za fun hh=>?_)))))))));obtain⟨b,h1,_⟩:=hh.2.each y h6;rw [hf] at h1; cases h1
  | some b=>
   have b2:b∈GU:=List.mem_of_find?_eq_some hf;have b7:=hb b b2;simp only [Bool.not_true,Bool.not_false,cond_true,Bool.false_or];refine Hq (bW ⟨by omega,by omega⟩ (Gt (Hq (wp_mono (Ja9 s y.Slot b.Size) (fun r17 a7=>?_)))));cases r17 with
   | false=>
    simp only [Bool.not_false,Bool.not_true,cond_false,Bool.true_or,cond_true];refine Hq (Gt (Hq (Gt (Gt (Za fun hh=>?_)))));obtain⟨b',h1,h2,_⟩:=hh.2.each y h6;rw [hf] at h1; cases h1;have:=a7.2 h2; cases this
   | true=>
    have h4:=a7.1 rfl;simp only [Bool.not_true,Bool.not_false,cond_true,Bool.false_or];refine H2 (J6c l hl) ?_;have b3 : -1000000<=y.Slot.AB/\y.Slot.AB<=1000000:=by
     obtain⟨m',c,_,e2,e3⟩:=h4.col;have:=a5 c (Pd e2);have:=h4.tier;omega
    refine Hq (wp_mono (Jac y.Slot (l.map (·.Slot)) b3) (fun r19 a8=>Ja (fun h=>Gt (Za fun hh=>?_)) (fun h=>?_)))
    .obtain⟨b',h1,_,h2⟩:=hh.2.each y h6;rw [a8.2 h2] at h; cases h
    have a6:G04 y.Slot (l.map (·.Slot)):=by
     cases r19 with
     | true=>exact a8.1 rfl
     | false=>cases h
    refine Yt (P8 (by omega)) ?_;rw [show (pre.length:Int).toNat=pre.length by omega];refine HR (fun i _=>∀ (k:Nat) z,k < i->pre[k]? = some z->z.Box < y.Box/\¬ wH z.Slot y.Slot) (fun k z hk=>by omega) (fun i u nx2 hi hJ b1=>?_) (fun u hJ=>h5 _ ?_)
    .have hx:pre[i]? = some (pre[i]'hi):=Pb hi;have h7:l[i]? = some (pre[i]'hi):=by rw [e,Ph hi]; exact hx
     have h8:pre[i]'hi∈pre:=List.getElem_mem _;generalize pre[i]'hi=z at hx h7 h8;rw [Zu h7];obtain⟨q1,e1,h1⟩:=QB (c:=!(decide (y.Box<=z.Box))) (m:=Jw l (i:Int) some) (x:=z) (fun _=>Zu h7 some);refine H2 e1 ?_;by_cases h9:y.Box<=z.Box
     .rw [P8 h9];simp only [Bool.not_true,cond_false,Bool.true_or,cond_true];refine Hq (Gt (Gt (Za fun hh=>?_)));have h1:=hh.2.sorted;rw [e] at h1;have:=(List.pairwise_append.1 h1).2.2 z h8 y (by simp);omega
     .have hq:=h1 (by rw [P9 h9]; rfl);subst hq;rw [P9 h9];simp only [Bool.not_false,cond_true,Bool.false_or];refine Hq (wp_mono (Jaa q1.Slot y.Slot) (fun r47 a9=>Ja (fun h=>Gt (Za fun hh=>?_)) (fun h=>b1 _ (fun k c b8 a0=>?_))))
      .have h1:=hh.2.apart;rw [e] at h1;have h2:=(List.pairwise_append.1 h1).2.2 q1 h8 y (by simp);have h3:=a9.1 h;refine h2 ?_;unfold wH sB at h3 ⊢;obtain⟨a1,a2,a3⟩:=h3;exact⟨a1.symm,a2.symm,by omega⟩
      .by_cases b4:k < i
       .exact hJ k c b4 a0
       .have:k=i:=by omega
        subst this;rw [hx] at a0;cases a0;exact⟨by omega,fun h3=>by rw [a9.2 h3] at h; cases h⟩
    .have a4:∀ z∈pre,z.Box < y.Box/\¬ wH z.Slot y.Slot:=fun z hz=>by
      obtain⟨k,hk⟩:=List.mem_iff_getElem?.1 hz;exact hJ k z (Pa hk).1 hk
     refine⟨bT i1 ⟨b,hf,h4,a6⟩,yR i2 (fun z hz=>(a4 z hz).1),yR i3 (fun z hz h3=>(a4 z hz).2 ?_)⟩;unfold wH sB at h3 ⊢;obtain⟨a1,a2,a3⟩:=h3;exact⟨a1.symm,a2.symm,by omega⟩
 .obtain⟨i1,i2,i3⟩:=hI;refine Q6 (fun pre _=>∀ (k:Nat) c,k < pre.length->s.Columns[k]? = some c->G06 GU l k c) (fun k c hk=>by simp at hk) (fun pre y post u nx e hJ h5=>?_) (fun u hJ=>Gt ⟨fun _=>⟨hS,i1,i2,i3,fun m c hc=>hJ m c (Pa hc).1 hc⟩,fun _=>rfl⟩);have hy:s.Columns[pre.length]? = some y:=by rw [e]; simp
  have h0:0<=y.Height:=by have:=(hS.col y (by rw [e]; simp)).place; omega
  refine Hq (wp_mono (Jab (GU:=GU) (l:=l) hy h0 hl) (fun r67 b0=>Ja (fun h=>Gt (Za fun hh=>b0.1 h (hh.2.fits _ _ hy))) (fun h=>h5 _ (fun k c hk hc=>?_))));rw [Pn,Po] at hk;by_cases b5:k < pre.length
  .exact hJ k c b5 hc
  .have:k=pre.length:=by omega
   subst this;rw [hy] at hc;cases hc;refine Classical.byContradiction fun hf=>?_;rw [b0.2 hf] at h; cases h

theorem wp_loop {U B:Type} {Q:U->Prop} (I:B->Prop) (Z:B->Nat) {b:(B->Option U)->B->Option U} {s:B} (h0:I s) (hF:Z s < F)
  (hb:∀ s nx,I s->(∀ s',I s'->Z s' < Z s->Wp (nx s') Q)->Wp (b nx s) Q):Wp (loop b F s) Q:=by
 induction F generalizing s with
 | zero=>omega
 | succ F ih=>
  rw [loop];exact hb s _ h0 (fun s' h1 h2=>ih h1 (by omega))
open Classical in
noncomputable def sY (s:Gf) (GU:AH) (l:AG):Bool:=decide (dJ s GU l)
open Classical in
theorem G4b:sY s GU l=true ↔ dJ s GU l:=by
 unfold sY;exact decide_eq_true_iff
def colS (s:Gf) (c:Nat):List Slot:=(List.range ((s.Columns.map G5.AC).getD c 0).toNat).map (fun t:Nat=>Slot.mk (c:Int) (t:Int) 0)
theorem J02 {c:Nat} {y:G5} {t:Nat} {h:Int} (hc:s.Columns[c]? = some y) (ht:(t:Int) < y.AC):R8 s (Slot.mk (c:Int) (t:Int) h) 40=some (decide (h=0)):=by
 have h0:=(Pa hc).1;refine Zs ?_;unfold R8;simp only;rw [P9 (show ¬ ((c:Int) < 0) by omega),P9 (show ¬ ((s.Columns.length:Int)<=(c:Int)) by omega),P9 (show ¬ ((t:Int) < 0) by omega)];simp only [Bool.or_self,Bool.not_false,cond_true,Bool.false_or];refine Hq (fO rfl hc (Gt (Ja (fun h=>absurd (P6 h) (by omega)) (fun _=>Gt ?_))));simp
theorem Q1c (hF:10<=F) (hc:s.Columns.length<=3) (ht:∀ c∈s.Columns,0<=c.AC/\c.AC<=3):bP F s 40=some (fS s):=by
 refine Zs ?_;unfold bP;refine Q6 (fun pre (st:List Slot)=>st=(List.range pre.length).flatMap (colS s)/\st.length<=3*pre.length) ⟨rfl,by simp⟩ (fun pre y post st nx e hI h4=>?_) (fun st hI=>Gt hI.1.symm.symm);obtain⟨hI,hl⟩:=hI;have hy:s.Columns[pre.length]? = some y:=by rw [e]; simp
 have h7:pre.length < s.Columns.length:=by rw [e]; simp
 obtain⟨t0,t3⟩:=ht y (by rw [e]; simp);have hg:(s.Columns.map G5.AC).getD pre.length 0=y.AC:=by simp [List.getD,hy]
 refine Yt (P8 (by omega)) ?_;refine HR (fun i (q:List Slot)=>q=st++(List.range i).map (fun t:Nat=>Slot.mk (pre.length:Int) (t:Int) 0)) (by simp) (fun i q nx2 hi hJ h1=>?_) (fun q hJ=>?_)
 .have h8:q.length=st.length+i:=by rw [hJ]; simp
  have h5:(i:Int) < y.AC:=by omega
  refine wp_loop (fun z:List Slot×Int=>(z.2=0/\z.1=q)\/(1<=z.2/\z.2<=3/\z.1=q++[Slot.mk (pre.length:Int) (i:Int) 0])) (fun z=>(3 - z.2).toNat) (.inl ⟨rfl,rfl⟩) (by show (3 - (0:Int)).toNat < F; omega) (fun z nx3 hZ h2=>?_);obtain⟨z1,z2⟩:=z;simp only at hZ ⊢;have h6:0<=z2/\z2<=3:=by rcases hZ with ⟨a,_⟩ | ⟨a,b,_⟩ <;> omega
  refine Ja (fun h=>?_) (fun h=>?_)
  .have h3:=P6 h;have hw:IntKind.u8.wrap (z2+1)=z2+1:=by
    rcases (show z2=0\/z2=1\/z2=2 by omega) with rfl | rfl | rfl <;> rfl
   refine oM (fun j=>j=q++[Slot.mk (pre.length:Int) (i:Int) 0]) (fun K hK=>H2 (J02 hy h5) (Ja (fun h0=>?_) (fun h0=>hK _ ?_))) (fun j hj=>?_)
   .have h0:=P6 h0;subst h0;rcases hZ with ⟨_,rfl⟩ | ⟨a,_⟩
    .exact Yt (oQ (by rw [Po]; omega) (by omega)) (hK _ rfl)
    .omega
   .have h0:=P7 h0;rcases hZ with ⟨a,_⟩ | ⟨_,_,a⟩
    .exact(h0 a).elim
    .exact a
   .rw [hw];exact h2 _ (.inr ⟨by simp only; omega,by simp only; omega,hj⟩) (by simp only; omega)
  .have h3:=P7 h;rcases hZ with ⟨a,_⟩ | ⟨_,_,a⟩
   .omega
   .exact h1 _ (by rw [a,hJ,List.append_assoc,List.range_succ,List.map_append]; rfl)
 .refine h4 _ ⟨?_,?_⟩
  .rw [hJ,hI,Pn,Po,List.range_succ,List.flatMap_append];congr 1;simp only [List.flatMap_cons,List.flatMap_nil,List.append_nil];unfold colS;rw [hg]
  .rw [hJ,Pn,Pr,List.length_range,Pn,Po]; omega
theorem Q1a {ids:AE} (hS:G03 s) (hp:∀ c∈s.Columns,c.Plugs.length<=1048576) (hr:∀ x∈s.Covers,x.Rows.length<=1048576) (hb:∀ b∈GU,0<=b.Size/\b.Size<=255) (hc:s.Columns.length<=3) (ht:∀ c∈s.Columns,0<=c.AC/\c.AC<=3) (hid:ids.length<=100) :
  ∀ (n F at_:Nat) (l:AG) (out:List AG),at_+n=ids.length->l.length=at_->n+20<=F->out.length+(oR (sY s GU) (fS s) (ids.drop at_) l).length<=1000000 ->
   Yf F s GU ids (at_:Int) l out=some (out++oR (sY s GU) (fS s) (ids.drop at_) l):=by
 intro n
 induction n with
 | zero=>
  intro F at_ l out h1 h2 hF hB;obtain⟨F,rfl⟩:∃ F',F=F'+1:=⟨F - 1,by omega⟩;have hd:ids.drop at_=[]:=List.drop_eq_nil_of_le (by omega);rw [hd] at hB ⊢;refine Zs ?_;rw [Yf];unfold bS;refine Ja (fun _=>?_) (fun h=>absurd (show (at_:Int)=(ids.length:Int) by omega) (P7 h));refine oM (fun j=>j=out++oR (sY s GU) (fS s) [] l) (fun K hK=>?_) (fun j hj=>Gt hj.symm.symm);refine Hq (wp_mono (Ja8 (F:=F) (GU:=GU) (l:=l) hp hr hb (by omega)) (fun r6 h6=>?_));have a1:r6=sY s GU l:=by
   rw [Bool.eq_iff_iff,h6,G4b];exact⟨fun h=>h.2,fun h=>⟨hS,h⟩⟩
  have h5:oR (sY s GU) (fS s) [] l=if r6=true then [l] else []:=by rw [a1]; unfold oR; rfl
  rw [h5] at hB;have h7:∀ j,j=out++(if r6=true then [l] else [])->Wp (K j) _:=fun j hj=>hK j (by rw [hj,h5]);refine Ja (fun h=>?_) (fun h=>h7 _ ?_)
  .rw [if_pos h] at hB;rw [Po] at hB;refine Yt (oQ (by rw [List.length_nil]; omega) (by omega)) (Yt (oQ (by rw [Po]; omega) (by omega)) (h7 _ (by rw [if_pos h]; rfl)))
  .rw [h,if_neg Bool.false_ne_true,List.append_nil]
 | succ n ih=>
  intro F at_ l out h1 h2 hF hB;obtain⟨F,rfl⟩:∃ F',F=F'+1:=⟨F - 1,by omega⟩;have h3:at_ < ids.length:=by omega
  obtain⟨id,h0⟩:∃ id,ids[at_]? = some id:=⟨_,Pb h3⟩;have hd:ids.drop at_=id::ids.drop (at_+1):=by
   rw [List.drop_eq_getElem_cons h3]; congr 1;rw [Pb h3] at h0; exact Pc h0
  rw [hd,oR] at hB ⊢;generalize hf:(fun x:Slot=>if l.any (fun y=>decide (y.Slot=x)) then ([]:List AG) else oR (sY s GU) (fS s) (ids.drop (at_+1)) (l++[G2.mk id x]))=f at hB ⊢;refine Zs ?_;rw [Yf];unfold bS;refine Ja (fun h=>absurd (P6 h) (by omega)) (fun _=>H2 (Q1c (by omega) hc ht) ?_);refine Q6 (fun pre (st:List AG)=>st=out++pre.flatMap f) (by simp) (fun pre y post st nx e hI a2=>?_) (fun st hI=>Gt hI);have h4:st.length+(f y).length<=1000000:=by
   have:=hB;rw [e,List.flatMap_append,List.flatMap_cons] at this;simp only [Pn] at this;rw [hI,Pn]; omega
  refine oM (fun j=>j=st++f y) (fun K hK=>?_) (fun j hj=>a2 _ (by rw [hj,hI,List.flatMap_append,List.append_assoc]; simp));refine Q6 (fun pre2 (b:Bool)=>b=pre2.any (fun z=>decide (z.Slot=y))) rfl (fun pre2 z post2 b nx2 e2 hM h9=>h9 _ ?_) (fun b hM=>?_)
  .rw [List.any_append,<- hM,List.any_cons,List.any_nil,Bool.or_false]
  have h8:f y=if b=true then [] else oR (sY s GU) (fS s) (ids.drop (at_+1)) (l++[G2.mk id y]):=by rw [<- hf,hM]
  refine Ja (fun h=>?_) (fun h=>hK _ ?_)
  .have a3:b=false:=by simpa using h
   rw [h8,a3,if_neg Bool.false_ne_true] at hK h4;refine Yt (oQ (by rw [List.length_nil]; omega) (by omega)) (fO rfl h0 (Yt (oQ (by rw [List.nil_append,Po]; omega) (by omega)) (bW ⟨by omega,by omega⟩ ?_)));have a0:=ih F (at_+1) (l++[G2.mk id y]) st (by omega) (by rw [Pn,Po,h2]) (by omega) h4;exact H2 a0 (hK _ rfl)
  .have a4:b=true:=by simpa using h
   rw [h8,a4,if_pos rfl,List.append_nil]
end Go.Proofs.YtbgfgnddogfpcaaGreat
