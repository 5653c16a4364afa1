/-
 When a state is right: Which bx are lf:
-/
import Derived.Test.YtkiekighbhnolaaGreatLiftT
set_option maxRecDepth 100000
set_option linter.unusedVariables false
namespace Go.Proofs.YtkiekighbhnolaaGreat
open Go.RowKit

variable {J:Type}
theorem qI [Inhabited J] {c:Bool} {m:Option J} {x:J} (h:c=true->m=some x):∃ r,(bif c then m else some default)=some r/\(c=true->r=x):=by
 cases c with
 | true=>exact⟨x,h rfl,fun _=>rfl⟩
 | false=>exact⟨default,rfl,fun e=>by cases e⟩
theorem J03 (bx:AK) (id:Int):Zo bx id=some (match iI bx id with
  | some b=>(b,true)
  | none=>(Box.mk 0 ByteArray.empty 0 false 0 0 0 0 false,false)):=by
 refine Ys ?_;unfold Zo;refine Jw (fun pre _=>∀ b∈pre,¬ b.ID=id) (fun b hb=>(Py hb).elim) (fun pre y post s nx e hI h0=>H7 (fun h=>Gg ?_) (fun h=>h0 _ (Q2 (P:=fun b:Box=>¬ b.ID=id) hI (Pr h)))) (fun s hI=>Gg ?_)
 .have:iI bx id=some y:=by
   unfold iI;rw [e,List.find?_append,List.find?_eq_none.2 (fun b hb=>by simpa using hI b hb)];simp only [Option.none_or,List.find?_cons,h]
  rw [this]
 .have:iI bx id=none:=by
   unfold iI;exact List.find?_eq_none.2 (fun b hb=>by simpa using hI b hb)
  rw [this]
theorem Q42 (s:Ge) (x:Slot) (size:Int):Wp (bC s x size) (fun r=>r=true ↔ G42 s x size):=by
 unfold bC;have h3:(((decide (size=40))&&(decide (x.Half=0)))||((decide (size=20))&&((decide (x.Half=1))||(decide (x.Half=2)))))=true ↔ x.Half∈G0e size:=by
  unfold G0e;simp only [Sg,S8,S9];by_cases h4:size=40
  .rw [if_pos h4]; subst h4; simp
  .rw [if_neg h4];by_cases h2:size=20
   .rw [if_pos h2]; subst h2; simp
   .rw [if_neg h2]; simp [h4,h2]
 by_cases h0:0<=x.G5/\x.G5 < (s.Columns.length:Int)/\0<=x.AB
 .obtain⟨m,hm⟩:∃ m:Nat,x.G5=(m:Int):=⟨x.G5.toNat,by omega⟩;have h5:m < s.Columns.length:=by omega
  have hc:s.Columns[m]? = some s.Columns[m]:=by simp [h5]
  have h1:((decide (x.G5 < 0)||decide ((s.Columns.length:Int)<=x.G5))||decide (x.AB < 0))=false:=by
   simp only [Sh,decide_eq_false_iff_not]; omega
  rw [h1];simp only [Bool.not_false,cond_true,Bool.false_or];rw [hm];refine Gt ((Qk hc some).trans rfl) (H7 (fun h=>Gg (Rb fun hs=>?_)) (fun h=>Gg ?_))
  .obtain⟨m',c,e1,e2,e3⟩:=hs.col;have:m'=m:=by omega
   subst this;rw [hc] at e2; cases e2;have:=Pq h;omega
  .rw [h3];exact⟨fun hh=>⟨⟨m,_,hm,hc,by have:=Pr h; omega⟩,h0.2.2,hh⟩,fun hs=>hs.half⟩
 .have h1:((decide (x.G5 < 0)||decide ((s.Columns.length:Int)<=x.G5))||decide (x.AB < 0))=true:=by
   simp only [Sg,S9]; omega
  rw [h1];simp only [Bool.not_true,cond_false,Bool.true_or,cond_true];refine H6 (Gg (Gg (Rb fun hs=>h0 ?_)));obtain⟨m',c,e1,e2,e3⟩:=hs.col;have:=(Pu e2).1;have:=hs.tier;omega
theorem Ga2 (l:List Slot) (x:Slot) (half:Int) (ht : -1000000<=x.AB/\x.AB<=1000000):Wp (Y7 l x half) (fun r=>r=true ↔ below l x half):=by
 unfold Y7 below;have key:∀ y:Slot,(y.G5=x.G5/\y.AB=x.AB - 1/\y.Half=half) ↔ y=⟨x.G5,x.AB - 1,half⟩:=fun y=>by
  cases y;simp
 refine Jw (fun pre _=>∀ y∈pre,¬ y=⟨x.G5,x.AB - 1,half⟩) (fun b hb=>(Py hb).elim) (fun pre y post s nx e hI h0=>?_) (fun s hI=>Gg (Rb fun h=>hI _ h rfl));obtain⟨r,e1,h1⟩:=qI (c:=decide (y.G5=x.G5)) (m:=chk (x.AB - 1) some) (x:=x.AB - 1) (fun _=>Ys (aT ⟨by omega,by omega⟩ Gg));refine Gt e1 (H7 (fun h=>Gg ⟨fun _=>?_,fun _=>rfl⟩) (fun h=>h0 _ (Q2 hI fun hy=>?_)))
 .simp only [S8,S9] at h;have hr:=h1 (Ps h.1.1);have:=(key y).1 ⟨h.1.1,by rw [h.1.2,hr],h.2⟩;rw [<- this,e]; simp
 .have hk:=(key y).2 hy;have hr:=h1 (Ps hk.1);rw [hr,Ps hk.1,Ps hk.2.1,Ps hk.2.2] at h;cases h
theorem Q46 (x:Slot) (l:List Slot) (ht : -1000000<=x.AB/\x.AB<=1000000):Wp (cJ x l) (fun r=>r=true ↔ G84 x l):=by
 unfold cJ G84;refine H7 (fun h=>Gg ⟨fun _=>.inl (Pq h),fun _=>rfl⟩) (fun h=>?_);have h0:=Pr h;refine H7 (fun h=>?_) (fun h=>?_)
 .have hh:=Pq h;refine H6 (wp_mono (Ga2 l x 0 ht) (fun r8 h8=>?_));rw [hh];cases r8 with
  | true=>exact H6 (Gg (H6 (Gg (Gg ⟨fun _=>.inr (.inl (h8.1 rfl)),fun _=>rfl⟩))))
  | false=>
   simp only [Bool.not_false,cond_true,Bool.true_and,Bool.false_or];refine H6 (wp_mono (Ga2 l x 1 ht) (fun r9 h9=>?_));have n0:¬ below l x 0:=fun hb=>by have:=h8.2 hb; cases this
   cases r9 with
   | true=>
    simp only [cond_true,Bool.true_and];refine H6 (wp_mono (Ga2 l x 2 ht) (fun r10 h2=>Gg ?_));rw [h2];exact⟨fun hb=>.inr (.inr ⟨trivial,h9.1 rfl,hb⟩),fun hh=>hh.elim (fun h=>(h0 h).elim) (fun h=>h.elim (fun h=>(n0 h).elim) (fun h=>h.2.2))⟩
   | false=>
    simp only [cond_false,Bool.false_and];refine H6 (Gg (Gg (Rb fun hh=>hh.elim h0 (fun h=>h.elim n0 (fun h=>?_)))));have:=h9.2 h.2.1; cases this
 .have hh:=Pr h;refine H6 (wp_mono (Ga2 l x x.Half ht) (fun r h1=>Gg ?_));rw [h1];exact⟨fun h=>.inr (.inl h),fun h=>h.elim (fun h=>(h0 h).elim) (fun h=>h.elim (fun h=>h) (fun h=>(hh h.1).elim))⟩
def ZU (a b:Int):Bool:=((decide (a=b))||(decide (a=0)))||(decide (b=0))
theorem Gd7 (a b:Int):Rw a b=some (ZU a b):=rfl
theorem G70 {a b:Int}:ZU a b=true ↔ wD a b:=by
 unfold ZU wD;simp only [Sg,S9,or_assoc]
theorem Q44 (a b:Slot):Wp (cI a b) (fun r=>r=true ↔ GM a b):=by
 unfold cI GM;obtain⟨r,e1,h1⟩:=qI (c:=decide (a.G5=b.G5)&&decide (a.AB=b.AB)) (m:=Rw a.Half b.Half) (x:=ZU a.Half b.Half) (fun _=>Gd7 _ _);refine Gt e1 (Gg ?_);cases hc:(decide (a.G5=b.G5)&&decide (a.AB=b.AB)) with
 | true=>
  rw [h1 hc];simp only [S8,S9] at hc;rw [Bool.true_and,G70];exact⟨fun h=>⟨hc.1,hc.2,h⟩,fun h=>h.2.2⟩
 | false=>
  simp only [Bool.false_and];refine Rb fun h=>?_;rw [Ps h.1,Ps h.2.1] at hc;cases hc
theorem Q43 (a b:Slot):Wp (cH a b) (fun r=>r=true ↔ G1a a b):=by
 unfold cH G1a;obtain⟨r,e1,h1⟩:=qI (c:=decide (a.G5=b.G5)&&decide (b.AB < a.AB)) (m:=Rw a.Half b.Half) (x:=ZU a.Half b.Half) (fun _=>Gd7 _ _);refine Gt e1 (Gg ?_);cases hc:(decide (a.G5=b.G5)&&decide (b.AB < a.AB)) with
 | true=>
  rw [h1 hc];simp only [S8,S9] at hc;rw [Bool.true_and,G70];exact⟨fun h=>⟨hc.1,hc.2,h⟩,fun h=>h.2.2⟩
 | false=>
  simp only [Bool.false_and];refine Rb fun h=>?_;rw [Ps h.1,Ps h.2.1] at hc;cases hc
theorem Gd6 (bx:AK) (l:AG) (AC half:Int) (hl:l.length<=1000000):Rv bx l AC half=some (jM bx l AC half):=by
 refine Ys ?_;unfold Rv;refine Jw (fun pre n=>n=jM bx pre AC half/\0<=n/\n<=2896*(pre.length:Int)) ⟨rfl,by omega,by simp⟩ (fun pre y post n nx e hI h2=>?_) (fun n hI=>Gg hI.1);obtain⟨i1,i2,i3⟩:=hI;have h3:pre.length < 1000000:=by rw [e] at hl; simp only [S6,S2] at hl; omega
 have h0:jM bx (pre++[y]) AC half=ZG bx AC half n y:=by
  unfold jM; rw [List.foldl_append,i1]; rfl
 have h4:=Je2 (bx:=bx) (AC:=AC) (half:=half) (n:=n) (x:=y);refine gR (fun j=>j=ZG bx AC half n y) (fun K hK=>?_) (fun j hj=>h2 _ ⟨by rw [h0,hj],by omega,by rw [S6,S7]; omega⟩);refine Gt (J03 bx y.Box) ?_;unfold ZG at hK;cases hf:iI bx y.Box with
 | none=>
  rw [hf] at hK;simp only [Bool.not_false,Bool.true_or,cond_true];exact hK _ (by split <;> rfl)
 | some b=>
  rw [hf] at hK;simp only [Bool.not_true,Bool.false_or];refine H7 (fun h=>hK _ ?_) (fun h=>?_)
  .simp only [Sg,S8,S9,ne_eq] at h;have h1:¬ (y.Slot.G5=AC/\(y.Slot.Half=half\/y.Slot.Half=0)):=fun hc=>h.elim (fun h=>h hc.1) (fun h=>hc.2.elim h.1 h.2);rw [if_neg h1]
  .simp only [Sh,Bool.and_eq_false_iff,decide_eq_false_iff_not,ne_eq,Decidable.not_not] at h;rw [if_pos ⟨h.1,h.2⟩] at hK;unfold H46 at hK;refine H7 (fun hh=>aT ⟨by omega,by omega⟩ (hK _ (by show _=n+(if b.BU=true then 2896 else 2591); rw [if_pos hh]))) (fun hh=>aT ⟨by omega,by omega⟩ (hK _ (by show _=n+(if b.BU=true then 2896 else 2591); rw [if_neg (by rw [hh]; simp)])))
theorem Q09 (l:AG) (hl:l.length<=1000000):bB l=some (l.map (·.Slot)):=by
 refine Ys ?_;unfold bB;refine Jw (fun pre s=>s=pre.map (·.Slot)) rfl (fun pre y post s nx e hI h0=>?_) (fun s hI=>Gg hI);have h1:pre.length < 1000000:=by rw [e] at hl; simp only [S6,S2] at hl; omega
 subst hI;refine Qs (pC (by rw [Sa,S7]; omega) (by omega)) (h0 _ (by simp))
variable {c:G5} {s:Ge} {bx:AK} {l:AG} {m:Nat}
theorem Q45 (hc:s.Columns[m]? = some c) (h0:0<=c.Height) (hl:l.length<=1000000):Wp (cG s bx l (m:Int)) (fun r=>r=true ↔ ¬ G86 bx l m c):=by
 unfold cG G86;rw [Qk hc];refine H7 (fun h=>Gg (Rb fun h2=>h2 (.inl (by have:=Pq h; omega)))) (fun h=>?_);have hh:=Pr h;refine Gt (Gd6 bx l m 1 hl) ?_;rw [Qk hc];obtain⟨r,e1,h1⟩:=qI (c:=!(decide (c.Height < jM bx l m 1))) (m:=Rv bx l m 2) (x:=jM bx l m 2) (fun _=>Gd6 bx l m 2 hl);obtain⟨r2,e2,h2⟩:=qI (c:=!(decide (c.Height < jM bx l m 1))) (m:=Jk s.Columns (m:Int) some) (x:=c) (fun _=>Qk hc some);refine Gt e1 (Gt e2 (Gg ?_));by_cases h3:c.Height < jM bx l m 1
 .rw [Ps h3,Bool.true_or];exact⟨fun _ hf=>by omega,fun _=>rfl⟩
 .have e3:=h1 (by rw [Pt h3]; rfl);have e4:=h2 (by rw [Pt h3]; rfl);rw [e3,e4,Pt h3,Bool.false_or,S9];omega
theorem Gd5 {F:Nat} (hp:∀ c∈s.Columns,c.Plugs.length<=1048576) (hr:∀ x∈s.Covers,x.Rows.length<=1048576) (hb:∀ b∈bx,0<=b.Size/\b.Size<=255) (hl:l.length<=1000000) :
  Wp (Yd F s bx l) (fun r=>r=true ↔ qV s/\Qq s bx l):=by
 unfold Yd;refine H6 (wp_mono (G2f (F:=F) s hp hr) (fun r hs=>H7 (fun h=>Gg (Rb fun hh=>?_)) (fun h=>?_)))
 .rw [hs.2 hh.1] at h; cases h
 have hS:qV s:=by
  cases r with
  | true=>exact hs.1 rfl
  | false=>cases h
 have a5:∀ c∈s.Columns,c.AP<=10:=fun c hc=>by have:=(hS.col c hc).place; omega
 refine Jw (fun pre _=>(∀ x∈pre,∃ b,iI bx x.Box=some b/\G42 s x.Slot b.Size/\G84 x.Slot (l.map (·.Slot)))/\pre.Pairwise (fun a b=>a.Box < b.Box)/\pre.Pairwise (fun a b=>¬ GM b.Slot a.Slot))
  ⟨fun x hx=>(Py hx).elim,List.Pairwise.nil,List.Pairwise.nil⟩ (fun pre y post u nx e hI h5=>?_) (fun u hI=>?_)
 .obtain⟨i1,i2,i3⟩:=hI;have h6:y∈l:=by rw [e]; simp
  have b6:pre.length < l.length:=by rw [e]; simp
  refine Gt (J03 bx y.Box) ?_;cases hf:iI bx y.Box with
  | none=>
   simp only [Bool.not_false,Bool.not_true,cond_false,Bool.true_or,cond_true];refine H6 (Gg (H6 (Gg (H6 (Gg (H6 (Gg (Gg (Rb fun hh=>?_)))))))));obtain⟨b,h1,_⟩:=hh.2.each y h6;rw [hf] at h1; cases h1
  | some b=>
   have b2:b∈bx:=List.mem_of_find?_eq_some hf;have b7:=hb b b2;simp only [Bool.not_true,Bool.not_false,cond_true,Bool.false_or];refine H6 (aT ⟨by omega,by omega⟩ (Gg (H6 (wp_mono (Q42 s y.Slot b.Size) (fun r17 a7=>?_)))));cases r17 with
   | false=>
    simp only [Bool.not_false,Bool.not_true,cond_false,Bool.true_or,cond_true];refine H6 (Gg (H6 (Gg (Gg (Rb fun hh=>?_)))));obtain⟨b',h1,h2,_⟩:=hh.2.each y h6;rw [hf] at h1; cases h1;have:=a7.2 h2; cases this
   | true=>
    have h4:=a7.1 rfl;simp only [Bool.not_true,Bool.not_false,cond_true,Bool.false_or];refine Gt (Q09 l hl) ?_;have b3 : -1000000<=y.Slot.AB/\y.Slot.AB<=1000000:=by
     obtain⟨m',c,_,e2,e3⟩:=h4.col;have:=a5 c (Px e2);have:=h4.tier;omega
    refine H6 (wp_mono (Q46 y.Slot (l.map (·.Slot)) b3) (fun r19 a8=>H7 (fun h=>Gg (Rb fun hh=>?_)) (fun h=>?_)))
    .obtain⟨b',h1,_,h2⟩:=hh.2.each y h6;rw [a8.2 h2] at h; cases h
    have a6:G84 y.Slot (l.map (·.Slot)):=by
     cases r19 with
     | true=>exact a8.1 rfl
     | false=>cases h
    refine Qs (Ps (by omega)) ?_;rw [show (pre.length:Int).toNat=pre.length by omega];refine kO (fun i _=>∀ (k:Nat) z,k < i->pre[k]? = some z->z.Box < y.Box/\¬ GM z.Slot y.Slot) (fun k z hk=>by omega) (fun i u nx2 hi hJ b1=>?_) (fun u hJ=>h5 _ ?_)
    .have hx:pre[i]? = some (pre[i]'hi):=Pv hi;have h7:l[i]? = some (pre[i]'hi):=by rw [e,S1 hi]; exact hx
     have h8:pre[i]'hi∈pre:=List.getElem_mem _;generalize pre[i]'hi=z at hx h7 h8;rw [Qk h7];obtain⟨q1,e1,h1⟩:=qI (c:=!(decide (y.Box<=z.Box))) (m:=Jk l (i:Int) some) (x:=z) (fun _=>Qk h7 some);refine Gt e1 ?_;by_cases h9:y.Box<=z.Box
     .rw [Ps h9];simp only [Bool.not_true,cond_false,Bool.true_or,cond_true];refine H6 (Gg (Gg (Rb fun hh=>?_)));have h1:=hh.2.sorted;rw [e] at h1;have:=(List.pairwise_append.1 h1).2.2 z h8 y (by simp);omega
     .have hq:=h1 (by rw [Pt h9]; rfl);subst hq;rw [Pt h9];simp only [Bool.not_false,cond_true,Bool.false_or];refine H6 (wp_mono (Q44 q1.Slot y.Slot) (fun r47 a9=>H7 (fun h=>Gg (Rb fun hh=>?_)) (fun h=>b1 _ (fun k c b8 a0=>?_))))
      .have h1:=hh.2.apart;rw [e] at h1;have h2:=(List.pairwise_append.1 h1).2.2 q1 h8 y (by simp);have h3:=a9.1 h;refine h2 ?_;unfold GM wD at h3 ⊢;obtain⟨a1,a2,a3⟩:=h3;exact⟨a1.symm,a2.symm,by omega⟩
      .by_cases b4:k < i
       .exact hJ k c b4 a0
       .have:k=i:=by omega
        subst this;rw [hx] at a0;cases a0;exact⟨by omega,fun h3=>by rw [a9.2 h3] at h; cases h⟩
    .have a4:∀ z∈pre,z.Box < y.Box/\¬ GM z.Slot y.Slot:=fun z hz=>by
      obtain⟨k,hk⟩:=List.mem_iff_getElem?.1 hz;exact hJ k z (Pu hk).1 hk
     refine⟨Q2 i1 ⟨b,hf,h4,a6⟩,oN i2 (fun z hz=>(a4 z hz).1),oN i3 (fun z hz h3=>(a4 z hz).2 ?_)⟩;unfold GM wD at h3 ⊢;obtain⟨a1,a2,a3⟩:=h3;exact⟨a1.symm,a2.symm,by omega⟩
 .obtain⟨i1,i2,i3⟩:=hI;refine Jw (fun pre _=>∀ (k:Nat) c,k < pre.length->s.Columns[k]? = some c->G86 bx l k c) (fun k c hk=>by simp at hk) (fun pre y post u nx e hJ h5=>?_) (fun u hJ=>Gg ⟨fun _=>⟨hS,i1,i2,i3,fun m c hc=>hJ m c (Pu hc).1 hc⟩,fun _=>rfl⟩);have hy:s.Columns[pre.length]? = some y:=by rw [e]; simp
  have h0:0<=y.Height:=by have:=(hS.col y (by rw [e]; simp)).place; omega
  refine H6 (wp_mono (Q45 (bx:=bx) (l:=l) hy h0 hl) (fun r67 b0=>H7 (fun h=>Gg (Rb fun hh=>b0.1 h (hh.2.fits _ _ hy))) (fun h=>h5 _ (fun k c hk hc=>?_))));rw [S6,S7] at hk;by_cases b5:k < pre.length
  .exact hJ k c b5 hc
  .have:k=pre.length:=by omega
   subst this;rw [hy] at hc;cases hc;refine Classical.byContradiction fun hf=>?_;rw [b0.2 hf] at h; cases h
theorem G32 (hp:∀ c∈s.Columns,c.Plugs.length<=1048576) (hr:∀ x∈s.Covers,x.Rows.length<=1048576) (hl:l.length<=1000000) :
  Wp (eK s bx l) (fun r=>r=true ↔ qV s/\Qq s bx l):=by
 obtain⟨r,er,hs⟩:=zP s hp hr;cases r with
 | true=>
  have hS:=hs.1 rfl;refine wp_mono (J93 er (fun c hc=>by have:=(hS.col c hc).place; omega) hl) (fun r h=>h.trans ⟨fun h=>⟨hS,h⟩,fun h=>h.2⟩)
 | false=>
  unfold eK;refine Gt er (H7 (fun _=>Gg (Rb fun hh=>?_)) (fun h=>by cases h));have:=hs.2 hh.1; cases this

theorem wp_loop {β W:Type} {Q:β->Prop} (I:W->Prop) (B:W->Nat) {b:(W->Option β)->W->Option β} {F:Nat} {s:W} (h0:I s) (hF:B s < F)
  (hb:∀ s nx,I s->(∀ s',I s'->B s' < B s->Wp (nx s') Q)->Wp (b nx s) Q):Wp (loop b F s) Q:=by
 induction F generalizing s with
 | zero=>omega
 | succ F ih=>
  rw [loop];exact hb s _ h0 (fun s' h1 h2=>ih h1 (by omega))
theorem Q48 (l:AG) (id:Int):Jz l id=some (JP (fun x:G2=>decide (x.Box=id)) l):=by
 unfold Jz;exact JZ (f:=fun x:G2=>some (decide (x.Box=id))) (fun x _=>rfl)
theorem lP (st:AG) (id:Int):(Jz st id=some (-1)/\R8 st id=(⟨0,0,0⟩,false))\/∃ (m:Nat) (x:G2),Jz st id=some (m:Int)/\st[m]? = some x/\x.Box=id/\R8 st id=(x.Slot,true):=by
 rw [Q48];unfold R8 Ge7;rcases pM (fun x:G2=>decide (x.Box=id)) st with ⟨h1,_,h3⟩ | ⟨m,x,h1,h2,h3,h4⟩
 .rw [h1,h3]; exact .inl ⟨rfl,rfl⟩
 .rw [h1,h4]; exact .inr ⟨m,x,rfl,h2,Pq h3,rfl⟩
variable {st:AG}
theorem J1f (hs:st.Pairwise (fun a b=>a.Box < b.Box)) {y:G2} (hy:y∈st):R8 st y.Box=(y.Slot,true):=by
 rcases lP st y.Box with ⟨_,h⟩ | ⟨m,x,_,h1,h2,h3⟩
 .have:=(ZE (l:=st) (id:=y.Box)).2 (Sc.2 ⟨y,hy,rfl⟩);rw [h] at this; cases this
 .have hx:=Px h1;have:x=y:=by
   obtain⟨i,hi,rfl⟩:=List.mem_iff_getElem.1 hx;obtain⟨j,hj,rfl⟩:=List.mem_iff_getElem.1 hy;have hp:=List.pairwise_iff_getElem.1 hs;rcases Nat.lt_trichotomy i j with h | h | h
   .have:=hp i j hi hj h; omega
   .subst h; rfl
   .have:=hp j i hj hi h; omega
  rw [h3,this]
theorem Qae {p:J->Bool} {pre post:List J} {y:J} (h1:∀ x∈pre,p x=false) (h2:p y=true):JP p (pre++y::post)=(pre.length:Int):=by
 have:(pre++y::post).findIdx? p=some pre.length:=by
  rw [List.findIdx?_append,List.findIdx?_eq_none_iff.2 h1];simp [List.findIdx?_cons,h2]
 unfold JP;rw [this]
theorem Q18 {p:J->Bool} {l:List J} (h1:∀ x∈l,p x=false):JP p l = -1:=by
 unfold JP;rw [List.findIdx?_eq_none_iff.2 h1]
theorem G30 (hc:s.Columns[m]? = some c):R4 s (m:Int)=some (Y4 s c):=by
 refine Ys ?_;unfold R4 Y4;have h4:=(Pu hc).1;refine H7 (fun h=>?_) (fun _=>?_)
 .simp only [Sg,S9] at h;omega
 refine Jw (fun pre _=>∀ x∈pre,G13 x c=false) (fun b hb=>(Py hb).elim) (fun pre y post u nx e hI h3=>?_) (fun u hI=>Gg (Q18 hI).symm);rw [Qk hc];obtain⟨q1,e1,h1⟩:=qI (c:=decide (y.Bay=c.Bay)) (m:=Jk s.Columns (m:Int) some) (x:=c) (fun _=>Qk hc some);refine Gt e1 ?_;obtain⟨q2,e2,h2⟩:=qI (c:=decide (y.Bay=c.Bay)) (m:=Qu y.Rows q1.Row) (x:=y.Rows.any (fun r=>decide (r=c.Row))) (fun h=>by rw [h1 h]; exact Ge1 _ _);refine Gt e2 ?_;have h0:(decide (y.Bay=c.Bay)&&q2)=G13 y c:=by
  unfold G13;cases hb:decide (y.Bay=c.Bay) with
  | true=>rw [h2 hb]
  | false=>rfl
 rw [h0];refine H7 (fun h=>Gg ?_) (fun h=>h3 _ (Q2 (P:=fun x=>G13 x c=false) hI h));rw [e,Qae hI h]
theorem Q0a (bf af:AG) (id:Int):Wp (Z5 bf af id) (fun r=>r=true ↔ ¬ ((R8 bf id).2=true/\(R8 af id).2=true/\(R8 bf id).1=(R8 af id).1)):=by
 unfold Z5;rcases lP bf id with ⟨a1,a2⟩ | ⟨m,x,a1,a2,a3,a4⟩
 .rw [a1,a2];refine H6 (Gg ?_);rcases lP af id with ⟨b1,b2⟩ | ⟨k,y,b1,b2,b3,b4⟩
  .rw [b1];exact H6 (Gg (H6 (Gg (H6 (Gg (Gg (by simp)))))))
  .rw [b1];exact H6 (Gg (H6 (Gg (H6 (Gg (Gg (by simp)))))))
 .rw [a1,a4];refine H6 (Gg ?_);rw [Pt (by omega:¬ ((m:Int) < 0))];rcases lP af id with ⟨b1,b2⟩ | ⟨k,y,b1,b2,b3,b4⟩
  .rw [b1,b2];exact H6 (Gg (H6 (Gg (H6 (Gg (Gg (by simp)))))))
  .rw [b1,b4];refine H6 (Gg ?_);rw [Pt (by omega:¬ ((k:Int) < 0))];simp only [Bool.or_self,Bool.not_false,cond_true,Bool.false_or];refine Gt ((Qk a2 some).trans rfl) (Gt ((Qk b2 some).trans rfl) (Gg ?_));simp
theorem J02 {id:Int} {x:Slot} (hm:x.G5=(m:Int)) (hc:s.Columns[m]? = some c) (h7:∀ y∈st,Jea s y.Slot) :
  Wp (Rt s st id (m:Int)) (fun r=>r=true ↔ (R8 st id).2=true/\upon s x (R8 st id).1):=by
 unfold Rt;rcases lP st id with ⟨a1,a2⟩ | ⟨k,y,a1,a2,a3,a4⟩
 .rw [a1,a2];refine H6 (Gg (H6 (Gg (H6 (Gg (H6 (Gg ?_)))))));exact Gg (Rb fun h=>by cases h.1)
 .rw [a1,a4];refine H6 (Gg ?_);rw [Pt (by omega:¬ ((k:Int) < 0))];simp only [Bool.not_false,cond_true,Bool.false_or];refine Gt ((Qk hc some).trans rfl) ?_;obtain⟨m1,c1,h5,h6⟩:=h7 y (Px a2);have same:∀ {m':Nat} {c':G5} {m1':Nat} {c1':G5},x.G5=(m':Int)->s.Columns[m']? = some c'->y.Slot.G5=(m1':Int)->s.Columns[m1']? = some c1'->c'=c/\c1'=c1:=fun h1 h2 h3 h4=>by
   have e1:_=m:=Int.ofNat.inj (h1.symm.trans hm);have e2:_=m1:=Int.ofNat.inj (h3.symm.trans h5);subst e1 e2;rw [hc] at h2; rw [h6] at h4;cases h2; cases h4;exact⟨rfl,rfl⟩
  cases hd:c.AO with
  | true=>
   simp only [Bool.not_true,cond_false,Bool.true_or,cond_true];refine H6 (Gg (H6 (Gg (Gg (Rb fun h=>?_)))));obtain⟨m',c',m1',c1',g1,g2,g3,g4,g5,_⟩:=h.2;obtain⟨rfl,rfl⟩:=same g1 g2 g3 g4;rw [hd] at g5; cases g5
  | false=>
   simp only [Bool.not_false,cond_true,Bool.false_or];refine Gt ((Qk a2 some).trans rfl) ?_;rw [h5];refine Gt ((Qk h6 some).trans rfl) (H7 (fun h=>Gg (Rb fun hh=>?_)) (fun h=>?_))
   .obtain⟨m',c',m1',c1',g1,g2,g3,g4,g5,g6,_⟩:=hh.2;obtain⟨rfl,rfl⟩:=same g1 g2 g3 g4;rw [g6] at h; cases h
   .have h8:c1.AO=true:=by
     cases hh:c1.AO with
     | true=>rfl
     | false=>rw [hh] at h; cases h
    refine Gt (G30 hc) ?_;obtain⟨q1,e1,h1⟩:=qI (c:=decide (0<=Y4 s c)) (m:=Jk st (k:Int) some) (x:=y) (fun _=>Qk a2 some);refine Gt e1 ?_;obtain⟨q2,e2,h2⟩:=qI (c:=decide (0<=Y4 s c)) (m:=R4 s q1.Slot.G5) (x:=Y4 s c1) (fun h=>by rw [h1 h,h5]; exact G30 h6);refine Gt e2 (Gg ?_);cases h0:decide (0<=Y4 s c) with
    | false=>
     rw [Bool.false_and];refine Rb fun hh=>?_;obtain⟨m',c',m1',c1',g1,g2,g3,g4,g5,g6,g7,_⟩:=hh.2;obtain⟨rfl,rfl⟩:=same g1 g2 g3 g4;exact Pr h0 g7
    | true=>
     rw [Bool.true_and,h2 h0,S9];constructor
     .intro hq;exact⟨trivial,m,c,m1,c1,hm,hc,h5,h6,hd,h8,Pq h0,hq⟩
     .rintro⟨_,m',c',m1',c1',g1,g2,g3,g4,g5,g6,g7,g8⟩;obtain⟨rfl,rfl⟩:=same g1 g2 g3 g4;exact g8
structure StR (s:Ge) (st:AG):Prop where
 sorted:st.Pairwise (fun a b=>a.Box < b.Box)
 col:∀ y∈st,Jea s y.Slot
theorem H3d (h:StR s st) {x:Slot} {id:Int}:((R8 st id).2=true/\upon s x (R8 st id).1) ↔ ∃ y∈st,y.Box=id/\upon s x y.Slot:=by
 constructor
 .rintro⟨h1,h2⟩;obtain⟨y,hy,h3,h4⟩:=RC h1;exact⟨y,hy,h3,h4 ▸ h2⟩
 .rintro⟨y,hy,rfl,h2⟩;rw [J1f h.sorted hy];exact⟨rfl,h2⟩
theorem G73 {other:AG} (h1:StR s l) (h2:StR s other) (id cause:Int):Wp (R3 s l other id cause) (fun r=>r=true ↔ qJ s [l,other] l cause id):=by
 unfold R3 qJ;rcases lP l cause with ⟨a1,a2⟩ | ⟨k,y,a1,a2,a3,a4⟩
 .rw [a1,a2];exact H6 (Gg (Gg (Rb fun h=>by cases h.1)))
 .rw [a1,a4];refine H6 (Gg ?_);rw [Pt (by omega:¬ ((k:Int) < 0)),cond_false];obtain⟨m,c,hm,hc⟩:=h1.col y (Px a2);have tail:(¬ ∃ z∈l,z.Box=id/\G1a z.Slot y.Slot)->Wp (Jk l (k:Int) fun y16=>
   bnd (Rt s l id y16.Slot.G5) fun r18=>
   bnd (bif (!r18) then Jk l (k:Int) some else some default) fun y19=>
   bnd (bif (!r18) then Rt s other id y19.Slot.G5 else some default) fun r20=>
   some (r18||r20)) (fun r=>r=true ↔ (y.Slot,true).2=true/\((∃ z∈l,z.Box=id/\G1a z.Slot (y.Slot,true).1)\/∃ st2∈[l,other],∃ z∈st2,z.Box=id/\upon s (y.Slot,true).1 z.Slot)):=fun h8=>by
   rw [Qk a2,hm];refine H6 (wp_mono (J02 hm hc h1.col) (fun r18 h0=>?_));rw [H3d h1] at h0;cases r18 with
   | true=>
    refine H6 (Gg (H6 (Gg (Gg ⟨fun _=>⟨rfl,.inr ⟨l,by simp,h0.1 rfl⟩⟩,fun _=>rfl⟩))))
   | false=>
    simp only [Bool.not_false,cond_true,Bool.false_or];refine Gt ((Qk a2 some).trans rfl) ?_;rw [hm];refine H6 (wp_mono (J02 hm hc h2.col) (fun r20 h5=>Gg ?_));rw [H3d h2] at h5;rw [h5];constructor
    .intro h; exact⟨trivial,.inr ⟨other,by simp,h⟩⟩
    .rintro⟨_,h | ⟨st2,h6,h⟩⟩
     .exact(h8 h).elim
     .simp only [Se,Py,or_false] at h6;rcases h6 with rfl | rfl
      .have:=h0.2 h; cases this
      .exact h
  rcases lP l id with ⟨b1,b2⟩ | ⟨j,z,b1,b2,b3,b4⟩
  .rw [b1];refine H6 (Gg (H6 (Gg (H6 (Gg (H6 (Gg ?_)))))));refine tail (fun⟨z,hz,h3,_⟩=>?_);have:=(ZE (l:=l) (id:=id)).2 (Sc.2 ⟨z,hz,h3⟩);rw [b2] at this; cases this
  .rw [b1];refine H6 (Gg ?_);rw [Ps (by omega:(0:Int)<=(j:Int))];refine Gt (show (bif true then Jk l (j:Int) some else some default)=some z from (Qk b2 some).trans rfl) (Gt (show (bif true then Jk l (k:Int) some else some default)=some y from (Qk a2 some).trans rfl) ?_);rw [cond_true];refine H6 (wp_mono (Q43 z.Slot y.Slot) (fun r13 h7=>?_));have hz:∀ z'∈l,z'.Box=id->z'.Slot=z.Slot:=fun z' h4 hi=>by
    have:=J1f h1.sorted h4;rw [hi,b4] at this;exact(congrArg Prod.fst this).symm
   cases r13 with
   | true=>exact Gg ⟨fun _=>⟨rfl,.inl ⟨z,Px b2,b3,h7.1 rfl⟩⟩,fun _=>rfl⟩
   | false=>
    refine tail (fun⟨z',h4,h3,ho⟩=>?_);rw [hz z' h4 h3] at ho;have:=h7.2 ho; cases this
theorem G31 {bf af:AG} {a b:Int}:fT s [bf,af] a b ↔ qJ s [bf,af] bf a b\/qJ s [af,bf] af a b:=by
 have sw:∀ {st:AG},qJ s [bf,af] st a b ↔ qJ s [af,bf] st a b:=fun {st}=>by
  unfold qJ;constructor
  .rintro⟨h1,h2⟩; exact⟨h1,h2.imp _root_.id (fun⟨st2,h3,h4⟩=>⟨st2,JK h3,h4⟩)⟩
  .rintro⟨h1,h2⟩; exact⟨h1,h2.imp _root_.id (fun⟨st2,h3,h4⟩=>⟨st2,JK h3,h4⟩)⟩
 unfold fT;simp only [Se,Py,or_false,exists_eq_or_imp,exists_eq_left];rw [sw (st:=af)]

/-! ### Marks -/
def eU (L:List Gx):Nat:=L.countP (fun m=>!m.in_)
theorem ZF:∀ (L:List Gx) (i:Nat) (x:Gx),L[i]? = some x->x.in_=false->eU (L.set i ⟨x.id,true⟩)+1=eU L
 | [],i,x,h,_=>by simp at h
 | m::L,0,x,h,hx=>by
  simp at h; subst h;simp [eU,List.countP_cons,hx]
 | m::L,i+1,x,h,hx=>by
  have:=ZF L i x (by simpa using h) hx;unfold eU at this ⊢;rw [List.set_cons_succ,List.countP_cons,List.countP_cons];omega
theorem Qb0 {L:List Gx} {i:Nat} {x:Gx} (h:L[i]? = some x):(L.set i ⟨x.id,true⟩).map (·.id)=L.map (·.id):=by
 rw [List.map_set];refine List.ext_getElem? (fun j=>?_);rw [List.getElem?_set];split
 .rename_i h0;subst h0;rw [S3,h];split
  .rfl
  .rename_i hl;have:=(Pu h).1;rw [Sa] at hl;exact(hl this).elim
 .rfl
section lf
variable {s:Ge} {bf af:AG}
def Qf9 (bf af:AG) (a:Int):Prop:=∃ st∈[bf,af],∃ y∈st,y.Box=a/\R8 bf a≠R8 af a
def R3f (s:Ge) (bf af:AG) (a:Int):Prop:=∀ C:Int->Prop,(∀ a b,C a->fT s [bf,af] a b->C b)->(∀ a,Qf9 bf af a->C a)->C a
structure uN (s:Ge) (bf af:AG) (ids:AE) (L:List Gx):Prop where
 ids:L.map (·.id)=ids
 seeds:∀ m∈L,Qf9 bf af m.id->m.in_=true
 sound:∀ m∈L,m.in_=true->R3f s bf af m.id
def Done (s:Ge) (bf af:AG) (L:List Gx) (P:Nat->Nat->Prop):Prop:=∀ (i k:Nat) x y,P i k->L[i]? = some x->L[k]? = some y->y.in_=true->fT s [bf,af] y.id x.id->x.in_=true
variable {L:List Gx} {ids:AE}
theorem uN.set (h:uN s bf af ids L) {i k:Nat} {x y:Gx} (hx:L[i]? = some x) (hy:L[k]? = some y) (h0:y.in_=true) (hp:fT s [bf,af] y.id x.id) :
  uN s bf af ids (L.set i ⟨x.id,true⟩):=by
 refine⟨by rw [Qb0 hx]; exact h.ids,fun m hm hs=>?_,fun m hm h3=>?_⟩
 .rcases List.mem_or_eq_of_mem_set hm with hm | rfl
  .exact h.seeds m hm hs
  .rfl
 .rcases List.mem_or_eq_of_mem_set hm with hm | rfl
  .exact h.sound m hm h3
  .exact fun C h1 h2=>h1 y.id x.id (h.sound y (Px hy) h0 C h1 h2) hp
theorem tV (h:uN s bf af ids L):L.length=ids.length:=by rw [<- h.ids,Sa]
theorem Qec (L:List Gx) (id:Int):Wp (bL L id) (fun r=>r=true ↔ ∃ m∈L,m.id=id/\m.in_=true):=by
 unfold bL;refine Jw (fun pre _=>∀ m∈pre,¬ (m.id=id/\m.in_=true)) (fun b hb=>(Py hb).elim) (fun pre y post u nx e hI h0=>H7 (fun h=>Gg ⟨fun _=>⟨y,by rw [e]; simp,?_⟩,fun _=>rfl⟩) (fun h=>h0 _ (Q2 (P:=fun m:Gx=>¬ (m.id=id/\m.in_=true)) hI (fun hh=>?_)))) (fun u hI=>Gg (Rb fun⟨m,hm,h⟩=>hI m hm h))
 .simp only [S8,S9] at h; exact h
 .rw [Ps hh.1,hh.2] at h; cases h
theorem step_ok (hb:StR s bf) (ha:StR s af) (h:uN s bf af ids L) {i k:Nat} (hi:i < ids.length) (hk:k < ids.length) {Q:(AE×Int)->Prop} {more:Bool} {kj:Bool×List Gx->Option (AE×Int)}
  (h1:∀ x y,L[i]? = some x->L[k]? = some y->(y.in_=true->fT s [bf,af] y.id x.id->x.in_=true)->Wp (kj (more,L)) Q)
  (h2:∀ x y,L[i]? = some x->L[k]? = some y->x.in_=false->y.in_=true->fT s [bf,af] y.id x.id->Wp (kj (true,L.set i ⟨x.id,true⟩)) Q) :
  Wp (Jk L (i:Int) fun y150=>
        bnd (bif (!y150.in_) then Jk L (k:Int) some else some default) fun y151=>
        bif (y150.in_||(!y151.in_)) then
        (kj (more,L))
        else
        (Jk L (i:Int) fun y153=>
         Jk L (k:Int) fun y154=>
         bnd (R3 s bf af y153.id y154.id) fun r155=>
         bnd (bif (!r155) then Jk L (i:Int) some else some default) fun y156=>
         bnd (bif (!r155) then Jk L (k:Int) some else some default) fun y157=>
         bnd (bif (!r155) then R3 s af bf y156.id y157.id else some default) fun r158=>
         bif (r155||r158) then
         (Jk L (i:Int) fun y159=>
          kj (true,(L.set (i:Int).toNat (Gx.mk y159.id true))))
         else
         (kj (more,L)))) Q:=by
 have hl:=tV h;have hx:L[i]? = some (L[i]'(by omega)):=Pv (by omega);have hy:L[k]? = some (L[k]'(by omega)):=Pv (by omega);generalize L[i]'(by omega)=x at hx;generalize L[k]'(by omega)=y at hy;rw [Qk hx];cases h5:x.in_ with
 | true=>exact H6 (Gg (h1 x y hx hy (fun _ _=>h5)))
 | false=>
  simp only [Bool.not_false,cond_true,Bool.false_or];refine Gt ((Qk hy some).trans rfl) ?_;cases h6:y.in_ with
  | false=>exact h1 x y hx hy (fun hh=>by rw [h6] at hh; cases hh)
  | true=>
   simp only [Bool.not_true,cond_false];rw [Qk hx,Qk hy];refine H6 (wp_mono (G73 hb ha x.id y.id) (fun r155 h0=>?_));have h3:fT s [bf,af] y.id x.id->Wp (Jk L (i:Int) fun y159=>kj (true,(L.set (i:Int).toNat (Gx.mk y159.id true)))) Q:=fun hp=>by
    rw [Qk hx,show (i:Int).toNat=i by omega];exact h2 x y hx hy h5 h6 hp
   cases r155 with
   | true=>exact H6 (Gg (H6 (Gg (H6 (Gg (h3 (G31.2 (.inl (h0.1 rfl)))))))))
   | false=>
    simp only [Bool.not_false,cond_true,Bool.false_or];refine Gt ((Qk hx some).trans rfl) (Gt ((Qk hy some).trans rfl) (H6 (wp_mono (G73 ha hb x.id y.id) (fun r158 h4=>?_))));refine H7 (fun hh=>h3 (G31.2 (.inr (h4.1 hh)))) (fun hh=>h1 x y hx hy (fun _ hp=>?_));rcases G31.1 hp with hp | hp
    .have:=h0.2 hp; cases this
    .rw [h4.2 hp] at hh; cases hh
end lf
end Go.Proofs.YtkiekighbhnolaaGreat
