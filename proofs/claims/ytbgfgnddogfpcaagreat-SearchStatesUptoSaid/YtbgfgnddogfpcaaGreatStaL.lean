/- SearchStates: -/
import Derived.Test.YtbgfgnddogfpcaaGreatStaR
import Derived.Test.YtbgfgnddogfpcaaGreatGrd
import Derived.Test.YtbgfgnddogfpcaaGreatXQ
set_option maxRecDepth 100000
set_option linter.unusedVariables false
namespace Go.Proofs.YtbgfgnddogfpcaaGreat
open Go.RowKit

theorem Q13 (s:Gf):Wp (dC s) (fun T=>∀ c∈s.Columns,c.AC<=T):=by
 unfold dC;refine Q6 (fun pre T=>∀ c∈pre,c.AC<=T) (fun c hc=>(Pe hc).elim) (fun pre y post T nx e hI h0=>?_) (fun T hI=>Gt hI);refine oM (fun j=>∀ c∈pre++[y],c.AC<=j) (fun K hK=>Ja (fun h=>hK _ (fun c hc=>?_)) (fun h=>hK _ (fun c hc=>?_))) (fun j hj=>h0 _ hj)
 .rcases Ps.1 hc with hc | hc
  .rw [Px,Pq,Pq] at h;have:=hI c hc;rcases h with h | h
   .have:pre=[]:=P1 (by omega);subst this; cases hc
   .omega
  .rw [Pu.1 hc]; exact Int.le_refl _
 .rw [Py,decide_eq_false_iff_not,decide_eq_false_iff_not] at h;rcases Ps.1 hc with hc | hc
  .exact hI c hc
  .rw [Pu.1 hc]; omega
variable {s:Gf}
theorem ZP:∃ r,Z9 s=some r/\Ze s=some r/\(r=true->s.Columns.length<=3/\∀ c∈s.Columns,c.AC<=3):=by
 have h:Wp (Z9 s) (fun r=>r=true->s.Columns.length<=3/\∀ c∈s.Columns,c.AC<=3):=by
  unfold Z9;by_cases h3:(s.Columns.length:Int)<=3
  .rw [P8 h3];simp only [cond_true,Bool.true_and];refine Hq (wp_mono (Q13 s) (fun T hT=>Gt (fun h=>⟨by omega,fun c hc=>?_⟩)));have:=hT c hc;have:=P6 h;omega
  .rw [P9 h3];exact Hq (Gt (Gt (fun h=>by simp at h)))
 obtain⟨r,e,hr⟩:=h;exact⟨r,e,e,hr⟩
variable {GU:AH}
theorem G25 {pre:AE} {y:Int} (h:Whole GU pre) {b:Box} (hb:bC GU y=some b) (h0:b.Size=40) (hl:∀ z,pre[pre.length - 1]? = some z->z < y):Whole GU (pre++[y]):=by
 refine⟨tC h.sorted (fun a ha=>?_),fun id hid=>?_⟩
 .obtain⟨i,hi⟩:=List.mem_iff_getElem?.1 ha;have h6:=(Pa hi).1;obtain⟨z,hz⟩:∃ z,pre[pre.length - 1]? = some z:=⟨_,Pb (by omega)⟩;have h5:=hl z hz;by_cases e:i=pre.length - 1
  .subst e;rw [hi] at hz; cases hz;exact h5
  .obtain⟨h1,h2⟩:=Pa hi;obtain⟨h3,h4⟩:=Pa hz;have:=List.pairwise_iff_getElem.1 h.sorted i (pre.length - 1) h1 h3 (by omega);rw [h2,h4] at this;omega
 .rcases Ps.1 hid with hid | hid
  .exact h.size id hid
  .rw [Pu.1 hid];exact⟨b,hb,h0⟩
variable {ids:AE}
theorem uD {U:Type} {Q:U->Prop} {fnd:Int->Option (Box×Bool)} {bad:U} {K:Unit->Option U} (hf:∀ id,fnd id=some (match bC GU id with
  | some b=>(b,true)
  | none=>(Box.mk 0 ByteArray.empty 0 false 0 0 0 0 false,false))) (h8:ids.length<=1000000) (h3:¬ Whole GU ids->Q bad) (hK:Whole GU ids->Wp (K ()) Q) :
  Wp (each (fun(y30:Int) (i30:Nat) (s30:Unit) nx30=>
   bnd (fnd y30) fun r36=>
   bnd (bif ((!((!r36.2)||(decide (r36.1.Size≠40))))&&(decide (0 < (i30:Int)))) then chk ((i30:Int) - 1) some else some 0) fun v38=>
   bnd (bif ((!((!r36.2)||(decide (r36.1.Size≠40))))&&(decide (0 < (i30:Int)))) then Jw ids v38 some else some default) fun y39=>
   bif (((!r36.2)||(decide (r36.1.Size≠40)))||((decide (0 < (i30:Int)))&&(decide (y30<=y39)))) then
   (some bad)
   else
   (nx30 ())) K ids 0 ()) Q:=by
 refine Q6 (fun pre (_:Unit)=>Whole GU pre) ⟨List.Pairwise.nil,fun id h=>(Pe h).elim⟩ (fun pre y post u nx e hI h6=>?_) (fun u hI=>hK hI);have nw:¬ Whole GU (pre++[y])->¬ Whole GU ids:=fun h hw=>h (by
  rw [e,show pre++y::post=(pre++[y])++post by simp] at hw;exact⟨(List.pairwise_append.1 hw.sorted).1,fun id hid=>hw.size id (List.mem_append_left _ hid)⟩)
 refine H2 (hf y) ?_;cases hb:bC GU y with
 | none=>
  simp only [Bool.not_false,Bool.true_or,Bool.not_true,Bool.false_and,cond_false,cond_true];refine Hq (Gt (Hq (Gt (Gt (h3 (nw fun hw=>?_))))));obtain⟨b,h1,_⟩:=hw.size y (by simp);rw [hb] at h1; cases h1
 | some b=>
  by_cases h0:b.Size=40
  .simp only [Bool.not_true,h0,ne_eq,not_true_eq_false,decide_false,Bool.or_self,Bool.not_false,Bool.true_and,Bool.false_or];by_cases h5:(0:Int) < (pre.length:Int)
   .rw [P8 h5];simp only [cond_true,Bool.true_and];have h4:pre.length - 1 < pre.length:=by omega
    have hz:ids[pre.length - 1]? = some pre[pre.length - 1]:=by rw [e,Ph h4,Pb h4]
    have h9:pre.length < ids.length:=by rw [e]; simp
    refine Hq (bW ⟨by omega,by omega⟩ (Gt (Hq (fO (m:=pre.length - 1) (by omega) hz (Gt (Ja (fun h=>Gt (h3 (nw fun hw=>?_))) (fun h=>h6 _ (G25 hI hb h0 (fun z h7=>?_)))))))))
    .have h:=P6 h;have:=(List.pairwise_append.1 hw.sorted).2.2 _ (List.getElem_mem h4) y (Pu.2 rfl);omega
    .have h:=P7 h;rw [Pb h4] at h7; cases h7;omega
   .rw [P9 h5];simp only [cond_false,Bool.false_and];have:pre=[]:=P1 (by omega);subst this;exact Hq (Gt (Hq (Gt (h6 _ (G25 hI hb h0 (fun z hz=>by simp at hz))))))
  .simp only [Bool.not_true,Bool.false_or,P8 (show b.Size≠40 from h0),Bool.true_or,Bool.not_true,Bool.false_and,cond_false,cond_true];refine Hq (Gt (Hq (Gt (Gt (h3 (nw fun hw=>?_))))));obtain⟨b',h1,h2⟩:=hw.size y (by simp);rw [hb] at h1; cases h1;exact h0 h2
theorem J99 {F:Nat} (h1:1<=s.Columns.length) (hc:s.Columns.length<=3) (hl:ids.length<=4):(jG F s ids).length<=20736:=by
 have h0:(aR s).length=s.Columns.length:=by unfold aR; simp
 have:=G1f (ts:=aR s) (m:=4) (by omega) (F:=F) (ids:=ids) (hs:=List.replicate s.Columns.length 0) hl;exact Nat.le_trans this (Nat.le_trans (Nat.pow_le_pow_left (show (aR s).length*4<=12 by omega) _) (Nat.le_trans (Nat.pow_le_pow_right (by omega) hl) (by decide)))
theorem H61 (hs:pO s) (hb:∀ b∈GU,0<=b.Size/\b.Size<=255) (hid:ids.length<=8):∃ r,R5 60 s GU ids=some r/\Qu 60 s GU ids=some r/\r.1.length<=30000/\∀ m∈r.1,m.length<=1000000:=by
 obtain⟨r1,e1,h1⟩:=G47 s hs.plugs hs.crows;obtain⟨r2,e2,h2⟩:=RH (F:=60) s hs.plugs hs.crows;have:r1=r2:=by rw [Bool.eq_iff_iff,h1,h2]
 subst this;cases r1 with
 | false=>
  refine⟨([],2),Zs ?_,Zs ?_,Nat.zero_le _,fun m hm=>(Pe hm).elim⟩
  .unfold R5; exact H2 e1 (Ja (fun _=>Gt) (fun h=>by cases h))
  .unfold Qu; exact H2 e2 (Ja (fun _=>Gt) (fun h=>by cases h))
 | true=>
 have hS:=h1.1 rfl;have a2:=hS.num.1;obtain⟨lv,l1,l2,h9⟩:=ZP (s:=s);by_cases hw:Whole GU ids
 .by_cases h7:lv=true/\ids.length<=4
  .obtain⟨h8,h4⟩:=h7;obtain⟨hc,a0⟩:=h9 h8;have ht:∀ c∈s.Columns,0<=c.AC/\c.AC<=3:=fun c h3=>⟨by have:=(hS.col c h3).place; omega,a0 c h3⟩;have a1:=J99 (F:=60) (ids:=ids) (by omega) hc h4;obtain⟨R,eR,hR⟩:=ZC (F:=60) (GU:=GU) (ids:=ids) e1 (by omega) (fun c h3=>by have:=ht c h3; omega) hw (by omega) (by omega) (by omega);have h5:oR (sY s GU) (fS s) ids []=R:=J04 (fun l _=>G4b) hw hR;have a3:R.length<=20736:=Nat.le_trans hR.le a1;have h6:=Q1a (ids:=ids) hS hs.plugs hs.crows hb hc ht (by omega) ids.length 60 0 [] [] (by omega) rfl (by omega) (by rw [List.drop_zero,h5,List.length_nil]; omega);rw [List.drop_zero,h5,List.nil_append] at h6;have h0:((!lv)||decide (4 < (ids.length:Int)))=false:=by rw [h8,P9 (by omega)]; rfl
   refine⟨(R,0),Zs ?_,Zs ?_,by simp only; omega,fun m hm=>?_⟩
   .unfold R5;refine H2 e1 (Ja (fun h=>by cases h) (fun _=>uD (pI GU) (by omega) (fun h=>(h hw).elim) (fun _=>H2 l1 (Ja (fun h=>by rw [h0] at h; cases h) (fun _=>H2 eR Gt)))))
   .unfold Qu;refine H2 e2 (Ja (fun h=>by cases h) (fun _=>uD (xR GU) (by omega) (fun h=>(h hw).elim) (fun _=>H2 l2 (Ja (fun h=>by rw [h0] at h; cases h) (fun _=>H2 (show fT 60 s GU ids 0 []=some R from h6) Gt)))))
   .have:=((hR.mem m).1 hm).2;have:=congrArg List.length this;rw [Pr] at this;omega
  .have h0:((!lv)||decide (4 < (ids.length:Int)))=true:=by
    cases lv with
    | false=>rfl
    | true=>rw [P8 (show (4:Int) < (ids.length:Int) by
      have:¬ ids.length<=4:=fun h=>h7 ⟨rfl,h⟩;omega)]; rfl
   refine⟨([],5),Zs ?_,Zs ?_,Nat.zero_le _,fun m hm=>(Pe hm).elim⟩
   .unfold R5;exact H2 e1 (Ja (fun h=>by cases h) (fun _=>uD (pI GU) (by omega) (fun h=>(h hw).elim) (fun _=>H2 l1 (Ja (fun _=>Gt) (fun h=>by rw [h0] at h; cases h)))))
   .unfold Qu;exact H2 e2 (Ja (fun h=>by cases h) (fun _=>uD (xR GU) (by omega) (fun h=>(h hw).elim) (fun _=>H2 l2 (Ja (fun _=>Gt) (fun h=>by rw [h0] at h; cases h)))))
 .refine⟨([],2),Zs ?_,Zs ?_,Nat.zero_le _,fun m hm=>(Pe hm).elim⟩
  .unfold R5;exact H2 e1 (Ja (fun h=>by cases h) (fun _=>uD (pI GU) (by omega) (fun _=>rfl) (fun h=>(hw h).elim)))
  .unfold Qu;exact H2 e2 (Ja (fun h=>by cases h) (fun _=>uD (xR GU) (by omega) (fun _=>rfl) (fun h=>(hw h).elim)))
theorem RZ (a:AG):Rh a a=some true:=by
 unfold Rh;exact sC (fun i y nx h=>by rw [Zu h]; simp)
theorem G0c (a:List AG):Rr a a=some true:=by
 unfold Rr;exact sC (fun i y nx h=>by rw [Zu h,RZ]; rfl)
theorem Hfd (hs:pO s):Zv 60 s GU (-1)=some false:=by
 obtain⟨r2,e2,_⟩:=RH (F:=60) s hs.plugs hs.crows;obtain⟨lv,_,l2,_⟩:=ZP (s:=s);have hb:Zw GU (-1)=some false:=Zs (by
  unfold Zw;exact Ja (fun _=>Gt) (fun h=>by simp at h))
 refine Zs ?_;unfold Zv;refine H2 e2 ?_;cases r2 with
 | false=>exact Hq (Gt (Hq (Gt (Ja (fun _=>Gt) (fun h=>by simp at h)))))
 | true=>
  refine H2 l2 ?_;cases lv with
  | false=>exact Hq (Gt (Ja (fun _=>Gt) (fun h=>by simp at h)))
  | true=>exact H2 hb (Ja (fun _=>Gt) (fun h=>by simp at h))
theorem Q2c (hs:pO s):Wp (bQ 60 s GU (-1)) (fun _=>True):=by
 unfold bQ;refine Ja (fun _=>Gt trivial) (fun _=>?_);refine Q6 (fun _ _=>True) trivial (fun pre y post u nx e hI h0=>Ja (fun _=>Gt trivial) (fun _=>h0 _ trivial)) (fun u _=>?_);refine Q6 (fun _ _=>True) trivial (fun pre y post u nx e hI h0=>Ja (fun _=>Gt trivial) (fun _=>h0 _ trivial)) (fun u _=>?_);exact H2 (Hfd hs) (Ja (fun _=>Gt trivial) (fun h=>by simp at h))
theorem J06 (s:Gf):Wp (Ya s) (fun _=>True):=by
 unfold Ya;exact Q6 (fun _ _=>True) trivial (fun pre y post st nx e hI h0=>h0 _ trivial) (fun st _=>Gt trivial)
theorem H81 (s:Gf) (GU:AH) (ids:AE) (hs:pO s) (hb:∀ b∈GU,0<=b.Size/\b.Size<=255) (l1:GU.length<=1048576) (l2:ids.length<=1048576):Yw 60 s GU ids=some true:=by
 refine Zs ?_;unfold Yw;refine Hq (wp_mono (Q2c hs) (fun r4 _=>?_));refine Hq (wp_mono (Q':=fun _=>True) ?_ (fun r5 _=>Ja (fun _=>H2 J44 Gt) (fun h=>?_)))
 .cases ((!((!r4)||(decide (8 < (ids.length:Int)))))&&(decide ((ids.length:Int)=4))) with
  | false=>exact Gt trivial
  | true=>exact J06 s
 simp only [Py,decide_eq_false_iff_not] at h;have hid:ids.length<=8:=by have:=h.1.2; omega
 refine H2 (H95 hs) (H2 (H15 l1) (H2 (sQ l2) ?_));rw [Jb0];obtain⟨r,e1,e2,h0,hm⟩:=H61 hs hb hid;refine H2 e1 (H2 e2 ?_);have ha:cJ r.1=some true:=by
  unfold cJ need;rw [P8 h0,Bool.true_and,List.all_eq_true.2 (fun m h=>P8 (hm m h))];rfl
 simp only [G0c,RV,cond_true,decide_true,Bool.and_self,H98 hs,H18 l1,sS l2,ha,J44];exact Gt
end Go.Proofs.YtbgfgnddogfpcaaGreat
