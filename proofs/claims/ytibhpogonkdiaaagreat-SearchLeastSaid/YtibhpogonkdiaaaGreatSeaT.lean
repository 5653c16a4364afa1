/-
 Plans that Voyage makes are right; twistlocklaw23.Voyage with few AA of 40 feet; jN on small ships and AA of 40 feet:
-/
import Derived.Test.YtibhpogonkdiaaaGreatSeaR
import Derived.Test.YtibhpogonkdiaaaGreatXY
set_option maxRecDepth 100000
namespace Go.Proofs.YtibhpogonkdiaaaGreat
open Go.RowKit

section maps
variable {κ ν:Type} [DecidableEq κ]
theorem xF (a:κ) (z:ν):Gw.get (Gw.empty:Gw κ ν) a z=z:=rfl
theorem JV (m:Gw κ ν) (a b:κ) (v z:ν):Gw.get (Gw.put m a v) b z=if a=b then v else Gw.get m b z:=by
 unfold Gw.get Gw.put;simp only [mV];grind
end maps
def zN (l:AE) (x:G1):AE:=l.filter (fun y=>decide (y.Box < x.Box))++[x]++l.filter (fun y=>decide (x.Box < y.Box))
theorem eY {α:Type} (p:α->Bool) (l:List α) (x:α):(l++[x]).filter p=l.filter p++(if p x then [x] else []):=by
 grind
theorem G61 (l:AE) (x:G1) (hl:l.length<=100000):Yu l x=some (zN l x):=by
 refine eF ?_;unfold Yu zN;refine Ja (fun pre s=>s=pre.filter (fun y=>decide (y.Box < x.Box))) rfl (fun pre y post s nx e hs h0=>?_) (fun s hs=>?_)
 ·subst hs;have hp:pre.length+1<=l.length:=by rw [e]; simp
  have hf:=S3 (fun y:G1=>decide (y.Box < x.Box)) pre;refine Rz (fun j=>j=(pre++[y]).filter (fun y=>decide (y.Box < x.Box))) (fun K hK=>Hr (fun h=>Ji (Qp (by rw [Sp]; omega) (by omega)) (hK _ ?_)) (fun h=>hK _ ?_)) (fun j hj=>h0 _ hj)
  ·rw [eY,h]; rfl
  ·rw [eY,h]; simp
 ·subst hs;have hf:=S3 (fun y:G1=>decide (y.Box < x.Box)) l;refine Ji (Qp (by rw [Sp]; omega) (by omega)) ?_;refine Ja (fun pre s=>s=l.filter (fun y=>decide (y.Box < x.Box))++[x]++pre.filter (fun y=>decide (x.Box < y.Box))) (by simp) (fun pre y post s nx e hs h0=>?_) (fun s hs=>Gx hs);subst hs;have hp:pre.length+1<=l.length:=by rw [e]; simp
  have hg:=S3 (fun y:G1=>decide (x.Box < y.Box)) pre;refine Rz (fun j=>j=l.filter (fun y=>decide (y.Box < x.Box))++[x]++(pre++[y]).filter (fun y=>decide (x.Box < y.Box))) (fun K hK=>Hr (fun h=>Ji (Qp (by simp only [Sn,Sp]; omega) (by omega)) (hK _ ?_)) (fun h=>hK _ ?_)) (fun j hj=>h0 _ hj)
  ·rw [eY,h]; simp
  ·rw [eY,h]; simp
variable {l:AE}
theorem yH {x y:G1}:y∈zN l x ↔ y=x∨(y∈l∧y.Box≠x.Box):=by
 unfold zN;grind
theorem H0d (l:AE) (x:G1):(zN l x).length<=2*l.length+1:=by
 unfold zN;grind
def J14 (l:AE) (id:Int):Bool:=l.any (fun x=>decide (x.Box=id))
theorem J13 {id:Int}:J14 l id=true ↔ id∈l.map (·.Box):=by
 unfold J14;grind
theorem law23_holds (l : AE) (id : Int) : M_twistlocklaw23_holds l id = some (J14 l id) := by
 refine eF ?_;unfold M_twistlocklaw23_holds;refine Ja (fun pre _=>∀ x∈pre,decide (x.Box=id)=false) (fun x hx=>(Se hx).elim) (fun pre y post s nx e hI h0=>Hr (fun h=>Gx ?_) (fun h=>h0 _ (fun x hx=>?_))) (fun s hI=>Gx ?_)
 ·exact(List.any_eq_true.2 ⟨y,by rw [e]; simp,h⟩).symm
 ·grind
 ·refine(List.any_eq_false.2 fun x hx=>?_).symm;grind
variable {s:Gc}
theorem H8d (h:pI s):Small s:=
 ⟨ZY h,⟨h.some,by have:=h.BU.len; omega⟩,fun c hc=>by have:=(h.BU.each c hc).BS; omega,by have:=h.covs.len; omega,fun x hx=>by
  rcases (h.covs.each x hx).rows with e | e <;> rw [e] <;> simp⟩
variable {AJ:Int} {AA:AH}
theorem Qg.inj (h:Qg AJ AA) {a b:Box} (ha:a∈AA) (hb:b∈AA) (e:a.ID=b.ID):a=b:=by
 obtain⟨i,hi⟩:=List.mem_iff_getElem?.1 ha;obtain⟨j,hj⟩:=List.mem_iff_getElem?.1 hb;obtain⟨h2,h0⟩:=Sa hi;obtain⟨h3,h1⟩:=Sa hj;have hp:=List.pairwise_iff_getElem.1 h.sorted;grind
theorem GK (h:Qg AJ AA):cB AA AJ=some true:=by
 refine eF ?_;unfold cB;have hc:=h.num;have hl:=h.len;refine Hr (fun hb=>?_) (fun _=>?_)
 ·simp only [Sy,Sr] at hb;omega
 refine Ja (fun pre last=>0<=last∧(pre=[]∧last=0∨∃ a∈pre,a.ID=last)) ⟨Int.le_refl _,.inl ⟨rfl,rfl⟩⟩ (fun pre y post last nx e hI h0=>?_) (fun s _=>Gx);have hy:=h.each y (by rw [e]; simp);obtain⟨⟨i1,i2⟩,hs,h3,h4,h5⟩:=hy;have h1:last < y.ID:=by
  rcases hI.2 with ⟨_,h⟩ | ⟨a,ha,h⟩
  ·omega
  ·have:=h.symm;have hp:=Qg.sorted ‹Qg AJ AA›;rw [e] at hp;have:=pC hp a ha;omega
 grind
structure vE (s:Gc) (AA:AH) (AJ:Int) (p:cA):Prop where
 len:(p.AO.length:Int)=AJ
 each:∀ (k:Nat) l,p.AO[k]? = some l->Z1 s AA k l
theorem Hff (hs:Small s) (size:Int):Wp (eK s size) (fun r=>r.length<=200*s.AB.length∧∀ x∈r,oM s x size):=by
 unfold eK;have h6:(jT size).length<=2:=by
  unfold jT;split
  ·simp
  ·split <;> simp
 refine Ja (fun pre r=>r.length<=200*pre.length∧∀ x∈r,oM s x size) ⟨by simp,fun x hx=>(Se hx).elim⟩ (fun pre c post r nx e hI h5=>?_) (fun r hI=>Gx hI);obtain⟨h1,h2⟩:=hI;have hc:s.AB[pre.length]? = some c:=by rw [e]; simp
 have ht:=hs.BS c (Sd hc);refine Ji (S8 (by omega)) ?_;have h7:(max c.Tiers 0).toNat<=100:=by omega
 refine iK (fun i r'=>r'.length<=r.length+2*i∧∀ x∈r',oM s x size) ⟨by simp,h2⟩ (fun i r' nx2 hi hI h3=>?_) (fun r' hI=>h5 _ ⟨?_,hI.2⟩)
 ·refine Gv (wM size) ?_;refine Ja (fun pr r2=>r2.length=r'.length+pr.length∧∀ x∈r2,oM s x size) ⟨by simp,hI.2⟩ (fun pr h post2 r2 nx3 e2 h0 h4=>h4 _ ⟨?_,fun x hx=>?_⟩) (fun r2 h0=>h3 _ ⟨by have:=hI.1; have:=h0.1; omega,h0.2⟩)
  ·simp only [Sn,Sp]; have:=h0.1; omega
  ·rcases St.1 hx with hx | hx
   ·exact h0.2 x hx
   ·rw [Sv] at hx; subst hx;exact⟨⟨pre.length,c,rfl,hc,by show (i:Int) < c.Tiers; omega⟩,by show (0:Int)<=i; omega,by show h∈jT size; rw [e2]; simp⟩
 ·have:=hI.1;simp only [Sn,Sp]; omega
theorem Jb3 (hs:Small s) (size:Int):Wp (iE s size) (fun r=>r.length<=200*s.AB.length∧∀ x∈r,oM s x size):=by
 unfold iE;refine Gv (show lV s size=some () from rfl) ?_;refine H6 (wp_mono (Hff hs size) (fun ys h0=>?_));have hc:=hs.BU;refine Ja (fun pre r=>r=pre) rfl (fun pre y post r nx e hI h1=>?_) (fun r hI=>by subst hI; exact Gx h0);subst hI;have hl:r.length < ys.length:=by rw [e]; simp
 exact Ji (Qp (by rw [Sp]; have:=h0.1; omega) (by omega)) (h1 _ rfl)
theorem H35 {k:Int} {b:Box} (x:Slot) (hs:Small s) (hb:Qg AJ AA) (h:xH s AA k l) (h1:b∈AA) (h2:abB k b=true) :
  Wp (Qq s AA (zN l ⟨b.ID,x⟩)) (fun v=>v=true->xH s AA k (zN l ⟨b.ID,x⟩)∧b.ID∈(zN l ⟨b.ID,x⟩).map (·.Box)∧∀ a∈l.map (·.Box),a∈(zN l ⟨b.ID,x⟩).map (·.Box)):=by
 have hl:=h.len;have h3:=hb.len;have h4:=H0d l ⟨b.ID,x⟩;refine wp_mono (fK hs.right hs.tier (by omega)) (fun v hv e=>⟨⟨hv.1 e,fun y hy=>?_⟩,Su.2 ⟨_,yH.2 (.inl rfl),rfl⟩,fun a ha=>?_⟩)
 ·rcases yH.1 hy with rfl | ⟨hy,_⟩
  ·exact⟨b,h1,rfl,h2⟩
  ·exact h.mem y hy
 ·obtain⟨y,hy,rfl⟩:=Su.1 ha;by_cases h0:y.Box=b.ID
  ·exact Su.2 ⟨_,yH.2 (.inl rfl),h0.symm⟩
  ·exact Su.2 ⟨y,yH.2 (.inr ⟨hy,h0⟩),rfl⟩
theorem xH.done {k:Int} (hb:Qg AJ AA) (h:xH s AA k l) (h2:∀ b∈AA,abB k b=true->b.ID∈l.map (·.Box)):Z1 s AA k l:=by
 refine⟨h.right,uY (List.pairwise_map.2 h.right.sorted) (List.pairwise_map.2 (hb.sorted.filter _)) (fun a=>?_)⟩;unfold Zh;constructor
 ·intro ha;obtain⟨x,hx,rfl⟩:=Su.1 ha;obtain⟨b,h0,e,h1⟩:=h.mem x hx;grind
 ·grind
theorem YH {home:Gw Int Int} {F:Nat} (hs:Small s) (hb:Qg AJ AA) (hh:∀ a,0<=Gw.get home a 0∧Gw.get home a 0<=1000) (hF:60<=F) :
  Wp (Z8 F s AA home AJ) (fun r=>r.2.2=home∧(r.2.1=0->vE s AA AJ r.1)):=by
 unfold Z8;have b4:=hb.num;have b5:=hb.len;have b3:=hs.BU;refine Ji (S8 (by omega)) ?_;refine iK (fun i s6=>s6.1.length=i∧∀ (k:Nat) l,s6.1[k]? = some l->Z1 s AA k l) ⟨rfl,fun k l h=>by simp at h⟩ (fun i s6 nx hi hI a7=>?_) (fun s6 hI=>Gx ⟨rfl,fun _=>⟨by show (s6.1.length:Int)=AJ; have:=hI.1; omega,hI.2⟩⟩);refine Ji (by decide) ?_;refine iK (fun _ l=>xH s AA i l) xH.nil (fun t l nx2 ht hl a4=>?_) (fun l hl=>?_)
 ·refine Ja (fun _ l=>xH s AA i l) hl (fun pre y post l nx3 e hl h4=>?_) (fun l hl=>a4 _ hl);have hy:y∈AA:=by rw [e]; simp
  refine Rz (fun j=>xH s AA i j) (fun K hK=>?_) (fun j hj=>h4 _ hj);refine Gv rfl (Hr (fun hc=>?_) (fun _=>hK _ hl));have h2:abB i y=true:=by
   simp only [Sq,Sr] at hc;unfold abB;rw [S8 (by omega),S8 hc.2]; rfl
  have a8:=hl.len;exact Gv (G61 l _ (by omega)) (H6 (wp_mono (H35 _ hs hb hl hy h2) (fun r53 a9=>Hr (fun h=>hK _ (a9 h).1) (fun _=>hK _ hl))))
 ·refine Ja (fun pre l=>xH s AA i l∧∀ b∈pre,abB i b=true->b.ID∈l.map (·.Box)) ⟨hl,fun b hb=>(Se hb).elim⟩ (fun pre y post l nx3 e h7 h4=>?_) (fun l h7=>?_)
  ·obtain⟨hl,h5⟩:=h7;have hy:y∈AA:=by rw [e]; simp
   have a8:=hl.len;refine Rz (fun j=>xH s AA i j∧∀ b∈pre++[y],abB i b=true->b.ID∈j.map (·.Box)) (fun K hK=>?_) (fun j hj=>h4 _ hj);by_cases h2:abB i y=true
   ·have h8:=h2;unfold abB at h8;simp only [Sq,Sr] at h8;rw [S9 (show ¬ (i:Int) < y.Load by omega),S9 (show ¬ y.AF<=(i:Int) by omega)];simp only [Bool.or_self,Bool.not_false,cond_true,Bool.false_or];refine Gv (law23_holds l y.ID) (Hr (fun h => hK _ ⟨hl, fun b h1 h3 => ?_⟩) (fun h => ?_))
    ·rcases St.1 h1 with h1 | h1
     ·exact h5 b h1 h3
     ·rw [Sv] at h1; subst h1;exact J13.1 h
    ·refine wp_loop (fun st:AE×Bool×Int=>xH s AA i st.1∧(∀ a∈l.map (·.Box),a∈st.1.map (·.Box))∧(st.2.1=true->y.ID∈st.1.map (·.Box))∧0<=st.2.2∧st.2.2<=(s.AB.length:Int)) (fun st=>s.AB.length+1 - st.2.2.toNat)
      ⟨hl,fun a ha=>ha,fun h=>(by cases h),Int.le_refl _,by simp⟩ (by show s.AB.length+1 - 0 < F; omega) (fun st nx4 h9 h6=>?_)
     obtain⟨l1,done,turn⟩:=st;obtain⟨i1,i2,i3,i4,i5⟩:=h9;simp only at i1 i2 i3 i4 i5 ⊢;refine Hr (fun hc=>?_) (fun hc=>?_)
     ·simp only [Sq,Sr,Bool.not_eq_true'] at hc;obtain⟨c1,rfl⟩:=hc;refine Rz (fun j=>xH s AA i j.1∧(∀ a∈l.map (·.Box),a∈j.1.map (·.Box))∧(j.2=true->y.ID∈j.1.map (·.Box))) (fun K' a3=>?_) (fun j hj=>?_)
      ·refine H6 (wp_mono (Jb3 hs y.Size) (fun r72 _=>?_));refine Ja (fun _ s99=>s99=(l1,false)) rfl (fun pre2 x post2 s99 nx5 e2 a0 a1=>?_) (fun s99 a0=>by subst a0; exact a3 _ ⟨i1,i2,fun h=>by cases h⟩);subst a0;have b6:=i1.len;refine Gv (G61 l1 _ (by omega)) (Gv rfl ?_);have hg:=hh y.ID;refine Hy ⟨by omega,by omega⟩ (H6 (gS (by omega) ?_));by_cases a2:x.G7=(Gw.get home y.ID 0+turn).tmod (s.AB.length:Int)
       ·rw [S8 a2];simp only [cond_true,Bool.true_and];refine H6 (wp_mono (H35 x hs hb i1 hy h2) (fun r110 a5=>Hr (fun h=>?_) (fun _=>a1 _ rfl)));obtain⟨g1,g2,g3⟩:=a5 h;exact a3 _ ⟨g1,fun a ha=>g3 a (i2 a ha),fun _=>g2⟩
       ·rw [S9 a2];simp only [cond_false,Bool.false_and];exact H6 (Gx (a1 _ rfl))
      ·obtain⟨j1,j2,j3⟩:=hj;refine Hy ⟨by omega,by omega⟩ (h6 _ ⟨j1,j2,j3,by show 0<=turn+1; omega,by show turn+1<=s.AB.length; omega⟩ ?_);show s.AB.length+1 - (turn+1).toNat < s.AB.length+1 - turn.toNat
       omega
     ·refine Hr (fun hd=>Gx ⟨rfl,fun h0=>?_⟩) (fun hd=>hK _ ⟨i1,fun b h1 h3=>?_⟩)
      ·have:=(hb.each y hy).id;have b7:y.ID=0:=h0;omega
      ·rcases St.1 h1 with h1 | h1
       ·exact i2 _ (h5 b h1 h3)
       ·rw [Sv] at h1; subst h1;exact i3 (by simpa using hd)
   ·have b0:xH s AA i l∧∀ b∈pre++[y],abB i b=true->b.ID∈l.map (·.Box):=⟨hl,fun b h1 h3=>by
     rcases St.1 h1 with h1 | h1
     ·exact h5 b h1 h3
     ·rw [Sv] at h1; subst h1; exact(h2 h3).elim⟩
    have b1:((decide ((i:Int) < y.Load))||(decide (y.AF<=(i:Int))))=true:=by
     unfold abB at h2;simp only [Sq,Sr] at h2;simp only [Sy,Sr];omega
    rw [b1];simp only [Bool.not_true,cond_false,Bool.true_or,cond_true];exact H6 (Gx (hK _ b0))
  ·obtain⟨hl,a6⟩:=h7;have h9:=hl.done hb a6;refine Ja (fun _ _=>True) trivial (fun pre y post m nx4 e _ h6=>h6 _ trivial) (fun m _=>?_);have b8:i < 20:=by omega
   refine Ji (Qp (by rw [Sp]; have:=hI.1; omega) (by omega)) (a7 _ ⟨by simp [hI.1],fun k l' hk=>?_⟩);rw [List.getElem?_append] at hk;split at hk
   ·exact hI.2 k l' hk
   ·rename_i b9;have b2:k - s6.1.length=0:=by
     have:=(Sa hk).1;simp only [Sp] at this; omega
    rw [b2] at hk;simp only [List.getElem?_cons_zero,Option.some.injEq] at hk;subst hk;have:k=i:=by have:=hI.1; omega
    subst this;exact h9
structure sS (x:Gu):Prop where
 AQ:Byte x.G7
 kilos:Byte x.Kilos
 load:Byte x.Load
 stay:Byte x.Stay
section
variable {s:Gc} {U:AD} {states:List AE} {l l' l2:AD} {id y:Int} {m m2:Gw Int Unit}
end
section
variable {s:Gc} {AA:AH} {bf af:AE} {r:AD}
end

theorem zO {items:List Gu} {F most:Nat} (a2:most<=8) (hs:Small s) (hi:∀ x∈items,sS x∧x.Small=false) (hc:2<=AJ∧AJ<=6) (hF:60<=F) :
  Wp (R2 F s items AJ (most:Int)) (fun r=>Qg AJ r.1∧vE s r.1 AJ r.2∧r.1.length<=most∧∀ b∈r.1,b.Size=40):=by
 unfold R2;have a3:=hs.BU;refine H6 (aY (m:=min items.length most) (by omega) (by omega) ?_);have h4:(items.take (min items.length most)).length<=most:=by rw [List.length_take]; omega
 refine Ja (fun pre st=>(Qg AJ st.1∧∀ b∈st.1,b.Size=40)∧st.1.length=pre.length∧(∀ b∈st.1,b.ID<=5*(pre.length:Int))∧∀ a,0<=Gw.get st.2 a 0∧Gw.get st.2 a 0<=1000)
  ⟨⟨⟨by omega,by simp,fun b hb=>(Se hb).elim,List.Pairwise.nil⟩,fun b hb=>(Se hb).elim⟩,rfl,fun b hb=>(Se hb).elim,fun a=>by rw [xF]; omega⟩ (fun pre y post st nx e hI h5=>?_) (fun st hI=>?_)
 ·obtain⟨⟨hb,h2⟩,h3,hid,h1⟩:=hI;obtain⟨hy,h9⟩:sS y∧y.Small=false:=hi y (List.mem_of_mem_take (by rw [e]; simp:y∈items.take (min items.length most)));obtain⟨⟨c1,c2⟩,⟨k1,k2⟩,⟨l1,l2⟩,⟨t1,t2⟩⟩:=hy;have hp:pre.length < 8:=by rw [e] at h4; simp only [Sn,Si] at h4; omega
  refine Hy ⟨by omega,by omega⟩ (Hy ⟨by omega,by omega⟩ (Hy ⟨by omega,by omega⟩ (Hy ⟨by omega,by omega⟩ (Hy ⟨by omega,by omega⟩ (Hy ⟨by omega,by omega⟩ ?_)))));refine H6 (gS (by omega) ?_);have eL:y.Load.tmod (AJ - 1)=y.Load % (AJ - 1):=Int.tmod_eq_emod_of_nonneg l1;rw [eL];have rL:0<=y.Load % (AJ - 1)∧y.Load % (AJ - 1) < AJ - 1:=⟨Int.emod_nonneg _ (by omega),Int.emod_lt_of_pos _ (by omega)⟩;generalize y.Load % (AJ - 1)=L at rL;refine Hy ⟨by omega,by omega⟩ (Hy ⟨by omega,by omega⟩ (Hy ⟨by omega,by omega⟩ (Hy ⟨by omega,by omega⟩ ?_)));refine H6 (gS (by omega) ?_);have eS:y.Stay.tmod (AJ - 1 - L)=y.Stay % (AJ - 1 - L):=Int.tmod_eq_emod_of_nonneg t1;rw [eS];have rS:0<=y.Stay % (AJ - 1 - L)∧y.Stay % (AJ - 1 - L) < AJ - 1 - L:=⟨Int.emod_nonneg _ (by omega),Int.emod_lt_of_pos _ (by omega)⟩;generalize y.Stay % (AJ - 1 - L)=T at rS;refine Hy ⟨by omega,by omega⟩ ?_;refine Rz (fun j:Int×Bool=>j.1=40) (fun K hK=>Hr (fun h=>by rw [h9] at h; cases h) (fun _=>hK _ rfl)) (fun j hj=>?_);refine Hy ⟨by omega,by omega⟩ (H6 (gS (by omega) ?_));have eC:y.G7.tmod (s.AB.length:Int)=y.G7 % (s.AB.length:Int):=Int.tmod_eq_emod_of_nonneg c1;rw [eC];have rC:0<=y.G7 % (s.AB.length:Int)∧y.G7 % (s.AB.length:Int) < s.AB.length:=⟨Int.emod_nonneg _ (by omega),Int.emod_lt_of_pos _ (by omega)⟩;generalize y.G7 % (s.AB.length:Int)=C at rC;refine Ji (Qp (by rw [Sp]; omega) (by omega)) (h5 _ ⟨⟨⟨by omega,by simp only [Sn,Sp]; omega,fun b h0=>?_,?_⟩,fun b h0=>?_⟩,by simp [h3],fun b h0=>?_,fun a=>?_⟩)
  ·rcases St.1 h0 with h0 | h0
   ·exact hb.each b h0
   ·rw [Sv] at h0; subst h0;exact⟨⟨by simp only; omega,by simp only; omega⟩,.inl hj,by simp only; omega,by simp only; omega,by simp only; omega⟩
  ·refine gD hb.sorted (fun a ha=>?_);have:=hid a ha;simp only;omega
  ·rcases St.1 h0 with h0 | h0
   ·exact h2 b h0
   ·rw [Sv] at h0; subst h0;exact hj
  ·rw [Sn,Sp];rcases St.1 h0 with h0 | h0
   ·have:=hid b h0; omega
   ·rw [Sv] at h0; subst h0;simp only; omega
  ·rw [JV];split
   ·omega
   ·exact h1 a
 ·obtain⟨⟨hb,h2⟩,h3,_,h1⟩:=hI;have a0:=hb.len;refine Hy ⟨by omega,by omega⟩ (Ji (S8 (by omega)) ?_);refine iK (fun _ st=>((Qg AJ st.1∧∀ b∈st.1,b.Size=40)∧st.1.length<=most)∧∀ a,0<=Gw.get st.2 a 0∧Gw.get st.2 a 0<=1000) ⟨⟨⟨hb,h2⟩,by rw [h3]; exact h4⟩,h1⟩ (fun i st nx hi hI h5=>?_) (fun st _=>?_)
  ·obtain⟨⟨⟨hb,h2⟩,h6⟩,h1⟩:=hI;refine H6 (wp_mono (YH hs hb h1 hF) (fun r153 h7=>?_));obtain⟨g1,g2⟩:=h7;refine Hr (fun h=>Gx ⟨hb,g2 (S6 h),h6,h2⟩) (fun _=>?_);have a0:=hb.len;refine Ja (fun pre l=>l=pre.filter (fun b=>decide (b.ID≠r153.2.1))) rfl (fun pre y post l nx2 e hl h8=>?_) (fun l hl=>?_)
   ·subst hl;have hf:=S3 (fun b:Box=>decide (b.ID≠r153.2.1)) pre;have hp:pre.length+1<=st.1.length:=by rw [e]; simp
    refine Rz (fun j=>j=(pre++[y]).filter (fun b=>decide (b.ID≠r153.2.1))) (fun K hK=>Hr (fun h=>Ji (Qp (by rw [Sp]; omega) (by omega)) (hK _ ?_)) (fun h=>hK _ ?_)) (fun j hj=>h8 _ hj)
    ·rw [eY,h]; rfl
    ·rw [eY,h]; simp
   ·subst hl;refine h5 _ ⟨⟨⟨⟨hb.num,?_,fun b h0=>hb.each b (Sx.1 h0).1,hb.sorted.filter _⟩,fun b h0=>h2 b (Sx.1 h0).1⟩,Nat.le_trans (S3 _ _) h6⟩,by rw [g1]; exact h1⟩;have:=S3 (fun b:Box=>decide (b.ID≠r153.2.1)) st.1;show (st.1.filter (fun b=>decide (b.ID≠r153.2.1))).length<=8
    omega
  ·obtain⟨m,hm⟩:∃ m:Nat,AJ=(m:Int):=⟨AJ.toNat,by omega⟩;have a1:lM AJ=some m:=by
    unfold lM;rw [S8 (by omega),hm];rfl
   refine Gv a1 (Ji (S8 ⟨by omega,Nat.le_trans (show m<=6 by omega) (by decide),by omega⟩) (Gx ⟨⟨by omega,by simp,fun b hb=>(Se hb).elim,List.Pairwise.nil⟩,⟨by simp [hm],fun k l hk=>?_⟩,by simp,fun b hb=>(Se hb).elim⟩));have:l=[]:=by
    have:=Sd hk;exact List.eq_of_mem_replicate this
   subst this;exact⟨uM,rfl⟩

theorem G52 {α:Type} {R:α->α->Prop} {l:List α} (h:l.Pairwise R) {x y:α} (hx:x∈l) (hy:y∈l):x=y∨R x y∨R y x:=by
 induction l with
 | nil=>exact(Se hx).elim
 | cons a l ih=>
  obtain⟨h1,h2⟩:=List.pairwise_cons.1 h;grind
variable {n:Nat}
theorem HT (hs:nA s) (hb:Qg (n:Int) AA) (h0:∀ b∈AA,b.Size=40) (hl:AA.length<=4) (hn:n<=4):Q0 s AA (n:Int)=some true:=by
 refine eF ?_;unfold Q0;have h4:decide (4 < (n:Int))=false:=S9 (by omega);refine Gv hs.right (Gv (x:=true) (little hs.BU hs.BS) (Gv (x:=true) ?_ ?_))
 ·rw [h4];exact GK hb
 rw [h4];refine Hr (fun h=>by cases h) (fun _=>Ji (S8 (by omega)) ?_);rw [Int.toNat_natCast];refine iK (fun _ _=>True) trivial (fun i st nx hi _ h1=>?_) (fun st _=>?_)
 ·have h3:=kH AA (i:Int);refine Gv (kT AA _ (by omega)) (Hr (fun h=>?_) (fun _=>h1 _ trivial));have:=S6 h;omega
 ·have hc:Y1 AA (fun z0=>cM z0)=some false:=by
   unfold Y1;have h:Rv AA (fun z0=>cM z0)=some (uS (fun b:Box=>decide (b.Size≠40)) AA):=jF (fun x _=>rfl);rw [h,cT,kW];have ha:AA.any (fun b:Box=>decide (b.Size≠40))=false:=List.any_eq_false.2 fun b h2=>by simp [h0 b h2]
   rw [ha]
  exact Gv hc (Gx)
theorem G4b {ids:AD} (hs:nA s) (hw:Whole AA ids) (hl:ids.length<=4):H23 60 s AA ids (bW 60 s AA ids):=by
 obtain⟨r,h1,h2⟩:=YY (F:=60) hs.right (by have:=hs.BU; omega) (fun c hc=>by have:=hs.BS c hc; omega) hw (by omega) (by omega) (G14 hs.BU hl);rw [pK hs hw hl (by omega)] at h1;grind
theorem Qg.forty (hb:Qg AJ AA) (h0:∀ b∈AA,b.Size=40):G92 AA:=⟨hb.sorted,h0⟩
def JW (s:Gc) (AA:AH) (n:Nat):List (List AE):=(List.range n).map fun(k:Nat)=>bW 60 s AA (Zh AA (k:Int))
theorem G78 {k:Nat} (hk:k < n):(JW s AA n)[k]? = some (bW 60 s AA (Zh AA (k:Int))):=by
 unfold JW;grind
theorem yP {k:Nat} {L:List AE} (h:(JW s AA n)[k]? = some L):k < n∧L=bW 60 s AA (Zh AA (k:Int)):=by
 have hk:k < n:=by have:=(Sa h).1; unfold JW at this; simpa using this
 rw [G78 hk] at h;grind
theorem H74 {all:List (List AE)}:∀ (l:List AE) (k:Nat),Ge9 all k l->∀ (i:Nat) a,l[i]? = some a->∃ L,all[k+i]? = some L∧a∈L
 | [],_,_,i,a,h=>by simp at h
 | x::l,k,hp,i,a,h=>by
  cases i with
  | zero=>cases h; exact hp.1
  | succ i=>
   obtain⟨L,h1,h2⟩:=H74 l (k+1) hp.2 i a h;exact⟨L,by rw [<- h1]; congr 1; omega,h2⟩
theorem J3b {all:List (List AE)}:∀ (l:List AE) (k:Nat),(∀ (i:Nat) a,l[i]? = some a->∃ L,all[k+i]? = some L∧a∈L)->Ge9 all k l
 | [],_,_=>trivial
 | x::l,k,h=>⟨h 0 x rfl,J3b l (k+1) fun i a hi=>by
  obtain⟨L,h1,h2⟩:=h (i+1) a hi;exact⟨L,by rw [<- h1]; congr 1; omega,h2⟩⟩
structure Q52 (s:Gc) (AA:AH) (n:Nat) (r:cA×Int×Int):Prop where
 ok:r.2.2=0
 plan:vE s AA (n:Int) r.1
 sum:wE (gL 60 s AA) r.1.AO=r.2.1
 nonneg:0<=r.2.1∧r.2.1<=4000
 least:∀ l:List AE,l.length=n->(∀ (k:Nat) a,l[k]? = some a->Z1 s AA (k:Int) a)->r.2.1<=wE (gL 60 s AA) l
section
variable {s:Gc} {AA:AH} {n:Nat}
theorem H92 (hs:nA s) (hb:Qg (n:Int) AA) (h0:∀ b∈AA,b.Size=40) (hl:AA.length<=4) {k:Nat} {a:AE}:a∈bW 60 s AA (Zh AA (k:Int)) ↔ Z1 s AA (k:Int) a:=by
 have h1:=kH AA (k:Int);rw [(G4b hs ((hb.forty h0).whole (k:Int)) (by omega)).mem];exact⟨fun h=>⟨h.1,h.2⟩,fun h=>⟨h.right,h.ids⟩⟩
theorem qK (hm:Small s) (hs:nA s) (hb:Qg (n:Int) AA) (h4:∀ b∈AA,b.Size=40) (hl:AA.length<=4) (hn:1<=n∧n<=4) (h9:∀ k:Nat,k < n->∃ a,Z1 s AA (k:Int) a):Wp (Hx 60 s AA (n:Int)) (Q52 s AA n):=by
 have h0:=fun(k:Nat) a=>H92 (k:=k) (a:=a) hs hb h4 hl;have h6:∀ L∈JW s AA n,L≠[]:=fun L hL=>by
  obtain⟨k,hk⟩:=List.mem_iff_getElem?.1 hL;obtain⟨h1,rfl⟩:=yP hk;obtain⟨a,ha⟩:=h9 k h1;exact List.ne_nil_of_mem ((h0 k a).2 ha)
 have h8:(JW s AA n).length=n:=by unfold JW; simp
 refine wp_mono (G5f (R:=gL 60 s AA) (all:=JW s AA n) (F:=60) (n:=n) (HT hs hb h4 hl hn.2) (by omega) (by omega) h8 (fun i L hL=>?_) h6 (fun L hL=>?_) (fun a b=>ZE a b) (fun k L L' a b hL a1 ha h5=>?_)) fun r hr=>?_
 ·obtain⟨h1,rfl⟩:=yP hL;have a2:=kH AA (i:Int);exact⟨_,kT AA _ (by omega),pK hs ((hb.forty h4).whole _) (by omega) (by omega)⟩
 ·obtain⟨k,hk⟩:=List.mem_iff_getElem?.1 hL;obtain⟨h1,rfl⟩:=yP hk;have a2:=kH AA (k:Int);exact Nat.le_trans (G4b hs ((hb.forty h4).whole _) (by omega)).le (G14 hs.BU (by omega))
 ·obtain⟨_,rfl⟩:=yP hL;obtain⟨_,rfl⟩:=yP a1;have ha:=(h0 k a).1 ha;have h5:=(h0 (k+1) b).1 h5;have la:=ha.len;have lb:=h5.len;obtain⟨_,_,_,_,h⟩:=kF (F:=60) hm ha.right h5.right (by omega) (by omega) (by omega);exact h
 ·obtain⟨L0,a0,h1,h2,h3,rfl⟩:=hr;obtain⟨c1,c2,c3,_⟩:=G74 (R:=gL 60 s AA) h6 (n - 1) 0 a0 L0 (by omega) h1 h2;have a3:=xD (R:=gL 60 s AA) (all:=JW s AA n) (fun a b=>ZE a b) (n - 1) 0 a0;refine⟨rfl,⟨by show ((gK _ _ _ _ _).length:Int)=n; rw [c2]; omega,fun k l hk=>?_⟩,c3,⟨a3.1,by show (aI _ _ _ _ _).1<=4000; omega⟩,fun l h7 a4=>?_⟩
  ·obtain⟨L,g1,g2⟩:=H74 _ _ c1 k l hk;rw [Nat.zero_add] at g1;obtain⟨_,rfl⟩:=yP g1;exact(h0 k l).1 g2
  ·have hp:Ge9 (JW s AA n) 0 l:=J3b l 0 fun i a hi=>by
    have a5:i < n:=by have:=(Sa hi).1; omega
    rw [Nat.zero_add];exact⟨_,G78 a5,(h0 i a).2 (a4 i a hi)⟩
   cases l with
   | nil=>simp at h7; omega
   | cons b l=>
    obtain⟨⟨L,g1,g2⟩,g3⟩:=hp;rw [h1] at g1;cases g1;have q1:=h3 b g2;have q2:=J4b (R:=gL 60 s AA) (n - 1) 0 b l (by simp at h7; omega) g3;show (aI _ _ _ _ a0).1<=_
    omega
end
theorem G1b {st:AE} {id:Int}:inP st id=true ↔ (Je st id).2=true:=by
 rw [bN];unfold inP;grind
end Go.Proofs.YtibhpogonkdiaaaGreat
