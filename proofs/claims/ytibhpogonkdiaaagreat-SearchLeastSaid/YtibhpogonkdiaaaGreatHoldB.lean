/-
 Chains,families,and what Find of chapter 27 finds. What the AA of a family take of the ship that are never r
-/
import Derived.Test.YtibhpogonkdiaaaGreatLawG
import Derived.Test.YtibhpogonkdiaaaGreatHoldA
set_option maxRecDepth 100000
namespace Go.Proofs.YtibhpogonkdiaaaGreat
open Go.RowKit
variable {F:Nat}
theorem H19 {l:AI} {del:G3->Option Bool} {p:G3->Bool} (hd:∀ x∈l,del x=some (p x)) (hF:l.length+2<=F) (hl:l.length<=100000):Qr F l del=some (l.filter (fun x=>!p x)):=by
 refine eF ?_;unfold Qr;have hi:Yq l del=some (uS p l):=jF hd;refine Gv hi ?_;rcases qN p l with ⟨h1,h2,_⟩ | ⟨m,x,h1,h2,h3,h4⟩
 ·rw [h1];refine Hr (fun _=>Gx ?_) (fun h=>by simp at h);exact(List.filter_eq_self.2 (fun a ha=>by rw [h2 a ha]; rfl)).symm
 ·have hm:=(Sa h2).1;rw [h1];refine Hr (fun h=>?_) (fun _=>?_)
  ·have:=S6 h; omega
  refine Hy ⟨by omega,by omega⟩ ?_;have h6:∀ k,k < m->∀ y,l[k]? = some y->p y=false:=by
   intro k hk y hy;obtain⟨_,j,hj,b0,a9⟩:=List.find?_eq_some_iff_getElem.1 h4;have a0:l.findIdx? p=some m:=by
    have h5:=h1;unfold uS at h5;cases hf:l.findIdx? p with
    | none=>rw [hf] at h5; simp only at h5; omega
    | some j2=>rw [hf] at h5; simp only at h5; rw [show j2=m by omega]
   obtain⟨_,_,hb⟩:=List.findIdx?_eq_some_iff_getElem.1 a0;have:=hb k hk;have a3:=(Sa hy);obtain⟨b1,e⟩:=a3;rw [e] at this;simpa using this
  refine wp_loop (fun st=>∃ i j:Nat,st.1=(i:Int)∧st.2.1=(j:Int)∧i < j∧j<=l.length∧st.2.2.length=l.length∧st.2.2.take i=(l.take j).filter (fun x=>!p x)∧st.2.2.drop j=l.drop j) (fun st=>l.length+1 - st.2.1.toNat)
   ⟨m,m+1,rfl,rfl,by omega,by omega,rfl,?_,rfl⟩ (by show l.length+1 - ((m:Int)+1).toNat < F; omega) (fun st nx hI a4=>?_)
  ·rw [List.take_add_one,h2,List.filter_append];simp only [Option.toList_some,List.filter_cons,h3,Bool.not_true,Bool.false_eq_true,if_false,List.filter_nil,List.append_nil];refine(List.filter_eq_self.2 (fun a ha=>?_)).symm;obtain⟨k,hk⟩:=List.mem_iff_getElem?.1 ha;have h8:k < m:=by
    have:=(Sa hk).1;rw [List.length_take] at this; omega
   rw [List.getElem?_take_of_lt h8] at hk;rw [h6 k h8 a hk]; rfl
  ·obtain⟨a1,a2,cur⟩:=st;obtain⟨i,j,e1,e2,b2,b3,h7,ht,h0⟩:=hI;simp only at e1 e2 h7 ht h0 ⊢;subst e1 e2;refine Hr (fun h=>?_) (fun h=>?_)
   ·have hj:j < l.length:=by have:=S6 h; omega
    have a5:cur[j]? = some l[j]:=by
     have:(cur.drop j)[0]? = (l.drop j)[0]? := by rw [h0]
     rw [Sm,Sm] at this;simpa [hj] using this
    have h9:l[j]? = some l[j]:=by simp [hj]
    refine Rz (fun st=>∃ i':Nat,st.1=(i':Int)∧i' < j+1∧st.2.length=l.length∧st.2.take i'=(l.take (j+1)).filter (fun x=>!p x)∧st.2.drop (j+1)=l.drop (j+1)) (fun K hK=>?_) (fun st a6=>?_)
    ·refine Jk rfl a5 (Gv (hd l[j] (List.getElem_mem hj)) (Hr (fun hp=>?_) (fun hp=>hK _ ?_)))
     ·have a7:cur[i]? = some (cur[i]'(by omega)):=Sb (by omega);refine Jk rfl a7 (Hy ⟨by omega,by omega⟩ (hK _ ⟨i+1,rfl,by omega,by simpa using h7,?_,?_⟩))
      ·simp only [Int.toNat_natCast];rw [List.take_add_one,List.take_set_of_le (Sf),ht,List.take_add_one,h9,List.filter_append];have:(cur.set i l[j])[i]? = some l[j]:=by rw [List.getElem?_set_self (by omega)]
       rw [this];simp [hp]
      ·simp only [Int.toNat_natCast];rw [List.drop_set_of_lt (by omega)];have:=congrArg (List.drop 1) h0;rw [List.drop_drop,List.drop_drop] at this;exact this
     ·refine⟨i,rfl,by omega,h7,?_,?_⟩
      ·rw [ht,List.take_add_one,h9,List.filter_append];simp [hp]
      ·have:=congrArg (List.drop 1) h0;rw [List.drop_drop,List.drop_drop] at this;exact this
    ·obtain⟨i',g1,g2,g3,g4,g5⟩:=a6;refine Hy ⟨by omega,by omega⟩ (a4 _ ⟨i',j+1,g1,by simp,g2,by omega,g3,g4,g5⟩ ?_);simp only;omega
   ·have hj:j=l.length:=by have:=S7 h; omega
    subst hj;have a8:(blank cur i (cur.length - i) (G3.mk (G9.mk 0 0) 0 0)).length=cur.length:=by
     unfold blank;simp only [Sn,List.length_take,List.length_replicate,List.length_drop];omega
    refine H6 (aY rfl (by omega) (H6 (aY rfl (by rw [a8]; omega) (Gx ?_))));unfold blank;rw [List.append_assoc,List.take_left' (by rw [List.length_take]; omega),ht,List.take_length]
def Before (a b:G3):Prop:=a.G9.Load < b.G9.Load∧a.G9.AF < b.G9.AF
theorem H76 (n:Nat):lM (n:Int)=some n:=by
 unfold lM;grind
def J24 (on:AI) (j:Nat) (y:Int):Prop:=y = -1∨∃ k:Nat,y=(k:Int)∧j < k∧k < on.length∧∀ a b,on[j]? = some a->on[k]? = some b->Before a b
structure Rows (on:AI) (i:Int) (sum next:AD):Prop where
 len1:sum.length=on.length
 len2:next.length=on.length
 sums:∀ j:Nat,j < on.length->∃ v,sum[j]? = some v∧0<=v∧v<=30*((on.length:Int) - j)∧((j:Int)<=i->v=0)
 nexts:∀ j:Nat,i < (j:Int)->j < on.length->∃ y,next[j]? = some y∧J24 on j y
structure Jd2 (on:AI) (i:Nat) (sum next:AD):Prop where
 len1:sum.length=on.length
 len2:next.length=on.length
 sums:∀ j:Nat,j < on.length->∃ v,sum[j]? = some v∧0<=v∧v<=30*((on.length:Int) - j)∧(j < i->v=0)∧(j=i->v<=30*((on.length:Int) - j - 1))
 nexts:∀ j:Nat,i<=j->j < on.length->∃ y,next[j]? = some y∧J24 on j y
theorem G15 {l:AD} {i:Nat} {v:Int} (hi:i < l.length) (j:Nat):(l.set (i:Int).toNat v)[j]? = if j=i then some v else l[j]? := by
 grind
theorem J71 {c:G3} (hc:eG c):iG c=some (2*c.Whole+c.Half):=by
 obtain⟨⟨w1,w2⟩,⟨v1,v2⟩⟩:=hc;refine eF ?_;unfold iG;exact Hy ⟨by omega,by omega⟩ (Hy ⟨by omega,by omega⟩ Gx)
theorem J1e {BC:AI} {call:Int} (hc:∀ c∈BC,eG c) (hl:BC.length<=10) (hF:60<=F) :
  Wp (eD F BC call) (fun l=>(∀ c∈l,c∈BC∧c.G9.Load<=call∧call < c.G9.AF)∧l.Pairwise Before):=by
 unfold eD;refine Ja (fun pre on=>on.length<=pre.length∧∀ c∈on,c∈BC∧c.G9.Load<=call∧call < c.G9.AF) ⟨Sf,fun c h=>(Se h).elim⟩ (fun pre y post on nx e hI a3=>?_) (fun on hI=>?_)
 ·have hp:pre.length < 10:=by rw [e] at hl; simp only [Sn,Si] at hl; omega
  refine Rz (fun j=>j.length<=(pre++[y]).length∧∀ c∈j,c∈BC∧c.G9.Load<=call∧call < c.G9.AF) (fun K hK=>Hr (fun h=>?_) (fun _=>hK _ ⟨by simp only [Sn,Sp]; omega,hI.2⟩)) (fun j hj=>a3 _ hj);simp only [Sq,Sr] at h;refine Ji (Qp (by rw [Sp]; omega) (by omega)) (hK _ ⟨by simp only [Sn,Sp]; omega,fun c h0=>?_⟩);rcases St.1 h0 with h0 | h0
  ·exact hI.2 c h0
  ·rw [Sv.1 h0]; exact⟨by rw [e]; simp,h.1,h.2⟩
 obtain⟨c3,a4⟩:=hI;have hn:on.length<=10:=by omega
 refine Gv (H76 on.length) (Ji (S8 (by simp only [maxLen]; omega)) (Gv (H76 on.length) (Ji (S8 (by simp only [maxLen]; omega)) (Hy ⟨by omega,by omega⟩ ?_))));refine wp_loop (fun s:Int×Int×AD×AD => -1<=s.2.1∧s.2.1 < (on.length:Int)∧Rows on s.2.1 s.2.2.1 s.2.2.2∧(s.1 = -1∨∃ f:Nat,s.1=(f:Int)∧s.2.1 < (f:Int)∧f < on.length)) (fun s=>(s.2.1+1).toNat)
  ⟨by show (-1:Int)<=(on.length:Int) - 1; omega,by show (on.length:Int) - 1 < _; omega,⟨by simp,by simp,fun j hj=>⟨0,by rw [List.getElem?_replicate,if_pos hj],Int.le_refl _,by omega,fun _=>rfl⟩,fun j h1 h2=>by simp only at h1; omega⟩,.inl rfl⟩
  (by show ((on.length:Int) - 1+1).toNat < F; omega) (fun s nx hI a3=>?_)
 obtain⟨first,i0,sum,next⟩:=s;obtain⟨i1,i2,hR,h3⟩:=hI;simp only at i1 i2 hR h3 ⊢;refine Hr (fun hi=>?_) (fun hi=>?_)
 ·obtain⟨i,rfl⟩:∃ i:Nat,i0=(i:Int):=⟨i0.toNat,by have:=S6 hi; omega⟩;have h4:i < on.length:=by omega
  obtain⟨ci,h5⟩:∃ ci,on[i]? = some ci:=⟨on[i],Sb h4⟩;have b5:=hR.len1;have b6:=hR.len2;refine Rz (fun j=>Rows on ((i:Int) - 1) j.2.1 j.2.2∧(j.1 = -1∨∃ f:Nat,j.1=(f:Int)∧(i:Int) - 1 < (f:Int)∧f < on.length)) (fun K hK=>?_)
   (fun j hj=>Hy ⟨by omega,by omega⟩ (a3 _ ⟨by simp only; omega,by simp only; omega,hj.1,hj.2⟩ (by simp only; omega)))
  have b4:next[i]? = some (next[i]'(by omega)):=Sb (by omega);refine Jk rfl b4 (Hy ⟨by omega,by omega⟩ ?_);refine wp_loop (fun t:Int×AD×AD=>(i:Int)<=t.1∧t.1 < (on.length:Int)∧Jd2 on i t.2.1 t.2.2) (fun t=>(t.1 - i).toNat)
   ⟨by show (i:Int)<=(on.length:Int) - 1; omega,by show (on.length:Int) - 1 < _; omega,⟨b5,by show (next.set (i:Int).toNat (-1)).length=_; rw [List.length_set]; exact b6,fun j hj=>?_,fun j h1 h2=>?_⟩⟩ (by show ((on.length:Int) - 1 - i).toNat < F; omega) (fun t nx2 hJ h6=>?_)
  ·obtain⟨v,g1,g2,g3,g4⟩:=hR.sums j hj;exact⟨v,g1,g2,g3,fun h=>g4 (by omega),fun h=>by have:=g4 (by omega); omega⟩
  ·show ∃ y,(next.set (i:Int).toNat (-1))[j]? = some y∧J24 on j y
   rw [G15 (by omega)];by_cases e:j=i
   ·rw [if_pos e]; exact⟨-1,rfl,.inl rfl⟩
   ·rw [if_neg e]; exact hR.nexts j (by omega) h2
  obtain⟨k0,sm,nt⟩:=t;obtain⟨j1,j2,hA⟩:=hJ;simp only at j1 j2 hA ⊢;have a9:=hA.len1;have b0:=hA.len2;obtain⟨vi,h7,vi1,vi2,_,vi4⟩:=hA.sums i h4;have vi4:=vi4 rfl;obtain⟨yi,b7,_⟩:=hA.nexts i (Sf) h4;refine Hr (fun hk=>?_) (fun hk=>?_)
  ·obtain⟨k,rfl⟩:∃ k:Nat,k0=(k:Int):=⟨k0.toNat,by omega⟩;have c4:i < k:=by have:=S6 hk; omega
   have a5:k < on.length:=by omega
   obtain⟨ck,a6⟩:∃ ck,on[k]? = some ck:=⟨on[k],Sb a5⟩;obtain⟨vk,b1,vk1,vk2,_⟩:=hA.sums k a5;refine Rz (fun j=>Jd2 on i j.1 j.2) (fun K' h8=>?_) (fun j hj=>Hy ⟨by omega,by omega⟩ (h6 _ ⟨by simp only; omega,by simp only; omega,hj⟩ (by simp only; omega)));refine Jk rfl a6 (Jk rfl h5 ?_);by_cases h1:ci.G9.Load < ck.G9.Load
   ·rw [S8 h1];simp only [cond_true,Bool.true_and];refine H6 (Jk rfl a6 (Gx (H6 (Jk rfl h5 (Gx ?_)))));by_cases h2:ci.G9.AF < ck.G9.AF
    ·rw [S8 h2];simp only [cond_true,Bool.true_and];refine H6 (Jk rfl b1 (Gx (H6 (Jk rfl h7 (Gx (Hr (fun _=>Jk rfl b1 (Jk rfl h7 (Jk rfl b7 (h8 _ ?_)))) (fun _=>h8 _ hA)))))));refine⟨by rw [List.length_set]; exact a9,by rw [List.length_set]; exact b0,fun j hj=>?_,fun j g1 g2=>?_⟩
     ·simp only;rw [G15 (by omega)];by_cases e:j=i
      ·rw [if_pos e]; exact⟨vk,rfl,vk1,by omega,fun _=>by omega,fun _=>by omega⟩
      ·rw [if_neg e]; exact hA.sums j hj
     ·simp only;rw [G15 (by omega)];by_cases e:j=i
      ·rw [if_pos e];refine⟨_,rfl,.inr ⟨k,rfl,by omega,a5,fun a b ha hb=>?_⟩⟩;subst e;rw [h5] at ha; cases ha;rw [a6] at hb; cases hb;exact⟨h1,h2⟩
      ·rw [if_neg e]; exact hA.nexts j g1 g2
    ·rw [S9 h2];simp only [cond_false,Bool.false_and];exact H6 (Gx (H6 (Gx (h8 _ hA))))
   ·rw [S9 h1];simp only [cond_false,Bool.false_and];exact H6 (Gx (H6 (Gx (H6 (Gx (H6 (Gx (h8 _ hA))))))))
  ·have b8:=J71 (hc ci (a4 ci (Sd h5)).1);obtain⟨⟨w1,w2⟩,⟨z1,z2⟩⟩:=hc ci (a4 ci (Sd h5)).1;have h9:Rows on ((i:Int) - 1) (sm.set (i:Int).toNat (vi+(2*ci.Whole+ci.Half))) nt:=by
    refine⟨by rw [List.length_set]; exact a9,b0,fun j hj=>?_,fun j g1 g2=>hA.nexts j (by omega) g2⟩;rw [G15 (by omega)];by_cases e:j=i
    ·rw [if_pos e]; exact⟨_,rfl,by omega,by omega,fun h=>by omega⟩
    ·rw [if_neg e];obtain⟨v,g1,g2,g3,g4,_⟩:=hA.sums j hj;exact⟨v,g1,g2,g3,fun h=>g4 (by omega)⟩
   refine Jk rfl h7 (Jk rfl h5 (Gv b8 (Hy ⟨by omega,by omega⟩ (Jk rfl h7 ?_))));have a7:∀ j:Nat,j < on.length->∃ v,(sm.set (i:Int).toNat (vi+(2*ci.Whole+ci.Half)))[j]? = some v:=fun j hj=>by
    obtain⟨v,g,_⟩:=h9.sums j hj;exact⟨v,g⟩
   rcases h3 with rfl | ⟨f,rfl,f1,f2⟩
   ·exact H6 (Gx (H6 (Gx (hK _ ⟨h9,.inr ⟨i,rfl,by omega,h4⟩⟩))))
   ·obtain⟨a1,b9⟩:=a7 i h4;obtain⟨a2,c0⟩:=a7 f f2;rw [S9 (show ¬ (f:Int) < 0 by omega)];simp only [Bool.not_false,cond_true,Bool.false_or];exact H6 (Jk rfl b9 (Gx (H6 (Jk rfl c0 (Gx (Hr (fun _=>hK _ ⟨h9,.inr ⟨i,rfl,by omega,h4⟩⟩) (fun _=>hK _ ⟨h9,.inr ⟨f,rfl,by omega,f2⟩⟩)))))))
 ·have c1:i0 = -1:=by have:=S7 hi; omega
  subst c1;refine wp_loop (fun t:AI×Int=>(∀ c∈t.1,c∈on)∧t.1.Pairwise Before∧((t.2 = -1∧t.1.length<=on.length)∨∃ j:Nat,t.2=(j:Int)∧j < on.length∧t.1.length<=j∧∀ b,on[j]? = some b->∀ a∈t.1,Before a b))
   (fun t=>if t.2 < 0 then 0 else ((on.length:Int) - t.2).toNat) ⟨fun c h=>(Se h).elim,List.Pairwise.nil,?_⟩ (by simp only; split <;> omega) (fun t nx2 hJ h6=>?_)
  ·rcases h3 with rfl | ⟨f,rfl,_,f2⟩
   ·exact .inl ⟨rfl,Nat.zero_le _⟩
   ·exact .inr ⟨f,rfl,f2,Nat.zero_le _,fun b _ a h=>(Se h).elim⟩
  obtain⟨l,i⟩:=t;obtain⟨j1,j2,j3⟩:=hJ;simp only at j1 j2 j3 ⊢;rcases j3 with ⟨rfl,_⟩ | ⟨j,rfl,hj,c5,hb⟩
  ·exact Hr (fun h=>absurd (S6 h) (by omega)) (fun _=>Gx ⟨fun c h0=>a4 c (j1 c h0),j2⟩)
  ·refine Hr (fun _=>?_) (fun h=>absurd (S7 h) (by omega));obtain⟨cj,a0⟩:∃ cj,on[j]? = some cj:=⟨on[j],Sb hj⟩;obtain⟨y,hy,b2⟩:=hR.nexts j (by omega) hj;have b3:=hb cj a0;refine Jk rfl a0 (Ji (Qp (by rw [Sp]; omega) (by omega)) (Jk rfl hy (h6 _ ⟨fun c h0=>?_,gD j2 b3,?_⟩ ?_)))
   ·rcases St.1 h0 with h0 | h0
    ·exact j1 c h0
    ·rw [Sv.1 h0]; exact Sd a0
   ·rcases b2 with rfl | ⟨k,rfl,k1,k2,k3⟩
    ·exact .inl ⟨rfl,by simp only [Sn,Sp]; omega⟩
    ·refine .inr ⟨k,rfl,k2,by simp only [Sn,Sp]; omega,fun b c2 a ha=>?_⟩;have a8:=k3 cj b a0 c2;rcases St.1 ha with ha | ha
     ·have:=b3 a ha;exact⟨Int.lt_trans this.1 a8.1,Int.lt_trans this.2 a8.2⟩
     ·rw [Sv.1 ha]; exact a8
   ·simp only;rcases b2 with rfl | ⟨k,rfl,k1,k2,k3⟩
    ·rw [if_pos (by omega),if_neg (by omega)]; omega
    ·rw [if_neg (by omega),if_neg (by omega)]; omega
theorem Gab {all:List AI} {num:AI->Option Int} (hv:∀ x∈all,Wp (num x) (fun _=>True)) :
  Wp (Y6 all num) (fun r=>r.2=0∨(0 < r.2∧r.1∈all∧num r.1=some r.2)):=by
 unfold Y6;refine Ja (fun _ s=>s.2=0∨(0 < s.2∧s.1∈all∧num s.1=some s.2)) (.inl rfl) (fun pre y post s nx e hI h0=>?_) (fun s hI=>Gx hI);have hy:y∈all:=by rw [e]; simp
 refine Rz (fun s=>s.2=0∨(0 < s.2∧s.1∈all∧num s.1=some s.2)) (fun K hK=>?_) (fun j hj=>h0 _ hj);obtain⟨v,ev,_⟩:=hv y hy;refine Gv ev (Hr (fun h=>hK _ (.inr ⟨?_,hy,ev⟩)) (fun _=>hK _ hI));grind
def HI (a b:G9):Prop:=a.Load < b.Load∧b.Load < a.AF∧a.AF < b.AF
theorem J8a (l:List G9) (v:G9):Ya l v=some (l.any (fun y=>decide (v=y))):=by
 unfold Ya;have h:Z9 l v=some (uS (fun y=>decide (v=y)) l):=by
  unfold Z9;exact jF (f:=fun y=>some (decide (v=y))) (fun x _=>rfl)
 rw [h,cT,kW]
structure Fam (F:Nat) (s:Gc) (g0:AI) (f:AI×Int):Prop where
 sub:∀ c∈f.1,c∈g0
 cross:(f.1.map (·.G9)).Pairwise HI
 len:f.1.length<=10
 val:Zp F s f.1=some f.2
 pos:0 < f.2∧f.2<=400
def fS (fs:List (AI×Int)):List (List G9):=fs.map (fun f=>f.1.map (·.G9))
structure Found (F:Nat) (s:Gc) (g0:AI) (fs:List (AI×Int)) (sum:Int):Prop where
 each:∀ f∈fs,Fam F s g0 f
 sum_eq:sum=(fs.map (·.2)).sum
 nodup:(fS fs).flatten.Nodup
 small:0<=sum∧sum<=400*(fs.length:Int)
theorem J1b {s:Gc} {AA:AH} {g0:AI} (hr:gJ s AA=some true) (hg:Z0 AA=some g0) (hc:∀ c∈g0,eG c) (hl:g0.length<=10)
  (hb:∀ l:AI,(∀ c∈l,eG c)->l.length<=20->Wp (Zp F s l) (fun v=>0<=v∧v<=400∧(l=[]->v=0))) (hF:60<=F) :
  Wp (iT F s AA) (fun r=>r.2.2=0∧∃ fs,r.1=fS fs∧Found F s g0 fs r.2.1∧fs.length<=10):=by
 unfold iT;refine Gv hr (Hr (fun h=>by cases h) (fun _=>Gv hg ?_));refine wp_loop (fun st:List (List G9)×Int×AI=>∃ fs,st.1=fS fs∧Found F s g0 fs st.2.1∧fs.length+st.2.2.length<=g0.length∧∀ c∈st.2.2,c∈g0∧c.G9 ∉ (fS fs).flatten) (fun st=>st.2.2.length)
  ⟨[],rfl,⟨fun f h=>(Se h).elim,rfl,List.nodup_nil,⟨Int.le_refl _,by simp⟩⟩,by simp,fun c h=>⟨h,by simp [fS]⟩⟩ (by simp only; omega) (fun st nx hI b6=>?_)
 obtain⟨fams,sum,ck⟩:=st;obtain⟨fs,rfl,h0,a1,h5⟩:=hI;simp only at h0 a1 h5 ⊢;have h9:∀ c∈ck,eG c:=fun c h=>hc c (h5 c h).1;have b1:ck.length<=10:=by omega
 refine Ji (S8 (by decide)) ?_;refine iK (fun i s24=>s24.length=i∧∀ x∈s24,∃ k:Int,(∀ c∈x,c∈ck∧c.G9.Load<=k∧k < c.G9.AF)∧x.Pairwise Before) ⟨rfl,fun x h=>(Se h).elim⟩ (fun i s24 nx2 hi hI b2=>?_) (fun s24 hI=>?_)
 ·have c1:i < 20:=hi;refine H6 (wp_mono (J1e h9 b1 hF) (fun r29 a6=>Ji (Qp (by rw [Sp]; omega) (by omega)) (b2 _ ⟨by rw [Sn,Sp,hI.1],fun x hx=>?_⟩)));rcases St.1 hx with hx | hx
  ·exact hI.2 x hx
  ·rw [Sv.1 hx]; exact⟨_,a6.1,a6.2⟩
 have h4:∀ x∈s24,(∀ c∈x,c∈ck)∧(x.map (·.G9)).Pairwise HI∧x.length<=10∧(x.map (·.G9)).Nodup:=fun x hx=>by
  obtain⟨k,h1,h2⟩:=hI.2 x hx;have b7:x.Nodup:=h2.imp (fun {a b} h e=>by rw [e] at h; exact absurd h.1 (by omega));refine⟨fun c h3=>(h1 c h3).1,List.pairwise_map.2 (List.Pairwise.imp_of_mem (fun {a b} ha a2 a7=>?_) h2),?_,List.pairwise_map.2 (h2.imp (fun {a b} h e=>by have:=h.1; rw [e] at this; omega))⟩
  ·have:=h1 a ha;have:=h1 b a2;exact⟨a7.1,by omega,a7.2⟩
  ·have:=b7.length_le_of_subset (fun c h3=>(h1 c h3).1);omega
 have a3:∀ x∈s24,Wp (Zp F s x) (fun v=>0<=v∧v<=400∧(x=[]->v=0)):=fun x hx=>hb x (fun c h3=>h9 c ((h4 x hx).1 c h3)) (by have:=(h4 x hx).2.2.1; omega);refine H6 (wp_mono (Gab (num:=fun z0=>dA F z0 s) (fun x hx=>by
  obtain⟨v,ev,_⟩:=a3 x hx;exact⟨v,by unfold dA; rw [ev]; rfl,trivial⟩)) (fun r32 a4=>?_))
 refine Hr (fun h=>Gx ⟨rfl,fs,rfl,h0,by omega⟩) (fun h=>?_);have a8:=S7 h;rcases a4 with a4 | ⟨a5,h8,h6⟩
 ·exact(a8 a4).elim
 obtain⟨best,n⟩:=r32;simp only at a5 h8 h6 a8 ⊢;obtain⟨v,ev,v1,v2,v3⟩:=a3 best h8;have b8:v=n:=by
  unfold dA at h6;rw [ev] at h6;exact Sc h6
 subst b8;obtain⟨g1,g2,g3,g4⟩:=h4 best h8;have c2:fs.length<=10:=by omega
 refine Ja (fun pre s63=>s63=pre.map (·.G9)) rfl (fun pre y post s63 nx3 e hJ b3=>?_) (fun s63 hJ=>?_)
 ·have hp:pre.length < 10:=by rw [e] at g3; simp only [Sn,Si] at g3; omega
  refine Ji (Qp (by rw [hJ,Ss,Sp]; omega) (by omega)) (b3 _ (by rw [hJ,List.map_append]; rfl))
 subst hJ;have c3:=h0.small;refine Ji (Qp (by unfold fS; rw [Ss,Sp]; omega) (by omega)) (Hy ⟨by omega,by omega⟩ ?_);have b4:Qr F ck (fun z0=>eU z0 (best.map (·.G9)))=some (ck.filter (fun c=>!((best.map (·.G9)).any (fun y=>decide (c.G9=y))))):=
  H19 (fun c _=>by unfold eU; rw [J8a]; rfl) (by omega) (by omega)
 refine Gv b4 ?_;have b5:best≠[]:=fun e0=>by have:=v3 e0; omega
 obtain⟨c0,a9⟩:=List.exists_mem_of_ne_nil best b5;have b9:(ck.filter (fun c=>!((best.map (·.G9)).any (fun y=>decide (c.G9=y))))).length < ck.length:=by
  refine List.length_filter_lt_length_iff_exists.2 ⟨c0,g1 c0 a9,?_⟩;have:(best.map (·.G9)).any (fun y=>decide (c0.G9=y))=true:=List.any_eq_true.2 ⟨c0.G9,Su.2 ⟨c0,a9,rfl⟩,S8 rfl⟩;rw [this];exact Bool.false_ne_true
 have b0:fS (fs++[(best,v)])=fS fs++[best.map (·.G9)]:=by unfold fS; simp
 have a0:(fS (fs++[(best,v)])).flatten=(fS fs).flatten++best.map (·.G9):=by rw [b0]; simp
 refine b6 _ ⟨fs++[(best,v)],b0.symm,⟨fun f hf=>?_,?_,?_,?_⟩,?_,fun c h3=>?_⟩ b9
 ·rcases St.1 hf with hf | hf
  ·exact h0.each f hf
  ·rw [Sv.1 hf]; exact⟨fun c h=>(h5 c (g1 c h)).1,g2,g3,ev,a5,v2⟩
 ·rw [h0.sum_eq,List.map_append,List.sum_append]; simp
 ·rw [a0];refine List.nodup_append.2 ⟨h0.nodup,g4,fun a ha b a2 e0=>?_⟩;subst e0;obtain⟨c,h3,rfl⟩:=Su.1 a2;exact(h5 c (g1 c h3)).2 ha
 ·simp only [Sn,Sp]; omega
 ·simp only [Sn,Sp]; omega
 ·obtain⟨h1,h2⟩:=Sx.1 h3;refine⟨(h5 c h1).1,?_⟩;rw [a0];intro h7;rcases St.1 h7 with h7 | h7
  ·exact(h5 c h1).2 h7
  ·have:(best.map (·.G9)).any (fun y=>decide (c.G9=y))=true:=List.any_eq_true.2 ⟨c.G9,h7,S8 rfl⟩;rw [this] at h2; cases h2

theorem GU {α:Type} (p:α->Bool):∀ l:List α,(l.filter p).length+(l.filter (fun x=>!p x)).length=l.length
 | []=>rfl
 | x::l=>by
  have:=GU p l;rw [List.filter_cons,List.filter_cons,Si];cases p x <;> simp <;> omega
theorem G71 {α:Type}:∀ (ps:List (α->Bool)) (l:List α),ps.Pairwise (fun p q=>∀ x∈l,¬ (p x=true∧q x=true))->(ps.map (fun p=>(l.filter p).length)).sum<=l.length
 | [],_,_=>by simp
 | p::ps,l,h=>by
  obtain⟨h1,h2⟩:=List.pairwise_cons.1 h;have ih:=G71 ps (l.filter (fun x=>!p x)) (h2.imp (fun {q r} hq x hx=>hq x (Sx.1 hx).1));have e:ps.map (fun q=>((l.filter (fun x=>!p x)).filter q).length)=ps.map (fun q=>(l.filter q).length):=by
   refine List.map_congr_left (fun q hq=>?_);rw [List.filter_filter];congr 1;refine List.filter_congr (fun x hx=>?_);have:=h1 q hq x hx;cases h0:q x with
   | false=>rfl
   | true=>
    cases h3:p x with
    | false=>rfl
    | true=>exact absurd ⟨h3,h0⟩ this
  rw [e] at ih;have:=GU p l;rw [List.map_cons,List.sum_cons];omega
theorem Q44 {α:Type} {R:α->α->Prop} (hs:∀ a b,R a b->R b a) {l:List α} (h:l.Pairwise R) {a b:α} (ha:a∈l) (hb:b∈l) (h0:a≠b):R a b:=by
 induction h with
 | nil=>exact(Se ha).elim
 | cons h1 _ ih=>
  grind
theorem H81 {α β:Type} (l:List α) (m:List β):(l.flatMap (fun p=>m.map (fun t=>(p,t)))).length=l.length*m.length:=by
 induction l with
 | nil=>simp
 | cons x l ih=>rw [List.flatMap_cons,Sn,ih,Ss,Si,Nat.succ_mul]; omega

def inG (g:G9) (b:Box):Bool:=decide (b.Load=g.Load)&&decide (b.AF=g.AF)
theorem H0e {g:G9} {b:Box}:inG g b=true ↔ b.Load=g.Load∧b.AF=g.AF:=by unfold inG; simp
theorem Jc6 (g:G9) (z:Int) (b:Box):hit g z b=(inG g b&&decide (b.Size=z)):=rfl
section
variable {s:Gc} {AA:AH} {AJ:Int} {S:List AE} {out:List AD} {t:Nat}
def sl (S:List AE) (t:Nat) (b:Box):Slot:=(Je (stK S t) b.ID).1
def plc (S:List AE) (t:Nat) (b:Box):List (Nat×Nat):=
 if b.Size=40 then [(2*(sl S t b).G7.toNat,(sl S t b).AL.toNat),(2*(sl S t b).G7.toNat+1,(sl S t b).AL.toNat)]
 else [(2*(sl S t b).G7.toNat+((sl S t b).Half - 1).toNat,(sl S t b).AL.toNat)]
def kept (AA:AH) (out:List AD) (g:G9):AH:=AA.filter (fun b=>inG g b&&!kG out b.ID)
def gone (AA:AH) (out:List AD) (g:G9):AH:=AA.filter (fun b=>inG g b&&kG out b.ID)
def occ (AA:AH) (out:List AD) (S:List AE) (t:Nat) (g:G9) (p:Nat):Bool:=(kept AA out g).any (fun b=>(plc S t b).any (fun q=>decide (q.1=p)))
variable {g:G9}
theorem H09 {p:Nat}:occ AA out S t g p=true ↔ ∃ b∈kept AA out g,∃ q∈plc S t b,q.1=p:=by
 unfold occ;grind
variable {b:Box}
theorem lO:b∈kept AA out g ↔ b∈AA∧(b.Load=g.Load∧b.AF=g.AF)∧kG out b.ID=false:=by
 unfold kept;rw [Sx,Sq,H0e,Bool.not_eq_true']
theorem iQ.slotOk (h:iQ s AA AJ S out) (hk:t < S.length) (hb:b∈AA) (h1:abB (t:Int) b=true):oM s (sl S t b) b.Size∧∃ y∈stK S t,y.Box=b.ID∧sl S t b=y.Slot:=by
 obtain⟨y,hy,e1,e2⟩:=Ys (bN.2 ((h.at hk hb).2 h1));obtain⟨b0,h0,hs,_⟩:=(h.each t hk).right.each y hy;have h2:b0∈AA:=List.mem_of_find?_eq_some h0;have he:b0.ID=y.Box:=S6 (List.find?_some (p:=fun b:Box=>decide (b.ID=y.Box)) h0);have:b0=b:=h.bok.inj h2 hb (he.trans e1);subst this;unfold sl;grind
theorem Gd0 {a b:Slot} (h:xK a b):xK b a:=by
 obtain⟨h1,h2,h3⟩:=h;refine⟨h1.symm,h2.symm,?_⟩;unfold pB at h3 ⊢;omega
theorem iQ.noMeet (h:iQ s AA AJ S out) (hk:t < S.length) {a:Box} (ha:a∈AA) (hb:b∈AA) (h0:abB (t:Int) a=true) (h3:abB (t:Int) b=true) (h4:a.ID≠b.ID):¬ xK (sl S t a) (sl S t b):=by
 obtain⟨_,y,hy,e1,e2⟩:=h.slotOk hk ha h0;obtain⟨_,z,hz,e3,e4⟩:=h.slotOk hk hb h3;rw [e2,e4];exact Q44 (R:=fun x y:G1=>¬ xK x.Slot y.Slot) (fun x y h1 h2=>h1 (Gd0 h2)) ((h.each t hk).right.apart.imp (fun {x y} h1 h2=>h1 (Gd0 h2))) hy hz (fun e=>h4 (by rw [<- e1,<- e3,e]))
theorem yK (hs:b.Size=40∨(b.Size=20∧b.High=false)) {x:Slot} (h:oM s x b.Size):(b.Size=40∧x.Half=0)∨(b.Size≠40∧(x.Half=1∨x.Half=2)):=by
 have hh:=h.half;rcases hs with e | ⟨e,_⟩
 ·rw [e] at hh;exact .inl ⟨e,by simpa [jT] using hh⟩
 ·rw [e] at hh;exact .inr ⟨by omega,by simpa [jT] using hh⟩
theorem H6e {a:Box} {x y:Slot} (hx:x=sl S t a) (hy:y=sl S t b) (h1:0<=x.G7) (h2:0<=y.G7) (ha:(a.Size=40∧x.Half=0)∨(a.Size≠40∧(x.Half=1∨x.Half=2))) (hb:(b.Size=40∧y.Half=0)∨(b.Size≠40∧(y.Half=1∨y.Half=2)))
  {q r:Nat×Nat} (hq:q∈plc S t a) (hr:r∈plc S t b) (e:q.1=r.1):x.G7=y.G7∧pB x.Half y.Half∧q.2=x.AL.toNat∧r.2=y.AL.toNat:=by
 unfold plc at hq hr;rw [<- hx] at hq;rw [<- hy] at hr;rcases ha with ⟨a1,a2⟩ | ⟨a1,a2⟩ <;> rcases hb with ⟨b1,b2⟩ | ⟨b1,b2⟩
 ·rw [if_pos a1] at hq;rw [if_pos b1] at hr;simp only [Sw,Se,or_false] at hq hr;rcases hq with rfl | rfl <;> rcases hr with rfl | rfl <;> simp only at e <;> exact⟨by omega,.inr (.inl a2),rfl,rfl⟩
 ·rw [if_pos a1] at hq;rw [if_neg b1] at hr;simp only [Sw,Se,or_false] at hq hr;subst hr;rcases hq with rfl | rfl <;> simp only at e <;> exact⟨by omega,.inr (.inl a2),rfl,rfl⟩
 ·rw [if_neg a1] at hq;rw [if_pos b1] at hr;simp only [Sw,Se,or_false] at hq hr;subst hq;rcases hr with rfl | rfl <;> simp only at e <;> exact⟨by omega,.inr (.inr b2),rfl,rfl⟩
 ·rw [if_neg a1] at hq;rw [if_neg b1] at hr;simp only [Sw,Se,or_false] at hq hr;subst hq;subst hr;simp only at e;exact⟨by omega,.inl (by omega),rfl,rfl⟩
theorem iQ.col (h:iQ s AA AJ S out) (hk:t < S.length) (hb:b∈AA) (h0:abB (t:Int) b=true):0<=(sl S t b).G7∧(sl S t b).G7 < (s.AB.length:Int)∧0<=(sl S t b).AL∧∃ c∈s.AB,(sl S t b).AL < c.Tiers:=by
 obtain⟨hs,_⟩:=h.slotOk hk hb h0;obtain⟨m,c,e1,e2,e3⟩:=hs.col;have:=(Sa e2).1;exact⟨by omega,by omega,hs.tier,c,Sd e2,e3⟩
def G81 (t:Nat) (g:G9):Prop:=g.Load<=t∧(t:Int) < g.AF
theorem G81.ab (h:G81 t g) (hb:b∈kept AA out g):abB (t:Int) b=true:=by
 obtain⟨_,⟨e1,e2⟩,_⟩:=lO.1 hb;obtain⟨h1,h2⟩:=h;unfold abB;grind
theorem J74 (h:iQ s AA AJ S out) (hk:t < S.length) {g':G9} (hg:G81 t g) (h0:G81 t g') (hx:HI g g') (p:Nat):¬ (occ AA out S t g p=true∧occ AA out S t g' p=true):=by
 rintro⟨h1,h2⟩;obtain⟨a,ha,q,hq,e1⟩:=H09.1 h1;obtain⟨b,hb,r,hr,e2⟩:=H09.1 h2;have aa:=hg.ab ha;have ab:=h0.ab hb;obtain⟨ma,⟨a1,a2⟩,a3⟩:=lO.1 ha;obtain⟨mb,⟨b1,b2⟩,b3⟩:=lO.1 hb;obtain⟨x1,x2,x3⟩:=hx;have h4:a.ID≠b.ID:=fun e=>by
  have:=h.bok.inj ma mb e;subst this; omega
 have ca:=h.col hk ma aa;have cb:=h.col hk mb ab;have sa:=yK ((h.bok.each a ma).size) (h.slotOk hk ma aa).1;have sb:=yK ((h.bok.each b mb).size) (h.slotOk hk mb ab).1;obtain⟨f1,f2,_,_⟩:=H6e rfl rfl ca.1 cb.1 sa sb hq hr (e1.trans e2.symm);have hm:=h.noMeet hk ma mb aa ab h4;have h3:=h.apart ma mb a3 b3 (by omega) (by omega) (by omega) (t:=t) (by rw [b1]; exact h0.1) (by rw [a2]; exact hg.2);rcases Int.lt_trichotomy (sl S t a).AL (sl S t b).AL with h5 | h6 | h7
 ·exact h3.1 ⟨f1.symm,h5,by unfold pB at f2 ⊢; unfold sl at f2; omega⟩
 ·exact hm ⟨f1,h6,f2⟩
 ·exact h3.2 ⟨f1,h7,f2⟩
def hs (s:Gc) (AA:AH) (out:List AD) (S:List AE) (t:Nat) (g:G9):AK:=(List.range (2*s.AB.length)).filter (occ AA out S t g)
variable {T:Nat}
theorem J06 (h:iQ s AA AJ S out) (hk:t < S.length) (hT:∀ c∈s.AB,c.Tiers<=(T:Int)) (hg:G81 t g) (hb:b∈kept AA out g) {q:Nat×Nat} (hq:q∈plc S t b):q.1∈hs s AA out S t g∧q.2 < T:=by
 obtain⟨mb,_,_⟩:=lO.1 hb;obtain⟨c1,c2,c3,c,hc,c4⟩:=h.col hk mb (hg.ab hb);have sb:=yK ((h.bok.each b mb).size) (h.slotOk hk mb (hg.ab hb)).1;have h0:=hT c hc;unfold hs;rw [Sx,List.mem_range,H09];refine⟨⟨?_,b,hb,q,hq,rfl⟩,?_⟩
 ·unfold plc at hq;grind
 ·unfold plc at hq;split at hq
  ·simp only [Sw,Se,or_false] at hq;rcases hq with rfl | rfl <;> simp only <;> omega
  ·simp only [Sw,Se,or_false] at hq;subst hq;simp only; omega
theorem J6f (b:Box):(plc S t b).Nodup:=by
 unfold plc;grind
theorem G62 (h:iQ s AA AJ S out) (g:G9):(kept AA out g).Pairwise (fun a b=>a.ID≠b.ID):=(h.bok.sorted.filter _).imp (fun h=>by omega)
theorem H84:∀ l:AH,(l.flatMap (plc S t)).length=2*(l.filter (fun b=>decide (b.Size=40))).length+(l.filter (fun b=>!decide (b.Size=40))).length
 | []=>rfl
 | b::l=>by
  rw [List.flatMap_cons,Sn,H84 l,List.filter_cons,List.filter_cons];unfold plc;by_cases e:b.Size=40
  ·simp [e]; omega
  ·simp [e]; omega
theorem J70 (h:iQ s AA AJ S out) (hk:t < S.length) (hT:∀ c∈s.AB,c.Tiers<=(T:Int)) (hg:G81 t g) :
  2*((kept AA out g).filter (fun b=>decide (b.Size=40))).length+((kept AA out g).filter (fun b=>!decide (b.Size=40))).length<=(hs s AA out S t g).length*T:=by
 rw [<- H84 (S:=S) (t:=t)];have h1:((kept AA out g).flatMap (plc S t)).Nodup:=by
  refine List.pairwise_flatMap.2 ⟨fun b _=>J6f b,List.Pairwise.imp_of_mem (fun {a b} ha hb h2=>?_) (G62 h g)⟩;intro q hq r hr e;subst e;obtain⟨ma,_,_⟩:=lO.1 ha;obtain⟨mb,_,_⟩:=lO.1 hb;have ca:=h.col hk ma (hg.ab ha);have cb:=h.col hk mb (hg.ab hb);have sa:=yK ((h.bok.each a ma).size) (h.slotOk hk ma (hg.ab ha)).1;have sb:=yK ((h.bok.each b mb).size) (h.slotOk hk mb (hg.ab hb)).1;obtain⟨f1,f2,f3,f4⟩:=H6e rfl rfl ca.1 cb.1 sa sb hq hr rfl;exact h.noMeet hk ma mb (hg.ab ha) (hg.ab hb) h2 ⟨f1,by have:=ca.2.2.1; have:=cb.2.2.1; omega,f2⟩
 have h0:=h1.length_le_of_subset (l₂:=(hs s AA out S t g).flatMap (fun p=>(List.range T).map (fun t=>(p,t)))) (fun q hq=>by
  obtain⟨b,hb,hq⟩:=List.mem_flatMap.1 hq;obtain⟨q1,q2⟩:=J06 h hk hT hg hb hq;exact List.mem_flatMap.2 ⟨q.1,q1,Su.2 ⟨q.2,List.mem_range.2 q2,rfl⟩⟩)
 rw [H81,List.length_range] at h0;exact h0
theorem J5b (h:iQ s AA AJ S out) (hk:t < S.length) (hT:∀ c∈s.AB,c.Tiers<=(T:Int)) (hg:G81 t g) :
  ((kept AA out g).filter (fun b=>decide (b.Size=40))).length<=((hs s AA out S t g).length / 2)*T:=by
 have h6:2*((List.range s.AB.length).filter (fun m=>decide (2*m∈hs s AA out S t g)&&decide (2*m+1∈hs s AA out S t g))).length<=(hs s AA out S t g).length:=by
  have h3:(((List.range s.AB.length).filter (fun m=>decide (2*m∈hs s AA out S t g)&&decide (2*m+1∈hs s AA out S t g))).flatMap (fun m=>[2*m,2*m+1])).Nodup:=by
   refine List.pairwise_flatMap.2 ⟨fun m _=>by simp,(List.nodup_range.filter _).imp (fun {a b} h7=>?_)⟩;intro x hx y hy e;simp only [Sw,Se,or_false] at hx hy;omega
  have h0:=h3.length_le_of_subset (l₂:=hs s AA out S t g) (fun x hx=>by
   obtain⟨m,hm,hx⟩:=List.mem_flatMap.1 hx;have hm:=(Sx.1 hm).2;simp only [Sq,Sr] at hm;simp only [Sw,Se,or_false] at hx;rcases hx with rfl | rfl
   ·exact hm.1
   ·exact hm.2)
  have e:∀ l:AK,(l.flatMap (fun m=>[2*m,2*m+1])).length=2*l.length:=by
   intro l
   induction l with
   | nil=>rfl
   | cons x l ih=>rw [List.flatMap_cons,Sn,ih,Si]; simp; omega
  rw [e] at h0;exact h0
 have h3:(((kept AA out g).filter (fun b=>decide (b.Size=40))).map (fun b=>((sl S t b).G7.toNat,(sl S t b).AL.toNat))).Nodup:=by
  refine List.pairwise_map.2 (List.Pairwise.imp_of_mem (fun {a b} ha hb h4=>?_) ((G62 h g).filter _));obtain⟨ha,sa⟩:=Sx.1 ha;obtain⟨hb,sb⟩:=Sx.1 hb;have sa:=S6 sa;have sb:=S6 sb;obtain⟨ma,_,_⟩:=lO.1 ha;obtain⟨mb,_,_⟩:=lO.1 hb;have ca:=h.col hk ma (hg.ab ha);have cb:=h.col hk mb (hg.ab hb);have h5:=yK ((h.bok.each a ma).size) (h.slotOk hk ma (hg.ab ha)).1;intro e;have e1:=congrArg Prod.fst e;have e2:=congrArg Prod.snd e;simp only at e1 e2;refine h.noMeet hk ma mb (hg.ab ha) (hg.ab hb) h4 ⟨by omega,by omega,?_⟩;unfold pB;rcases h5 with ⟨_,z⟩ | ⟨z,_⟩
  ·exact .inr (.inl z)
  ·exact(z sa).elim
 have h0:=h3.length_le_of_subset (l₂:=((List.range s.AB.length).filter (fun m=>decide (2*m∈hs s AA out S t g)&&decide (2*m+1∈hs s AA out S t g))).flatMap (fun p=>(List.range T).map (fun t=>(p,t)))) (fun q hq=>by
  obtain⟨b,hb,rfl⟩:=Su.1 hq;obtain⟨hb,sb⟩:=Sx.1 hb;have sb:=S6 sb;obtain⟨mb,_,_⟩:=lO.1 hb;have cb:=h.col hk mb (hg.ab hb);have h1:=J06 h hk hT hg hb (q:=(2*(sl S t b).G7.toNat,(sl S t b).AL.toNat)) (by unfold plc; rw [if_pos sb]; simp);have h2:=J06 h hk hT hg hb (q:=(2*(sl S t b).G7.toNat+1,(sl S t b).AL.toNat)) (by unfold plc; rw [if_pos sb]; simp);refine List.mem_flatMap.2 ⟨(sl S t b).G7.toNat,Sx.2 ⟨List.mem_range.2 (by omega),?_⟩,Su.2 ⟨(sl S t b).AL.toNat,List.mem_range.2 h1.2,rfl⟩⟩;simp only [Sq,Sr];exact⟨h1.1,h2.1⟩)
 rw [Ss,H81,List.length_range] at h0;exact Nat.le_trans h0 (Nat.mul_le_mul_right T (by omega))
end
end Go.Proofs.YtibhpogonkdiaaaGreat
