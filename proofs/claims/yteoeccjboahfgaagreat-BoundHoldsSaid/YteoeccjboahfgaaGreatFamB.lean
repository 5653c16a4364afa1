/-
 Chains,families,and what Find of chapter 27 finds.
-/
import Derived.Test.YteoeccjboahfgaaGreatFamA
import Derived.Test.YteoeccjboahfgaaGreatLawG
set_option maxRecDepth 100000
namespace Go.Proofs.YteoeccjboahfgaaGreat
open Go.RowKit

theorem deleteCounts {F:Nat} {l:List G2} {del:G2→Option Bool} {p:G2→Bool} (hd:∀ x∈l,del x=some (p x)) (hF:l.length+2≤F) (hl:l.length≤100000):Q0 F l del=some (l.filter (fun x=>!p x)):=by
 refine G4f ?_
 unfold Q0
 have hi:Q3 l del=some (H40 p l):=G82 hd
 refine H6 hi ?_
 rcases G98 p l with ⟨h1,h2,_⟩ | ⟨m,x,h1,h2,h3,h4⟩
 ·rw [h1]
  refine Hq (fun _=>Gw ?_) (fun h=>by simp at h)
  exact(List.filter_eq_self.2 (fun a ha=>by rw [h2 a ha]; rfl)).symm
 ·have hm:=(List.getElem?_eq_some_iff.1 h2).1
  rw [h1]
  refine Hq (fun h=>?_) (fun _=>?_)
  ·have:=of_decide_eq_true h; omega
  refine J1 ⟨by omega,by omega⟩ ?_
  have hfirst:∀ k,k < m→∀ y,l[k]? = some y→p y=false:=by
   intro k hk y hy
   obtain⟨_,j,hj,hjx,hbef⟩:=List.find?_eq_some_iff_getElem.1 h4
   have hidx:l.findIdx? p=some m:=by
    have h5:=h1
    unfold H40 at h5
    cases hf:l.findIdx? p with
    | none=>rw [hf] at h5; simp only at h5; omega
    | some j2=>rw [hf] at h5; simp only at h5; rw [show j2=m by omega]
   obtain⟨_,_,hb⟩:=List.findIdx?_eq_some_iff_getElem.1 hidx
   have:=hb k hk
   have hkl:=(List.getElem?_eq_some_iff.1 hy)
   obtain⟨hk2,e⟩:=hkl
   rw [e] at this
   simpa using this
  refine wp_loop (fun st=>∃ i j:Nat,st.1=(i:Int)∧st.2.1=(j:Int)∧i < j∧j≤l.length∧st.2.2.length=l.length∧st.2.2.take i=(l.take j).filter (fun x=>!p x)∧st.2.2.drop j=l.drop j) (fun st=>l.length+1 - st.2.1.toNat)
   ⟨m,m+1,rfl,rfl,by omega,by omega,rfl,?_,rfl⟩ (by show l.length+1 - ((m:Int)+1).toNat < F; omega) (fun st nx hI hnx=>?_)
  ·rw [List.take_add_one,h2,List.filter_append]
   simp only [Option.toList_some,List.filter_cons,h3,Bool.not_true,Bool.false_eq_true,if_false,List.filter_nil,List.append_nil]
   refine(List.filter_eq_self.2 (fun a ha=>?_)).symm
   obtain⟨k,hk⟩:=List.mem_iff_getElem?.1 ha
   have hkm:k < m:=by
    have:=(List.getElem?_eq_some_iff.1 hk).1
    rw [List.length_take] at this; omega
   rw [List.getElem?_take_of_lt hkm] at hk
   rw [hfirst k hkm a hk]; rfl
  ·obtain⟨a1,a2,cur⟩:=st
   obtain⟨i,j,e1,e2,hij,hjl,hcl,ht,hdr⟩:=hI
   simp only at e1 e2 hcl ht hdr ⊢
   subst e1 e2
   refine Hq (fun h=>?_) (fun h=>?_)
   ·have hj:j < l.length:=by have:=of_decide_eq_true h; omega
    have hcj:cur[j]? = some l[j]:=by
     have:(cur.drop j)[0]? = (l.drop j)[0]? := by rw [hdr]
     rw [List.getElem?_drop,List.getElem?_drop] at this
     simpa [hj] using this
    have hlj:l[j]? = some l[j]:=by simp [hj]
    refine Y6 (fun st=>∃ i':Nat,st.1=(i':Int)∧i' < j+1∧st.2.length=l.length∧st.2.take i'=(l.take (j+1)).filter (fun x=>!p x)∧st.2.drop (j+1)=l.drop (j+1)) (fun K hK=>?_) (fun st hst=>?_)
    ·refine Jq rfl hcj (H6 (hd l[j] (List.getElem_mem hj)) (Hq (fun hp=>?_) (fun hp=>hK _ ?_)))
     ·have hci:cur[i]? = some (cur[i]'(by omega)):=List.getElem?_eq_getElem (by omega)
      refine Jq rfl hci (J1 ⟨by omega,by omega⟩ (hK _ ⟨i+1,rfl,by omega,by simpa using hcl,?_,?_⟩))
      ·simp only [Int.toNat_natCast]
       rw [List.take_add_one,List.take_set_of_le (Nat.le_refl _),ht,List.take_add_one,hlj,List.filter_append]
       have:(cur.set i l[j])[i]? = some l[j]:=by rw [List.getElem?_set_self (by omega)]
       rw [this]
       simp [hp]
      ·simp only [Int.toNat_natCast]
       rw [List.drop_set_of_lt (by omega)]
       have:=congrArg (List.drop 1) hdr
       rw [List.drop_drop,List.drop_drop] at this
       exact this
     ·refine⟨i,rfl,by omega,hcl,?_,?_⟩
      ·rw [ht,List.take_add_one,hlj,List.filter_append]
       simp [hp]
      ·have:=congrArg (List.drop 1) hdr
       rw [List.drop_drop,List.drop_drop] at this
       exact this
    ·obtain⟨i',g1,g2,g3,g4,g5⟩:=hst
     refine J1 ⟨by omega,by omega⟩ (hnx _ ⟨i',j+1,g1,by simp,g2,by omega,g3,g4,g5⟩ ?_)
     simp only
     omega
   ·have hj:j=l.length:=by have:=of_decide_eq_false h; omega
    subst hj
    have hbl:(blank cur i (cur.length - i) (G2.mk (Ga.mk 0 0) 0 0)).length=cur.length:=by
     unfold blank
     simp only [List.length_append,List.length_take,List.length_replicate,List.length_drop]
     omega
    refine Hd (G3a rfl (by omega) (Hd (G3a rfl (by rw [hbl]; omega) (Gw ?_))))
    unfold blank
    rw [List.append_assoc,List.take_left' (by rw [List.length_take]; omega),ht,List.take_length]

/-- One group loads and discharges before another one. -/
def Before (a b:G2):Prop:=a.Ga.Load < b.Ga.Load∧a.Ga.Discharge < b.Ga.Discharge
theorem natOf_ok (n:Nat):H4f (n:Int)=some n:=by
 unfold H4f
 rw [decide_eq_true (by omega),cond_true]
 congr 1

def NextOk (on:List G2) (j:Nat) (y:Int):Prop:=y = -1∨∃ k:Nat,y=(k:Int)∧j < k∧k < on.length∧∀ a b,on[j]? = some a→on[k]? = some b→Before a b
/-- What the two rows of a chain's search bear, behind i. -/
structure Rows (on:List G2) (i:Int) (sum next:List Int):Prop where
 len1:sum.length=on.length
 len2:next.length=on.length
 sums:∀ j:Nat,j < on.length→∃ v,sum[j]? = some v∧0≤v∧v≤30*((on.length:Int) - j)∧((j:Int)≤i→v=0)
 nexts:∀ j:Nat,i < (j:Int)→j < on.length→∃ y,next[j]? = some y∧NextOk on j y
/-- The same while i is searched. -/
structure RowsAt (on:List G2) (i:Nat) (sum next:List Int):Prop where
 len1:sum.length=on.length
 len2:next.length=on.length
 sums:∀ j:Nat,j < on.length→∃ v,sum[j]? = some v∧0≤v∧v≤30*((on.length:Int) - j)∧(j < i→v=0)∧(j=i→v≤30*((on.length:Int) - j - 1))
 nexts:∀ j:Nat,i≤j→j < on.length→∃ y,next[j]? = some y∧NextOk on j y

theorem J3f {l:List Int} {i:Nat} {v:Int} (hi:i < l.length) (j:Nat):(l.set (i:Int).toNat v)[j]? = if j=i then some v else l[j]? := by
 rw [show ((i:Int)).toNat=i by omega,List.getElem?_set]
 by_cases e:j=i
 ·subst e; rw [if_pos rfl,if_pos hi,if_pos rfl]
 ·rw [if_neg (Ne.symm e),if_neg e]
theorem places_eq {c:G2} (hc:G19 c):G3f c=some (2*c.Whole+c.Half):=by
 obtain⟨⟨w1,w2⟩,⟨v1,v2⟩⟩:=hc
 refine G4f ?_
 unfold G3f
 exact J1 ⟨by omega,by omega⟩ (J1 ⟨by omega,by omega⟩ (Gw rfl))

theorem chain_spec {F:Nat} {counts:List G2} {call:Int} (hc:∀ c∈counts,G19 c) (hl:counts.length≤10) (hF:60≤F) :
  Wp (G14 F counts call) (fun l=>(∀ c∈l,c∈counts∧c.Ga.Load≤call∧call < c.Ga.Discharge)∧l.Pairwise Before):=by
 unfold G14
 refine J6 (fun pre on=>on.length≤pre.length∧∀ c∈on,c∈counts∧c.Ga.Load≤call∧call < c.Ga.Discharge) ⟨Nat.le_refl _,fun c h=>(List.not_mem_nil h).elim⟩ (fun pre y post on nx e hI hnx=>?_) (fun on hI=>?_)
 ·have hp:pre.length < 10:=by rw [e] at hl; simp only [List.length_append,List.length_cons] at hl; omega
  refine Y6 (fun j=>j.length≤(pre++[y]).length∧∀ c∈j,c∈counts∧c.Ga.Load≤call∧call < c.Ga.Discharge) (fun K hK=>Hq (fun h=>?_) (fun _=>hK _ ⟨by simp only [List.length_append,List.length_singleton]; omega,hI.2⟩)) (fun j hj=>hnx _ hj)
  simp only [Bool.and_eq_true,decide_eq_true_eq] at h
  refine Q1 (Ro (by rw [List.length_singleton]; omega) (by omega)) (hK _ ⟨by simp only [List.length_append,List.length_singleton]; omega,fun c hcm=>?_⟩)
  rcases List.mem_append.1 hcm with hcm | hcm
  ·exact hI.2 c hcm
  ·rw [List.mem_singleton.1 hcm]; exact⟨by rw [e]; simp,h.1,h.2⟩
 obtain⟨hlen,hon⟩:=hI
 have hn:on.length≤10:=by omega
 refine H6 (natOf_ok on.length) (Q1 (decide_eq_true (by simp only [maxLen]; omega)) (H6 (natOf_ok on.length) (Q1 (decide_eq_true (by simp only [maxLen]; omega)) (J1 ⟨by omega,by omega⟩ ?_))))
 refine wp_loop (fun s:Int×Int×List Int×List Int => -1≤s.2.1∧s.2.1 < (on.length:Int)∧Rows on s.2.1 s.2.2.1 s.2.2.2∧(s.1 = -1∨∃ f:Nat,s.1=(f:Int)∧s.2.1 < (f:Int)∧f < on.length)) (fun s=>(s.2.1+1).toNat)
  ⟨by show (-1:Int)≤(on.length:Int) - 1; omega,by show (on.length:Int) - 1 < _; omega,⟨by simp,by simp,fun j hj=>⟨0,by rw [List.getElem?_replicate,if_pos hj],Int.le_refl _,by omega,fun _=>rfl⟩,fun j h1 h2=>by simp only at h1; omega⟩,.inl rfl⟩
  (by show ((on.length:Int) - 1+1).toNat < F; omega) (fun s nx hI hnx=>?_)
 obtain⟨first,i0,sum,next⟩:=s
 obtain⟨i1,i2,hR,hfirst⟩:=hI
 simp only at i1 i2 hR hfirst ⊢
 refine Hq (fun hi=>?_) (fun hi=>?_)
 ·obtain⟨i,rfl⟩:∃ i:Nat,i0=(i:Int):=⟨i0.toNat,by have:=of_decide_eq_true hi; omega⟩
  have hin:i < on.length:=by omega
  obtain⟨ci,hci⟩:∃ ci,on[i]? = some ci:=⟨on[i],List.getElem?_eq_getElem hin⟩
  have hl1:=hR.len1
  have hl2:=hR.len2
  refine Y6 (fun j=>Rows on ((i:Int) - 1) j.2.1 j.2.2∧(j.1 = -1∨∃ f:Nat,j.1=(f:Int)∧(i:Int) - 1 < (f:Int)∧f < on.length)) (fun K hK=>?_)
   (fun j hj=>J1 ⟨by omega,by omega⟩ (hnx _ ⟨by simp only; omega,by simp only; omega,hj.1,hj.2⟩ (by simp only; omega)))
  have hy40:next[i]? = some (next[i]'(by omega)):=List.getElem?_eq_getElem (by omega)
  refine Jq rfl hy40 (J1 ⟨by omega,by omega⟩ ?_)
  refine wp_loop (fun t:Int×List Int×List Int=>(i:Int)≤t.1∧t.1 < (on.length:Int)∧RowsAt on i t.2.1 t.2.2) (fun t=>(t.1 - i).toNat)
   ⟨by show (i:Int)≤(on.length:Int) - 1; omega,by show (on.length:Int) - 1 < _; omega,⟨hl1,by show (next.set (i:Int).toNat (-1)).length=_; rw [List.length_set]; exact hl2,fun j hj=>?_,fun j h1 h2=>?_⟩⟩ (by show ((on.length:Int) - 1 - i).toNat < F; omega) (fun t nx2 hJ hnx2=>?_)
  ·obtain⟨v,g1,g2,g3,g4⟩:=hR.sums j hj
   exact⟨v,g1,g2,g3,fun h=>g4 (by omega),fun h=>by have:=g4 (by omega); omega⟩
  ·show ∃ y,(next.set (i:Int).toNat (-1))[j]? = some y∧NextOk on j y
   rw [J3f (by omega)]
   by_cases e:j=i
   ·rw [if_pos e]; exact⟨-1,rfl,.inl rfl⟩
   ·rw [if_neg e]; exact hR.nexts j (by omega) h2
  obtain⟨k0,sm,nt⟩:=t
  obtain⟨j1,j2,hA⟩:=hJ
  simp only at j1 j2 hA ⊢
  have hm1:=hA.len1
  have hm2:=hA.len2
  obtain⟨vi,hvi,vi1,vi2,_,vi4⟩:=hA.sums i hin
  have vi4:=vi4 rfl
  obtain⟨yi,hyi,_⟩:=hA.nexts i (Nat.le_refl _) hin
  refine Hq (fun hk=>?_) (fun hk=>?_)
  ·obtain⟨k,rfl⟩:∃ k:Nat,k0=(k:Int):=⟨k0.toNat,by omega⟩
   have hik:i < k:=by have:=of_decide_eq_true hk; omega
   have hkn:k < on.length:=by omega
   obtain⟨ck,hck⟩:∃ ck,on[k]? = some ck:=⟨on[k],List.getElem?_eq_getElem hkn⟩
   obtain⟨vk,hvk,vk1,vk2,_⟩:=hA.sums k hkn
   refine Y6 (fun j=>RowsAt on i j.1 j.2) (fun K' hK'=>?_) (fun j hj=>J1 ⟨by omega,by omega⟩ (hnx2 _ ⟨by simp only; omega,by simp only; omega,hj⟩ (by simp only; omega)))
   refine Jq rfl hck (Jq rfl hci ?_)
   by_cases h1:ci.Ga.Load < ck.Ga.Load
   ·rw [decide_eq_true h1]
    simp only [cond_true,Bool.true_and]
    refine Hd (Jq rfl hck (Gw (Hd (Jq rfl hci (Gw ?_)))))
    by_cases h2:ci.Ga.Discharge < ck.Ga.Discharge
    ·rw [decide_eq_true h2]
     simp only [cond_true,Bool.true_and]
     refine Hd (Jq rfl hvk (Gw (Hd (Jq rfl hvi (Gw (Hq (fun _=>Jq rfl hvk (Jq rfl hvi (Jq rfl hyi (hK' _ ?_)))) (fun _=>hK' _ hA)))))))
     refine⟨by rw [List.length_set]; exact hm1,by rw [List.length_set]; exact hm2,fun j hj=>?_,fun j g1 g2=>?_⟩
     ·simp only
      rw [J3f (by omega)]
      by_cases e:j=i
      ·rw [if_pos e]; exact⟨vk,rfl,vk1,by omega,fun _=>by omega,fun _=>by omega⟩
      ·rw [if_neg e]; exact hA.sums j hj
     ·simp only
      rw [J3f (by omega)]
      by_cases e:j=i
      ·rw [if_pos e]
       refine⟨_,rfl,.inr ⟨k,rfl,by omega,hkn,fun a b ha hb=>?_⟩⟩
       subst e
       rw [hci] at ha; cases ha
       rw [hck] at hb; cases hb
       exact⟨h1,h2⟩
      ·rw [if_neg e]; exact hA.nexts j g1 g2
    ·rw [decide_eq_false h2]
     simp only [cond_false,Bool.false_and]
     exact Hd (Gw (Hd (Gw (hK' _ hA))))
   ·rw [decide_eq_false h1]
    simp only [cond_false,Bool.false_and]
    exact Hd (Gw (Hd (Gw (Hd (Gw (Hd (Gw (hK' _ hA))))))))
  ·have hpl:=places_eq (hc ci (hon ci (List.mem_of_getElem? hci)).1)
   obtain⟨⟨w1,w2⟩,⟨z1,z2⟩⟩:=hc ci (hon ci (List.mem_of_getElem? hci)).1
   have hR':Rows on ((i:Int) - 1) (sm.set (i:Int).toNat (vi+(2*ci.Whole+ci.Half))) nt:=by
    refine⟨by rw [List.length_set]; exact hm1,hm2,fun j hj=>?_,fun j g1 g2=>hA.nexts j (by omega) g2⟩
    rw [J3f (by omega)]
    by_cases e:j=i
    ·rw [if_pos e]; exact⟨_,rfl,by omega,by omega,fun h=>by omega⟩
    ·rw [if_neg e]
     obtain⟨v,g1,g2,g3,g4,_⟩:=hA.sums j hj
     exact⟨v,g1,g2,g3,fun h=>g4 (by omega)⟩
   refine Jq rfl hvi (Jq rfl hci (H6 hpl (J1 ⟨by omega,by omega⟩ (Jq rfl hvi ?_))))
   have hget:∀ j:Nat,j < on.length→∃ v,(sm.set (i:Int).toNat (vi+(2*ci.Whole+ci.Half)))[j]? = some v:=fun j hj=>by
    obtain⟨v,g,_⟩:=hR'.sums j hj
    exact⟨v,g⟩
   rcases hfirst with rfl | ⟨f,rfl,f1,f2⟩
   ·exact Hd (Gw (Hd (Gw (hK _ ⟨hR',.inr ⟨i,rfl,by omega,hin⟩⟩))))
   ·obtain⟨a1,ha1⟩:=hget i hin
    obtain⟨a2,ha2⟩:=hget f f2
    rw [decide_eq_false (show ¬ (f:Int) < 0 by omega)]
    simp only [Bool.not_false,cond_true,Bool.false_or]
    exact Hd (Jq rfl ha1 (Gw (Hd (Jq rfl ha2 (Gw (Hq (fun _=>hK _ ⟨hR',.inr ⟨i,rfl,by omega,hin⟩⟩) (fun _=>hK _ ⟨hR',.inr ⟨f,rfl,by omega,f2⟩⟩)))))))
 ·have hi0:i0 = -1:=by have:=of_decide_eq_false hi; omega
  subst hi0
  refine wp_loop (fun t:List G2×Int=>(∀ c∈t.1,c∈on)∧t.1.Pairwise Before∧((t.2 = -1∧t.1.length≤on.length)∨∃ j:Nat,t.2=(j:Int)∧j < on.length∧t.1.length≤j∧∀ b,on[j]? = some b→∀ a∈t.1,Before a b))
   (fun t=>if t.2 < 0 then 0 else ((on.length:Int) - t.2).toNat) ⟨fun c h=>(List.not_mem_nil h).elim,List.Pairwise.nil,?_⟩ (by simp only; split <;> omega) (fun t nx2 hJ hnx2=>?_)
  ·rcases hfirst with rfl | ⟨f,rfl,_,f2⟩
   ·exact .inl ⟨rfl,Nat.zero_le _⟩
   ·exact .inr ⟨f,rfl,f2,Nat.zero_le _,fun b _ a h=>(List.not_mem_nil h).elim⟩
  obtain⟨l,i⟩:=t
  obtain⟨j1,j2,j3⟩:=hJ
  simp only at j1 j2 j3 ⊢
  rcases j3 with ⟨rfl,_⟩ | ⟨j,rfl,hj,hlj,hb⟩
  ·exact Hq (fun h=>absurd (of_decide_eq_true h) (by omega)) (fun _=>Gw ⟨fun c hcm=>hon c (j1 c hcm),j2⟩)
  ·refine Hq (fun _=>?_) (fun h=>absurd (of_decide_eq_false h) (by omega))
   obtain⟨cj,hcj⟩:∃ cj,on[j]? = some cj:=⟨on[j],List.getElem?_eq_getElem hj⟩
   obtain⟨y,hy,hny⟩:=hR.nexts j (by omega) hj
   have hbj:=hb cj hcj
   refine Jq rfl hcj (Q1 (Ro (by rw [List.length_singleton]; omega) (by omega)) (Jq rfl hy (hnx2 _ ⟨fun c hcm=>?_,Ga3 j2 hbj,?_⟩ ?_)))
   ·rcases List.mem_append.1 hcm with hcm | hcm
    ·exact j1 c hcm
    ·rw [List.mem_singleton.1 hcm]; exact List.mem_of_getElem? hcj
   ·rcases hny with rfl | ⟨k,rfl,k1,k2,k3⟩
    ·exact .inl ⟨rfl,by simp only [List.length_append,List.length_singleton]; omega⟩
    ·refine .inr ⟨k,rfl,k2,by simp only [List.length_append,List.length_singleton]; omega,fun b hbk a ha=>?_⟩
     have hcb:=k3 cj b hcj hbk
     rcases List.mem_append.1 ha with ha | ha
     ·have:=hbj a ha
      exact⟨Int.lt_trans this.1 hcb.1,Int.lt_trans this.2 hcb.2⟩
     ·rw [List.mem_singleton.1 ha]; exact hcb
   ·simp only
    rcases hny with rfl | ⟨k,rfl,k1,k2,k3⟩
    ·rw [if_pos (by omega),if_neg (by omega)]; omega
    ·rw [if_neg (by omega),if_neg (by omega)]; omega

theorem greatest_spec {all:List (List G2)} {num:List G2→Option Int} (hv:∀ x∈all,Wp (num x) (fun _=>True)) :
  Wp (R0 all num) (fun r=>r.2=0∨(0 < r.2∧r.1∈all∧num r.1=some r.2)):=by
 unfold R0
 refine J6 (fun _ s=>s.2=0∨(0 < s.2∧s.1∈all∧num s.1=some s.2)) (.inl rfl) (fun pre y post s nx e hI hnx=>?_) (fun s hI=>Gw hI)
 have hy:y∈all:=by rw [e]; simp
 refine Y6 (fun s=>s.2=0∨(0 < s.2∧s.1∈all∧num s.1=some s.2)) (fun K hK=>?_) (fun j hj=>hnx _ hj)
 obtain⟨v,ev,_⟩:=hv y hy
 refine H6 ev (Hq (fun h=>hK _ (.inr ⟨?_,hy,ev⟩)) (fun _=>hK _ hI))
 have:=of_decide_eq_true h
 show 0 < v
 rcases hI with h1 | ⟨h1,_⟩ <;> omega

def G8f (a b:Ga):Prop:=a.Load < b.Load∧b.Load < a.Discharge∧a.Discharge < b.Discharge
theorem cross_eq (a b:Ga):∃ r,Zi a b=some r∧(r=true ↔ G8f a b):=by
 refine⟨_,rfl,?_⟩
 unfold G8f
 simp only [Bool.and_eq_true,decide_eq_true_eq,and_assoc]
theorem containsG (l:List Ga) (v:Ga):R8 l v=some (l.any (fun y=>decide (v=y))):=by
 unfold R8
 have h:Ry l v=some (H40 (fun y=>decide (v=y)) l):=by
  unfold Ry
  exact G82 (f:=fun y=>some (decide (v=y))) (fun x _=>rfl)
 rw [h,G3c,H00]

theorem family_spec {g0 l:List G2} (hu:∀ a∈g0,∀ b∈g0,a.Ga=b.Ga→a=b) (hs:∀ c∈l,c∈g0) (hx:(l.map (·.Ga)).Pairwise G8f) (hl:l.length≤20):Zs g0 (l.map (·.Ga))=some (l,0):=by
 refine G4f ?_
 unfold Zs
 refine J6 (fun pre st=>∃ l2,l=st++l2∧pre=st.map (·.Ga)) ⟨l,rfl,rfl⟩ (fun pre y post st nx e hI hnx=>?_) (fun st hI=>Gw ?_)
 ·obtain⟨l2,h1,h2⟩:=hI
  have hml:l.map (·.Ga)=pre++y::post:=e
  rw [h1,List.map_append,← h2,List.append_cancel_left_eq] at hml
  obtain⟨c,l3,hl2,hcg,hpo⟩:=List.map_eq_cons_iff.1 hml
  subst hl2
  have hcm:c∈l:=by rw [h1]; simp
  have hidx:Q3 g0 (fun z0=>G1d z0 y)=some (H40 (fun z:G2=>decide (z.Ga=y)) g0):=G82 (fun x _=>rfl)
  have hplen:pre.length=st.length:=by rw [h2,List.length_map]
  have hll:(l.map (·.Ga)).length=st.length+1+l3.length:=by rw [h1]; simp; omega
  have hstl:st.length+1+l3.length≤20:=by rw [← hll,List.length_map]; exact hl
  rcases G98 (fun z:G2=>decide (z.Ga=y)) g0 with ⟨_,h,_⟩ | ⟨m,c',e1,e2,e3,_⟩
  ·have:=h c (hs c hcm)
   rw [decide_eq_true hcg] at this; cases this
  have hcc:c'=c:=hu c' (List.mem_of_getElem? e2) c (hs c hcm) ((of_decide_eq_true e3).trans hcg.symm)
  subst hcc
  refine H6 hidx ?_
  have hnn:decide ((m:Int) < 0)=false:=decide_eq_false (by omega)
  rw [e1,hnn]
  refine Hd (Hq (fun _=>J1 ⟨by omega,by omega⟩ (Gw (Hd (Hq (fun _=>G3a (m:=pre.length+1) (by omega) (by omega) ?_) (fun h=>by cases h))))) (fun h=>by cases h))
  have hdrop:(l.map (·.Ga)).drop (pre.length+1)=post:=by rw [e]; simp
  rw [hdrop]
  have hcon:Qf post (fun z0=>Yp z0 y)=some false:=by
   unfold Qf
   have hi2:Y2 post (fun z0=>Yp z0 y)=some (H40 (fun _=>false) post):=G82 (fun z hz=>by
    obtain⟨r,er,hr⟩:=cross_eq y z
    unfold Yp
    rw [er,G3c]
    have hc:G8f y z:=by
     rw [e] at hx
     exact(List.pairwise_cons.1 (List.pairwise_append.1 hx).2.1).1 z hz
    rw [hr.2 hc]
    rfl)
   rw [hi2,G3c,H00]
   simp
  refine Hd (Hq (fun _=>⟨false,hcon,?_⟩) (fun h=>by cases h))
  refine(Hq (fun h=>by cases h) (fun _=>Jq rfl e2 (Q1 (Ro (by rw [List.length_singleton]; omega) (by omega)) (hnx _ ⟨l3,by rw [h1]; simp,by rw [h2,List.map_append,← hcg]; rfl⟩))))
 ·obtain⟨l2,h1,h2⟩:=hI
  have:l2=[]:=by
   have h3:=congrArg List.length h2
   rw [List.length_map,List.length_map,h1,List.length_append] at h3
   exact List.eq_nil_of_length_eq_zero (by omega)
  rw [this,List.append_nil] at h1
  rw [h1]

/-- A family that Find found, with its bound. -/
structure Fam (F:Nat) (s:Hc) (g0:List G2) (f:List G2×Int):Prop where
 sub:∀ c∈f.1,c∈g0
 cross:(f.1.map (·.Ga)).Pairwise G8f
 len:f.1.length≤10
 val:Qw F s f.1=some f.2
 pos:0 < f.2∧f.2≤400
def Qs (fs:List (List G2×Int)):List (List Ga):=fs.map (fun f=>f.1.map (·.Ga))
structure Found (F:Nat) (s:Hc) (g0:List G2) (fs:List (List G2×Int)) (sum:Int):Prop where
 each:∀ f∈fs,Fam F s g0 f
 sum_eq:sum=(fs.map (·.2)).sum
 nodup:(Qs fs).flatten.Nodup
 small:0≤sum∧sum≤400*(fs.length:Int)

theorem findF_spec {F:Nat} {s:Hc} {boxes:List Gr} {g0:List G2} (hr:Y5 s boxes=some true) (hg:Jo boxes=some g0) (hc:∀ c∈g0,G19 c) (hl:g0.length≤10)
  (hb:∀ l:List G2,(∀ c∈l,G19 c)→l.length≤20→Wp (Qw F s l) (fun v=>0≤v∧v≤400∧(l=[]→v=0))) (hF:60≤F) :
  Wp (G46 F s boxes) (fun r=>r.2.2=0∧∃ fs,r.1=Qs fs∧Found F s g0 fs r.2.1∧fs.length≤10):=by
 unfold G46
 refine H6 hr (Hq (fun h=>by cases h) (fun _=>H6 hg ?_))
 refine wp_loop (fun st:List (List Ga)×Int×List G2=>∃ fs,st.1=Qs fs∧Found F s g0 fs st.2.1∧fs.length+st.2.2.length≤g0.length∧∀ c∈st.2.2,c∈g0∧c.Ga ∉ (Qs fs).flatten) (fun st=>st.2.2.length)
  ⟨[],rfl,⟨fun f h=>(List.not_mem_nil h).elim,rfl,List.nodup_nil,⟨Int.le_refl _,by simp⟩⟩,by simp,fun c h=>⟨h,by simp [Qs]⟩⟩ (by simp only; omega) (fun st nx hI hnx=>?_)
 obtain⟨fams,sum,ck⟩:=st
 obtain⟨fs,rfl,hfound,hcount,hck⟩:=hI
 simp only at hfound hcount hck ⊢
 have hckok:∀ c∈ck,G19 c:=fun c h=>hc c (hck c h).1
 have hckl:ck.length≤10:=by omega
 refine Q1 (decide_eq_true (by decide)) ?_
 refine H7b (fun i s24=>s24.length=i∧∀ x∈s24,∃ k:Int,(∀ c∈x,c∈ck∧c.Ga.Load≤k∧k < c.Ga.Discharge)∧x.Pairwise Before) ⟨rfl,fun x h=>(List.not_mem_nil h).elim⟩ (fun i s24 nx2 hi hI hnx2=>?_) (fun s24 hI=>?_)
 ·have hi20:i < 20:=hi
  refine Hd (wp_mono (chain_spec hckok hckl hF) (fun r29 h29=>Q1 (Ro (by rw [List.length_singleton]; omega) (by omega)) (hnx2 _ ⟨by rw [List.length_append,List.length_singleton,hI.1],fun x hx=>?_⟩)))
  rcases List.mem_append.1 hx with hx | hx
  ·exact hI.2 x hx
  ·rw [List.mem_singleton.1 hx]; exact⟨_,h29.1,h29.2⟩
 have hchain:∀ x∈s24,(∀ c∈x,c∈ck)∧(x.map (·.Ga)).Pairwise G8f∧x.length≤10∧(x.map (·.Ga)).Nodup:=fun x hx=>by
  obtain⟨k,h1,h2⟩:=hI.2 x hx
  have hnd:x.Nodup:=h2.imp (fun {a b} h e=>by rw [e] at h; exact absurd h.1 (by omega))
  refine⟨fun c hcm=>(h1 c hcm).1,List.pairwise_map.2 (List.Pairwise.imp_of_mem (fun {a b} ha hb' hab=>?_) h2),?_,List.pairwise_map.2 (h2.imp (fun {a b} h e=>by have:=h.1; rw [e] at this; omega))⟩
  ·have:=h1 a ha
   have:=h1 b hb'
   exact⟨hab.1,by omega,hab.2⟩
  ·have:=hnd.length_le_of_subset (fun c hcm=>(h1 c hcm).1)
   omega
 have hnum:∀ x∈s24,Wp (Qw F s x) (fun v=>0≤v∧v≤400∧(x=[]→v=0)):=fun x hx=>hb x (fun c hcm=>hckok c ((hchain x hx).1 c hcm)) (by have:=(hchain x hx).2.2.1; omega)
 refine Hd (wp_mono (greatest_spec (num:=fun z0=>Zt F z0 s) (fun x hx=>by
  obtain⟨v,ev,_⟩:=hnum x hx
  exact⟨v,by unfold Zt; rw [ev]; rfl,trivial⟩)) (fun r32 h32=>?_))
 refine Hq (fun h=>Gw ⟨rfl,fs,rfl,hfound,by omega⟩) (fun h=>?_)
 have hne:=of_decide_eq_false h
 rcases h32 with h32 | ⟨hpos,hmem,hval⟩
 ·exact(hne h32).elim
 obtain⟨best,n⟩:=r32
 simp only at hpos hmem hval hne ⊢
 obtain⟨v,ev,v1,v2,v3⟩:=hnum best hmem
 have hvn:v=n:=by
  unfold Zt at hval
  rw [ev] at hval
  exact Option.some.inj hval
 subst hvn
 obtain⟨g1,g2,g3,g4⟩:=hchain best hmem
 have hfl:fs.length≤10:=by omega
 refine J6 (fun pre s63=>s63=pre.map (·.Ga)) rfl (fun pre y post s63 nx3 e hJ hnx3=>?_) (fun s63 hJ=>?_)
 ·have hp:pre.length < 10:=by rw [e] at g3; simp only [List.length_append,List.length_cons] at g3; omega
  refine Q1 (Ro (by rw [hJ,List.length_map,List.length_singleton]; omega) (by omega)) (hnx3 _ (by rw [hJ,List.map_append]; rfl))
 subst hJ
 have hs2:=hfound.small
 refine Q1 (Ro (by unfold Qs; rw [List.length_map,List.length_singleton]; omega) (by omega)) (J1 ⟨by omega,by omega⟩ ?_)
 have hdel:Q0 F ck (fun z0=>G1e z0 (best.map (·.Ga)))=some (ck.filter (fun c=>!((best.map (·.Ga)).any (fun y=>decide (c.Ga=y))))):=
  deleteCounts (fun c _=>by unfold G1e; rw [containsG]; rfl) (by omega) (by omega)
 refine H6 hdel ?_
 have hbne:best≠[]:=fun e0=>by have:=v3 e0; omega
 obtain⟨c0,hc0⟩:=List.exists_mem_of_ne_nil best hbne
 have hlt:(ck.filter (fun c=>!((best.map (·.Ga)).any (fun y=>decide (c.Ga=y))))).length < ck.length:=by
  refine List.length_filter_lt_length_iff_exists.2 ⟨c0,g1 c0 hc0,?_⟩
  have:(best.map (·.Ga)).any (fun y=>decide (c0.Ga=y))=true:=List.any_eq_true.2 ⟨c0.Ga,List.mem_map.2 ⟨c0,hc0,rfl⟩,decide_eq_true rfl⟩
  rw [this]
  exact Bool.false_ne_true
 have hgo:Qs (fs++[(best,v)])=Qs fs++[best.map (·.Ga)]:=by unfold Qs; simp
 have hflat:(Qs (fs++[(best,v)])).flatten=(Qs fs).flatten++best.map (·.Ga):=by rw [hgo]; simp
 refine hnx _ ⟨fs++[(best,v)],hgo.symm,⟨fun f hf=>?_,?_,?_,?_⟩,?_,fun c hcm=>?_⟩ hlt
 ·rcases List.mem_append.1 hf with hf | hf
  ·exact hfound.each f hf
  ·rw [List.mem_singleton.1 hf]; exact⟨fun c h=>(hck c (g1 c h)).1,g2,g3,ev,hpos,v2⟩
 ·rw [hfound.sum_eq,List.map_append,List.sum_append]; simp
 ·rw [hflat]
  refine List.nodup_append.2 ⟨hfound.nodup,g4,fun a ha b hb' e0=>?_⟩
  subst e0
  obtain⟨c,hcm,rfl⟩:=List.mem_map.1 hb'
  exact(hck c (g1 c hcm)).2 ha
 ·simp only [List.length_append,List.length_singleton]; omega
 ·simp only [List.length_append,List.length_singleton]; omega
 ·obtain⟨h1,h2⟩:=List.mem_filter.1 hcm
  refine⟨(hck c h1).1,?_⟩
  rw [hflat]
  intro hin
  rcases List.mem_append.1 hin with hin | hin
  ·exact(hck c h1).2 hin
  ·have:(best.map (·.Ga)).any (fun y=>decide (c.Ga=y))=true:=List.any_eq_true.2 ⟨c.Ga,hin,decide_eq_true rfl⟩
   rw [this] at h2; cases h2
end Go.Proofs.YteoeccjboahfgaaGreat
