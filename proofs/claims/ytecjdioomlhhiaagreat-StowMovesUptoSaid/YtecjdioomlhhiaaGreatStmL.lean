/-
 StowMoves: Open and Close tell the same as the reference's. The examples of the chapter. StowMoves: the law's plain mathematics.
-/
import Derived.Test.YtecjdioomlhhiaaGreatFreM
import Derived.Test.YtecjdioomlhhiaaGreatXP
set_option maxRecDepth 100000
set_option linter.unusedVariables false
namespace Go.Proofs.YtecjdioomlhhiaaGreat
open Go.RowKit

theorem R53 {α R:Type} {Q:R→Prop} {p:Int→Bool} {b:α→Nat→List Int→(List Int→Option R)→Option R} {kx:List Int→Option R} {xs:List α} (hl:xs.length≤1000)
  (hb:∀ y (i:Nat) st nx,st.length≤1000→(p (i:Int)=true→Wp (nx (st++[(i:Int)])) Q)→(p (i:Int)=false→Wp (nx st) Q)→Wp (b y i st nx) Q)
  (hk:∀ q:List Int,q.Pairwise (· < ·)→(∀ a,a∈q ↔ 0≤a∧a < (xs.length:Int)∧p a=true)→Wp (kx q) Q):Wp (each b kx xs 0 []) Q:=by
 refine Qp (fun pre q=>q.length≤pre.length∧q.Pairwise (· < ·)∧∀ a:Int,a∈q ↔ 0≤a∧a < (pre.length:Int)∧p a=true) ⟨Nat.le_refl _,List.Pairwise.nil,fun a=>⟨fun h=>(List.not_mem_nil h).elim,fun⟨h1,h2,_⟩=>by simp at h2; omega⟩⟩ (fun pre y post q nx e hI hnx=>?_) (fun q hI=>hk q hI.2.1 hI.2.2)
 obtain⟨i1,i2,i3⟩:=hI
 have hpl:pre.length < xs.length:=by rw [e]; simp
 have hsn:((pre++[y]).length:Int)=(pre.length:Int)+1:=by simp
 refine hb y _ _ nx (by omega) (fun hp=>hnx _ ⟨by simp; omega,?_,fun a=>?_⟩) (fun hp=>hnx _ ⟨by simp; omega,i2,fun a=>?_⟩)
 ·refine H5f i2 (fun a ha=>?_)
  exact((i3 a).1 ha).2.1
 ·rw [List.mem_append,List.mem_singleton,i3,hsn]
  constructor
  ·rintro(⟨a1,a2,a3⟩ | rfl)
   ·exact⟨a1,by omega,a3⟩
   ·exact⟨by omega,by omega,hp⟩
  ·rintro⟨a1,a2,a3⟩
   by_cases hq:a=(pre.length:Int)
   ·exact .inr hq
   ·exact .inl ⟨a1,by omega,a3⟩
 ·rw [i3,hsn]
  constructor
  ·rintro⟨a1,a2,a3⟩
   exact⟨a1,by omega,a3⟩
  ·rintro⟨a1,a2,a3⟩
   have:a≠(pre.length:Int):=fun hq=>by rw [hq,hp] at a3; cases a3
   exact⟨a1,by omega,a3⟩
theorem Q2f {F:Nat} {s:H0} {boxes:List Box} {l:List Stowed} {o:List Int} (h:Sta s boxes l) (hO:Gdb s o) (hC:Jf F s boxes l o=some true) {k:Nat} (hk:k < s.Covers.length) :
  Wp (R2 F s boxes l o (k:Int)) (fun r=>(¬ Q69 s l (k:Int)∧r=([],95))∨(Q69 s l (k:Int)∧r.2=0∧Gdb s r.1∧∀ a,a∈r.1 ↔ a∈o∨a=(k:Int))):=by
 have hs:=Gbf h.ship
 have hcv:=hs.covs
 unfold R2
 refine Gy hC (Hg (fun h=>by cases h) (fun _=>Hg (fun h=>?_) (fun _=>?_)))
 ·simp only [Bool.or_eq_true,decide_eq_true_eq] at h; omega
 refine Qp (fun pre _=>Q69 s pre (k:Int)) (fun y hy=>(List.not_mem_nil hy).elim) (fun pre y post u nx e hI hnx=>?_) (fun u hI=>?_)
 ·have hy:y∈l:=by rw [e]; simp
  obtain⟨m,c,hm,hc⟩:=h.colIn hy
  have hu:Z1 s y.Slot.G3 (k:Int)=some (c.Deck&&decide (Ro s c=(k:Int))):=by rw [hm]; exact R92 hc
  refine Gy hu (Hg (fun hh=>Gj (.inl ⟨fun h0=>?_,rfl⟩)) (fun hh=>hnx _ ?_))
  ·simp only [Bool.and_eq_true,decide_eq_true_eq] at hh
   exact h0 y hy m c hm hc hh.1 hh.2
  ·refine Qm (P:=fun y:Stowed=>∀ (m:Nat) (c:G3),y.Slot.G3=(m:Int)→s.Columns[m]? = some c→c.Deck=true→Ro s c≠(k:Int)) hI (fun m' c' e1 e2 e3 e4=>?_)
   have:m'=m:=by omega
   subst this
   rw [hc] at e2; cases e2
   rw [e3,decide_eq_true e4] at hh; cases hh
 ·refine R53 (p:=fun a=>decide (a=(k:Int)∨a∈o)) hcv (fun y i st nx hst ht hf=>?_) (fun q h1 h2=>Gj (.inr ⟨hI,rfl,⟨fun a ha=>?_,h1⟩,fun a=>?_⟩))
  ·refine H5b (fun j=>j=if (i:Int)=(k:Int)∨(i:Int)∈o then st++[(i:Int)] else st) (fun K hK=>?_) (fun j hj=>?_)
   ·rw [Hae]
    by_cases hc:(i:Int)=(k:Int)
    ·rw [decide_eq_true hc]
     refine H6 (Gj (Hg (fun _=>Y2 (Q50 (by omega)) (hK _ ?_)) (fun hh=>by simp at hh)))
     rw [if_pos (.inl hc)]
    ·rw [decide_eq_false hc]
     refine H6 (Gj (Hg (fun hh=>Y2 (Q50 (by omega)) (hK _ ?_)) (fun hh=>hK _ ?_)))
     ·have hh:(i:Int)∈o:=by simpa using hh
      rw [if_pos (.inr hh)]
     ·have hh:¬ (i:Int)∈o:=by simpa using hh
      rw [if_neg (fun h=>h.elim hc hh)]
   ·by_cases hc:(i:Int)=(k:Int)∨(i:Int)∈o
    ·rw [hj,if_pos hc]; exact ht (decide_eq_true hc)
    ·rw [hj,if_neg hc]; exact hf (decide_eq_false hc)
  ·have:=(h2 a).1 ha
   exact⟨this.1,this.2.1⟩
  ·rw [h2,decide_eq_true_eq]
   constructor
   ·rintro⟨_,_,a3⟩
    exact a3.elim .inr .inl
   ·rintro(a1 | rfl)
    ·have:=hO.mem a a1
     exact⟨this.1,this.2,.inr a1⟩
    ·exact⟨by omega,by omega,.inl rfl⟩
theorem Y60 {o:List Int} {k:Int} {n:Nat} (hs:o.Pairwise (· < ·)) (h3:∀ a∈o.take n,a < k) (h4:∀ a∈o.drop n,k≤a) (hf:¬ o[n]? = some k):k ∉ o:=fun hk=>by
 rw [← List.take_append_drop n o,List.mem_append] at hk
 rcases hk with hk | hk
 ·have:=h3 k hk; omega
 ·obtain⟨j,hj,e2⟩:=List.mem_iff_getElem.1 hk
  rw [List.length_drop] at hj
  rw [List.getElem_drop] at e2
  have hp:=List.pairwise_iff_getElem.1 hs
  rcases Nat.eq_zero_or_pos j with g | g
  ·subst g
   exact hf (by rw [← e2]; simp [List.getElem?_eq_getElem (show n < o.length by omega)])
  ·have g1:=hp n (n+j) (by omega) (by omega) (by omega)
   have g2:=h4 o[n] (List.mem_iff_getElem.2 ⟨0,by rw [List.length_drop]; omega,by rw [List.getElem_drop]; simp⟩)
   omega
theorem Raa {o:List Int} {k:Int} {n:Nat} (hs:o.Pairwise (· < ·)) (hn:o[n]? = some k) (a:Int):a∈o.eraseIdx n ↔ a∈o∧a≠k:=by
 have hlt:=(List.getElem?_eq_some_iff.1 hn).1
 have hg:o[n]=k:=(List.getElem?_eq_some_iff.1 hn).2
 have hsp:o=o.take n++k::o.drop (n+1):=by
  have:=List.take_append_drop n o
  rw [List.drop_eq_getElem_cons hlt,hg] at this
  exact this.symm
 have hpw:=hs
 rw [hsp,List.pairwise_append,List.pairwise_cons] at hpw
 obtain⟨p1,⟨p2,p3⟩,p4⟩:=hpw
 rw [List.eraseIdx_eq_take_drop_succ,List.mem_append]
 constructor
 ·rintro(ha | ha)
  ·have:=p4 a ha k (by simp)
   exact⟨List.mem_of_mem_take ha,by omega⟩
  ·have:=p2 a ha
   exact⟨List.mem_of_mem_drop ha,by omega⟩
 ·rintro⟨ha,hne⟩
  rw [hsp,List.mem_append,List.mem_cons] at ha
  rcases ha with ha | ha | ha
  ·exact .inl ha
  ·exact(hne ha).elim
  ·exact .inr ha
theorem Rae {o:List Int} (hl:o.length≤100):Qg o=some o:=by
 unfold Qg
 refine Hfb (fun b hb=>?_)
 cases b with
 | true=>rw [hb rfl]; rfl
 | false=>
  show need _ _=_
  unfold need
  rw [Rc5 (by simp only [List.length_nil]; omega)]
  rfl
theorem R45 {F:Nat} {s:H0} {boxes:List Box} {l:List Stowed} {o:List Int} (h:Sta s boxes l) (hO:Gdb s o) (hF:40≤F) {k:Nat} (hk:k < s.Covers.length) :
  Wp (G1c F s boxes l o (k:Int)) (fun r=>r.2=0∧r.1.Pairwise (· < ·)∧∀ a,a∈r.1 ↔ a∈o∧a≠(k:Int)):=by
 have hol:=hO.len
 have hcl:=h.ship.covs.len
 unfold G1c
 refine Gy (h.checked hO) (Hg (fun h=>by cases h) (fun _=>Hg (fun h=>?_) (fun _=>?_)))
 ·simp only [Bool.or_eq_true,decide_eq_true_eq] at h; omega
 refine H6 (wp_mono (J8a hO.sorted (by omega) (by omega)) (fun r hr=>?_))
 obtain⟨n,h1,h2,h3,h4,h5⟩:=hr
 refine Hg (fun hf=>?_) (fun hf=>?_)
 ·have hf:¬ o[n]? = some (k:Int):=fun e=>by rw [h5.2 e] at hf; cases hf
  have hno:=Y60 hO.sorted h3 h4 hf
  exact Gy (Rae (by omega)) (Gj ⟨rfl,hO.sorted,fun a=>⟨fun ha=>⟨ha,fun e=>hno (e ▸ ha)⟩,fun ha=>ha.1⟩⟩)
 ·have hn:o[n]? = some (k:Int):=h5.1 (by simpa using hf)
  have hlt:=(List.getElem?_eq_some_iff.1 hn).1
  have e:G14 o r.1=some (o.eraseIdx n):=by
   unfold G14
   rw [h1,decide_eq_true (show (0:Int)≤(n:Int) by omega),decide_eq_true (show (n:Int) < (o.length:Int) by omega),decide_eq_true (show o.length≤100000 by omega),show ((n:Int)).toNat=n by omega]
   rfl
  exact Gy e (Gj ⟨rfl,hO.sorted.sublist (List.eraseIdx_sublist o n),Raa hO.sorted hn⟩)
theorem Jf0 {F:Nat} {s:H0} {boxes:List Box} {l:List Stowed} {o:List Int} (h:Sta s boxes l) (hO:Gdb s o) (hC:Jf F s boxes l o=some true) {k:Nat} (hk:k < s.Covers.length) :
  Wp (Qv F s boxes l o (k:Int)) (fun r=>r.2=0∧r.1.Pairwise (· < ·)∧∀ a,a∈r.1 ↔ a∈o∧a≠(k:Int)):=by
 have hs:=Gbf h.ship
 unfold Qv
 refine Gy hC (Hg (fun h=>by cases h) (fun _=>Hg (fun h=>?_) (fun _=>?_)))
 ·simp only [Bool.or_eq_true,decide_eq_true_eq] at h; omega
 refine R53 (p:=fun a=>decide (a∈o∧a≠(k:Int))) hs.covs (fun y i st nx hst ht hf=>?_) (fun q h1 h2=>Gj ⟨rfl,h1,fun a=>?_⟩)
 ·refine H5b (fun j=>j=if (i:Int)∈o∧(i:Int)≠(k:Int) then st++[(i:Int)] else st) (fun K hK=>?_) (fun j hj=>?_)
  ·rw [Hae]
   by_cases hc:(i:Int)≠(k:Int)
   ·rw [decide_eq_true hc]
    refine H6 (Gj (Hg (fun hh=>Y2 (Q50 (by omega)) (hK _ ?_)) (fun hh=>hK _ ?_)))
    ·have hh:(i:Int)∈o:=by simpa using hh
     rw [if_pos ⟨hh,hc⟩]
    ·have hh:¬ (i:Int)∈o:=by simpa using hh
     rw [if_neg (fun h=>hh h.1)]
   ·rw [decide_eq_false hc]
    refine H6 (Gj (Hg (fun hh=>by simp at hh) (fun hh=>hK _ ?_)))
    rw [if_neg (fun h=>hc h.2)]
  ·by_cases hc:(i:Int)∈o∧(i:Int)≠(k:Int)
   ·rw [hj,if_pos hc]; exact ht (decide_eq_true hc)
   ·rw [hj,if_neg hc]; exact hf (decide_eq_false hc)
 ·rw [h2,decide_eq_true_eq]
  exact⟨fun hh=>hh.2.2,fun hh=>⟨(hO.mem a hh.1).1,(hO.mem a hh.1).2,hh⟩⟩
theorem R9b {F:Nat} {s:H0} {boxes:List Box} {l:List Stowed} (h:In9 s boxes l) (hF:40≤F) (o:List Int) (n:Int):∃ v,G24 F s boxes l o n=some v∧R2 F s boxes l o n=some v:=by
 obtain⟨a,h1,h2,h3⟩:=J51 (F:=F) h o
 cases a with
 | false=>exact⟨([],2),by unfold G24; rw [h1]; rfl,by unfold R2; rw [h2]; rfl⟩
 | true=>
  obtain⟨hS,hO⟩:=h3 rfl
  by_cases hn:0≤n∧n < (s.Covers.length:Int)
  ·obtain⟨k,rfl⟩:∃ k:Nat,n=(k:Int):=⟨n.toNat,by omega⟩
   obtain⟨r,g1,g2⟩:=R9a hS hO hF (k:=k) (by omega)
   obtain⟨r',g1',g2'⟩:=Q2f hS hO h2 (k:=k) (by omega)
   have e:r=r':=by
    rcases g2 with ⟨a1,a2⟩ | ⟨a1,a2,a3,a4⟩ <;> rcases g2' with ⟨b1,b2⟩ | ⟨b1,b2,b3,b4⟩
    ·rw [a2,b2]
    ·exact(a1 b1).elim
    ·exact(b1 a1).elim
    ·exact Prod.ext (Hb4 a3.sorted b3.sorted (fun x=>(a4 x).trans (b4 x).symm)) (a2.trans b2.symm)
   rw [e] at g1
   exact⟨r',g1,g1'⟩
  ·have hc:((decide (n < 0))||(decide ((s.Covers.length:Int)≤n)))=true:=by
    simp only [Bool.or_eq_true,decide_eq_true_eq]; omega
   exact⟨([],6),by unfold G24; rw [h1,hc]; rfl,by unfold R2; rw [h2,hc]; rfl⟩
theorem R46 {F:Nat} {s:H0} {boxes:List Box} {l:List Stowed} (h:In9 s boxes l) (hF:40≤F) (o:List Int) (n:Int):∃ v,G1c F s boxes l o n=some v∧Qv F s boxes l o n=some v:=by
 obtain⟨a,h1,h2,h3⟩:=J51 (F:=F) h o
 cases a with
 | false=>exact⟨([],2),by unfold G1c; rw [h1]; rfl,by unfold Qv; rw [h2]; rfl⟩
 | true=>
  obtain⟨hS,hO⟩:=h3 rfl
  by_cases hn:0≤n∧n < (s.Covers.length:Int)
  ·obtain⟨k,rfl⟩:∃ k:Nat,n=(k:Int):=⟨n.toNat,by omega⟩
   obtain⟨r,g1,a2,a3,a4⟩:=R45 hS hO hF (k:=k) (by omega)
   obtain⟨r',g1',b2,b3,b4⟩:=Jf0 hS hO h2 (k:=k) (by omega)
   have e:r=r':=Prod.ext (Hb4 a3 b3 (fun x=>(a4 x).trans (b4 x).symm)) (a2.trans b2.symm)
   rw [e] at g1
   exact⟨r',g1,g1'⟩
  ·have hc:((decide (n < 0))||(decide ((s.Covers.length:Int)≤n)))=true:=by
    simp only [Bool.or_eq_true,decide_eq_true_eq]; omega
   exact⟨([],6),by unfold G1c; rw [h1,hc]; rfl,by unfold Qv; rw [h2,hc]; rfl⟩
end Go.Proofs.YtecjdioomlhhiaaGreat
set_option maxRecDepth 100000
namespace Go.Proofs.YtecjdioomlhhiaaGreat
open Go.RowKit
theorem Y05:Ys 60=some true:=by kernel_rfl
end Go.Proofs.YtecjdioomlhhiaaGreat
set_option maxRecDepth 100000
set_option linter.unusedVariables false
namespace Go.Proofs.YtecjdioomlhhiaaGreat
open Go.RowKit

theorem Ra9 (s:H0) (boxes:List Box) (l:List Stowed) (o:List Int) (hp:∀ c∈s.Columns,c.Plugs.length≤1048576) (hb:∀ b∈boxes,0≤b.Size∧b.Size≤255):Wp (G22 s boxes l o) (fun r=>r=true→In9 s boxes l):=by
 unfold G22
 refine Hg (fun h=>Gj (fun h=>Bool.noConfusion h)) (fun h=>?_)
 simp only [Bool.or_eq_false_iff,decide_eq_false_iff_not] at h
 obtain⟨⟨⟨⟨h1,h2⟩,h3⟩,h4⟩,h5⟩:=h
 refine Qp (fun pre _=>∀ c∈pre,c.Tiers≤12) (fun c hc=>(List.not_mem_nil hc).elim) (fun pre y post u nx e hI hnx=>Hg (fun h=>Gj (fun h=>Bool.noConfusion h)) (fun h=>hnx _ (Qm (P:=fun c:G3=>c.Tiers≤12) hI ?_))) (fun u hI=>?_)
 ·simp only [Bool.or_eq_false_iff,decide_eq_false_iff_not] at h; omega
 refine Qp (fun pre _=>∀ x∈pre,x.Rows.length≤40) (fun c hc=>(List.not_mem_nil hc).elim) (fun pre y post u nx e hI2 hnx=>Hg (fun h=>Gj (fun h=>Bool.noConfusion h)) (fun h=>hnx _ (Qm (P:=fun x:G9=>x.Rows.length≤40) hI2 ?_))) (fun u hI2=>Gj (fun _=>⟨by omega,by omega,by omega,hI,hI2,hp,hb⟩))
 simp only [decide_eq_false_iff_not] at h; omega
theorem H8d (a:List Stowed):Ra a a=some true:=by
 unfold Ra
 exact Hac (fun i y nx h=>by rw [Y9 h]; simp)
theorem Qd3 {α:Type} {mk:Int→Option α} (hmk:∀ i:Nat,i < 2000000→Wp (mk (i:Int)) (fun _=>True)) {e:Ln α} (h1:e.1.length≤1048576) (h2:e.2.length=12) :
  Wp (chk (((e.1.length:Nat):Int)+12) fun v3=>
   need (decide (v3≤((e.1++e.2).length:Int))) <|
   need (decide (v3=((e.1++e.2).length:Int))) <|
   need (decide ((((e.1++e.2).length:Nat):Int)≤9223372036854775807)) <|
   upto (fun i (s:List α) nx=>bnd (mk (i:Int)) fun r=>Qq s (i:Int) fun y=>nx (s.set (i:Int).toNat r)) (fun s=>some s) (((e.1++e.2).length:Nat):Int).toNat 0 (e.1++e.2)) (fun _=>True):=by
 have hl:(e.1++e.2).length=e.1.length+12:=by rw [List.length_append,h2]
 refine Yb ⟨by omega,by omega⟩ (Y2 (decide_eq_true (by omega)) (Y2 (decide_eq_true (by omega)) (Y2 (decide_eq_true (by omega)) ?_)))
 refine Hf3 (fun _ s=>s.length=(e.1++e.2).length) rfl (fun i s nx hi hI hnx=>?_) (fun s _=>Gj trivial)
 have hi:i < (e.1++e.2).length:=by
  rw [Int.toNat_natCast] at hi; exact hi
 refine H6 (wp_mono (hmk i (by omega)) (fun r _=>G32 rfl (List.getElem?_eq_getElem (show i < s.length by omega)) (hnx _ ?_)))
 rw [List.length_set]; exact hI
theorem Y20 (i:Nat) (h:i < 2000000):Wp (Ja 2 (i:Int)) (fun _=>True):=by
 unfold Ja
 exact Yb ⟨by decide,by decide⟩ (Yb ⟨by decide,by decide⟩ (Yb ⟨by omega,by omega⟩ (Gj trivial)))
theorem R99 {e:Ln Int} (h1:e.1.length≤1048576) (h2:e.2.length=12):Wp (Zs e) (fun _=>True):=by
 unfold Zs
 exact Qd3 Y20 h1 h2
theorem Q7d {e:Ln Stowed} (h1:e.1.length≤1048576) (h2:e.2.length=12):Wp (Yf e) (fun _=>True):=by
 unfold Yf
 refine Qd3 (mk:=Jk 2) (fun i hi=>?_) h1 h2
 unfold Jk
 exact H6 (wp_mono (Y20 i hi) (fun r _=>Gj trivial))
theorem R3e {F:Nat} (hF:40≤F) (hA:Ys F=some true) (s:H0) (boxes:List Box) (l:List Stowed) (o:List Int) (x:Stowed) (n:Int) (hs:J02 s) (hb:∀ b∈boxes,0≤b.Size∧b.Size≤255) (l1:boxes.length≤1048576) (l2:l.length≤1048576) (l3:o.length≤1048576):Yd F s boxes l o x n=some true:=by
 refine G03 ?_
 unfold Yd
 refine H6 (wp_mono (Ra9 s boxes l o hs.plugs hb) (fun r4 h4=>Hg (fun _=>Gy hA (Gj rfl)) (fun h=>?_)))
 have hf:=h4 (by simpa using h)
 refine Gy (Qea hs) (Gy (Q8d l1) (Gy (Q19 l2) (Gy (H6a l3) ?_)))
 rw [Rcc]
 obtain⟨v1,t1,t2⟩:=R8a (F:=F) hf o n
 obtain⟨v2,p1,p2⟩:=Rcb hf hF o x
 obtain⟨v3,f1,f2,_⟩:=Q5e (F:=F) hf o n
 obtain⟨v4,o1,o2⟩:=R9b hf hF o n
 obtain⟨v5,c1,c2⟩:=R46 hf hF o n
 refine Gy t1 (Gy t2 (Gy p1 (Gy p2 (Gy f1 (Gy f2 ?_)))))
 have d1:decide (v1.2≠v1.2)=false:=decide_eq_false (by simp)
 have d2:decide (v2.2≠v2.2)=false:=decide_eq_false (by simp)
 have d3:decide (v3≠v3)=false:=decide_eq_false (by simp)
 have d4:decide (v4.2≠v4.2)=false:=decide_eq_false (by simp)
 have d5:decide (v5.2≠v5.2)=false:=decide_eq_false (by simp)
 rw [d1,d2,d3,Bool.or_self,Bool.or_self,cond_false]
 refine Gy o1 (Gy o2 (Gy c1 (Gy c2 ?_)))
 rw [d4,d5,Bool.or_self,Bool.not_false,cond_true,Qed hs,H76,Bool.not_true,Bool.or_self,Bool.not_false,cond_true,Q90 l1,H76,Bool.not_true,Bool.or_self,Bool.not_false,cond_true,Q1c l2,H76,Bool.not_true,Bool.or_self,Bool.not_false,cond_true,H6c l3,H76,Bool.not_true,Bool.or_self,cond_false]
 refine H6 (wp_mono (Q7d (e:=(l,marks H85)) l2 H87) (fun r43 _=>H6 (wp_mono (R99 (e:=(o,marks J29)) l3 H87) (fun r45 _=>?_))))
 rw [H8d,H76,cond_true,H8d,H76,Bool.and_self,cond_true,Ga8,H76,Bool.and_self,cond_true,Ga8,H76,Bool.and_self,cond_true,hA,H76]
 exact Gj rfl
theorem Ra1 (s:H0) (boxes:List Box) (l:List Stowed) (o:List Int) (x:Stowed) (n:Int) (hs:J02 s) (hb:∀ b∈boxes,0≤b.Size∧b.Size≤255) (l1:boxes.length≤1048576) (l2:l.length≤1048576) (l3:o.length≤1048576):Yd 60 s boxes l o x n=some true:=
 R3e (by omega) Y05 s boxes l o x n hs hb l1 l2 l3
end Go.Proofs.YtecjdioomlhhiaaGreat
