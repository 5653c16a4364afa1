/-
 Which boxes are lifted: what the reference says.
-/
import Derived.Test.YteogacmpgdpjlaaGreatRefT
set_option maxRecDepth 100000
set_option linter.unusedVariables false
namespace Go.Proofs.YteogacmpgdpjlaaGreat
open Go.RowKit

theorem wp_loop {β σ:Type} {Q:β→Prop} (I:σ→Prop) (μ:σ→Nat) {b:(σ→Option β)→σ→Option β} {F:Nat} {s:σ} (h0:I s) (hF:μ s < F)
  (hb:∀ s nx,I s→(∀ s',I s'→μ s' < μ s→Wp (nx s') Q)→Wp (b nx s) Q):Wp (loop b F s) Q:=by
 induction F generalizing s with
 | zero=>omega
 | succ F ih=>
  rw [loop]
  exact hb s _ h0 (fun s' h1 h2=>ih h1 (by omega))
theorem ref_at (l:List G6) (id:Int):Jv l id=some (J14 (fun x:G6=>decide (x.H2=id)) l):=by
 unfold Jv
 exact J18 (f:=fun x:G6=>some (decide (x.H2=id))) (fun x _=>rfl)
/-- A box is in a state, or not. -/
theorem Gc6 (st:List G6) (id:Int):(Jv st id=some (-1)∧Qz st id=(⟨0,0,0⟩,false))∨∃ (m:Nat) (x:G6),Jv st id=some (m:Int)∧st[m]? = some x∧x.H2=id∧Qz st id=(x.Slot,true):=by
 rw [ref_at]
 unfold Qz Q42
 rcases H60 (fun x:G6=>decide (x.H2=id)) st with ⟨h1,_,h3⟩ | ⟨m,x,h1,h2,h3,h4⟩
 ·rw [h1,h3]; exact .inl ⟨rfl,rfl⟩
 ·rw [h1,h4]; exact .inr ⟨m,x,rfl,h2,of_decide_eq_true h3,rfl⟩
theorem findP_of {st:List G6} (hs:st.Pairwise (fun a b=>a.H2 < b.H2)) {y:G6} (hy:y∈st):Qz st y.H2=(y.Slot,true):=by
 rcases Gc6 st y.H2 with ⟨_,h⟩ | ⟨m,x,_,h1,h2,h3⟩
 ·have:=(J6b (l:=st) (id:=y.H2)).2 (List.mem_map.2 ⟨y,hy,rfl⟩)
  rw [h] at this; cases this
 ·have hx:=List.mem_of_getElem? h1
  have:x=y:=by
   obtain⟨i,hi,rfl⟩:=List.mem_iff_getElem.1 hx
   obtain⟨j,hj,rfl⟩:=List.mem_iff_getElem.1 hy
   have hp:=List.pairwise_iff_getElem.1 hs
   rcases Nat.lt_trichotomy i j with h | h | h
   ·have:=hp i j hi hj h; omega
   ·subst h; rfl
   ·have:=hp j i hj hi h; omega
  rw [h3,this]
theorem idxI_at {α:Type} {p:α→Bool} {pre post:List α} {y:α} (h1:∀ x∈pre,p x=false) (h2:p y=true):J14 p (pre++y::post)=(pre.length:Int):=by
 have:(pre++y::post).findIdx? p=some pre.length:=by
  rw [List.findIdx?_append,List.findIdx?_eq_none_iff.2 h1]
  simp [List.findIdx?_cons,h2]
 unfold J14
 rw [this]
theorem idxI_none {α:Type} {p:α→Bool} {l:List α} (h1:∀ x∈l,p x=false):J14 p l = -1:=by
 unfold J14
 rw [List.findIdx?_eq_none_iff.2 h1]
theorem Ja8 {s:H8} {m:Nat} {c:G4} (hc:s.Columns[m]? = some c):Qu s (m:Int)=some (Rs s c):=by
 refine G38 ?_
 unfold Qu Rs
 have hml:=(List.getElem?_eq_some_iff.1 hc).1
 refine Hm (fun h=>?_) (fun _=>?_)
 ·simp only [Bool.or_eq_true,decide_eq_true_eq] at h
  omega
 refine Q3 (fun pre _=>∀ x∈pre,J8d x c=false) (fun b hb=>(List.not_mem_nil hb).elim) (fun pre y post u nx e hI hnx=>?_) (fun u hI=>Gn (idxI_none hI).symm)
 rw [Qg hc]
 obtain⟨q1,e1,h1⟩:=H1d (c:=decide (y.Bay=c.Bay)) (m:=Jc s.Columns (m:Int) some) (x:=c) (fun _=>Qg hc some)
 refine Gy e1 ?_
 obtain⟨q2,e2,h2⟩:=H1d (c:=decide (y.Bay=c.Bay)) (m:=Qi y.Rows q1.Row) (x:=y.Rows.any (fun r=>decide (r=c.Row))) (fun h=>by rw [h1 h]; exact Q3c _ _)
 refine Gy e2 ?_
 have hcov:(decide (y.Bay=c.Bay)&&q2)=J8d y c:=by
  unfold J8d
  cases hb:decide (y.Bay=c.Bay) with
  | true=>rw [h2 hb]
  | false=>rfl
 rw [hcov]
 refine Hm (fun h=>Gn ?_) (fun h=>hnx _ (Q1 (P:=fun x=>J8d x c=false) hI h))
 rw [e,idxI_at hI h]
theorem ref_moved (before after:List G6) (id:Int):Wp (Yw before after id) (fun r=>r=true ↔ ¬ ((Qz before id).2=true∧(Qz after id).2=true∧(Qz before id).1=(Qz after id).1)):=by
 unfold Yw
 rcases Gc6 before id with ⟨a1,a2⟩ | ⟨m,x,a1,a2,a3,a4⟩
 ·rw [a1,a2]
  refine H5 (Gn ?_)
  rcases Gc6 after id with ⟨b1,b2⟩ | ⟨k,y,b1,b2,b3,b4⟩
  ·rw [b1]
   exact H5 (Gn (H5 (Gn (H5 (Gn (Gn (by simp)))))))
  ·rw [b1]
   exact H5 (Gn (H5 (Gn (H5 (Gn (Gn (by simp)))))))
 ·rw [a1,a4]
  refine H5 (Gn ?_)
  rw [decide_eq_false (by omega:¬ ((m:Int) < 0))]
  rcases Gc6 after id with ⟨b1,b2⟩ | ⟨k,y,b1,b2,b3,b4⟩
  ·rw [b1,b2]
   exact H5 (Gn (H5 (Gn (H5 (Gn (Gn (by simp)))))))
  ·rw [b1,b4]
   refine H5 (Gn ?_)
   rw [decide_eq_false (by omega:¬ ((k:Int) < 0))]
   simp only [Bool.or_self,Bool.not_false,cond_true,Bool.false_or]
   refine Gy ((Qg a2 some).trans rfl) (Gy ((Qg b2 some).trans rfl) (Gn ?_))
   simp
theorem ref_upon {s:H8} {st:List G6} {id:Int} {x:Slot} {m:Nat} {c:G4} (hm:x.G4=(m:Int)) (hc:s.Columns[m]? = some c) (hcol:∀ y∈st,ColIn s y.Slot) :
  Wp (Ra s st id (m:Int)) (fun r=>r=true ↔ (Qz st id).2=true∧upon s x (Qz st id).1):=by
 unfold Ra
 rcases Gc6 st id with ⟨a1,a2⟩ | ⟨k,y,a1,a2,a3,a4⟩
 ·rw [a1,a2]
  refine H5 (Gn (H5 (Gn (H5 (Gn (H5 (Gn ?_)))))))
  exact Gn (Y1 fun h=>by cases h.1)
 ·rw [a1,a4]
  refine H5 (Gn ?_)
  rw [decide_eq_false (by omega:¬ ((k:Int) < 0))]
  simp only [Bool.not_false,cond_true,Bool.false_or]
  refine Gy ((Qg hc some).trans rfl) ?_
  obtain⟨m1,c1,hm1,hc1⟩:=hcol y (List.mem_of_getElem? a2)
  have same:∀ {m':Nat} {c':G4} {m1':Nat} {c1':G4},x.G4=(m':Int)→s.Columns[m']? = some c'→y.Slot.G4=(m1':Int)→s.Columns[m1']? = some c1'→c'=c∧c1'=c1:=fun h1 h2 h3 h4=>by
   have e1:_=m:=Int.ofNat.inj (h1.symm.trans hm)
   have e2:_=m1:=Int.ofNat.inj (h3.symm.trans hm1)
   subst e1 e2
   rw [hc] at h2; rw [hc1] at h4
   cases h2; cases h4
   exact⟨rfl,rfl⟩
  cases hd:c.Deck with
  | true=>
   simp only [Bool.not_true,cond_false,Bool.true_or,cond_true]
   refine H5 (Gn (H5 (Gn (Gn (Y1 fun h=>?_)))))
   obtain⟨m',c',m1',c1',g1,g2,g3,g4,g5,_⟩:=h.2
   obtain⟨rfl,rfl⟩:=same g1 g2 g3 g4
   rw [hd] at g5; cases g5
  | false=>
   simp only [Bool.not_false,cond_true,Bool.false_or]
   refine Gy ((Qg a2 some).trans rfl) ?_
   rw [hm1]
   refine Gy ((Qg hc1 some).trans rfl) (Hm (fun h=>Gn (Y1 fun hh=>?_)) (fun h=>?_))
   ·obtain⟨m',c',m1',c1',g1,g2,g3,g4,g5,g6,_⟩:=hh.2
    obtain⟨rfl,rfl⟩:=same g1 g2 g3 g4
    rw [g6] at h; cases h
   ·have hd1:c1.Deck=true:=by
     cases hh:c1.Deck with
     | true=>rfl
     | false=>rw [hh] at h; cases h
    refine Gy (Ja8 hc) ?_
    obtain⟨q1,e1,h1⟩:=H1d (c:=decide (0≤Rs s c)) (m:=Jc st (k:Int) some) (x:=y) (fun _=>Qg a2 some)
    refine Gy e1 ?_
    obtain⟨q2,e2,h2⟩:=H1d (c:=decide (0≤Rs s c)) (m:=Qu s q1.Slot.G4) (x:=Rs s c1) (fun h=>by rw [h1 h,hm1]; exact Ja8 hc1)
    refine Gy e2 (Gn ?_)
    cases h0:decide (0≤Rs s c) with
    | false=>
     rw [Bool.false_and]
     refine Y1 fun hh=>?_
     obtain⟨m',c',m1',c1',g1,g2,g3,g4,g5,g6,g7,_⟩:=hh.2
     obtain⟨rfl,rfl⟩:=same g1 g2 g3 g4
     exact of_decide_eq_false h0 g7
    | true=>
     rw [Bool.true_and,h2 h0,decide_eq_true_eq]
     constructor
     ·intro hq
      exact⟨trivial,m,c,m1,c1,hm,hc,hm1,hc1,hd,hd1,of_decide_eq_true h0,hq⟩
     ·rintro⟨_,m',c',m1',c1',g1,g2,g3,g4,g5,g6,g7,g8⟩
      obtain⟨rfl,rfl⟩:=same g1 g2 g3 g4
      exact g8
/-- A state with its boxes in order, in columns that there are. -/
structure StR (s:H8) (st:List G6):Prop where
 sorted:st.Pairwise (fun a b=>a.H2 < b.H2)
 col:∀ y∈st,ColIn s y.Slot
theorem upon_find {s:H8} {st:List G6} (h:StR s st) {x:Slot} {id:Int}:((Qz st id).2=true∧upon s x (Qz st id).1) ↔ ∃ y∈st,y.H2=id∧upon s x y.Slot:=by
 constructor
 ·rintro⟨h1,h2⟩
  obtain⟨y,hy,h3,h4⟩:=J39 h1
  exact⟨y,hy,h3,h4 ▸ h2⟩
 ·rintro⟨y,hy,rfl,h2⟩
  rw [findP_of h.sorted hy]
  exact⟨rfl,h2⟩
theorem Jd5 {s:H8} {l other:List G6} (h1:StR s l) (h2:StR s other) (id cause:Int):Wp (Qt s l other id cause) (fun r=>r=true ↔ H1e s [l,other] l cause id):=by
 unfold Qt H1e
 rcases Gc6 l cause with ⟨a1,a2⟩ | ⟨k,y,a1,a2,a3,a4⟩
 ·rw [a1,a2]
  exact H5 (Gn (Gn (Y1 fun h=>by cases h.1)))
 ·rw [a1,a4]
  refine H5 (Gn ?_)
  rw [decide_eq_false (by omega:¬ ((k:Int) < 0)),cond_false]
  obtain⟨m,c,hm,hc⟩:=h1.col y (List.mem_of_getElem? a2)
  have tail:(¬ ∃ z∈l,z.H2=id∧J93 z.Slot y.Slot)→Wp (Jc l (k:Int) fun y16=>
   bnd (Ra s l id y16.Slot.G4) fun r18=>
   bnd (bif (!r18) then Jc l (k:Int) some else some default) fun y19=>
   bnd (bif (!r18) then Ra s other id y19.Slot.G4 else some default) fun r20=>
   some (r18||r20)) (fun r=>r=true ↔ (y.Slot,true).2=true∧((∃ z∈l,z.H2=id∧J93 z.Slot (y.Slot,true).1)∨∃ st2∈[l,other],∃ z∈st2,z.H2=id∧upon s (y.Slot,true).1 z.Slot)):=fun hno=>by
   rw [Qg a2,hm]
   refine H5 (wp_mono (ref_upon hm hc h1.col) (fun r18 h18=>?_))
   rw [upon_find h1] at h18
   cases r18 with
   | true=>
    refine H5 (Gn (H5 (Gn (Gn ⟨fun _=>⟨rfl,.inr ⟨l,by simp,h18.1 rfl⟩⟩,fun _=>rfl⟩))))
   | false=>
    simp only [Bool.not_false,cond_true,Bool.false_or]
    refine Gy ((Qg a2 some).trans rfl) ?_
    rw [hm]
    refine H5 (wp_mono (ref_upon hm hc h2.col) (fun r20 h20=>Gn ?_))
    rw [upon_find h2] at h20
    rw [h20]
    constructor
    ·intro h; exact⟨trivial,.inr ⟨other,by simp,h⟩⟩
    ·rintro⟨_,h | ⟨st2,hst,h⟩⟩
     ·exact(hno h).elim
     ·simp only [List.mem_cons,List.not_mem_nil,or_false] at hst
      rcases hst with rfl | rfl
      ·have:=h18.2 h; cases this
      ·exact h
  rcases Gc6 l id with ⟨b1,b2⟩ | ⟨j,z,b1,b2,b3,b4⟩
  ·rw [b1]
   refine H5 (Gn (H5 (Gn (H5 (Gn (H5 (Gn ?_)))))))
   refine tail (fun⟨z,hz,hzi,_⟩=>?_)
   have:=(J6b (l:=l) (id:=id)).2 (List.mem_map.2 ⟨z,hz,hzi⟩)
   rw [b2] at this; cases this
  ·rw [b1]
   refine H5 (Gn ?_)
   rw [decide_eq_true (by omega:(0:Int)≤(j:Int))]
   refine Gy (show (bif true then Jc l (j:Int) some else some default)=some z from (Qg b2 some).trans rfl) (Gy (show (bif true then Jc l (k:Int) some else some default)=some y from (Qg a2 some).trans rfl) ?_)
   rw [cond_true]
   refine H5 (wp_mono (ref_over z.Slot y.Slot) (fun r13 h13=>?_))
   have hz:∀ z'∈l,z'.H2=id→z'.Slot=z.Slot:=fun z' hz' hi=>by
    have:=findP_of h1.sorted hz'
    rw [hi,b4] at this
    exact(congrArg Prod.fst this).symm
   cases r13 with
   | true=>exact Gn ⟨fun _=>⟨rfl,.inl ⟨z,List.mem_of_getElem? b2,b3,h13.1 rfl⟩⟩,fun _=>rfl⟩
   | false=>
    refine tail (fun⟨z',hz',hzi,ho⟩=>?_)
    rw [hz z' hz' hzi] at ho
    have:=h13.2 ho; cases this
theorem Ja9 {s:H8} {before after:List G6} {a b:Int}:G63 s [before,after] a b ↔ H1e s [before,after] before a b∨H1e s [after,before] after a b:=by
 have sw:∀ {st:List G6},H1e s [before,after] st a b ↔ H1e s [after,before] st a b:=fun {st}=>by
  unfold H1e
  constructor
  ·rintro⟨h1,h2⟩; exact⟨h1,h2.imp _root_.id (fun⟨st2,h3,h4⟩=>⟨st2,J10 h3,h4⟩)⟩
  ·rintro⟨h1,h2⟩; exact⟨h1,h2.imp _root_.id (fun⟨st2,h3,h4⟩=>⟨st2,J10 h3,h4⟩)⟩
 unfold G63
 simp only [List.mem_cons,List.not_mem_nil,or_false,exists_eq_or_imp,exists_eq_left]
 rw [sw (st:=after)]

/-! ### Marks -/
def G50 (L:List Gw):Nat:=L.countP (fun m=>!m.in_)
theorem J6c:∀ (L:List Gw) (i:Nat) (x:Gw),L[i]? = some x→x.in_=false→G50 (L.set i ⟨x.id,true⟩)+1=G50 L
 | [],i,x,h,_=>by simp at h
 | m::L,0,x,h,hx=>by
  simp at h; subst h
  simp [G50,List.countP_cons,hx]
 | m::L,i+1,x,h,hx=>by
  have:=J6c L i x (by simpa using h) hx
  unfold G50 at this ⊢
  rw [List.set_cons_succ,List.countP_cons,List.countP_cons]
  omega
theorem ids_set {L:List Gw} {i:Nat} {x:Gw} (h:L[i]? = some x):(L.set i ⟨x.id,true⟩).map (·.id)=L.map (·.id):=by
 rw [List.map_set]
 refine List.ext_getElem? (fun j=>?_)
 rw [List.getElem?_set]
 split
 ·rename_i hij
  subst hij
  rw [List.getElem?_map,h]
  split
  ·rfl
  ·rename_i hl
   have:=(List.getElem?_eq_some_iff.1 h).1
   rw [List.length_map] at hl
   exact(hl this).elim
 ·rfl
section lifted
variable {s:H8} {before after:List G6}
def Seed (before after:List G6) (a:Int):Prop:=∃ st∈[before,after],∃ y∈st,y.H2=a∧Qz before a≠Qz after a
def Sound (s:H8) (before after:List G6) (a:Int):Prop:=∀ C:Int→Prop,(∀ a b,C a→G63 s [before,after] a b→C b)→(∀ a,Seed before after a→C a)→C a
structure H68 (s:H8) (before after:List G6) (ids:List Int) (L:List Gw):Prop where
 ids:L.map (·.id)=ids
 seeds:∀ m∈L,Seed before after m.id→m.in_=true
 sound:∀ m∈L,m.in_=true→Sound s before after m.id
/-- Nothing more follows, from the marks at the places up to i; at i itself of those before k. -/
def Done (s:H8) (before after:List G6) (L:List Gw) (P:Nat→Nat→Prop):Prop:=∀ (i k:Nat) x y,P i k→L[i]? = some x→L[k]? = some y→y.in_=true→G63 s [before,after] y.id x.id→x.in_=true
theorem H68.set {ids:List Int} {L:List Gw} (h:H68 s before after ids L) {i k:Nat} {x y:Gw} (hx:L[i]? = some x) (hy:L[k]? = some y) (hin:y.in_=true) (hp:G63 s [before,after] y.id x.id) :
  H68 s before after ids (L.set i ⟨x.id,true⟩):=by
 refine⟨by rw [ids_set hx]; exact h.ids,fun m hm hs=>?_,fun m hm hmi=>?_⟩
 ·rcases List.mem_or_eq_of_mem_set hm with hm | rfl
  ·exact h.seeds m hm hs
  ·rfl
 ·rcases List.mem_or_eq_of_mem_set hm with hm | rfl
  ·exact h.sound m hm hmi
  ·exact fun C h1 h2=>h1 y.id x.id (h.sound y (List.mem_of_getElem? hy) hin C h1 h2) hp
theorem H5b {ids:List Int} {L:List Gw} (h:H68 s before after ids L):L.length=ids.length:=by rw [← h.ids,List.length_map]
theorem ref_in (L:List Gw) (id:Int):Wp (G16 L id) (fun r=>r=true ↔ ∃ m∈L,m.id=id∧m.in_=true):=by
 unfold G16
 refine Q3 (fun pre _=>∀ m∈pre,¬ (m.id=id∧m.in_=true)) (fun b hb=>(List.not_mem_nil hb).elim) (fun pre y post u nx e hI hnx=>Hm (fun h=>Gn ⟨fun _=>⟨y,by rw [e]; simp,?_⟩,fun _=>rfl⟩) (fun h=>hnx _ (Q1 (P:=fun m:Gw=>¬ (m.id=id∧m.in_=true)) hI (fun hh=>?_)))) (fun u hI=>Gn (Y1 fun⟨m,hm,h⟩=>hI m hm h))
 ·simp only [Bool.and_eq_true,decide_eq_true_eq] at h; exact h
 ·rw [decide_eq_true hh.1,hh.2] at h; cases h
/-- One step of the marking. -/
theorem step_ok {ids:List Int} {L:List Gw} (hb:StR s before) (ha:StR s after) (h:H68 s before after ids L) {i k:Nat} (hi:i < ids.length) (hk:k < ids.length) {Q:(List Int×Int)→Prop} {more:Bool} {kj:Bool×List Gw→Option (List Int×Int)}
  (h1:∀ x y,L[i]? = some x→L[k]? = some y→(y.in_=true→G63 s [before,after] y.id x.id→x.in_=true)→Wp (kj (more,L)) Q)
  (h2:∀ x y,L[i]? = some x→L[k]? = some y→x.in_=false→y.in_=true→G63 s [before,after] y.id x.id→Wp (kj (true,L.set i ⟨x.id,true⟩)) Q) :
  Wp (Jc L (i:Int) fun y150=>
        bnd (bif (!y150.in_) then Jc L (k:Int) some else some default) fun y151=>
        bif (y150.in_||(!y151.in_)) then
        (kj (more,L))
        else
        (Jc L (i:Int) fun y153=>
         Jc L (k:Int) fun y154=>
         bnd (Qt s before after y153.id y154.id) fun r155=>
         bnd (bif (!r155) then Jc L (i:Int) some else some default) fun y156=>
         bnd (bif (!r155) then Jc L (k:Int) some else some default) fun y157=>
         bnd (bif (!r155) then Qt s after before y156.id y157.id else some default) fun r158=>
         bif (r155||r158) then
         (Jc L (i:Int) fun y159=>
          kj (true,(L.set (i:Int).toNat (Gw.mk y159.id true))))
         else
         (kj (more,L)))) Q:=by
 have hl:=H5b h
 have hx:L[i]? = some (L[i]'(by omega)):=List.getElem?_eq_getElem (by omega)
 have hy:L[k]? = some (L[k]'(by omega)):=List.getElem?_eq_getElem (by omega)
 generalize L[i]'(by omega)=x at hx
 generalize L[k]'(by omega)=y at hy
 rw [Qg hx]
 cases hxi:x.in_ with
 | true=>exact H5 (Gn (h1 x y hx hy (fun _ _=>hxi)))
 | false=>
  simp only [Bool.not_false,cond_true,Bool.false_or]
  refine Gy ((Qg hy some).trans rfl) ?_
  cases hyi:y.in_ with
  | false=>exact h1 x y hx hy (fun hh=>by rw [hyi] at hh; cases hh)
  | true=>
   simp only [Bool.not_true,cond_false]
   rw [Qg hx,Qg hy]
   refine H5 (wp_mono (Jd5 hb ha x.id y.id) (fun r155 h155=>?_))
   have hset:G63 s [before,after] y.id x.id→Wp (Jc L (i:Int) fun y159=>kj (true,(L.set (i:Int).toNat (Gw.mk y159.id true)))) Q:=fun hp=>by
    rw [Qg hx,show (i:Int).toNat=i by omega]
    exact h2 x y hx hy hxi hyi hp
   cases r155 with
   | true=>exact H5 (Gn (H5 (Gn (H5 (Gn (hset (Ja9.2 (.inl (h155.1 rfl)))))))))
   | false=>
    simp only [Bool.not_false,cond_true,Bool.false_or]
    refine Gy ((Qg hx some).trans rfl) (Gy ((Qg hy some).trans rfl) (H5 (wp_mono (Jd5 ha hb x.id y.id) (fun r158 h158=>?_))))
    refine Hm (fun hh=>hset (Ja9.2 (.inr (h158.1 hh)))) (fun hh=>h1 x y hx hy (fun _ hp=>?_))
    rcases Ja9.1 hp with hp | hp
    ·have:=h155.2 hp; cases this
    ·rw [h158.2 hp] at hh; cases hh
end lifted
end Go.Proofs.YteogacmpgdpjlaaGreat
