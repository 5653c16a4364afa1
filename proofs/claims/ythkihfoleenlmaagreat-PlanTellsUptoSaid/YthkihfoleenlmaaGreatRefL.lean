/- Which bx are lf: -/
import Derived.Test.YthkihfoleenlmaaGreatRefT
set_option maxRecDepth 100000
set_option linter.unusedVariables false
namespace Go.Proofs.YthkihfoleenlmaaGreat
open Go.RowKit

theorem wp_loop {β W:Type} {Q:β→Prop} (I:W→Prop) (B:W→Nat) {b:(W→Option β)→W→Option β} {F:Nat} {s:W} (h0:I s) (hF:B s < F)
  (hb:∀ s nx,I s→(∀ s',I s'→B s' < B s→Wp (nx s') Q)→Wp (b nx s) Q):Wp (loop b F s) Q:=by
 induction F generalizing s with
 | zero=>omega
 | succ F ih=>
  rw [loop]
  exact hb s _ h0 (fun s' h1 h2=>ih h1 (by omega))
theorem J26 (l:List G2) (id:Int):Jg l id=some (uO (fun x:G2=>decide (x.Box=id)) l):=by
 unfold Jg
 exact sR (f:=fun x:G2=>some (decide (x.Box=id))) (fun x _=>rfl)
theorem fN (st:List G2) (id:Int):(Jg st id=some (-1)/\Qu st id=(⟨0,0,0⟩,false))\/∃ (m:Nat) (x:G2),Jg st id=some (m:Int)/\st[m]? = some x/\x.Box=id/\Qu st id=(x.Slot,true):=by
 rw [J26]
 unfold Qu G1e
 rcases lK (fun x:G2=>decide (x.Box=id)) st with ⟨h1,_,h3⟩ | ⟨m,x,h1,h2,h3,h4⟩
 .rw [h1,h3]; exact .inl ⟨rfl,rfl⟩
 .rw [h1,h4]; exact .inr ⟨m,x,rfl,h2,P6 h3,rfl⟩
theorem H2b {st:List G2} (hs:st.Pairwise (fun a b=>a.Box < b.Box)) {y:G2} (hy:y∈st):Qu st y.Box=(y.Slot,true):=by
 rcases fN st y.Box with ⟨_,h⟩ | ⟨m,x,_,h1,h2,h3⟩
 .have:=(zL (l:=st) (id:=y.Box)).2 (Pt.2 ⟨y,hy,rfl⟩)
  rw [h] at this; cases this
 .have hx:=Pd h1
  have:x=y:=by
   obtain⟨i,hi,rfl⟩:=List.mem_iff_getElem.1 hx
   obtain⟨j,hj,rfl⟩:=List.mem_iff_getElem.1 hy
   have hp:=List.pairwise_iff_getElem.1 hs
   rcases Nat.lt_trichotomy i j with h | h | h
   .have:=hp i j hi hj h; omega
   .subst h; rfl
   .have:=hp j i hj hi h; omega
  rw [h3,this]
theorem J9b {J:Type} {p:J→Bool} {pre post:List J} {y:J} (h1:∀ x∈pre,p x=false) (h2:p y=true):uO p (pre++y::post)=(pre.length:Int):=by
 have:(pre++y::post).findIdx? p=some pre.length:=by
  rw [List.findIdx?_append,List.findIdx?_eq_none_iff.2 h1]
  simp [List.findIdx?_cons,h2]
 unfold uO
 rw [this]
theorem Hfd {J:Type} {p:J→Bool} {l:List J} (h1:∀ x∈l,p x=false):uO p l = -1:=by
 unfold uO
 rw [List.findIdx?_eq_none_iff.2 h1]
theorem G80 {s:Gq} {m:Nat} {c:G6} (hc:s.Columns[m]? = some c):Rf s (m:Int)=some (gJ s c):=by
 refine bG ?_
 unfold Rf gJ
 have h4:=(Pa hc).1
 refine Hq (fun h=>?_) (fun _=>?_)
 .simp only [Px,Pq] at h
  omega
 refine Q2 (fun pre _=>∀ x∈pre,YC x c=false) (fun b hb=>(Pe hb).elim) (fun pre y post u nx e hI h3=>?_) (fun u hI=>Gh (Hfd hI).symm)
 rw [Qi hc]
 obtain⟨q1,e1,h1⟩:=mA (c:=decide (y.Bay=c.Bay)) (m:=Jo s.Columns (m:Int) some) (x:=c) (fun _=>Qi hc some)
 refine Gu e1 ?_
 obtain⟨q2,e2,h2⟩:=mA (c:=decide (y.Bay=c.Bay)) (m:=Qq y.Rows q1.Row) (x:=y.Rows.any (fun r=>decide (r=c.Row))) (fun h=>by rw [h1 h]; exact G18 _ _)
 refine Gu e2 ?_
 have h0:(decide (y.Bay=c.Bay)&&q2)=YC y c:=by
  unfold YC
  cases hb:decide (y.Bay=c.Bay) with
  | true=>rw [h2 hb]
  | false=>rfl
 rw [h0]
 refine Hq (fun h=>Gh ?_) (fun h=>h3 _ (Qp (P:=fun x=>YC x c=false) hI h))
 rw [e,J9b hI h]
theorem Hed (bf af:List G2) (id:Int):Wp (Yu bf af id) (fun r=>r=true ↔ ¬ ((Qu bf id).2=true/\(Qu af id).2=true/\(Qu bf id).1=(Qu af id).1)):=by
 unfold Yu
 rcases fN bf id with ⟨a1,a2⟩ | ⟨m,x,a1,a2,a3,a4⟩
 .rw [a1,a2]
  refine Hc (Gh ?_)
  rcases fN af id with ⟨b1,b2⟩ | ⟨k,y,b1,b2,b3,b4⟩
  .rw [b1]
   exact Hc (Gh (Hc (Gh (Hc (Gh (Gh (by simp)))))))
  .rw [b1]
   exact Hc (Gh (Hc (Gh (Hc (Gh (Gh (by simp)))))))
 .rw [a1,a4]
  refine Hc (Gh ?_)
  rw [P9 (by omega:¬ ((m:Int) < 0))]
  rcases fN af id with ⟨b1,b2⟩ | ⟨k,y,b1,b2,b3,b4⟩
  .rw [b1,b2]
   exact Hc (Gh (Hc (Gh (Hc (Gh (Gh (by simp)))))))
  .rw [b1,b4]
   refine Hc (Gh ?_)
   rw [P9 (by omega:¬ ((k:Int) < 0))]
   simp only [Bool.or_self,Bool.not_false,cond_true,Bool.false_or]
   refine Gu ((Qi a2 some).trans rfl) (Gu ((Qi b2 some).trans rfl) (Gh ?_))
   simp
theorem H14 {s:Gq} {st:List G2} {id:Int} {x:Slot} {m:Nat} {c:G6} (hm:x.G6=(m:Int)) (hc:s.Columns[m]? = some c) (h7:∀ y∈st,Hd0 s y.Slot) :
  Wp (Ro s st id (m:Int)) (fun r=>r=true ↔ (Qu st id).2=true/\upon s x (Qu st id).1):=by
 unfold Ro
 rcases fN st id with ⟨a1,a2⟩ | ⟨k,y,a1,a2,a3,a4⟩
 .rw [a1,a2]
  refine Hc (Gh (Hc (Gh (Hc (Gh (Hc (Gh ?_)))))))
  exact Gh (Ra fun h=>by cases h.1)
 .rw [a1,a4]
  refine Hc (Gh ?_)
  rw [P9 (by omega:¬ ((k:Int) < 0))]
  simp only [Bool.not_false,cond_true,Bool.false_or]
  refine Gu ((Qi hc some).trans rfl) ?_
  obtain⟨m1,c1,h5,h6⟩:=h7 y (Pd a2)
  have same:∀ {m':Nat} {c':G6} {m1':Nat} {c1':G6},x.G6=(m':Int)→s.Columns[m']? = some c'→y.Slot.G6=(m1':Int)→s.Columns[m1']? = some c1'→c'=c/\c1'=c1:=fun h1 h2 h3 h4=>by
   have e1:_=m:=Int.ofNat.inj (h1.symm.trans hm)
   have e2:_=m1:=Int.ofNat.inj (h3.symm.trans h5)
   subst e1 e2
   rw [hc] at h2; rw [h6] at h4
   cases h2; cases h4
   exact⟨rfl,rfl⟩
  cases hd:c.Deck with
  | true=>
   simp only [Bool.not_true,cond_false,Bool.true_or,cond_true]
   refine Hc (Gh (Hc (Gh (Gh (Ra fun h=>?_)))))
   obtain⟨m',c',m1',c1',g1,g2,g3,g4,g5,_⟩:=h.2
   obtain⟨rfl,rfl⟩:=same g1 g2 g3 g4
   rw [hd] at g5; cases g5
  | false=>
   simp only [Bool.not_false,cond_true,Bool.false_or]
   refine Gu ((Qi a2 some).trans rfl) ?_
   rw [h5]
   refine Gu ((Qi h6 some).trans rfl) (Hq (fun h=>Gh (Ra fun hh=>?_)) (fun h=>?_))
   .obtain⟨m',c',m1',c1',g1,g2,g3,g4,g5,g6,_⟩:=hh.2
    obtain⟨rfl,rfl⟩:=same g1 g2 g3 g4
    rw [g6] at h; cases h
   .have h8:c1.Deck=true:=by
     cases hh:c1.Deck with
     | true=>rfl
     | false=>rw [hh] at h; cases h
    refine Gu (G80 hc) ?_
    obtain⟨q1,e1,h1⟩:=mA (c:=decide (0≤gJ s c)) (m:=Jo st (k:Int) some) (x:=y) (fun _=>Qi a2 some)
    refine Gu e1 ?_
    obtain⟨q2,e2,h2⟩:=mA (c:=decide (0≤gJ s c)) (m:=Rf s q1.Slot.G6) (x:=gJ s c1) (fun h=>by rw [h1 h,h5]; exact G80 h6)
    refine Gu e2 (Gh ?_)
    cases h0:decide (0≤gJ s c) with
    | false=>
     rw [Bool.false_and]
     refine Ra fun hh=>?_
     obtain⟨m',c',m1',c1',g1,g2,g3,g4,g5,g6,g7,_⟩:=hh.2
     obtain⟨rfl,rfl⟩:=same g1 g2 g3 g4
     exact P7 h0 g7
    | true=>
     rw [Bool.true_and,h2 h0,Pq]
     constructor
     .intro hq
      exact⟨trivial,m,c,m1,c1,hm,hc,h5,h6,hd,h8,P6 h0,hq⟩
     .rintro⟨_,m',c',m1',c1',g1,g2,g3,g4,g5,g6,g7,g8⟩
      obtain⟨rfl,rfl⟩:=same g1 g2 g3 g4
      exact g8
structure StR (s:Gq) (st:List G2):Prop where
 sorted:st.Pairwise (fun a b=>a.Box < b.Box)
 col:∀ y∈st,Hd0 s y.Slot
theorem G70 {s:Gq} {st:List G2} (h:StR s st) {x:Slot} {id:Int}:((Qu st id).2=true/\upon s x (Qu st id).1) ↔ ∃ y∈st,y.Box=id/\upon s x y.Slot:=by
 constructor
 .rintro⟨h1,h2⟩
  obtain⟨y,hy,h3,h4⟩:=xQ h1
  exact⟨y,hy,h3,h4 ▸ h2⟩
 .rintro⟨y,hy,rfl,h2⟩
  rw [H2b h.sorted hy]
  exact⟨rfl,h2⟩
theorem RF {s:Gq} {l other:List G2} (h1:StR s l) (h2:StR s other) (id cause:Int):Wp (R1 s l other id cause) (fun r=>r=true ↔ mB s [l,other] l cause id):=by
 unfold R1 mB
 rcases fN l cause with ⟨a1,a2⟩ | ⟨k,y,a1,a2,a3,a4⟩
 .rw [a1,a2]
  exact Hc (Gh (Gh (Ra fun h=>by cases h.1)))
 .rw [a1,a4]
  refine Hc (Gh ?_)
  rw [P9 (by omega:¬ ((k:Int) < 0)),cond_false]
  obtain⟨m,c,hm,hc⟩:=h1.col y (Pd a2)
  have tail:(¬ ∃ z∈l,z.Box=id/\HE z.Slot y.Slot)→Wp (Jo l (k:Int) fun y16=>
   bnd (Ro s l id y16.Slot.G6) fun r18=>
   bnd (bif (!r18) then Jo l (k:Int) some else some default) fun y19=>
   bnd (bif (!r18) then Ro s other id y19.Slot.G6 else some default) fun r20=>
   some (r18||r20)) (fun r=>r=true ↔ (y.Slot,true).2=true/\((∃ z∈l,z.Box=id/\HE z.Slot (y.Slot,true).1)\/∃ st2∈[l,other],∃ z∈st2,z.Box=id/\upon s (y.Slot,true).1 z.Slot)):=fun h8=>by
   rw [Qi a2,hm]
   refine Hc (wp_mono (H14 hm hc h1.col) (fun r18 h0=>?_))
   rw [G70 h1] at h0
   cases r18 with
   | true=>
    refine Hc (Gh (Hc (Gh (Gh ⟨fun _=>⟨rfl,.inr ⟨l,by simp,h0.1 rfl⟩⟩,fun _=>rfl⟩))))
   | false=>
    simp only [Bool.not_false,cond_true,Bool.false_or]
    refine Gu ((Qi a2 some).trans rfl) ?_
    rw [hm]
    refine Hc (wp_mono (H14 hm hc h2.col) (fun r20 h5=>Gh ?_))
    rw [G70 h2] at h5
    rw [h5]
    constructor
    .intro h; exact⟨trivial,.inr ⟨other,by simp,h⟩⟩
    .rintro⟨_,h | ⟨st2,h6,h⟩⟩
     .exact(h8 h).elim
     .simp only [Pv,Pe,or_false] at h6
      rcases h6 with rfl | rfl
      .have:=h0.2 h; cases this
      .exact h
  rcases fN l id with ⟨b1,b2⟩ | ⟨j,z,b1,b2,b3,b4⟩
  .rw [b1]
   refine Hc (Gh (Hc (Gh (Hc (Gh (Hc (Gh ?_)))))))
   refine tail (fun⟨z,hz,h3,_⟩=>?_)
   have:=(zL (l:=l) (id:=id)).2 (Pt.2 ⟨z,hz,h3⟩)
   rw [b2] at this; cases this
  .rw [b1]
   refine Hc (Gh ?_)
   rw [P8 (by omega:(0:Int)≤(j:Int))]
   refine Gu (show (bif true then Jo l (j:Int) some else some default)=some z from (Qi b2 some).trans rfl) (Gu (show (bif true then Jo l (k:Int) some else some default)=some y from (Qi a2 some).trans rfl) ?_)
   rw [cond_true]
   refine Hc (wp_mono (J21 z.Slot y.Slot) (fun r13 h7=>?_))
   have hz:∀ z'∈l,z'.Box=id→z'.Slot=z.Slot:=fun z' h4 hi=>by
    have:=H2b h1.sorted h4
    rw [hi,b4] at this
    exact(congrArg Prod.fst this).symm
   cases r13 with
   | true=>exact Gh ⟨fun _=>⟨rfl,.inl ⟨z,Pd b2,b3,h7.1 rfl⟩⟩,fun _=>rfl⟩
   | false=>
    refine tail (fun⟨z',h4,h3,ho⟩=>?_)
    rw [hz z' h4 h3] at ho
    have:=h7.2 ho; cases this
theorem HU {s:Gq} {bf af:List G2} {a b:Int}:eD s [bf,af] a b ↔ mB s [bf,af] bf a b\/mB s [af,bf] af a b:=by
 have sw:∀ {st:List G2},mB s [bf,af] st a b ↔ mB s [af,bf] st a b:=fun {st}=>by
  unfold mB
  constructor
  .rintro⟨h1,h2⟩; exact⟨h1,h2.imp _root_.id (fun⟨st2,h3,h4⟩=>⟨st2,wM h3,h4⟩)⟩
  .rintro⟨h1,h2⟩; exact⟨h1,h2.imp _root_.id (fun⟨st2,h3,h4⟩=>⟨st2,wM h3,h4⟩)⟩
 unfold eD
 simp only [Pv,Pe,or_false,exists_eq_or_imp,exists_eq_left]
 rw [sw (st:=af)]

/-! ### Marks -/
def dJ (L:List Gt):Nat:=L.countP (fun m=>!m.in_)
theorem zM:∀ (L:List Gt) (i:Nat) (x:Gt),L[i]? = some x→x.in_=false→dJ (L.set i ⟨x.id,true⟩)+1=dJ L
 | [],i,x,h,_=>by simp at h
 | m::L,0,x,h,hx=>by
  simp at h; subst h
  simp [dJ,List.countP_cons,hx]
 | m::L,i+1,x,h,hx=>by
  have:=zM L i x (by simpa using h) hx
  unfold dJ at this ⊢
  rw [List.set_cons_succ,List.countP_cons,List.countP_cons]
  omega
theorem J9d {L:List Gt} {i:Nat} {x:Gt} (h:L[i]? = some x):(L.set i ⟨x.id,true⟩).map (·.id)=L.map (·.id):=by
 rw [List.map_set]
 refine List.ext_getElem? (fun j=>?_)
 rw [List.getElem?_set]
 split
 .rename_i h0
  subst h0
  rw [Pj,h]
  split
  .rfl
  .rename_i hl
   have:=(Pa h).1
   rw [Pr] at hl
   exact(hl this).elim
 .rfl
section lf
variable {s:Gq} {bf af:List G2}
def Jed (bf af:List G2) (a:Int):Prop:=∃ st∈[bf,af],∃ y∈st,y.Box=a/\Qu bf a≠Qu af a
def Q34 (s:Gq) (bf af:List G2) (a:Int):Prop:=∀ C:Int→Prop,(∀ a b,C a→eD s [bf,af] a b→C b)→(∀ a,Jed bf af a→C a)→C a
structure pN (s:Gq) (bf af:List G2) (ids:List Int) (L:List Gt):Prop where
 ids:L.map (·.id)=ids
 seeds:∀ m∈L,Jed bf af m.id→m.in_=true
 sound:∀ m∈L,m.in_=true→Q34 s bf af m.id
def Done (s:Gq) (bf af:List G2) (L:List Gt) (P:Nat→Nat→Prop):Prop:=∀ (i k:Nat) x y,P i k→L[i]? = some x→L[k]? = some y→y.in_=true→eD s [bf,af] y.id x.id→x.in_=true
theorem pN.set {ids:List Int} {L:List Gt} (h:pN s bf af ids L) {i k:Nat} {x y:Gt} (hx:L[i]? = some x) (hy:L[k]? = some y) (h0:y.in_=true) (hp:eD s [bf,af] y.id x.id) :
  pN s bf af ids (L.set i ⟨x.id,true⟩):=by
 refine⟨by rw [J9d hx]; exact h.ids,fun m hm hs=>?_,fun m hm h3=>?_⟩
 .rcases List.mem_or_eq_of_mem_set hm with hm | rfl
  .exact h.seeds m hm hs
  .rfl
 .rcases List.mem_or_eq_of_mem_set hm with hm | rfl
  .exact h.sound m hm h3
  .exact fun C h1 h2=>h1 y.id x.id (h.sound y (Pd hy) h0 C h1 h2) hp
theorem pC {ids:List Int} {L:List Gt} (h:pN s bf af ids L):L.length=ids.length:=by rw [← h.ids,Pr]
theorem Je2 (L:List Gt) (id:Int):Wp (bA L id) (fun r=>r=true ↔ ∃ m∈L,m.id=id/\m.in_=true):=by
 unfold bA
 refine Q2 (fun pre _=>∀ m∈pre,¬ (m.id=id/\m.in_=true)) (fun b hb=>(Pe hb).elim) (fun pre y post u nx e hI h0=>Hq (fun h=>Gh ⟨fun _=>⟨y,by rw [e]; simp,?_⟩,fun _=>rfl⟩) (fun h=>h0 _ (Qp (P:=fun m:Gt=>¬ (m.id=id/\m.in_=true)) hI (fun hh=>?_)))) (fun u hI=>Gh (Ra fun⟨m,hm,h⟩=>hI m hm h))
 .simp only [Pp,Pq] at h; exact h
 .rw [P8 hh.1,hh.2] at h; cases h
theorem step_ok {ids:List Int} {L:List Gt} (hb:StR s bf) (ha:StR s af) (h:pN s bf af ids L) {i k:Nat} (hi:i < ids.length) (hk:k < ids.length) {Q:(List Int×Int)→Prop} {more:Bool} {kj:Bool×List Gt→Option (List Int×Int)}
  (h1:∀ x y,L[i]? = some x→L[k]? = some y→(y.in_=true→eD s [bf,af] y.id x.id→x.in_=true)→Wp (kj (more,L)) Q)
  (h2:∀ x y,L[i]? = some x→L[k]? = some y→x.in_=false→y.in_=true→eD s [bf,af] y.id x.id→Wp (kj (true,L.set i ⟨x.id,true⟩)) Q) :
  Wp (Jo L (i:Int) fun y150=>
        bnd (bif (!y150.in_) then Jo L (k:Int) some else some default) fun y151=>
        bif (y150.in_||(!y151.in_)) then
        (kj (more,L))
        else
        (Jo L (i:Int) fun y153=>
         Jo L (k:Int) fun y154=>
         bnd (R1 s bf af y153.id y154.id) fun r155=>
         bnd (bif (!r155) then Jo L (i:Int) some else some default) fun y156=>
         bnd (bif (!r155) then Jo L (k:Int) some else some default) fun y157=>
         bnd (bif (!r155) then R1 s af bf y156.id y157.id else some default) fun r158=>
         bif (r155||r158) then
         (Jo L (i:Int) fun y159=>
          kj (true,(L.set (i:Int).toNat (Gt.mk y159.id true))))
         else
         (kj (more,L)))) Q:=by
 have hl:=pC h
 have hx:L[i]? = some (L[i]'(by omega)):=Pb (by omega)
 have hy:L[k]? = some (L[k]'(by omega)):=Pb (by omega)
 generalize L[i]'(by omega)=x at hx
 generalize L[k]'(by omega)=y at hy
 rw [Qi hx]
 cases h5:x.in_ with
 | true=>exact Hc (Gh (h1 x y hx hy (fun _ _=>h5)))
 | false=>
  simp only [Bool.not_false,cond_true,Bool.false_or]
  refine Gu ((Qi hy some).trans rfl) ?_
  cases h6:y.in_ with
  | false=>exact h1 x y hx hy (fun hh=>by rw [h6] at hh; cases hh)
  | true=>
   simp only [Bool.not_true,cond_false]
   rw [Qi hx,Qi hy]
   refine Hc (wp_mono (RF hb ha x.id y.id) (fun r155 h0=>?_))
   have h3:eD s [bf,af] y.id x.id→Wp (Jo L (i:Int) fun y159=>kj (true,(L.set (i:Int).toNat (Gt.mk y159.id true)))) Q:=fun hp=>by
    rw [Qi hx,show (i:Int).toNat=i by omega]
    exact h2 x y hx hy h5 h6 hp
   cases r155 with
   | true=>exact Hc (Gh (Hc (Gh (Hc (Gh (h3 (HU.2 (.inl (h0.1 rfl)))))))))
   | false=>
    simp only [Bool.not_false,cond_true,Bool.false_or]
    refine Gu ((Qi hx some).trans rfl) (Gu ((Qi hy some).trans rfl) (Hc (wp_mono (RF ha hb x.id y.id) (fun r158 h4=>?_))))
    refine Hq (fun hh=>h3 (HU.2 (.inr (h4.1 hh)))) (fun hh=>h1 x y hx hy (fun _ hp=>?_))
    rcases HU.1 hp with hp | hp
    .have:=h0.2 hp; cases this
    .rw [h4.2 hp] at hh; cases hh
end lf
end Go.Proofs.YthkihfoleenlmaaGreat
