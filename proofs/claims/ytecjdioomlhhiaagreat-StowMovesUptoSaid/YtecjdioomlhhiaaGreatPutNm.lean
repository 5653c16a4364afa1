/-
 What Free,Take,Open,Close and Put return,of states that are right. What Put returns,and that states stay right.
-/
import Derived.Test.YtecjdioomlhhiaaGreatPutLm
set_option maxRecDepth 100000
set_option linter.unusedVariables false
namespace Go.Proofs.YtecjdioomlhhiaaGreat
open Go.RowKit
theorem Y27 {m:Option Bool} {p:Prop} [Decidable p] (h:Wp m (fun r=>r=true ↔ p)):m=some (decide p):=by
 obtain⟨r,hr,h⟩:=h
 rw [hr]
 congr 1
 cases r with
 | false=>exact(decide_eq_false (fun hp=>by have:=h.2 hp; cases this)).symm
 | true=>exact(decide_eq_true (h.1 rfl)).symm
instance (a b:Slot):Decidable (Ga9 a b):=by unfold Ga9 G93; infer_instance
theorem Y03 {l:List Stowed} {id:Int} (hx:id ∉ l.map (·.Box)):Rf l id=some (-1):=by
 rw [Gd7]
 rcases G41 (fun z:Stowed=>decide (z.Box=id)) l with ⟨h1,_,_⟩ | ⟨q,x1,h1,h2,h3,_⟩
 ·rw [h1]
 ·exact(hx (List.mem_map.2 ⟨x1,List.mem_of_getElem? h2,of_decide_eq_true h3⟩)).elim
theorem Hb7 {o:List Int} {v:Int}:o.any (fun y=>decide (v=y))=true ↔ v∈o:=by
 rw [List.any_eq_true]
 exact⟨fun⟨y,hy,e⟩=>of_decide_eq_true e ▸ hy,fun h=>⟨v,h,decide_eq_true rfl⟩⟩
theorem Sta.checked {s:H0} {boxes:List Box} {l:List Stowed} (h:Sta s boxes l) {o:List Int} (hO:Gdb s o):Qa s boxes l o=some true:=by
 have hl:=h.len
 exact G03 (wp_mono (Q84 (Gbf h.ship) boxes l o (by omega)) (fun r hr=>hr.2 ⟨hO,h.right⟩))
def Q69 (s:H0) (l:List Stowed) (k:Int):Prop:=∀ y∈l,∀ (m:Nat) (c:G3),y.Slot.G3=(m:Int)→s.Columns[m]? = some c→c.Deck=true→Ro s c≠k
theorem R9a {F:Nat} {s:H0} {boxes:List Box} {l:List Stowed} {o:List Int} (h:Sta s boxes l) (hO:Gdb s o) (hF:40≤F) {k:Nat} (hk:k < s.Covers.length) :
  Wp (G24 F s boxes l o (k:Int)) (fun r=>(¬ Q69 s l (k:Int)∧r=([],95))∨(Q69 s l (k:Int)∧r.2=0∧Gdb s r.1∧∀ a,a∈r.1 ↔ a∈o∨a=(k:Int))):=by
 have hs:=Gbf h.ship
 have hl:=h.len
 have hcl:=h.ship.covs.len
 have hol:=hO.len
 unfold G24
 refine Gy (h.checked hO) (Hg (fun h=>by cases h) (fun _=>Hg (fun h=>?_) (fun _=>?_)))
 ·simp only [Bool.or_eq_true,decide_eq_true_eq] at h; omega
 refine H6 (wp_mono (Q47 (Jfa h.ship) hk (fun x hx=>by have:=hs.rows x hx; omega) (by omega)) (fun up hup=>Hg (fun hh=>Gj (.inl ⟨fun h0=>?_,rfl⟩)) (fun hh=>?_)))
 ·have hh:=of_decide_eq_true hh
  obtain⟨a,ha⟩:∃ a,a∈up:=by
   cases up with
   | nil=>simp at hh
   | cons a r=>exact⟨a,by simp⟩
  obtain⟨y,hy,_,m,c,e1,e2,e3,e4⟩:=(hup a).1 ha
  exact h0 y hy m c e1 e2 e3 e4
 have hno:Q69 s l (k:Int):=fun y hy m c e1 e2 e3 e4=>by
  have:=(hup y.Box).2 ⟨y,hy,rfl,m,c,e1,e2,e3,e4⟩
  have hh:=of_decide_eq_false hh
  have:up≠[]:=fun e=>by rw [e] at this; cases this
  have:=List.length_pos_iff.2 this
  omega
 refine H6 (wp_mono (J8a hO.sorted (by omega) (by omega)) (fun r hr=>?_))
 obtain⟨n,h1,h2,h3,h4,h5⟩:=hr
 refine Hg (fun hf=>?_) (fun hf=>?_)
 ·have hin:(k:Int)∈o:=List.mem_of_getElem? (h5.1 hf)
  have e:Qg o=some o:=by
   unfold Qg
   refine Hfb (fun b hb=>?_)
   cases b with
   | true=>rw [hb rfl]; rfl
   | false=>
    show need _ _=_
    unfold need
    rw [Rc5 (by simp only [List.length_nil]; omega)]
    rfl
  exact Gy e (Gj (.inr ⟨hno,rfl,hO,fun a=>⟨.inl,fun hh=>hh.elim id (fun e=>e ▸ hin)⟩⟩))
 ·have hf:¬ o[n]? = some (k:Int):=fun e=>by rw [h5.2 e] at hf; cases hf
  have e:G4c o r.1 (k:Int)=some (o.take n++(k:Int)::o.drop n):=by
   unfold G4c
   rw [h1,decide_eq_true (show (0:Int)≤(n:Int) by omega),decide_eq_true (show (n:Int)≤(o.length:Int) by omega),decide_eq_true (show o.length≤100000 by omega),show ((n:Int)).toNat=n by omega]
   rfl
  have hmem:∀ a,a∈o.take n++(k:Int)::o.drop n ↔ a∈o∨a=(k:Int):=fun a=>by
   have:a∈o ↔ a∈o.take n∨a∈o.drop n:=by rw [← List.mem_append,List.take_append_drop]
   rw [this,List.mem_append,List.mem_cons]
   constructor
   ·rintro(h | h | h)
    ·exact .inl (.inl h)
    ·exact .inr h
    ·exact .inl (.inr h)
   ·rintro((h | h) | h)
    ·exact .inl h
    ·exact .inr (.inr h)
    ·exact .inr (.inl h)
  refine Gy e (Gj (.inr ⟨hno,rfl,⟨fun a ha=>?_,?_⟩,hmem⟩))
  ·rcases (hmem a).1 ha with h | h
   ·exact hO.mem a h
   ·omega
  ·have hso:=hO.sorted
   rw [← List.take_append_drop n o,List.pairwise_append] at hso
   refine List.pairwise_append.2 ⟨hso.1,List.pairwise_cons.2 ⟨fun a ha=>?_,hso.2.1⟩,fun a ha b hb=>?_⟩
   ·have h6:=h4 a ha
    have:a≠(k:Int):=fun e=>by
     subst e
     obtain⟨j,hj,e2⟩:=List.mem_iff_getElem.1 ha
     rw [List.length_drop] at hj
     rw [List.getElem_drop] at e2
     have hp:=List.pairwise_iff_getElem.1 hO.sorted
     rcases Nat.eq_zero_or_pos j with g | g
     ·subst g
      exact hf (by rw [← e2]; simp [List.getElem?_eq_getElem (show n < o.length by omega)])
     ·have g1:=hp n (n+j) (by omega) (by omega) (by omega)
      have g2:=h4 o[n] (List.mem_iff_getElem.2 ⟨0,by rw [List.length_drop]; omega,by rw [List.getElem_drop]; simp⟩)
      omega
    omega
   ·rcases List.mem_cons.1 hb with rfl | hb
    ·exact h3 a ha
    ·exact hso.2.2 a ha b hb
end Go.Proofs.YtecjdioomlhhiaaGreat
set_option maxRecDepth 100000
set_option linter.unusedVariables false
namespace Go.Proofs.YtecjdioomlhhiaaGreat
open Go.RowKit
def J9b (l:List Stowed) (x:Stowed) (r:List Stowed):Prop:=∃ pre post,l=pre++post∧r=pre++x::post∧(∀ y∈pre,y.Box < x.Box)∧(∀ y,post.head? = some y→x.Box≤y.Box)
theorem Qcd {F:Nat} {p:Hm} (hl:p.l.length≤1000) (hF:p.l.length < F):Wp (R3 F p) (J9b p.l p.x):=by
 unfold R3
 refine wp_loop (fun n=>∃ k:Nat,n=(k:Int)∧k≤p.l.length∧∀ y∈p.l.take k,y.Box < p.x.Box) (fun n=>((p.l.length:Int) - n).toNat) ⟨0,rfl,Nat.zero_le _,fun y hy=>by rw [List.take_zero] at hy; cases hy⟩ (by show ((p.l.length:Int) - 0).toNat < F; omega) (fun n nx hI hnx=>?_)
 obtain⟨k,rfl,h1,h2⟩:=hI
 have done:(∀ y,(p.l.drop k).head? = some y→p.x.Box≤y.Box)→Wp (bnd (Rx p.l (k:Int) p.x) fun r16=>some r16) (J9b p.l p.x):=fun h3=>by
  have e:Rx p.l (k:Int) p.x=some (p.l.take k++p.x::p.l.drop k):=by
   unfold Rx
   rw [decide_eq_true (show (0:Int)≤(k:Int) by omega),decide_eq_true (show (k:Int)≤(p.l.length:Int) by omega),decide_eq_true (show p.l.length≤100000 by omega),show ((k:Int)).toNat=k by omega]
   rfl
  exact Gy e (Gj ⟨p.l.take k,p.l.drop k,(List.take_append_drop k p.l).symm,rfl,h2,h3⟩)
 by_cases hk:k < p.l.length
 ·have hg:p.l[k]? = some p.l[k]:=List.getElem?_eq_getElem hk
  rw [decide_eq_true (show (k:Int) < (p.l.length:Int) by omega)]
  simp only [cond_true,Bool.true_and]
  refine H6 (G32 rfl hg (Gj (Hg (fun h=>Yb ⟨by omega,by omega⟩ (hnx _ ⟨k+1,by simp,by omega,fun y hy=>?_⟩ (by omega))) (fun h=>done fun y hy=>?_))))
  ·rw [List.take_succ_eq_append_getElem hk] at hy
   rcases List.mem_append.1 hy with hy | hy
   ·exact h2 y hy
   ·rw [List.mem_singleton] at hy; subst hy
    exact of_decide_eq_true h
  ·rw [List.head?_drop,hg] at hy
   cases hy
   have:=of_decide_eq_false h
   omega
 ·rw [decide_eq_false (show ¬ ((k:Int) < (p.l.length:Int)) by omega)]
  refine H6 (Gj (Hg (fun h=>by cases h) (fun _=>done fun y hy=>?_)))
  rw [List.head?_drop,List.getElem?_eq_none (by omega)] at hy
  cases hy
def J99 (s:H0) (o:List Int) (x:Slot):Prop:=∃ (m:Nat) (c:G3),x.G3=(m:Int)∧s.Columns[m]? = some c∧0≤Ro s c∧(c.Deck=true ↔ Ro s c∈o)
def Rb2 (l:List Stowed) (x:Slot):Prop:=∃ y∈l,Ga9 x y.Slot
def Rb4 (s:H0) (boxes:List Box) (q:List Stowed) (x:Slot):Prop:=∀ (m:Nat) (c:G3),x.G3=(m:Int)→s.Columns[m]? = some c→H6e boxes q m c
def Rb1 (s:H0) (boxes:List Box) (l:List Stowed) (o:List Int) (x:Stowed) (size:Int) (r:List Stowed×Int):Prop:=
 (¬ H39 s x.Slot size∧r=([],97))∨(H39 s x.Slot size∧((J99 s o x.Slot∧r=([],91))∨(¬ J99 s o x.Slot∧((Rb2 l x.Slot∧r=([],92))∨(¬ Rb2 l x.Slot∧((¬ H6d x.Slot (l.map (·.Slot))∧r=([],93))∨(H6d x.Slot (l.map (·.Slot))∧∃ q,J9b l x q∧((¬ Rb4 s boxes q x.Slot∧r=([],94))∨(Rb4 s boxes q x.Slot∧r=(q,0))))))))))
theorem R8d {s:H0} {boxes:List Box} {l:List Stowed} {o:List Int} (h:Sta s boxes l) {x:Stowed} {size:Int} (hx:H39 s x.Slot size):Wp (G2f (Hm.mk s boxes l o x)) (fun r=>r=true ↔ J99 s o x.Slot):=by
 have hs:=Gbf h.ship
 obtain⟨m,c,hm,hc,_⟩:=hx.col
 have hcl:J99 s o x.Slot ↔ (0≤Ro s c∧(c.Deck=true ↔ Ro s c∈o)):=by
  constructor
  ·rintro⟨m',c',e1,e2,e3⟩
   have:m'=m:=by omega
   subst this
   rw [hc] at e2; cases e2
   exact e3
  ·exact fun e=>⟨m,c,hm,hc,e⟩
 unfold G2f
 show Wp (bnd (G46 s x.Slot.G3) _) _
 rw [hm]
 refine Gy (J3e hc (fun x hx=>by have:=hs.rows x hx; omega) (by have:=hs.covs; omega)) ?_
 by_cases hk:0≤Ro s c
 ·rw [decide_eq_true hk]
  simp only [cond_true,Bool.true_and]
  refine H6 (G32 rfl hc (Gj (Gy (Hb6 _ _) (Gj ?_))))
  rw [hcl,beq_iff_eq,Bool.eq_iff_iff,Hb7]
  exact⟨fun h=>⟨hk,h⟩,fun h=>h.2⟩
 ·rw [decide_eq_false hk]
  refine H6 (Gj (H6 (Gj (Gj (Yn fun hh=>hk (hcl.1 hh).1)))))
theorem Rd5 {s:H0} {boxes:List Box} {l:List Stowed} {o:List Int} {x:Stowed}:Wp (G44 (Hm.mk s boxes l o x)) (fun r=>r=true ↔ Rb2 l x.Slot):=by
 have h:=H8a (p:=fun y:Stowed=>decide (Ga9 x.Slot y.Slot)) (f:=fun z0=>Yi z0 (Hm.mk s boxes l o x)) (xs:=l) (fun y _=>by
  unfold Yi
  exact G03 (Gy (Y27 (Q4a x.Slot y.Slot)) (Gj rfl)))
 have e:Rn l (fun z0=>Yi z0 (Hm.mk s boxes l o x))=some (Hc6 (fun y:Stowed=>decide (Ga9 x.Slot y.Slot)) l):=h
 unfold G44 Ya
 refine H6 (Gy e (Gj (Gj ?_)))
 rw [H62,List.any_eq_true]
 exact⟨fun⟨y,hy,h⟩=>⟨y,hy,of_decide_eq_true h⟩,fun⟨y,hy,h⟩=>⟨y,hy,decide_eq_true h⟩⟩
theorem Rca {F:Nat} {s:H0} {boxes:List Box} {l:List Stowed} {o:List Int} (h:Sta s boxes l) (hO:Gdb s o) (hF:40≤F) {x:Stowed} {b:Box} (hb:G34 boxes x.Box=some b) (hz:b.Size=20∨b.Size=40) (hx:x.Box ∉ l.map (·.Box)) :
  Wp (G0b F s boxes l o x) (Rb1 s boxes l o x b.Size):=by
 have hs:=Gbf h.ship
 have hl:=h.len
 unfold G0b
 refine Gy (h.checked hO) (Hg (fun h=>by cases h) (fun _=>Gy (H29 boxes x.Box) ?_))
 rw [hb]
 refine Hg (fun hh=>?_) (fun _=>Gy (Y03 hx) (Hg (fun hh=>by simp at hh) (fun _=>?_)))
 ·simp only [Bool.not_true,Bool.false_or,Bool.and_eq_true,decide_eq_true_eq] at hh
  omega
 refine H6 (wp_mono (Je7 s x.Slot b.Size) (fun r15 h15=>Hg (fun hh=>Gj (.inl ⟨fun hk=>?_,rfl⟩)) (fun hh=>?_)))
 ·rw [h15.2 hk] at hh; cases hh
 have hslot:H39 s x.Slot b.Size:=h15.1 (by simpa using hh)
 have htier : -1000000≤x.Slot.Tier∧x.Slot.Tier≤1000000:=by
  obtain⟨m,c,_,hc,ht⟩:=hslot.col
  have:=hs.tiers c (List.mem_of_getElem? hc)
  have:=hslot.tier
  omega
 obtain⟨q,hq,hins⟩:=Qcd (F:=F) (p:=Hm.mk s boxes l o x) (by show l.length≤1000; omega) (by show l.length < F; omega)
 have hql:q.length≤1000000:=by
  obtain⟨pre,post,e1,e2,_⟩:=hins
  have:l=pre++post:=e1
  rw [e2]
  have h2:=congrArg List.length this
  simp only [List.length_append,List.length_cons] at h2 ⊢
  omega
 refine Y2 (by decide) ?_
 rw [show (4:Int).toNat=4 from rfl]
 refine Hf3 (fun i _=>(1≤i→¬ J99 s o x.Slot)∧(2≤i→¬ Rb2 l x.Slot)∧(3≤i→H6d x.Slot (l.map (·.Slot)))∧(4≤i→Rb4 s boxes q x.Slot)) ⟨fun h=>by omega,fun h=>by omega,fun h=>by omega,fun h=>by omega⟩ (fun i u nx hi hI hnx=>?_) (fun u hI=>?_)
 ·obtain⟨i1,i2,i3,i4⟩:=hI
  refine H5b (fun _=>(1≤i+1→¬ J99 s o x.Slot)∧(2≤i+1→¬ Rb2 l x.Slot)∧(3≤i+1→H6d x.Slot (l.map (·.Slot)))∧(4≤i+1→Rb4 s boxes q x.Slot)) (fun K hK=>?_) (fun j hj=>hnx _ hj)
  refine Hg (fun h0=>?_) (fun h0=>Hg (fun h1=>?_) (fun h1=>Hg (fun h2=>?_) (fun h2=>Hg (fun h3=>?_) (fun h3=>?_))))
  ·have h0:=of_decide_eq_true h0
   refine H6 (wp_mono (R8d h hslot) (fun r hr=>Hg (fun hh=>Yb ⟨by omega,by omega⟩ (Gj (.inr ⟨hslot,.inl ⟨hr.1 hh,?_⟩⟩))) (fun hh=>hK _ ⟨fun _ hk=>?_,fun h=>by omega,fun h=>by omega,fun h=>by omega⟩)))
   ·rw [h0]; rfl
   ·rw [hr.2 hk] at hh; cases hh
  ·have h0:=of_decide_eq_false h0
   have h1:=of_decide_eq_true h1
   refine H6 (wp_mono Rd5 (fun r hr=>Hg (fun hh=>Yb ⟨by omega,by omega⟩ (Gj (.inr ⟨hslot,.inr ⟨i1 (by omega),.inl ⟨hr.1 hh,?_⟩⟩⟩))) (fun hh=>hK _ ⟨fun _=>i1 (by omega),fun _ hk=>?_,fun h=>by omega,fun h=>by omega⟩)))
   ·rw [h1]; rfl
   ·rw [hr.2 hk] at hh; cases hh
  ·have h2:=of_decide_eq_true h2
   unfold G53
   refine H6 (Gy (Je2 l (by omega)) (H6 (wp_mono (Q4b x.Slot (l.map (·.Slot)) htier) (fun r hr=>Gj (Hg (fun hh=>Yb ⟨by omega,by omega⟩ (Gj (.inr ⟨hslot,.inr ⟨i1 (by omega),.inr ⟨i2 (by omega),.inl ⟨fun hk=>?_,?_⟩⟩⟩⟩))) (fun hh=>hK _ ⟨fun _=>i1 (by omega),fun _=>i2 (by omega),fun _=>hr.1 (by simpa using hh),fun h=>by omega⟩))))))
   ·rw [hr.2 hk] at hh; cases hh
   ·rw [h2]; rfl
  ·have h3:=of_decide_eq_true h3
   obtain⟨m,c,hm,hc,_⟩:=hslot.col
   have hfc:Rb4 s boxes q x.Slot ↔ H6e boxes q m c:=by
    refine⟨fun hf=>hf m c hm hc,fun hf m' c' e1 e2=>?_⟩
    have:m'=m:=by omega
    subst this
    rw [hc] at e2; cases e2
    exact hf
   unfold G5b
   refine H6 (Gy hq ?_)
   show Wp (bnd (G88 s boxes q x.Slot.G3) _) _
   rw [hm]
   refine H6 (wp_mono (Q48 hc hql) (fun r hr=>Gj (Hg (fun hh=>Yb ⟨by omega,by omega⟩ (Gj (.inr ⟨hslot,.inr ⟨i1 (by omega),.inr ⟨i2 (by omega),.inr ⟨i3 (by omega),q,hins,.inl ⟨fun hk=>?_,?_⟩⟩⟩⟩⟩))) (fun hh=>hK _ ⟨fun _=>i1 (by omega),fun _=>i2 (by omega),fun _=>i3 (by omega),fun _=>hfc.2 (hr.1 (by simpa using hh))⟩))))
   ·rw [hr.2 (hfc.1 hk)] at hh; cases hh
   ·rw [h3]; rfl
  ·have a0:=of_decide_eq_false h0
   have a1:=of_decide_eq_false h1
   have a2:=of_decide_eq_false h2
   have a3:=of_decide_eq_false h3
   omega
 ·obtain⟨i1,i2,i3,i4⟩:=hI
  exact Gy hq (Gj (.inr ⟨hslot,.inr ⟨i1 (by omega),.inr ⟨i2 (by omega),.inr ⟨i3 (by omega),q,hins,.inr ⟨i4 (by omega),rfl⟩⟩⟩⟩⟩))
end Go.Proofs.YtecjdioomlhhiaaGreat
