/-
 What the reference's Put tells,of a state that is right. StowMoves: Free,Take,Put,Open and Close tell the same as the reference's.
-/
import Derived.Test.YtecjdioomlhhiaaGreatPutNm
set_option maxRecDepth 100000
set_option linter.unusedVariables false
namespace Go.Proofs.YtecjdioomlhhiaaGreat
open Go.RowKit

theorem Jfe {l q:List Stowed} {x:Stowed} (h:J9b l x q):q.Perm (x::l):=by
 obtain⟨pre,post,rfl,rfl,_⟩:=h
 exact List.perm_middle
theorem Jfd {l q:List Stowed} {x:Stowed} (h:J9b l x q) (hs:l.Pairwise (fun a b=>a.Box < b.Box)) (hx:x.Box ∉ l.map (·.Box)):q.Pairwise (fun a b=>a.Box < b.Box):=by
 obtain⟨pre,post,rfl,rfl,h1,h2⟩:=h
 obtain⟨s1,s2,s3⟩:=List.pairwise_append.1 hs
 refine List.pairwise_append.2 ⟨s1,List.pairwise_cons.2 ⟨fun y hy=>?_,s2⟩,fun a ha b hb=>?_⟩
 ·have hne:x.Box≠y.Box:=fun e=>hx (List.mem_map.2 ⟨y,List.mem_append.2 (.inr hy),e.symm⟩)
  cases post with
  | nil=>cases hy
  | cons z r=>
   have h3:=h2 z rfl
   rcases List.mem_cons.1 hy with rfl | hy
   ·omega
   ·have:=(List.pairwise_cons.1 s2).1 y hy
    omega
 ·rcases List.mem_cons.1 hb with rfl | hb
  ·exact h1 a ha
  ·exact s3 a ha b hb
theorem Qe0 {a b:List Stowed} (hp:a.Perm b) (ha:a.Pairwise (fun x y=>x.Box < y.Box)) (hb:b.Pairwise (fun x y=>x.Box < y.Box)):a=b:=
 List.Perm.eq_of_pairwise (le:=fun x y:Stowed=>x.Box < y.Box) (fun x y _ _ h1 h2=>by omega) ha hb hp
theorem Qc9 {a b:Int} (h:G93 a b):G93 b a:=by
 unfold G93 at h ⊢
 omega
theorem Q58 {a b:Slot} (h:Ga9 a b):Ga9 b a:=⟨h.1.symm,h.2.1.symm,Qc9 h.2.2⟩
theorem Hae (o:List Int) (v:Int):Jn o v=some (decide (v∈o)):=by
 refine G03 ?_
 unfold Jn
 refine Qp (fun pre _=>v ∉ pre) (fun h=>(List.not_mem_nil h).elim) (fun pre y post u nx e hI hnx=>Hg (fun h=>Gj ?_) (fun h=>hnx _ ?_)) (fun u hI=>Gj (decide_eq_false hI).symm)
 ·have h:=of_decide_eq_true h
  exact(decide_eq_true (by rw [e,h]; simp)).symm
 ·have h:=of_decide_eq_false h
  rw [List.mem_append,List.mem_singleton]
  exact fun hh=>hh.elim hI (fun e=>h e.symm)
theorem Qe3 {β:Type} {Q:β→Prop} {k x:Int} {o:List Int} {s:H0} {m:Nat} {c:G3} {A B:Option β} (hm:x=(m:Int)) (hc:s.Columns[m]? = some c) (ha:(0≤k∧(c.Deck=true ↔ k∈o))→Wp A Q) (hb:¬ (0≤k∧(c.Deck=true ↔ k∈o))→Wp B Q) :
  Wp (bnd (bif decide (0≤k) then Qq s.Columns x some else some default) fun y24=>
   bnd (bif ((decide (0≤k))&&y24.Deck) then Jn o k else some default) fun r25=>
   bnd (bif ((!(((decide (0≤k))&&y24.Deck)&&r25))&&(decide (0≤k))) then Qq s.Columns x some else some default) fun y26=>
   bnd (bif ((!(((decide (0≤k))&&y24.Deck)&&r25))&&((decide (0≤k))&&(!y26.Deck))) then Jn o k else some default) fun r27=>
   bif ((((decide (0≤k))&&y24.Deck)&&r25)||(((decide (0≤k))&&(!y26.Deck))&&(!r27))) then A else B) Q:=by
 subst hm
 by_cases hk:0≤k
 ·rw [decide_eq_true hk,Y9 hc,Hae]
  simp only [cond_true,Bool.true_and,G07]
  cases hd:c.Deck with
  | true=>
   by_cases ho:k∈o
   ·rw [decide_eq_true ho]
    simp only [cond_true,cond_false,Bool.true_and,Bool.and_true,Bool.not_true,Bool.false_and,G07,Bool.true_or]
    exact ha ⟨hk,fun _=>ho,fun _=>hd⟩
   ·rw [decide_eq_false ho]
    simp only [cond_true,cond_false,Bool.true_and,Bool.and_true,Bool.not_true,Bool.not_false,Bool.false_and,Bool.and_false,G07,Bool.false_or,hd]
    exact hb (fun h=>ho (h.2.1 hd))
  | false=>
   by_cases ho:k∈o
   ·rw [decide_eq_true ho]
    simp only [cond_true,cond_false,Bool.true_and,Bool.and_true,Bool.not_true,Bool.not_false,Bool.false_and,Bool.and_false,G07,Bool.false_or,hd]
    exact hb (fun h=>by have:=h.2.2 ho; rw [hd] at this; cases this)
   ·rw [decide_eq_false ho]
    simp only [cond_true,cond_false,Bool.true_and,Bool.and_true,Bool.not_true,Bool.not_false,Bool.false_and,Bool.and_false,G07,Bool.false_or,hd]
    exact ha ⟨hk,fun h=>(by rw [hd] at h; cases h),fun h=>(ho h).elim⟩
 ·rw [decide_eq_false hk]
  simp only [cond_false,G07,Bool.false_and,Bool.and_false,Bool.or_self]
  exact hb (fun h=>hk h.1)
theorem Q79 {st:List Stowed} {y:Stowed} (h:st.length≤1000):decide ((st.length+[y].length)*32≤140737488355328∧st.length+[y].length≤maxLen)=true:=by
 refine decide_eq_true ⟨?_,?_⟩
 ·rw [List.length_singleton]; omega
 ·rw [List.length_singleton]; simp only [maxLen]; omega
theorem R94 {F:Nat} {s:H0} {boxes:List Box} {l:List Stowed} {o:List Int} (h:Sta s boxes l) (hC:Jf F s boxes l o=some true) {x:Stowed} {b:Box} (hb:G34 boxes x.Box=some b) (hz:b.Size=20∨b.Size=40) (hx:x.Box ∉ l.map (·.Box)) :
  Wp (Qj F s boxes l o x) (Rb1 s boxes l o x b.Size):=by
 have hs:=Gbf h.ship
 have hl:=h.len
 unfold Qj
 refine Gy hC (Hg (fun h=>by cases h) (fun _=>Gy (H84 boxes x.Box) ?_))
 rw [hb]
 refine Hg (fun hh=>?_) (fun _=>Gy (Q7b l x.Box) (Hg (fun hh=>?_) (fun _=>Yb ⟨by show (-9223372036854775808:Int)≤b.Size; omega,by show b.Size≤9223372036854775807; omega⟩ ?_)))
 ·simp only [Bool.not_true,Bool.false_or,Bool.and_eq_true,decide_eq_true_eq] at hh
  omega
 ·rw [H62,List.any_eq_true] at hh
  obtain⟨y,hy,e⟩:=hh
  exact(hx (List.mem_map.2 ⟨y,hy,of_decide_eq_true e⟩)).elim
 refine H6 (wp_mono (Qcf s x.Slot b.Size) (fun r18 h18=>Hg (fun hh=>Gj (.inl ⟨fun hk=>?_,rfl⟩)) (fun hh=>?_)))
 ·rw [h18.2 hk] at hh; cases hh
 have hslot:H39 s x.Slot b.Size:=h18.1 (by simpa using hh)
 have htier : -1000000≤x.Slot.Tier∧x.Slot.Tier≤1000000:=by
  obtain⟨m,c,_,hc,ht⟩:=hslot.col
  have:=hs.tiers c (List.mem_of_getElem? hc)
  have:=hslot.tier
  omega
 obtain⟨m,c,hm,hc,_⟩:=hslot.col
 have hcl:J99 s o x.Slot ↔ (0≤Ro s c∧(c.Deck=true ↔ Ro s c∈o)):=by
  constructor
  ·rintro⟨m',c',e1,e2,e3⟩
   have:m'=m:=by omega
   subst this
   rw [hc] at e2; cases e2
   exact e3
  ·exact fun e=>⟨m,c,hm,hc,e⟩
 have hcv:Qk s x.Slot.G3=some (Ro s c):=by rw [hm]; exact J63 hc
 refine Gy hcv (Qe3 hm hc (fun hk=>Gj (.inr ⟨hslot,.inl ⟨hcl.2 hk,rfl⟩⟩)) (fun hk=>?_))
 have hns:¬ J99 s o x.Slot:=fun hh=>hk (hcl.1 hh)
 refine Qp (fun pre _=>∀ y∈pre,¬ Ga9 x.Slot y.Slot) (fun y hy=>(List.not_mem_nil hy).elim) (fun pre y post u nx e hI hnx=>H6 (wp_mono (Qd0 y.Slot x.Slot) (fun r hr=>Hg (fun hh=>Gj (.inr ⟨hslot,.inr ⟨hns,.inl ⟨⟨y,by rw [e]; simp,Q58 (hr.1 hh)⟩,rfl⟩⟩⟩)) (fun hh=>hnx _ (Qm (P:=fun y:Stowed=>¬ Ga9 x.Slot y.Slot) hI (fun hm=>by rw [hr.2 (Q58 hm)] at hh; cases hh)))))) (fun u hI=>?_)
 have hmet:¬ Rb2 l x.Slot:=fun⟨y,hy,hm⟩=>hI y hy hm
 refine Gy (Q51 l (by omega)) (H6 (wp_mono (Qd2 x.Slot (l.map (·.Slot)) htier) (fun r hr=>Hg (fun hh=>Gj (.inr ⟨hslot,.inr ⟨hns,.inr ⟨hmet,.inl ⟨fun hk=>?_,rfl⟩⟩⟩⟩)) (fun hh=>?_))))
 ·rw [hr.2 hk] at hh; cases hh
 have hheld:=hr.1 (by simpa using hh)
 have hne:∀ y∈l,y.Box≠x.Box:=fun y hy e=>hx (List.mem_map.2 ⟨y,hy,e⟩)
 refine Qp (fun pre st=>st.1.length≤pre.length+1∧((st.2=false∧st.1=pre∧∀ y∈pre,y.Box < x.Box)∨(st.2=true∧∃ a d,pre=a++d∧st.1=a++x::d∧(∀ y∈a,y.Box < x.Box)∧∃ z,d.head? = some z∧x.Box < z.Box))) ⟨by simp,.inl ⟨rfl,rfl,fun y hy=>(List.not_mem_nil hy).elim⟩⟩ (fun pre y post st nx e hI hnx=>?_) (fun st hI=>?_)
 ·obtain⟨q,t⟩:=st
  obtain⟨i0,hI⟩:=hI
  dsimp only at i0 hI ⊢
  have hyl:y∈l:=by rw [e]; simp
  have hpl:pre.length < l.length:=by rw [e]; simp
  have hyne:=hne y hyl
  refine H5b (fun j=>j.1.length≤pre.length+1∧((j.2=false∧j.1=pre∧(∀ y∈pre,y.Box < x.Box)∧y.Box < x.Box)∨(j.2=true∧∃ a d,pre=a++d∧j.1=a++x::d∧(∀ y∈a,y.Box < x.Box)∧((d=[]∧x.Box < y.Box)∨∃ z,d.head? = some z∧x.Box < z.Box)))) (fun K hK=>Hg (fun hc=>?_) (fun hc=>hK _ ?_)) (fun j hj=>?_)
  ·simp only [Bool.and_eq_true,Bool.not_eq_true',decide_eq_true_eq] at hc
   rcases hI with ⟨a1,a2,a3⟩ | ⟨a1,_⟩
   ·refine Y2 (Q79 (by omega)) (hK _ ⟨?_,.inr ⟨rfl,pre,[],(List.append_nil pre).symm,by rw [a2],a3,.inl ⟨rfl,hc.2⟩⟩⟩)
    show (q++[x]).length≤_
    rw [a2]; simp
   ·rw [hc.1] at a1; cases a1
  ·refine⟨i0,?_⟩
   rcases hI with ⟨a1,a2,a3⟩ | ⟨a1,a,d,e1,e2,e3,e4⟩
   ·refine .inl ⟨a1,a2,a3,?_⟩
    rw [a1] at hc
    have:¬ x.Box < y.Box:=by simpa using hc
    omega
   ·exact .inr ⟨a1,a,d,e1,e2,e3,.inr e4⟩
  ·obtain⟨q2,t2⟩:=j
   obtain⟨j0,hj⟩:=hj
   dsimp only at j0 hj ⊢
   refine Y2 (Q79 (by omega)) (hnx _ ⟨?_,?_⟩)
   ·show (q2++[y]).length≤_
    simp only [List.length_append,List.length_singleton]; omega
   ·rcases hj with ⟨a1,a2,a3,a4⟩ | ⟨a1,a,d,e1,e2,e3,e4⟩
    ·exact .inl ⟨a1,by show q2++[y]=_; rw [a2],Qm (P:=fun y:Stowed=>y.Box < x.Box) a3 a4⟩
    ·refine .inr ⟨a1,a,d++[y],by rw [e1,List.append_assoc],by show q2++[y]=_; rw [e2]; simp,e3,?_⟩
     rcases e4 with ⟨rfl,h⟩ | ⟨z,hz,h⟩
     ·exact⟨y,rfl,h⟩
     ·refine⟨z,?_,h⟩
      cases d with
      | nil=>cases hz
      | cons w r=>exact hz
 ·obtain⟨q,t⟩:=st
  obtain⟨i0,hI⟩:=hI
  dsimp only at i0 hI ⊢
  refine H5b (fun j=>J9b l x j) (fun K hK=>Hg (fun hc=>?_) (fun hc=>hK _ ?_)) (fun j hins=>?_)
  ·rcases hI with ⟨a1,a2,a3⟩ | ⟨a1,_⟩
   ·exact Y2 (Q79 (by omega)) (hK _ ⟨l,[],(List.append_nil l).symm,by rw [a2],a3,fun y hy=>by cases hy⟩)
   ·rw [a1] at hc; cases hc
  ·rcases hI with ⟨a1,a2,a3⟩ | ⟨a1,a,d,e1,e2,e3,z,e4,e5⟩
   ·rw [a1] at hc; cases hc
   ·exact⟨a,d,e1,e2,e3,fun y hy=>by rw [e4] at hy; cases hy; omega⟩
  ·have hql:j.length≤1000000:=by
    have:=(Jfe hins).length_eq
    simp only [List.length_cons] at this
    omega
   have hhc:0≤c.Height:=by
    have:=((Jfa h.ship).col c (List.mem_of_getElem? hc)).place
    omega
   have hfc:Rb4 s boxes j x.Slot ↔ H6e boxes j m c:=by
    refine⟨fun hf=>hf m c hm hc,fun hf m' c' e1 e2=>?_⟩
    have:m'=m:=by omega
    subst this
    rw [hc] at e2; cases e2
    exact hf
   have hhi:Wp (Ry s boxes j x.Slot.G3) (fun r=>r=true ↔ ¬ H6e boxes j m c):=by rw [hm]; exact Qd1 hc hhc hql
   refine H6 (wp_mono hhi (fun r hr=>Hg (fun hh=>Gj (.inr ⟨hslot,.inr ⟨hns,.inr ⟨hmet,.inr ⟨hheld,j,hins,.inl ⟨fun hk=>hr.1 hh (hfc.1 hk),rfl⟩⟩⟩⟩⟩)) (fun hh=>Gj (.inr ⟨hslot,.inr ⟨hns,.inr ⟨hmet,.inr ⟨hheld,j,hins,.inr ⟨hfc.2 ?_,rfl⟩⟩⟩⟩⟩))))
   by_cases hf:H6e boxes j m c
   ·exact hf
   ·rw [hr.2 hf] at hh; cases hh
theorem Rb1.eq {s:H0} {boxes:List Box} {l:List Stowed} {o:List Int} {x:Stowed} {size:Int} {r r':List Stowed×Int} (hs:l.Pairwise (fun a b=>a.Box < b.Box)) (hx:x.Box ∉ l.map (·.Box)) (h:Rb1 s boxes l o x size r) (h':Rb1 s boxes l o x size r'):r=r':=by
 have hi:∀ {q q':List Stowed},J9b l x q→J9b l x q'→q=q':=fun h1 h2=>Qe0 ((Jfe h1).trans (Jfe h2).symm) (Jfd h1 hs hx) (Jfd h2 hs hx)
 rcases h with ⟨a,e⟩ | ⟨a,⟨b,e⟩ | ⟨b,⟨d,e⟩ | ⟨d,⟨g,e⟩ | ⟨g,q,i,⟨j,e⟩ | ⟨j,e⟩⟩⟩⟩⟩ <;> rcases h' with ⟨a',e'⟩ | ⟨a',⟨b',e'⟩ | ⟨b',⟨d',e'⟩ | ⟨d',⟨g',e'⟩ | ⟨g',q',i',⟨j',e'⟩ | ⟨j',e'⟩⟩⟩⟩⟩ <;> first | (rw [e,e']; done) | contradiction | (have hq:=hi i i'; subst hq; first | (rw [e,e']; done) | contradiction)
end Go.Proofs.YtecjdioomlhhiaaGreat
set_option maxRecDepth 100000
set_option linter.unusedVariables false
namespace Go.Proofs.YtecjdioomlhhiaaGreat
open Go.RowKit

structure In9 (s:H0) (boxes:List Box) (l:List Stowed):Prop where
 cols:s.Columns.length≤20
 covs:s.Covers.length≤20
 len:l.length≤30
 tiers:∀ c∈s.Columns,c.Tiers≤12
 rows:∀ x∈s.Covers,x.Rows.length≤40
 plugs:∀ c∈s.Columns,c.Plugs.length≤1048576
 size:∀ b∈boxes,0≤b.Size∧b.Size≤255
theorem R33 {F:Nat} {s:H0} {boxes:List Box} {l:List Stowed} (h:In9 s boxes l):∃ a,G1b s boxes l=some a∧Yq F s boxes l=some a∧(a=true→Sta s boxes l):=by
 have hrw:∀ x∈s.Covers,x.Rows.length≤1048576:=fun x hx=>by have:=h.rows x hx; omega
 have hl:=h.len
 obtain⟨a,ha,ha'⟩:=Q52 (boxes:=boxes) (l:=l) h.plugs hrw (by omega)
 obtain⟨b,hb,hb'⟩:=Rc8 (F:=F) (boxes:=boxes) (l:=l) h.plugs hrw h.size (by omega)
 have e:a=b:=by
  have:=ha'.trans hb'.symm
  cases a <;> cases b <;> simp_all
 subst e
 refine⟨a,ha,hb,fun hh=>?_⟩
 obtain⟨hS,hR⟩:=ha'.1 hh
 obtain⟨c,hc,hc'⟩:=Je9 s h.plugs hrw
 rw [hc'.2 hS] at hc
 have hSm:Small s:=⟨hc,⟨hS.num.1,by have:=h.cols; omega⟩,fun c hc=>by have:=h.tiers c hc; omega,by have:=h.covs; omega,fun x hx=>by have:=h.rows x hx; omega⟩
 exact⟨⟨hSm,hS,h.plugs,⟨h.covs⟩⟩,hR,h.len⟩
theorem J51 {F:Nat} {s:H0} {boxes:List Box} {l:List Stowed} (h:In9 s boxes l) (o:List Int):∃ a,Qa s boxes l o=some a∧Jf F s boxes l o=some a∧(a=true→Sta s boxes l∧Gdb s o):=by
 obtain⟨a,h1,h2,h3⟩:=R33 (F:=F) h
 have e:Jf F s boxes l o=Qa s boxes l o:=by
  unfold Jf Qa
  rw [h1,h2]
 rw [e]
 obtain⟨r,hr,hr'⟩:=J96 (boxes:=boxes) (l:=l) (R:=a=true) (by have:=h.covs; omega) o ⟨a,h1,Iff.rfl⟩
 exact⟨r,hr,hr,fun hh=>⟨h3 (hr'.1 hh).2,(hr'.1 hh).1⟩⟩
theorem R41 {s:H0} (hr:∀ x∈s.Covers,x.Rows.length≤1000000) (hl:s.Covers.length≤1000000) {m:Nat} {c:G3} (hc:s.Columns[m]? = some c):∃ v,G66 s (m:Int)=some v∧Yp s (m:Int)=some v:=⟨_,Je4 hc hr hl,R95 hc⟩
theorem Rde {l:List Stowed} {id:Int}:(He1 l id=none∧Rf l id=some (-1)∧id ∉ l.map (·.Box))∨∃ (q:Nat) (x:Stowed),He1 l id=some x∧Rf l id=some (q:Int)∧l[q]? = some x∧x.Box=id:=by
 rcases G41 (fun x:Stowed=>decide (x.Box=id)) l with ⟨h1,h2,h3⟩ | ⟨q,x,h1,h2,h3,h4⟩
 ·refine .inl ⟨h3,by rw [Gd7,h1],fun hm=>?_⟩
  obtain⟨y,hy,e⟩:=List.mem_map.1 hm
  have:=h2 y hy
  rw [decide_eq_true e] at this; cases this
 ·exact .inr ⟨q,x,h4,by rw [Gd7,h1],h2,of_decide_eq_true h3⟩
theorem Q5e {F:Nat} {s:H0} {boxes:List Box} {l:List Stowed} (h:In9 s boxes l) (o:List Int) (id:Int):∃ v,G54 s boxes l o id=some v∧Z3 F s boxes l o id=some v∧(v=0→Sta s boxes l∧id∈l.map (·.Box)):=by
 obtain⟨a,h1,h2,h3⟩:=J51 (F:=F) h o
 have hl:=h.len
 have hrw:∀ x∈s.Covers,x.Rows.length≤1000000:=fun x hx=>by have:=h.rows x hx; omega
 have hcv:=h.covs
 unfold G54 Z3
 rw [h1,h2,Je5 l id (by omega),R96 l id (by omega)]
 cases a with
 | false=>exact⟨2,rfl,rfl,fun h=>absurd h (by decide)⟩
 | true=>
  obtain⟨hS,hO⟩:=h3 rfl
  simp only [G07,Bool.not_true,cond_false]
  rcases Rde (l:=l) (id:=id) with ⟨g1,g2,g3⟩ | ⟨q,x,g1,g2,g3,g4⟩
  ·have e:H77 l id=([],6):=by unfold H77; rw [g1]
   rw [e]
   exact⟨6,rfl,rfl,fun h=>absurd h (by decide)⟩
  ·have e:H77 l id=(J0c l x.Slot,0):=by unfold H77; rw [g1]
   rw [e]
   have c1:decide ((0:Int)≠0)=false:=by decide
   simp only [c1,cond_false]
   cases hp:decide (0 < ((J0c l x.Slot).length:Int)) with
   | true=>exact⟨90,rfl,rfl,fun h=>absurd h (by decide)⟩
   | false=>
    have hg:R4 l id=some (q:Int):=by
     rw [Q7b,← Gd7]; exact g2
    have hx:x∈l:=List.mem_of_getElem? g3
    obtain⟨m,c,hm,hc⟩:=hS.colIn hx
    obtain⟨v,v1,v2⟩:=R41 hrw (by omega) hc
    rw [g2,hg]
    simp only [G07,cond_false]
    rw [Y9 g3,Y9 g3]
    rw [hm,v1,v2]
    simp only [G07]
    rw [Hb6,Hae]
    have e2:o.any (fun y=>decide (v=y))=decide (v∈o):=by
     rw [Bool.eq_iff_iff,Hb7,decide_eq_true_eq]
    rw [e2]
    have hin:id∈l.map (·.Box):=List.mem_map.2 ⟨x,hx,g4⟩
    cases decide (0≤v) <;> cases decide (v∈o) <;> first | exact⟨0,rfl,rfl,fun _=>⟨hS,hin⟩⟩ | exact⟨91,rfl,rfl,fun h=>absurd h (by decide)⟩
theorem J50:∀ {l:List Stowed} (hs:l.Pairwise (fun a b=>a.Box < b.Box)) {q:Nat} {x:Stowed} (hq:l[q]? = some x),l.eraseIdx q=l.filter (fun y=>decide (y.Box≠x.Box))
 | [],_,q,x,hq=>by simp at hq
 | z::r,hs,0,x,hq=>by
  simp at hq; subst hq
  obtain⟨h1,h2⟩:=List.pairwise_cons.1 hs
  rw [List.eraseIdx_zero,List.tail_cons,List.filter_cons_of_neg (by simp)]
  refine(List.filter_eq_self.2 fun y hy=>decide_eq_true (show y.Box≠z.Box by have:=h1 y hy; omega)).symm
 | z::r,hs,q+1,x,hq=>by
  have hq:r[q]? = some x:=by simpa using hq
  obtain⟨h1,h2⟩:=List.pairwise_cons.1 hs
  have:=h1 x (List.mem_of_getElem? hq)
  rw [List.eraseIdx_cons_succ,List.filter_cons_of_pos (p:=fun y:Stowed=>decide (y.Box≠x.Box)) (decide_eq_true (show z.Box≠x.Box by omega)),J50 h2 hq]
theorem Rf5 {β:Type} {st:List β} {y:β} (h:st.length≤1000000):decide ((st.length+[y].length)*32≤140737488355328∧st.length+[y].length≤maxLen)=true:=by
 refine decide_eq_true ⟨?_,?_⟩
 ·rw [List.length_singleton]; omega
 ·rw [List.length_singleton]; simp only [maxLen]; omega
theorem R8a {F:Nat} {s:H0} {boxes:List Box} {l:List Stowed} (h:In9 s boxes l) (o:List Int) (id:Int):∃ v,G64 s boxes l o id=some v∧Z2 F s boxes l o id=some v:=by
 obtain⟨v,h1,h2,h3⟩:=Q5e (F:=F) h o id
 have hl:=h.len
 by_cases hv:v=0
 ·obtain⟨hS,hin⟩:=h3 hv
  rcases Rde (l:=l) (id:=id) with ⟨g1,g2,g3⟩ | ⟨q,x,g1,g2,g3,g4⟩
  ·exact(g3 hin).elim
  ·have hlt:=(List.getElem?_eq_some_iff.1 g3).1
   have e:Rr l (q:Int)=some (l.eraseIdx q):=by
    unfold Rr
    rw [decide_eq_true (show (0:Int)≤(q:Int) by omega),decide_eq_true (show (q:Int) < (l.length:Int) by omega),decide_eq_true (show l.length≤100000 by omega),show ((q:Int)).toNat=q by omega]
    rfl
   refine⟨(l.eraseIdx q,0),?_,?_⟩
   ·unfold G64
    rw [h1,G07,hv]
    show bnd (Rf l id) _=_
    rw [g2,G07,e]
    rfl
   ·refine G03 ?_
    unfold Z2
    rw [h2,G07,hv]
    refine Hg (fun h=>(of_decide_eq_true h rfl).elim) (fun _=>?_)
    refine H64 (p:=fun y=>decide (y.Box≠id)) (f:=fun y=>y) (by omega) (fun y i st nx hy hst ht hf=>?_) (Gj ?_)
    ·refine H5b (fun j=>j=if y.Box≠id then st++[y] else st) (fun K hK=>Hg (fun hc=>?_) (fun hc=>hK _ ?_)) (fun j hj=>?_)
     ·exact Y2 (Rf5 hst) (hK _ (by rw [if_pos (of_decide_eq_true hc)]))
     ·rw [if_neg (of_decide_eq_false hc)]
     ·by_cases hc:y.Box≠id
      ·rw [hj,if_pos hc]; exact ht (decide_eq_true hc)
      ·rw [hj,if_neg hc]; exact hf (decide_eq_false hc)
    ·rw [J50 hS.right.sorted g3,g4,List.map_id']
 ·refine⟨([],v),?_,?_⟩
  ·unfold G64
   rw [h1,G07,decide_eq_true (show v≠0 from hv)]
   rfl
  ·unfold Z2
   rw [h2,G07,decide_eq_true (show v≠0 from hv)]
   rfl
theorem Rcb {F:Nat} {s:H0} {boxes:List Box} {l:List Stowed} (h:In9 s boxes l) (hF:40≤F) (o:List Int) (x:Stowed):∃ v,G0b F s boxes l o x=some v∧Qj F s boxes l o x=some v:=by
 obtain⟨a,h1,h2,h3⟩:=J51 (F:=F) h o
 cases a with
 | false=>exact⟨([],2),by unfold G0b; rw [h1]; rfl,by unfold Qj; rw [h2]; rfl⟩
 | true=>
  obtain⟨hS,hO⟩:=h3 rfl
  cases hfb:G34 boxes x.Box with
  | none=>
   refine⟨([],6),G03 ?_,G03 ?_⟩
   ·unfold G0b
    refine Gy h1 (Hg (fun h=>by cases h) (fun _=>Gy (H29 boxes x.Box) ?_))
    rw [hfb]
    exact Hg (fun _=>Gj rfl) (fun h=>by simp at h)
   ·unfold Qj
    refine Gy h2 (Hg (fun h=>by cases h) (fun _=>Gy (H84 boxes x.Box) ?_))
    rw [hfb]
    exact Hg (fun _=>Gj rfl) (fun h=>by simp at h)
  | some bx=>
   by_cases hz:bx.Size=20∨bx.Size=40
   ·by_cases hx:x.Box∈l.map (·.Box)
    ·have hge:∃ q:Nat,Rf l x.Box=some (q:Int):=by
      rcases Rde (l:=l) (id:=x.Box) with ⟨g1,g2,g3⟩ | ⟨q,y,g1,g2,g3,g4⟩
      ·exact(g3 hx).elim
      ·exact⟨q,g2⟩
     obtain⟨q,hq⟩:=hge
     have hq':R4 l x.Box=some (q:Int):=by rw [Q7b,← Gd7]; exact hq
     refine⟨([],96),G03 ?_,G03 ?_⟩
     ·unfold G0b
      refine Gy h1 (Hg (fun h=>by cases h) (fun _=>Gy (H29 boxes x.Box) ?_))
      rw [hfb]
      refine Hg (fun hh=>?_) (fun _=>Gy hq (Hg (fun _=>Gj rfl) (fun hh=>?_)))
      ·simp only [Bool.not_true,Bool.false_or,Bool.and_eq_true,decide_eq_true_eq] at hh
       omega
      ·have:=of_decide_eq_false hh; omega
     ·unfold Qj
      refine Gy h2 (Hg (fun h=>by cases h) (fun _=>Gy (H84 boxes x.Box) ?_))
      rw [hfb]
      refine Hg (fun hh=>?_) (fun _=>Gy hq' (Hg (fun _=>Gj rfl) (fun hh=>?_)))
      ·simp only [Bool.not_true,Bool.false_or,Bool.and_eq_true,decide_eq_true_eq] at hh
       omega
      ·have:=of_decide_eq_false hh; omega
    ·obtain⟨r,g1,g2⟩:=Rca hS hO hF hfb hz hx
     obtain⟨r',g1',g2'⟩:=R94 hS h2 hfb hz hx
     rw [Rb1.eq hS.right.sorted hx g2 g2'] at g1
     exact⟨r',g1,g1'⟩
   ·have hz1:¬ bx.Size=20:=fun h=>hz (.inl h)
    have hz2:¬ bx.Size=40:=fun h=>hz (.inr h)
    refine⟨([],6),G03 ?_,G03 ?_⟩
    ·unfold G0b
     refine Gy h1 (Hg (fun h=>by cases h) (fun _=>Gy (H29 boxes x.Box) ?_))
     rw [hfb]
     exact Hg (fun _=>Gj rfl) (fun h=>by simp [hz1,hz2] at h)
    ·unfold Qj
     refine Gy h2 (Hg (fun h=>by cases h) (fun _=>Gy (H84 boxes x.Box) ?_))
     rw [hfb]
     exact Hg (fun _=>Gj rfl) (fun h=>by simp [hz1,hz2] at h)
end Go.Proofs.YtecjdioomlhhiaaGreat
