/-
  What the program and the reference say of a ship and of a state: the same.
-/
import Derived.Test.YtecjdioomlhhiaaGreatXP
import Derived.Test.YtecjdioomlhhiaaGreatLentL
set_option maxRecDepth 100000
namespace Go.Proofs.YtecjdioomlhhiaaGreat
open Go.RowKit

structure Rb5 (c:G3):Prop where
  plugs:∀ p∈c.Plugs,0≤p∧p < c.Tiers
  sorted:c.Plugs.Pairwise (· < ·)
  place:0≤c.Bay∧c.Bay≤39∧0≤c.Row∧c.Row≤30∧1≤c.Tiers∧c.Tiers≤10∧0≤c.Height∧c.Height≤40000
  load:0≤c.Kilos20∧c.Kilos20≤500000000∧0≤c.Kilos40∧c.Kilos40≤500000000∧0≤c.Lash∧c.Lash≤1000000000000
  at_ : -500000≤c.X∧c.X≤500000 ∧ -500000≤c.Y∧c.Y≤500000 ∧ -500000≤c.Z∧c.Z≤500000
theorem Yn {p:Prop} (h:¬ p):(false=true) ↔ p:=⟨fun e=>Bool.noConfusion e,fun hp=>(h hp).elim⟩
theorem Y26 {β:Type} {Q:β→Prop} {z:Int} {k:Int→Option β} (h:Wp (k (IntKind.i64.wrap z)) Q):Wp (wrp z k) Q:=h
theorem H5f {α:Type} {R:α→α→Prop} {l:List α} {x:α} (h:l.Pairwise R) (hx:∀ a∈l,R a x):(l++[x]).Pairwise R:=by
  rw [List.pairwise_append]
  refine⟨h,List.pairwise_singleton ..,fun a ha b hb=>?_⟩
  rw [List.mem_singleton] at hb; subst hb
  exact hx a ha
theorem Qm {α:Type} {P:α→Prop} {l:List α} {x:α} (h1:∀ y∈l,P y) (h2:P x):∀ y∈l++[x],P y:=fun y hy=>by
  rcases List.mem_append.1 hy with hy | hy
  · exact h1 y hy
  · rw [List.mem_singleton.1 hy]; exact h2
theorem Gfd {pre:List Int} {y p:Int} (h:pre.Pairwise (· < ·)) (hp:pre[pre.length - 1]? = some p) (hy:p < y):∀ a∈pre,a < y:=by
  rcases List.eq_nil_or_concat pre with rfl | ⟨q,z,rfl⟩
  · intro a ha; cases ha
  · rw [List.concat_eq_append] at *
    have hz:z=p:=by
      rw [List.length_append,List.length_singleton,show q.length+1 - 1=q.length by omega] at hp
      simpa using hp
    subst hz
    intro a ha
    rcases List.mem_append.1 ha with ha | ha
    · have:=(List.pairwise_append.1 h).2.2 a ha z (by simp)
      omega
    · rw [List.mem_singleton.1 ha]; exact hy
theorem J8d (l:List Hp):G62 l=some (l.all (fun x=>decide (x.low≤x.n)&&decide (x.n≤x.high))):=by
  refine G03 ?_
  unfold G62
  refine Qp (fun pre _=>pre.all (fun x=>decide (x.low≤x.n)&&decide (x.n≤x.high))=true) rfl (fun pre y post s nx e hI hnx=>Hg (fun h=>Gj ?_) (fun h=>hnx _ ?_)) (fun s hI=>Gj hI.symm)
  · symm
    rw [List.all_eq_false]
    refine⟨y,by rw [e]; simp,?_⟩
    simp only [Bool.or_eq_true,decide_eq_true_eq] at h
    simp only [Bool.and_eq_true,decide_eq_true_eq]
    omega
  · simp only [Bool.or_eq_false_iff,decide_eq_false_iff_not] at h
    rw [List.all_append,hI]
    simp only [List.all_cons,List.all_nil,Bool.and_true,Bool.true_and,Bool.and_eq_true,decide_eq_true_eq]
    omega
theorem J46 {pre post:List Int} {l:List Int} {y:Int} (e:l=pre++y::post) (hp:0 < pre.length):∃ p,l[pre.length - 1]? = some p∧pre[pre.length - 1]? = some p∧p∈pre:=by
  have h1:pre[pre.length - 1]? = some (pre[pre.length - 1]'(by omega)):=List.getElem?_eq_getElem (by omega)
  exact⟨_,by rw [e,List.getElem?_append_left (by omega)]; exact h1,h1,List.getElem_mem _⟩
theorem Rad (c:G3) (hl:c.Plugs.length≤1048576):Wp (G9a c) (fun r=>r=true ↔ Rb5 c):=by
  unfold G9a
  have hw:1≤c.Tiers∧c.Tiers≤10→IntKind.i64.wrap (c.Tiers - 1)=c.Tiers - 1:=fun h=>Jad (by omega) (by omega)
  refine Qp (fun pre _=>(∀ p∈pre,0≤p∧p≤IntKind.i64.wrap (c.Tiers - 1))∧pre.Pairwise (· < ·)) ⟨fun p hp=>(List.not_mem_nil hp).elim,List.Pairwise.nil⟩ (fun pre y post s nx e hI hnx=>?_) (fun s hI=>?_)
  · obtain⟨hI1,hI2⟩:=hI
    have hym:y∈c.Plugs:=by rw [e]; simp
    have hpl:pre.length < c.Plugs.length:=by rw [e]; simp
    refine Y26 (Gy (J8d _) ?_)
    simp only [List.all_cons,List.all_nil,Bool.and_true]
    by_cases hy:0≤y∧y≤IntKind.i64.wrap (c.Tiers - 1)
    · rw [decide_eq_true hy.1,decide_eq_true hy.2]
      simp only [Bool.and_self,Bool.not_true,Bool.not_false,Bool.true_and,Bool.false_or]
      by_cases hp:0 < pre.length
      · obtain⟨p,hp1,hp2,hp3⟩:=J46 e hp
        have hwi:IntKind.i64.wrap ((pre.length:Int) - 1)=((pre.length - 1:Nat):Int):=by
          rw [Jad (by omega) (by omega)]; omega
        rw [decide_eq_true (by omega:0 < (pre.length:Int)),cond_true]
        refine Gy (congrArg some hwi) (Gy ((Y9 hp1 some).trans rfl) ?_)
        simp only [Bool.true_and]
        refine Hg (fun h=>Gj (Yn fun hc=>?_)) (fun h=>hnx _ ⟨Qm hI1 hy,H5f hI2 (Gfd hI2 hp2 (by have:=of_decide_eq_false h; omega))⟩)
        have:=of_decide_eq_true h
        have hs:=hc.sorted
        rw [e] at hs
        have:=(List.pairwise_append.1 hs).2.2 p hp3 y (by simp)
        omega
      · have h0:pre=[]:=List.eq_nil_of_length_eq_zero (by omega)
        subst h0
        rw [decide_eq_false (by simp:¬ 0 < (([]:List Int).length:Int))]
        refine H6 (Gj (H6 (Gj ?_)))
        simp only [Bool.false_and,cond_false]
        exact hnx _ ⟨Qm hI1 hy,by simp⟩
    · have hf:(decide (0≤y)&&decide (y≤IntKind.i64.wrap (c.Tiers - 1)))=false:=by
        rw [Bool.and_eq_false_iff,decide_eq_false_iff_not,decide_eq_false_iff_not]
        omega
      rw [hf]
      simp only [Bool.not_false,Bool.not_true,Bool.false_and,cond_false,Bool.true_or,cond_true]
      refine H6 (Gj (H6 (Gj (Gj (Yn fun hc=>hy ?_)))))
      have h1:=hc.plugs y hym
      have h2:=hc.place
      rw [hw (by omega)]
      omega
  · obtain⟨hI1,hI2⟩:=hI
    refine Gy (J8d _) (Gj ?_)
    simp only [List.all_cons,List.all_nil,Bool.and_true,Bool.and_eq_true,decide_eq_true_eq]
    constructor
    · rintro⟨a1,a2,a3,a4,a5,a6,a7,a8,a9,a10⟩
      have hw:=hw a3
      exact⟨fun p hp=>by have:=hI1 p hp; omega,hI2,by omega,by omega,by omega⟩
    · intro h
      obtain⟨_,_,b1,b2,b3⟩:=h
      omega
theorem Rf7 (c:G3) (hl:c.Plugs.length≤1048576):Wp (Zp c) (fun r=>r=true ↔ Rb5 c):=by
  unfold Zp
  refine Qp (fun pre _=>(∀ p∈pre,0≤p∧p < c.Tiers)∧pre.Pairwise (· < ·)) ⟨fun p hp=>(List.not_mem_nil hp).elim,List.Pairwise.nil⟩ (fun pre y post s nx e hI hnx=>?_) (fun s hI=>?_)
  · obtain⟨hI1,hI2⟩:=hI
    have hym:y∈c.Plugs:=by rw [e]; simp
    have hpl:pre.length < c.Plugs.length:=by rw [e]; simp
    refine Hg (fun h=>Gj (Yn fun hc=>?_)) (fun h=>?_)
    · simp only [Bool.or_eq_true,decide_eq_true_eq] at h
      have:=hc.plugs y hym
      omega
    · simp only [Bool.or_eq_false_iff,decide_eq_false_iff_not] at h
      have hy:0≤y∧y < c.Tiers:=by omega
      by_cases hp:0 < pre.length
      · obtain⟨p,hp1,hp2,hp3⟩:=J46 e hp
        rw [decide_eq_true (by omega:0 < (pre.length:Int)),cond_true]
        refine H6 (Yb ⟨by omega,by omega⟩ (Gj ?_))
        have hpi:(pre.length:Int) - 1=((pre.length - 1:Nat):Int):=by omega
        rw [hpi]
        refine Gy ((Y9 hp1 some).trans rfl) ?_
        simp only [Bool.true_and]
        refine Hg (fun h=>Gj (Yn fun hc=>?_)) (fun h=>hnx _ ⟨Qm hI1 hy,H5f hI2 (Gfd hI2 hp2 (by have:=of_decide_eq_false h; omega))⟩)
        have:=of_decide_eq_true h
        have hs:=hc.sorted
        rw [e] at hs
        have:=(List.pairwise_append.1 hs).2.2 p hp3 y (by simp)
        omega
      · have h0:pre=[]:=List.eq_nil_of_length_eq_zero (by omega)
        subst h0
        rw [decide_eq_false (by simp:¬ 0 < (([]:List Int).length:Int))]
        refine H6 (Gj (H6 (Gj ?_)))
        simp only [Bool.false_and,cond_false]
        exact hnx _ ⟨Qm hI1 hy,by simp⟩
  · obtain⟨hI1,hI2⟩:=hI
    have hwi:∀ n a b:Int,Hx n a b=some (decide (a≤n)&&decide (n≤b)):=fun _ _ _=>rfl
    have cnd:∀ (b:Bool) (n a z:Int),∃ r,(bif b then Hx n a z else some default)=some r∧(b&&r)=(b&&(decide (a≤n)&&decide (n≤z))):=fun b n a z=>by
      cases b
      · exact⟨_,rfl,rfl⟩
      · exact⟨_,rfl,rfl⟩
    refine Gy (hwi _ _ _) ?_
    obtain⟨r1,e1,q1⟩:=cnd (decide (-500000≤c.X)&&decide (c.X≤500000)) c.Y (-500000) 500000
    refine Gy e1 ?_
    rw [q1]
    obtain⟨r2,e2,q2⟩:=cnd (decide (-500000≤c.X)&&decide (c.X≤500000)&&(decide (-500000≤c.Y)&&decide (c.Y≤500000))) c.Z (-500000) 500000
    refine Gy e2 (Gy (hwi _ _ _) ?_)
    rw [q2]
    obtain⟨r3,e3,q3⟩:=cnd (decide (0≤c.Kilos20)&&decide (c.Kilos20≤500000000)) c.Kilos40 0 500000000
    refine Gy e3 ?_
    rw [q3]
    obtain⟨r4,e4,q4⟩:=cnd (decide (0≤c.Kilos20)&&decide (c.Kilos20≤500000000)&&(decide (0≤c.Kilos40)&&decide (c.Kilos40≤500000000))) c.Lash 0 1000000000000
    refine Gy e4 (Gy (hwi _ _ _) ?_)
    rw [q4]
    obtain⟨r5,e5,q5⟩:=cnd (decide (0≤c.Bay)&&decide (c.Bay≤39)) c.Row 0 30
    refine Gy e5 ?_
    rw [q5]
    obtain⟨r6,e6,q6⟩:=cnd (decide (0≤c.Bay)&&decide (c.Bay≤39)&&(decide (0≤c.Row)&&decide (c.Row≤30))) c.Tiers 1 10
    refine Gy e6 ?_
    rw [q6]
    obtain⟨r7,e7,q7⟩:=cnd (decide (0≤c.Bay)&&decide (c.Bay≤39)&&(decide (0≤c.Row)&&decide (c.Row≤30))&&(decide (1≤c.Tiers)&&decide (c.Tiers≤10))) c.Height 0 40000
    refine Gy e7 ?_
    rw [q7]
    refine Gj ?_
    simp only [Bool.and_eq_true,decide_eq_true_eq]
    constructor
    · rintro⟨⟨⟨⟨⟨a1,a2⟩,a3⟩,a4⟩,⟨b1,b2⟩,b3⟩,⟨d1,d2⟩,d3⟩
      exact⟨hI1,hI2,by omega,by omega,by omega⟩
    · intro h
      obtain⟨_,_,b1,b2,b3⟩:=h
      omega
def dk (b:Bool):Int:=bif b then 1 else 0
def k3 (c:G3):Hh:=⟨c.Bay,c.Row,dk c.Deck⟩
def x3 (x:G9):List Hh:=x.Rows.map fun r=>⟨x.Bay,r,2⟩
structure Y3f (x:G9):Prop where
  bay:0≤x.Bay∧x.Bay≤39
  some:x.Rows≠[]
  rows:∀ r∈x.Rows,0≤r∧r≤30
  sorted:x.Rows.Pairwise (· < ·)
structure H15 (s:H0):Prop where
  num:1≤s.Columns.length∧s.Columns.length≤200∧s.Covers.length≤40
  col:∀ c∈s.Columns,Rb5 c
  cov:∀ x∈s.Covers,Y3f x
  nodup:(s.Columns.map k3++s.Covers.flatMap x3).Nodup
theorem Y1e {κ:Type} [DecidableEq κ] {m:J1 κ Int} {l:List κ} (h:J1.l m=tally l) (a:κ):J1.l (J1.put m a (J1.get m a 0+1))=tally (l++[a]):=by
  rw [Haa]
  show H4c (J1.l m) a ((G7c (J1.l m) a).getD 0+1)=_
  rw [h]
theorem Y21 {κ:Type} [DecidableEq κ] {m:J1 κ Int} {l:List κ} (h:J1.l m=tally l) (a:κ):0≤J1.get m a 0∧J1.get m a 0≤(l.length:Int):=by
  have:=Qc2 l a
  show 0≤(G7c (J1.l m) a).getD 0∧_
  rw [h]
  exact⟨this.1,by show (G7c (J1.l m) a).getD 0≤_; rw [h]; exact this.2⟩
theorem Rd9 (l:List G9) (h:∀ x∈l,x.Rows.length≤1048576):(l.flatMap x3).length≤1048576*l.length:=by
  induction l with
  | nil=>simp
  | cons x l ih=>
    have h1:=h x (List.mem_cons_self ..)
    have h2:=ih (fun y hy=>h y (List.mem_cons_of_mem _ hy))
    rw [List.flatMap_cons,List.length_append,List.length_cons]
    have:(x3 x).length=x.Rows.length:=by simp [x3]
    omega
theorem Je9 (s:H0) (hp:∀ c∈s.Columns,c.Plugs.length≤1048576) (hr:∀ x∈s.Covers,x.Rows.length≤1048576):Wp (G96 s) (fun r=>r=true ↔ H15 s):=by
  unfold G96 H28
  refine Hg (fun hc=>Gj (Yn fun h=>?_)) (fun hc=>?_)
  · have:=h.num
    simp only [Bool.or_eq_true,decide_eq_true_eq] at hc
    omega
  simp only [Bool.or_eq_false_iff,decide_eq_false_iff_not] at hc
  have hn:1≤s.Columns.length∧s.Columns.length≤200∧s.Covers.length≤40:=by omega
  refine Qp (fun pre m=>J1.l m=tally (pre.map k3)∧∀ c∈pre,Rb5 c) ⟨rfl,fun c hc=>(List.not_mem_nil hc).elim⟩ (fun pre y post m nx e hI hnx=>?_) (fun m hI=>?_)
  · obtain⟨hI1,hI2⟩:=hI
    have hym:y∈s.Columns:=by rw [e]; simp
    have hpl:pre.length < s.Columns.length:=by rw [e]; simp
    refine H5b (fun j=>j=dk y.Deck) (fun K hK=>Hg (fun h=>hK _ (by rw [h]; rfl)) (fun h=>hK _ (by rw [h]; rfl))) (fun j hj=>?_)
    subst hj
    have hb:=Y21 hI1 (k3 y)
    rw [List.length_map] at hb
    refine Gy (x:=J1.get m (k3 y) 0) rfl (Yb ⟨by omega,by omega⟩ (H6 (wp_mono (Rad y (hp y hym)) (fun r hr=>Hg (fun h=>Gj (Yn fun hs=>?_)) (fun h=>hnx _ ⟨?_,Qm hI2 ?_⟩)))))
    · rw [hr.2 (hs.col y hym)] at h; cases h
    · rw [List.map_append]; exact Y1e hI1 (k3 y)
    · cases r with
      | true=>exact hr.1 rfl
      | false=>cases h
  obtain⟨hI1,hI2⟩:=hI
  refine Qp (fun pre m=>J1.l m=tally (s.Columns.map k3++pre.flatMap x3)∧∀ x∈pre,Y3f x) ⟨by simpa using hI1,fun c hc=>(List.not_mem_nil hc).elim⟩ (fun pre y post m nx e hJ hnx=>?_) (fun m hJ=>?_)
  · obtain⟨hJ1,hJ2⟩:=hJ
    have hym:y∈s.Covers:=by rw [e]; simp
    have hpl:pre.length < s.Covers.length:=by rw [e]; simp
    refine Hg (fun hc=>Gj (Yn fun h=>?_)) (fun hc=>?_)
    · have h1:=(h.cov y hym).bay
      have h2:=(h.cov y hym).some
      simp only [Bool.or_eq_true,decide_eq_true_eq] at hc
      have:y.Rows.length≠0:=fun h=>h2 (List.length_eq_zero_iff.1 h)
      omega
    simp only [Bool.or_eq_false_iff,decide_eq_false_iff_not] at hc
    have hne:y.Rows≠[]:=fun h=>by rw [h] at hc; simp at hc
    have hfl:=Rd9 pre (fun x hx=>hr x (by rw [e]; exact List.mem_append.2 (.inl hx)))
    have hrl:=hr y hym
    refine Qp (fun pr m=>J1.l m=tally (s.Columns.map k3++pre.flatMap x3++pr.map (fun r=>(⟨y.Bay,r,2⟩:Hh)))∧(∀ r∈pr,0≤r∧r≤30)∧pr.Pairwise (· < ·)) ⟨by simpa using hJ1,fun c hc=>(List.not_mem_nil hc).elim,List.Pairwise.nil⟩ (fun pr r pos m nx' e' hK hnx'=>?_) (fun m hK=>hnx _ ⟨?_,Qm hJ2 ⟨by omega,hne,hK.2.1,hK.2.2⟩⟩)
    · obtain⟨hK1,hK2,hK3⟩:=hK
      have hrm:r∈y.Rows:=by rw [e']; simp
      have hprl:pr.length < y.Rows.length:=by rw [e']; simp
      have go:0≤r∧r≤30→(∀ a∈pr,a < r)→Wp (bnd (some (J1.get m ⟨y.Bay,r,2⟩ 0)) fun v167=>chk (v167+1) fun v168=>nx' (J1.put m ⟨y.Bay,r,2⟩ v168)) (fun r=>r=true ↔ H15 s):=fun h1 h2=>by
        have hb:=Y21 hK1 ⟨y.Bay,r,2⟩
        simp only [List.length_append,List.length_map] at hb
        refine H6 (Gj (Yb ⟨by omega,by omega⟩ (hnx' _ ⟨?_,Qm hK2 h1,H5f hK3 h2⟩)))
        rw [List.map_append,← List.append_assoc]
        exact Y1e hK1 ⟨y.Bay,r,2⟩
      by_cases hrr:0≤r∧r≤30
      · have hok:(decide (r < 0)||decide (30 < r))=false:=by simp; omega
        simp only [hok,Bool.not_false,Bool.true_and,Bool.false_or]
        by_cases hp0:0 < pr.length
        · obtain⟨p,hp1,hp2,hp3⟩:=J46 e' hp0
          rw [decide_eq_true (by omega:0 < (pr.length:Int)),cond_true]
          refine H6 (Yb ⟨by omega,by omega⟩ (Gj ?_))
          have hpi:(pr.length:Int) - 1=((pr.length - 1:Nat):Int):=by omega
          rw [hpi]
          refine Gy ((Y9 hp1 some).trans rfl) ?_
          simp only [Bool.true_and]
          refine Hg (fun h=>Gj (Yn fun hc=>?_)) (fun h=>go hrr (Gfd hK3 hp2 (by have:=of_decide_eq_false h; omega)))
          have:=of_decide_eq_true h
          have hs:=(hc.cov y hym).sorted
          rw [e'] at hs
          have:=(List.pairwise_append.1 hs).2.2 p hp3 r (by simp)
          omega
        · have h0:pr=[]:=List.eq_nil_of_length_eq_zero (by omega)
          subst h0
          rw [decide_eq_false (by simp:¬ 0 < (([]:List Int).length:Int))]
          refine H6 (Gj (H6 (Gj ?_)))
          simp only [Bool.false_and,cond_false]
          exact go hrr (fun a ha=>(List.not_mem_nil ha).elim)
      · have hok:(decide (r < 0)||decide (30 < r))=true:=by simp; omega
        simp only [hok,Bool.not_true,Bool.false_and,cond_false,Bool.true_or,cond_true]
        exact H6 (Gj (H6 (Gj (Gj (Yn fun hc=>hrr ((hc.cov y hym).rows r hrm))))))
    · rw [List.flatMap_append,← List.append_assoc]
      simpa [x3] using hK.1
  · obtain⟨hJ1,hJ2⟩:=hJ
    rw [J44 (c:=fun x:Hh×Int=>decide (1 < x.2))]
    refine Gj ?_
    have hiff:(J1.l m).any (fun x=>decide (1 < x.2))=false ↔ (s.Columns.map k3++s.Covers.flatMap x3).Nodup:=by
      rw [← Q76,hJ1,List.any_eq_false]
      constructor
      · intro h j a n hj
        have:=h (a,n) (List.mem_of_getElem? hj)
        simp only [decide_eq_true_eq] at this
        omega
      · intro h x hx
        obtain⟨j,hj⟩:=List.mem_iff_getElem?.1 hx
        have:=h j x.1 x.2 hj
        simp only [decide_eq_true_eq]
        omega
    cases hany:(J1.l m).any (fun x=>decide (1 < x.2)) with
    | true=>
      refine Yn fun h=>?_
      rw [hiff.2 h.nodup] at hany; cases hany
    | false=>exact⟨fun _=>⟨hn,hI2,hJ2,hiff.1 hany⟩,fun _=>rfl⟩
theorem Jfc (rows:List Int) (row:Int):Qf rows row=some (rows.any (fun r=>decide (r=row))):=by
  refine G03 ?_
  unfold Qf
  refine Qp (fun pre _=>pre.any (fun r=>decide (r=row))=false) rfl (fun pre y post s nx e hI hnx=>Hg (fun h=>Gj ?_) (fun h=>hnx _ ?_)) (fun s hI=>Gj hI.symm)
  · symm
    exact List.any_eq_true.2 ⟨y,by rw [e]; simp,h⟩
  · rw [List.any_append,hI]
    simp only [List.any_cons,List.any_nil,Bool.or_false,Bool.false_or,h]
theorem R38 {α:Type} {l:List α} {x:α} (h:l.Nodup) (hx:x ∉ l):(l++[x]).Nodup:=by
  rw [List.nodup_append]
  refine⟨h,by simp,fun a ha b hb=>?_⟩
  rw [List.mem_singleton.1 hb]
  exact fun e=>hx (e ▸ ha)
theorem Y62 {a b:G3}:k3 a=k3 b ↔ a.Bay=b.Bay∧a.Row=b.Row∧a.Deck=b.Deck:=by
  unfold k3
  rw [Hh.mk.injEq]
  have:dk a.Deck=dk b.Deck ↔ a.Deck=b.Deck:=by cases a.Deck <;> cases b.Deck <;> decide
  rw [this]
theorem R93 {F:Nat} (s:H0) (hp:∀ c∈s.Columns,c.Plugs.length≤1048576) (hr:∀ x∈s.Covers,x.Rows.length≤1048576):Wp (G0a F s) (fun r=>r=true ↔ H15 s):=by
  unfold G0a
  refine Gy (x:=decide (1≤(s.Columns.length:Int))&&decide ((s.Columns.length:Int)≤200)) rfl (Hg (fun hc=>Gj (Yn fun h=>?_)) (fun hc=>?_))
  · have:=h.num
    simp only [Bool.or_eq_true,Bool.not_eq_true',Bool.and_eq_false_iff,decide_eq_true_eq,decide_eq_false_iff_not] at hc
    omega
  simp only [Bool.or_eq_false_iff,Bool.not_eq_false',Bool.and_eq_true,decide_eq_true_eq,decide_eq_false_iff_not] at hc
  have hn:1≤s.Columns.length∧s.Columns.length≤200∧s.Covers.length≤40:=by omega
  refine Qp (fun pre _=>(pre.map k3).Nodup∧∀ c∈pre,Rb5 c) ⟨List.nodup_nil,fun c hc=>(List.not_mem_nil hc).elim⟩ (fun pre y post u nx e hI hnx=>?_) (fun u hI=>?_)
  · obtain⟨hI1,hI2⟩:=hI
    have hym:y∈s.Columns:=by rw [e]; simp
    have hpl:pre.length < s.Columns.length:=by rw [e]; simp
    refine H6 (wp_mono (Rf7 y (hp y hym)) (fun r hr=>Hg (fun h=>Gj (Yn fun hs=>?_)) (fun h=>?_)))
    · rw [hr.2 (hs.col y hym)] at h; cases h
    have hcy:Rb5 y:=by
      cases r with
      | true=>exact hr.1 rfl
      | false=>cases h
    refine Y2 (decide_eq_true (by omega)) ?_
    rw [show (pre.length:Int).toNat=pre.length by omega]
    refine Hf3 (fun i _=>∀ (k:Nat) c,k < i→pre[k]? = some c→k3 c≠k3 y) (fun k c hk=>by omega) (fun i u nx2 hi hJ hnx2=>?_) (fun u hJ=>hnx _ ⟨?_,Qm hI2 hcy⟩)
    · have hx:pre[i]? = some (pre[i]'hi):=List.getElem?_eq_getElem hi
      have hsx:s.Columns[i]? = some (pre[i]'hi):=by rw [e,List.getElem?_append_left hi]; exact hx
      generalize pre[i]'hi=z at hx hsx
      rw [Y9 hsx]
      have hcond:∃ b,(bif decide (z.Bay=y.Bay) then Qq s.Columns (i:Int) some else some default)=some b∧(decide (z.Bay=y.Bay)&&decide (b.Row=y.Row))=(decide (z.Bay=y.Bay)&&decide (z.Row=y.Row)):=by
        cases decide (z.Bay=y.Bay)
        · exact⟨_,rfl,rfl⟩
        · exact⟨z,Y9 hsx some,rfl⟩
      obtain⟨b,e1,q1⟩:=hcond
      refine Gy e1 ?_
      rw [q1]
      have hcond:∃ b,(bif (decide (z.Bay=y.Bay)&&decide (z.Row=y.Row)) then Qq s.Columns (i:Int) some else some default)=some b∧((decide (z.Bay=y.Bay)&&decide (z.Row=y.Row))&&(b.Deck==y.Deck))=((decide (z.Bay=y.Bay)&&decide (z.Row=y.Row))&&(z.Deck==y.Deck)):=by
        cases (decide (z.Bay=y.Bay)&&decide (z.Row=y.Row))
        · exact⟨_,rfl,rfl⟩
        · exact⟨z,Y9 hsx some,rfl⟩
      obtain⟨b2,e2,q2⟩:=hcond
      refine Gy e2 ?_
      rw [q2]
      have hk:((decide (z.Bay=y.Bay)&&decide (z.Row=y.Row))&&(z.Deck==y.Deck))=true ↔ k3 z=k3 y:=by
        rw [Y62]
        simp only [Bool.and_eq_true,decide_eq_true_eq,beq_iff_eq,and_assoc]
      refine Hg (fun h=>Gj (Yn fun hs=>?_)) (fun h=>hnx2 _ (fun k c hk2 hc2=>?_))
      · have h1:=hs.nodup
        rw [e,List.map_append] at h1
        have h2:=(List.nodup_append.1 (List.nodup_append.1 h1).1).2.2 (k3 z) (List.mem_map.2 ⟨z,List.mem_of_getElem? hx,rfl⟩) (k3 y) (by simp)
        exact h2 (hk.1 h)
      · by_cases hki:k < i
        · exact hJ k c hki hc2
        · have:k=i:=by omega
          subst this
          rw [hx] at hc2
          cases hc2
          intro h3
          rw [hk.2 h3] at h; cases h
    · rw [List.map_append]
      refine R38 hI1 (fun hm=>?_)
      obtain⟨c,hc,h3⟩:=List.mem_map.1 hm
      obtain⟨k,hk⟩:=List.mem_iff_getElem?.1 hc
      exact hJ k c (List.getElem?_eq_some_iff.1 hk).1 hk h3
  obtain⟨hI1,hI2⟩:=hI
  refine Qp (fun pre _=>(pre.flatMap x3).Nodup∧∀ x∈pre,Y3f x) ⟨List.nodup_nil,fun c hc=>(List.not_mem_nil hc).elim⟩ (fun pre y post u nx e hJ hnx=>?_) (fun u hJ=>Gj ⟨fun _=>⟨hn,hI2,hJ.2,?_⟩,fun _=>rfl⟩)
  · obtain⟨hJ1,hJ2⟩:=hJ
    have hym:y∈s.Covers:=by rw [e]; simp
    have hpl:pre.length < s.Covers.length:=by rw [e]; simp
    refine Gy (x:=decide (0≤y.Bay)&&decide (y.Bay≤39)) rfl (Hg (fun hc=>Gj (Yn fun h=>?_)) (fun hc=>?_))
    · have h1:=(h.cov y hym).bay
      have h2:=(h.cov y hym).some
      simp only [Bool.or_eq_true,Bool.not_eq_true',Bool.and_eq_false_iff,decide_eq_true_eq,decide_eq_false_iff_not] at hc
      have:y.Rows.length≠0:=fun h=>h2 (List.length_eq_zero_iff.1 h)
      omega
    simp only [Bool.or_eq_false_iff,Bool.not_eq_false',Bool.and_eq_true,decide_eq_true_eq,decide_eq_false_iff_not] at hc
    have hne:y.Rows≠[]:=fun h=>by rw [h] at hc; simp at hc
    refine Qp (fun pr _=>(∀ r∈pr,0≤r∧r≤30)∧pr.Pairwise (· < ·)∧∀ r∈pr,(⟨y.Bay,r,2⟩:Hh) ∉ pre.flatMap x3) ⟨fun c hc=>(List.not_mem_nil hc).elim,List.Pairwise.nil,fun c hc=>(List.not_mem_nil hc).elim⟩ (fun pr r pos u nx' e' hK hnx'=>?_) (fun u hK=>hnx _ ⟨?_,Qm hJ2 ⟨hc.1,hne,hK.1,hK.2.1⟩⟩)
    · obtain⟨hK1,hK2,hK3⟩:=hK
      have hrm:r∈y.Rows:=by rw [e']; simp
      have hprl:pr.length < y.Rows.length:=by rw [e']; simp
      have hrl:=hr y hym
      refine Gy (x:=decide (0≤r)&&decide (r≤30)) rfl ?_
      have go:0≤r∧r≤30→(∀ a∈pr,a < r)→Wp (need (decide ((pre.length:Int)≤9223372036854775807)) <|
              upto (fun i84 (s84:Unit) nx84=>
                Qq s.Covers (i84:Int) fun y89=>
                bnd (bif decide (y89.Bay=y.Bay) then Qq s.Covers (i84:Int) some else some default) fun y91=>
                bnd (bif decide (y89.Bay=y.Bay) then Qf y91.Rows r else some default) fun r92=>
                bif ((decide (y89.Bay=y.Bay))&&r92) then
                (some false)
                else
                (nx84 ()))
              (fun(s84:Unit)=>
                nx' ()) (pre.length:Int).toNat 0 ()) (fun r=>r=true ↔ H15 s):=fun h1 h2=>by
        refine Y2 (decide_eq_true (by omega)) ?_
        rw [show (pre.length:Int).toNat=pre.length by omega]
        refine Hf3 (fun i _=>∀ (k:Nat) x,k < i→pre[k]? = some x→(⟨y.Bay,r,2⟩:Hh) ∉ x3 x) (fun k c hk=>by omega) (fun i u nx2 hi hJ hnx2=>?_) (fun u hJ=>hnx' _ ⟨Qm hK1 h1,H5f hK2 h2,Qm hK3 (fun hm=>?_)⟩)
        · have hx:pre[i]? = some (pre[i]'hi):=List.getElem?_eq_getElem hi
          have hsx:s.Covers[i]? = some (pre[i]'hi):=by rw [e,List.getElem?_append_left hi]; exact hx
          generalize pre[i]'hi=z at hx hsx
          rw [Y9 hsx]
          have hcond:∃ b c,(bif decide (z.Bay=y.Bay) then Qq s.Covers (i:Int) some else some default)=some b∧(bif decide (z.Bay=y.Bay) then Qf b.Rows r else some default)=some c∧(decide (z.Bay=y.Bay)&&c)=(decide (z.Bay=y.Bay)&&z.Rows.any (fun q=>decide (q=r))):=by
            cases decide (z.Bay=y.Bay)
            · exact⟨_,_,rfl,rfl,rfl⟩
            · exact⟨z,_,Y9 hsx some,Jfc _ _,rfl⟩
          obtain⟨b,c,e1,e2,q1⟩:=hcond
          refine Gy e1 (Gy e2 ?_)
          rw [q1]
          have hk:(decide (z.Bay=y.Bay)&&z.Rows.any (fun q=>decide (q=r)))=true ↔ (⟨y.Bay,r,2⟩:Hh)∈x3 z:=by
            unfold x3
            simp only [Bool.and_eq_true,decide_eq_true_eq,List.any_eq_true,List.mem_map,Hh.mk.injEq]
            constructor
            · rintro⟨h1,q,h2,h3⟩; exact⟨q,h2,h1,h3,trivial⟩
            · rintro⟨q,h2,h1,h3,_⟩; exact⟨h1,q,h2,h3⟩
          refine Hg (fun h=>Gj (Yn fun hs=>?_)) (fun h=>hnx2 _ (fun k c hk2 hc2=>?_))
          · have h1:=(List.nodup_append.1 hs.nodup).2.1
            rw [e,List.flatMap_append,List.flatMap_cons] at h1
            have h2:=(List.nodup_append.1 h1).2.2 ⟨y.Bay,r,2⟩ (List.mem_flatMap.2 ⟨z,List.mem_of_getElem? hx,hk.1 h⟩) ⟨y.Bay,r,2⟩ (List.mem_append.2 (.inl (List.mem_map.2 ⟨r,hrm,rfl⟩)))
            exact h2 rfl
          · by_cases hki:k < i
            · exact hJ k c hki hc2
            · have:k=i:=by omega
              subst this
              rw [hx] at hc2
              cases hc2
              intro h3
              rw [hk.2 h3] at h; cases h
        · obtain⟨x,hx,hm⟩:=List.mem_flatMap.1 hm
          obtain⟨k,hk⟩:=List.mem_iff_getElem?.1 hx
          exact hJ k x (List.getElem?_eq_some_iff.1 hk).1 hk hm
      by_cases hrr:0≤r∧r≤30
      · have hok:(decide (0≤r)&&decide (r≤30))=true:=by simp; omega
        simp only [hok,Bool.not_true,Bool.not_false,Bool.true_and,Bool.false_or]
        by_cases hp0:0 < pr.length
        · obtain⟨p,hp1,hp2,hp3⟩:=J46 e' hp0
          rw [decide_eq_true (by omega:0 < (pr.length:Int)),cond_true]
          refine H6 (Yb ⟨by omega,by omega⟩ (Gj ?_))
          have hpi:(pr.length:Int) - 1=((pr.length - 1:Nat):Int):=by omega
          rw [hpi]
          refine Gy ((Y9 hp1 some).trans rfl) ?_
          simp only [Bool.true_and]
          refine Hg (fun h=>Gj (Yn fun hc=>?_)) (fun h=>go hrr (Gfd hK2 hp2 (by have:=of_decide_eq_false h; omega)))
          have:=of_decide_eq_true h
          have hs:=(hc.cov y hym).sorted
          rw [e'] at hs
          have:=(List.pairwise_append.1 hs).2.2 p hp3 r (by simp)
          omega
        · have h0:pr=[]:=List.eq_nil_of_length_eq_zero (by omega)
          subst h0
          rw [decide_eq_false (by simp:¬ 0 < (([]:List Int).length:Int))]
          refine H6 (Gj (H6 (Gj ?_)))
          simp only [Bool.false_and,cond_false]
          exact go hrr (fun a ha=>(List.not_mem_nil ha).elim)
      · have hok:(decide (0≤r)&&decide (r≤30))=false:=by
          rw [Bool.and_eq_false_iff,decide_eq_false_iff_not,decide_eq_false_iff_not]; omega
        simp only [hok,Bool.not_true,Bool.not_false,Bool.false_and,cond_false,Bool.true_or,cond_true]
        exact H6 (Gj (H6 (Gj (Gj (Yn fun hc=>hrr ((hc.cov y hym).rows r hrm))))))
    · rw [List.flatMap_append,List.flatMap_cons,List.flatMap_nil,List.append_nil]
      refine List.nodup_append.2 ⟨hJ1,?_,fun a ha b hb hab=>?_⟩
      · refine List.pairwise_map.2 (hK.2.1.imp (fun {a b} h he=>?_))
        rw [Hh.mk.injEq] at he
        omega
      · obtain⟨r,hr,rfl⟩:=List.mem_map.1 hb
        subst hab
        exact hK.2.2 r hr ha
  · refine List.nodup_append.2 ⟨hI1,hJ.1,fun a ha b hb hab=>?_⟩
    obtain⟨c,_,rfl⟩:=List.mem_map.1 ha
    obtain⟨x,_,hb⟩:=List.mem_flatMap.1 hb
    obtain⟨r,_,rfl⟩:=List.mem_map.1 hb
    unfold k3 dk at hab
    rw [Hh.mk.injEq] at hab
    cases hd:c.Deck <;> rw [hd] at hab <;> simp at hab
theorem R57 {n k:Nat} (hn:n≤1000001) (hk:k≤1000):decide (n*k≤140737488355328∧n≤maxLen)=true:=by
  have h:n*k≤1000001*1000:=Nat.mul_le_mul hn hk
  have h2:n≤maxLen:=Nat.le_trans hn (by decide)
  exact decide_eq_true ⟨by omega,h2⟩
theorem G07 {α β:Type} {x:α} {k:α→Option β}:bnd (some x) k=k x:=rfl
def Hc6 {α:Type} (p:α→Bool) (l:List α):Int:=match l.findIdx? p with
  | some j=>(j:Int)
  | none => -1
theorem H8a {α:Type} {p:α→Bool} {f:α→Option Bool} {xs:List α} (hf:∀ x∈xs,f x=some (p x)) :
    each (fun y i (_:Unit) nx=>bnd (f y) fun r=>bif r then some (i:Int) else nx ()) (fun _=>some (-1)) xs 0 ()=some (Hc6 p xs):=by
  have key:∀ (xs:List α),(∀ x∈xs,f x=some (p x))→∀ i:Nat,each (fun y i (_:Unit) nx=>bnd (f y) fun r=>bif r then some (i:Int) else nx ()) (fun _=>some (-1)) xs i ()=some (match xs.findIdx? p with
    | some j=>((i+j:Nat):Int)
    | none => -1):=by
    intro xs
    induction xs with
    | nil=>intro _ i; rfl
    | cons x xs ih=>
      intro hf i
      rw [each,hf x (List.mem_cons_self ..),G07,List.findIdx?_cons]
      cases p x with
      | true=>simp
      | false=>
        simp only [cond_false]
        rw [ih (fun y hy=>hf y (List.mem_cons_of_mem _ hy)) (i+1)]
        cases xs.findIdx? p with
        | none=>simp
        | some j=>show some (((i+1+j:Nat)):Int)=some (((i+(j+1):Nat)):Int); rw [show i+1+j=i+(j+1) by omega]
  rw [key xs hf 0]
  unfold Hc6
  cases xs.findIdx? p <;> simp
theorem G41 {α:Type} (p:α→Bool) (l:List α):(Hc6 p l = -1∧(∀ x∈l,p x=false)∧l.find? p=none)∨∃ (m:Nat) (x:α),Hc6 p l=(m:Int)∧l[m]? = some x∧p x=true∧l.find? p=some x:=by
  unfold Hc6
  cases h:l.findIdx? p with
  | none=>
    have:=List.findIdx?_eq_none_iff.1 h
    exact .inl ⟨rfl,this,List.find?_eq_none.2 (fun x hx=>by rw [this x hx]; simp)⟩
  | some j=>
    obtain⟨hj,h1,h2⟩:=List.findIdx?_eq_some_iff_getElem.1 h
    refine .inr ⟨j,l[j],rfl,by simp [hj],h1,?_⟩
    refine List.find?_eq_some_iff_getElem.2 ⟨h1,j,hj,rfl,fun k hk=>?_⟩
    simpa using h2 k hk
theorem H62 {α:Type} {p:α→Bool} {l:List α}:decide (0≤Hc6 p l)=l.any p:=by
  rcases G41 p l with ⟨h1,h2,_⟩ | ⟨m,x,h1,h2,h3,_⟩
  · rw [h1]
    refine Eq.symm (List.any_eq_false.2 fun x hx=>?_)
    rw [h2 x hx]; exact Bool.false_ne_true
  · rw [h1,decide_eq_true (by omega)]
    exact(List.any_eq_true.2 ⟨x,List.mem_of_getElem? h2,h3⟩).symm
def G34 (boxes:List Box) (id:Int):Option Box:=boxes.find? (fun b=>decide (b.ID=id))
theorem H29 (boxes:List Box) (id:Int):G89 boxes id=some (match G34 boxes id with
    | some b=>(b,true)
    | none=>(Box.mk 0 ByteArray.empty 0 false 0 0 0 0 false,false)):=by
  unfold G89
  have h:G11 boxes (fun z0=>Gb0 z0 id)=some (Hc6 (fun b:Box=>decide (b.ID=id)) boxes):=H8a (fun x _=>rfl)
  rw [h]
  simp only [G07]
  unfold G34
  rcases G41 (fun b:Box=>decide (b.ID=id)) boxes with ⟨h1,_,h3⟩ | ⟨m,x,h1,h2,_,h4⟩
  · rw [h1,h3]; rfl
  · rw [h1,h4,decide_eq_false (by omega),cond_false]
    unfold Qq
    rw [decide_eq_true (by omega),cond_true,show (m:Int).toNat=m by omega,h2]
    rfl
def He1 (l:List Stowed) (id:Int):Option Stowed:=l.find? (fun x=>decide (x.Box=id))
def J4d (size:Int):List Int:=if size=40 then [0] else if size=20 then [1,2] else []
theorem Qc8 (size:Int):Gb1 size=some (J4d size):=by
  unfold Gb1 J4d
  by_cases h:size=40
  · simp [h]
  · by_cases h2:size=20
    · simp [h2]
    · simp [h,h2]
theorem Rac (l:List Int) (v:Int):Zy l v=some (l.any (fun y=>decide (v=y))):=by
  unfold Zy
  have h:G25 l v=some (Hc6 (fun y=>decide (v=y)) l):=by
    unfold G25
    exact H8a (f:=fun y=>some (decide (v=y))) (fun x _=>rfl)
  rw [h]
  simp only [G07]
  rw [H62]
theorem Q83 (l:List Slot) (v:Slot):Z0 l v=some (l.any (fun y=>decide (v=y))):=by
  unfold Z0
  have h:G0c l v=some (Hc6 (fun y=>decide (v=y)) l):=by
    unfold G0c
    exact H8a (f:=fun y=>some (decide (v=y))) (fun x _=>rfl)
  rw [h]
  simp only [G07]
  rw [H62]
structure H39 (s:H0) (x:Slot) (size:Int):Prop where
  col:∃ (m:Nat) (c:G3),x.G3=(m:Int)∧s.Columns[m]? = some c∧x.Tier < c.Tiers
  tier:0≤x.Tier
  half:x.Half∈J4d size
theorem Je7 (s:H0) (x:Slot) (size:Int):Wp (G99 s x size) (fun r=>r=true ↔ H39 s x size):=by
  unfold G99
  by_cases h0:0≤x.G3∧x.G3 < (s.Columns.length:Int)
  · by_cases h1:0≤x.Tier
    · obtain⟨m,hm⟩:∃ m:Nat,x.G3=(m:Int):=⟨x.G3.toNat,by omega⟩
      have hml:m < s.Columns.length:=by omega
      have hc:s.Columns[m]? = some s.Columns[m]:=by simp [hml]
      have e:(((decide (0≤x.G3))&&(decide (x.G3 < (s.Columns.length:Int))))&&(decide (0≤x.Tier)))=true:=by simp [h0.1,h0.2,h1]
      simp only [e,cond_true,Bool.true_and]
      refine H6 (G32 hm hc (Gj ?_))
      by_cases h2:x.Tier < (s.Columns[m]).Tiers
      · rw [decide_eq_true h2]
        simp only [cond_true]
        refine Gy (Qc8 size) (Gy (Rac _ _) (Gj ?_))
        rw [Bool.true_and,List.any_eq_true]
        constructor
        · rintro⟨y,hy,he⟩
          have:=of_decide_eq_true he
          subst this
          exact⟨⟨m,_,hm,hc,h2⟩,h1,hy⟩
        · exact fun h=>⟨_,h.half,by simp⟩
      · rw [decide_eq_false h2]
        simp only [cond_false,Bool.false_and]
        refine H6 (Gj (H6 (Gj (Gj ⟨fun h=>(by cases h),fun h=>?_⟩))))
        obtain⟨m',c,g1,g2,g3⟩:=h.col
        have:m'=m:=by omega
        subst this
        rw [hc] at g2; cases g2
        exact(h2 g3).elim
    · simp only [decide_eq_false h1,Bool.and_false,cond_false,Bool.false_and]
      exact H6 (Gj (H6 (Gj (H6 (Gj (Gj ⟨fun h=>(by cases h),fun h=>(h1 h.tier).elim⟩))))))
  · have e:((decide (0≤x.G3))&&(decide (x.G3 < (s.Columns.length:Int))))=false:=by
      by_cases h:0≤x.G3
      · have:¬ x.G3 < (s.Columns.length:Int):=fun g=>h0 ⟨h,g⟩
        simp [this]
      · simp [h]
    simp only [e,Bool.false_and,cond_false]
    refine H6 (Gj (H6 (Gj (H6 (Gj (Gj ⟨fun h=>(by cases h),fun h=>?_⟩))))))
    obtain⟨m,c,g1,g2,_⟩:=h.col
    have:=(List.getElem?_eq_some_iff.1 g2).1
    exact(h0 (by omega)).elim
def below (l:List Slot) (x:Slot) (half:Int):Prop:=(⟨x.G3,x.Tier - 1,half⟩:Slot)∈l
def H6d (x:Slot) (l:List Slot):Prop:=x.Tier≤0∨below l x x.Half∨(x.Half=0∧below l x 1∧below l x 2)
theorem J27 (half:Int) (l:List Slot) (x:Slot) (ht : -1000000≤x.Tier∧x.Tier≤1000000):Wp (G5a half l x) (fun r=>r=true ↔ below l x half):=by
  unfold G5a
  refine Yb ⟨by omega,by omega⟩ (Gy (Q83 _ _) (Gj ?_))
  rw [List.any_eq_true]
  constructor
  · rintro⟨y,hy,he⟩
    have:=of_decide_eq_true he
    subst this
    exact hy
  · exact fun h=>⟨_,h,by simp⟩
theorem Q4b (x:Slot) (l:List Slot) (ht : -1000000≤x.Tier∧x.Tier≤1000000):Wp (Gc9 x l) (fun r=>r=true ↔ H6d x l):=by
  unfold Gc9 H6d
  refine Hg (fun h=>Gj ⟨fun _=>.inl (of_decide_eq_true h),fun _=>rfl⟩) (fun h=>?_)
  have h0:=of_decide_eq_false h
  refine H6 (wp_mono (J27 x.Half l x ht) (fun r7 h7=>?_))
  cases r7 with
  | true=>
    simp only [Bool.not_true,Bool.false_and,cond_false,Bool.true_or]
    exact H6 (Gj (H6 (Gj (Gj ⟨fun _=>.inr (.inl (h7.1 rfl)),fun _=>rfl⟩))))
  | false=>
    have h7':¬ below l x x.Half:=fun h=>by have:=h7.2 h; cases this
    simp only [Bool.not_false,Bool.true_and,Bool.false_or]
    by_cases hh:x.Half=0
    · rw [decide_eq_true hh]
      simp only [cond_true,Bool.true_and]
      refine H6 (wp_mono (J27 1 l x ht) (fun r8 h8=>?_))
      cases r8 with
      | true=>
        simp only [cond_true,Bool.true_and]
        refine H6 (wp_mono (J27 2 l x ht) (fun r9 h9=>Gj ⟨fun h=>.inr (.inr ⟨hh,h8.1 rfl,h9.1 h⟩),fun h=>?_⟩))
        rcases h with h | h | ⟨_,_,h⟩
        · exact(h0 h).elim
        · exact(h7' h).elim
        · exact h9.2 h
      | false=>
        simp only [cond_false,Bool.false_and]
        refine H6 (Gj (Gj ⟨fun h=>(by cases h),fun h=>?_⟩))
        rcases h with h | h | ⟨_,h,_⟩
        · exact(h0 h).elim
        · exact(h7' h).elim
        · have:=h8.2 h; cases this
    · rw [decide_eq_false hh]
      simp only [cond_false,Bool.false_and]
      refine H6 (Gj (H6 (Gj (Gj ⟨fun h=>(by cases h),fun h=>?_⟩))))
      rcases h with h | h | ⟨h,_⟩
      · exact(h0 h).elim
      · exact(h7' h).elim
      · exact(hh h).elim
def G93 (a b:Int):Prop:=a=b∨a=0∨b=0
theorem J87 (a b:Int):Wp (G76 a b) (fun r=>r=true ↔ G93 a b):=by
  unfold G76 G93
  refine Gj ?_
  simp [or_assoc]
def Ga9 (a b:Slot):Prop:=a.G3=b.G3∧a.Tier=b.Tier∧G93 a.Half b.Half
theorem Q4a (a b:Slot):Wp (Gc8 a b) (fun r=>r=true ↔ Ga9 a b):=by
  unfold Gc8 Ga9
  by_cases h:a.G3=b.G3∧a.Tier=b.Tier
  · simp only [decide_eq_true h.1,decide_eq_true h.2,Bool.and_self,cond_true,Bool.true_and]
    exact H6 (wp_mono (J87 _ _) (fun r hr=>Gj ⟨fun e=>⟨h.1,h.2,hr.1 e⟩,fun e=>hr.2 e.2.2⟩))
  · have e:(decide (a.G3=b.G3)&&decide (a.Tier=b.Tier))=false:=by
      by_cases h1:a.G3=b.G3
      · have:¬ a.Tier=b.Tier:=fun h2=>h ⟨h1,h2⟩
        simp [this]
      · simp [h1]
    simp only [e,cond_false,Bool.false_and]
    exact H6 (Gj (Gj ⟨fun e=>(by cases e),fun e=>(h ⟨e.1,e.2.1⟩).elim⟩))
def Ge7 (a b:Slot):Prop:=a.G3=b.G3∧b.Tier < a.Tier∧G93 a.Half b.Half
theorem R8c (a b:Slot):Wp (H04 a b) (fun r=>r=true ↔ Ge7 a b):=by
  unfold H04 Ge7
  by_cases h:a.G3=b.G3∧b.Tier < a.Tier
  · simp only [decide_eq_true h.1,decide_eq_true h.2,Bool.and_self,cond_true,Bool.true_and]
    exact H6 (wp_mono (J87 _ _) (fun r hr=>Gj ⟨fun e=>⟨h.1,h.2,hr.1 e⟩,fun e=>hr.2 e.2.2⟩))
  · have e:(decide (a.G3=b.G3)&&decide (b.Tier < a.Tier))=false:=by
      by_cases h1:a.G3=b.G3
      · have:¬ b.Tier < a.Tier:=fun h2=>h ⟨h1,h2⟩
        simp [this]
      · simp [h1]
    simp only [e,cond_false,Bool.false_and]
    exact H6 (Gj (Gj ⟨fun e=>(by cases e),fun e=>(h ⟨e.1,e.2.1⟩).elim⟩))
def Q46 (b:Box):Int:=if b.High then 2896 else 2591
def H00 (boxes:List Box) (column half:Int) (n:Int) (x:Stowed):Int:=
  if x.Slot.G3=column∧(x.Slot.Half=half∨x.Slot.Half=0) then (match G34 boxes x.Box with | some b=>n+Q46 b | none=>n) else n
def G51 (boxes:List Box) (l:List Stowed) (column half:Int):Int:=l.foldl (H00 boxes column half) 0
theorem Jb4 {boxes:List Box} {column half n:Int} {x:Stowed}:n≤H00 boxes column half n x∧H00 boxes column half n x≤n+2896:=by
  unfold H00 Q46
  split
  · split
    · split <;> omega
    · omega
  · omega
theorem J85 (boxes:List Box) (l:List Stowed) (column half:Int) (hl:l.length≤1000000):G74 boxes l column half=some (G51 boxes l column half):=by
  refine G03 ?_
  unfold G74 G51
  refine Qp (fun pre n=>n=pre.foldl (H00 boxes column half) 0∧0≤n∧n≤2896*pre.length) ⟨rfl,Int.le_refl _,by simp⟩ (fun pre y post n nx e hn hnx=>?_) (fun n hn=>Gj hn.1)
  obtain⟨rfl,h1,h2⟩:=hn
  have hp:pre.length+1≤l.length:=by rw [e]; simp
  have ha:=Jb4 (boxes:=boxes) (column:=column) (half:=half) (n:=pre.foldl (H00 boxes column half) 0) (x:=y)
  have hlen:((pre++[y]).length:Int)=pre.length+1:=by simp
  generalize hg:pre.foldl (H00 boxes column half) 0=n at *
  refine H5b (fun j=>j=H00 boxes column half n y) (fun K hK=>?_) (fun j hj=>hnx _ ⟨by rw [hj,List.foldl_append,hg]; rfl,by omega,by rw [hlen]; omega⟩)
  refine Hg (fun hc=>?_) (fun hc=>hK _ ?_)
  · have hc':y.Slot.G3=column∧(y.Slot.Half=half∨y.Slot.Half=0):=by simpa using hc
    refine Gy (H29 boxes y.Box) ?_
    cases hf:G34 boxes y.Box with
    | none=>exact Hg (fun h=>by cases h) (fun _=>hK _ (by unfold H00; rw [if_pos hc',hf]))
    | some b=>
      refine Hg (fun _=>?_) (fun h=>by cases h)
      have ht:H02 b=some (Q46 b):=by unfold H02 Q46; cases b.High <;> rfl
      have hadd:H00 boxes column half n y=n+Q46 b:=by unfold H00; rw [if_pos hc',hf]
      refine Gy ht (Yb ?_ (hK _ hadd.symm))
      rw [← hadd]
      omega
  · have hc':¬ (y.Slot.G3=column∧(y.Slot.Half=half∨y.Slot.Half=0)):=by simpa using hc
    unfold H00; rw [if_neg hc']
def H6e (boxes:List Box) (l:List Stowed) (m:Nat) (c:G3):Prop:=c.Height≤0∨(G51 boxes l m 1≤c.Height∧G51 boxes l m 2≤c.Height)
theorem Q48 {s:H0} {boxes:List Box} {l:List Stowed} {m:Nat} {c:G3} (hc:s.Columns[m]? = some c) (hl:l.length≤1000000):Wp (G88 s boxes l (m:Int)) (fun r=>r=true ↔ H6e boxes l m c):=by
  unfold G88 H6e
  refine G32 rfl hc ?_
  by_cases h:c.Height≤0
  · simp only [decide_eq_true h,Bool.not_true,cond_false,Bool.false_and,Bool.true_or]
    exact H6 (Gj (H6 (Gj (Gj ⟨fun _=>.inl h,fun _=>rfl⟩))))
  · simp only [decide_eq_false h,Bool.not_false,cond_true,Bool.true_and,Bool.false_or]
    refine Gy (J85 boxes l m 1 hl) ?_
    by_cases h1:G51 boxes l m 1≤c.Height
    · rw [decide_eq_true h1]
      simp only [cond_true,Bool.true_and]
      exact Gy (J85 boxes l m 2 hl) (Gj ⟨fun e=>.inr ⟨h1,of_decide_eq_true e⟩,fun e=>decide_eq_true (e.elim (fun e=>(h e).elim) (·.2))⟩)
    · rw [decide_eq_false h1]
      simp only [cond_false,Bool.false_and]
      exact H6 (Gj (Gj ⟨fun e=>(by cases e),fun e=>e.elim (fun e=>(h e).elim) (fun e=>(h1 e.1).elim)⟩))
theorem Je2 (l:List Stowed) (hl:l.length≤1000000):G97 l=some (l.map (·.Slot)):=by
  refine G03 ?_
  unfold G97
  refine Qp (fun pre s=>s=pre.map (·.Slot)) rfl (fun pre y post s nx e hs hnx=>?_) (fun s hs=>Gj hs)
  subst hs
  have hp:pre.length+1≤l.length:=by rw [e]; simp
  exact Y2 (R57 (by simp only [List.length_map,List.length_singleton]; omega) (by omega)) (hnx _ (by simp))
structure Ga1 (s:H0) (boxes:List Box) (l:List Stowed):Prop where
  each:∀ x∈l,∃ b,G34 boxes x.Box=some b∧H39 s x.Slot b.Size∧H6d x.Slot (l.map (·.Slot))
  sorted:l.Pairwise (fun a b=>a.Box < b.Box)
  apart:l.Pairwise (fun a b=>¬ Ga9 b.Slot a.Slot)
  fits:∀ m c,s.Columns[m]? = some c→H6e boxes l m c
theorem J0b {α:Type} {R:α→α→Prop} {l:List α} {x:α} (h:l.Pairwise R) (hx:∀ a∈l,R a x):(l++[x]).Pairwise R:=by
  rw [List.pairwise_append]
  refine⟨h,List.pairwise_singleton ..,fun a ha b hb=>?_⟩
  rw [List.mem_singleton] at hb; subst hb
  exact hx a ha
theorem H1b {α:Type} {R:α→α→Prop} {pre post:List α} {y:α} (h:(pre++y::post).Pairwise R):∀ a∈pre,R a y:=fun a ha=>(List.pairwise_append.1 h).2.2 a ha y (List.mem_cons_self ..)
theorem Je3 {s:H0} {boxes:List Box} {l:List Stowed} (hr:G96 s=some true) (ht:∀ c∈s.Columns,c.Tiers≤1000000) (hl:l.length≤1000000):Wp (G1b s boxes l) (fun r=>r=true ↔ Ga1 s boxes l):=by
  unfold G1b
  refine Gy hr (Hg (fun h=>by cases h) (fun _=>?_))
  refine Gy (Je2 l hl) ?_
  refine Qp (fun pre _=>(∀ x∈pre,∃ b,G34 boxes x.Box=some b∧H39 s x.Slot b.Size∧H6d x.Slot (l.map (·.Slot)))∧pre.Pairwise (fun a b=>a.Box < b.Box)∧pre.Pairwise (fun a b=>¬ Ga9 b.Slot a.Slot))
    ⟨fun x hx=>(List.not_mem_nil hx).elim,List.Pairwise.nil,List.Pairwise.nil⟩ (fun pre y post u nx e hI hnx=>?_) (fun u hI=>?_)
  · obtain⟨i1,i2,i3⟩:=hI
    have hlen:pre.length < l.length:=by rw [e]; simp
    have hy:y∈l:=by rw [e]; simp
    have no:∀ {m:Option Bool},m=some false→¬ Ga1 s boxes l→Wp m (fun r=>r=true ↔ Ga1 s boxes l):=fun e h=>by subst e; exact Gj ⟨fun e=>(by cases e),fun e=>(h e).elim⟩
    refine Gy (H29 boxes y.Box) ?_
    cases hf:G34 boxes y.Box with
    | none=>
      simp only [Bool.not_false,Bool.not_true,Bool.false_and,cond_false,Bool.true_or,cond_true]
      refine H6 (Gj (H6 (Gj (H6 (Gj (H6 (Gj (no rfl fun h=>?_))))))))
      obtain⟨b,hb,_⟩:=h.each y hy
      rw [hf] at hb; cases hb
    | some b=>
      simp only [Bool.not_true,Bool.not_false,Bool.true_and,Bool.false_or]
      -- the order
      have hprev:Wp (bif decide (0 < (pre.length:Int)) then chk ((pre.length:Int) - 1) some else some 0) (fun v=>Wp (bif decide (0 < (pre.length:Int)) then Qq l v some else some default) (fun y20=>
          ((decide (0 < (pre.length:Int))&&decide (y.Box≤y20.Box))=true→¬ Ga1 s boxes l)∧((decide (0 < (pre.length:Int))&&decide (y.Box≤y20.Box))=false→∀ a∈pre,a.Box < y.Box))):=by
        rcases List.eq_nil_or_concat pre with hp | ⟨pre',z,hp⟩
        · subst hp
          simp only [List.length_nil]
          exact Gj (Gj ⟨fun h=>by simp at h,fun _ a ha=>(List.not_mem_nil ha).elim⟩)
        · have hp':pre=pre'++[z]:=by simpa using hp
          have hpl:pre.length=pre'.length+1:=by rw [hp']; simp
          have hd:decide (0 < (pre.length:Int))=true:=decide_eq_true (by omega)
          have hz:l[pre'.length]? = some z:=by rw [e,hp']; simp
          rw [hd]
          simp only [cond_true,Bool.true_and]
          refine Yb ⟨by omega,by omega⟩ (Gj (G32 (m:=pre'.length) (by omega) hz (Gj ⟨fun h hR=>?_,fun h a ha=>?_⟩)))
          · have:=of_decide_eq_true h
            have hs:=hR.sorted
            rw [e] at hs
            have:=H1b hs z (by rw [hp']; simp)
            omega
          · have hzy:¬ y.Box≤z.Box:=of_decide_eq_false h
            rw [hp'] at ha
            rcases List.mem_append.1 ha with ha | ha
            · have:=H1b (hp' ▸ i2:(pre'++z::[]).Pairwise _) a ha
              omega
            · rw [List.mem_singleton] at ha; subst ha; omega
      refine H6 (wp_mono hprev (fun v hv=>H6 (wp_mono hv (fun y20 h20=>?_))))
      obtain⟨n1,n2⟩:=h20
      generalize (decide (0 < (pre.length:Int))&&decide (y.Box≤y20.Box))=c at n1 n2
      cases c with
      | true=>
        simp only [Bool.not_true,cond_false,Bool.true_or,cond_true]
        exact H6 (Gj (H6 (Gj (no rfl (n1 rfl)))))
      | false=>
        simp only [Bool.not_false,cond_true,Bool.false_or]
        have hsort:=n2 rfl
        refine H6 (wp_mono (Je7 s y.Slot b.Size) (fun r21 h21=>?_))
        cases r21 with
        | false=>
          simp only [Bool.not_false,Bool.not_true,cond_false,Bool.true_or,cond_true]
          refine H6 (Gj (no rfl fun h=>?_))
          obtain⟨b',hb,hs,_⟩:=h.each y hy
          rw [hf] at hb; cases hb
          have:=h21.2 hs; cases this
        | true=>
          have hslot:=h21.1 rfl
          simp only [Bool.not_true,Bool.not_false,cond_true,Bool.false_or]
          have htier : -1000000≤y.Slot.Tier∧y.Slot.Tier≤1000000:=by
            obtain⟨m,c,_,hc,h3⟩:=hslot.col
            have:=hslot.tier
            have:=ht c (List.mem_of_getElem? hc)
            omega
          refine H6 (wp_mono (Q4b y.Slot (l.map (·.Slot)) htier) (fun r22 h22=>?_))
          cases r22 with
          | false=>
            refine Hg (fun _=>no rfl fun h=>?_) (fun h=>by cases h)
            obtain⟨b',hb,_,hh⟩:=h.each y hy
            have:=h22.2 hh; cases this
          | true=>
            have hheld:=h22.1 rfl
            refine Hg (fun h=>by cases h) (fun _=>?_)
            refine H6 (Jba (m:=pre.length) rfl (by rw [List.length_map]; omega) ?_)
            have htk:(l.map (·.Slot)).take pre.length=pre.map (·.Slot):=by rw [← List.map_take,e,List.take_left']; rfl
            rw [htk]
            refine Qp (fun pr _=>∀ a∈pr,¬ Ga9 y.Slot a) (fun a ha=>(List.not_mem_nil ha).elim) (fun pr a pos u nx2 e2 hI2 hnx2=>?_) (fun u hI2=>hnx _ ⟨fun x hx=>?_,J0b i2 hsort,J0b i3 (fun a ha=>hI2 a.Slot (List.mem_map.2 ⟨a,ha,rfl⟩))⟩)
            · refine H6 (wp_mono (Q4a y.Slot a) (fun r48 h48=>?_))
              refine Hg (fun h=>no rfl fun hR=>?_) (fun h=>hnx2 _ (fun a' ha'=>?_))
              · have hm:=h48.1 h
                have hin:a∈pre.map (·.Slot):=by rw [e2]; simp
                obtain⟨z,hz,rfl⟩:=List.mem_map.1 hin
                have ha:=hR.apart
                rw [e] at ha
                exact H1b ha z hz hm
              · rcases List.mem_append.1 ha' with ha' | ha'
                · exact hI2 a' ha'
                · rw [List.mem_singleton] at ha'; subst ha'
                  intro hm
                  have:=h48.2 hm
                  rw [this] at h; cases h
            · rcases List.mem_append.1 hx with hx | hx
              · exact i1 x hx
              · rw [List.mem_singleton] at hx; subst hx
                exact⟨b,hf,hslot,hheld⟩
  · obtain⟨i1,i2,i3⟩:=hI
    refine Qp (fun pre _=>∀ m c,m < pre.length→s.Columns[m]? = some c→H6e boxes l m c) (fun m c h=>(Nat.not_lt_zero m h).elim) (fun pre y post u nx e hI hnx=>?_) (fun u hI=>Gj ⟨fun _=>⟨i1,i2,i3,fun m c hc=>hI m c (List.getElem?_eq_some_iff.1 hc).1 hc⟩,fun _=>rfl⟩)
    have hc:s.Columns[pre.length]? = some y:=by rw [e]; simp
    refine H6 (wp_mono (Q48 hc hl) (fun r hr=>?_))
    cases r with
    | false=>exact Hg (fun _=>Gj ⟨fun e=>(by cases e),fun h=>by have:=hr.2 (h.fits _ _ hc); cases this⟩) (fun h=>by cases h)
    | true=>
      refine Hg (fun h=>by cases h) (fun _=>hnx _ (fun m c hm hmc=>?_))
      rw [List.length_append,List.length_singleton] at hm
      rcases Nat.lt_or_ge m pre.length with h | h
      · exact hI m c h hmc
      · have:m=pre.length:=by omega
        subst this
        rw [hc] at hmc; cases hmc
        exact hr.1 rfl
section maps
variable {κ ν:Type} [DecidableEq κ]
theorem Q09 (a:κ):J1.has (J1.empty:J1 κ ν) a=false:=rfl
end maps
theorem He3 {α:Type} {l:List α} {wanted:α→Option Bool} {p:α→Bool} (hw:∀ x∈l,wanted x=some (p x)) (hl:l.length≤1000000) :
    each (fun y i (s:List Int) nx=>jp (fun kj=>bnd (wanted y) fun r=>bif r then (need (decide ((s.length+[(i:Int)].length)*8≤140737488355328∧s.length+[(i:Int)].length≤maxLen)) <| kj (s++[(i:Int)])) else (kj s)) fun(j:List Int)=>nx j)
      (fun s=>some s) l 0 []=some (Ge4 p l):=by
  refine G03 ?_
  refine Qp (fun pre s=>s=Ge4 p pre) rfl (fun pre x post s nx e hs hnx=>?_) (fun s hs=>Gj hs)
  subst hs
  have hpl:pre.length+1≤l.length:=by rw [e]; simp
  refine H5b (fun j=>j=Ge4 p (pre++[x])) (fun K hK=>?_) (fun j hj=>hnx _ hj)
  refine Gy (hw x (by rw [e]; simp)) (Hg (fun h=>Y2 ?_ (hK _ ?_)) (fun h=>hK _ ?_))
  · have:=Qdc p pre
    exact R57 (by rw [List.length_singleton]; omega) (by omega)
  · rw [Q5c,h]; rfl
  · rw [Q5c,h]; simp
theorem Ra6 {α:Type} (p:α→Bool) (x:α) (l:List α):Ge4 p (x::l)=(if p x then [0] else [])++(Ge4 p l).map (·+1):=by
  unfold Ge4
  rw [List.zipIdx_cons',List.filter_cons]
  have h:(((l.zipIdx.map (Prod.map id (fun n:Nat=>n+1))).filter (fun y:α×Nat=>p y.1)).map (fun y:α×Nat=>(y.2:Int)))=((l.zipIdx.filter (fun y:α×Nat=>p y.1)).map (fun y:α×Nat=>(y.2:Int))).map (·+1):=by
    rw [List.filter_map,List.map_map,List.map_map]
    rfl
  by_cases hx:p x=true
  · rw [if_pos (show p (x,0).fst=true from hx),if_pos hx,List.map_cons]
    exact congrArg (List.cons _) h
  · rw [if_neg (show ¬ p (x,0).fst=true from hx),if_neg hx,List.nil_append]
    exact h
theorem Ra5 {α:Type} (p:α→Bool) (l:List α):(Ge4 p l).head? = match l.findIdx? p with
    | some j=>some (j:Int)
    | none=>none:=by
  induction l with
  | nil=>rfl
  | cons x l ih=>
    rw [Ra6,List.findIdx?_cons]
    by_cases hx:p x
    · simp [hx]
    · simp only [hx,if_false,Bool.false_eq_true,List.nil_append,List.head?_map,ih]
      cases l.findIdx? p <;> simp
theorem Rd8 {α:Type} (p:α→Bool) (l:List α):decide (0 < ((Ge4 p l).length:Int))=l.any p:=by
  by_cases h:∀ x∈l,p x=false
  · rw [Qdb.2 h]
    refine Eq.symm (List.any_eq_false.2 fun x hx=>?_)
    rw [h x hx]; exact Bool.false_ne_true
  · have h1:Ge4 p l≠[]:=fun e=>h (Qdb.1 e)
    have h2:=List.length_pos_iff.2 h1
    rw [decide_eq_true (by omega)]
    refine Eq.symm (List.any_eq_true.2 ?_)
    refine Classical.byContradiction fun hn=>h fun x hx=>?_
    cases hc:p x with
    | false=>rfl
    | true=>exact(hn ⟨x,hx,hc⟩).elim
def Ge5 (x:G9) (c:G3):Bool:=decide (x.Bay=c.Bay)&&x.Rows.any (fun r=>decide (r=c.Row))
theorem J88 (x:G9) (c:G3) (hl:x.Rows.length≤1000000):G77 x c=some (Ge5 x c):=by
  unfold G77 Ge5
  by_cases h:x.Bay=c.Bay
  · have hc:G56 x.Rows (fun z0=>G6c z0 c)=some (Ge4 (fun r=>decide (r=c.Row)) x.Rows):=by
      unfold G56
      exact He3 (fun x _=>rfl) hl
    rw [decide_eq_true h]
    simp only [cond_true,Bool.true_and]
    rw [hc,G07,Rd8]
  · rw [decide_eq_false h]
    rfl
def Ro (s:H0) (c:G3):Int:=Hc6 (fun x=>Ge5 x c) s.Covers
theorem J3e {s:H0} {m:Nat} {c:G3} (hc:s.Columns[m]? = some c) (hr:∀ x∈s.Covers,x.Rows.length≤1000000) (hl:s.Covers.length≤1000000):G46 s (m:Int)=some (Ro s c):=by
  have hm:=(List.getElem?_eq_some_iff.1 hc).1
  refine G03 ?_
  unfold G46
  refine Hg (fun h=>?_) (fun _=>?_)
  · simp only [Bool.or_eq_true,decide_eq_true_eq] at h
    omega
  have hch:G0d s.Covers (fun z0=>G3e z0 s (m:Int))=some (Ge4 (fun x=>Ge5 x c) s.Covers):=by
    unfold G0d
    refine He3 (fun x hx=>G03 ?_) hl
    unfold G3e
    exact G32 rfl hc (Gy (J88 x c (hr x hx)) (Gj rfl))
  refine Gy hch ?_
  have hh:=Ra5 (fun x=>Ge5 x c) s.Covers
  unfold Ro Hc6
  cases hf:s.Covers.findIdx? (fun x=>Ge5 x c) with
  | none=>
    rw [hf] at hh
    have h0:Ge4 (fun x=>Ge5 x c) s.Covers=[]:=List.head?_eq_none_iff.1 hh
    rw [h0]
    exact Gj rfl
  | some j=>
    rw [hf] at hh
    cases hi:Ge4 (fun x=>Ge5 x c) s.Covers with
    | nil=>rw [hi] at hh; cases hh
    | cons z r=>
      rw [hi] at hh
      simp only [List.head?_cons,Option.some.injEq] at hh
      subst hh
      refine Hg (fun h=>?_) (fun _=>G32 (m:=0) rfl rfl (Gj rfl))
      have:=of_decide_eq_true h
      simp only [List.length_cons] at this
      omega
def abB (k:Int) (b:Box):Bool:=decide (b.Load≤k)&&decide (k < b.Discharge)
def Q05 (l:List Stowed) (id:Int):Slot×Bool:=match He1 l id with
  | some x=>(x.Slot,true)
  | none=>(⟨0,0,0⟩,false)
structure Small (s:H0):Prop where
  right:G96 s=some true
  cols:1≤s.Columns.length∧s.Columns.length≤40
  tiers:∀ c∈s.Columns,c.Tiers≤100
  covs:s.Covers.length≤1000
  rows:∀ x∈s.Covers,x.Rows.length≤1000
def Re7 (s:H0) (x:Slot):Prop:=∃ (m:Nat) (c:G3),x.G3=(m:Int)∧s.Columns[m]? = some c
structure Jac (U:List Int) (m:J1 Int Unit) (l:List Int):Prop where
  nodup:l.Nodup
  sub:∀ a∈l,a∈U
  has:∀ a,J1.has m a=decide (a∈l)
theorem Jac.le {U:List Int} {m:J1 Int Unit} {l:List Int} (h:Jac U m l):l.length≤U.length:=h.nodup.length_le_of_subset (fun a ha=>h.sub a ha)
theorem Jac.start {U:List Int}:Jac U (J1.empty:J1 Int Unit) []:=⟨List.nodup_nil,fun a ha=>(List.not_mem_nil ha).elim,fun a=>by simp [Q09]⟩
theorem H19 {l:List Int} (h:l.Pairwise (· < ·)):l.Nodup:=h.imp (fun h=>by omega)
theorem Small.tier {s:H0} (h:Small s):∀ c∈s.Columns,c.Tiers≤1000000:=fun c hc=>by have:=h.tiers c hc; omega
theorem Je8 {s:H0} {x:Slot} {size:Int} (h:H39 s x size):Re7 s x:=by
  obtain⟨m,c,h1,h2,_⟩:=h.col
  exact⟨m,c,h1,h2⟩
theorem R34 {s:H0} {boxes:List Box}:Ga1 s boxes []:=⟨fun x hx=>(List.not_mem_nil hx).elim,List.Pairwise.nil,List.Pairwise.nil,fun m c _=>by
  unfold H6e G51
  simp only [List.foldl_nil]
  omega⟩
theorem Hb4 {a b:List Int} (ha:a.Pairwise (· < ·)) (hb:b.Pairwise (· < ·)) (h:∀ x,x∈a ↔ x∈b):a=b:=
  List.Perm.eq_of_pairwise (le:=fun x y:Int=>x < y) (fun x y _ _ h1 h2=>by omega) ha hb ((List.perm_ext_iff_of_nodup (H19 ha) (H19 hb)).2 h)
structure VInv (s:H0) (boxes:List Box) (k:Int) (l:List Stowed):Prop where
  right:Ga1 s boxes l
  mem:∀ x∈l,∃ b∈boxes,b.ID=x.Box∧abB k b=true
theorem VInv.nil {s:H0} {boxes:List Box} {k:Int}:VInv s boxes k []:=⟨R34,fun x hx=>(List.not_mem_nil hx).elim⟩
def upon (s:H0) (x y:Slot):Prop:=∃ (m:Nat) (c:G3) (m1:Nat) (c1:G3),x.G3=(m:Int)∧s.Columns[m]? = some c∧y.G3=(m1:Int)∧s.Columns[m1]? = some c1∧c.Deck=false∧c1.Deck=true∧0≤Ro s c∧Ro s c1=Ro s c
def Y07 (s:H0) (states:List (List Stowed)) (st:List Stowed) (a b:Int):Prop:=
  (Q05 st a).2=true∧((∃ y∈st,y.Box=b∧Ge7 y.Slot (Q05 st a).1)∨∃ st2∈states,∃ y∈st2,y.Box=b∧upon s (Q05 st a).1 y.Slot)
def J0d (s:H0) (states:List (List Stowed)) (a b:Int):Prop:=∃ st∈states,Y07 s states st a b
structure Grown (s:H0) (U:List Int) (states:List (List Stowed)) (l:List Int) (id:Int) (m:J1 Int Unit) (l':List Int):Prop where
  inv:Jac U m l'
  sub:∀ a∈l,a∈l'
  has:id∈l'
  closed:∀ a∈l',a ∉ l→∀ b,J0d s states a b→b∈l'
  least:∀ C:Int→Prop,(∀ a b,C a→J0d s states a b→C b)→(∀ a∈l,C a)→C id→∀ a∈l',C a
structure Rch (s:H0) (U:List Int) (states:List (List Stowed)) (l:List Int) (id:Int) (m:J1 Int Unit) (l':List Int):Prop where
  inv:Jac U m l'
  sub:∀ a∈l++[id],a∈l'
  closed:∀ a∈l',a ∉ l→a≠id→∀ b,J0d s states a b→b∈l'
  least:∀ C:Int→Prop,(∀ a b,C a→J0d s states a b→C b)→(∀ a∈l,C a)→C id→∀ a∈l',C a
section
variable {s:H0} {U:List Int} {states:List (List Stowed)} {l l' l2:List Int} {id y:Int} {m m2:J1 Int Unit}
theorem Rch.start (h:Jac U m (l++[id])):Rch s U states l id m (l++[id]):=
  ⟨h,fun a ha=>ha,fun a ha h1 h2=>by
    rcases List.mem_append.1 ha with ha | ha
    · exact(h1 ha).elim
    · exact(h2 (List.mem_singleton.1 ha)).elim,fun C _ hl hid a ha=>by
    rcases List.mem_append.1 ha with ha | ha
    · exact hl a ha
    · exact List.mem_singleton.1 ha ▸ hid⟩
theorem Rch.step (h:Rch s U states l id m l') (hp:J0d s states id y) (g:Grown s U states l' y m2 l2):Rch s U states l id m2 l2∧(∀ a∈l',a∈l2)∧y∈l2:=
  ⟨⟨g.inv,fun a ha=>g.sub a (h.sub a ha),fun a ha h1 h2 b hb=>by
    by_cases hal:a∈l'
    · exact g.sub b (h.closed a hal h1 h2 b hb)
    · exact g.closed a ha hal b hb,fun C hc hl hid=>g.least C hc (h.least C hc hl hid) (hc id y hid hp)⟩,g.sub,g.has⟩
end
structure Re2 (s:H0) (before after:List Stowed) (l:List Int):Prop where
  seeds:∀ st∈[before,after],∀ y∈st,Q05 before y.Box≠Q05 after y.Box→y.Box∈l
  closed:∀ a∈l,∀ b,J0d s [before,after] a b→b∈l
  least:∀ C:Int→Prop,(∀ a b,C a→J0d s [before,after] a b→C b)→(∀ st∈[before,after],∀ y∈st,Q05 before y.Box≠Q05 after y.Box→C y.Box)→∀ a∈l,C a
theorem Jf6 {α:Type} {a b x:α} (h:x∈[a,b]):x∈[b,a]:=by
  simp only [List.mem_cons,List.not_mem_nil,or_false] at h ⊢
  exact h.symm
theorem J0d.swap {s:H0} {a b:List Stowed} {x y:Int} (h:J0d s [a,b] x y):J0d s [b,a] x y:=by
  obtain⟨st,hst,h1,h2⟩:=h
  exact⟨st,Jf6 hst,h1,h2.imp _root_.id (fun⟨st2,h3,h4⟩=>⟨st2,Jf6 h3,h4⟩)⟩
theorem Re2.le {s:H0} {before after:List Stowed} {l l':List Int} (h:Re2 s before after l) (h':Re2 s after before l'):∀ a∈l,a∈l':=
  h.least (·∈l') (fun a b ha hb=>h'.closed a ha b hb.swap) (fun st hst y hy hne=>h'.seeds st (Jf6 hst) y hy (fun e=>hne e.symm))
theorem H66 {α:Type} [Inhabited α] {c:Bool} {m:Option α} {x:α} (h:c=true→m=some x):∃ r,(bif c then m else some default)=some r∧(c=true→r=x):=by
  cases c with
  | true=>exact⟨x,h rfl,fun _=>rfl⟩
  | false=>exact⟨default,rfl,fun e=>by cases e⟩
theorem H84 (boxes:List Box) (id:Int):Rz boxes id=some (match G34 boxes id with
    | some b=>(b,true)
    | none=>(Box.mk 0 ByteArray.empty 0 false 0 0 0 0 false,false)):=by
  refine G03 ?_
  unfold Rz
  refine Qp (fun pre _=>∀ b∈pre,¬ b.ID=id) (fun b hb=>(List.not_mem_nil hb).elim) (fun pre y post s nx e hI hnx=>Hg (fun h=>Gj ?_) (fun h=>hnx _ (Qm (P:=fun b:Box=>¬ b.ID=id) hI (of_decide_eq_false h)))) (fun s hI=>Gj ?_)
  · have:G34 boxes id=some y:=by
      unfold G34
      rw [e,List.find?_append,List.find?_eq_none.2 (fun b hb=>by simpa using hI b hb)]
      simp only [Option.none_or,List.find?_cons,h]
    rw [this]
  · have:G34 boxes id=none:=by
      unfold G34
      exact List.find?_eq_none.2 (fun b hb=>by simpa using hI b hb)
    rw [this]
theorem Qcf (s:H0) (x:Slot) (size:Int):Wp (Yr s x size) (fun r=>r=true ↔ H39 s x size):=by
  unfold Yr
  have hhalf:(((decide (size=40))&&(decide (x.Half=0)))||((decide (size=20))&&((decide (x.Half=1))||(decide (x.Half=2)))))=true ↔ x.Half∈J4d size:=by
    unfold J4d
    simp only [Bool.or_eq_true,Bool.and_eq_true,decide_eq_true_eq]
    by_cases h4:size=40
    · rw [if_pos h4]; subst h4; simp
    · rw [if_neg h4]
      by_cases h2:size=20
      · rw [if_pos h2]; subst h2; simp
      · rw [if_neg h2]; simp [h4,h2]
  by_cases h0:0≤x.G3∧x.G3 < (s.Columns.length:Int)∧0≤x.Tier
  · obtain⟨m,hm⟩:∃ m:Nat,x.G3=(m:Int):=⟨x.G3.toNat,by omega⟩
    have hml:m < s.Columns.length:=by omega
    have hc:s.Columns[m]? = some s.Columns[m]:=by simp [hml]
    have hok:((decide (x.G3 < 0)||decide ((s.Columns.length:Int)≤x.G3))||decide (x.Tier < 0))=false:=by
      simp only [Bool.or_eq_false_iff,decide_eq_false_iff_not]; omega
    rw [hok]
    simp only [Bool.not_false,cond_true,Bool.false_or]
    rw [hm]
    refine Gy ((Y9 hc some).trans rfl) (Hg (fun h=>Gj (Yn fun hs=>?_)) (fun h=>Gj ?_))
    · obtain⟨m',c,e1,e2,e3⟩:=hs.col
      have:m'=m:=by omega
      subst this
      rw [hc] at e2; cases e2
      have:=of_decide_eq_true h
      omega
    · rw [hhalf]
      exact⟨fun hh=>⟨⟨m,_,hm,hc,by have:=of_decide_eq_false h; omega⟩,h0.2.2,hh⟩,fun hs=>hs.half⟩
  · have hok:((decide (x.G3 < 0)||decide ((s.Columns.length:Int)≤x.G3))||decide (x.Tier < 0))=true:=by
      simp only [Bool.or_eq_true,decide_eq_true_eq]; omega
    rw [hok]
    simp only [Bool.not_true,cond_false,Bool.true_or,cond_true]
    refine H6 (Gj (Gj (Yn fun hs=>h0 ?_)))
    obtain⟨m',c,e1,e2,e3⟩:=hs.col
    have:=(List.getElem?_eq_some_iff.1 e2).1
    have:=hs.tier
    omega
theorem Jb0 (l:List Slot) (x:Slot) (half:Int) (ht : -1000000≤x.Tier∧x.Tier≤1000000):Wp (Re l x half) (fun r=>r=true ↔ below l x half):=by
  unfold Re below
  have key:∀ y:Slot,(y.G3=x.G3∧y.Tier=x.Tier - 1∧y.Half=half) ↔ y=⟨x.G3,x.Tier - 1,half⟩:=fun y=>by
    cases y
    simp
  refine Qp (fun pre _=>∀ y∈pre,¬ y=⟨x.G3,x.Tier - 1,half⟩) (fun b hb=>(List.not_mem_nil hb).elim) (fun pre y post s nx e hI hnx=>?_) (fun s hI=>Gj (Yn fun h=>hI _ h rfl))
  obtain⟨r,e1,h1⟩:=H66 (c:=decide (y.G3=x.G3)) (m:=chk (x.Tier - 1) some) (x:=x.Tier - 1) (fun _=>G03 (Yb ⟨by omega,by omega⟩ (Gj rfl)))
  refine Gy e1 (Hg (fun h=>Gj ⟨fun _=>?_,fun _=>rfl⟩) (fun h=>hnx _ (Qm hI fun hy=>?_)))
  · simp only [Bool.and_eq_true,decide_eq_true_eq] at h
    have hr:=h1 (decide_eq_true h.1.1)
    have:=(key y).1 ⟨h.1.1,by rw [h.1.2,hr],h.2⟩
    rw [← this,e]; simp
  · have hk:=(key y).2 hy
    have hr:=h1 (decide_eq_true hk.1)
    rw [hr,decide_eq_true hk.1,decide_eq_true hk.2.1,decide_eq_true hk.2.2] at h
    cases h
theorem Qd2 (x:Slot) (l:List Slot) (ht : -1000000≤x.Tier∧x.Tier≤1000000):Wp (Z5 x l) (fun r=>r=true ↔ H6d x l):=by
  unfold Z5 H6d
  refine Hg (fun h=>Gj ⟨fun _=>.inl (of_decide_eq_true h),fun _=>rfl⟩) (fun h=>?_)
  have h0:=of_decide_eq_false h
  refine Hg (fun h=>?_) (fun h=>?_)
  · have hh:=of_decide_eq_true h
    refine H6 (wp_mono (Jb0 l x 0 ht) (fun r8 h8=>?_))
    rw [hh]
    cases r8 with
    | true=>exact H6 (Gj (H6 (Gj (Gj ⟨fun _=>.inr (.inl (h8.1 rfl)),fun _=>rfl⟩))))
    | false=>
      simp only [Bool.not_false,cond_true,Bool.true_and,Bool.false_or]
      refine H6 (wp_mono (Jb0 l x 1 ht) (fun r9 h9=>?_))
      have n0:¬ below l x 0:=fun hb=>by have:=h8.2 hb; cases this
      cases r9 with
      | true=>
        simp only [cond_true,Bool.true_and]
        refine H6 (wp_mono (Jb0 l x 2 ht) (fun r10 h10=>Gj ?_))
        rw [h10]
        exact⟨fun hb=>.inr (.inr ⟨trivial,h9.1 rfl,hb⟩),fun hh=>hh.elim (fun h=>(h0 h).elim) (fun h=>h.elim (fun h=>(n0 h).elim) (fun h=>h.2.2))⟩
      | false=>
        simp only [cond_false,Bool.false_and]
        refine H6 (Gj (Gj (Yn fun hh=>hh.elim h0 (fun h=>h.elim n0 (fun h=>?_)))))
        have:=h9.2 h.2.1; cases this
  · have hh:=of_decide_eq_false h
    refine H6 (wp_mono (Jb0 l x x.Half ht) (fun r h1=>Gj ?_))
    rw [h1]
    exact⟨fun h=>.inr (.inl h),fun h=>h.elim (fun h=>(h0 h).elim) (fun h=>h.elim (fun h=>h) (fun h=>(hh h.1).elim))⟩
def J3f (a b:Int):Bool:=((decide (a=b))||(decide (a=0)))||(decide (b=0))
theorem Jef (a b:Int):R8 a b=some (J3f a b):=rfl
theorem J89 {a b:Int}:J3f a b=true ↔ G93 a b:=by
  unfold J3f G93
  simp only [Bool.or_eq_true,decide_eq_true_eq,or_assoc]
theorem Qd0 (a b:Slot):Wp (Z4 a b) (fun r=>r=true ↔ Ga9 a b):=by
  unfold Z4 Ga9
  obtain⟨r,e1,h1⟩:=H66 (c:=decide (a.G3=b.G3)&&decide (a.Tier=b.Tier)) (m:=R8 a.Half b.Half) (x:=J3f a.Half b.Half) (fun _=>Jef _ _)
  refine Gy e1 (Gj ?_)
  cases hc:(decide (a.G3=b.G3)&&decide (a.Tier=b.Tier)) with
  | true=>
    rw [h1 hc]
    simp only [Bool.and_eq_true,decide_eq_true_eq] at hc
    rw [Bool.true_and,J89]
    exact⟨fun h=>⟨hc.1,hc.2,h⟩,fun h=>h.2.2⟩
  | false=>
    simp only [Bool.false_and]
    refine Yn fun h=>?_
    rw [decide_eq_true h.1,decide_eq_true h.2.1] at hc
    cases hc
theorem Rc9 (a b:Slot):Wp (G12 a b) (fun r=>r=true ↔ Ge7 a b):=by
  unfold G12 Ge7
  obtain⟨r,e1,h1⟩:=H66 (c:=decide (a.G3=b.G3)&&decide (b.Tier < a.Tier)) (m:=R8 a.Half b.Half) (x:=J3f a.Half b.Half) (fun _=>Jef _ _)
  refine Gy e1 (Gj ?_)
  cases hc:(decide (a.G3=b.G3)&&decide (b.Tier < a.Tier)) with
  | true=>
    rw [h1 hc]
    simp only [Bool.and_eq_true,decide_eq_true_eq] at hc
    rw [Bool.true_and,J89]
    exact⟨fun h=>⟨hc.1,hc.2,h⟩,fun h=>h.2.2⟩
  | false=>
    simp only [Bool.false_and]
    refine Yn fun h=>?_
    rw [decide_eq_true h.1,decide_eq_true h.2.1] at hc
    cases hc
theorem Jee (boxes:List Box) (l:List Stowed) (column half:Int) (hl:l.length≤1000000):R7 boxes l column half=some (G51 boxes l column half):=by
  refine G03 ?_
  unfold R7
  refine Qp (fun pre n=>n=G51 boxes pre column half∧0≤n∧n≤2896*(pre.length:Int)) ⟨rfl,by omega,by simp⟩ (fun pre y post n nx e hI hnx=>?_) (fun n hI=>Gj hI.1)
  obtain⟨i1,i2,i3⟩:=hI
  have hpl:pre.length < 1000000:=by rw [e] at hl; simp only [List.length_append,List.length_cons] at hl; omega
  have hstep:G51 boxes (pre++[y]) column half=H00 boxes column half n y:=by
    unfold G51; rw [List.foldl_append,i1]; rfl
  have hle:=Jb4 (boxes:=boxes) (column:=column) (half:=half) (n:=n) (x:=y)
  refine H5b (fun j=>j=H00 boxes column half n y) (fun K hK=>?_) (fun j hj=>hnx _ ⟨by rw [hstep,hj],by omega,by rw [List.length_append,List.length_singleton]; omega⟩)
  refine Gy (H84 boxes y.Box) ?_
  unfold H00 at hK
  cases hf:G34 boxes y.Box with
  | none=>
    rw [hf] at hK
    simp only [Bool.not_false,Bool.true_or,cond_true]
    exact hK _ (by split <;> rfl)
  | some b=>
    rw [hf] at hK
    simp only [Bool.not_true,Bool.false_or]
    refine Hg (fun h=>hK _ ?_) (fun h=>?_)
    · simp only [Bool.or_eq_true,Bool.and_eq_true,decide_eq_true_eq,ne_eq] at h
      have hneg:¬ (y.Slot.G3=column∧(y.Slot.Half=half∨y.Slot.Half=0)):=fun hc=>h.elim (fun h=>h hc.1) (fun h=>hc.2.elim h.1 h.2)
      rw [if_neg hneg]
    · simp only [Bool.or_eq_false_iff,Bool.and_eq_false_iff,decide_eq_false_iff_not,ne_eq,Decidable.not_not] at h
      rw [if_pos ⟨h.1,h.2⟩] at hK
      unfold Q46 at hK
      refine Hg (fun hh=>Yb ⟨by omega,by omega⟩ (hK _ (by show _=n+(if b.High=true then 2896 else 2591); rw [if_pos hh]))) (fun hh=>Yb ⟨by omega,by omega⟩ (hK _ (by show _=n+(if b.High=true then 2896 else 2591); rw [if_neg (by rw [hh]; simp)])))
theorem Q51 (l:List Stowed) (hl:l.length≤1000000):Yo l=some (l.map (·.Slot)):=by
  refine G03 ?_
  unfold Yo
  refine Qp (fun pre s=>s=pre.map (·.Slot)) rfl (fun pre y post s nx e hI hnx=>?_) (fun s hI=>Gj hI)
  have hpl:pre.length < 1000000:=by rw [e] at hl; simp only [List.length_append,List.length_cons] at hl; omega
  subst hI
  refine Y2 (R58 (by rw [List.length_map,List.length_singleton]; omega) (by omega)) (hnx _ (by simp))
theorem Qd1 {s:H0} {boxes:List Box} {l:List Stowed} {m:Nat} {c:G3} (hc:s.Columns[m]? = some c) (h0:0≤c.Height) (hl:l.length≤1000000):Wp (Ry s boxes l (m:Int)) (fun r=>r=true ↔ ¬ H6e boxes l m c):=by
  unfold Ry H6e
  rw [Y9 hc]
  refine Hg (fun h=>Gj (Yn fun h2=>h2 (.inl (by have:=of_decide_eq_true h; omega)))) (fun h=>?_)
  have hh:=of_decide_eq_false h
  refine Gy (Jee boxes l m 1 hl) ?_
  rw [Y9 hc]
  obtain⟨r,e1,h1⟩:=H66 (c:=!(decide (c.Height < G51 boxes l m 1))) (m:=R7 boxes l m 2) (x:=G51 boxes l m 2) (fun _=>Jee boxes l m 2 hl)
  obtain⟨r2,e2,h2⟩:=H66 (c:=!(decide (c.Height < G51 boxes l m 1))) (m:=Qq s.Columns (m:Int) some) (x:=c) (fun _=>Y9 hc some)
  refine Gy e1 (Gy e2 (Gj ?_))
  by_cases hlt:c.Height < G51 boxes l m 1
  · rw [decide_eq_true hlt,Bool.true_or]
    exact⟨fun _ hf=>by omega,fun _=>rfl⟩
  · have e3:=h1 (by rw [decide_eq_false hlt]; rfl)
    have e4:=h2 (by rw [decide_eq_false hlt]; rfl)
    rw [e3,e4,decide_eq_false hlt,Bool.false_or,decide_eq_true_eq]
    omega
theorem Rc8 {F:Nat} {s:H0} {boxes:List Box} {l:List Stowed} (hp:∀ c∈s.Columns,c.Plugs.length≤1048576) (hr:∀ x∈s.Covers,x.Rows.length≤1048576) (hb:∀ b∈boxes,0≤b.Size∧b.Size≤255) (hl:l.length≤1000000) :
    Wp (Yq F s boxes l) (fun r=>r=true ↔ H15 s∧Ga1 s boxes l):=by
  unfold Yq
  refine H6 (wp_mono (R93 (F:=F) s hp hr) (fun r hs=>Hg (fun h=>Gj (Yn fun hh=>?_)) (fun h=>?_)))
  · rw [hs.2 hh.1] at h; cases h
  have hS:H15 s:=by
    cases r with
    | true=>exact hs.1 rfl
    | false=>cases h
  have htier:∀ c∈s.Columns,c.Tiers≤10:=fun c hc=>by have:=(hS.col c hc).place; omega
  refine Qp (fun pre _=>(∀ x∈pre,∃ b,G34 boxes x.Box=some b∧H39 s x.Slot b.Size∧H6d x.Slot (l.map (·.Slot)))∧pre.Pairwise (fun a b=>a.Box < b.Box)∧pre.Pairwise (fun a b=>¬ Ga9 b.Slot a.Slot))
    ⟨fun x hx=>(List.not_mem_nil hx).elim,List.Pairwise.nil,List.Pairwise.nil⟩ (fun pre y post u nx e hI hnx=>?_) (fun u hI=>?_)
  · obtain⟨i1,i2,i3⟩:=hI
    have hym:y∈l:=by rw [e]; simp
    have hpl:pre.length < l.length:=by rw [e]; simp
    refine Gy (H84 boxes y.Box) ?_
    cases hf:G34 boxes y.Box with
    | none=>
      simp only [Bool.not_false,Bool.not_true,cond_false,Bool.true_or,cond_true]
      refine H6 (Gj (H6 (Gj (H6 (Gj (H6 (Gj (Gj (Yn fun hh=>?_)))))))))
      obtain⟨b,h1,_⟩:=hh.2.each y hym
      rw [hf] at h1; cases h1
    | some b=>
      have hbm:b∈boxes:=List.mem_of_find?_eq_some hf
      have hbs:=hb b hbm
      simp only [Bool.not_true,Bool.not_false,cond_true,Bool.false_or]
      refine H6 (Yb ⟨by omega,by omega⟩ (Gj (H6 (wp_mono (Qcf s y.Slot b.Size) (fun r17 h17=>?_)))))
      cases r17 with
      | false=>
        simp only [Bool.not_false,Bool.not_true,cond_false,Bool.true_or,cond_true]
        refine H6 (Gj (H6 (Gj (Gj (Yn fun hh=>?_)))))
        obtain⟨b',h1,h2,_⟩:=hh.2.each y hym
        rw [hf] at h1; cases h1
        have:=h17.2 h2; cases this
      | true=>
        have hslot:=h17.1 rfl
        simp only [Bool.not_true,Bool.not_false,cond_true,Bool.false_or]
        refine Gy (Q51 l hl) ?_
        have htr : -1000000≤y.Slot.Tier∧y.Slot.Tier≤1000000:=by
          obtain⟨m',c,_,e2,e3⟩:=hslot.col
          have:=htier c (List.mem_of_getElem? e2)
          have:=hslot.tier
          omega
        refine H6 (wp_mono (Qd2 y.Slot (l.map (·.Slot)) htr) (fun r19 h19=>Hg (fun h=>Gj (Yn fun hh=>?_)) (fun h=>?_)))
        · obtain⟨b',h1,_,h2⟩:=hh.2.each y hym
          rw [h19.2 h2] at h; cases h
        have hheld:H6d y.Slot (l.map (·.Slot)):=by
          cases r19 with
          | true=>exact h19.1 rfl
          | false=>cases h
        refine Y2 (decide_eq_true (by omega)) ?_
        rw [show (pre.length:Int).toNat=pre.length by omega]
        refine Hf3 (fun i _=>∀ (k:Nat) z,k < i→pre[k]? = some z→z.Box < y.Box∧¬ Ga9 z.Slot y.Slot) (fun k z hk=>by omega) (fun i u nx2 hi hJ hnx2=>?_) (fun u hJ=>hnx _ ?_)
        · have hx:pre[i]? = some (pre[i]'hi):=List.getElem?_eq_getElem hi
          have hsx:l[i]? = some (pre[i]'hi):=by rw [e,List.getElem?_append_left hi]; exact hx
          have hzm:pre[i]'hi∈pre:=List.getElem_mem _
          generalize pre[i]'hi=z at hx hsx hzm
          rw [Y9 hsx]
          obtain⟨q1,e1,h1⟩:=H66 (c:=!(decide (y.Box≤z.Box))) (m:=Qq l (i:Int) some) (x:=z) (fun _=>Y9 hsx some)
          refine Gy e1 ?_
          by_cases hbz:y.Box≤z.Box
          · rw [decide_eq_true hbz]
            simp only [Bool.not_true,cond_false,Bool.true_or,cond_true]
            refine H6 (Gj (Gj (Yn fun hh=>?_)))
            have h1:=hh.2.sorted
            rw [e] at h1
            have:=(List.pairwise_append.1 h1).2.2 z hzm y (by simp)
            omega
          · have hq:=h1 (by rw [decide_eq_false hbz]; rfl)
            subst hq
            rw [decide_eq_false hbz]
            simp only [Bool.not_false,cond_true,Bool.false_or]
            refine H6 (wp_mono (Qd0 q1.Slot y.Slot) (fun r47 h47=>Hg (fun h=>Gj (Yn fun hh=>?_)) (fun h=>hnx2 _ (fun k c hk2 hc2=>?_))))
            · have h1:=hh.2.apart
              rw [e] at h1
              have h2:=(List.pairwise_append.1 h1).2.2 q1 hzm y (by simp)
              have h3:=h47.1 h
              refine h2 ?_
              unfold Ga9 G93 at h3 ⊢
              obtain⟨a1,a2,a3⟩:=h3
              exact⟨a1.symm,a2.symm,by omega⟩
            · by_cases hki:k < i
              · exact hJ k c hki hc2
              · have:k=i:=by omega
                subst this
                rw [hx] at hc2
                cases hc2
                exact⟨by omega,fun h3=>by rw [h47.2 h3] at h; cases h⟩
        · have hall:∀ z∈pre,z.Box < y.Box∧¬ Ga9 z.Slot y.Slot:=fun z hz=>by
            obtain⟨k,hk⟩:=List.mem_iff_getElem?.1 hz
            exact hJ k z (List.getElem?_eq_some_iff.1 hk).1 hk
          refine⟨Qm i1 ⟨b,hf,hslot,hheld⟩,H5f i2 (fun z hz=>(hall z hz).1),H5f i3 (fun z hz h3=>(hall z hz).2 ?_)⟩
          unfold Ga9 G93 at h3 ⊢
          obtain⟨a1,a2,a3⟩:=h3
          exact⟨a1.symm,a2.symm,by omega⟩
  · obtain⟨i1,i2,i3⟩:=hI
    refine Qp (fun pre _=>∀ (k:Nat) c,k < pre.length→s.Columns[k]? = some c→H6e boxes l k c) (fun k c hk=>by simp at hk) (fun pre y post u nx e hJ hnx=>?_) (fun u hJ=>Gj ⟨fun _=>⟨hS,i1,i2,i3,fun m c hc=>hJ m c (List.getElem?_eq_some_iff.1 hc).1 hc⟩,fun _=>rfl⟩)
    have hy:s.Columns[pre.length]? = some y:=by rw [e]; simp
    have h0:0≤y.Height:=by have:=(hS.col y (by rw [e]; simp)).place; omega
    refine H6 (wp_mono (Qd1 (boxes:=boxes) (l:=l) hy h0 hl) (fun r67 h67=>Hg (fun h=>Gj (Yn fun hh=>h67.1 h (hh.2.fits _ _ hy))) (fun h=>hnx _ (fun k c hk hc=>?_))))
    rw [List.length_append,List.length_singleton] at hk
    by_cases hkp:k < pre.length
    · exact hJ k c hkp hc
    · have:k=pre.length:=by omega
      subst this
      rw [hy] at hc
      cases hc
      refine Classical.byContradiction fun hf=>?_
      rw [h67.2 hf] at h; cases h
theorem Q52 {s:H0} {boxes:List Box} {l:List Stowed} (hp:∀ c∈s.Columns,c.Plugs.length≤1048576) (hr:∀ x∈s.Covers,x.Rows.length≤1048576) (hl:l.length≤1000000) :
    Wp (G1b s boxes l) (fun r=>r=true ↔ H15 s∧Ga1 s boxes l):=by
  obtain⟨r,er,hs⟩:=Je9 s hp hr
  cases r with
  | true=>
    have hS:=hs.1 rfl
    refine wp_mono (Je3 er (fun c hc=>by have:=(hS.col c hc).place; omega) hl) (fun r h=>h.trans ⟨fun h=>⟨hS,h⟩,fun h=>h.2⟩)
  | false=>
    unfold G1b
    refine Gy er (Hg (fun _=>Gj (Yn fun hh=>?_)) (fun h=>by cases h))
    have:=hs.2 hh.1; cases this
theorem wp_loop {β σ:Type} {Q:β→Prop} (I:σ→Prop) (μ:σ→Nat) {b:(σ→Option β)→σ→Option β} {F:Nat} {s:σ} (h0:I s) (hF:μ s < F)
    (hb:∀ s nx,I s→(∀ s',I s'→μ s' < μ s→Wp (nx s') Q)→Wp (b nx s) Q):Wp (loop b F s) Q:=by
  induction F generalizing s with
  | zero=>omega
  | succ F ih=>
    rw [loop]
    exact hb s _ h0 (fun s' h1 h2=>ih h1 (by omega))
theorem Q7b (l:List Stowed) (id:Int):R4 l id=some (Hc6 (fun x:Stowed=>decide (x.Box=id)) l):=by
  unfold R4
  exact H8a (f:=fun x:Stowed=>some (decide (x.Box=id))) (fun x _=>rfl)
theorem Y01 {α:Type} {p:α→Bool} {pre post:List α} {y:α} (h1:∀ x∈pre,p x=false) (h2:p y=true):Hc6 p (pre++y::post)=(pre.length:Int):=by
  have:(pre++y::post).findIdx? p=some pre.length:=by
    rw [List.findIdx?_append,List.findIdx?_eq_none_iff.2 h1]
    simp [List.findIdx?_cons,h2]
  unfold Hc6
  rw [this]
theorem Ra7 {α:Type} {p:α→Bool} {l:List α} (h1:∀ x∈l,p x=false):Hc6 p l = -1:=by
  unfold Hc6
  rw [List.findIdx?_eq_none_iff.2 h1]
theorem J63 {s:H0} {m:Nat} {c:G3} (hc:s.Columns[m]? = some c):Qk s (m:Int)=some (Ro s c):=by
  refine G03 ?_
  unfold Qk Ro
  have hml:=(List.getElem?_eq_some_iff.1 hc).1
  refine Hg (fun h=>?_) (fun _=>?_)
  · simp only [Bool.or_eq_true,decide_eq_true_eq] at h
    omega
  refine Qp (fun pre _=>∀ x∈pre,Ge5 x c=false) (fun b hb=>(List.not_mem_nil hb).elim) (fun pre y post u nx e hI hnx=>?_) (fun u hI=>Gj (Ra7 hI).symm)
  rw [Y9 hc]
  obtain⟨q1,e1,h1⟩:=H66 (c:=decide (y.Bay=c.Bay)) (m:=Qq s.Columns (m:Int) some) (x:=c) (fun _=>Y9 hc some)
  refine Gy e1 ?_
  obtain⟨q2,e2,h2⟩:=H66 (c:=decide (y.Bay=c.Bay)) (m:=Qf y.Rows q1.Row) (x:=y.Rows.any (fun r=>decide (r=c.Row))) (fun h=>by rw [h1 h]; exact Jfc _ _)
  refine Gy e2 ?_
  have hcov:(decide (y.Bay=c.Bay)&&q2)=Ge5 y c:=by
    unfold Ge5
    cases hb:decide (y.Bay=c.Bay) with
    | true=>rw [h2 hb]
    | false=>rfl
  rw [hcov]
  refine Hg (fun h=>Gj ?_) (fun h=>hnx _ (Qm (P:=fun x=>Ge5 x c=false) hI h))
  rw [e,Y01 hI h]
section lifted
variable {s:H0} {before after:List Stowed}
end lifted
end Go.Proofs.YtecjdioomlhhiaaGreat
