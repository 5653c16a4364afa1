/-
  What the program and the reference say of a ship and of a state: the same.
-/
import Derived.Test.YthcpolfodgjekaaGreatXP
import Derived.Test.YthcpolfodgjekaaGreatLentL
set_option maxRecDepth 100000
namespace Go.Proofs.YthcpolfodgjekaaGreat
open Go.RowKit

structure ColR (c:G4):Prop where
  plugs:∀ p∈c.Plugs,0≤p∧p < c.Tiers
  sorted:c.Plugs.Pairwise (· < ·)
  place:0≤c.Bay∧c.Bay≤39∧0≤c.Row∧c.Row≤30∧1≤c.Tiers∧c.Tiers≤10∧0≤c.Height∧c.Height≤40000
  load:0≤c.Kilos20∧c.Kilos20≤500000000∧0≤c.Kilos40∧c.Kilos40≤500000000∧0≤c.Lash∧c.Lash≤1000000000000
  at_ : -500000≤c.X∧c.X≤500000 ∧ -500000≤c.Y∧c.Y≤500000 ∧ -500000≤c.Z∧c.Z≤500000
theorem Y0 {p:Prop} (h:¬ p):(false=true) ↔ p:=⟨fun e=>Bool.noConfusion e,fun hp=>(h hp).elim⟩
theorem wp_wrp {β:Type} {Q:β→Prop} {z:Int} {k:Int→Option β} (h:Wp (k (IntKind.i64.wrap z)) Q):Wp (wrp z k) Q:=h
theorem H96 {α:Type} {R:α→α→Prop} {l:List α} {x:α} (h:l.Pairwise R) (hx:∀ a∈l,R a x):(l++[x]).Pairwise R:=by
  rw [List.pairwise_append]
  refine⟨h,List.pairwise_singleton ..,fun a ha b hb=>?_⟩
  rw [List.mem_singleton] at hb; subst hb
  exact hx a ha
theorem Qn {α:Type} {P:α→Prop} {l:List α} {x:α} (h1:∀ y∈l,P y) (h2:P x):∀ y∈l++[x],P y:=fun y hy=>by
  rcases List.mem_append.1 hy with hy | hy
  · exact h1 y hy
  · rw [List.mem_singleton.1 hy]; exact h2
theorem H57 {pre:List Int} {y p:Int} (h:pre.Pairwise (· < ·)) (hp:pre[pre.length - 1]? = some p) (hy:p < y):∀ a∈pre,a < y:=by
  rcases List.eq_nil_or_concat pre with rfl | ⟨q,z,rfl⟩
  · intro a ha; cases ha
  · rw [List.concat_eq_append] at *
    have hz:z=p:=by
      rw [List.length_append,List.length_singleton,show q.length+1 - 1=q.length by omega] at hp
      simpa using hp
    subst hz
    intro a ha
    rcases List.mem_append.1 ha with ha | ha
    · have:=(List.pairwise_append.1 h).2.2 a ha z (by simp)
      omega
    · rw [List.mem_singleton.1 ha]; exact hy
theorem J9e (l:List Hp):G62 l=some (l.all (fun x=>decide (x.low≤x.n)&&decide (x.n≤x.high))):=by
  refine Zz ?_
  unfold G62
  refine Qi (fun pre _=>pre.all (fun x=>decide (x.low≤x.n)&&decide (x.n≤x.high))=true) rfl (fun pre y post s nx e hI hnx=>J3 (fun h=>Gt ?_) (fun h=>hnx _ ?_)) (fun s hI=>Gt hI.symm)
  · symm
    rw [List.all_eq_false]
    refine⟨y,by rw [e]; simp,?_⟩
    simp only [Bool.or_eq_true,decide_eq_true_eq] at h
    simp only [Bool.and_eq_true,decide_eq_true_eq]
    omega
  · simp only [Bool.or_eq_false_iff,decide_eq_false_iff_not] at h
    rw [List.all_append,hI]
    simp only [List.all_cons,List.all_nil,Bool.and_true,Bool.true_and,Bool.and_eq_true,decide_eq_true_eq]
    omega
theorem Jbd {pre post:List Int} {l:List Int} {y:Int} (e:l=pre++y::post) (hp:0 < pre.length):∃ p,l[pre.length - 1]? = some p∧pre[pre.length - 1]? = some p∧p∈pre:=by
  have h1:pre[pre.length - 1]? = some (pre[pre.length - 1]'(by omega)):=List.getElem?_eq_getElem (by omega)
  exact⟨_,by rw [e,List.getElem?_append_left (by omega)]; exact h1,h1,List.getElem_mem _⟩
theorem col_right (c:G4) (hl:c.Plugs.length≤1048576):Wp (G99 c) (fun r=>r=true ↔ ColR c):=by
  unfold G99
  have hw:1≤c.Tiers∧c.Tiers≤10→IntKind.i64.wrap (c.Tiers - 1)=c.Tiers - 1:=fun h=>Jb7 (by omega) (by omega)
  refine Qi (fun pre _=>(∀ p∈pre,0≤p∧p≤IntKind.i64.wrap (c.Tiers - 1))∧pre.Pairwise (· < ·)) ⟨fun p hp=>(List.not_mem_nil hp).elim,List.Pairwise.nil⟩ (fun pre y post s nx e hI hnx=>?_) (fun s hI=>?_)
  · obtain⟨hI1,hI2⟩:=hI
    have hym:y∈c.Plugs:=by rw [e]; simp
    have hpl:pre.length < c.Plugs.length:=by rw [e]; simp
    refine wp_wrp (H1 (J9e _) ?_)
    simp only [List.all_cons,List.all_nil,Bool.and_true]
    by_cases hy:0≤y∧y≤IntKind.i64.wrap (c.Tiers - 1)
    · rw [decide_eq_true hy.1,decide_eq_true hy.2]
      simp only [Bool.and_self,Bool.not_true,Bool.not_false,Bool.true_and,Bool.false_or]
      by_cases hp:0 < pre.length
      · obtain⟨p,hp1,hp2,hp3⟩:=Jbd e hp
        have hwi:IntKind.i64.wrap ((pre.length:Int) - 1)=((pre.length - 1:Nat):Int):=by
          rw [Jb7 (by omega) (by omega)]; omega
        rw [decide_eq_true (by omega:0 < (pre.length:Int)),cond_true]
        refine H1 (congrArg some hwi) (H1 ((Z2 hp1 some).trans rfl) ?_)
        simp only [Bool.true_and]
        refine J3 (fun h=>Gt (Y0 fun hc=>?_)) (fun h=>hnx _ ⟨Qn hI1 hy,H96 hI2 (H57 hI2 hp2 (by have:=of_decide_eq_false h; omega))⟩)
        have:=of_decide_eq_true h
        have hs:=hc.sorted
        rw [e] at hs
        have:=(List.pairwise_append.1 hs).2.2 p hp3 y (by simp)
        omega
      · have h0:pre=[]:=List.eq_nil_of_length_eq_zero (by omega)
        subst h0
        rw [decide_eq_false (by simp:¬ 0 < (([]:List Int).length:Int))]
        refine Hs (Gt (Hs (Gt ?_)))
        simp only [Bool.false_and,cond_false]
        exact hnx _ ⟨Qn hI1 hy,by simp⟩
    · have hf:(decide (0≤y)&&decide (y≤IntKind.i64.wrap (c.Tiers - 1)))=false:=by
        rw [Bool.and_eq_false_iff,decide_eq_false_iff_not,decide_eq_false_iff_not]
        omega
      rw [hf]
      simp only [Bool.not_false,Bool.not_true,Bool.false_and,cond_false,Bool.true_or,cond_true]
      refine Hs (Gt (Hs (Gt (Gt (Y0 fun hc=>hy ?_)))))
      have h1:=hc.plugs y hym
      have h2:=hc.place
      rw [hw (by omega)]
      omega
  · obtain⟨hI1,hI2⟩:=hI
    refine H1 (J9e _) (Gt ?_)
    simp only [List.all_cons,List.all_nil,Bool.and_true,Bool.and_eq_true,decide_eq_true_eq]
    constructor
    · rintro⟨a1,a2,a3,a4,a5,a6,a7,a8,a9,a10⟩
      have hw:=hw a3
      exact⟨fun p hp=>by have:=hI1 p hp; omega,hI2,by omega,by omega,by omega⟩
    · intro h
      obtain⟨_,_,b1,b2,b3⟩:=h
      omega
theorem ref_col (c:G4) (hl:c.Plugs.length≤1048576):Wp (Za c) (fun r=>r=true ↔ ColR c):=by
  unfold Za
  refine Qi (fun pre _=>(∀ p∈pre,0≤p∧p < c.Tiers)∧pre.Pairwise (· < ·)) ⟨fun p hp=>(List.not_mem_nil hp).elim,List.Pairwise.nil⟩ (fun pre y post s nx e hI hnx=>?_) (fun s hI=>?_)
  · obtain⟨hI1,hI2⟩:=hI
    have hym:y∈c.Plugs:=by rw [e]; simp
    have hpl:pre.length < c.Plugs.length:=by rw [e]; simp
    refine J3 (fun h=>Gt (Y0 fun hc=>?_)) (fun h=>?_)
    · simp only [Bool.or_eq_true,decide_eq_true_eq] at h
      have:=hc.plugs y hym
      omega
    · simp only [Bool.or_eq_false_iff,decide_eq_false_iff_not] at h
      have hy:0≤y∧y < c.Tiers:=by omega
      by_cases hp:0 < pre.length
      · obtain⟨p,hp1,hp2,hp3⟩:=Jbd e hp
        rw [decide_eq_true (by omega:0 < (pre.length:Int)),cond_true]
        refine Hs (G3e ⟨by omega,by omega⟩ (Gt ?_))
        have hpi:(pre.length:Int) - 1=((pre.length - 1:Nat):Int):=by omega
        rw [hpi]
        refine H1 ((Z2 hp1 some).trans rfl) ?_
        simp only [Bool.true_and]
        refine J3 (fun h=>Gt (Y0 fun hc=>?_)) (fun h=>hnx _ ⟨Qn hI1 hy,H96 hI2 (H57 hI2 hp2 (by have:=of_decide_eq_false h; omega))⟩)
        have:=of_decide_eq_true h
        have hs:=hc.sorted
        rw [e] at hs
        have:=(List.pairwise_append.1 hs).2.2 p hp3 y (by simp)
        omega
      · have h0:pre=[]:=List.eq_nil_of_length_eq_zero (by omega)
        subst h0
        rw [decide_eq_false (by simp:¬ 0 < (([]:List Int).length:Int))]
        refine Hs (Gt (Hs (Gt ?_)))
        simp only [Bool.false_and,cond_false]
        exact hnx _ ⟨Qn hI1 hy,by simp⟩
  · obtain⟨hI1,hI2⟩:=hI
    have hwi:∀ n a b:Int,Hz n a b=some (decide (a≤n)&&decide (n≤b)):=fun _ _ _=>rfl
    have cnd:∀ (b:Bool) (n a z:Int),∃ r,(bif b then Hz n a z else some default)=some r∧(b&&r)=(b&&(decide (a≤n)&&decide (n≤z))):=fun b n a z=>by
      cases b
      · exact⟨_,rfl,rfl⟩
      · exact⟨_,rfl,rfl⟩
    refine H1 (hwi _ _ _) ?_
    obtain⟨r1,e1,q1⟩:=cnd (decide (-500000≤c.X)&&decide (c.X≤500000)) c.Y (-500000) 500000
    refine H1 e1 ?_
    rw [q1]
    obtain⟨r2,e2,q2⟩:=cnd (decide (-500000≤c.X)&&decide (c.X≤500000)&&(decide (-500000≤c.Y)&&decide (c.Y≤500000))) c.Z (-500000) 500000
    refine H1 e2 (H1 (hwi _ _ _) ?_)
    rw [q2]
    obtain⟨r3,e3,q3⟩:=cnd (decide (0≤c.Kilos20)&&decide (c.Kilos20≤500000000)) c.Kilos40 0 500000000
    refine H1 e3 ?_
    rw [q3]
    obtain⟨r4,e4,q4⟩:=cnd (decide (0≤c.Kilos20)&&decide (c.Kilos20≤500000000)&&(decide (0≤c.Kilos40)&&decide (c.Kilos40≤500000000))) c.Lash 0 1000000000000
    refine H1 e4 (H1 (hwi _ _ _) ?_)
    rw [q4]
    obtain⟨r5,e5,q5⟩:=cnd (decide (0≤c.Bay)&&decide (c.Bay≤39)) c.Row 0 30
    refine H1 e5 ?_
    rw [q5]
    obtain⟨r6,e6,q6⟩:=cnd (decide (0≤c.Bay)&&decide (c.Bay≤39)&&(decide (0≤c.Row)&&decide (c.Row≤30))) c.Tiers 1 10
    refine H1 e6 ?_
    rw [q6]
    obtain⟨r7,e7,q7⟩:=cnd (decide (0≤c.Bay)&&decide (c.Bay≤39)&&(decide (0≤c.Row)&&decide (c.Row≤30))&&(decide (1≤c.Tiers)&&decide (c.Tiers≤10))) c.Height 0 40000
    refine H1 e7 ?_
    rw [q7]
    refine Gt ?_
    simp only [Bool.and_eq_true,decide_eq_true_eq]
    constructor
    · rintro⟨⟨⟨⟨⟨a1,a2⟩,a3⟩,a4⟩,⟨b1,b2⟩,b3⟩,⟨d1,d2⟩,d3⟩
      exact⟨hI1,hI2,by omega,by omega,by omega⟩
    · intro h
      obtain⟨_,_,b1,b2,b3⟩:=h
      omega
def dk (b:Bool):Int:=bif b then 1 else 0
def k3 (c:G4):Hf:=⟨c.Bay,c.Row,dk c.Deck⟩
def x3 (x:G9):List Hf:=x.Rows.map fun r=>⟨x.Bay,r,2⟩
structure CovR (x:G9):Prop where
  bay:0≤x.Bay∧x.Bay≤39
  some:x.Rows≠[]
  rows:∀ r∈x.Rows,0≤r∧r≤30
  sorted:x.Rows.Pairwise (· < ·)
structure H0a (s:H2):Prop where
  num:1≤s.Columns.length∧s.Columns.length≤200∧s.Covers.length≤40
  col:∀ c∈s.Columns,ColR c
  cov:∀ x∈s.Covers,CovR x
  nodup:(s.Columns.map k3++s.Covers.flatMap x3).Nodup
theorem put_l {κ:Type} [DecidableEq κ] {m:Ho κ Int} {l:List κ} (h:Ho.l m=tally l) (a:κ):Ho.l (Ho.put m a (Ho.get m a 0+1))=tally (l++[a]):=by
  rw [H92]
  show H47 (Ho.l m) a ((G7f (Ho.l m) a).getD 0+1)=_
  rw [h]
theorem get_b {κ:Type} [DecidableEq κ] {m:Ho κ Int} {l:List κ} (h:Ho.l m=tally l) (a:κ):0≤Ho.get m a 0∧Ho.get m a 0≤(l.length:Int):=by
  have:=tally_bound l a
  show 0≤(G7f (Ho.l m) a).getD 0∧_
  rw [h]
  exact⟨this.1,by show (G7f (Ho.l m) a).getD 0≤_; rw [h]; exact this.2⟩
theorem flat_len (l:List G9) (h:∀ x∈l,x.Rows.length≤1048576):(l.flatMap x3).length≤1048576*l.length:=by
  induction l with
  | nil=>simp
  | cons x l ih=>
    have h1:=h x (List.mem_cons_self ..)
    have h2:=ih (fun y hy=>h y (List.mem_cons_of_mem _ hy))
    rw [List.flatMap_cons,List.length_append,List.length_cons]
    have:(x3 x).length=x.Rows.length:=by simp [x3]
    omega
theorem ship_right (s:H2) (hp:∀ c∈s.Columns,c.Plugs.length≤1048576) (hr:∀ x∈s.Covers,x.Rows.length≤1048576):Wp (G96 s) (fun r=>r=true ↔ H0a s):=by
  unfold G96 H1b
  refine J3 (fun hc=>Gt (Y0 fun h=>?_)) (fun hc=>?_)
  · have:=h.num
    simp only [Bool.or_eq_true,decide_eq_true_eq] at hc
    omega
  simp only [Bool.or_eq_false_iff,decide_eq_false_iff_not] at hc
  have hn:1≤s.Columns.length∧s.Columns.length≤200∧s.Covers.length≤40:=by omega
  refine Qi (fun pre m=>Ho.l m=tally (pre.map k3)∧∀ c∈pre,ColR c) ⟨rfl,fun c hc=>(List.not_mem_nil hc).elim⟩ (fun pre y post m nx e hI hnx=>?_) (fun m hI=>?_)
  · obtain⟨hI1,hI2⟩:=hI
    have hym:y∈s.Columns:=by rw [e]; simp
    have hpl:pre.length < s.Columns.length:=by rw [e]; simp
    refine Haa (fun j=>j=dk y.Deck) (fun K hK=>J3 (fun h=>hK _ (by rw [h]; rfl)) (fun h=>hK _ (by rw [h]; rfl))) (fun j hj=>?_)
    subst hj
    have hb:=get_b hI1 (k3 y)
    rw [List.length_map] at hb
    refine H1 (x:=Ho.get m (k3 y) 0) rfl (G3e ⟨by omega,by omega⟩ (Hs (wp_mono (col_right y (hp y hym)) (fun r hr=>J3 (fun h=>Gt (Y0 fun hs=>?_)) (fun h=>hnx _ ⟨?_,Qn hI2 ?_⟩)))))
    · rw [hr.2 (hs.col y hym)] at h; cases h
    · rw [List.map_append]; exact put_l hI1 (k3 y)
    · cases r with
      | true=>exact hr.1 rfl
      | false=>cases h
  obtain⟨hI1,hI2⟩:=hI
  refine Qi (fun pre m=>Ho.l m=tally (s.Columns.map k3++pre.flatMap x3)∧∀ x∈pre,CovR x) ⟨by simpa using hI1,fun c hc=>(List.not_mem_nil hc).elim⟩ (fun pre y post m nx e hJ hnx=>?_) (fun m hJ=>?_)
  · obtain⟨hJ1,hJ2⟩:=hJ
    have hym:y∈s.Covers:=by rw [e]; simp
    have hpl:pre.length < s.Covers.length:=by rw [e]; simp
    refine J3 (fun hc=>Gt (Y0 fun h=>?_)) (fun hc=>?_)
    · have h1:=(h.cov y hym).bay
      have h2:=(h.cov y hym).some
      simp only [Bool.or_eq_true,decide_eq_true_eq] at hc
      have:y.Rows.length≠0:=fun h=>h2 (List.length_eq_zero_iff.1 h)
      omega
    simp only [Bool.or_eq_false_iff,decide_eq_false_iff_not] at hc
    have hne:y.Rows≠[]:=fun h=>by rw [h] at hc; simp at hc
    have hfl:=flat_len pre (fun x hx=>hr x (by rw [e]; exact List.mem_append.2 (.inl hx)))
    have hrl:=hr y hym
    refine Qi (fun pr m=>Ho.l m=tally (s.Columns.map k3++pre.flatMap x3++pr.map (fun r=>(⟨y.Bay,r,2⟩:Hf)))∧(∀ r∈pr,0≤r∧r≤30)∧pr.Pairwise (· < ·)) ⟨by simpa using hJ1,fun c hc=>(List.not_mem_nil hc).elim,List.Pairwise.nil⟩ (fun pr r pos m nx' e' hK hnx'=>?_) (fun m hK=>hnx _ ⟨?_,Qn hJ2 ⟨by omega,hne,hK.2.1,hK.2.2⟩⟩)
    · obtain⟨hK1,hK2,hK3⟩:=hK
      have hrm:r∈y.Rows:=by rw [e']; simp
      have hprl:pr.length < y.Rows.length:=by rw [e']; simp
      have go:0≤r∧r≤30→(∀ a∈pr,a < r)→Wp (bnd (some (Ho.get m ⟨y.Bay,r,2⟩ 0)) fun v167=>G35 (v167+1) fun v168=>nx' (Ho.put m ⟨y.Bay,r,2⟩ v168)) (fun r=>r=true ↔ H0a s):=fun h1 h2=>by
        have hb:=get_b hK1 ⟨y.Bay,r,2⟩
        simp only [List.length_append,List.length_map] at hb
        refine Hs (Gt (G3e ⟨by omega,by omega⟩ (hnx' _ ⟨?_,Qn hK2 h1,H96 hK3 h2⟩)))
        rw [List.map_append,← List.append_assoc]
        exact put_l hK1 ⟨y.Bay,r,2⟩
      by_cases hrr:0≤r∧r≤30
      · have hok:(decide (r < 0)||decide (30 < r))=false:=by simp; omega
        simp only [hok,Bool.not_false,Bool.true_and,Bool.false_or]
        by_cases hp0:0 < pr.length
        · obtain⟨p,hp1,hp2,hp3⟩:=Jbd e' hp0
          rw [decide_eq_true (by omega:0 < (pr.length:Int)),cond_true]
          refine Hs (G3e ⟨by omega,by omega⟩ (Gt ?_))
          have hpi:(pr.length:Int) - 1=((pr.length - 1:Nat):Int):=by omega
          rw [hpi]
          refine H1 ((Z2 hp1 some).trans rfl) ?_
          simp only [Bool.true_and]
          refine J3 (fun h=>Gt (Y0 fun hc=>?_)) (fun h=>go hrr (H57 hK3 hp2 (by have:=of_decide_eq_false h; omega)))
          have:=of_decide_eq_true h
          have hs:=(hc.cov y hym).sorted
          rw [e'] at hs
          have:=(List.pairwise_append.1 hs).2.2 p hp3 r (by simp)
          omega
        · have h0:pr=[]:=List.eq_nil_of_length_eq_zero (by omega)
          subst h0
          rw [decide_eq_false (by simp:¬ 0 < (([]:List Int).length:Int))]
          refine Hs (Gt (Hs (Gt ?_)))
          simp only [Bool.false_and,cond_false]
          exact go hrr (fun a ha=>(List.not_mem_nil ha).elim)
      · have hok:(decide (r < 0)||decide (30 < r))=true:=by simp; omega
        simp only [hok,Bool.not_true,Bool.false_and,cond_false,Bool.true_or,cond_true]
        exact Hs (Gt (Hs (Gt (Gt (Y0 fun hc=>hrr ((hc.cov y hym).rows r hrm))))))
    · rw [List.flatMap_append,← List.append_assoc]
      simpa [x3] using hK.1
  · obtain⟨hJ1,hJ2⟩:=hJ
    rw [J41 (c:=fun x:Hf×Int=>decide (1 < x.2))]
    refine Gt ?_
    have hiff:(Ho.l m).any (fun x=>decide (1 < x.2))=false ↔ (s.Columns.map k3++s.Covers.flatMap x3).Nodup:=by
      rw [← tally_le_one,hJ1,List.any_eq_false]
      constructor
      · intro h j a n hj
        have:=h (a,n) (List.mem_of_getElem? hj)
        simp only [decide_eq_true_eq] at this
        omega
      · intro h x hx
        obtain⟨j,hj⟩:=List.mem_iff_getElem?.1 hx
        have:=h j x.1 x.2 hj
        simp only [decide_eq_true_eq]
        omega
    cases hany:(Ho.l m).any (fun x=>decide (1 < x.2)) with
    | true=>
      refine Y0 fun h=>?_
      rw [hiff.2 h.nodup] at hany; cases hany
    | false=>exact⟨fun _=>⟨hn,hI2,hJ2,hiff.1 hany⟩,fun _=>rfl⟩
theorem Jf6 (rows:List Int) (row:Int):Qf rows row=some (rows.any (fun r=>decide (r=row))):=by
  refine Zz ?_
  unfold Qf
  refine Qi (fun pre _=>pre.any (fun r=>decide (r=row))=false) rfl (fun pre y post s nx e hI hnx=>J3 (fun h=>Gt ?_) (fun h=>hnx _ ?_)) (fun s hI=>Gt hI.symm)
  · symm
    exact List.any_eq_true.2 ⟨y,by rw [e]; simp,h⟩
  · rw [List.any_append,hI]
    simp only [List.any_cons,List.any_nil,Bool.or_false,Bool.false_or,h]
theorem nodup_snoc {α:Type} {l:List α} {x:α} (h:l.Nodup) (hx:x ∉ l):(l++[x]).Nodup:=by
  rw [List.nodup_append]
  refine⟨h,by simp,fun a ha b hb=>?_⟩
  rw [List.mem_singleton.1 hb]
  exact fun e=>hx (e ▸ ha)
theorem k3_eq {a b:G4}:k3 a=k3 b ↔ a.Bay=b.Bay∧a.Row=b.Row∧a.Deck=b.Deck:=by
  unfold k3
  rw [Hf.mk.injEq]
  have:dk a.Deck=dk b.Deck ↔ a.Deck=b.Deck:=by cases a.Deck <;> cases b.Deck <;> decide
  rw [this]
theorem ref_right {F:Nat} (s:H2) (hp:∀ c∈s.Columns,c.Plugs.length≤1048576) (hr:∀ x∈s.Covers,x.Rows.length≤1048576):Wp (Zs F s) (fun r=>r=true ↔ H0a s):=by
  unfold Zs
  refine H1 (x:=decide (1≤(s.Columns.length:Int))&&decide ((s.Columns.length:Int)≤200)) rfl (J3 (fun hc=>Gt (Y0 fun h=>?_)) (fun hc=>?_))
  · have:=h.num
    simp only [Bool.or_eq_true,Bool.not_eq_true',Bool.and_eq_false_iff,decide_eq_true_eq,decide_eq_false_iff_not] at hc
    omega
  simp only [Bool.or_eq_false_iff,Bool.not_eq_false',Bool.and_eq_true,decide_eq_true_eq,decide_eq_false_iff_not] at hc
  have hn:1≤s.Columns.length∧s.Columns.length≤200∧s.Covers.length≤40:=by omega
  refine Qi (fun pre _=>(pre.map k3).Nodup∧∀ c∈pre,ColR c) ⟨List.nodup_nil,fun c hc=>(List.not_mem_nil hc).elim⟩ (fun pre y post u nx e hI hnx=>?_) (fun u hI=>?_)
  · obtain⟨hI1,hI2⟩:=hI
    have hym:y∈s.Columns:=by rw [e]; simp
    have hpl:pre.length < s.Columns.length:=by rw [e]; simp
    refine Hs (wp_mono (ref_col y (hp y hym)) (fun r hr=>J3 (fun h=>Gt (Y0 fun hs=>?_)) (fun h=>?_)))
    · rw [hr.2 (hs.col y hym)] at h; cases h
    have hcy:ColR y:=by
      cases r with
      | true=>exact hr.1 rfl
      | false=>cases h
    refine G0b (decide_eq_true (by omega)) ?_
    rw [show (pre.length:Int).toNat=pre.length by omega]
    refine Jb8 (fun i _=>∀ (k:Nat) c,k < i→pre[k]? = some c→k3 c≠k3 y) (fun k c hk=>by omega) (fun i u nx2 hi hJ hnx2=>?_) (fun u hJ=>hnx _ ⟨?_,Qn hI2 hcy⟩)
    · have hx:pre[i]? = some (pre[i]'hi):=List.getElem?_eq_getElem hi
      have hsx:s.Columns[i]? = some (pre[i]'hi):=by rw [e,List.getElem?_append_left hi]; exact hx
      generalize pre[i]'hi=z at hx hsx
      rw [Z2 hsx]
      have hcond:∃ b,(bif decide (z.Bay=y.Bay) then Qr s.Columns (i:Int) some else some default)=some b∧(decide (z.Bay=y.Bay)&&decide (b.Row=y.Row))=(decide (z.Bay=y.Bay)&&decide (z.Row=y.Row)):=by
        cases decide (z.Bay=y.Bay)
        · exact⟨_,rfl,rfl⟩
        · exact⟨z,Z2 hsx some,rfl⟩
      obtain⟨b,e1,q1⟩:=hcond
      refine H1 e1 ?_
      rw [q1]
      have hcond:∃ b,(bif (decide (z.Bay=y.Bay)&&decide (z.Row=y.Row)) then Qr s.Columns (i:Int) some else some default)=some b∧((decide (z.Bay=y.Bay)&&decide (z.Row=y.Row))&&(b.Deck==y.Deck))=((decide (z.Bay=y.Bay)&&decide (z.Row=y.Row))&&(z.Deck==y.Deck)):=by
        cases (decide (z.Bay=y.Bay)&&decide (z.Row=y.Row))
        · exact⟨_,rfl,rfl⟩
        · exact⟨z,Z2 hsx some,rfl⟩
      obtain⟨b2,e2,q2⟩:=hcond
      refine H1 e2 ?_
      rw [q2]
      have hk:((decide (z.Bay=y.Bay)&&decide (z.Row=y.Row))&&(z.Deck==y.Deck))=true ↔ k3 z=k3 y:=by
        rw [k3_eq]
        simp only [Bool.and_eq_true,decide_eq_true_eq,beq_iff_eq,and_assoc]
      refine J3 (fun h=>Gt (Y0 fun hs=>?_)) (fun h=>hnx2 _ (fun k c hk2 hc2=>?_))
      · have h1:=hs.nodup
        rw [e,List.map_append] at h1
        have h2:=(List.nodup_append.1 (List.nodup_append.1 h1).1).2.2 (k3 z) (List.mem_map.2 ⟨z,List.mem_of_getElem? hx,rfl⟩) (k3 y) (by simp)
        exact h2 (hk.1 h)
      · by_cases hki:k < i
        · exact hJ k c hki hc2
        · have:k=i:=by omega
          subst this
          rw [hx] at hc2
          cases hc2
          intro h3
          rw [hk.2 h3] at h; cases h
    · rw [List.map_append]
      refine nodup_snoc hI1 (fun hm=>?_)
      obtain⟨c,hc,h3⟩:=List.mem_map.1 hm
      obtain⟨k,hk⟩:=List.mem_iff_getElem?.1 hc
      exact hJ k c (List.getElem?_eq_some_iff.1 hk).1 hk h3
  obtain⟨hI1,hI2⟩:=hI
  refine Qi (fun pre _=>(pre.flatMap x3).Nodup∧∀ x∈pre,CovR x) ⟨List.nodup_nil,fun c hc=>(List.not_mem_nil hc).elim⟩ (fun pre y post u nx e hJ hnx=>?_) (fun u hJ=>Gt ⟨fun _=>⟨hn,hI2,hJ.2,?_⟩,fun _=>rfl⟩)
  · obtain⟨hJ1,hJ2⟩:=hJ
    have hym:y∈s.Covers:=by rw [e]; simp
    have hpl:pre.length < s.Covers.length:=by rw [e]; simp
    refine H1 (x:=decide (0≤y.Bay)&&decide (y.Bay≤39)) rfl (J3 (fun hc=>Gt (Y0 fun h=>?_)) (fun hc=>?_))
    · have h1:=(h.cov y hym).bay
      have h2:=(h.cov y hym).some
      simp only [Bool.or_eq_true,Bool.not_eq_true',Bool.and_eq_false_iff,decide_eq_true_eq,decide_eq_false_iff_not] at hc
      have:y.Rows.length≠0:=fun h=>h2 (List.length_eq_zero_iff.1 h)
      omega
    simp only [Bool.or_eq_false_iff,Bool.not_eq_false',Bool.and_eq_true,decide_eq_true_eq,decide_eq_false_iff_not] at hc
    have hne:y.Rows≠[]:=fun h=>by rw [h] at hc; simp at hc
    refine Qi (fun pr _=>(∀ r∈pr,0≤r∧r≤30)∧pr.Pairwise (· < ·)∧∀ r∈pr,(⟨y.Bay,r,2⟩:Hf) ∉ pre.flatMap x3) ⟨fun c hc=>(List.not_mem_nil hc).elim,List.Pairwise.nil,fun c hc=>(List.not_mem_nil hc).elim⟩ (fun pr r pos u nx' e' hK hnx'=>?_) (fun u hK=>hnx _ ⟨?_,Qn hJ2 ⟨hc.1,hne,hK.1,hK.2.1⟩⟩)
    · obtain⟨hK1,hK2,hK3⟩:=hK
      have hrm:r∈y.Rows:=by rw [e']; simp
      have hprl:pr.length < y.Rows.length:=by rw [e']; simp
      have hrl:=hr y hym
      refine H1 (x:=decide (0≤r)&&decide (r≤30)) rfl ?_
      have go:0≤r∧r≤30→(∀ a∈pr,a < r)→Wp (need (decide ((pre.length:Int)≤9223372036854775807)) <|
              upto (fun i84 (s84:Unit) nx84=>
                Qr s.Covers (i84:Int) fun y89=>
                bnd (bif decide (y89.Bay=y.Bay) then Qr s.Covers (i84:Int) some else some default) fun y91=>
                bnd (bif decide (y89.Bay=y.Bay) then Qf y91.Rows r else some default) fun r92=>
                bif ((decide (y89.Bay=y.Bay))&&r92) then
                (some false)
                else
                (nx84 ()))
              (fun(s84:Unit)=>
                nx' ()) (pre.length:Int).toNat 0 ()) (fun r=>r=true ↔ H0a s):=fun h1 h2=>by
        refine G0b (decide_eq_true (by omega)) ?_
        rw [show (pre.length:Int).toNat=pre.length by omega]
        refine Jb8 (fun i _=>∀ (k:Nat) x,k < i→pre[k]? = some x→(⟨y.Bay,r,2⟩:Hf) ∉ x3 x) (fun k c hk=>by omega) (fun i u nx2 hi hJ hnx2=>?_) (fun u hJ=>hnx' _ ⟨Qn hK1 h1,H96 hK2 h2,Qn hK3 (fun hm=>?_)⟩)
        · have hx:pre[i]? = some (pre[i]'hi):=List.getElem?_eq_getElem hi
          have hsx:s.Covers[i]? = some (pre[i]'hi):=by rw [e,List.getElem?_append_left hi]; exact hx
          generalize pre[i]'hi=z at hx hsx
          rw [Z2 hsx]
          have hcond:∃ b c,(bif decide (z.Bay=y.Bay) then Qr s.Covers (i:Int) some else some default)=some b∧(bif decide (z.Bay=y.Bay) then Qf b.Rows r else some default)=some c∧(decide (z.Bay=y.Bay)&&c)=(decide (z.Bay=y.Bay)&&z.Rows.any (fun q=>decide (q=r))):=by
            cases decide (z.Bay=y.Bay)
            · exact⟨_,_,rfl,rfl,rfl⟩
            · exact⟨z,_,Z2 hsx some,Jf6 _ _,rfl⟩
          obtain⟨b,c,e1,e2,q1⟩:=hcond
          refine H1 e1 (H1 e2 ?_)
          rw [q1]
          have hk:(decide (z.Bay=y.Bay)&&z.Rows.any (fun q=>decide (q=r)))=true ↔ (⟨y.Bay,r,2⟩:Hf)∈x3 z:=by
            unfold x3
            simp only [Bool.and_eq_true,decide_eq_true_eq,List.any_eq_true,List.mem_map,Hf.mk.injEq]
            constructor
            · rintro⟨h1,q,h2,h3⟩; exact⟨q,h2,h1,h3,trivial⟩
            · rintro⟨q,h2,h1,h3,_⟩; exact⟨h1,q,h2,h3⟩
          refine J3 (fun h=>Gt (Y0 fun hs=>?_)) (fun h=>hnx2 _ (fun k c hk2 hc2=>?_))
          · have h1:=(List.nodup_append.1 hs.nodup).2.1
            rw [e,List.flatMap_append,List.flatMap_cons] at h1
            have h2:=(List.nodup_append.1 h1).2.2 ⟨y.Bay,r,2⟩ (List.mem_flatMap.2 ⟨z,List.mem_of_getElem? hx,hk.1 h⟩) ⟨y.Bay,r,2⟩ (List.mem_append.2 (.inl (List.mem_map.2 ⟨r,hrm,rfl⟩)))
            exact h2 rfl
          · by_cases hki:k < i
            · exact hJ k c hki hc2
            · have:k=i:=by omega
              subst this
              rw [hx] at hc2
              cases hc2
              intro h3
              rw [hk.2 h3] at h; cases h
        · obtain⟨x,hx,hm⟩:=List.mem_flatMap.1 hm
          obtain⟨k,hk⟩:=List.mem_iff_getElem?.1 hx
          exact hJ k x (List.getElem?_eq_some_iff.1 hk).1 hk hm
      by_cases hrr:0≤r∧r≤30
      · have hok:(decide (0≤r)&&decide (r≤30))=true:=by simp; omega
        simp only [hok,Bool.not_true,Bool.not_false,Bool.true_and,Bool.false_or]
        by_cases hp0:0 < pr.length
        · obtain⟨p,hp1,hp2,hp3⟩:=Jbd e' hp0
          rw [decide_eq_true (by omega:0 < (pr.length:Int)),cond_true]
          refine Hs (G3e ⟨by omega,by omega⟩ (Gt ?_))
          have hpi:(pr.length:Int) - 1=((pr.length - 1:Nat):Int):=by omega
          rw [hpi]
          refine H1 ((Z2 hp1 some).trans rfl) ?_
          simp only [Bool.true_and]
          refine J3 (fun h=>Gt (Y0 fun hc=>?_)) (fun h=>go hrr (H57 hK2 hp2 (by have:=of_decide_eq_false h; omega)))
          have:=of_decide_eq_true h
          have hs:=(hc.cov y hym).sorted
          rw [e'] at hs
          have:=(List.pairwise_append.1 hs).2.2 p hp3 r (by simp)
          omega
        · have h0:pr=[]:=List.eq_nil_of_length_eq_zero (by omega)
          subst h0
          rw [decide_eq_false (by simp:¬ 0 < (([]:List Int).length:Int))]
          refine Hs (Gt (Hs (Gt ?_)))
          simp only [Bool.false_and,cond_false]
          exact go hrr (fun a ha=>(List.not_mem_nil ha).elim)
      · have hok:(decide (0≤r)&&decide (r≤30))=false:=by
          rw [Bool.and_eq_false_iff,decide_eq_false_iff_not,decide_eq_false_iff_not]; omega
        simp only [hok,Bool.not_true,Bool.not_false,Bool.false_and,cond_false,Bool.true_or,cond_true]
        exact Hs (Gt (Hs (Gt (Gt (Y0 fun hc=>hrr ((hc.cov y hym).rows r hrm))))))
    · rw [List.flatMap_append,List.flatMap_cons,List.flatMap_nil,List.append_nil]
      refine List.nodup_append.2 ⟨hJ1,?_,fun a ha b hb hab=>?_⟩
      · refine List.pairwise_map.2 (hK.2.1.imp (fun {a b} h he=>?_))
        rw [Hf.mk.injEq] at he
        omega
      · obtain⟨r,hr,rfl⟩:=List.mem_map.1 hb
        subst hab
        exact hK.2.2 r hr ha
  · refine List.nodup_append.2 ⟨hI1,hJ.1,fun a ha b hb hab=>?_⟩
    obtain⟨c,_,rfl⟩:=List.mem_map.1 ha
    obtain⟨x,_,hb⟩:=List.mem_flatMap.1 hb
    obtain⟨r,_,rfl⟩:=List.mem_map.1 hb
    unfold k3 dk at hab
    rw [Hf.mk.injEq] at hab
    cases hd:c.Deck <;> rw [hd] at hab <;> simp at hab
theorem room_ok {n k:Nat} (hn:n≤1000001) (hk:k≤1000):decide (n*k≤140737488355328∧n≤maxLen)=true:=by
  have h:n*k≤1000001*1000:=Nat.mul_le_mul hn hk
  have h2:n≤maxLen:=Nat.le_trans hn (by decide)
  exact decide_eq_true ⟨by omega,h2⟩
theorem Hd5 {α β:Type} {x:α} {k:α→Option β}:bnd (some x) k=k x:=rfl
def H9c {α:Type} (p:α→Bool) (l:List α):Int:=match l.findIdx? p with
  | some j=>(j:Int)
  | none => -1
theorem H74 {α:Type} {p:α→Bool} {f:α→Option Bool} {xs:List α} (hf:∀ x∈xs,f x=some (p x)) :
    each (fun y i (_:Unit) nx=>bnd (f y) fun r=>bif r then some (i:Int) else nx ()) (fun _=>some (-1)) xs 0 ()=some (H9c p xs):=by
  have key:∀ (xs:List α),(∀ x∈xs,f x=some (p x))→∀ i:Nat,each (fun y i (_:Unit) nx=>bnd (f y) fun r=>bif r then some (i:Int) else nx ()) (fun _=>some (-1)) xs i ()=some (match xs.findIdx? p with
    | some j=>((i+j:Nat):Int)
    | none => -1):=by
    intro xs
    induction xs with
    | nil=>intro _ i; rfl
    | cons x xs ih=>
      intro hf i
      rw [each,hf x (List.mem_cons_self ..),Hd5,List.findIdx?_cons]
      cases p x with
      | true=>simp
      | false=>
        simp only [cond_false]
        rw [ih (fun y hy=>hf y (List.mem_cons_of_mem _ hy)) (i+1)]
        cases xs.findIdx? p with
        | none=>simp
        | some j=>show some (((i+1+j:Nat)):Int)=some (((i+(j+1):Nat)):Int); rw [show i+1+j=i+(j+1) by omega]
  rw [key xs hf 0]
  unfold H9c
  cases xs.findIdx? p <;> simp
theorem G6a {α:Type} (p:α→Bool) (l:List α):(H9c p l = -1∧(∀ x∈l,p x=false)∧l.find? p=none)∨∃ (m:Nat) (x:α),H9c p l=(m:Int)∧l[m]? = some x∧p x=true∧l.find? p=some x:=by
  unfold H9c
  cases h:l.findIdx? p with
  | none=>
    have:=List.findIdx?_eq_none_iff.1 h
    exact .inl ⟨rfl,this,List.find?_eq_none.2 (fun x hx=>by rw [this x hx]; simp)⟩
  | some j=>
    obtain⟨hj,h1,h2⟩:=List.findIdx?_eq_some_iff_getElem.1 h
    refine .inr ⟨j,l[j],rfl,by simp [hj],h1,?_⟩
    refine List.find?_eq_some_iff_getElem.2 ⟨h1,j,hj,rfl,fun k hk=>?_⟩
    simpa using h2 k hk
theorem Hce {α:Type} {p:α→Bool} {l:List α}:decide (0≤H9c p l)=l.any p:=by
  rcases G6a p l with ⟨h1,h2,_⟩ | ⟨m,x,h1,h2,h3,_⟩
  · rw [h1]
    refine Eq.symm (List.any_eq_false.2 fun x hx=>?_)
    rw [h2 x hx]; exact Bool.false_ne_true
  · rw [h1,decide_eq_true (by omega)]
    exact(List.any_eq_true.2 ⟨x,List.mem_of_getElem? h2,h3⟩).symm
def G3a (boxes:List Gg) (id:Int):Option Gg:=boxes.find? (fun b=>decide (b.ID=id))
theorem J65 (boxes:List Gg) (id:Int):G4c boxes id=some (match G3a boxes id with
    | some b=>(b,true)
    | none=>(Gg.mk 0 ByteArray.empty 0 false 0 0 0 0 false,false)):=by
  unfold G4c
  have h:Zx boxes (fun z0=>Gac z0 id)=some (H9c (fun b:Gg=>decide (b.ID=id)) boxes):=H74 (fun x _=>rfl)
  rw [h]
  simp only [Hd5]
  unfold G3a
  rcases G6a (fun b:Gg=>decide (b.ID=id)) boxes with ⟨h1,_,h3⟩ | ⟨m,x,h1,h2,_,h4⟩
  · rw [h1,h3]; rfl
  · rw [h1,h4,decide_eq_false (by omega),cond_false]
    unfold Qr
    rw [decide_eq_true (by omega),cond_true,show (m:Int).toNat=m by omega,h2]
    rfl
def Jfc (l:List Stowed) (id:Int):Option Stowed:=l.find? (fun x=>decide (x.Gg=id))
def J49 (size:Int):List Int:=if size=40 then [0] else if size=20 then [1,2] else []
theorem slot_halves (size:Int):G55 size=some (J49 size):=by
  unfold G55 J49
  by_cases h:size=40
  · simp [h]
  · by_cases h2:size=20
    · simp [h2]
    · simp [h,h2]
theorem contains8 (l:List Int) (v:Int):Zh l v=some (l.any (fun y=>decide (v=y))):=by
  unfold Zh
  have h:G1b l v=some (H9c (fun y=>decide (v=y)) l):=by
    unfold G1b
    exact H74 (f:=fun y=>some (decide (v=y))) (fun x _=>rfl)
  rw [h]
  simp only [Hd5]
  rw [Hce]
theorem containsSlot (l:List Slot) (v:Slot):Yp l v=some (l.any (fun y=>decide (v=y))):=by
  unfold Yp
  have h:Zt l v=some (H9c (fun y=>decide (v=y)) l):=by
    unfold Zt
    exact H74 (f:=fun y=>some (decide (v=y))) (fun x _=>rfl)
  rw [h]
  simp only [Hd5]
  rw [Hce]
structure J72 (s:H2) (x:Slot) (size:Int):Prop where
  col:∃ (m:Nat) (c:G4),x.G4=(m:Int)∧s.Columns[m]? = some c∧x.Tier < c.Tiers
  tier:0≤x.Tier
  half:x.Half∈J49 size
theorem slot_right (s:H2) (x:Slot) (size:Int):Wp (G98 s x size) (fun r=>r=true ↔ J72 s x size):=by
  unfold G98
  by_cases h0:0≤x.G4∧x.G4 < (s.Columns.length:Int)
  · by_cases h1:0≤x.Tier
    · obtain⟨m,hm⟩:∃ m:Nat,x.G4=(m:Int):=⟨x.G4.toNat,by omega⟩
      have hml:m < s.Columns.length:=by omega
      have hc:s.Columns[m]? = some s.Columns[m]:=by simp [hml]
      have e:(((decide (0≤x.G4))&&(decide (x.G4 < (s.Columns.length:Int))))&&(decide (0≤x.Tier)))=true:=by simp [h0.1,h0.2,h1]
      simp only [e,cond_true,Bool.true_and]
      refine Hs (G58 hm hc (Gt ?_))
      by_cases h2:x.Tier < (s.Columns[m]).Tiers
      · rw [decide_eq_true h2]
        simp only [cond_true]
        refine H1 (slot_halves size) (H1 (contains8 _ _) (Gt ?_))
        rw [Bool.true_and,List.any_eq_true]
        constructor
        · rintro⟨y,hy,he⟩
          have:=of_decide_eq_true he
          subst this
          exact⟨⟨m,_,hm,hc,h2⟩,h1,hy⟩
        · exact fun h=>⟨_,h.half,by simp⟩
      · rw [decide_eq_false h2]
        simp only [cond_false,Bool.false_and]
        refine Hs (Gt (Hs (Gt (Gt ⟨fun h=>(by cases h),fun h=>?_⟩))))
        obtain⟨m',c,g1,g2,g3⟩:=h.col
        have:m'=m:=by omega
        subst this
        rw [hc] at g2; cases g2
        exact(h2 g3).elim
    · simp only [decide_eq_false h1,Bool.and_false,cond_false,Bool.false_and]
      exact Hs (Gt (Hs (Gt (Hs (Gt (Gt ⟨fun h=>(by cases h),fun h=>(h1 h.tier).elim⟩))))))
  · have e:((decide (0≤x.G4))&&(decide (x.G4 < (s.Columns.length:Int))))=false:=by
      by_cases h:0≤x.G4
      · have:¬ x.G4 < (s.Columns.length:Int):=fun g=>h0 ⟨h,g⟩
        simp [this]
      · simp [h]
    simp only [e,Bool.false_and,cond_false]
    refine Hs (Gt (Hs (Gt (Hs (Gt (Gt ⟨fun h=>(by cases h),fun h=>?_⟩))))))
    obtain⟨m,c,g1,g2,_⟩:=h.col
    have:=(List.getElem?_eq_some_iff.1 g2).1
    exact(h0 (by omega)).elim
def below (l:List Slot) (x:Slot) (half:Int):Prop:=(⟨x.G4,x.Tier - 1,half⟩:Slot)∈l
def Ja9 (x:Slot) (l:List Slot):Prop:=x.Tier≤0∨below l x x.Half∨(x.Half=0∧below l x 1∧below l x 2)
theorem J20 (half:Int) (l:List Slot) (x:Slot) (ht : -1000000≤x.Tier∧x.Tier≤1000000):Wp (G56 half l x) (fun r=>r=true ↔ below l x half):=by
  unfold G56
  refine G3e ⟨by omega,by omega⟩ (H1 (containsSlot _ _) (Gt ?_))
  rw [List.any_eq_true]
  constructor
  · rintro⟨y,hy,he⟩
    have:=of_decide_eq_true he
    subst this
    exact hy
  · exact fun h=>⟨_,h,by simp⟩
theorem slot_held (x:Slot) (l:List Slot) (ht : -1000000≤x.Tier∧x.Tier≤1000000):Wp (Gbf x l) (fun r=>r=true ↔ Ja9 x l):=by
  unfold Gbf Ja9
  refine J3 (fun h=>Gt ⟨fun _=>.inl (of_decide_eq_true h),fun _=>rfl⟩) (fun h=>?_)
  have h0:=of_decide_eq_false h
  refine Hs (wp_mono (J20 x.Half l x ht) (fun r7 h7=>?_))
  cases r7 with
  | true=>
    simp only [Bool.not_true,Bool.false_and,cond_false,Bool.true_or]
    exact Hs (Gt (Hs (Gt (Gt ⟨fun _=>.inr (.inl (h7.1 rfl)),fun _=>rfl⟩))))
  | false=>
    have h7':¬ below l x x.Half:=fun h=>by have:=h7.2 h; cases this
    simp only [Bool.not_false,Bool.true_and,Bool.false_or]
    by_cases hh:x.Half=0
    · rw [decide_eq_true hh]
      simp only [cond_true,Bool.true_and]
      refine Hs (wp_mono (J20 1 l x ht) (fun r8 h8=>?_))
      cases r8 with
      | true=>
        simp only [cond_true,Bool.true_and]
        refine Hs (wp_mono (J20 2 l x ht) (fun r9 h9=>Gt ⟨fun h=>.inr (.inr ⟨hh,h8.1 rfl,h9.1 h⟩),fun h=>?_⟩))
        rcases h with h | h | ⟨_,_,h⟩
        · exact(h0 h).elim
        · exact(h7' h).elim
        · exact h9.2 h
      | false=>
        simp only [cond_false,Bool.false_and]
        refine Hs (Gt (Gt ⟨fun h=>(by cases h),fun h=>?_⟩))
        rcases h with h | h | ⟨_,h,_⟩
        · exact(h0 h).elim
        · exact(h7' h).elim
        · have:=h8.2 h; cases this
    · rw [decide_eq_false hh]
      simp only [cond_false,Bool.false_and]
      refine Hs (Gt (Hs (Gt (Gt ⟨fun h=>(by cases h),fun h=>?_⟩))))
      rcases h with h | h | ⟨h,_⟩
      · exact(h0 h).elim
      · exact(h7' h).elim
      · exact(hh h).elim
def H0c (a b:Int):Prop:=a=b∨a=0∨b=0
theorem J9a (a b:Int):Wp (G74 a b) (fun r=>r=true ↔ H0c a b):=by
  unfold G74 H0c
  refine Gt ?_
  simp [or_assoc]
def Hac (a b:Slot):Prop:=a.G4=b.G4∧a.Tier=b.Tier∧H0c a.Half b.Half
theorem slot_meet (a b:Slot):Wp (Gbe a b) (fun r=>r=true ↔ Hac a b):=by
  unfold Gbe Hac
  by_cases h:a.G4=b.G4∧a.Tier=b.Tier
  · simp only [decide_eq_true h.1,decide_eq_true h.2,Bool.and_self,cond_true,Bool.true_and]
    exact Hs (wp_mono (J9a _ _) (fun r hr=>Gt ⟨fun e=>⟨h.1,h.2,hr.1 e⟩,fun e=>hr.2 e.2.2⟩))
  · have e:(decide (a.G4=b.G4)&&decide (a.Tier=b.Tier))=false:=by
      by_cases h1:a.G4=b.G4
      · have:¬ a.Tier=b.Tier:=fun h2=>h ⟨h1,h2⟩
        simp [this]
      · simp [h1]
    simp only [e,cond_false,Bool.false_and]
    exact Hs (Gt (Gt ⟨fun e=>(by cases e),fun e=>(h ⟨e.1,e.2.1⟩).elim⟩))
def H35 (a b:Slot):Prop:=a.G4=b.G4∧b.Tier < a.Tier∧H0c a.Half b.Half
theorem slot_over (a b:Slot):Wp (Gf7 a b) (fun r=>r=true ↔ H35 a b):=by
  unfold Gf7 H35
  by_cases h:a.G4=b.G4∧b.Tier < a.Tier
  · simp only [decide_eq_true h.1,decide_eq_true h.2,Bool.and_self,cond_true,Bool.true_and]
    exact Hs (wp_mono (J9a _ _) (fun r hr=>Gt ⟨fun e=>⟨h.1,h.2,hr.1 e⟩,fun e=>hr.2 e.2.2⟩))
  · have e:(decide (a.G4=b.G4)&&decide (b.Tier < a.Tier))=false:=by
      by_cases h1:a.G4=b.G4
      · have:¬ b.Tier < a.Tier:=fun h2=>h ⟨h1,h2⟩
        simp [this]
      · simp [h1]
    simp only [e,cond_false,Bool.false_and]
    exact Hs (Gt (Gt ⟨fun e=>(by cases e),fun e=>(h ⟨e.1,e.2.1⟩).elim⟩))
def tallI (b:Gg):Int:=if b.High then 2896 else 2591
def J29 (boxes:List Gg) (column half:Int) (n:Int) (x:Stowed):Int:=
  if x.Slot.G4=column∧(x.Slot.Half=half∨x.Slot.Half=0) then (match G3a boxes x.Gg with | some b=>n+tallI b | none=>n) else n
def G7a (boxes:List Gg) (l:List Stowed) (column half:Int):Int:=l.foldl (J29 boxes column half) 0
theorem addH_le {boxes:List Gg} {column half n:Int} {x:Stowed}:n≤J29 boxes column half n x∧J29 boxes column half n x≤n+2896:=by
  unfold J29 tallI
  split
  · split
    · split <;> omega
    · omega
  · omega
theorem J97 (boxes:List Gg) (l:List Stowed) (column half:Int) (hl:l.length≤1000000):G73 boxes l column half=some (G7a boxes l column half):=by
  refine Zz ?_
  unfold G73 G7a
  refine Qi (fun pre n=>n=pre.foldl (J29 boxes column half) 0∧0≤n∧n≤2896*pre.length) ⟨rfl,Int.le_refl _,by simp⟩ (fun pre y post n nx e hn hnx=>?_) (fun n hn=>Gt hn.1)
  obtain⟨rfl,h1,h2⟩:=hn
  have hp:pre.length+1≤l.length:=by rw [e]; simp
  have ha:=addH_le (boxes:=boxes) (column:=column) (half:=half) (n:=pre.foldl (J29 boxes column half) 0) (x:=y)
  have hlen:((pre++[y]).length:Int)=pre.length+1:=by simp
  generalize hg:pre.foldl (J29 boxes column half) 0=n at *
  refine Haa (fun j=>j=J29 boxes column half n y) (fun K hK=>?_) (fun j hj=>hnx _ ⟨by rw [hj,List.foldl_append,hg]; rfl,by omega,by rw [hlen]; omega⟩)
  refine J3 (fun hc=>?_) (fun hc=>hK _ ?_)
  · have hc':y.Slot.G4=column∧(y.Slot.Half=half∨y.Slot.Half=0):=by simpa using hc
    refine H1 (J65 boxes y.Gg) ?_
    cases hf:G3a boxes y.Gg with
    | none=>exact J3 (fun h=>by cases h) (fun _=>hK _ (by unfold J29; rw [if_pos hc',hf]))
    | some b=>
      refine J3 (fun _=>?_) (fun h=>by cases h)
      have ht:Gf6 b=some (tallI b):=by unfold Gf6 tallI; cases b.High <;> rfl
      have hadd:J29 boxes column half n y=n+tallI b:=by unfold J29; rw [if_pos hc',hf]
      refine H1 ht (G3e ?_ (hK _ hadd.symm))
      rw [← hadd]
      omega
  · have hc':¬ (y.Slot.G4=column∧(y.Slot.Half=half∨y.Slot.Half=0)):=by simpa using hc
    unfold J29; rw [if_neg hc']
def Jab (boxes:List Gg) (l:List Stowed) (m:Nat) (c:G4):Prop:=c.Height≤0∨(G7a boxes l m 1≤c.Height∧G7a boxes l m 2≤c.Height)
theorem stow_fits {s:H2} {boxes:List Gg} {l:List Stowed} {m:Nat} {c:G4} (hc:s.Columns[m]? = some c) (hl:l.length≤1000000):Wp (Gbd s boxes l (m:Int)) (fun r=>r=true ↔ Jab boxes l m c):=by
  unfold Gbd Jab
  refine G58 rfl hc ?_
  by_cases h:c.Height≤0
  · simp only [decide_eq_true h,Bool.not_true,cond_false,Bool.false_and,Bool.true_or]
    exact Hs (Gt (Hs (Gt (Gt ⟨fun _=>.inl h,fun _=>rfl⟩))))
  · simp only [decide_eq_false h,Bool.not_false,cond_true,Bool.true_and,Bool.false_or]
    refine H1 (J97 boxes l m 1 hl) ?_
    by_cases h1:G7a boxes l m 1≤c.Height
    · rw [decide_eq_true h1]
      simp only [cond_true,Bool.true_and]
      exact H1 (J97 boxes l m 2 hl) (Gt ⟨fun e=>.inr ⟨h1,of_decide_eq_true e⟩,fun e=>decide_eq_true (e.elim (fun e=>(h e).elim) (·.2))⟩)
    · rw [decide_eq_false h1]
      simp only [cond_false,Bool.false_and]
      exact Hs (Gt (Gt ⟨fun e=>(by cases e),fun e=>e.elim (fun e=>(h e).elim) (fun e=>(h1 e.1).elim)⟩))
theorem stow_taken (l:List Stowed) (hl:l.length≤1000000):G97 l=some (l.map (·.Slot)):=by
  refine Zz ?_
  unfold G97
  refine Qi (fun pre s=>s=pre.map (·.Slot)) rfl (fun pre y post s nx e hs hnx=>?_) (fun s hs=>Gt hs)
  subst hs
  have hp:pre.length+1≤l.length:=by rw [e]; simp
  exact G0b (room_ok (by simp only [List.length_map,List.length_singleton]; omega) (by omega)) (hnx _ (by simp))
structure Gcc (s:H2) (boxes:List Gg) (l:List Stowed):Prop where
  each:∀ x∈l,∃ b,G3a boxes x.Gg=some b∧J72 s x.Slot b.Size∧Ja9 x.Slot (l.map (·.Slot))
  sorted:l.Pairwise (fun a b=>a.Gg < b.Gg)
  apart:l.Pairwise (fun a b=>¬ Hac b.Slot a.Slot)
  fits:∀ m c,s.Columns[m]? = some c→Jab boxes l m c
theorem J04 {α:Type} {R:α→α→Prop} {l:List α} {x:α} (h:l.Pairwise R) (hx:∀ a∈l,R a x):(l++[x]).Pairwise R:=by
  rw [List.pairwise_append]
  refine⟨h,List.pairwise_singleton ..,fun a ha b hb=>?_⟩
  rw [List.mem_singleton] at hb; subst hb
  exact hx a ha
theorem H97 {α:Type} {R:α→α→Prop} {pre post:List α} {y:α} (h:(pre++y::post).Pairwise R):∀ a∈pre,R a y:=fun a ha=>(List.pairwise_append.1 h).2.2 a ha y (List.mem_cons_self ..)
theorem stow_right {s:H2} {boxes:List Gg} {l:List Stowed} (hr:G96 s=some true) (ht:∀ c∈s.Columns,c.Tiers≤1000000) (hl:l.length≤1000000):Wp (Rk s boxes l) (fun r=>r=true ↔ Gcc s boxes l):=by
  unfold Rk
  refine H1 hr (J3 (fun h=>by cases h) (fun _=>?_))
  refine H1 (stow_taken l hl) ?_
  refine Qi (fun pre _=>(∀ x∈pre,∃ b,G3a boxes x.Gg=some b∧J72 s x.Slot b.Size∧Ja9 x.Slot (l.map (·.Slot)))∧pre.Pairwise (fun a b=>a.Gg < b.Gg)∧pre.Pairwise (fun a b=>¬ Hac b.Slot a.Slot))
    ⟨fun x hx=>(List.not_mem_nil hx).elim,List.Pairwise.nil,List.Pairwise.nil⟩ (fun pre y post u nx e hI hnx=>?_) (fun u hI=>?_)
  · obtain⟨i1,i2,i3⟩:=hI
    have hlen:pre.length < l.length:=by rw [e]; simp
    have hy:y∈l:=by rw [e]; simp
    have no:∀ {m:Option Bool},m=some false→¬ Gcc s boxes l→Wp m (fun r=>r=true ↔ Gcc s boxes l):=fun e h=>by subst e; exact Gt ⟨fun e=>(by cases e),fun e=>(h e).elim⟩
    refine H1 (J65 boxes y.Gg) ?_
    cases hf:G3a boxes y.Gg with
    | none=>
      simp only [Bool.not_false,Bool.not_true,Bool.false_and,cond_false,Bool.true_or,cond_true]
      refine Hs (Gt (Hs (Gt (Hs (Gt (Hs (Gt (no rfl fun h=>?_))))))))
      obtain⟨b,hb,_⟩:=h.each y hy
      rw [hf] at hb; cases hb
    | some b=>
      simp only [Bool.not_true,Bool.not_false,Bool.true_and,Bool.false_or]
      -- the order
      have hprev:Wp (bif decide (0 < (pre.length:Int)) then G35 ((pre.length:Int) - 1) some else some 0) (fun v=>Wp (bif decide (0 < (pre.length:Int)) then Qr l v some else some default) (fun y20=>
          ((decide (0 < (pre.length:Int))&&decide (y.Gg≤y20.Gg))=true→¬ Gcc s boxes l)∧((decide (0 < (pre.length:Int))&&decide (y.Gg≤y20.Gg))=false→∀ a∈pre,a.Gg < y.Gg))):=by
        rcases List.eq_nil_or_concat pre with hp | ⟨pre',z,hp⟩
        · subst hp
          simp only [List.length_nil]
          exact Gt (Gt ⟨fun h=>by simp at h,fun _ a ha=>(List.not_mem_nil ha).elim⟩)
        · have hp':pre=pre'++[z]:=by simpa using hp
          have hpl:pre.length=pre'.length+1:=by rw [hp']; simp
          have hd:decide (0 < (pre.length:Int))=true:=decide_eq_true (by omega)
          have hz:l[pre'.length]? = some z:=by rw [e,hp']; simp
          rw [hd]
          simp only [cond_true,Bool.true_and]
          refine G3e ⟨by omega,by omega⟩ (Gt (G58 (m:=pre'.length) (by omega) hz (Gt ⟨fun h hR=>?_,fun h a ha=>?_⟩)))
          · have:=of_decide_eq_true h
            have hs:=hR.sorted
            rw [e] at hs
            have:=H97 hs z (by rw [hp']; simp)
            omega
          · have hzy:¬ y.Gg≤z.Gg:=of_decide_eq_false h
            rw [hp'] at ha
            rcases List.mem_append.1 ha with ha | ha
            · have:=H97 (hp' ▸ i2:(pre'++z::[]).Pairwise _) a ha
              omega
            · rw [List.mem_singleton] at ha; subst ha; omega
      refine Hs (wp_mono hprev (fun v hv=>Hs (wp_mono hv (fun y20 h20=>?_))))
      obtain⟨n1,n2⟩:=h20
      generalize (decide (0 < (pre.length:Int))&&decide (y.Gg≤y20.Gg))=c at n1 n2
      cases c with
      | true=>
        simp only [Bool.not_true,cond_false,Bool.true_or,cond_true]
        exact Hs (Gt (Hs (Gt (no rfl (n1 rfl)))))
      | false=>
        simp only [Bool.not_false,cond_true,Bool.false_or]
        have hsort:=n2 rfl
        refine Hs (wp_mono (slot_right s y.Slot b.Size) (fun r21 h21=>?_))
        cases r21 with
        | false=>
          simp only [Bool.not_false,Bool.not_true,cond_false,Bool.true_or,cond_true]
          refine Hs (Gt (no rfl fun h=>?_))
          obtain⟨b',hb,hs,_⟩:=h.each y hy
          rw [hf] at hb; cases hb
          have:=h21.2 hs; cases this
        | true=>
          have hslot:=h21.1 rfl
          simp only [Bool.not_true,Bool.not_false,cond_true,Bool.false_or]
          have htier : -1000000≤y.Slot.Tier∧y.Slot.Tier≤1000000:=by
            obtain⟨m,c,_,hc,h3⟩:=hslot.col
            have:=hslot.tier
            have:=ht c (List.mem_of_getElem? hc)
            omega
          refine Hs (wp_mono (slot_held y.Slot (l.map (·.Slot)) htier) (fun r22 h22=>?_))
          cases r22 with
          | false=>
            refine J3 (fun _=>no rfl fun h=>?_) (fun h=>by cases h)
            obtain⟨b',hb,_,hh⟩:=h.each y hy
            have:=h22.2 hh; cases this
          | true=>
            have hheld:=h22.1 rfl
            refine J3 (fun h=>by cases h) (fun _=>?_)
            refine Hs (Jc5 (m:=pre.length) rfl (by rw [List.length_map]; omega) ?_)
            have htk:(l.map (·.Slot)).take pre.length=pre.map (·.Slot):=by rw [← List.map_take,e,List.take_left']; rfl
            rw [htk]
            refine Qi (fun pr _=>∀ a∈pr,¬ Hac y.Slot a) (fun a ha=>(List.not_mem_nil ha).elim) (fun pr a pos u nx2 e2 hI2 hnx2=>?_) (fun u hI2=>hnx _ ⟨fun x hx=>?_,J04 i2 hsort,J04 i3 (fun a ha=>hI2 a.Slot (List.mem_map.2 ⟨a,ha,rfl⟩))⟩)
            · refine Hs (wp_mono (slot_meet y.Slot a) (fun r48 h48=>?_))
              refine J3 (fun h=>no rfl fun hR=>?_) (fun h=>hnx2 _ (fun a' ha'=>?_))
              · have hm:=h48.1 h
                have hin:a∈pre.map (·.Slot):=by rw [e2]; simp
                obtain⟨z,hz,rfl⟩:=List.mem_map.1 hin
                have ha:=hR.apart
                rw [e] at ha
                exact H97 ha z hz hm
              · rcases List.mem_append.1 ha' with ha' | ha'
                · exact hI2 a' ha'
                · rw [List.mem_singleton] at ha'; subst ha'
                  intro hm
                  have:=h48.2 hm
                  rw [this] at h; cases h
            · rcases List.mem_append.1 hx with hx | hx
              · exact i1 x hx
              · rw [List.mem_singleton] at hx; subst hx
                exact⟨b,hf,hslot,hheld⟩
  · obtain⟨i1,i2,i3⟩:=hI
    refine Qi (fun pre _=>∀ m c,m < pre.length→s.Columns[m]? = some c→Jab boxes l m c) (fun m c h=>(Nat.not_lt_zero m h).elim) (fun pre y post u nx e hI hnx=>?_) (fun u hI=>Gt ⟨fun _=>⟨i1,i2,i3,fun m c hc=>hI m c (List.getElem?_eq_some_iff.1 hc).1 hc⟩,fun _=>rfl⟩)
    have hc:s.Columns[pre.length]? = some y:=by rw [e]; simp
    refine Hs (wp_mono (stow_fits hc hl) (fun r hr=>?_))
    cases r with
    | false=>exact J3 (fun _=>Gt ⟨fun e=>(by cases e),fun h=>by have:=hr.2 (h.fits _ _ hc); cases this⟩) (fun h=>by cases h)
    | true=>
      refine J3 (fun h=>by cases h) (fun _=>hnx _ (fun m c hm hmc=>?_))
      rw [List.length_append,List.length_singleton] at hm
      rcases Nat.lt_or_ge m pre.length with h | h
      · exact hI m c h hmc
      · have:m=pre.length:=by omega
        subst this
        rw [hc] at hmc; cases hmc
        exact hr.1 rfl
section maps
variable {κ ν:Type} [DecidableEq κ]
theorem Q03 (a:κ):Ho.has (Ho.empty:Ho κ ν) a=false:=rfl
theorem amap_has_put (m:Ho κ ν) (a b:κ) (v:ν):Ho.has (Ho.put m a v) b=(decide (a=b)||Ho.has m b):=by
  unfold Ho.has Ho.put
  have h:=H59 (l:=H47 m.l a v) (a:=b)
  have h2:=H59 (l:=m.l) (a:=b)
  rw [← h,mget_mput]
  by_cases e:a=b
  · simp [e]
  · simp [e,h2]
end maps
theorem Hd2 {α:Type} {l:List α} {wanted:α→Option Bool} {p:α→Bool} (hw:∀ x∈l,wanted x=some (p x)) (hl:l.length≤1000000) :
    each (fun y i (s:List Int) nx=>jp (fun kj=>bnd (wanted y) fun r=>bif r then (need (decide ((s.length+[(i:Int)].length)*8≤140737488355328∧s.length+[(i:Int)].length≤maxLen)) <| kj (s++[(i:Int)])) else (kj s)) fun(j:List Int)=>nx j)
      (fun s=>some s) l 0 []=some (Gd6 p l):=by
  refine Zz ?_
  refine Qi (fun pre s=>s=Gd6 p pre) rfl (fun pre x post s nx e hs hnx=>?_) (fun s hs=>Gt hs)
  subst hs
  have hpl:pre.length+1≤l.length:=by rw [e]; simp
  refine Haa (fun j=>j=Gd6 p (pre++[x])) (fun K hK=>?_) (fun j hj=>hnx _ hj)
  refine H1 (hw x (by rw [e]; simp)) (J3 (fun h=>G0b ?_ (hK _ ?_)) (fun h=>hK _ ?_))
  · have:=idxs_length p pre
    exact room_ok (by rw [List.length_singleton]; omega) (by omega)
  · rw [idxs_snoc,h]; rfl
  · rw [idxs_snoc,h]; simp
theorem idxs_cons {α:Type} (p:α→Bool) (x:α) (l:List α):Gd6 p (x::l)=(if p x then [0] else [])++(Gd6 p l).map (·+1):=by
  unfold Gd6
  rw [List.zipIdx_cons',List.filter_cons]
  have h:(((l.zipIdx.map (Prod.map id (fun n:Nat=>n+1))).filter (fun y:α×Nat=>p y.1)).map (fun y:α×Nat=>(y.2:Int)))=((l.zipIdx.filter (fun y:α×Nat=>p y.1)).map (fun y:α×Nat=>(y.2:Int))).map (·+1):=by
    rw [List.filter_map,List.map_map,List.map_map]
    rfl
  by_cases hx:p x=true
  · rw [if_pos (show p (x,0).fst=true from hx),if_pos hx,List.map_cons]
    exact congrArg (List.cons _) h
  · rw [if_neg (show ¬ p (x,0).fst=true from hx),if_neg hx,List.nil_append]
    exact h
theorem idxs_head {α:Type} (p:α→Bool) (l:List α):(Gd6 p l).head? = match l.findIdx? p with
    | some j=>some (j:Int)
    | none=>none:=by
  induction l with
  | nil=>rfl
  | cons x l ih=>
    rw [idxs_cons,List.findIdx?_cons]
    by_cases hx:p x
    · simp [hx]
    · simp only [hx,if_false,Bool.false_eq_true,List.nil_append,List.head?_map,ih]
      cases l.findIdx? p <;> simp
theorem idxs_pos {α:Type} (p:α→Bool) (l:List α):decide (0 < ((Gd6 p l).length:Int))=l.any p:=by
  by_cases h:∀ x∈l,p x=false
  · rw [idxs_nil.2 h]
    refine Eq.symm (List.any_eq_false.2 fun x hx=>?_)
    rw [h x hx]; exact Bool.false_ne_true
  · have h1:Gd6 p l≠[]:=fun e=>h (idxs_nil.1 e)
    have h2:=List.length_pos_iff.2 h1
    rw [decide_eq_true (by omega)]
    refine Eq.symm (List.any_eq_true.2 ?_)
    refine Classical.byContradiction fun hn=>h fun x hx=>?_
    cases hc:p x with
    | false=>rfl
    | true=>exact(hn ⟨x,hx,hc⟩).elim
def Gd7 (x:G9) (c:G4):Bool:=decide (x.Bay=c.Bay)&&x.Rows.any (fun r=>decide (r=c.Row))
theorem J9b (x:G9) (c:G4) (hl:x.Rows.length≤1000000):G75 x c=some (Gd7 x c):=by
  unfold G75 Gd7
  by_cases h:x.Bay=c.Bay
  · have hc:G4d x.Rows (fun z0=>G6d z0 c)=some (Gd6 (fun r=>decide (r=c.Row)) x.Rows):=by
      unfold G4d
      exact Hd2 (fun x _=>rfl) hl
    rw [decide_eq_true h]
    simp only [cond_true,Bool.true_and]
    rw [hc,Hd5,idxs_pos]
  · rw [decide_eq_false h]
    rfl
def Yt (s:H2) (c:G4):Int:=H9c (fun x=>Gd7 x c) s.Covers
theorem ship_coverOf {s:H2} {m:Nat} {c:G4} (hc:s.Columns[m]? = some c) (hr:∀ x∈s.Covers,x.Rows.length≤1000000) (hl:s.Covers.length≤1000000):G1c s (m:Int)=some (Yt s c):=by
  have hm:=(List.getElem?_eq_some_iff.1 hc).1
  refine Zz ?_
  unfold G1c
  refine J3 (fun h=>?_) (fun _=>?_)
  · simp only [Bool.or_eq_true,decide_eq_true_eq] at h
    omega
  have hch:Zu s.Covers (fun z0=>G34 z0 s (m:Int))=some (Gd6 (fun x=>Gd7 x c) s.Covers):=by
    unfold Zu
    refine Hd2 (fun x hx=>Zz ?_) hl
    unfold G34
    exact G58 rfl hc (H1 (J9b x c (hr x hx)) (Gt rfl))
  refine H1 hch ?_
  have hh:=idxs_head (fun x=>Gd7 x c) s.Covers
  unfold Yt H9c
  cases hf:s.Covers.findIdx? (fun x=>Gd7 x c) with
  | none=>
    rw [hf] at hh
    have h0:Gd6 (fun x=>Gd7 x c) s.Covers=[]:=List.head?_eq_none_iff.1 hh
    rw [h0]
    exact Gt rfl
  | some j=>
    rw [hf] at hh
    cases hi:Gd6 (fun x=>Gd7 x c) s.Covers with
    | nil=>rw [hi] at hh; cases hh
    | cons z r=>
      rw [hi] at hh
      simp only [List.head?_cons,Option.some.injEq] at hh
      subst hh
      refine J3 (fun h=>?_) (fun _=>G58 (m:=0) rfl rfl (Gt rfl))
      have:=of_decide_eq_true h
      simp only [List.length_cons] at this
      omega
def abB (k:Int) (b:Gg):Bool:=decide (b.Load≤k)&&decide (k < b.Discharge)
def Jfd (l:List Stowed) (id:Int):Slot×Bool:=match Jfc l id with
  | some x=>(x.Slot,true)
  | none=>(⟨0,0,0⟩,false)
structure Small (s:H2):Prop where
  right:G96 s=some true
  cols:1≤s.Columns.length∧s.Columns.length≤40
  tiers:∀ c∈s.Columns,c.Tiers≤100
  covs:s.Covers.length≤1000
  rows:∀ x∈s.Covers,x.Rows.length≤1000
def ColIn (s:H2) (x:Slot):Prop:=∃ (m:Nat) (c:G4),x.G4=(m:Int)∧s.Columns[m]? = some c
structure Jb6 (U:List Int) (m:Ho Int Unit) (l:List Int):Prop where
  nodup:l.Nodup
  sub:∀ a∈l,a∈U
  has:∀ a,Ho.has m a=decide (a∈l)
theorem Jb6.le {U:List Int} {m:Ho Int Unit} {l:List Int} (h:Jb6 U m l):l.length≤U.length:=h.nodup.length_le_of_subset (fun a ha=>h.sub a ha)
theorem Jb6.start {U:List Int}:Jb6 U (Ho.empty:Ho Int Unit) []:=⟨List.nodup_nil,fun a ha=>(List.not_mem_nil ha).elim,fun a=>by simp [Q03]⟩
theorem Jb6.snoc {U:List Int} {m:Ho Int Unit} {l:List Int} (h:Jb6 U m l) {id:Int} (h1:id ∉ l) (h2:id∈U):Jb6 U (Ho.put m id ()) (l++[id]):=by
  refine⟨?_,fun a ha=>?_,fun a=>?_⟩
  · rw [List.nodup_append]
    refine⟨h.nodup,by simp,fun a ha b hb=>?_⟩
    rw [List.mem_singleton] at hb; subst hb
    intro e; subst e; exact h1 ha
  · rcases List.mem_append.1 ha with ha | ha
    · exact h.sub a ha
    · rw [List.mem_singleton] at ha; subst ha; exact h2
  · rw [amap_has_put,h.has,Bool.eq_iff_iff]
    simp only [Bool.or_eq_true,decide_eq_true_eq,List.mem_append,List.mem_singleton]
    exact⟨fun h=>h.elim (fun e=>.inr e.symm) .inl,fun h=>h.elim .inr (fun e=>.inl e.symm)⟩
theorem H93 {l:List Int} (h:l.Pairwise (· < ·)):l.Nodup:=h.imp (fun h=>by omega)
theorem Small.tier {s:H2} (h:Small s):∀ c∈s.Columns,c.Tiers≤1000000:=fun c hc=>by have:=h.tiers c hc; omega
theorem slot_colIn {s:H2} {x:Slot} {size:Int} (h:J72 s x size):ColIn s x:=by
  obtain⟨m,c,h1,h2,_⟩:=h.col
  exact⟨m,c,h1,h2⟩
theorem rightP_nil {s:H2} {boxes:List Gg}:Gcc s boxes []:=⟨fun x hx=>(List.not_mem_nil hx).elim,List.Pairwise.nil,List.Pairwise.nil,fun m c _=>by
  unfold Jab G7a
  simp only [List.foldl_nil]
  omega⟩
theorem J4c {a b:List Int} (ha:a.Pairwise (· < ·)) (hb:b.Pairwise (· < ·)) (h:∀ x,x∈a ↔ x∈b):a=b:=
  List.Perm.eq_of_pairwise (le:=fun x y:Int=>x < y) (fun x y _ _ h1 h2=>by omega) ha hb ((List.perm_ext_iff_of_nodup (H93 ha) (H93 hb)).2 h)
structure VInv (s:H2) (boxes:List Gg) (k:Int) (l:List Stowed):Prop where
  right:Gcc s boxes l
  mem:∀ x∈l,∃ b∈boxes,b.ID=x.Gg∧abB k b=true
theorem VInv.nil {s:H2} {boxes:List Gg} {k:Int}:VInv s boxes k []:=⟨rightP_nil,fun x hx=>(List.not_mem_nil hx).elim⟩
def upon (s:H2) (x y:Slot):Prop:=∃ (m:Nat) (c:G4) (m1:Nat) (c1:G4),x.G4=(m:Int)∧s.Columns[m]? = some c∧y.G4=(m1:Int)∧s.Columns[m1]? = some c1∧c.Deck=false∧c1.Deck=true∧0≤Yt s c∧Yt s c1=Yt s c
def PullsIn (s:H2) (states:List (List Stowed)) (st:List Stowed) (a b:Int):Prop:=
  (Jfd st a).2=true∧((∃ y∈st,y.Gg=b∧H35 y.Slot (Jfd st a).1)∨∃ st2∈states,∃ y∈st2,y.Gg=b∧upon s (Jfd st a).1 y.Slot)
def J06 (s:H2) (states:List (List Stowed)) (a b:Int):Prop:=∃ st∈states,PullsIn s states st a b
structure Grown (s:H2) (U:List Int) (states:List (List Stowed)) (l:List Int) (id:Int) (m:Ho Int Unit) (l':List Int):Prop where
  inv:Jb6 U m l'
  sub:∀ a∈l,a∈l'
  has:id∈l'
  closed:∀ a∈l',a ∉ l→∀ b,J06 s states a b→b∈l'
  least:∀ C:Int→Prop,(∀ a b,C a→J06 s states a b→C b)→(∀ a∈l,C a)→C id→∀ a∈l',C a
structure Rch (s:H2) (U:List Int) (states:List (List Stowed)) (l:List Int) (id:Int) (m:Ho Int Unit) (l':List Int):Prop where
  inv:Jb6 U m l'
  sub:∀ a∈l++[id],a∈l'
  closed:∀ a∈l',a ∉ l→a≠id→∀ b,J06 s states a b→b∈l'
  least:∀ C:Int→Prop,(∀ a b,C a→J06 s states a b→C b)→(∀ a∈l,C a)→C id→∀ a∈l',C a
section
variable {s:H2} {U:List Int} {states:List (List Stowed)} {l l' l2:List Int} {id y:Int} {m m2:Ho Int Unit}
theorem Rch.start (h:Jb6 U m (l++[id])):Rch s U states l id m (l++[id]):=
  ⟨h,fun a ha=>ha,fun a ha h1 h2=>by
    rcases List.mem_append.1 ha with ha | ha
    · exact(h1 ha).elim
    · exact(h2 (List.mem_singleton.1 ha)).elim,fun C _ hl hid a ha=>by
    rcases List.mem_append.1 ha with ha | ha
    · exact hl a ha
    · exact List.mem_singleton.1 ha ▸ hid⟩
theorem Rch.step (h:Rch s U states l id m l') (hp:J06 s states id y) (g:Grown s U states l' y m2 l2):Rch s U states l id m2 l2∧(∀ a∈l',a∈l2)∧y∈l2:=
  ⟨⟨g.inv,fun a ha=>g.sub a (h.sub a ha),fun a ha h1 h2 b hb=>by
    by_cases hal:a∈l'
    · exact g.sub b (h.closed a hal h1 h2 b hb)
    · exact g.closed a ha hal b hb,fun C hc hl hid=>g.least C hc (h.least C hc hl hid) (hc id y hid hp)⟩,g.sub,g.has⟩
end
structure Least (s:H2) (before after:List Stowed) (l:List Int):Prop where
  seeds:∀ st∈[before,after],∀ y∈st,Jfd before y.Gg≠Jfd after y.Gg→y.Gg∈l
  closed:∀ a∈l,∀ b,J06 s [before,after] a b→b∈l
  least:∀ C:Int→Prop,(∀ a b,C a→J06 s [before,after] a b→C b)→(∀ st∈[before,after],∀ y∈st,Jfd before y.Gg≠Jfd after y.Gg→C y.Gg)→∀ a∈l,C a
theorem Jf1 {α:Type} {a b x:α} (h:x∈[a,b]):x∈[b,a]:=by
  simp only [List.mem_cons,List.not_mem_nil,or_false] at h ⊢
  exact h.symm
theorem J06.swap {s:H2} {a b:List Stowed} {x y:Int} (h:J06 s [a,b] x y):J06 s [b,a] x y:=by
  obtain⟨st,hst,h1,h2⟩:=h
  exact⟨st,Jf1 hst,h1,h2.imp _root_.id (fun⟨st2,h3,h4⟩=>⟨st2,Jf1 h3,h4⟩)⟩
theorem Least.le {s:H2} {before after:List Stowed} {l l':List Int} (h:Least s before after l) (h':Least s after before l'):∀ a∈l,a∈l':=
  h.least (·∈l') (fun a b ha hb=>h'.closed a ha b hb.swap) (fun st hst y hy hne=>h'.seeds st (Jf1 hst) y hy (fun e=>hne e.symm))
theorem Gee {α:Type} [Inhabited α] {c:Bool} {m:Option α} {x:α} (h:c=true→m=some x):∃ r,(bif c then m else some default)=some r∧(c=true→r=x):=by
  cases c with
  | true=>exact⟨x,h rfl,fun _=>rfl⟩
  | false=>exact⟨default,rfl,fun e=>by cases e⟩
theorem Jeb (boxes:List Gg) (id:Int):Rx boxes id=some (match G3a boxes id with
    | some b=>(b,true)
    | none=>(Gg.mk 0 ByteArray.empty 0 false 0 0 0 0 false,false)):=by
  refine Zz ?_
  unfold Rx
  refine Qi (fun pre _=>∀ b∈pre,¬ b.ID=id) (fun b hb=>(List.not_mem_nil hb).elim) (fun pre y post s nx e hI hnx=>J3 (fun h=>Gt ?_) (fun h=>hnx _ (Qn (P:=fun b:Gg=>¬ b.ID=id) hI (of_decide_eq_false h)))) (fun s hI=>Gt ?_)
  · have:G3a boxes id=some y:=by
      unfold G3a
      rw [e,List.find?_append,List.find?_eq_none.2 (fun b hb=>by simpa using hI b hb)]
      simp only [Option.none_or,List.find?_cons,h]
    rw [this]
  · have:G3a boxes id=none:=by
      unfold G3a
      exact List.find?_eq_none.2 (fun b hb=>by simpa using hI b hb)
    rw [this]
theorem ref_slot (s:H2) (x:Slot) (size:Int):Wp (Zr s x size) (fun r=>r=true ↔ J72 s x size):=by
  unfold Zr
  have hhalf:(((decide (size=40))&&(decide (x.Half=0)))||((decide (size=20))&&((decide (x.Half=1))||(decide (x.Half=2)))))=true ↔ x.Half∈J49 size:=by
    unfold J49
    simp only [Bool.or_eq_true,Bool.and_eq_true,decide_eq_true_eq]
    by_cases h4:size=40
    · rw [if_pos h4]; subst h4; simp
    · rw [if_neg h4]
      by_cases h2:size=20
      · rw [if_pos h2]; subst h2; simp
      · rw [if_neg h2]; simp [h4,h2]
  by_cases h0:0≤x.G4∧x.G4 < (s.Columns.length:Int)∧0≤x.Tier
  · obtain⟨m,hm⟩:∃ m:Nat,x.G4=(m:Int):=⟨x.G4.toNat,by omega⟩
    have hml:m < s.Columns.length:=by omega
    have hc:s.Columns[m]? = some s.Columns[m]:=by simp [hml]
    have hok:((decide (x.G4 < 0)||decide ((s.Columns.length:Int)≤x.G4))||decide (x.Tier < 0))=false:=by
      simp only [Bool.or_eq_false_iff,decide_eq_false_iff_not]; omega
    rw [hok]
    simp only [Bool.not_false,cond_true,Bool.false_or]
    rw [hm]
    refine H1 ((Z2 hc some).trans rfl) (J3 (fun h=>Gt (Y0 fun hs=>?_)) (fun h=>Gt ?_))
    · obtain⟨m',c,e1,e2,e3⟩:=hs.col
      have:m'=m:=by omega
      subst this
      rw [hc] at e2; cases e2
      have:=of_decide_eq_true h
      omega
    · rw [hhalf]
      exact⟨fun hh=>⟨⟨m,_,hm,hc,by have:=of_decide_eq_false h; omega⟩,h0.2.2,hh⟩,fun hs=>hs.half⟩
  · have hok:((decide (x.G4 < 0)||decide ((s.Columns.length:Int)≤x.G4))||decide (x.Tier < 0))=true:=by
      simp only [Bool.or_eq_true,decide_eq_true_eq]; omega
    rw [hok]
    simp only [Bool.not_true,cond_false,Bool.true_or,cond_true]
    refine Hs (Gt (Gt (Y0 fun hs=>h0 ?_)))
    obtain⟨m',c,e1,e2,e3⟩:=hs.col
    have:=(List.getElem?_eq_some_iff.1 e2).1
    have:=hs.tier
    omega
theorem Jbb (l:List Slot) (x:Slot) (half:Int) (ht : -1000000≤x.Tier∧x.Tier≤1000000):Wp (Rb l x half) (fun r=>r=true ↔ below l x half):=by
  unfold Rb below
  have key:∀ y:Slot,(y.G4=x.G4∧y.Tier=x.Tier - 1∧y.Half=half) ↔ y=⟨x.G4,x.Tier - 1,half⟩:=fun y=>by
    cases y
    simp
  refine Qi (fun pre _=>∀ y∈pre,¬ y=⟨x.G4,x.Tier - 1,half⟩) (fun b hb=>(List.not_mem_nil hb).elim) (fun pre y post s nx e hI hnx=>?_) (fun s hI=>Gt (Y0 fun h=>hI _ h rfl))
  obtain⟨r,e1,h1⟩:=Gee (c:=decide (y.G4=x.G4)) (m:=G35 (x.Tier - 1) some) (x:=x.Tier - 1) (fun _=>Zz (G3e ⟨by omega,by omega⟩ (Gt rfl)))
  refine H1 e1 (J3 (fun h=>Gt ⟨fun _=>?_,fun _=>rfl⟩) (fun h=>hnx _ (Qn hI fun hy=>?_)))
  · simp only [Bool.and_eq_true,decide_eq_true_eq] at h
    have hr:=h1 (decide_eq_true h.1.1)
    have:=(key y).1 ⟨h.1.1,by rw [h.1.2,hr],h.2⟩
    rw [← this,e]; simp
  · have hk:=(key y).2 hy
    have hr:=h1 (decide_eq_true hk.1)
    rw [hr,decide_eq_true hk.1,decide_eq_true hk.2.1,decide_eq_true hk.2.2] at h
    cases h
theorem ref_held (x:Slot) (l:List Slot) (ht : -1000000≤x.Tier∧x.Tier≤1000000):Wp (G03 x l) (fun r=>r=true ↔ Ja9 x l):=by
  unfold G03 Ja9
  refine J3 (fun h=>Gt ⟨fun _=>.inl (of_decide_eq_true h),fun _=>rfl⟩) (fun h=>?_)
  have h0:=of_decide_eq_false h
  refine J3 (fun h=>?_) (fun h=>?_)
  · have hh:=of_decide_eq_true h
    refine Hs (wp_mono (Jbb l x 0 ht) (fun r8 h8=>?_))
    rw [hh]
    cases r8 with
    | true=>exact Hs (Gt (Hs (Gt (Gt ⟨fun _=>.inr (.inl (h8.1 rfl)),fun _=>rfl⟩))))
    | false=>
      simp only [Bool.not_false,cond_true,Bool.true_and,Bool.false_or]
      refine Hs (wp_mono (Jbb l x 1 ht) (fun r9 h9=>?_))
      have n0:¬ below l x 0:=fun hb=>by have:=h8.2 hb; cases this
      cases r9 with
      | true=>
        simp only [cond_true,Bool.true_and]
        refine Hs (wp_mono (Jbb l x 2 ht) (fun r10 h10=>Gt ?_))
        rw [h10]
        exact⟨fun hb=>.inr (.inr ⟨trivial,h9.1 rfl,hb⟩),fun hh=>hh.elim (fun h=>(h0 h).elim) (fun h=>h.elim (fun h=>(n0 h).elim) (fun h=>h.2.2))⟩
      | false=>
        simp only [cond_false,Bool.false_and]
        refine Hs (Gt (Gt (Y0 fun hh=>hh.elim h0 (fun h=>h.elim n0 (fun h=>?_)))))
        have:=h9.2 h.2.1; cases this
  · have hh:=of_decide_eq_false h
    refine Hs (wp_mono (Jbb l x x.Half ht) (fun r h1=>Gt ?_))
    rw [h1]
    exact⟨fun h=>.inr (.inl h),fun h=>h.elim (fun h=>(h0 h).elim) (fun h=>h.elim (fun h=>h) (fun h=>(hh h.1).elim))⟩
def J3c (a b:Int):Bool:=((decide (a=b))||(decide (a=0)))||(decide (b=0))
theorem Jec (a b:Int):R4 a b=some (J3c a b):=rfl
theorem J9c {a b:Int}:J3c a b=true ↔ H0c a b:=by
  unfold J3c H0c
  simp only [Bool.or_eq_true,decide_eq_true_eq,or_assoc]
theorem ref_meet (a b:Slot):Wp (G02 a b) (fun r=>r=true ↔ Hac a b):=by
  unfold G02 Hac
  obtain⟨r,e1,h1⟩:=Gee (c:=decide (a.G4=b.G4)&&decide (a.Tier=b.Tier)) (m:=R4 a.Half b.Half) (x:=J3c a.Half b.Half) (fun _=>Jec _ _)
  refine H1 e1 (Gt ?_)
  cases hc:(decide (a.G4=b.G4)&&decide (a.Tier=b.Tier)) with
  | true=>
    rw [h1 hc]
    simp only [Bool.and_eq_true,decide_eq_true_eq] at hc
    rw [Bool.true_and,J9c]
    exact⟨fun h=>⟨hc.1,hc.2,h⟩,fun h=>h.2.2⟩
  | false=>
    simp only [Bool.false_and]
    refine Y0 fun h=>?_
    rw [decide_eq_true h.1,decide_eq_true h.2.1] at hc
    cases hc
theorem ref_over (a b:Slot):Wp (G01 a b) (fun r=>r=true ↔ H35 a b):=by
  unfold G01 H35
  obtain⟨r,e1,h1⟩:=Gee (c:=decide (a.G4=b.G4)&&decide (b.Tier < a.Tier)) (m:=R4 a.Half b.Half) (x:=J3c a.Half b.Half) (fun _=>Jec _ _)
  refine H1 e1 (Gt ?_)
  cases hc:(decide (a.G4=b.G4)&&decide (b.Tier < a.Tier)) with
  | true=>
    rw [h1 hc]
    simp only [Bool.and_eq_true,decide_eq_true_eq] at hc
    rw [Bool.true_and,J9c]
    exact⟨fun h=>⟨hc.1,hc.2,h⟩,fun h=>h.2.2⟩
  | false=>
    simp only [Bool.false_and]
    refine Y0 fun h=>?_
    rw [decide_eq_true h.1,decide_eq_true h.2.1] at hc
    cases hc
theorem Jea (boxes:List Gg) (l:List Stowed) (column half:Int) (hl:l.length≤1000000):R3 boxes l column half=some (G7a boxes l column half):=by
  refine Zz ?_
  unfold R3
  refine Qi (fun pre n=>n=G7a boxes pre column half∧0≤n∧n≤2896*(pre.length:Int)) ⟨rfl,by omega,by simp⟩ (fun pre y post n nx e hI hnx=>?_) (fun n hI=>Gt hI.1)
  obtain⟨i1,i2,i3⟩:=hI
  have hpl:pre.length < 1000000:=by rw [e] at hl; simp only [List.length_append,List.length_cons] at hl; omega
  have hstep:G7a boxes (pre++[y]) column half=J29 boxes column half n y:=by
    unfold G7a; rw [List.foldl_append,i1]; rfl
  have hle:=addH_le (boxes:=boxes) (column:=column) (half:=half) (n:=n) (x:=y)
  refine Haa (fun j=>j=J29 boxes column half n y) (fun K hK=>?_) (fun j hj=>hnx _ ⟨by rw [hstep,hj],by omega,by rw [List.length_append,List.length_singleton]; omega⟩)
  refine H1 (Jeb boxes y.Gg) ?_
  unfold J29 at hK
  cases hf:G3a boxes y.Gg with
  | none=>
    rw [hf] at hK
    simp only [Bool.not_false,Bool.true_or,cond_true]
    exact hK _ (by split <;> rfl)
  | some b=>
    rw [hf] at hK
    simp only [Bool.not_true,Bool.false_or]
    refine J3 (fun h=>hK _ ?_) (fun h=>?_)
    · simp only [Bool.or_eq_true,Bool.and_eq_true,decide_eq_true_eq,ne_eq] at h
      have hneg:¬ (y.Slot.G4=column∧(y.Slot.Half=half∨y.Slot.Half=0)):=fun hc=>h.elim (fun h=>h hc.1) (fun h=>hc.2.elim h.1 h.2)
      rw [if_neg hneg]
    · simp only [Bool.or_eq_false_iff,Bool.and_eq_false_iff,decide_eq_false_iff_not,ne_eq,Decidable.not_not] at h
      rw [if_pos ⟨h.1,h.2⟩] at hK
      unfold tallI at hK
      refine J3 (fun hh=>G3e ⟨by omega,by omega⟩ (hK _ (by show _=n+(if b.High=true then 2896 else 2591); rw [if_pos hh]))) (fun hh=>G3e ⟨by omega,by omega⟩ (hK _ (by show _=n+(if b.High=true then 2896 else 2591); rw [if_neg (by rw [hh]; simp)])))
theorem ref_slots (l:List Stowed) (hl:l.length≤1000000):Zp l=some (l.map (·.Slot)):=by
  refine Zz ?_
  unfold Zp
  refine Qi (fun pre s=>s=pre.map (·.Slot)) rfl (fun pre y post s nx e hI hnx=>?_) (fun s hI=>Gt hI)
  have hpl:pre.length < 1000000:=by rw [e] at hl; simp only [List.length_append,List.length_cons] at hl; omega
  subst hI
  refine G0b (roomS (by rw [List.length_map,List.length_singleton]; omega) (by omega)) (hnx _ (by simp))
theorem ref_high {s:H2} {boxes:List Gg} {l:List Stowed} {m:Nat} {c:G4} (hc:s.Columns[m]? = some c) (h0:0≤c.Height) (hl:l.length≤1000000):Wp (G00 s boxes l (m:Int)) (fun r=>r=true ↔ ¬ Jab boxes l m c):=by
  unfold G00 Jab
  rw [Z2 hc]
  refine J3 (fun h=>Gt (Y0 fun h2=>h2 (.inl (by have:=of_decide_eq_true h; omega)))) (fun h=>?_)
  have hh:=of_decide_eq_false h
  refine H1 (Jea boxes l m 1 hl) ?_
  rw [Z2 hc]
  obtain⟨r,e1,h1⟩:=Gee (c:=!(decide (c.Height < G7a boxes l m 1))) (m:=R3 boxes l m 2) (x:=G7a boxes l m 2) (fun _=>Jea boxes l m 2 hl)
  obtain⟨r2,e2,h2⟩:=Gee (c:=!(decide (c.Height < G7a boxes l m 1))) (m:=Qr s.Columns (m:Int) some) (x:=c) (fun _=>Z2 hc some)
  refine H1 e1 (H1 e2 (Gt ?_))
  by_cases hlt:c.Height < G7a boxes l m 1
  · rw [decide_eq_true hlt,Bool.true_or]
    exact⟨fun _ hf=>by omega,fun _=>rfl⟩
  · have e3:=h1 (by rw [decide_eq_false hlt]; rfl)
    have e4:=h2 (by rw [decide_eq_false hlt]; rfl)
    rw [e3,e4,decide_eq_false hlt,Bool.false_or,decide_eq_true_eq]
    omega
theorem ref_stow {F:Nat} {s:H2} {boxes:List Gg} {l:List Stowed} (hp:∀ c∈s.Columns,c.Plugs.length≤1048576) (hr:∀ x∈s.Covers,x.Rows.length≤1048576) (hb:∀ b∈boxes,0≤b.Size∧b.Size≤255) (hl:l.length≤1000000) :
    Wp (Q9 F s boxes l) (fun r=>r=true ↔ H0a s∧Gcc s boxes l):=by
  unfold Q9
  refine Hs (wp_mono (ref_right (F:=F) s hp hr) (fun r hs=>J3 (fun h=>Gt (Y0 fun hh=>?_)) (fun h=>?_)))
  · rw [hs.2 hh.1] at h; cases h
  have hS:H0a s:=by
    cases r with
    | true=>exact hs.1 rfl
    | false=>cases h
  have htier:∀ c∈s.Columns,c.Tiers≤10:=fun c hc=>by have:=(hS.col c hc).place; omega
  refine Qi (fun pre _=>(∀ x∈pre,∃ b,G3a boxes x.Gg=some b∧J72 s x.Slot b.Size∧Ja9 x.Slot (l.map (·.Slot)))∧pre.Pairwise (fun a b=>a.Gg < b.Gg)∧pre.Pairwise (fun a b=>¬ Hac b.Slot a.Slot))
    ⟨fun x hx=>(List.not_mem_nil hx).elim,List.Pairwise.nil,List.Pairwise.nil⟩ (fun pre y post u nx e hI hnx=>?_) (fun u hI=>?_)
  · obtain⟨i1,i2,i3⟩:=hI
    have hym:y∈l:=by rw [e]; simp
    have hpl:pre.length < l.length:=by rw [e]; simp
    refine H1 (Jeb boxes y.Gg) ?_
    cases hf:G3a boxes y.Gg with
    | none=>
      simp only [Bool.not_false,Bool.not_true,cond_false,Bool.true_or,cond_true]
      refine Hs (Gt (Hs (Gt (Hs (Gt (Hs (Gt (Gt (Y0 fun hh=>?_)))))))))
      obtain⟨b,h1,_⟩:=hh.2.each y hym
      rw [hf] at h1; cases h1
    | some b=>
      have hbm:b∈boxes:=List.mem_of_find?_eq_some hf
      have hbs:=hb b hbm
      simp only [Bool.not_true,Bool.not_false,cond_true,Bool.false_or]
      refine Hs (G3e ⟨by omega,by omega⟩ (Gt (Hs (wp_mono (ref_slot s y.Slot b.Size) (fun r17 h17=>?_)))))
      cases r17 with
      | false=>
        simp only [Bool.not_false,Bool.not_true,cond_false,Bool.true_or,cond_true]
        refine Hs (Gt (Hs (Gt (Gt (Y0 fun hh=>?_)))))
        obtain⟨b',h1,h2,_⟩:=hh.2.each y hym
        rw [hf] at h1; cases h1
        have:=h17.2 h2; cases this
      | true=>
        have hslot:=h17.1 rfl
        simp only [Bool.not_true,Bool.not_false,cond_true,Bool.false_or]
        refine H1 (ref_slots l hl) ?_
        have htr : -1000000≤y.Slot.Tier∧y.Slot.Tier≤1000000:=by
          obtain⟨m',c,_,e2,e3⟩:=hslot.col
          have:=htier c (List.mem_of_getElem? e2)
          have:=hslot.tier
          omega
        refine Hs (wp_mono (ref_held y.Slot (l.map (·.Slot)) htr) (fun r19 h19=>J3 (fun h=>Gt (Y0 fun hh=>?_)) (fun h=>?_)))
        · obtain⟨b',h1,_,h2⟩:=hh.2.each y hym
          rw [h19.2 h2] at h; cases h
        have hheld:Ja9 y.Slot (l.map (·.Slot)):=by
          cases r19 with
          | true=>exact h19.1 rfl
          | false=>cases h
        refine G0b (decide_eq_true (by omega)) ?_
        rw [show (pre.length:Int).toNat=pre.length by omega]
        refine Jb8 (fun i _=>∀ (k:Nat) z,k < i→pre[k]? = some z→z.Gg < y.Gg∧¬ Hac z.Slot y.Slot) (fun k z hk=>by omega) (fun i u nx2 hi hJ hnx2=>?_) (fun u hJ=>hnx _ ?_)
        · have hx:pre[i]? = some (pre[i]'hi):=List.getElem?_eq_getElem hi
          have hsx:l[i]? = some (pre[i]'hi):=by rw [e,List.getElem?_append_left hi]; exact hx
          have hzm:pre[i]'hi∈pre:=List.getElem_mem _
          generalize pre[i]'hi=z at hx hsx hzm
          rw [Z2 hsx]
          obtain⟨q1,e1,h1⟩:=Gee (c:=!(decide (y.Gg≤z.Gg))) (m:=Qr l (i:Int) some) (x:=z) (fun _=>Z2 hsx some)
          refine H1 e1 ?_
          by_cases hbz:y.Gg≤z.Gg
          · rw [decide_eq_true hbz]
            simp only [Bool.not_true,cond_false,Bool.true_or,cond_true]
            refine Hs (Gt (Gt (Y0 fun hh=>?_)))
            have h1:=hh.2.sorted
            rw [e] at h1
            have:=(List.pairwise_append.1 h1).2.2 z hzm y (by simp)
            omega
          · have hq:=h1 (by rw [decide_eq_false hbz]; rfl)
            subst hq
            rw [decide_eq_false hbz]
            simp only [Bool.not_false,cond_true,Bool.false_or]
            refine Hs (wp_mono (ref_meet q1.Slot y.Slot) (fun r47 h47=>J3 (fun h=>Gt (Y0 fun hh=>?_)) (fun h=>hnx2 _ (fun k c hk2 hc2=>?_))))
            · have h1:=hh.2.apart
              rw [e] at h1
              have h2:=(List.pairwise_append.1 h1).2.2 q1 hzm y (by simp)
              have h3:=h47.1 h
              refine h2 ?_
              unfold Hac H0c at h3 ⊢
              obtain⟨a1,a2,a3⟩:=h3
              exact⟨a1.symm,a2.symm,by omega⟩
            · by_cases hki:k < i
              · exact hJ k c hki hc2
              · have:k=i:=by omega
                subst this
                rw [hx] at hc2
                cases hc2
                exact⟨by omega,fun h3=>by rw [h47.2 h3] at h; cases h⟩
        · have hall:∀ z∈pre,z.Gg < y.Gg∧¬ Hac z.Slot y.Slot:=fun z hz=>by
            obtain⟨k,hk⟩:=List.mem_iff_getElem?.1 hz
            exact hJ k z (List.getElem?_eq_some_iff.1 hk).1 hk
          refine⟨Qn i1 ⟨b,hf,hslot,hheld⟩,H96 i2 (fun z hz=>(hall z hz).1),H96 i3 (fun z hz h3=>(hall z hz).2 ?_)⟩
          unfold Hac H0c at h3 ⊢
          obtain⟨a1,a2,a3⟩:=h3
          exact⟨a1.symm,a2.symm,by omega⟩
  · obtain⟨i1,i2,i3⟩:=hI
    refine Qi (fun pre _=>∀ (k:Nat) c,k < pre.length→s.Columns[k]? = some c→Jab boxes l k c) (fun k c hk=>by simp at hk) (fun pre y post u nx e hJ hnx=>?_) (fun u hJ=>Gt ⟨fun _=>⟨hS,i1,i2,i3,fun m c hc=>hJ m c (List.getElem?_eq_some_iff.1 hc).1 hc⟩,fun _=>rfl⟩)
    have hy:s.Columns[pre.length]? = some y:=by rw [e]; simp
    have h0:0≤y.Height:=by have:=(hS.col y (by rw [e]; simp)).place; omega
    refine Hs (wp_mono (ref_high (boxes:=boxes) (l:=l) hy h0 hl) (fun r67 h67=>J3 (fun h=>Gt (Y0 fun hh=>h67.1 h (hh.2.fits _ _ hy))) (fun h=>hnx _ (fun k c hk hc=>?_))))
    rw [List.length_append,List.length_singleton] at hk
    by_cases hkp:k < pre.length
    · exact hJ k c hkp hc
    · have:k=pre.length:=by omega
      subst this
      rw [hy] at hc
      cases hc
      refine Classical.byContradiction fun hf=>?_
      rw [h67.2 hf] at h; cases h
theorem prog_stow {s:H2} {boxes:List Gg} {l:List Stowed} (hp:∀ c∈s.Columns,c.Plugs.length≤1048576) (hr:∀ x∈s.Covers,x.Rows.length≤1048576) (hl:l.length≤1000000) :
    Wp (Rk s boxes l) (fun r=>r=true ↔ H0a s∧Gcc s boxes l):=by
  obtain⟨r,er,hs⟩:=ship_right s hp hr
  cases r with
  | true=>
    have hS:=hs.1 rfl
    refine wp_mono (stow_right er (fun c hc=>by have:=(hS.col c hc).place; omega) hl) (fun r h=>h.trans ⟨fun h=>⟨hS,h⟩,fun h=>h.2⟩)
  | false=>
    unfold Rk
    refine H1 er (J3 (fun _=>Gt (Y0 fun hh=>?_)) (fun h=>by cases h))
    have:=hs.2 hh.1; cases this
theorem wp_loop {β σ:Type} {Q:β→Prop} (I:σ→Prop) (μ:σ→Nat) {b:(σ→Option β)→σ→Option β} {F:Nat} {s:σ} (h0:I s) (hF:μ s < F)
    (hb:∀ s nx,I s→(∀ s',I s'→μ s' < μ s→Wp (nx s') Q)→Wp (b nx s) Q):Wp (loop b F s) Q:=by
  induction F generalizing s with
  | zero=>omega
  | succ F ih=>
    rw [loop]
    exact hb s _ h0 (fun s' h1 h2=>ih h1 (by omega))
theorem ref_at (l:List Stowed) (id:Int):Yq l id=some (H9c (fun x:Stowed=>decide (x.Gg=id)) l):=by
  unfold Yq
  exact H74 (f:=fun x:Stowed=>some (decide (x.Gg=id))) (fun x _=>rfl)
theorem idxI_at {α:Type} {p:α→Bool} {pre post:List α} {y:α} (h1:∀ x∈pre,p x=false) (h2:p y=true):H9c p (pre++y::post)=(pre.length:Int):=by
  have:(pre++y::post).findIdx? p=some pre.length:=by
    rw [List.findIdx?_append,List.findIdx?_eq_none_iff.2 h1]
    simp [List.findIdx?_cons,h2]
  unfold H9c
  rw [this]
theorem idxI_none {α:Type} {p:α→Bool} {l:List α} (h1:∀ x∈l,p x=false):H9c p l = -1:=by
  unfold H9c
  rw [List.findIdx?_eq_none_iff.2 h1]
theorem ref_cover {s:H2} {m:Nat} {c:G4} (hc:s.Columns[m]? = some c):Rs s (m:Int)=some (Yt s c):=by
  refine Zz ?_
  unfold Rs Yt
  have hml:=(List.getElem?_eq_some_iff.1 hc).1
  refine J3 (fun h=>?_) (fun _=>?_)
  · simp only [Bool.or_eq_true,decide_eq_true_eq] at h
    omega
  refine Qi (fun pre _=>∀ x∈pre,Gd7 x c=false) (fun b hb=>(List.not_mem_nil hb).elim) (fun pre y post u nx e hI hnx=>?_) (fun u hI=>Gt (idxI_none hI).symm)
  rw [Z2 hc]
  obtain⟨q1,e1,h1⟩:=Gee (c:=decide (y.Bay=c.Bay)) (m:=Qr s.Columns (m:Int) some) (x:=c) (fun _=>Z2 hc some)
  refine H1 e1 ?_
  obtain⟨q2,e2,h2⟩:=Gee (c:=decide (y.Bay=c.Bay)) (m:=Qf y.Rows q1.Row) (x:=y.Rows.any (fun r=>decide (r=c.Row))) (fun h=>by rw [h1 h]; exact Jf6 _ _)
  refine H1 e2 ?_
  have hcov:(decide (y.Bay=c.Bay)&&q2)=Gd7 y c:=by
    unfold Gd7
    cases hb:decide (y.Bay=c.Bay) with
    | true=>rw [h2 hb]
    | false=>rfl
  rw [hcov]
  refine J3 (fun h=>Gt ?_) (fun h=>hnx _ (Qn (P:=fun x=>Gd7 x c=false) hI h))
  rw [e,idxI_at hI h]
section lifted
variable {s:H2} {before after:List Stowed}
end lifted
end Go.Proofs.YthcpolfodgjekaaGreat
