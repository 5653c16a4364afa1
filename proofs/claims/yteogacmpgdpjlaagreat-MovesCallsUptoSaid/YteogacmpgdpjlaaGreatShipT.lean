/-
 When a ship is right: what the program says of any ship,and what the reference says.
-/
import Derived.Test.YteogacmpgdpjlaaGreatXP
import Derived.Test.YteogacmpgdpjlaaGreatLentM
set_option maxRecDepth 100000
set_option linter.unusedVariables false
namespace Go.Proofs.YteogacmpgdpjlaaGreat
open Go.RowKit

/-- A column is right. -/
structure ColR (c:G4):Prop where
 plugs:∀ p∈c.Plugs,0≤p∧p < c.Tiers
 sorted:c.Plugs.Pairwise (· < ·)
 place:0≤c.Bay∧c.Bay≤39∧0≤c.Row∧c.Row≤30∧1≤c.Tiers∧c.Tiers≤10∧0≤c.Height∧c.Height≤40000
 load:0≤c.Kilos20∧c.Kilos20≤500000000∧0≤c.Kilos40∧c.Kilos40≤500000000∧0≤c.Lash∧c.Lash≤1000000000000
 at_ : -500000≤c.X∧c.X≤500000 ∧ -500000≤c.Y∧c.Y≤500000 ∧ -500000≤c.Z∧c.Z≤500000
theorem Y1 {p:Prop} (h:¬ p):(false=true) ↔ p:=⟨fun e=>Bool.noConfusion e,fun hp=>(h hp).elim⟩
theorem wp_wrp {β:Type} {Q:β→Prop} {z:Int} {k:Int→Option β} (h:Wp (k (IntKind.i64.wrap z)) Q):Wp (wrp z k) Q:=h
theorem H1b {α:Type} {R:α→α→Prop} {l:List α} {x:α} (h:l.Pairwise R) (hx:∀ a∈l,R a x):(l++[x]).Pairwise R:=by
 rw [List.pairwise_append]
 refine⟨h,List.pairwise_singleton ..,fun a ha b hb=>?_⟩
 rw [List.mem_singleton] at hb; subst hb
 exact hx a ha
theorem Q1 {α:Type} {P:α→Prop} {l:List α} {x:α} (h1:∀ y∈l,P y) (h2:P x):∀ y∈l++[x],P y:=fun y hy=>by
 rcases List.mem_append.1 hy with hy | hy
 ·exact h1 y hy
 ·rw [List.mem_singleton.1 hy]; exact h2
/-- In a list in order the one before is less. -/
theorem H8b {pre:List Int} {y p:Int} (h:pre.Pairwise (· < ·)) (hp:pre[pre.length - 1]? = some p) (hy:p < y):∀ a∈pre,a < y:=by
 rcases List.eq_nil_or_concat pre with rfl | ⟨q,z,rfl⟩
 ·intro a ha; cases ha
 ·rw [List.concat_eq_append] at *
  have hz:z=p:=by
   rw [List.length_append,List.length_singleton,show q.length+1 - 1=q.length by omega] at hp
   simpa using hp
  subst hz
  intro a ha
  rcases List.mem_append.1 ha with ha | ha
  ·have:=(List.pairwise_append.1 h).2.2 a ha z (by simp)
   omega
  ·rw [List.mem_singleton.1 ha]; exact hy
theorem Jd4 (l:List Hw):G76 l=some (l.all (fun x=>decide (x.low≤x.n)&&decide (x.n≤x.high))):=by
 refine G38 ?_
 unfold G76
 refine Q3 (fun pre _=>pre.all (fun x=>decide (x.low≤x.n)&&decide (x.n≤x.high))=true) rfl (fun pre y post s nx e hI hnx=>Hm (fun h=>Gn ?_) (fun h=>hnx _ ?_)) (fun s hI=>Gn hI.symm)
 ·symm
  rw [List.all_eq_false]
  refine⟨y,by rw [e]; simp,?_⟩
  simp only [Bool.or_eq_true,decide_eq_true_eq] at h
  simp only [Bool.and_eq_true,decide_eq_true_eq]
  omega
 ·simp only [Bool.or_eq_false_iff,decide_eq_false_iff_not] at h
  rw [List.all_append,hI]
  simp only [List.all_cons,List.all_nil,Bool.and_true,Bool.true_and,Bool.and_eq_true,decide_eq_true_eq]
  omega
/-- The step of a list of numbers in order: the one before is looked at. -/
theorem Jff {pre post:List Int} {l:List Int} {y:Int} (e:l=pre++y::post) (hp:0 < pre.length):∃ p,l[pre.length - 1]? = some p∧pre[pre.length - 1]? = some p∧p∈pre:=by
 have h1:pre[pre.length - 1]? = some (pre[pre.length - 1]'(by omega)):=List.getElem?_eq_getElem (by omega)
 exact⟨_,by rw [e,List.getElem?_append_left (by omega)]; exact h1,h1,List.getElem_mem _⟩
theorem col_right (c:G4) (hl:c.Plugs.length≤1048576):Wp (Gb6 c) (fun r=>r=true ↔ ColR c):=by
 unfold Gb6
 have hw:1≤c.Tiers∧c.Tiers≤10→IntKind.i64.wrap (c.Tiers - 1)=c.Tiers - 1:=fun h=>Jf8 (by omega) (by omega)
 refine Q3 (fun pre _=>(∀ p∈pre,0≤p∧p≤IntKind.i64.wrap (c.Tiers - 1))∧pre.Pairwise (· < ·)) ⟨fun p hp=>(List.not_mem_nil hp).elim,List.Pairwise.nil⟩ (fun pre y post s nx e hI hnx=>?_) (fun s hI=>?_)
 ·obtain⟨hI1,hI2⟩:=hI
  have hym:y∈c.Plugs:=by rw [e]; simp
  have hpl:pre.length < c.Plugs.length:=by rw [e]; simp
  refine wp_wrp (Gy (Jd4 _) ?_)
  simp only [List.all_cons,List.all_nil,Bool.and_true]
  by_cases hy:0≤y∧y≤IntKind.i64.wrap (c.Tiers - 1)
  ·rw [decide_eq_true hy.1,decide_eq_true hy.2]
   simp only [Bool.and_self,Bool.not_true,Bool.not_false,Bool.true_and,Bool.false_or]
   by_cases hp:0 < pre.length
   ·obtain⟨p,hp1,hp2,hp3⟩:=Jff e hp
    have hwi:IntKind.i64.wrap ((pre.length:Int) - 1)=((pre.length - 1:Nat):Int):=by
     rw [Jf8 (by omega) (by omega)]; omega
    rw [decide_eq_true (by omega:0 < (pre.length:Int)),cond_true]
    refine Gy (congrArg some hwi) (Gy ((Qg hp1 some).trans rfl) ?_)
    simp only [Bool.true_and]
    refine Hm (fun h=>Gn (Y1 fun hc=>?_)) (fun h=>hnx _ ⟨Q1 hI1 hy,H1b hI2 (H8b hI2 hp2 (by have:=of_decide_eq_false h; omega))⟩)
    have:=of_decide_eq_true h
    have hs:=hc.sorted
    rw [e] at hs
    have:=(List.pairwise_append.1 hs).2.2 p hp3 y (by simp)
    omega
   ·have h0:pre=[]:=List.eq_nil_of_length_eq_zero (by omega)
    subst h0
    rw [decide_eq_false (by simp:¬ 0 < (([]:List Int).length:Int))]
    refine H5 (Gn (H5 (Gn ?_)))
    simp only [Bool.false_and,cond_false]
    exact hnx _ ⟨Q1 hI1 hy,by simp⟩
  ·have hf:(decide (0≤y)&&decide (y≤IntKind.i64.wrap (c.Tiers - 1)))=false:=by
    rw [Bool.and_eq_false_iff,decide_eq_false_iff_not,decide_eq_false_iff_not]
    omega
   rw [hf]
   simp only [Bool.not_false,Bool.not_true,Bool.false_and,cond_false,Bool.true_or,cond_true]
   refine H5 (Gn (H5 (Gn (Gn (Y1 fun hc=>hy ?_)))))
   have h1:=hc.plugs y hym
   have h2:=hc.place
   rw [hw (by omega)]
   omega
 ·obtain⟨hI1,hI2⟩:=hI
  refine Gy (Jd4 _) (Gn ?_)
  simp only [List.all_cons,List.all_nil,Bool.and_true,Bool.and_eq_true,decide_eq_true_eq]
  constructor
  ·rintro⟨a1,a2,a3,a4,a5,a6,a7,a8,a9,a10⟩
   have hw:=hw a3
   exact⟨fun p hp=>by have:=hI1 p hp; omega,hI2,by omega,by omega,by omega⟩
  ·intro h
   obtain⟨_,_,b1,b2,b3⟩:=h
   omega
theorem ref_col (c:G4) (hl:c.Plugs.length≤1048576):Wp (Zw c) (fun r=>r=true ↔ ColR c):=by
 unfold Zw
 refine Q3 (fun pre _=>(∀ p∈pre,0≤p∧p < c.Tiers)∧pre.Pairwise (· < ·)) ⟨fun p hp=>(List.not_mem_nil hp).elim,List.Pairwise.nil⟩ (fun pre y post s nx e hI hnx=>?_) (fun s hI=>?_)
 ·obtain⟨hI1,hI2⟩:=hI
  have hym:y∈c.Plugs:=by rw [e]; simp
  have hpl:pre.length < c.Plugs.length:=by rw [e]; simp
  refine Hm (fun h=>Gn (Y1 fun hc=>?_)) (fun h=>?_)
  ·simp only [Bool.or_eq_true,decide_eq_true_eq] at h
   have:=hc.plugs y hym
   omega
  ·simp only [Bool.or_eq_false_iff,decide_eq_false_iff_not] at h
   have hy:0≤y∧y < c.Tiers:=by omega
   by_cases hp:0 < pre.length
   ·obtain⟨p,hp1,hp2,hp3⟩:=Jff e hp
    rw [decide_eq_true (by omega:0 < (pre.length:Int)),cond_true]
    refine H5 (G1a ⟨by omega,by omega⟩ (Gn ?_))
    have hpi:(pre.length:Int) - 1=((pre.length - 1:Nat):Int):=by omega
    rw [hpi]
    refine Gy ((Qg hp1 some).trans rfl) ?_
    simp only [Bool.true_and]
    refine Hm (fun h=>Gn (Y1 fun hc=>?_)) (fun h=>hnx _ ⟨Q1 hI1 hy,H1b hI2 (H8b hI2 hp2 (by have:=of_decide_eq_false h; omega))⟩)
    have:=of_decide_eq_true h
    have hs:=hc.sorted
    rw [e] at hs
    have:=(List.pairwise_append.1 hs).2.2 p hp3 y (by simp)
    omega
   ·have h0:pre=[]:=List.eq_nil_of_length_eq_zero (by omega)
    subst h0
    rw [decide_eq_false (by simp:¬ 0 < (([]:List Int).length:Int))]
    refine H5 (Gn (H5 (Gn ?_)))
    simp only [Bool.false_and,cond_false]
    exact hnx _ ⟨Q1 hI1 hy,by simp⟩
 ·obtain⟨hI1,hI2⟩:=hI
  have hwi:∀ n a b:Int,J7 n a b=some (decide (a≤n)&&decide (n≤b)):=fun _ _ _=>rfl
  have cnd:∀ (b:Bool) (n a z:Int),∃ r,(bif b then J7 n a z else some default)=some r∧(b&&r)=(b&&(decide (a≤n)&&decide (n≤z))):=fun b n a z=>by
   cases b
   ·exact⟨_,rfl,rfl⟩
   ·exact⟨_,rfl,rfl⟩
  refine Gy (hwi _ _ _) ?_
  obtain⟨r1,e1,q1⟩:=cnd (decide (-500000≤c.X)&&decide (c.X≤500000)) c.Y (-500000) 500000
  refine Gy e1 ?_
  rw [q1]
  obtain⟨r2,e2,q2⟩:=cnd (decide (-500000≤c.X)&&decide (c.X≤500000)&&(decide (-500000≤c.Y)&&decide (c.Y≤500000))) c.Z (-500000) 500000
  refine Gy e2 (Gy (hwi _ _ _) ?_)
  rw [q2]
  obtain⟨r3,e3,q3⟩:=cnd (decide (0≤c.Kilos20)&&decide (c.Kilos20≤500000000)) c.Kilos40 0 500000000
  refine Gy e3 ?_
  rw [q3]
  obtain⟨r4,e4,q4⟩:=cnd (decide (0≤c.Kilos20)&&decide (c.Kilos20≤500000000)&&(decide (0≤c.Kilos40)&&decide (c.Kilos40≤500000000))) c.Lash 0 1000000000000
  refine Gy e4 (Gy (hwi _ _ _) ?_)
  rw [q4]
  obtain⟨r5,e5,q5⟩:=cnd (decide (0≤c.Bay)&&decide (c.Bay≤39)) c.Row 0 30
  refine Gy e5 ?_
  rw [q5]
  obtain⟨r6,e6,q6⟩:=cnd (decide (0≤c.Bay)&&decide (c.Bay≤39)&&(decide (0≤c.Row)&&decide (c.Row≤30))) c.Tiers 1 10
  refine Gy e6 ?_
  rw [q6]
  obtain⟨r7,e7,q7⟩:=cnd (decide (0≤c.Bay)&&decide (c.Bay≤39)&&(decide (0≤c.Row)&&decide (c.Row≤30))&&(decide (1≤c.Tiers)&&decide (c.Tiers≤10))) c.Height 0 40000
  refine Gy e7 ?_
  rw [q7]
  refine Gn ?_
  simp only [Bool.and_eq_true,decide_eq_true_eq]
  constructor
  ·rintro⟨⟨⟨⟨⟨a1,a2⟩,a3⟩,a4⟩,⟨b1,b2⟩,b3⟩,⟨d1,d2⟩,d3⟩
   exact⟨hI1,hI2,by omega,by omega,by omega⟩
  ·intro h
   obtain⟨_,_,b1,b2,b3⟩:=h
   omega

def dk (b:Bool):Int:=bif b then 1 else 0
def k3 (c:G4):Hn:=⟨c.Bay,c.Row,dk c.Deck⟩
def x3 (x:Ge):List Hn:=x.Rows.map fun r=>⟨x.Bay,r,2⟩
structure CovR (x:Ge):Prop where
 bay:0≤x.Bay∧x.Bay≤39
 some:x.Rows≠[]
 rows:∀ r∈x.Rows,0≤r∧r≤30
 sorted:x.Rows.Pairwise (· < ·)
/-- A ship is right. -/
structure H25 (s:H8):Prop where
 num:1≤s.Columns.length∧s.Columns.length≤200∧s.Covers.length≤40
 col:∀ c∈s.Columns,ColR c
 cov:∀ x∈s.Covers,CovR x
 nodup:(s.Columns.map k3++s.Covers.flatMap x3).Nodup
theorem put_l {κ:Type} [DecidableEq κ] {m:Hp κ Int} {l:List κ} (h:Hp.l m=tally l) (a:κ):Hp.l (Hp.put m a (Hp.get m a 0+1))=tally (l++[a]):=by
 rw [Hd8]
 show H04 (Hp.l m) a ((G72 (Hp.l m) a).getD 0+1)=_
 rw [h]
theorem get_b {κ:Type} [DecidableEq κ] {m:Hp κ Int} {l:List κ} (h:Hp.l m=tally l) (a:κ):0≤Hp.get m a 0∧Hp.get m a 0≤(l.length:Int):=by
 have:=tally_bound l a
 show 0≤(G72 (Hp.l m) a).getD 0∧_
 rw [h]
 exact⟨this.1,by show (G72 (Hp.l m) a).getD 0≤_; rw [h]; exact this.2⟩
theorem flat_len (l:List Ge) (h:∀ x∈l,x.Rows.length≤1048576):(l.flatMap x3).length≤1048576*l.length:=by
 induction l with
 | nil=>simp
 | cons x l ih=>
  have h1:=h x (List.mem_cons_self ..)
  have h2:=ih (fun y hy=>h y (List.mem_cons_of_mem _ hy))
  rw [List.flatMap_cons,List.length_append,List.length_cons]
  have:(x3 x).length=x.Rows.length:=by simp [x3]
  omega
theorem J61 (s:H8) (hp:∀ c∈s.Columns,c.Plugs.length≤1048576) (hr:∀ x∈s.Covers,x.Rows.length≤1048576):Wp (G29 s) (fun r=>r=true ↔ H25 s):=by
 unfold G29 H4e
 refine Hm (fun hc=>Gn (Y1 fun h=>?_)) (fun hc=>?_)
 ·have:=h.num
  simp only [Bool.or_eq_true,decide_eq_true_eq] at hc
  omega
 simp only [Bool.or_eq_false_iff,decide_eq_false_iff_not] at hc
 have hn:1≤s.Columns.length∧s.Columns.length≤200∧s.Covers.length≤40:=by omega
 refine Q3 (fun pre m=>Hp.l m=tally (pre.map k3)∧∀ c∈pre,ColR c) ⟨rfl,fun c hc=>(List.not_mem_nil hc).elim⟩ (fun pre y post m nx e hI hnx=>?_) (fun m hI=>?_)
 ·obtain⟨hI1,hI2⟩:=hI
  have hym:y∈s.Columns:=by rw [e]; simp
  have hpl:pre.length < s.Columns.length:=by rw [e]; simp
  refine G82 (fun j=>j=dk y.Deck) (fun K hK=>Hm (fun h=>hK _ (by rw [h]; rfl)) (fun h=>hK _ (by rw [h]; rfl))) (fun j hj=>?_)
  subst hj
  have hb:=get_b hI1 (k3 y)
  rw [List.length_map] at hb
  refine Gy (x:=Hp.get m (k3 y) 0) rfl (G1a ⟨by omega,by omega⟩ (H5 (wp_mono (col_right y (hp y hym)) (fun r hr=>Hm (fun h=>Gn (Y1 fun hs=>?_)) (fun h=>hnx _ ⟨?_,Q1 hI2 ?_⟩)))))
  ·rw [hr.2 (hs.col y hym)] at h; cases h
  ·rw [List.map_append]; exact put_l hI1 (k3 y)
  ·cases r with
   | true=>exact hr.1 rfl
   | false=>cases h
 obtain⟨hI1,hI2⟩:=hI
 refine Q3 (fun pre m=>Hp.l m=tally (s.Columns.map k3++pre.flatMap x3)∧∀ x∈pre,CovR x) ⟨by simpa using hI1,fun c hc=>(List.not_mem_nil hc).elim⟩ (fun pre y post m nx e hJ hnx=>?_) (fun m hJ=>?_)
 ·obtain⟨hJ1,hJ2⟩:=hJ
  have hym:y∈s.Covers:=by rw [e]; simp
  have hpl:pre.length < s.Covers.length:=by rw [e]; simp
  refine Hm (fun hc=>Gn (Y1 fun h=>?_)) (fun hc=>?_)
  ·have h1:=(h.cov y hym).bay
   have h2:=(h.cov y hym).some
   simp only [Bool.or_eq_true,decide_eq_true_eq] at hc
   have:y.Rows.length≠0:=fun h=>h2 (List.length_eq_zero_iff.1 h)
   omega
  simp only [Bool.or_eq_false_iff,decide_eq_false_iff_not] at hc
  have hne:y.Rows≠[]:=fun h=>by rw [h] at hc; simp at hc
  have hfl:=flat_len pre (fun x hx=>hr x (by rw [e]; exact List.mem_append.2 (.inl hx)))
  have hrl:=hr y hym
  refine Q3 (fun pr m=>Hp.l m=tally (s.Columns.map k3++pre.flatMap x3++pr.map (fun r=>(⟨y.Bay,r,2⟩:Hn)))∧(∀ r∈pr,0≤r∧r≤30)∧pr.Pairwise (· < ·)) ⟨by simpa using hJ1,fun c hc=>(List.not_mem_nil hc).elim,List.Pairwise.nil⟩ (fun pr r pos m nx' e' hK hnx'=>?_) (fun m hK=>hnx _ ⟨?_,Q1 hJ2 ⟨by omega,hne,hK.2.1,hK.2.2⟩⟩)
  ·obtain⟨hK1,hK2,hK3⟩:=hK
   have hrm:r∈y.Rows:=by rw [e']; simp
   have hprl:pr.length < y.Rows.length:=by rw [e']; simp
   have go:0≤r∧r≤30→(∀ a∈pr,a < r)→Wp (bnd (some (Hp.get m ⟨y.Bay,r,2⟩ 0)) fun v167=>Yn (v167+1) fun v168=>nx' (Hp.put m ⟨y.Bay,r,2⟩ v168)) (fun r=>r=true ↔ H25 s):=fun h1 h2=>by
    have hb:=get_b hK1 ⟨y.Bay,r,2⟩
    simp only [List.length_append,List.length_map] at hb
    refine H5 (Gn (G1a ⟨by omega,by omega⟩ (hnx' _ ⟨?_,Q1 hK2 h1,H1b hK3 h2⟩)))
    rw [List.map_append,← List.append_assoc]
    exact put_l hK1 ⟨y.Bay,r,2⟩
   by_cases hrr:0≤r∧r≤30
   ·have hok:(decide (r < 0)||decide (30 < r))=false:=by simp; omega
    simp only [hok,Bool.not_false,Bool.true_and,Bool.false_or]
    by_cases hp0:0 < pr.length
    ·obtain⟨p,hp1,hp2,hp3⟩:=Jff e' hp0
     rw [decide_eq_true (by omega:0 < (pr.length:Int)),cond_true]
     refine H5 (G1a ⟨by omega,by omega⟩ (Gn ?_))
     have hpi:(pr.length:Int) - 1=((pr.length - 1:Nat):Int):=by omega
     rw [hpi]
     refine Gy ((Qg hp1 some).trans rfl) ?_
     simp only [Bool.true_and]
     refine Hm (fun h=>Gn (Y1 fun hc=>?_)) (fun h=>go hrr (H8b hK3 hp2 (by have:=of_decide_eq_false h; omega)))
     have:=of_decide_eq_true h
     have hs:=(hc.cov y hym).sorted
     rw [e'] at hs
     have:=(List.pairwise_append.1 hs).2.2 p hp3 r (by simp)
     omega
    ·have h0:pr=[]:=List.eq_nil_of_length_eq_zero (by omega)
     subst h0
     rw [decide_eq_false (by simp:¬ 0 < (([]:List Int).length:Int))]
     refine H5 (Gn (H5 (Gn ?_)))
     simp only [Bool.false_and,cond_false]
     exact go hrr (fun a ha=>(List.not_mem_nil ha).elim)
   ·have hok:(decide (r < 0)||decide (30 < r))=true:=by simp; omega
    simp only [hok,Bool.not_true,Bool.false_and,cond_false,Bool.true_or,cond_true]
    exact H5 (Gn (H5 (Gn (Gn (Y1 fun hc=>hrr ((hc.cov y hym).rows r hrm))))))
  ·rw [List.flatMap_append,← List.append_assoc]
   simpa [x3] using hK.1
 ·obtain⟨hJ1,hJ2⟩:=hJ
  rw [J80 (c:=fun x:Hn×Int=>decide (1 < x.2))]
  refine Gn ?_
  have hiff:(Hp.l m).any (fun x=>decide (1 < x.2))=false ↔ (s.Columns.map k3++s.Covers.flatMap x3).Nodup:=by
   rw [← tally_le_one,hJ1,List.any_eq_false]
   constructor
   ·intro h j a n hj
    have:=h (a,n) (List.mem_of_getElem? hj)
    simp only [decide_eq_true_eq] at this
    omega
   ·intro h x hx
    obtain⟨j,hj⟩:=List.mem_iff_getElem?.1 hx
    have:=h j x.1 x.2 hj
    simp only [decide_eq_true_eq]
    omega
  cases hany:(Hp.l m).any (fun x=>decide (1 < x.2)) with
  | true=>
   refine Y1 fun h=>?_
   rw [hiff.2 h.nodup] at hany; cases hany
  | false=>exact⟨fun _=>⟨hn,hI2,hJ2,hiff.1 hany⟩,fun _=>rfl⟩

theorem Q3c (rows:List Int) (row:Int):Qi rows row=some (rows.any (fun r=>decide (r=row))):=by
 refine G38 ?_
 unfold Qi
 refine Q3 (fun pre _=>pre.any (fun r=>decide (r=row))=false) rfl (fun pre y post s nx e hI hnx=>Hm (fun h=>Gn ?_) (fun h=>hnx _ ?_)) (fun s hI=>Gn hI.symm)
 ·symm
  exact List.any_eq_true.2 ⟨y,by rw [e]; simp,h⟩
 ·rw [List.any_append,hI]
  simp only [List.any_cons,List.any_nil,Bool.or_false,Bool.false_or,h]
theorem Q37 {α:Type} {l:List α} {x:α} (h:l.Nodup) (hx:x ∉ l):(l++[x]).Nodup:=by
 rw [List.nodup_append]
 refine⟨h,by simp,fun a ha b hb=>?_⟩
 rw [List.mem_singleton.1 hb]
 exact fun e=>hx (e ▸ ha)
theorem k3_eq {a b:G4}:k3 a=k3 b ↔ a.Bay=b.Bay∧a.Row=b.Row∧a.Deck=b.Deck:=by
 unfold k3
 rw [Hn.mk.injEq]
 have:dk a.Deck=dk b.Deck ↔ a.Deck=b.Deck:=by cases a.Deck <;> cases b.Deck <;> decide
 rw [this]
theorem ref_right {F:Nat} (s:H8) (hp:∀ c∈s.Columns,c.Plugs.length≤1048576) (hr:∀ x∈s.Covers,x.Rows.length≤1048576):Wp (Y4 F s) (fun r=>r=true ↔ H25 s):=by
 unfold Y4
 refine Gy (x:=decide (1≤(s.Columns.length:Int))&&decide ((s.Columns.length:Int)≤200)) rfl (Hm (fun hc=>Gn (Y1 fun h=>?_)) (fun hc=>?_))
 ·have:=h.num
  simp only [Bool.or_eq_true,Bool.not_eq_true',Bool.and_eq_false_iff,decide_eq_true_eq,decide_eq_false_iff_not] at hc
  omega
 simp only [Bool.or_eq_false_iff,Bool.not_eq_false',Bool.and_eq_true,decide_eq_true_eq,decide_eq_false_iff_not] at hc
 have hn:1≤s.Columns.length∧s.Columns.length≤200∧s.Covers.length≤40:=by omega
 refine Q3 (fun pre _=>(pre.map k3).Nodup∧∀ c∈pre,ColR c) ⟨List.nodup_nil,fun c hc=>(List.not_mem_nil hc).elim⟩ (fun pre y post u nx e hI hnx=>?_) (fun u hI=>?_)
 ·obtain⟨hI1,hI2⟩:=hI
  have hym:y∈s.Columns:=by rw [e]; simp
  have hpl:pre.length < s.Columns.length:=by rw [e]; simp
  refine H5 (wp_mono (ref_col y (hp y hym)) (fun r hr=>Hm (fun h=>Gn (Y1 fun hs=>?_)) (fun h=>?_)))
  ·rw [hr.2 (hs.col y hym)] at h; cases h
  have hcy:ColR y:=by
   cases r with
   | true=>exact hr.1 rfl
   | false=>cases h
  refine Qy (decide_eq_true (by omega)) ?_
  rw [show (pre.length:Int).toNat=pre.length by omega]
  refine Gec (fun i _=>∀ (k:Nat) c,k < i→pre[k]? = some c→k3 c≠k3 y) (fun k c hk=>by omega) (fun i u nx2 hi hJ hnx2=>?_) (fun u hJ=>hnx _ ⟨?_,Q1 hI2 hcy⟩)
  ·have hx:pre[i]? = some (pre[i]'hi):=List.getElem?_eq_getElem hi
   have hsx:s.Columns[i]? = some (pre[i]'hi):=by rw [e,List.getElem?_append_left hi]; exact hx
   generalize pre[i]'hi=z at hx hsx
   rw [Qg hsx]
   have hcond:∃ b,(bif decide (z.Bay=y.Bay) then Jc s.Columns (i:Int) some else some default)=some b∧(decide (z.Bay=y.Bay)&&decide (b.Row=y.Row))=(decide (z.Bay=y.Bay)&&decide (z.Row=y.Row)):=by
    cases decide (z.Bay=y.Bay)
    ·exact⟨_,rfl,rfl⟩
    ·exact⟨z,Qg hsx some,rfl⟩
   obtain⟨b,e1,q1⟩:=hcond
   refine Gy e1 ?_
   rw [q1]
   have hcond:∃ b,(bif (decide (z.Bay=y.Bay)&&decide (z.Row=y.Row)) then Jc s.Columns (i:Int) some else some default)=some b∧((decide (z.Bay=y.Bay)&&decide (z.Row=y.Row))&&(b.Deck==y.Deck))=((decide (z.Bay=y.Bay)&&decide (z.Row=y.Row))&&(z.Deck==y.Deck)):=by
    cases (decide (z.Bay=y.Bay)&&decide (z.Row=y.Row))
    ·exact⟨_,rfl,rfl⟩
    ·exact⟨z,Qg hsx some,rfl⟩
   obtain⟨b2,e2,q2⟩:=hcond
   refine Gy e2 ?_
   rw [q2]
   have hk:((decide (z.Bay=y.Bay)&&decide (z.Row=y.Row))&&(z.Deck==y.Deck))=true ↔ k3 z=k3 y:=by
    rw [k3_eq]
    simp only [Bool.and_eq_true,decide_eq_true_eq,beq_iff_eq,and_assoc]
   refine Hm (fun h=>Gn (Y1 fun hs=>?_)) (fun h=>hnx2 _ (fun k c hk2 hc2=>?_))
   ·have h1:=hs.nodup
    rw [e,List.map_append] at h1
    have h2:=(List.nodup_append.1 (List.nodup_append.1 h1).1).2.2 (k3 z) (List.mem_map.2 ⟨z,List.mem_of_getElem? hx,rfl⟩) (k3 y) (by simp)
    exact h2 (hk.1 h)
   ·by_cases hki:k < i
    ·exact hJ k c hki hc2
    ·have:k=i:=by omega
     subst this
     rw [hx] at hc2
     cases hc2
     intro h3
     rw [hk.2 h3] at h; cases h
  ·rw [List.map_append]
   refine Q37 hI1 (fun hm=>?_)
   obtain⟨c,hc,h3⟩:=List.mem_map.1 hm
   obtain⟨k,hk⟩:=List.mem_iff_getElem?.1 hc
   exact hJ k c (List.getElem?_eq_some_iff.1 hk).1 hk h3
 obtain⟨hI1,hI2⟩:=hI
 refine Q3 (fun pre _=>(pre.flatMap x3).Nodup∧∀ x∈pre,CovR x) ⟨List.nodup_nil,fun c hc=>(List.not_mem_nil hc).elim⟩ (fun pre y post u nx e hJ hnx=>?_) (fun u hJ=>Gn ⟨fun _=>⟨hn,hI2,hJ.2,?_⟩,fun _=>rfl⟩)
 ·obtain⟨hJ1,hJ2⟩:=hJ
  have hym:y∈s.Covers:=by rw [e]; simp
  have hpl:pre.length < s.Covers.length:=by rw [e]; simp
  refine Gy (x:=decide (0≤y.Bay)&&decide (y.Bay≤39)) rfl (Hm (fun hc=>Gn (Y1 fun h=>?_)) (fun hc=>?_))
  ·have h1:=(h.cov y hym).bay
   have h2:=(h.cov y hym).some
   simp only [Bool.or_eq_true,Bool.not_eq_true',Bool.and_eq_false_iff,decide_eq_true_eq,decide_eq_false_iff_not] at hc
   have:y.Rows.length≠0:=fun h=>h2 (List.length_eq_zero_iff.1 h)
   omega
  simp only [Bool.or_eq_false_iff,Bool.not_eq_false',Bool.and_eq_true,decide_eq_true_eq,decide_eq_false_iff_not] at hc
  have hne:y.Rows≠[]:=fun h=>by rw [h] at hc; simp at hc
  refine Q3 (fun pr _=>(∀ r∈pr,0≤r∧r≤30)∧pr.Pairwise (· < ·)∧∀ r∈pr,(⟨y.Bay,r,2⟩:Hn) ∉ pre.flatMap x3) ⟨fun c hc=>(List.not_mem_nil hc).elim,List.Pairwise.nil,fun c hc=>(List.not_mem_nil hc).elim⟩ (fun pr r pos u nx' e' hK hnx'=>?_) (fun u hK=>hnx _ ⟨?_,Q1 hJ2 ⟨hc.1,hne,hK.1,hK.2.1⟩⟩)
  ·obtain⟨hK1,hK2,hK3⟩:=hK
   have hrm:r∈y.Rows:=by rw [e']; simp
   have hprl:pr.length < y.Rows.length:=by rw [e']; simp
   have hrl:=hr y hym
   refine Gy (x:=decide (0≤r)&&decide (r≤30)) rfl ?_
   have go:0≤r∧r≤30→(∀ a∈pr,a < r)→Wp (need (decide ((pre.length:Int)≤9223372036854775807)) <|
       upto (fun i84 (s84:Unit) nx84=>
        Jc s.Covers (i84:Int) fun y89=>
        bnd (bif decide (y89.Bay=y.Bay) then Jc s.Covers (i84:Int) some else some default) fun y91=>
        bnd (bif decide (y89.Bay=y.Bay) then Qi y91.Rows r else some default) fun r92=>
        bif ((decide (y89.Bay=y.Bay))&&r92) then
        (some false)
        else
        (nx84 ()))
       (fun(s84:Unit)=>
        nx' ()) (pre.length:Int).toNat 0 ()) (fun r=>r=true ↔ H25 s):=fun h1 h2=>by
    refine Qy (decide_eq_true (by omega)) ?_
    rw [show (pre.length:Int).toNat=pre.length by omega]
    refine Gec (fun i _=>∀ (k:Nat) x,k < i→pre[k]? = some x→(⟨y.Bay,r,2⟩:Hn) ∉ x3 x) (fun k c hk=>by omega) (fun i u nx2 hi hJ hnx2=>?_) (fun u hJ=>hnx' _ ⟨Q1 hK1 h1,H1b hK2 h2,Q1 hK3 (fun hm=>?_)⟩)
    ·have hx:pre[i]? = some (pre[i]'hi):=List.getElem?_eq_getElem hi
     have hsx:s.Covers[i]? = some (pre[i]'hi):=by rw [e,List.getElem?_append_left hi]; exact hx
     generalize pre[i]'hi=z at hx hsx
     rw [Qg hsx]
     have hcond:∃ b c,(bif decide (z.Bay=y.Bay) then Jc s.Covers (i:Int) some else some default)=some b∧(bif decide (z.Bay=y.Bay) then Qi b.Rows r else some default)=some c∧(decide (z.Bay=y.Bay)&&c)=(decide (z.Bay=y.Bay)&&z.Rows.any (fun q=>decide (q=r))):=by
      cases decide (z.Bay=y.Bay)
      ·exact⟨_,_,rfl,rfl,rfl⟩
      ·exact⟨z,_,Qg hsx some,Q3c _ _,rfl⟩
     obtain⟨b,c,e1,e2,q1⟩:=hcond
     refine Gy e1 (Gy e2 ?_)
     rw [q1]
     have hk:(decide (z.Bay=y.Bay)&&z.Rows.any (fun q=>decide (q=r)))=true ↔ (⟨y.Bay,r,2⟩:Hn)∈x3 z:=by
      unfold x3
      simp only [Bool.and_eq_true,decide_eq_true_eq,List.any_eq_true,List.mem_map,Hn.mk.injEq]
      constructor
      ·rintro⟨h1,q,h2,h3⟩; exact⟨q,h2,h1,h3,trivial⟩
      ·rintro⟨q,h2,h1,h3,_⟩; exact⟨h1,q,h2,h3⟩
     refine Hm (fun h=>Gn (Y1 fun hs=>?_)) (fun h=>hnx2 _ (fun k c hk2 hc2=>?_))
     ·have h1:=(List.nodup_append.1 hs.nodup).2.1
      rw [e,List.flatMap_append,List.flatMap_cons] at h1
      have h2:=(List.nodup_append.1 h1).2.2 ⟨y.Bay,r,2⟩ (List.mem_flatMap.2 ⟨z,List.mem_of_getElem? hx,hk.1 h⟩) ⟨y.Bay,r,2⟩ (List.mem_append.2 (.inl (List.mem_map.2 ⟨r,hrm,rfl⟩)))
      exact h2 rfl
     ·by_cases hki:k < i
      ·exact hJ k c hki hc2
      ·have:k=i:=by omega
       subst this
       rw [hx] at hc2
       cases hc2
       intro h3
       rw [hk.2 h3] at h; cases h
    ·obtain⟨x,hx,hm⟩:=List.mem_flatMap.1 hm
     obtain⟨k,hk⟩:=List.mem_iff_getElem?.1 hx
     exact hJ k x (List.getElem?_eq_some_iff.1 hk).1 hk hm
   by_cases hrr:0≤r∧r≤30
   ·have hok:(decide (0≤r)&&decide (r≤30))=true:=by simp; omega
    simp only [hok,Bool.not_true,Bool.not_false,Bool.true_and,Bool.false_or]
    by_cases hp0:0 < pr.length
    ·obtain⟨p,hp1,hp2,hp3⟩:=Jff e' hp0
     rw [decide_eq_true (by omega:0 < (pr.length:Int)),cond_true]
     refine H5 (G1a ⟨by omega,by omega⟩ (Gn ?_))
     have hpi:(pr.length:Int) - 1=((pr.length - 1:Nat):Int):=by omega
     rw [hpi]
     refine Gy ((Qg hp1 some).trans rfl) ?_
     simp only [Bool.true_and]
     refine Hm (fun h=>Gn (Y1 fun hc=>?_)) (fun h=>go hrr (H8b hK2 hp2 (by have:=of_decide_eq_false h; omega)))
     have:=of_decide_eq_true h
     have hs:=(hc.cov y hym).sorted
     rw [e'] at hs
     have:=(List.pairwise_append.1 hs).2.2 p hp3 r (by simp)
     omega
    ·have h0:pr=[]:=List.eq_nil_of_length_eq_zero (by omega)
     subst h0
     rw [decide_eq_false (by simp:¬ 0 < (([]:List Int).length:Int))]
     refine H5 (Gn (H5 (Gn ?_)))
     simp only [Bool.false_and,cond_false]
     exact go hrr (fun a ha=>(List.not_mem_nil ha).elim)
   ·have hok:(decide (0≤r)&&decide (r≤30))=false:=by
     rw [Bool.and_eq_false_iff,decide_eq_false_iff_not,decide_eq_false_iff_not]; omega
    simp only [hok,Bool.not_true,Bool.not_false,Bool.false_and,cond_false,Bool.true_or,cond_true]
    exact H5 (Gn (H5 (Gn (Gn (Y1 fun hc=>hrr ((hc.cov y hym).rows r hrm))))))
  ·rw [List.flatMap_append,List.flatMap_cons,List.flatMap_nil,List.append_nil]
   refine List.nodup_append.2 ⟨hJ1,?_,fun a ha b hb hab=>?_⟩
   ·refine List.pairwise_map.2 (hK.2.1.imp (fun {a b} h he=>?_))
    rw [Hn.mk.injEq] at he
    omega
   ·obtain⟨r,hr,rfl⟩:=List.mem_map.1 hb
    subst hab
    exact hK.2.2 r hr ha
 ·refine List.nodup_append.2 ⟨hI1,hJ.1,fun a ha b hb hab=>?_⟩
  obtain⟨c,_,rfl⟩:=List.mem_map.1 ha
  obtain⟨x,_,hb⟩:=List.mem_flatMap.1 hb
  obtain⟨r,_,rfl⟩:=List.mem_map.1 hb
  unfold k3 dk at hab
  rw [Hn.mk.injEq] at hab
  cases hd:c.Deck <;> rw [hd] at hab <;> simp at hab
end Go.Proofs.YteogacmpgdpjlaaGreat
