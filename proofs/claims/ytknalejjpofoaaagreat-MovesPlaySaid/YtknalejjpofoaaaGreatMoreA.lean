/-
 What the program says of a ship and of a state,and what has to be lifted.
-/
import Derived.Test.YtknalejjpofoaaaGreatXP
set_option linter.unusedVariables false
set_option maxRecDepth 100000
namespace Go.Proofs.YtknalejjpofoaaaGreat
open Go.RowKit
theorem Q63 {α γ:Type} {l:List α} {i:Nat} {y:α} (h:l[i]? = some y) (k:α→Option γ):Q9 l (i:Int) k=k y:=by
 unfold Q9
 rw [decide_eq_true (by omega:(0:Int)≤(i:Int)),cond_true,show (i:Int).toNat=i by omega,h]; rfl
structure ColR (c:G4):Prop where
 plugs:∀ p∈c.Plugs,0≤p∧p < c.Tiers
 sorted:c.Plugs.Pairwise (· < ·)
 place:0≤c.Bay∧c.Bay≤39∧0≤c.Row∧c.Row≤30∧1≤c.Tiers∧c.Tiers≤10∧0≤c.Height∧c.Height≤40000
 load:0≤c.Kilos20∧c.Kilos20≤500000000∧0≤c.Kilos40∧c.Kilos40≤500000000∧0≤c.Lash∧c.Lash≤1000000000000
 at_ : -500000≤c.X∧c.X≤500000 ∧ -500000≤c.Y∧c.Y≤500000 ∧ -500000≤c.Z∧c.Z≤500000
theorem H31 {p:Prop} (h:¬ p):(false=true) ↔ p:=⟨fun e=>Bool.noConfusion e,fun hp=>(h hp).elim⟩
theorem wp_wrp {β:Type} {Q:β→Prop} {z:Int} {k:Int→Option β} (h:Wp (k (IntKind.i64.wrap z)) Q):Wp (wrp z k) Q:=h
theorem pw_snoc {α:Type} {R:α→α→Prop} {l:List α} {x:α} (h:l.Pairwise R) (hx:∀ a∈l,R a x):(l++[x]).Pairwise R:=by
 rw [List.pairwise_append]
 refine⟨h,List.pairwise_singleton ..,fun a ha b hb=>?_⟩
 rw [List.mem_singleton] at hb; subst hb
 exact hx a ha
theorem H1f {α:Type} {P:α→Prop} {l:List α} {x:α} (h1:∀ y∈l,P y) (h2:P x):∀ y∈l++[x],P y:=fun y hy=>by
 rcases List.mem_append.1 hy with hy | hy
 ·exact h1 y hy
 ·rw [List.mem_singleton.1 hy]; exact h2
theorem Hc8 {pre:List Int} {y p:Int} (h:pre.Pairwise (· < ·)) (hp:pre[pre.length - 1]? = some p) (hy:p < y):∀ a∈pre,a < y:=by
 rcases List.eq_nil_or_concat pre with rfl | ⟨q,z,rfl⟩
 ·intro a ha; cases ha
 ·rw [List.concat_eq_append] at *
  have hz:z=p:=by
   rw [List.length_append,List.length_singleton,show q.length+1 - 1=q.length by omega] at hp
   simpa using hp
  subst hz
  intro a ha
  rcases List.mem_append.1 ha with ha | ha
  ·have:=(List.pairwise_append.1 h).2.2 a ha z (by simp)
   omega
  ·rw [List.mem_singleton.1 ha]; exact hy
theorem J9f (l:List Hg):G39 l=some (l.all (fun x=>decide (x.low≤x.n)&&decide (x.n≤x.high))):=by
 refine Yq ?_
 unfold G39
 refine J8 (fun pre _=>pre.all (fun x=>decide (x.low≤x.n)&&decide (x.n≤x.high))=true) rfl (fun pre y post s nx e hI hnx=>H7 (fun h=>Gn ?_) (fun h=>hnx _ ?_)) (fun s hI=>Gn hI.symm)
 ·symm
  rw [List.all_eq_false]
  refine⟨y,by rw [e]; simp,?_⟩
  simp only [Bool.or_eq_true,decide_eq_true_eq] at h
  simp only [Bool.and_eq_true,decide_eq_true_eq]
  omega
 ·simp only [Bool.or_eq_false_iff,decide_eq_false_iff_not] at h
  rw [List.all_append,hI]
  simp only [List.all_cons,List.all_nil,Bool.and_true,Bool.true_and,Bool.and_eq_true,decide_eq_true_eq]
  omega
theorem prev_at {pre post:List Int} {l:List Int} {y:Int} (e:l=pre++y::post) (hp:0 < pre.length):∃ p,l[pre.length - 1]? = some p∧pre[pre.length - 1]? = some p∧p∈pre:=by
 have h1:pre[pre.length - 1]? = some (pre[pre.length - 1]'(by omega)):=List.getElem?_eq_getElem (by omega)
 exact⟨_,by rw [e,List.getElem?_append_left (by omega)]; exact h1,h1,List.getElem_mem _⟩
theorem col_right (c:G4) (hl:c.Plugs.length≤1048576):Wp (G7c c) (fun r=>r=true ↔ ColR c):=by
 unfold G7c
 have hw:1≤c.Tiers∧c.Tiers≤10→IntKind.i64.wrap (c.Tiers - 1)=c.Tiers - 1:=fun h=>Jca (by omega) (by omega)
 refine J8 (fun pre _=>(∀ p∈pre,0≤p∧p≤IntKind.i64.wrap (c.Tiers - 1))∧pre.Pairwise (· < ·)) ⟨fun p hp=>(List.not_mem_nil hp).elim,List.Pairwise.nil⟩ (fun pre y post s nx e hI hnx=>?_) (fun s hI=>?_)
 ·obtain⟨hI1,hI2⟩:=hI
  have hym:y∈c.Plugs:=by rw [e]; simp
  have hpl:pre.length < c.Plugs.length:=by rw [e]; simp
  refine wp_wrp (Gu (J9f _) ?_)
  simp only [List.all_cons,List.all_nil,Bool.and_true]
  by_cases hy:0≤y∧y≤IntKind.i64.wrap (c.Tiers - 1)
  ·rw [decide_eq_true hy.1,decide_eq_true hy.2]
   simp only [Bool.and_self,Bool.not_true,Bool.not_false,Bool.true_and,Bool.false_or]
   by_cases hp:0 < pre.length
   ·obtain⟨p,hp1,hp2,hp3⟩:=prev_at e hp
    have hwi:IntKind.i64.wrap ((pre.length:Int) - 1)=((pre.length - 1:Nat):Int):=by
     rw [Jca (by omega) (by omega)]; omega
    rw [decide_eq_true (by omega:0 < (pre.length:Int)),cond_true]
    refine Gu (congrArg some hwi) (Gu ((Q63 hp1 some).trans rfl) ?_)
    simp only [Bool.true_and]
    refine H7 (fun h=>Gn (H31 fun hc=>?_)) (fun h=>hnx _ ⟨H1f hI1 hy,pw_snoc hI2 (Hc8 hI2 hp2 (by have:=of_decide_eq_false h; omega))⟩)
    have:=of_decide_eq_true h
    have hs:=hc.sorted
    rw [e] at hs
    have:=(List.pairwise_append.1 hs).2.2 p hp3 y (by simp)
    omega
   ·have h0:pre=[]:=List.eq_nil_of_length_eq_zero (by omega)
    subst h0
    rw [decide_eq_false (by simp:¬ 0 < (([]:List Int).length:Int))]
    refine H4 (Gn (H4 (Gn ?_)))
    simp only [Bool.false_and,cond_false]
    exact hnx _ ⟨H1f hI1 hy,by simp⟩
  ·have hf:(decide (0≤y)&&decide (y≤IntKind.i64.wrap (c.Tiers - 1)))=false:=by
    rw [Bool.and_eq_false_iff,decide_eq_false_iff_not,decide_eq_false_iff_not]
    omega
   rw [hf]
   simp only [Bool.not_false,Bool.not_true,Bool.false_and,cond_false,Bool.true_or,cond_true]
   refine H4 (Gn (H4 (Gn (Gn (H31 fun hc=>hy ?_)))))
   have h1:=hc.plugs y hym
   have h2:=hc.place
   rw [hw (by omega)]
   omega
 ·obtain⟨hI1,hI2⟩:=hI
  refine Gu (J9f _) (Gn ?_)
  simp only [List.all_cons,List.all_nil,Bool.and_true,Bool.and_eq_true,decide_eq_true_eq]
  constructor
  ·rintro⟨a1,a2,a3,a4,a5,a6,a7,a8,a9,a10⟩
   have hw:=hw a3
   exact⟨fun p hp=>by have:=hI1 p hp; omega,hI2,by omega,by omega,by omega⟩
  ·intro h
   obtain⟨_,_,b1,b2,b3⟩:=h
   omega
def dk (b:Bool):Int:=bif b then 1 else 0
def k3 (c:G4):Hc:=⟨c.Bay,c.Row,dk c.Deck⟩
def x3 (x:G9):List Hc:=x.Rows.map fun r=>⟨x.Bay,r,2⟩
structure CovR (x:G9):Prop where
 bay:0≤x.Bay∧x.Bay≤39
 some:x.Rows≠[]
 rows:∀ r∈x.Rows,0≤r∧r≤30
 sorted:x.Rows.Pairwise (· < ·)
structure J16 (s:Gw):Prop where
 num:1≤s.Columns.length∧s.Columns.length≤200∧s.Covers.length≤40
 col:∀ c∈s.Columns,ColR c
 cov:∀ x∈s.Covers,CovR x
 nodup:(s.Columns.map k3++s.Covers.flatMap x3).Nodup
theorem put_l {κ:Type} [DecidableEq κ] {m:H0 κ Int} {l:List κ} (h:H0.l m=tally l) (a:κ):H0.l (H0.put m a (H0.get m a 0+1))=tally (l++[a]):=by
 rw [H9b]
 show Gf2 (H0.l m) a ((G5a (H0.l m) a).getD 0+1)=_
 rw [h]
theorem get_b {κ:Type} [DecidableEq κ] {m:H0 κ Int} {l:List κ} (h:H0.l m=tally l) (a:κ):0≤H0.get m a 0∧H0.get m a 0≤(l.length:Int):=by
 have:=tally_bound l a
 show 0≤(G5a (H0.l m) a).getD 0∧_
 rw [h]
 exact⟨this.1,by show (G5a (H0.l m) a).getD 0≤_; rw [h]; exact this.2⟩
theorem flat_len (l:List G9) (h:∀ x∈l,x.Rows.length≤1048576):(l.flatMap x3).length≤1048576*l.length:=by
 induction l with
 | nil=>simp
 | cons x l ih=>
  have h1:=h x (List.mem_cons_self ..)
  have h2:=ih (fun y hy=>h y (List.mem_cons_of_mem _ hy))
  rw [List.flatMap_cons,List.length_append,List.length_cons]
  have:(x3 x).length=x.Rows.length:=by simp [x3]
  omega
theorem Q06 (s:Gw) (hp:∀ c∈s.Columns,c.Plugs.length≤1048576) (hr:∀ x∈s.Covers,x.Rows.length≤1048576):Wp (Z7 s) (fun r=>r=true ↔ J16 s):=by
 unfold Z7 H1b
 refine H7 (fun hc=>Gn (H31 fun h=>?_)) (fun hc=>?_)
 ·have:=h.num
  simp only [Bool.or_eq_true,decide_eq_true_eq] at hc
  omega
 simp only [Bool.or_eq_false_iff,decide_eq_false_iff_not] at hc
 have hn:1≤s.Columns.length∧s.Columns.length≤200∧s.Covers.length≤40:=by omega
 refine J8 (fun pre m=>H0.l m=tally (pre.map k3)∧∀ c∈pre,ColR c) ⟨rfl,fun c hc=>(List.not_mem_nil hc).elim⟩ (fun pre y post m nx e hI hnx=>?_) (fun m hI=>?_)
 ·obtain⟨hI1,hI2⟩:=hI
  have hym:y∈s.Columns:=by rw [e]; simp
  have hpl:pre.length < s.Columns.length:=by rw [e]; simp
  refine Zt (fun j=>j=dk y.Deck) (fun K hK=>H7 (fun h=>hK _ (by rw [h]; rfl)) (fun h=>hK _ (by rw [h]; rfl))) (fun j hj=>?_)
  subst hj
  have hb:=get_b hI1 (k3 y)
  rw [List.length_map] at hb
  refine Gu (x:=H0.get m (k3 y) 0) rfl (Qb ⟨by omega,by omega⟩ (H4 (wp_mono (col_right y (hp y hym)) (fun r hr=>H7 (fun h=>Gn (H31 fun hs=>?_)) (fun h=>hnx _ ⟨?_,H1f hI2 ?_⟩)))))
  ·rw [hr.2 (hs.col y hym)] at h; cases h
  ·rw [List.map_append]; exact put_l hI1 (k3 y)
  ·cases r with
   | true=>exact hr.1 rfl
   | false=>cases h
 obtain⟨hI1,hI2⟩:=hI
 refine J8 (fun pre m=>H0.l m=tally (s.Columns.map k3++pre.flatMap x3)∧∀ x∈pre,CovR x) ⟨by simpa using hI1,fun c hc=>(List.not_mem_nil hc).elim⟩ (fun pre y post m nx e hJ hnx=>?_) (fun m hJ=>?_)
 ·obtain⟨hJ1,hJ2⟩:=hJ
  have hym:y∈s.Covers:=by rw [e]; simp
  have hpl:pre.length < s.Covers.length:=by rw [e]; simp
  refine H7 (fun hc=>Gn (H31 fun h=>?_)) (fun hc=>?_)
  ·have h1:=(h.cov y hym).bay
   have h2:=(h.cov y hym).some
   simp only [Bool.or_eq_true,decide_eq_true_eq] at hc
   have:y.Rows.length≠0:=fun h=>h2 (List.length_eq_zero_iff.1 h)
   omega
  simp only [Bool.or_eq_false_iff,decide_eq_false_iff_not] at hc
  have hne:y.Rows≠[]:=fun h=>by rw [h] at hc; simp at hc
  have hfl:=flat_len pre (fun x hx=>hr x (by rw [e]; exact List.mem_append.2 (.inl hx)))
  have hrl:=hr y hym
  refine J8 (fun pr m=>H0.l m=tally (s.Columns.map k3++pre.flatMap x3++pr.map (fun r=>(⟨y.Bay,r,2⟩:Hc)))∧(∀ r∈pr,0≤r∧r≤30)∧pr.Pairwise (· < ·)) ⟨by simpa using hJ1,fun c hc=>(List.not_mem_nil hc).elim,List.Pairwise.nil⟩ (fun pr r pos m nx' e' hK hnx'=>?_) (fun m hK=>hnx _ ⟨?_,H1f hJ2 ⟨by omega,hne,hK.2.1,hK.2.2⟩⟩)
  ·obtain⟨hK1,hK2,hK3⟩:=hK
   have hrm:r∈y.Rows:=by rw [e']; simp
   have hprl:pr.length < y.Rows.length:=by rw [e']; simp
   have go:0≤r∧r≤30→(∀ a∈pr,a < r)→Wp (bnd (some (H0.get m ⟨y.Bay,r,2⟩ 0)) fun v167=>Rc (v167+1) fun v168=>nx' (H0.put m ⟨y.Bay,r,2⟩ v168)) (fun r=>r=true ↔ J16 s):=fun h1 h2=>by
    have hb:=get_b hK1 ⟨y.Bay,r,2⟩
    simp only [List.length_append,List.length_map] at hb
    refine H4 (Gn (Qb ⟨by omega,by omega⟩ (hnx' _ ⟨?_,H1f hK2 h1,pw_snoc hK3 h2⟩)))
    rw [List.map_append,← List.append_assoc]
    exact put_l hK1 ⟨y.Bay,r,2⟩
   by_cases hrr:0≤r∧r≤30
   ·have hok:(decide (r < 0)||decide (30 < r))=false:=by simp; omega
    simp only [hok,Bool.not_false,Bool.true_and,Bool.false_or]
    by_cases hp0:0 < pr.length
    ·obtain⟨p,hp1,hp2,hp3⟩:=prev_at e' hp0
     rw [decide_eq_true (by omega:0 < (pr.length:Int)),cond_true]
     refine H4 (Qb ⟨by omega,by omega⟩ (Gn ?_))
     have hpi:(pr.length:Int) - 1=((pr.length - 1:Nat):Int):=by omega
     rw [hpi]
     refine Gu ((Q63 hp1 some).trans rfl) ?_
     simp only [Bool.true_and]
     refine H7 (fun h=>Gn (H31 fun hc=>?_)) (fun h=>go hrr (Hc8 hK3 hp2 (by have:=of_decide_eq_false h; omega)))
     have:=of_decide_eq_true h
     have hs:=(hc.cov y hym).sorted
     rw [e'] at hs
     have:=(List.pairwise_append.1 hs).2.2 p hp3 r (by simp)
     omega
    ·have h0:pr=[]:=List.eq_nil_of_length_eq_zero (by omega)
     subst h0
     rw [decide_eq_false (by simp:¬ 0 < (([]:List Int).length:Int))]
     refine H4 (Gn (H4 (Gn ?_)))
     simp only [Bool.false_and,cond_false]
     exact go hrr (fun a ha=>(List.not_mem_nil ha).elim)
   ·have hok:(decide (r < 0)||decide (30 < r))=true:=by simp; omega
    simp only [hok,Bool.not_true,Bool.false_and,cond_false,Bool.true_or,cond_true]
    exact H4 (Gn (H4 (Gn (Gn (H31 fun hc=>hrr ((hc.cov y hym).rows r hrm))))))
  ·rw [List.flatMap_append,← List.append_assoc]
   simpa [x3] using hK.1
 ·obtain⟨hJ1,hJ2⟩:=hJ
  rw [J4e (c:=fun x:Hc×Int=>decide (1 < x.2))]
  refine Gn ?_
  have hiff:(H0.l m).any (fun x=>decide (1 < x.2))=false ↔ (s.Columns.map k3++s.Covers.flatMap x3).Nodup:=by
   rw [← tally_le_one,hJ1,List.any_eq_false]
   constructor
   ·intro h j a n hj
    have:=h (a,n) (List.mem_of_getElem? hj)
    simp only [decide_eq_true_eq] at this
    omega
   ·intro h x hx
    obtain⟨j,hj⟩:=List.mem_iff_getElem?.1 hx
    have:=h j x.1 x.2 hj
    simp only [decide_eq_true_eq]
    omega
  cases hany:(H0.l m).any (fun x=>decide (1 < x.2)) with
  | true=>
   refine H31 fun h=>?_
   rw [hiff.2 h.nodup] at hany; cases hany
  | false=>exact⟨fun _=>⟨hn,hI2,hJ2,hiff.1 hany⟩,fun _=>rfl⟩
theorem Z5 {n k:Nat} (hn:n≤1000001) (hk:k≤1000):decide (n*k≤140737488355328∧n≤maxLen)=true:=by
 have h:n*k≤1000001*1000:=Nat.mul_le_mul hn hk
 have h2:n≤maxLen:=Nat.le_trans hn (by decide)
 exact decide_eq_true ⟨by omega,h2⟩
theorem H3c {α β:Type} {x:α} {k:α→Option β}:bnd (some x) k=k x:=rfl
def J34 {α:Type} (p:α→Bool) (l:List α):Int:=match l.findIdx? p with
 | some j=>(j:Int)
 | none => -1
theorem H3b {α:Type} {p:α→Bool} {f:α→Option Bool} {xs:List α} (hf:∀ x∈xs,f x=some (p x)) :
  each (fun y i (_:Unit) nx=>bnd (f y) fun r=>bif r then some (i:Int) else nx ()) (fun _=>some (-1)) xs 0 ()=some (J34 p xs):=by
 have key:∀ (xs:List α),(∀ x∈xs,f x=some (p x))→∀ i:Nat,each (fun y i (_:Unit) nx=>bnd (f y) fun r=>bif r then some (i:Int) else nx ()) (fun _=>some (-1)) xs i ()=some (match xs.findIdx? p with
  | some j=>((i+j:Nat):Int)
  | none => -1):=by
  intro xs
  induction xs with
  | nil=>intro _ i; rfl
  | cons x xs ih=>
   intro hf i
   rw [each,hf x (List.mem_cons_self ..),H3c,List.findIdx?_cons]
   cases p x with
   | true=>simp
   | false=>
    simp only [cond_false]
    rw [ih (fun y hy=>hf y (List.mem_cons_of_mem _ hy)) (i+1)]
    cases xs.findIdx? p with
    | none=>simp
    | some j=>show some (((i+1+j:Nat)):Int)=some (((i+(j+1):Nat)):Int); rw [show i+1+j=i+(j+1) by omega]
 rw [key xs hf 0]
 unfold J34
 cases xs.findIdx? p <;> simp
theorem G49 {α:Type} (p:α→Bool) (l:List α):(J34 p l = -1∧(∀ x∈l,p x=false)∧l.find? p=none)∨∃ (m:Nat) (x:α),J34 p l=(m:Int)∧l[m]? = some x∧p x=true∧l.find? p=some x:=by
 unfold J34
 cases h:l.findIdx? p with
 | none=>
  have:=List.findIdx?_eq_none_iff.1 h
  exact .inl ⟨rfl,this,List.find?_eq_none.2 (fun x hx=>by rw [this x hx]; simp)⟩
 | some j=>
  obtain⟨hj,h1,h2⟩:=List.findIdx?_eq_some_iff_getElem.1 h
  refine .inr ⟨j,l[j],rfl,by simp [hj],h1,?_⟩
  refine List.find?_eq_some_iff_getElem.2 ⟨h1,j,hj,rfl,fun k hk=>?_⟩
  simpa using h2 k hk
theorem H5a {α:Type} {p:α→Bool} {l:List α}:decide (0≤J34 p l)=l.any p:=by
 rcases G49 p l with ⟨h1,h2,_⟩ | ⟨m,x,h1,h2,h3,_⟩
 ·rw [h1]
  refine Eq.symm (List.any_eq_false.2 fun x hx=>?_)
  rw [h2 x hx]; exact Bool.false_ne_true
 ·rw [h1,decide_eq_true (by omega)]
  exact(List.any_eq_true.2 ⟨x,List.mem_of_getElem? h2,h3⟩).symm
def G31 (boxes:List Gd) (id:Int):Option Gd:=boxes.find? (fun b=>decide (b.ID=id))
theorem J73 (boxes:List Gd) (id:Int):G67 boxes id=some (match G31 boxes id with
  | some b=>(b,true)
  | none=>(Gd.mk 0 ByteArray.empty 0 false 0 0 0 0 false,false)):=by
 unfold G67
 have h:Yw boxes (fun z0=>G91 z0 id)=some (J34 (fun b:Gd=>decide (b.ID=id)) boxes):=H3b (fun x _=>rfl)
 rw [h]
 simp only [H3c]
 unfold G31
 rcases G49 (fun b:Gd=>decide (b.ID=id)) boxes with ⟨h1,_,h3⟩ | ⟨m,x,h1,h2,_,h4⟩
 ·rw [h1,h3]; rfl
 ·rw [h1,h4,decide_eq_false (by omega),cond_false]
  unfold Q9
  rw [decide_eq_true (by omega),cond_true,show (m:Int).toNat=m by omega,h2]
  rfl
def Hd1 (l:List Stowed) (id:Int):Option Stowed:=l.find? (fun x=>decide (x.Gd=id))
def H5b (size:Int):List Int:=if size=40 then [0] else if size=20 then [1,2] else []
theorem J9a (size:Int):G2c size=some (H5b size):=by
 unfold G2c H5b
 by_cases h:size=40
 ·simp [h]
 ·by_cases h2:size=20
  ·simp [h2]
  ·simp [h,h2]
theorem contains8 (l:List Int) (v:Int):Y7 l v=some (l.any (fun y=>decide (v=y))):=by
 unfold Y7
 have h:Zg l v=some (J34 (fun y=>decide (v=y)) l):=by
  unfold Zg
  exact H3b (f:=fun y=>some (decide (v=y))) (fun x _=>rfl)
 rw [h]
 simp only [H3c]
 rw [H5a]
theorem containsSlot (l:List Slot) (v:Slot):Rh l v=some (l.any (fun y=>decide (v=y))):=by
 unfold Rh
 have h:Yk l v=some (J34 (fun y=>decide (v=y)) l):=by
  unfold Yk
  exact H3b (f:=fun y=>some (decide (v=y))) (fun x _=>rfl)
 rw [h]
 simp only [H3c]
 rw [H5a]
structure G65 (s:Gw) (x:Slot) (size:Int):Prop where
 col:∃ (m:Nat) (c:G4),x.G4=(m:Int)∧s.Columns[m]? = some c∧x.Tier < c.Tiers
 tier:0≤x.Tier
 half:x.Half∈H5b size
theorem Q05 (s:Gw) (x:Slot) (size:Int):Wp (G7b s x size) (fun r=>r=true ↔ G65 s x size):=by
 unfold G7b
 by_cases h0:0≤x.G4∧x.G4 < (s.Columns.length:Int)
 ·by_cases h1:0≤x.Tier
  ·obtain⟨m,hm⟩:∃ m:Nat,x.G4=(m:Int):=⟨x.G4.toNat,by omega⟩
   have hml:m < s.Columns.length:=by omega
   have hc:s.Columns[m]? = some s.Columns[m]:=by simp [hml]
   have e:(((decide (0≤x.G4))&&(decide (x.G4 < (s.Columns.length:Int))))&&(decide (0≤x.Tier)))=true:=by simp [h0.1,h0.2,h1]
   simp only [e,cond_true,Bool.true_and]
   refine H4 (Y9 hm hc (Gn ?_))
   by_cases h2:x.Tier < (s.Columns[m]).Tiers
   ·rw [decide_eq_true h2]
    simp only [cond_true]
    refine Gu (J9a size) (Gu (contains8 _ _) (Gn ?_))
    rw [Bool.true_and,List.any_eq_true]
    constructor
    ·rintro⟨y,hy,he⟩
     have:=of_decide_eq_true he
     subst this
     exact⟨⟨m,_,hm,hc,h2⟩,h1,hy⟩
    ·exact fun h=>⟨_,h.half,by simp⟩
   ·rw [decide_eq_false h2]
    simp only [cond_false,Bool.false_and]
    refine H4 (Gn (H4 (Gn (Gn ⟨fun h=>(by cases h),fun h=>?_⟩))))
    obtain⟨m',c,g1,g2,g3⟩:=h.col
    have:m'=m:=by omega
    subst this
    rw [hc] at g2; cases g2
    exact(h2 g3).elim
  ·simp only [decide_eq_false h1,Bool.and_false,cond_false,Bool.false_and]
   exact H4 (Gn (H4 (Gn (H4 (Gn (Gn ⟨fun h=>(by cases h),fun h=>(h1 h.tier).elim⟩))))))
 ·have e:((decide (0≤x.G4))&&(decide (x.G4 < (s.Columns.length:Int))))=false:=by
   by_cases h:0≤x.G4
   ·have:¬ x.G4 < (s.Columns.length:Int):=fun g=>h0 ⟨h,g⟩
    simp [this]
   ·simp [h]
  simp only [e,Bool.false_and,cond_false]
  refine H4 (Gn (H4 (Gn (H4 (Gn (Gn ⟨fun h=>(by cases h),fun h=>?_⟩))))))
  obtain⟨m,c,g1,g2,_⟩:=h.col
  have:=(List.getElem?_eq_some_iff.1 g2).1
  exact(h0 (by omega)).elim
def below (l:List Slot) (x:Slot) (half:Int):Prop:=(⟨x.G4,x.Tier - 1,half⟩:Slot)∈l
def H63 (x:Slot) (l:List Slot):Prop:=x.Tier≤0∨below l x x.Half∨(x.Half=0∧below l x 1∧below l x 2)
theorem J29 (half:Int) (l:List Slot) (x:Slot) (ht : -1000000≤x.Tier∧x.Tier≤1000000):Wp (G2d half l x) (fun r=>r=true ↔ below l x half):=by
 unfold G2d
 refine Qb ⟨by omega,by omega⟩ (Gu (containsSlot _ _) (Gn ?_))
 rw [List.any_eq_true]
 constructor
 ·rintro⟨y,hy,he⟩
  have:=of_decide_eq_true he
  subst this
  exact hy
 ·exact fun h=>⟨_,h,by simp⟩
theorem slot_held (x:Slot) (l:List Slot) (ht : -1000000≤x.Tier∧x.Tier≤1000000):Wp (Gb0 x l) (fun r=>r=true ↔ H63 x l):=by
 unfold Gb0 H63
 refine H7 (fun h=>Gn ⟨fun _=>.inl (of_decide_eq_true h),fun _=>rfl⟩) (fun h=>?_)
 have h0:=of_decide_eq_false h
 refine H4 (wp_mono (J29 x.Half l x ht) (fun r7 h7=>?_))
 cases r7 with
 | true=>
  simp only [Bool.not_true,Bool.false_and,cond_false,Bool.true_or]
  exact H4 (Gn (H4 (Gn (Gn ⟨fun _=>.inr (.inl (h7.1 rfl)),fun _=>rfl⟩))))
 | false=>
  have h7':¬ below l x x.Half:=fun h=>by have:=h7.2 h; cases this
  simp only [Bool.not_false,Bool.true_and,Bool.false_or]
  by_cases hh:x.Half=0
  ·rw [decide_eq_true hh]
   simp only [cond_true,Bool.true_and]
   refine H4 (wp_mono (J29 1 l x ht) (fun r8 h8=>?_))
   cases r8 with
   | true=>
    simp only [cond_true,Bool.true_and]
    refine H4 (wp_mono (J29 2 l x ht) (fun r9 h9=>Gn ⟨fun h=>.inr (.inr ⟨hh,h8.1 rfl,h9.1 h⟩),fun h=>?_⟩))
    rcases h with h | h | ⟨_,_,h⟩
    ·exact(h0 h).elim
    ·exact(h7' h).elim
    ·exact h9.2 h
   | false=>
    simp only [cond_false,Bool.false_and]
    refine H4 (Gn (Gn ⟨fun h=>(by cases h),fun h=>?_⟩))
    rcases h with h | h | ⟨_,h,_⟩
    ·exact(h0 h).elim
    ·exact(h7' h).elim
    ·have:=h8.2 h; cases this
  ·rw [decide_eq_false hh]
   simp only [cond_false,Bool.false_and]
   refine H4 (Gn (H4 (Gn (Gn ⟨fun h=>(by cases h),fun h=>?_⟩))))
   rcases h with h | h | ⟨h,_⟩
   ·exact(h0 h).elim
   ·exact(h7' h).elim
   ·exact(hh h).elim
def Ge6 (a b:Int):Prop:=a=b∨a=0∨b=0
theorem J99 (a b:Int):Wp (G58 a b) (fun r=>r=true ↔ Ge6 a b):=by
 unfold G58 Ge6
 refine Gn ?_
 simp [or_assoc]
def H5f (a b:Slot):Prop:=a.G4=b.G4∧a.Tier=b.Tier∧Ge6 a.Half b.Half
theorem slot_meet (a b:Slot):Wp (Gaf a b) (fun r=>r=true ↔ H5f a b):=by
 unfold Gaf H5f
 by_cases h:a.G4=b.G4∧a.Tier=b.Tier
 ·simp only [decide_eq_true h.1,decide_eq_true h.2,Bool.and_self,cond_true,Bool.true_and]
  exact H4 (wp_mono (J99 _ _) (fun r hr=>Gn ⟨fun e=>⟨h.1,h.2,hr.1 e⟩,fun e=>hr.2 e.2.2⟩))
 ·have e:(decide (a.G4=b.G4)&&decide (a.Tier=b.Tier))=false:=by
   by_cases h1:a.G4=b.G4
   ·have:¬ a.Tier=b.Tier:=fun h2=>h ⟨h1,h2⟩
    simp [this]
   ·simp [h1]
  simp only [e,cond_false,Bool.false_and]
  exact H4 (Gn (Gn ⟨fun e=>(by cases e),fun e=>(h ⟨e.1,e.2.1⟩).elim⟩))
def Gc1 (a b:Slot):Prop:=a.G4=b.G4∧b.Tier < a.Tier∧Ge6 a.Half b.Half
theorem J74 (a b:Slot):Wp (Gae a b) (fun r=>r=true ↔ Gc1 a b):=by
 unfold Gae Gc1
 by_cases h:a.G4=b.G4∧b.Tier < a.Tier
 ·simp only [decide_eq_true h.1,decide_eq_true h.2,Bool.and_self,cond_true,Bool.true_and]
  exact H4 (wp_mono (J99 _ _) (fun r hr=>Gn ⟨fun e=>⟨h.1,h.2,hr.1 e⟩,fun e=>hr.2 e.2.2⟩))
 ·have e:(decide (a.G4=b.G4)&&decide (b.Tier < a.Tier))=false:=by
   by_cases h1:a.G4=b.G4
   ·have:¬ b.Tier < a.Tier:=fun h2=>h ⟨h1,h2⟩
    simp [this]
   ·simp [h1]
  simp only [e,cond_false,Bool.false_and]
  exact H4 (Gn (Gn ⟨fun e=>(by cases e),fun e=>(h ⟨e.1,e.2.1⟩).elim⟩))
def tallI (b:Gd):Int:=if b.High then 2896 else 2591
def Gcf (boxes:List Gd) (column half:Int) (n:Int) (x:Stowed):Int:=
 if x.Slot.G4=column∧(x.Slot.Half=half∨x.Slot.Half=0) then (match G31 boxes x.Gd with | some b=>n+tallI b | none=>n) else n
def G4a (boxes:List Gd) (l:List Stowed) (column half:Int):Int:=l.foldl (Gcf boxes column half) 0
theorem Jcf {boxes:List Gd} {column half n:Int} {x:Stowed}:n≤Gcf boxes column half n x∧Gcf boxes column half n x≤n+2896:=by
 unfold Gcf tallI
 split
 ·split
  ·split <;> omega
  ·omega
 ·omega
theorem J97 (boxes:List Gd) (l:List Stowed) (column half:Int) (hl:l.length≤1000000):G57 boxes l column half=some (G4a boxes l column half):=by
 refine Yq ?_
 unfold G57 G4a
 refine J8 (fun pre n=>n=pre.foldl (Gcf boxes column half) 0∧0≤n∧n≤2896*pre.length) ⟨rfl,Int.le_refl _,by simp⟩ (fun pre y post n nx e hn hnx=>?_) (fun n hn=>Gn hn.1)
 obtain⟨rfl,h1,h2⟩:=hn
 have hp:pre.length+1≤l.length:=by rw [e]; simp
 have ha:=Jcf (boxes:=boxes) (column:=column) (half:=half) (n:=pre.foldl (Gcf boxes column half) 0) (x:=y)
 have hlen:((pre++[y]).length:Int)=pre.length+1:=by simp
 generalize hg:pre.foldl (Gcf boxes column half) 0=n at *
 refine Zt (fun j=>j=Gcf boxes column half n y) (fun K hK=>?_) (fun j hj=>hnx _ ⟨by rw [hj,List.foldl_append,hg]; rfl,by omega,by rw [hlen]; omega⟩)
 refine H7 (fun hc=>?_) (fun hc=>hK _ ?_)
 ·have hc':y.Slot.G4=column∧(y.Slot.Half=half∨y.Slot.Half=0):=by simpa using hc
  refine Gu (J73 boxes y.Gd) ?_
  cases hf:G31 boxes y.Gd with
  | none=>exact H7 (fun h=>by cases h) (fun _=>hK _ (by unfold Gcf; rw [if_pos hc',hf]))
  | some b=>
   refine H7 (fun _=>?_) (fun h=>by cases h)
   have ht:Gf9 b=some (tallI b):=by unfold Gf9 tallI; cases b.High <;> rfl
   have hadd:Gcf boxes column half n y=n+tallI b:=by unfold Gcf; rw [if_pos hc',hf]
   refine Gu ht (Qb ?_ (hK _ hadd.symm))
   rw [← hadd]
   omega
 ·have hc':¬ (y.Slot.G4=column∧(y.Slot.Half=half∨y.Slot.Half=0)):=by simpa using hc
  unfold Gcf; rw [if_neg hc']
def He7 (boxes:List Gd) (l:List Stowed) (m:Nat) (c:G4):Prop:=c.Height≤0∨(G4a boxes l m 1≤c.Height∧G4a boxes l m 2≤c.Height)
theorem stow_fits {s:Gw} {boxes:List Gd} {l:List Stowed} {m:Nat} {c:G4} (hc:s.Columns[m]? = some c) (hl:l.length≤1000000):Wp (G66 s boxes l (m:Int)) (fun r=>r=true ↔ He7 boxes l m c):=by
 unfold G66 He7
 refine Y9 rfl hc ?_
 by_cases h:c.Height≤0
 ·simp only [decide_eq_true h,Bool.not_true,cond_false,Bool.false_and,Bool.true_or]
  exact H4 (Gn (H4 (Gn (Gn ⟨fun _=>.inl h,fun _=>rfl⟩))))
 ·simp only [decide_eq_false h,Bool.not_false,cond_true,Bool.true_and,Bool.false_or]
  refine Gu (J97 boxes l m 1 hl) ?_
  by_cases h1:G4a boxes l m 1≤c.Height
  ·rw [decide_eq_true h1]
   simp only [cond_true,Bool.true_and]
   exact Gu (J97 boxes l m 2 hl) (Gn ⟨fun e=>.inr ⟨h1,of_decide_eq_true e⟩,fun e=>decide_eq_true (e.elim (fun e=>(h e).elim) (·.2))⟩)
  ·rw [decide_eq_false h1]
   simp only [cond_false,Bool.false_and]
   exact H4 (Gn (Gn ⟨fun e=>(by cases e),fun e=>e.elim (fun e=>(h e).elim) (fun e=>(h1 e.1).elim)⟩))
theorem Q03 (l:List Stowed) (hl:l.length≤1000000):G78 l=some (l.map (·.Slot)):=by
 refine Yq ?_
 unfold G78
 refine J8 (fun pre s=>s=pre.map (·.Slot)) rfl (fun pre y post s nx e hs hnx=>?_) (fun s hs=>Gn hs)
 subst hs
 have hp:pre.length+1≤l.length:=by rw [e]; simp
 exact Q8 (Z5 (by simp only [List.length_map,List.length_singleton]; omega) (by omega)) (hnx _ (by simp))
structure Ri (s:Gw) (boxes:List Gd) (l:List Stowed):Prop where
 each:∀ x∈l,∃ b,G31 boxes x.Gd=some b∧G65 s x.Slot b.Size∧H63 x.Slot (l.map (·.Slot))
 sorted:l.Pairwise (fun a b=>a.Gd < b.Gd)
 apart:l.Pairwise (fun a b=>¬ H5f b.Slot a.Slot)
 fits:∀ m c,s.Columns[m]? = some c→He7 boxes l m c
theorem H6c {α:Type} {R:α→α→Prop} {l:List α} {x:α} (h:l.Pairwise R) (hx:∀ a∈l,R a x):(l++[x]).Pairwise R:=by
 rw [List.pairwise_append]
 refine⟨h,List.pairwise_singleton ..,fun a ha b hb=>?_⟩
 rw [List.mem_singleton] at hb; subst hb
 exact hx a ha
theorem Gbd {α:Type} {R:α→α→Prop} {pre post:List α} {y:α} (h:(pre++y::post).Pairwise R):∀ a∈pre,R a y:=fun a ha=>(List.pairwise_append.1 h).2.2 a ha y (List.mem_cons_self ..)
theorem G62 {s:Gw} {boxes:List Gd} {l:List Stowed} (hr:Z7 s=some true) (ht:∀ c∈s.Columns,c.Tiers≤1000000) (hl:l.length≤1000000):Wp (Re s boxes l) (fun r=>r=true ↔ Ri s boxes l):=by
 unfold Re
 refine Gu hr (H7 (fun h=>by cases h) (fun _=>?_))
 refine Gu (Q03 l hl) ?_
 refine J8 (fun pre _=>(∀ x∈pre,∃ b,G31 boxes x.Gd=some b∧G65 s x.Slot b.Size∧H63 x.Slot (l.map (·.Slot)))∧pre.Pairwise (fun a b=>a.Gd < b.Gd)∧pre.Pairwise (fun a b=>¬ H5f b.Slot a.Slot))
  ⟨fun x hx=>(List.not_mem_nil hx).elim,List.Pairwise.nil,List.Pairwise.nil⟩ (fun pre y post u nx e hI hnx=>?_) (fun u hI=>?_)
 ·obtain⟨i1,i2,i3⟩:=hI
  have hlen:pre.length < l.length:=by rw [e]; simp
  have hy:y∈l:=by rw [e]; simp
  have no:∀ {m:Option Bool},m=some false→¬ Ri s boxes l→Wp m (fun r=>r=true ↔ Ri s boxes l):=fun e h=>by subst e; exact Gn ⟨fun e=>(by cases e),fun e=>(h e).elim⟩
  refine Gu (J73 boxes y.Gd) ?_
  cases hf:G31 boxes y.Gd with
  | none=>
   simp only [Bool.not_false,Bool.not_true,Bool.false_and,cond_false,Bool.true_or,cond_true]
   refine H4 (Gn (H4 (Gn (H4 (Gn (H4 (Gn (no rfl fun h=>?_))))))))
   obtain⟨b,hb,_⟩:=h.each y hy
   rw [hf] at hb; cases hb
  | some b=>
   simp only [Bool.not_true,Bool.not_false,Bool.true_and,Bool.false_or]
   -- the order
   have hprev:Wp (bif decide (0 < (pre.length:Int)) then Rc ((pre.length:Int) - 1) some else some 0) (fun v=>Wp (bif decide (0 < (pre.length:Int)) then Q9 l v some else some default) (fun y20=>
     ((decide (0 < (pre.length:Int))&&decide (y.Gd≤y20.Gd))=true→¬ Ri s boxes l)∧((decide (0 < (pre.length:Int))&&decide (y.Gd≤y20.Gd))=false→∀ a∈pre,a.Gd < y.Gd))):=by
    rcases List.eq_nil_or_concat pre with hp | ⟨pre',z,hp⟩
    ·subst hp
     simp only [List.length_nil]
     exact Gn (Gn ⟨fun h=>by simp at h,fun _ a ha=>(List.not_mem_nil ha).elim⟩)
    ·have hp':pre=pre'++[z]:=by simpa using hp
     have hpl:pre.length=pre'.length+1:=by rw [hp']; simp
     have hd:decide (0 < (pre.length:Int))=true:=decide_eq_true (by omega)
     have hz:l[pre'.length]? = some z:=by rw [e,hp']; simp
     rw [hd]
     simp only [cond_true,Bool.true_and]
     refine Qb ⟨by omega,by omega⟩ (Gn (Y9 (m:=pre'.length) (by omega) hz (Gn ⟨fun h hR=>?_,fun h a ha=>?_⟩)))
     ·have:=of_decide_eq_true h
      have hs:=hR.sorted
      rw [e] at hs
      have:=Gbd hs z (by rw [hp']; simp)
      omega
     ·have hzy:¬ y.Gd≤z.Gd:=of_decide_eq_false h
      rw [hp'] at ha
      rcases List.mem_append.1 ha with ha | ha
      ·have:=Gbd (hp' ▸ i2:(pre'++z::[]).Pairwise _) a ha
       omega
      ·rw [List.mem_singleton] at ha; subst ha; omega
   refine H4 (wp_mono hprev (fun v hv=>H4 (wp_mono hv (fun y20 h20=>?_))))
   obtain⟨n1,n2⟩:=h20
   generalize (decide (0 < (pre.length:Int))&&decide (y.Gd≤y20.Gd))=c at n1 n2
   cases c with
   | true=>
    simp only [Bool.not_true,cond_false,Bool.true_or,cond_true]
    exact H4 (Gn (H4 (Gn (no rfl (n1 rfl)))))
   | false=>
    simp only [Bool.not_false,cond_true,Bool.false_or]
    have hsort:=n2 rfl
    refine H4 (wp_mono (Q05 s y.Slot b.Size) (fun r21 h21=>?_))
    cases r21 with
    | false=>
     simp only [Bool.not_false,Bool.not_true,cond_false,Bool.true_or,cond_true]
     refine H4 (Gn (no rfl fun h=>?_))
     obtain⟨b',hb,hs,_⟩:=h.each y hy
     rw [hf] at hb; cases hb
     have:=h21.2 hs; cases this
    | true=>
     have hslot:=h21.1 rfl
     simp only [Bool.not_true,Bool.not_false,cond_true,Bool.false_or]
     have htier : -1000000≤y.Slot.Tier∧y.Slot.Tier≤1000000:=by
      obtain⟨m,c,_,hc,h3⟩:=hslot.col
      have:=hslot.tier
      have:=ht c (List.mem_of_getElem? hc)
      omega
     refine H4 (wp_mono (slot_held y.Slot (l.map (·.Slot)) htier) (fun r22 h22=>?_))
     cases r22 with
     | false=>
      refine H7 (fun _=>no rfl fun h=>?_) (fun h=>by cases h)
      obtain⟨b',hb,_,hh⟩:=h.each y hy
      have:=h22.2 hh; cases this
     | true=>
      have hheld:=h22.1 rfl
      refine H7 (fun h=>by cases h) (fun _=>?_)
      refine H4 (Hbf (m:=pre.length) rfl (by rw [List.length_map]; omega) ?_)
      have htk:(l.map (·.Slot)).take pre.length=pre.map (·.Slot):=by rw [← List.map_take,e,List.take_left']; rfl
      rw [htk]
      refine J8 (fun pr _=>∀ a∈pr,¬ H5f y.Slot a) (fun a ha=>(List.not_mem_nil ha).elim) (fun pr a pos u nx2 e2 hI2 hnx2=>?_) (fun u hI2=>hnx _ ⟨fun x hx=>?_,H6c i2 hsort,H6c i3 (fun a ha=>hI2 a.Slot (List.mem_map.2 ⟨a,ha,rfl⟩))⟩)
      ·refine H4 (wp_mono (slot_meet y.Slot a) (fun r48 h48=>?_))
       refine H7 (fun h=>no rfl fun hR=>?_) (fun h=>hnx2 _ (fun a' ha'=>?_))
       ·have hm:=h48.1 h
        have hin:a∈pre.map (·.Slot):=by rw [e2]; simp
        obtain⟨z,hz,rfl⟩:=List.mem_map.1 hin
        have ha:=hR.apart
        rw [e] at ha
        exact Gbd ha z hz hm
       ·rcases List.mem_append.1 ha' with ha' | ha'
        ·exact hI2 a' ha'
        ·rw [List.mem_singleton] at ha'; subst ha'
         intro hm
         have:=h48.2 hm
         rw [this] at h; cases h
      ·rcases List.mem_append.1 hx with hx | hx
       ·exact i1 x hx
       ·rw [List.mem_singleton] at hx; subst hx
        exact⟨b,hf,hslot,hheld⟩
 ·obtain⟨i1,i2,i3⟩:=hI
  refine J8 (fun pre _=>∀ m c,m < pre.length→s.Columns[m]? = some c→He7 boxes l m c) (fun m c h=>(Nat.not_lt_zero m h).elim) (fun pre y post u nx e hI hnx=>?_) (fun u hI=>Gn ⟨fun _=>⟨i1,i2,i3,fun m c hc=>hI m c (List.getElem?_eq_some_iff.1 hc).1 hc⟩,fun _=>rfl⟩)
  have hc:s.Columns[pre.length]? = some y:=by rw [e]; simp
  refine H4 (wp_mono (stow_fits hc hl) (fun r hr=>?_))
  cases r with
  | false=>exact H7 (fun _=>Gn ⟨fun e=>(by cases e),fun h=>by have:=hr.2 (h.fits _ _ hc); cases this⟩) (fun h=>by cases h)
  | true=>
   refine H7 (fun h=>by cases h) (fun _=>hnx _ (fun m c hm hmc=>?_))
   rw [List.length_append,List.length_singleton] at hm
   rcases Nat.lt_or_ge m pre.length with h | h
   ·exact hI m c h hmc
   ·have:m=pre.length:=by omega
    subst this
    rw [hc] at hmc; cases hmc
    exact hr.1 rfl
section maps
variable {κ ν:Type} [DecidableEq κ]
theorem Q23 (a:κ):H0.has (H0.empty:H0 κ ν) a=false:=rfl
theorem amap_has_put (m:H0 κ ν) (a b:κ) (v:ν):H0.has (H0.put m a v) b=(decide (a=b)||H0.has m b):=by
 unfold H0.has H0.put
 have h:=H59 (l:=Gf2 m.l a v) (a:=b)
 have h2:=H59 (l:=m.l) (a:=b)
 rw [← h,Hf3]
 by_cases e:a=b
 ·simp [e]
 ·simp [e,h2]
end maps
theorem Hd4 {α:Type} {l:List α} {wanted:α→Option Bool} {p:α→Bool} (hw:∀ x∈l,wanted x=some (p x)) (hl:l.length≤1000000) :
  each (fun y i (s:List Int) nx=>jp (fun kj=>bnd (wanted y) fun r=>bif r then (need (decide ((s.length+[(i:Int)].length)*8≤140737488355328∧s.length+[(i:Int)].length≤maxLen)) <| kj (s++[(i:Int)])) else (kj s)) fun(j:List Int)=>nx j)
   (fun s=>some s) l 0 []=some (G64 p l):=by
 refine Yq ?_
 refine J8 (fun pre s=>s=G64 p pre) rfl (fun pre x post s nx e hs hnx=>?_) (fun s hs=>Gn hs)
 subst hs
 have hpl:pre.length+1≤l.length:=by rw [e]; simp
 refine Zt (fun j=>j=G64 p (pre++[x])) (fun K hK=>?_) (fun j hj=>hnx _ hj)
 refine Gu (hw x (by rw [e]; simp)) (H7 (fun h=>Q8 ?_ (hK _ ?_)) (fun h=>hK _ ?_))
 ·have:=Jac p pre
  exact Z5 (by rw [List.length_singleton]; omega) (by omega)
 ·rw [Hf9,h]; rfl
 ·rw [Hf9,h]; simp
theorem idxs_cons {α:Type} (p:α→Bool) (x:α) (l:List α):G64 p (x::l)=(if p x then [0] else [])++(G64 p l).map (·+1):=by
 unfold G64
 rw [List.zipIdx_cons',List.filter_cons]
 have h:(((l.zipIdx.map (Prod.map id (fun n:Nat=>n+1))).filter (fun y:α×Nat=>p y.1)).map (fun y:α×Nat=>(y.2:Int)))=((l.zipIdx.filter (fun y:α×Nat=>p y.1)).map (fun y:α×Nat=>(y.2:Int))).map (·+1):=by
  rw [List.filter_map,List.map_map,List.map_map]
  rfl
 by_cases hx:p x=true
 ·rw [if_pos (show p (x,0).fst=true from hx),if_pos hx,List.map_cons]
  exact congrArg (List.cons _) h
 ·rw [if_neg (show ¬ p (x,0).fst=true from hx),if_neg hx,List.nil_append]
  exact h
theorem idxs_head {α:Type} (p:α→Bool) (l:List α):(G64 p l).head? = match l.findIdx? p with
  | some j=>some (j:Int)
  | none=>none:=by
 induction l with
 | nil=>rfl
 | cons x l ih=>
  rw [idxs_cons,List.findIdx?_cons]
  by_cases hx:p x
  ·simp [hx]
  ·simp only [hx,if_false,Bool.false_eq_true,List.nil_append,List.head?_map,ih]
   cases l.findIdx? p <;> simp
theorem idxs_pos {α:Type} (p:α→Bool) (l:List α):decide (0 < ((G64 p l).length:Int))=l.any p:=by
 by_cases h:∀ x∈l,p x=false
 ·rw [J59.2 h]
  refine Eq.symm (List.any_eq_false.2 fun x hx=>?_)
  rw [h x hx]; exact Bool.false_ne_true
 ·have h1:G64 p l≠[]:=fun e=>h (J59.1 e)
  have h2:=List.length_pos_iff.2 h1
  rw [decide_eq_true (by omega)]
  refine Eq.symm (List.any_eq_true.2 ?_)
  refine Classical.byContradiction fun hn=>h fun x hx=>?_
  cases hc:p x with
  | false=>rfl
  | true=>exact(hn ⟨x,hx,hc⟩).elim
def Gdd (x:G9) (c:G4):Bool:=decide (x.Bay=c.Bay)&&x.Rows.any (fun r=>decide (r=c.Row))
theorem J9b (x:G9) (c:G4) (hl:x.Rows.length≤1000000):G59 x c=some (Gdd x c):=by
 unfold G59 Gdd
 by_cases h:x.Bay=c.Bay
 ·have hc:G21 x.Rows (fun z0=>G52 z0 c)=some (G64 (fun r=>decide (r=c.Row)) x.Rows):=by
   unfold G21
   exact Hd4 (fun x _=>rfl) hl
  rw [decide_eq_true h]
  simp only [cond_true,Bool.true_and]
  rw [hc,H3c,idxs_pos]
 ·rw [decide_eq_false h]
  rfl
def Jt (s:Gw) (c:G4):Int:=J34 (fun x=>Gdd x c) s.Covers
theorem G75 {s:Gw} {m:Nat} {c:G4} (hc:s.Columns[m]? = some c) (hr:∀ x∈s.Covers,x.Rows.length≤1000000) (hl:s.Covers.length≤1000000):Qv s (m:Int)=some (Jt s c):=by
 have hm:=(List.getElem?_eq_some_iff.1 hc).1
 refine Yq ?_
 unfold Qv
 refine H7 (fun h=>?_) (fun _=>?_)
 ·simp only [Bool.or_eq_true,decide_eq_true_eq] at h
  omega
 have hch:Yn s.Covers (fun z0=>G09 z0 s (m:Int))=some (G64 (fun x=>Gdd x c) s.Covers):=by
  unfold Yn
  refine Hd4 (fun x hx=>Yq ?_) hl
  unfold G09
  exact Y9 rfl hc (Gu (J9b x c (hr x hx)) (Gn rfl))
 refine Gu hch ?_
 have hh:=idxs_head (fun x=>Gdd x c) s.Covers
 unfold Jt J34
 cases hf:s.Covers.findIdx? (fun x=>Gdd x c) with
 | none=>
  rw [hf] at hh
  have h0:G64 (fun x=>Gdd x c) s.Covers=[]:=List.head?_eq_none_iff.1 hh
  rw [h0]
  exact Gn rfl
 | some j=>
  rw [hf] at hh
  cases hi:G64 (fun x=>Gdd x c) s.Covers with
  | nil=>rw [hi] at hh; cases hh
  | cons z r=>
   rw [hi] at hh
   simp only [List.head?_cons,Option.some.injEq] at hh
   subst hh
   refine H7 (fun h=>?_) (fun _=>Y9 (m:=0) rfl rfl (Gn rfl))
   have:=of_decide_eq_true h
   simp only [List.length_cons] at this
   omega
def abB (k:Int) (b:Gd):Bool:=decide (b.Load≤k)&&decide (k < b.Discharge)
def Y1 (l:List Stowed) (id:Int):Slot×Bool:=match Hd1 l id with
 | some x=>(x.Slot,true)
 | none=>(⟨0,0,0⟩,false)
structure Small (s:Gw):Prop where
 right:Z7 s=some true
 cols:1≤s.Columns.length∧s.Columns.length≤40
 tiers:∀ c∈s.Columns,c.Tiers≤100
 covs:s.Covers.length≤1000
 rows:∀ x∈s.Covers,x.Rows.length≤1000
def H64 (s:Gw) (x:Slot):Prop:=∃ (m:Nat) (c:G4),x.G4=(m:Int)∧s.Columns[m]? = some c
structure G96 (U:List Int) (m:H0 Int Unit) (l:List Int):Prop where
 nodup:l.Nodup
 sub:∀ a∈l,a∈U
 has:∀ a,H0.has m a=decide (a∈l)
theorem G96.le {U:List Int} {m:H0 Int Unit} {l:List Int} (h:G96 U m l):l.length≤U.length:=h.nodup.length_le_of_subset (fun a ha=>h.sub a ha)
theorem G96.start {U:List Int}:G96 U (H0.empty:H0 Int Unit) []:=⟨List.nodup_nil,fun a ha=>(List.not_mem_nil ha).elim,fun a=>by simp [Q23]⟩
theorem G96.snoc {U:List Int} {m:H0 Int Unit} {l:List Int} (h:G96 U m l) {id:Int} (h1:id ∉ l) (h2:id∈U):G96 U (H0.put m id ()) (l++[id]):=by
 refine⟨?_,fun a ha=>?_,fun a=>?_⟩
 ·rw [List.nodup_append]
  refine⟨h.nodup,by simp,fun a ha b hb=>?_⟩
  rw [List.mem_singleton] at hb; subst hb
  intro e; subst e; exact h1 ha
 ·rcases List.mem_append.1 ha with ha | ha
  ·exact h.sub a ha
  ·rw [List.mem_singleton] at ha; subst ha; exact h2
 ·rw [amap_has_put,h.has,Bool.eq_iff_iff]
  simp only [Bool.or_eq_true,decide_eq_true_eq,List.mem_append,List.mem_singleton]
  exact⟨fun h=>h.elim (fun e=>.inr e.symm) .inl,fun h=>h.elim .inr (fun e=>.inl e.symm)⟩
theorem Z4 {l:List Int} (h:l.Pairwise (· < ·)):l.Nodup:=h.imp (fun h=>by omega)
theorem Small.tier {s:Gw} (h:Small s):∀ c∈s.Columns,c.Tiers≤1000000:=fun c hc=>by have:=h.tiers c hc; omega
theorem Ga0 {s:Gw} {x:Slot} {size:Int} (h:G65 s x size):H64 s x:=by
 obtain⟨m,c,h1,h2,_⟩:=h.col
 exact⟨m,c,h1,h2⟩
theorem J2c {s:Gw} {boxes:List Gd}:Ri s boxes []:=⟨fun x hx=>(List.not_mem_nil hx).elim,List.Pairwise.nil,List.Pairwise.nil,fun m c _=>by
 unfold He7 G4a
 simp only [List.foldl_nil]
 omega⟩
theorem J5b {a b:List Int} (ha:a.Pairwise (· < ·)) (hb:b.Pairwise (· < ·)) (h:∀ x,x∈a ↔ x∈b):a=b:=
 List.Perm.eq_of_pairwise (le:=fun x y:Int=>x < y) (fun x y _ _ h1 h2=>by omega) ha hb ((List.perm_ext_iff_of_nodup (Z4 ha) (Z4 hb)).2 h)
structure Hd9 (s:Gw) (boxes:List Gd) (k:Int) (l:List Stowed):Prop where
 right:Ri s boxes l
 mem:∀ x∈l,∃ b∈boxes,b.ID=x.Gd∧abB k b=true
theorem Hd9.nil {s:Gw} {boxes:List Gd} {k:Int}:Hd9 s boxes k []:=⟨J2c,fun x hx=>(List.not_mem_nil hx).elim⟩
def upon (s:Gw) (x y:Slot):Prop:=∃ (m:Nat) (c:G4) (m1:Nat) (c1:G4),x.G4=(m:Int)∧s.Columns[m]? = some c∧y.G4=(m1:Int)∧s.Columns[m1]? = some c1∧c.Deck=false∧c1.Deck=true∧0≤Jt s c∧Jt s c1=Jt s c
def PullsIn (s:Gw) (states:List (List Stowed)) (st:List Stowed) (a b:Int):Prop:=
 (Y1 st a).2=true∧((∃ y∈st,y.Gd=b∧Gc1 y.Slot (Y1 st a).1)∨∃ st2∈states,∃ y∈st2,y.Gd=b∧upon s (Y1 st a).1 y.Slot)
def G8e (s:Gw) (states:List (List Stowed)) (a b:Int):Prop:=∃ st∈states,PullsIn s states st a b
structure Grown (s:Gw) (U:List Int) (states:List (List Stowed)) (l:List Int) (id:Int) (m:H0 Int Unit) (l':List Int):Prop where
 inv:G96 U m l'
 sub:∀ a∈l,a∈l'
 has:id∈l'
 closed:∀ a∈l',a ∉ l→∀ b,G8e s states a b→b∈l'
 least:∀ C:Int→Prop,(∀ a b,C a→G8e s states a b→C b)→(∀ a∈l,C a)→C id→∀ a∈l',C a
structure Rch (s:Gw) (U:List Int) (states:List (List Stowed)) (l:List Int) (id:Int) (m:H0 Int Unit) (l':List Int):Prop where
 inv:G96 U m l'
 sub:∀ a∈l++[id],a∈l'
 closed:∀ a∈l',a ∉ l→a≠id→∀ b,G8e s states a b→b∈l'
 least:∀ C:Int→Prop,(∀ a b,C a→G8e s states a b→C b)→(∀ a∈l,C a)→C id→∀ a∈l',C a
section
variable {s:Gw} {U:List Int} {states:List (List Stowed)} {l l' l2:List Int} {id y:Int} {m m2:H0 Int Unit}
theorem Rch.start (h:G96 U m (l++[id])):Rch s U states l id m (l++[id]):=
 ⟨h,fun a ha=>ha,fun a ha h1 h2=>by
  rcases List.mem_append.1 ha with ha | ha
  ·exact(h1 ha).elim
  ·exact(h2 (List.mem_singleton.1 ha)).elim,fun C _ hl hid a ha=>by
  rcases List.mem_append.1 ha with ha | ha
  ·exact hl a ha
  ·exact List.mem_singleton.1 ha ▸ hid⟩
theorem Rch.step (h:Rch s U states l id m l') (hp:G8e s states id y) (g:Grown s U states l' y m2 l2):Rch s U states l id m2 l2∧(∀ a∈l',a∈l2)∧y∈l2:=
 ⟨⟨g.inv,fun a ha=>g.sub a (h.sub a ha),fun a ha h1 h2 b hb=>by
  by_cases hal:a∈l'
  ·exact g.sub b (h.closed a hal h1 h2 b hb)
  ·exact g.closed a ha hal b hb,fun C hc hl hid=>g.least C hc (h.least C hc hl hid) (hc id y hid hp)⟩,g.sub,g.has⟩
end
structure He5 (s:Gw) (before after:List Stowed) (l:List Int):Prop where
 seeds:∀ st∈[before,after],∀ y∈st,Y1 before y.Gd≠Y1 after y.Gd→y.Gd∈l
 closed:∀ a∈l,∀ b,G8e s [before,after] a b→b∈l
 least:∀ C:Int→Prop,(∀ a b,C a→G8e s [before,after] a b→C b)→(∀ st∈[before,after],∀ y∈st,Y1 before y.Gd≠Y1 after y.Gd→C y.Gd)→∀ a∈l,C a
theorem Q11 {α:Type} {a b x:α} (h:x∈[a,b]):x∈[b,a]:=by
 simp only [List.mem_cons,List.not_mem_nil,or_false] at h ⊢
 exact h.symm
theorem G8e.swap {s:Gw} {a b:List Stowed} {x y:Int} (h:G8e s [a,b] x y):G8e s [b,a] x y:=by
 obtain⟨st,hst,h1,h2⟩:=h
 exact⟨st,Q11 hst,h1,h2.imp _root_.id (fun⟨st2,h3,h4⟩=>⟨st2,Q11 h3,h4⟩)⟩
theorem He5.le {s:Gw} {before after:List Stowed} {l l':List Int} (h:He5 s before after l) (h':He5 s after before l'):∀ a∈l,a∈l':=
 h.least (·∈l') (fun a b ha hb=>h'.closed a ha b hb.swap) (fun st hst y hy hne=>h'.seeds st (Q11 hst) y hy (fun e=>hne e.symm))
section lifted
variable {s:Gw} {before after:List Stowed}
end lifted
theorem cover_one {s:Gw} (hS:J16 s) {c:G4} {i j:Nat} {x y:G9} (hi:s.Covers[i]? = some x) (hj:s.Covers[j]? = some y) (hx:Gdd x c=true) (hy:Gdd y c=true):i=j:=by
 have hn:(s.Covers.flatMap x3).Nodup:=(List.nodup_append.1 hS.nodup).2.1
 have hmem:∀ z:G9,Gdd z c=true→(⟨c.Bay,c.Row,2⟩:Hc)∈x3 z:=fun z hz=>by
  unfold Gdd at hz
  simp only [Bool.and_eq_true,decide_eq_true_eq,List.any_eq_true] at hz
  obtain⟨h1,r,h2,h3⟩:=hz
  exact List.mem_map.2 ⟨r,h2,by rw [h1,h3]⟩
 have key:∀ (l:List G9) (i j:Nat),(l.flatMap x3).Nodup→i < j→∀ x y,l[i]? = some x→l[j]? = some y→Gdd x c=true→Gdd y c=true→False:=by
  intro l
  induction l with
  | nil=>intro i j _ _ x y h; simp at h
  | cons z r ih=>
   intro i j hn hij x y hi hj hx hy
   rw [List.flatMap_cons,List.nodup_append] at hn
   cases j with
   | zero=>omega
   | succ j=>
    rw [List.getElem?_cons_succ] at hj
    cases i with
    | zero=>
     rw [List.getElem?_cons_zero] at hi; cases hi
     exact hn.2.2 _ (hmem _ hx) _ (List.mem_flatMap.2 ⟨y,List.mem_of_getElem? hj,hmem y hy⟩) rfl
    | succ i=>
     rw [List.getElem?_cons_succ] at hi
     exact ih i j hn.2.1 (by omega) x y hi hj hx hy
 rcases Nat.lt_trichotomy i j with h | h | h
 ·exact(key _ i j hn h x y hi hj hx hy).elim
 ·exact h
 ·exact(key _ j i hn h y x hj hi hy hx).elim
theorem Jb1 {s:Gw} (hS:J16 s) {c:G4} {k:Nat} {x:G9} (hk:s.Covers[k]? = some x):Gdd x c=true ↔ Jt s c=(k:Int):=by
 unfold Jt
 rcases G49 (fun x=>Gdd x c) s.Covers with ⟨h1,h2,_⟩ | ⟨m,y,h1,h2,h3,_⟩
 ·rw [h1]
  constructor
  ·intro h; rw [h2 x (List.mem_of_getElem? hk)] at h; cases h
  ·intro h; omega
 ·rw [h1]
  constructor
  ·intro h; rw [cover_one hS h2 hk h3 h]
  ·intro h
   have:m=k:=by omega
   subst this
   rw [hk] at h2; cases h2; exact h3
theorem Q04 (l:List Stowed) (id:Int):G20 l id=some (J34 (fun x:Stowed=>decide (x.Gd=id)) l):=by
 have h:=H3b (p:=fun x:Stowed=>decide (x.Gd=id)) (f:=fun z0=>G90 z0 id) (xs:=l) (fun x _=>rfl)
 exact(congrArg (fun m=>bnd m fun r3=>some r3) h).trans rfl
instance (a b:Slot):Decidable (Gc1 a b):=by unfold Gc1 Ge6; infer_instance
def H0c (l:List Stowed) (x:Slot):List Int:=(l.filter (fun y=>decide (Gc1 y.Slot x))).map (·.Gd)
theorem Hf5 {l:List Stowed} {x:Slot} {b:Int}:b∈H0c l x ↔ ∃ y∈l,y.Gd=b∧Gc1 y.Slot x:=by
 unfold H0c
 rw [List.mem_map]
 constructor
 ·rintro⟨y,hy,e⟩
  rw [List.mem_filter,decide_eq_true_eq] at hy
  exact⟨y,hy.1,e,hy.2⟩
 ·rintro⟨y,hy,e,h⟩
  exact⟨y,List.mem_filter.2 ⟨hy,decide_eq_true h⟩,e⟩
theorem Jb0 {α β R:Type} {Q:R→Prop} {p:α→Bool} {f:α→β} {b:α→Nat→List β→(List β→Option R)→Option R} {kx:List β→Option R} {l:List α} (hl:l.length≤1000000)
  (hb:∀ x i st nx,x∈l→st.length≤1000000→(p x=true→Wp (nx (st++[f x])) Q)→(p x=false→Wp (nx st) Q)→Wp (b x i st nx) Q) (hk:Wp (kx ((l.filter p).map f)) Q):Wp (each b kx l 0 []) Q:=by
 refine J8 (fun pre st=>st=(pre.filter p).map f) rfl (fun pre x post st nx e hI hnx=>?_) (fun st hI=>by rw [hI]; exact hk)
 subst hI
 have hlen:((pre.filter p).map f).length≤pre.length:=by rw [List.length_map]; exact List.length_filter_le _ _
 have hpl:pre.length≤l.length:=by rw [e]; simp
 refine hb x _ _ nx (by rw [e]; simp) (by omega) (fun h=>hnx _ ?_) (fun h=>hnx _ ?_)
 ·rw [List.filter_append,List.map_append,List.filter_cons_of_pos h]; rfl
 ·rw [List.filter_append,List.map_append,List.filter_cons_of_neg (by rw [h]; exact Bool.false_ne_true)]; simp
theorem room8 {β:Type} {st:List β} {y:β} (h:st.length≤1000000):decide ((st.length+[y].length)*8≤140737488355328∧st.length+[y].length≤maxLen)=true:=by
 refine decide_eq_true ⟨?_,?_⟩
 ·rw [List.length_singleton]; omega
 ·rw [List.length_singleton]; simp only [maxLen]; omega
def aboveR (l:List Stowed) (id:Int):List Int×Int:=match Hd1 l id with
 | some x=>(H0c l x.Slot,0)
 | none=>([],6)
theorem stow_above (l:List Stowed) (id:Int) (hl:l.length≤1000000):G7a l id=some (aboveR l id):=by
 refine Yq ?_
 unfold G7a aboveR
 refine Gu (Q04 l id) ?_
 unfold Hd1
 rcases G49 (fun x:Stowed=>decide (x.Gd=id)) l with ⟨h1,_,h3⟩ | ⟨m,x,h1,h2,_,h4⟩
 ·rw [h1,h3]
  exact H7 (fun _=>Gn rfl) (fun h=>absurd (of_decide_eq_false h) (by omega))
 ·rw [h1,h4]
  refine H7 (fun h=>absurd (of_decide_eq_true h) (by omega)) (fun _=>?_)
  refine Jb0 (p:=fun y=>decide (Gc1 y.Slot x.Slot)) (f:=(·.Gd)) hl (fun y i st nx hy hst ht hf=>?_) (Gn rfl)
  refine Zt (fun j=>j=if Gc1 y.Slot x.Slot then st++[y.Gd] else st) (fun K hK=>?_) (fun j hj=>?_)
  ·refine Y9 rfl h2 (H4 (wp_mono (J74 y.Slot x.Slot) (fun r hr=>H7 (fun h=>Q8 (room8 hst) (hK _ ?_)) (fun h=>hK _ ?_))))
   ·rw [if_pos (hr.1 h)]
   ·rw [if_neg (fun ho=>by rw [hr.2 ho] at h; cases h)]
  ·by_cases ho:Gc1 y.Slot x.Slot
   ·rw [hj,if_pos ho]; exact ht (decide_eq_true ho)
   ·rw [hj,if_neg ho]; exact hf (decide_eq_false ho)
theorem mem_idxs {α:Type} {p:α→Bool} {l:List α} {z:Int}:z∈G64 p l ↔ ∃ (m:Nat) (x:α),z=(m:Int)∧l[m]? = some x∧p x=true:=by
 unfold G64
 rw [List.mem_map]
 constructor
 ·rintro⟨⟨x,m⟩,hx,rfl⟩
  rw [List.mem_filter] at hx
  exact⟨m,x,rfl,List.mem_zipIdx_iff_getElem?.1 hx.1,hx.2⟩
 ·rintro⟨m,x,rfl,h1,h2⟩
  exact⟨(x,m),List.mem_filter.2 ⟨List.mem_zipIdx_iff_getElem?.2 h1,h2⟩,rfl⟩
theorem ship_upon {s:Gw} {k:Nat} {x:G9} (hk:s.Covers[k]? = some x) (hr:∀ x∈s.Covers,x.Rows.length≤1000000) (hc:s.Columns.length≤1000000) :
  Gff s (k:Int)=some (G64 (fun c:G4=>c.Deck&&Gdd x c) s.Columns):=by
 have hlt:=(List.getElem?_eq_some_iff.1 hk).1
 refine Yq ?_
 unfold Gff H18
 refine H4 (H7 (fun h=>?_) (fun _=>Gu (x:=G64 (fun c:G4=>c.Deck&&Gdd x c) s.Columns) ?_ (Gn (Gn rfl))))
 ·simp only [Bool.or_eq_true,decide_eq_true_eq] at h; omega
 unfold Qp
 refine Hd4 (fun c hcm=>Yq ?_) hc
 unfold G6c
 cases hd:c.Deck with
 | false=>exact H4 (Gn (H4 (Gn (Gn rfl))))
 | true=>
  refine Gu (x:=x) ?_ (Gu (x:=Gdd x c) (J9b x c (hr x (List.mem_of_getElem? hk))) (Gn rfl))
  show Q9 s.Covers (k:Int) some=some x
  exact Q63 hk some
theorem Ha6 (l:List Int) (v:Int):Jb l v=some (l.any (fun y=>decide (v=y))):=by
 unfold Jb Ra
 have key:∀ (l:List Int) (i:Nat),∃ j:Int,each (fun(y:Int) (i:Nat) (_:Unit) nx=>bif decide (v=y) then some (i:Int) else nx ()) (fun(_:Unit)=>some (-1:Int)) l i ()=some j∧decide (0≤j)=l.any (fun y=>decide (v=y)):=by
  intro l
  induction l with
  | nil=>intro i; exact⟨-1,rfl,rfl⟩
  | cons x r ih=>
   intro i
   rw [each,List.any_cons]
   cases decide (v=x) with
   | true=>exact⟨(i:Int),rfl,decide_eq_true (by omega)⟩
   | false=>exact ih (i+1)
 obtain⟨j,e1,e2⟩:=key l 0
 have e1':Ra l v=some j:=e1
 unfold Ra at e1'
 rw [e1']
 show some (decide (0≤j))=_
 rw [e2]
theorem stow_hatch {s:Gw} {m:Nat} {c:G4} (hc:s.Columns[m]? = some c) (hr:∀ x∈s.Covers,x.Rows.length≤1000000) (hl:s.Covers.length≤1000000):Gc2 s (m:Int)=some (if c.Deck=true then -1 else Jt s c):=by
 refine Yq ?_
 unfold Gc2
 refine Y9 rfl hc (H7 (fun h=>Gn (by rw [if_pos h])) (fun h=>Gu (G75 hc hr hl) (Gn (by rw [if_neg (by rw [h]; exact Bool.false_ne_true)]))))
theorem stow_upon {s:Gw} (hS:J16 s) {l:List Stowed} {k:Nat} (hk:k < s.Covers.length) (hr:∀ x∈s.Covers,x.Rows.length≤1000000) (hl:l.length≤1000000) :
  Wp (Gf8 s l (k:Int)) (fun r=>∀ b,b∈r ↔ ∃ y∈l,y.Gd=b∧∃ (m:Nat) (c:G4),y.Slot.G4=(m:Int)∧s.Columns[m]? = some c∧c.Deck=true∧Jt s c=(k:Int)):=by
 have hk':s.Covers[k]? = some s.Covers[k]:=List.getElem?_eq_getElem hk
 unfold Gf8
 refine Gu (ship_upon hk' hr (by have:=hS.num.2.1; omega)) ?_
 refine Jb0 (p:=fun y=>(G64 (fun c:G4=>c.Deck&&Gdd s.Covers[k] c) s.Columns).any (fun z=>decide (y.Slot.G4=z))) (f:=(·.Gd)) hl (fun y i st nx hy hst ht hf=>?_) (Gn (fun b=>?_))
 ·refine Zt (fun j=>j=if (G64 (fun c:G4=>c.Deck&&Gdd s.Covers[k] c) s.Columns).any (fun z=>decide (y.Slot.G4=z))=true then st++[y.Gd] else st) (fun K hK=>?_) (fun j hj=>?_)
  ·refine Gu (Ha6 _ _) (H7 (fun h=>Q8 (room8 hst) (hK _ ?_)) (fun h=>hK _ ?_))
   ·rw [if_pos h]
   ·rw [if_neg (by rw [h]; exact Bool.false_ne_true)]
  ·cases h:(G64 (fun c:G4=>c.Deck&&Gdd s.Covers[k] c) s.Columns).any (fun z=>decide (y.Slot.G4=z)) with
   | true=>rw [h] at hj; rw [hj]; exact ht h
   | false=>rw [h] at hj; rw [hj]; exact hf h
 ·rw [List.mem_map]
  have hiff:∀ y:Stowed,(G64 (fun c:G4=>c.Deck&&Gdd s.Covers[k] c) s.Columns).any (fun z=>decide (y.Slot.G4=z))=true ↔ ∃ (m:Nat) (c:G4),y.Slot.G4=(m:Int)∧s.Columns[m]? = some c∧c.Deck=true∧Jt s c=(k:Int):=fun y=>by
   rw [List.any_eq_true]
   constructor
   ·rintro⟨z,hz,e⟩
    obtain⟨m,c,rfl,h1,h2⟩:=mem_idxs.1 hz
    rw [Bool.and_eq_true] at h2
    exact⟨m,c,of_decide_eq_true e,h1,h2.1,(Jb1 hS hk').1 h2.2⟩
   ·rintro⟨m,c,e,h1,h2,h3⟩
    exact⟨(m:Int),mem_idxs.2 ⟨m,c,rfl,h1,by rw [h2,(Jb1 hS hk').2 h3]; rfl⟩,decide_eq_true e⟩
  constructor
  ·rintro⟨y,hy,rfl⟩
   rw [List.mem_filter] at hy
   exact⟨y,hy.1,rfl,(hiff y).1 hy.2⟩
  ·rintro⟨y,hy,e,h⟩
   exact⟨y,List.mem_filter.2 ⟨hy,(hiff y).2 h⟩,e⟩
def Pl (s:Gw) (l:List Stowed) (a b:Int):Prop:=∃ x∈l,x.Gd=a∧∃ y∈l,y.Gd=b∧(Gc1 y.Slot x.Slot∨upon s x.Slot y.Slot)
theorem Haa {l:List Stowed} (h:l.Pairwise (fun a b=>a.Gd < b.Gd)) {x y:Stowed} (hx:x∈l) (hy:y∈l) (e:x.Gd=y.Gd):x=y:=by
 obtain⟨i,hi,rfl⟩:=List.mem_iff_getElem.1 hx
 obtain⟨j,hj,rfl⟩:=List.mem_iff_getElem.1 hy
 have hp:=List.pairwise_iff_getElem.1 h
 rcases Nat.lt_trichotomy i j with g | g | g
 ·have:=hp i j hi hj g; omega
 ·subst g; rfl
 ·have:=hp j i hj hi g; omega
structure Brd (s:Gw) (boxes:List Gd) (l:List Stowed):Prop where
 ship:J16 s
 right:Ri s boxes l
 rows:∀ x∈s.Covers,x.Rows.length≤1000000
 covs:s.Covers.length≤1000000
 len:l.length≤1000
theorem Brd.col {s:Gw} {boxes:List Gd} {l:List Stowed} (h:Brd s boxes l) {x:Stowed} (hx:x∈l):H64 s x.Slot:=by
 obtain⟨b,_,h1,_⟩:=h.right.each x hx
 exact Ga0 h1
structure LeastP (s:Gw) (l:List Stowed) (ids:List Int) (r:List Int):Prop where
 sorted:r.Pairwise (· < ·)
 seeds:∀ a∈ids,a∈r
 closed:∀ a∈r,∀ b,Pl s l a b→b∈r
 least:∀ C:Int→Prop,(∀ a b,C a→Pl s l a b→C b)→(∀ a∈ids,C a)→∀ a∈r,C a
theorem LeastP.eq {s:Gw} {l:List Stowed} {ids r r':List Int} (h:LeastP s l ids r) (h':LeastP s l ids r'):r=r':=
 J5b h.sorted h'.sorted (fun x=>⟨fun hx=>h.least (·∈r') (fun a b ha hp=>h'.closed a ha b hp) h'.seeds x hx,fun hx=>h'.least (·∈r) (fun a b ha hp=>h.closed a ha b hp) h.seeds x hx⟩)
def ReachR (s:Gw) (boxes:List Gd) (l:List Stowed) (ids:List Int) (r:List Int×Int):Prop:=
 (¬ (J16 s∧Ri s boxes l)∧r=([],2))∨(J16 s∧Ri s boxes l∧((¬ (∀ a∈ids,a∈l.map (·.Gd))∧r=([],6))∨((∀ a∈ids,a∈l.map (·.Gd))∧r.2=0∧LeastP s l ids r.1)))
theorem ReachR.eq {s:Gw} {boxes:List Gd} {l:List Stowed} {ids:List Int} {r r':List Int×Int} (h:ReachR s boxes l ids r) (h':ReachR s boxes l ids r'):r=r':=by
 rcases h with ⟨h1,h2⟩ | ⟨h1,h2,h3⟩ <;> rcases h' with ⟨k1,k2⟩ | ⟨k1,k2,k3⟩
 ·rw [h2,k2]
 ·exact(h1 ⟨k1,k2⟩).elim
 ·exact(k1 ⟨h1,h2⟩).elim
 ·rcases h3 with ⟨h3,h4⟩ | ⟨h3,h4,h5⟩ <;> rcases k3 with ⟨k3,k4⟩ | ⟨k3,k4,k5⟩
  ·rw [h4,k4]
  ·exact(h3 k3).elim
  ·exact(k3 h3).elim
  ·exact Prod.ext (h5.eq k5) (h4.trans k4.symm)
end Go.Proofs.YtknalejjpofoaaaGreat
