/-
 What the program says of a ship and of a state,and what has to be lifted.
-/
import Derived.Test.YtidpfkmbfgihlaaGreatXR
set_option linter.unusedVariables false
set_option maxRecDepth 100000
namespace Go.Proofs.YtidpfkmbfgihlaaGreat
open Go.RowKit
theorem R27 {α γ:Type} {l:List α} {i:Nat} {y:α} (h:l[i]? = some y) (k:α→Option γ):Yy l (i:Int) k=k y:=by
 unfold Yy
 rw [decide_eq_true (by omega:(0:Int)≤(i:Int)),cond_true,show (i:Int).toNat=i by omega,h]; rfl
structure Ye4 (c:G2):Prop where
 plugs:∀ p∈c.Plugs,0≤p∧p < c.Tiers
 sorted:c.Plugs.Pairwise (· < ·)
 place:0≤c.Bay∧c.Bay≤39∧0≤c.Row∧c.Row≤30∧1≤c.Tiers∧c.Tiers≤10∧0≤c.Height∧c.Height≤40000
 load:0≤c.Kilos20∧c.Kilos20≤500000000∧0≤c.Kilos40∧c.Kilos40≤500000000∧0≤c.Lash∧c.Lash≤1000000000000
 at_ : -500000≤c.X∧c.X≤500000 ∧ -500000≤c.Y∧c.Y≤500000 ∧ -500000≤c.Z∧c.Z≤500000
theorem H3e {p:Prop} (h:¬ p):(false=true) ↔ p:=⟨fun e=>Bool.noConfusion e,fun hp=>(h hp).elim⟩
theorem Z03 {β:Type} {Q:β→Prop} {z:Int} {k:Int→Option β} (h:Wp (k (IntKind.i64.wrap z)) Q):Wp (wrp z k) Q:=h
theorem R1f {α:Type} {R:α→α→Prop} {l:List α} {x:α} (h:l.Pairwise R) (hx:∀ a∈l,R a x):(l++[x]).Pairwise R:=by
 rw [List.pairwise_append]
 refine⟨h,List.pairwise_singleton ..,fun a ha b hb=>?_⟩
 rw [List.mem_singleton] at hb; subst hb
 exact hx a ha
theorem H5c {α:Type} {P:α→Prop} {l:List α} {x:α} (h1:∀ y∈l,P y) (h2:P x):∀ y∈l++[x],P y:=fun y hy=>by
 rcases List.mem_append.1 hy with hy | hy
 ·exact h1 y hy
 ·rw [List.mem_singleton.1 hy]; exact h2
theorem J17 {pre:List Int} {y p:Int} (h:pre.Pairwise (· < ·)) (hp:pre[pre.length - 1]? = some p) (hy:p < y):∀ a∈pre,a < y:=by
 rcases List.eq_nil_or_concat pre with rfl | ⟨q,z,rfl⟩
 ·intro a ha; cases ha
 ·rw [List.concat_eq_append] at *
  have hz:z=p:=by
   rw [List.length_append,List.length_singleton,show q.length+1 - 1=q.length by omega] at hp
   simpa using hp
  subst hz
  intro a ha
  rcases List.mem_append.1 ha with ha | ha
  ·have:=(List.pairwise_append.1 h).2.2 a ha z (by simp)
   omega
  ·rw [List.mem_singleton.1 ha]; exact hy
theorem Q0f (l:List Hm):G55 l=some (l.all (fun x=>decide (x.low≤x.n)&&decide (x.n≤x.high))):=by
 refine G83 ?_
 unfold G55
 refine Y3 (fun pre _=>pre.all (fun x=>decide (x.low≤x.n)&&decide (x.n≤x.high))=true) rfl (fun pre y post s nx e hI hnx=>Hr (fun h=>Gj ?_) (fun h=>hnx _ ?_)) (fun s hI=>Gj hI.symm)
 ·symm
  rw [List.all_eq_false]
  refine⟨y,by rw [e]; simp,?_⟩
  simp only [Bool.or_eq_true,decide_eq_true_eq] at h
  simp only [Bool.and_eq_true,decide_eq_true_eq]
  omega
 ·simp only [Bool.or_eq_false_iff,decide_eq_false_iff_not] at h
  rw [List.all_append,hI]
  simp only [List.all_cons,List.all_nil,Bool.and_true,Bool.true_and,Bool.and_eq_true,decide_eq_true_eq]
  omega
theorem Q35 {pre post:List Int} {l:List Int} {y:Int} (e:l=pre++y::post) (hp:0 < pre.length):∃ p,l[pre.length - 1]? = some p∧pre[pre.length - 1]? = some p∧p∈pre:=by
 have h1:pre[pre.length - 1]? = some (pre[pre.length - 1]'(by omega)):=List.getElem?_eq_getElem (by omega)
 exact⟨_,by rw [e,List.getElem?_append_left (by omega)]; exact h1,h1,List.getElem_mem _⟩
theorem Y5e (c:G2) (hl:c.Plugs.length≤1048576):Wp (Gb1 c) (fun r=>r=true ↔ Ye4 c):=by
 unfold Gb1
 have hw:1≤c.Tiers∧c.Tiers≤10→IntKind.i64.wrap (c.Tiers - 1)=c.Tiers - 1:=fun h=>Q30 (by omega) (by omega)
 refine Y3 (fun pre _=>(∀ p∈pre,0≤p∧p≤IntKind.i64.wrap (c.Tiers - 1))∧pre.Pairwise (· < ·)) ⟨fun p hp=>(List.not_mem_nil hp).elim,List.Pairwise.nil⟩ (fun pre y post s nx e hI hnx=>?_) (fun s hI=>?_)
 ·obtain⟨hI1,hI2⟩:=hI
  have hym:y∈c.Plugs:=by rw [e]; simp
  have hpl:pre.length < c.Plugs.length:=by rw [e]; simp
  refine Z03 (H2 (Q0f _) ?_)
  simp only [List.all_cons,List.all_nil,Bool.and_true]
  by_cases hy:0≤y∧y≤IntKind.i64.wrap (c.Tiers - 1)
  ·rw [decide_eq_true hy.1,decide_eq_true hy.2]
   simp only [Bool.and_self,Bool.not_true,Bool.not_false,Bool.true_and,Bool.false_or]
   by_cases hp:0 < pre.length
   ·obtain⟨p,hp1,hp2,hp3⟩:=Q35 e hp
    have hwi:IntKind.i64.wrap ((pre.length:Int) - 1)=((pre.length - 1:Nat):Int):=by
     rw [Q30 (by omega) (by omega)]; omega
    rw [decide_eq_true (by omega:0 < (pre.length:Int)),cond_true]
    refine H2 (congrArg some hwi) (H2 ((R27 hp1 some).trans rfl) ?_)
    simp only [Bool.true_and]
    refine Hr (fun h=>Gj (H3e fun hc=>?_)) (fun h=>hnx _ ⟨H5c hI1 hy,R1f hI2 (J17 hI2 hp2 (by have:=of_decide_eq_false h; omega))⟩)
    have:=of_decide_eq_true h
    have hs:=hc.sorted
    rw [e] at hs
    have:=(List.pairwise_append.1 hs).2.2 p hp3 y (by simp)
    omega
   ·have h0:pre=[]:=List.eq_nil_of_length_eq_zero (by omega)
    subst h0
    rw [decide_eq_false (by simp:¬ 0 < (([]:List Int).length:Int))]
    refine H5 (Gj (H5 (Gj ?_)))
    simp only [Bool.false_and,cond_false]
    exact hnx _ ⟨H5c hI1 hy,by simp⟩
  ·have hf:(decide (0≤y)&&decide (y≤IntKind.i64.wrap (c.Tiers - 1)))=false:=by
    rw [Bool.and_eq_false_iff,decide_eq_false_iff_not,decide_eq_false_iff_not]
    omega
   rw [hf]
   simp only [Bool.not_false,Bool.not_true,Bool.false_and,cond_false,Bool.true_or,cond_true]
   refine H5 (Gj (H5 (Gj (Gj (H3e fun hc=>hy ?_)))))
   have h1:=hc.plugs y hym
   have h2:=hc.place
   rw [hw (by omega)]
   omega
 ·obtain⟨hI1,hI2⟩:=hI
  refine H2 (Q0f _) (Gj ?_)
  simp only [List.all_cons,List.all_nil,Bool.and_true,Bool.and_eq_true,decide_eq_true_eq]
  constructor
  ·rintro⟨a1,a2,a3,a4,a5,a6,a7,a8,a9,a10⟩
   have hw:=hw a3
   exact⟨fun p hp=>by have:=hI1 p hp; omega,hI2,by omega,by omega,by omega⟩
  ·intro h
   obtain⟨_,_,b1,b2,b3⟩:=h
   omega
def dk (b:Bool):Int:=bif b then 1 else 0
def k3 (c:G2):Hg:=⟨c.Bay,c.Row,dk c.Deck⟩
def x3 (x:G8):List Hg:=x.Rows.map fun r=>⟨x.Bay,r,2⟩
structure CovR (x:G8):Prop where
 bay:0≤x.Bay∧x.Bay≤39
 some:x.Rows≠[]
 rows:∀ r∈x.Rows,0≤r∧r≤30
 sorted:x.Rows.Pairwise (· < ·)
structure J5b (s:Gk):Prop where
 num:1≤s.Columns.length∧s.Columns.length≤200∧s.Covers.length≤40
 col:∀ c∈s.Columns,Ye4 c
 cov:∀ x∈s.Covers,CovR x
 nodup:(s.Columns.map k3++s.Covers.flatMap x3).Nodup
theorem Yf5 {κ:Type} [DecidableEq κ] {m:Ju κ Int} {l:List κ} (h:Ju.l m=tally l) (a:κ):Ju.l (Ju.put m a (Ju.get m a 0+1))=tally (l++[a]):=by
 rw [Hd8]
 show Gfc (Ju.l m) a ((G2a (Ju.l m) a).getD 0+1)=_
 rw [h]
theorem Yf9 {κ:Type} [DecidableEq κ] {m:Ju κ Int} {l:List κ} (h:Ju.l m=tally l) (a:κ):0≤Ju.get m a 0∧Ju.get m a 0≤(l.length:Int):=by
 have:=R66 l a
 show 0≤(G2a (Ju.l m) a).getD 0∧_
 rw [h]
 exact⟨this.1,by show (G2a (Ju.l m) a).getD 0≤_; rw [h]; exact this.2⟩
theorem Y8e (l:List G8) (h:∀ x∈l,x.Rows.length≤1048576):(l.flatMap x3).length≤1048576*l.length:=by
 induction l with
 | nil=>simp
 | cons x l ih=>
  have h1:=h x (List.mem_cons_self ..)
  have h2:=ih (fun y hy=>h y (List.mem_cons_of_mem _ hy))
  rw [List.flatMap_cons,List.length_append,List.length_cons]
  have:(x3 x).length=x.Rows.length:=by simp [x3]
  omega
theorem Q74 (s:Gk) (hp:∀ c∈s.Columns,c.Plugs.length≤1048576) (hr:∀ x∈s.Covers,x.Rows.length≤1048576):Wp (Gac s) (fun r=>r=true ↔ J5b s):=by
 unfold Gac H57
 refine Hr (fun hc=>Gj (H3e fun h=>?_)) (fun hc=>?_)
 ·have:=h.num
  simp only [Bool.or_eq_true,decide_eq_true_eq] at hc
  omega
 simp only [Bool.or_eq_false_iff,decide_eq_false_iff_not] at hc
 have hn:1≤s.Columns.length∧s.Columns.length≤200∧s.Covers.length≤40:=by omega
 refine Y3 (fun pre m=>Ju.l m=tally (pre.map k3)∧∀ c∈pre,Ye4 c) ⟨rfl,fun c hc=>(List.not_mem_nil hc).elim⟩ (fun pre y post m nx e hI hnx=>?_) (fun m hI=>?_)
 ·obtain⟨hI1,hI2⟩:=hI
  have hym:y∈s.Columns:=by rw [e]; simp
  have hpl:pre.length < s.Columns.length:=by rw [e]; simp
  refine G7c (fun j=>j=dk y.Deck) (fun K hK=>Hr (fun h=>hK _ (by rw [h]; rfl)) (fun h=>hK _ (by rw [h]; rfl))) (fun j hj=>?_)
  subst hj
  have hb:=Yf9 hI1 (k3 y)
  rw [List.length_map] at hb
  refine H2 (x:=Ju.get m (k3 y) 0) rfl (R1 ⟨by omega,by omega⟩ (H5 (wp_mono (Y5e y (hp y hym)) (fun r hr=>Hr (fun h=>Gj (H3e fun hs=>?_)) (fun h=>hnx _ ⟨?_,H5c hI2 ?_⟩)))))
  ·rw [hr.2 (hs.col y hym)] at h; cases h
  ·rw [List.map_append]; exact Yf5 hI1 (k3 y)
  ·cases r with
   | true=>exact hr.1 rfl
   | false=>cases h
 obtain⟨hI1,hI2⟩:=hI
 refine Y3 (fun pre m=>Ju.l m=tally (s.Columns.map k3++pre.flatMap x3)∧∀ x∈pre,CovR x) ⟨by simpa using hI1,fun c hc=>(List.not_mem_nil hc).elim⟩ (fun pre y post m nx e hJ hnx=>?_) (fun m hJ=>?_)
 ·obtain⟨hJ1,hJ2⟩:=hJ
  have hym:y∈s.Covers:=by rw [e]; simp
  have hpl:pre.length < s.Covers.length:=by rw [e]; simp
  refine Hr (fun hc=>Gj (H3e fun h=>?_)) (fun hc=>?_)
  ·have h1:=(h.cov y hym).bay
   have h2:=(h.cov y hym).some
   simp only [Bool.or_eq_true,decide_eq_true_eq] at hc
   have:y.Rows.length≠0:=fun h=>h2 (List.length_eq_zero_iff.1 h)
   omega
  simp only [Bool.or_eq_false_iff,decide_eq_false_iff_not] at hc
  have hne:y.Rows≠[]:=fun h=>by rw [h] at hc; simp at hc
  have hfl:=Y8e pre (fun x hx=>hr x (by rw [e]; exact List.mem_append.2 (.inl hx)))
  have hrl:=hr y hym
  refine Y3 (fun pr m=>Ju.l m=tally (s.Columns.map k3++pre.flatMap x3++pr.map (fun r=>(⟨y.Bay,r,2⟩:Hg)))∧(∀ r∈pr,0≤r∧r≤30)∧pr.Pairwise (· < ·)) ⟨by simpa using hJ1,fun c hc=>(List.not_mem_nil hc).elim,List.Pairwise.nil⟩ (fun pr r pos m nx' e' hK hnx'=>?_) (fun m hK=>hnx _ ⟨?_,H5c hJ2 ⟨by omega,hne,hK.2.1,hK.2.2⟩⟩)
  ·obtain⟨hK1,hK2,hK3⟩:=hK
   have hrm:r∈y.Rows:=by rw [e']; simp
   have hprl:pr.length < y.Rows.length:=by rw [e']; simp
   have go:0≤r∧r≤30→(∀ a∈pr,a < r)→Wp (bnd (some (Ju.get m ⟨y.Bay,r,2⟩ 0)) fun v167=>chk (v167+1) fun v168=>nx' (Ju.put m ⟨y.Bay,r,2⟩ v168)) (fun r=>r=true ↔ J5b s):=fun h1 h2=>by
    have hb:=Yf9 hK1 ⟨y.Bay,r,2⟩
    simp only [List.length_append,List.length_map] at hb
    refine H5 (Gj (R1 ⟨by omega,by omega⟩ (hnx' _ ⟨?_,H5c hK2 h1,R1f hK3 h2⟩)))
    rw [List.map_append,← List.append_assoc]
    exact Yf5 hK1 ⟨y.Bay,r,2⟩
   by_cases hrr:0≤r∧r≤30
   ·have hok:(decide (r < 0)||decide (30 < r))=false:=by simp; omega
    simp only [hok,Bool.not_false,Bool.true_and,Bool.false_or]
    by_cases hp0:0 < pr.length
    ·obtain⟨p,hp1,hp2,hp3⟩:=Q35 e' hp0
     rw [decide_eq_true (by omega:0 < (pr.length:Int)),cond_true]
     refine H5 (R1 ⟨by omega,by omega⟩ (Gj ?_))
     have hpi:(pr.length:Int) - 1=((pr.length - 1:Nat):Int):=by omega
     rw [hpi]
     refine H2 ((R27 hp1 some).trans rfl) ?_
     simp only [Bool.true_and]
     refine Hr (fun h=>Gj (H3e fun hc=>?_)) (fun h=>go hrr (J17 hK3 hp2 (by have:=of_decide_eq_false h; omega)))
     have:=of_decide_eq_true h
     have hs:=(hc.cov y hym).sorted
     rw [e'] at hs
     have:=(List.pairwise_append.1 hs).2.2 p hp3 r (by simp)
     omega
    ·have h0:pr=[]:=List.eq_nil_of_length_eq_zero (by omega)
     subst h0
     rw [decide_eq_false (by simp:¬ 0 < (([]:List Int).length:Int))]
     refine H5 (Gj (H5 (Gj ?_)))
     simp only [Bool.false_and,cond_false]
     exact go hrr (fun a ha=>(List.not_mem_nil ha).elim)
   ·have hok:(decide (r < 0)||decide (30 < r))=true:=by simp; omega
    simp only [hok,Bool.not_true,Bool.false_and,cond_false,Bool.true_or,cond_true]
    exact H5 (Gj (H5 (Gj (Gj (H3e fun hc=>hrr ((hc.cov y hym).rows r hrm))))))
  ·rw [List.flatMap_append,← List.append_assoc]
   simpa [x3] using hK.1
 ·obtain⟨hJ1,hJ2⟩:=hJ
  rw [J9a (c:=fun x:Hg×Int=>decide (1 < x.2))]
  refine Gj ?_
  have hiff:(Ju.l m).any (fun x=>decide (1 < x.2))=false ↔ (s.Columns.map k3++s.Covers.flatMap x3).Nodup:=by
   rw [← R1a,hJ1,List.any_eq_false]
   constructor
   ·intro h j a n hj
    have:=h (a,n) (List.mem_of_getElem? hj)
    simp only [decide_eq_true_eq] at this
    omega
   ·intro h x hx
    obtain⟨j,hj⟩:=List.mem_iff_getElem?.1 hx
    have:=h j x.1 x.2 hj
    simp only [decide_eq_true_eq]
    omega
  cases hany:(Ju.l m).any (fun x=>decide (1 < x.2)) with
  | true=>
   refine H3e fun h=>?_
   rw [hiff.2 h.nodup] at hany; cases hany
  | false=>exact⟨fun _=>⟨hn,hI2,hJ2,hiff.1 hany⟩,fun _=>rfl⟩
theorem Ga7 {n k:Nat} (hn:n≤1000001) (hk:k≤1000):decide (n*k≤140737488355328∧n≤maxLen)=true:=by
 have h:n*k≤1000001*1000:=Nat.mul_le_mul hn hk
 have h2:n≤maxLen:=Nat.le_trans hn (by decide)
 exact decide_eq_true ⟨by omega,h2⟩
theorem J28 {α β:Type} {x:α} {k:α→Option β}:bnd (some x) k=k x:=rfl
def J77 {α:Type} (p:α→Bool) (l:List α):Int:=match l.findIdx? p with
 | some j=>(j:Int)
 | none => -1
theorem Hb8 {α:Type} {p:α→Bool} {f:α→Option Bool} {xs:List α} (hf:∀ x∈xs,f x=some (p x)) :
  each (fun y i (_:Unit) nx=>bnd (f y) fun r=>bif r then some (i:Int) else nx ()) (fun _=>some (-1)) xs 0 ()=some (J77 p xs):=by
 have key:∀ (xs:List α),(∀ x∈xs,f x=some (p x))→∀ i:Nat,each (fun y i (_:Unit) nx=>bnd (f y) fun r=>bif r then some (i:Int) else nx ()) (fun _=>some (-1)) xs i ()=some (match xs.findIdx? p with
  | some j=>((i+j:Nat):Int)
  | none => -1):=by
  intro xs
  induction xs with
  | nil=>intro _ i; rfl
  | cons x xs ih=>
   intro hf i
   rw [each,hf x (List.mem_cons_self ..),J28,List.findIdx?_cons]
   cases p x with
   | true=>simp
   | false=>
    simp only [cond_false]
    rw [ih (fun y hy=>hf y (List.mem_cons_of_mem _ hy)) (i+1)]
    cases xs.findIdx? p with
    | none=>simp
    | some j=>show some (((i+1+j:Nat)):Int)=some (((i+(j+1):Nat)):Int); rw [show i+1+j=i+(j+1) by omega]
 rw [key xs hf 0]
 unfold J77
 cases xs.findIdx? p <;> simp
theorem H0d {α:Type} (p:α→Bool) (l:List α):(J77 p l = -1∧(∀ x∈l,p x=false)∧l.find? p=none)∨∃ (m:Nat) (x:α),J77 p l=(m:Int)∧l[m]? = some x∧p x=true∧l.find? p=some x:=by
 unfold J77
 cases h:l.findIdx? p with
 | none=>
  have:=List.findIdx?_eq_none_iff.1 h
  exact .inl ⟨rfl,this,List.find?_eq_none.2 (fun x hx=>by rw [this x hx]; simp)⟩
 | some j=>
  obtain⟨hj,h1,h2⟩:=List.findIdx?_eq_some_iff_getElem.1 h
  refine .inr ⟨j,l[j],rfl,by simp [hj],h1,?_⟩
  refine List.find?_eq_some_iff_getElem.2 ⟨h1,j,hj,rfl,fun k hk=>?_⟩
  simpa using h2 k hk
theorem H97 {α:Type} {p:α→Bool} {l:List α}:decide (0≤J77 p l)=l.any p:=by
 rcases H0d p l with ⟨h1,h2,_⟩ | ⟨m,x,h1,h2,h3,_⟩
 ·rw [h1]
  refine Eq.symm (List.any_eq_false.2 fun x hx=>?_)
  rw [h2 x hx]; exact Bool.false_ne_true
 ·rw [h1,decide_eq_true (by omega)]
  exact(List.any_eq_true.2 ⟨x,List.mem_of_getElem? h2,h3⟩).symm
def Qj (boxes:List Box) (id:Int):Option Box:=boxes.find? (fun b=>decide (b.ID=id))
theorem Hb1 (boxes:List Box) (id:Int):G38 boxes id=some (match Qj boxes id with
  | some b=>(b,true)
  | none=>(Box.mk 0 ByteArray.empty 0 false 0 0 0 0 false,false)):=by
 unfold G38
 have h:Zo boxes (fun z0=>Gc5 z0 id)=some (J77 (fun b:Box=>decide (b.ID=id)) boxes):=Hb8 (fun x _=>rfl)
 rw [h]
 simp only [J28]
 unfold Qj
 rcases H0d (fun b:Box=>decide (b.ID=id)) boxes with ⟨h1,_,h3⟩ | ⟨m,x,h1,h2,_,h4⟩
 ·rw [h1,h3]; rfl
 ·rw [h1,h4,decide_eq_false (by omega),cond_false]
  unfold Yy
  rw [decide_eq_true (by omega),cond_true,show (m:Int).toNat=m by omega,h2]
  rfl
def Q91 (l:List Stowed) (id:Int):Option Stowed:=l.find? (fun x=>decide (x.Box=id))
def H98 (size:Int):List Int:=if size=40 then [0] else if size=20 then [1,2] else []
theorem Q0a (size:Int):G45 size=some (H98 size):=by
 unfold G45 H98
 by_cases h:size=40
 ·simp [h]
 ·by_cases h2:size=20
  ·simp [h2]
  ·simp [h,h2]
theorem Y5c (l:List Int) (v:Int):Z7 l v=some (l.any (fun y=>decide (v=y))):=by
 unfold Z7
 have h:G04 l v=some (J77 (fun y=>decide (v=y)) l):=by
  unfold G04
  exact Hb8 (f:=fun y=>some (decide (v=y))) (fun x _=>rfl)
 rw [h]
 simp only [J28]
 rw [H97]
theorem R2c (l:List Slot) (v:Slot):Qi l v=some (l.any (fun y=>decide (v=y))):=by
 unfold Qi
 have h:Ym l v=some (J77 (fun y=>decide (v=y)) l):=by
  unfold Ym
  exact Hb8 (f:=fun y=>some (decide (v=y))) (fun x _=>rfl)
 rw [h]
 simp only [J28]
 rw [H97]
structure G62 (s:Gk) (x:Slot) (size:Int):Prop where
 col:∃ (m:Nat) (c:G2),x.G2=(m:Int)∧s.Columns[m]? = some c∧x.Tier < c.Tiers
 tier:0≤x.Tier
 half:x.Half∈H98 size
theorem J6e (s:Gk) (x:Slot) (size:Int):Wp (G39 s x size) (fun r=>r=true ↔ G62 s x size):=by
 unfold G39
 by_cases h0:0≤x.G2∧x.G2 < (s.Columns.length:Int)
 ·by_cases h1:0≤x.Tier
  ·obtain⟨m,hm⟩:∃ m:Nat,x.G2=(m:Int):=⟨x.G2.toNat,by omega⟩
   have hml:m < s.Columns.length:=by omega
   have hc:s.Columns[m]? = some s.Columns[m]:=by simp [hml]
   have e:(((decide (0≤x.G2))&&(decide (x.G2 < (s.Columns.length:Int))))&&(decide (0≤x.Tier)))=true:=by simp [h0.1,h0.2,h1]
   simp only [e,cond_true,Bool.true_and]
   refine H5 (Yg hm hc (Gj ?_))
   by_cases h2:x.Tier < (s.Columns[m]).Tiers
   ·rw [decide_eq_true h2]
    simp only [cond_true]
    refine H2 (Q0a size) (H2 (Y5c _ _) (Gj ?_))
    rw [Bool.true_and,List.any_eq_true]
    constructor
    ·rintro⟨y,hy,he⟩
     have:=of_decide_eq_true he
     subst this
     exact⟨⟨m,_,hm,hc,h2⟩,h1,hy⟩
    ·exact fun h=>⟨_,h.half,by simp⟩
   ·rw [decide_eq_false h2]
    simp only [cond_false,Bool.false_and]
    refine H5 (Gj (H5 (Gj (Gj ⟨fun h=>(by cases h),fun h=>?_⟩))))
    obtain⟨m',c,g1,g2,g3⟩:=h.col
    have:m'=m:=by omega
    subst this
    rw [hc] at g2; cases g2
    exact(h2 g3).elim
  ·simp only [decide_eq_false h1,Bool.and_false,cond_false,Bool.false_and]
   exact H5 (Gj (H5 (Gj (H5 (Gj (Gj ⟨fun h=>(by cases h),fun h=>(h1 h.tier).elim⟩))))))
 ·have e:((decide (0≤x.G2))&&(decide (x.G2 < (s.Columns.length:Int))))=false:=by
   by_cases h:0≤x.G2
   ·have:¬ x.G2 < (s.Columns.length:Int):=fun g=>h0 ⟨h,g⟩
    simp [this]
   ·simp [h]
  simp only [e,Bool.false_and,cond_false]
  refine H5 (Gj (H5 (Gj (H5 (Gj (Gj ⟨fun h=>(by cases h),fun h=>?_⟩))))))
  obtain⟨m,c,g1,g2,_⟩:=h.col
  have:=(List.getElem?_eq_some_iff.1 g2).1
  exact(h0 (by omega)).elim
def below (l:List Slot) (x:Slot) (half:Int):Prop:=(⟨x.G2,x.Tier - 1,half⟩:Slot)∈l
def H3b (x:Slot) (l:List Slot):Prop:=x.Tier≤0∨below l x x.Half∨(x.Half=0∧below l x 1∧below l x 2)
theorem J6f (half:Int) (l:List Slot) (x:Slot) (ht : -1000000≤x.Tier∧x.Tier≤1000000):Wp (Zc half l x) (fun r=>r=true ↔ below l x half):=by
 unfold Zc
 refine R1 ⟨by omega,by omega⟩ (H2 (R2c _ _) (Gj ?_))
 rw [List.any_eq_true]
 constructor
 ·rintro⟨y,hy,he⟩
  have:=of_decide_eq_true he
  subst this
  exact hy
 ·exact fun h=>⟨_,h,by simp⟩
theorem Jce (x:Slot) (l:List Slot) (ht : -1000000≤x.Tier∧x.Tier≤1000000):Wp (G1f x l) (fun r=>r=true ↔ H3b x l):=by
 unfold G1f H3b
 refine Hr (fun h=>Gj ⟨fun _=>.inl (of_decide_eq_true h),fun _=>rfl⟩) (fun h=>?_)
 have h0:=of_decide_eq_false h
 refine H5 (wp_mono (J6f x.Half l x ht) (fun r7 h7=>?_))
 cases r7 with
 | true=>
  simp only [Bool.not_true,Bool.false_and,cond_false,Bool.true_or]
  exact H5 (Gj (H5 (Gj (Gj ⟨fun _=>.inr (.inl (h7.1 rfl)),fun _=>rfl⟩))))
 | false=>
  have h7':¬ below l x x.Half:=fun h=>by have:=h7.2 h; cases this
  simp only [Bool.not_false,Bool.true_and,Bool.false_or]
  by_cases hh:x.Half=0
  ·rw [decide_eq_true hh]
   simp only [cond_true,Bool.true_and]
   refine H5 (wp_mono (J6f 1 l x ht) (fun r8 h8=>?_))
   cases r8 with
   | true=>
    simp only [cond_true,Bool.true_and]
    refine H5 (wp_mono (J6f 2 l x ht) (fun r9 h9=>Gj ⟨fun h=>.inr (.inr ⟨hh,h8.1 rfl,h9.1 h⟩),fun h=>?_⟩))
    rcases h with h | h | ⟨_,_,h⟩
    ·exact(h0 h).elim
    ·exact(h7' h).elim
    ·exact h9.2 h
   | false=>
    simp only [cond_false,Bool.false_and]
    refine H5 (Gj (Gj ⟨fun h=>(by cases h),fun h=>?_⟩))
    rcases h with h | h | ⟨_,h,_⟩
    ·exact(h0 h).elim
    ·exact(h7' h).elim
    ·have:=h8.2 h; cases this
  ·rw [decide_eq_false hh]
   simp only [cond_false,Bool.false_and]
   refine H5 (Gj (H5 (Gj (Gj ⟨fun h=>(by cases h),fun h=>?_⟩))))
   rcases h with h | h | ⟨h,_⟩
   ·exact(h0 h).elim
   ·exact(h7' h).elim
   ·exact(hh h).elim
def H1a (a b:Int):Prop:=a=b∨a=0∨b=0
theorem Q09 (a b:Int):Wp (G79 a b) (fun r=>r=true ↔ H1a a b):=by
 unfold G79 H1a
 refine Gj ?_
 simp [or_assoc]
def Hbe (a b:Slot):Prop:=a.G2=b.G2∧a.Tier=b.Tier∧H1a a.Half b.Half
theorem Jcd (a b:Slot):Wp (G94 a b) (fun r=>r=true ↔ Hbe a b):=by
 unfold G94 Hbe
 by_cases h:a.G2=b.G2∧a.Tier=b.Tier
 ·simp only [decide_eq_true h.1,decide_eq_true h.2,Bool.and_self,cond_true,Bool.true_and]
  exact H5 (wp_mono (Q09 _ _) (fun r hr=>Gj ⟨fun e=>⟨h.1,h.2,hr.1 e⟩,fun e=>hr.2 e.2.2⟩))
 ·have e:(decide (a.G2=b.G2)&&decide (a.Tier=b.Tier))=false:=by
   by_cases h1:a.G2=b.G2
   ·have:¬ a.Tier=b.Tier:=fun h2=>h ⟨h1,h2⟩
    simp [this]
   ·simp [h1]
  simp only [e,cond_false,Bool.false_and]
  exact H5 (Gj (Gj ⟨fun e=>(by cases e),fun e=>(h ⟨e.1,e.2.1⟩).elim⟩))
def H9c (a b:Slot):Prop:=a.G2=b.G2∧b.Tier < a.Tier∧H1a a.Half b.Half
theorem Qe8 (a b:Slot):Wp (Ge3 a b) (fun r=>r=true ↔ H9c a b):=by
 unfold Ge3 H9c
 by_cases h:a.G2=b.G2∧b.Tier < a.Tier
 ·simp only [decide_eq_true h.1,decide_eq_true h.2,Bool.and_self,cond_true,Bool.true_and]
  exact H5 (wp_mono (Q09 _ _) (fun r hr=>Gj ⟨fun e=>⟨h.1,h.2,hr.1 e⟩,fun e=>hr.2 e.2.2⟩))
 ·have e:(decide (a.G2=b.G2)&&decide (b.Tier < a.Tier))=false:=by
   by_cases h1:a.G2=b.G2
   ·have:¬ b.Tier < a.Tier:=fun h2=>h ⟨h1,h2⟩
    simp [this]
   ·simp [h1]
  simp only [e,cond_false,Bool.false_and]
  exact H5 (Gj (Gj ⟨fun e=>(by cases e),fun e=>(h ⟨e.1,e.2.1⟩).elim⟩))
def H67 (b:Box):Int:=if b.High then 2896 else 2591
def Gd1 (boxes:List Box) (column half:Int) (n:Int) (x:Stowed):Int:=
 if x.Slot.G2=column∧(x.Slot.Half=half∨x.Slot.Half=0) then (match Qj boxes x.Box with | some b=>n+H67 b | none=>n) else n
def Ze (boxes:List Box) (l:List Stowed) (column half:Int):Int:=l.foldl (Gd1 boxes column half) 0
theorem Q37 {boxes:List Box} {column half n:Int} {x:Stowed}:n≤Gd1 boxes column half n x∧Gd1 boxes column half n x≤n+2896:=by
 unfold Gd1 H67
 split
 ·split
  ·split <;> omega
  ·omega
 ·omega
theorem Q03 (boxes:List Box) (l:List Stowed) (column half:Int) (hl:l.length≤1000000):G78 boxes l column half=some (Ze boxes l column half):=by
 refine G83 ?_
 unfold G78 Ze
 refine Y3 (fun pre n=>n=pre.foldl (Gd1 boxes column half) 0∧0≤n∧n≤2896*pre.length) ⟨rfl,Int.le_refl _,by simp⟩ (fun pre y post n nx e hn hnx=>?_) (fun n hn=>Gj hn.1)
 obtain⟨rfl,h1,h2⟩:=hn
 have hp:pre.length+1≤l.length:=by rw [e]; simp
 have ha:=Q37 (boxes:=boxes) (column:=column) (half:=half) (n:=pre.foldl (Gd1 boxes column half) 0) (x:=y)
 have hlen:((pre++[y]).length:Int)=pre.length+1:=by simp
 generalize hg:pre.foldl (Gd1 boxes column half) 0=n at *
 refine G7c (fun j=>j=Gd1 boxes column half n y) (fun K hK=>?_) (fun j hj=>hnx _ ⟨by rw [hj,List.foldl_append,hg]; rfl,by omega,by rw [hlen]; omega⟩)
 refine Hr (fun hc=>?_) (fun hc=>hK _ ?_)
 ·have hc':y.Slot.G2=column∧(y.Slot.Half=half∨y.Slot.Half=0):=by simpa using hc
  refine H2 (Hb1 boxes y.Box) ?_
  cases hf:Qj boxes y.Box with
  | none=>exact Hr (fun h=>by cases h) (fun _=>hK _ (by unfold Gd1; rw [if_pos hc',hf]))
  | some b=>
   refine Hr (fun _=>?_) (fun h=>by cases h)
   have ht:H2f b=some (H67 b):=by unfold H2f H67; cases b.High <;> rfl
   have hadd:Gd1 boxes column half n y=n+H67 b:=by unfold Gd1; rw [if_pos hc',hf]
   refine H2 ht (R1 ?_ (hK _ hadd.symm))
   rw [← hadd]
   omega
 ·have hc':¬ (y.Slot.G2=column∧(y.Slot.Half=half∨y.Slot.Half=0)):=by simpa using hc
  unfold Gd1; rw [if_neg hc']
def J03 (boxes:List Box) (l:List Stowed) (m:Nat) (c:G2):Prop:=c.Height≤0∨(Ze boxes l m 1≤c.Height∧Ze boxes l m 2≤c.Height)
theorem Qe6 {s:Gk} {boxes:List Box} {l:List Stowed} {m:Nat} {c:G2} (hc:s.Columns[m]? = some c) (hl:l.length≤1000000):Wp (G93 s boxes l (m:Int)) (fun r=>r=true ↔ J03 boxes l m c):=by
 unfold G93 J03
 refine Yg rfl hc ?_
 by_cases h:c.Height≤0
 ·simp only [decide_eq_true h,Bool.not_true,cond_false,Bool.false_and,Bool.true_or]
  exact H5 (Gj (H5 (Gj (Gj ⟨fun _=>.inl h,fun _=>rfl⟩))))
 ·simp only [decide_eq_false h,Bool.not_false,cond_true,Bool.true_and,Bool.false_or]
  refine H2 (Q03 boxes l m 1 hl) ?_
  by_cases h1:Ze boxes l m 1≤c.Height
  ·rw [decide_eq_true h1]
   simp only [cond_true,Bool.true_and]
   exact H2 (Q03 boxes l m 2 hl) (Gj ⟨fun e=>.inr ⟨h1,of_decide_eq_true e⟩,fun e=>decide_eq_true (e.elim (fun e=>(h e).elim) (·.2))⟩)
  ·rw [decide_eq_false h1]
   simp only [cond_false,Bool.false_and]
   exact H5 (Gj (Gj ⟨fun e=>(by cases e),fun e=>e.elim (fun e=>(h e).elim) (fun e=>(h1 e.1).elim)⟩))
theorem Q6c (l:List Stowed) (hl:l.length≤1000000):Gad l=some (l.map (·.Slot)):=by
 refine G83 ?_
 unfold Gad
 refine Y3 (fun pre s=>s=pre.map (·.Slot)) rfl (fun pre y post s nx e hs hnx=>?_) (fun s hs=>Gj hs)
 subst hs
 have hp:pre.length+1≤l.length:=by rw [e]; simp
 exact G06 (Ga7 (by simp only [List.length_map,List.length_singleton]; omega) (by omega)) (hnx _ (by simp))
structure Yv (s:Gk) (boxes:List Box) (l:List Stowed):Prop where
 each:∀ x∈l,∃ b,Qj boxes x.Box=some b∧G62 s x.Slot b.Size∧H3b x.Slot (l.map (·.Slot))
 sorted:l.Pairwise (fun a b=>a.Box < b.Box)
 apart:l.Pairwise (fun a b=>¬ Hbe b.Slot a.Slot)
 fits:∀ m c,s.Columns[m]? = some c→J03 boxes l m c
theorem J58 {α:Type} {R:α→α→Prop} {l:List α} {x:α} (h:l.Pairwise R) (hx:∀ a∈l,R a x):(l++[x]).Pairwise R:=by
 rw [List.pairwise_append]
 refine⟨h,List.pairwise_singleton ..,fun a ha b hb=>?_⟩
 rw [List.mem_singleton] at hb; subst hb
 exact hx a ha
theorem Ga8 {α:Type} {R:α→α→Prop} {pre post:List α} {y:α} (h:(pre++y::post).Pairwise R):∀ a∈pre,R a y:=fun a ha=>(List.pairwise_append.1 h).2.2 a ha y (List.mem_cons_self ..)
theorem H68 {s:Gk} {boxes:List Box} {l:List Stowed} (hr:Gac s=some true) (ht:∀ c∈s.Columns,c.Tiers≤1000000) (hl:l.length≤1000000):Wp (Yz s boxes l) (fun r=>r=true ↔ Yv s boxes l):=by
 unfold Yz
 refine H2 hr (Hr (fun h=>by cases h) (fun _=>?_))
 refine H2 (Q6c l hl) ?_
 refine Y3 (fun pre _=>(∀ x∈pre,∃ b,Qj boxes x.Box=some b∧G62 s x.Slot b.Size∧H3b x.Slot (l.map (·.Slot)))∧pre.Pairwise (fun a b=>a.Box < b.Box)∧pre.Pairwise (fun a b=>¬ Hbe b.Slot a.Slot))
  ⟨fun x hx=>(List.not_mem_nil hx).elim,List.Pairwise.nil,List.Pairwise.nil⟩ (fun pre y post u nx e hI hnx=>?_) (fun u hI=>?_)
 ·obtain⟨i1,i2,i3⟩:=hI
  have hlen:pre.length < l.length:=by rw [e]; simp
  have hy:y∈l:=by rw [e]; simp
  have no:∀ {m:Option Bool},m=some false→¬ Yv s boxes l→Wp m (fun r=>r=true ↔ Yv s boxes l):=fun e h=>by subst e; exact Gj ⟨fun e=>(by cases e),fun e=>(h e).elim⟩
  refine H2 (Hb1 boxes y.Box) ?_
  cases hf:Qj boxes y.Box with
  | none=>
   simp only [Bool.not_false,Bool.not_true,Bool.false_and,cond_false,Bool.true_or,cond_true]
   refine H5 (Gj (H5 (Gj (H5 (Gj (H5 (Gj (no rfl fun h=>?_))))))))
   obtain⟨b,hb,_⟩:=h.each y hy
   rw [hf] at hb; cases hb
  | some b=>
   simp only [Bool.not_true,Bool.not_false,Bool.true_and,Bool.false_or]
   -- the order
   have hprev:Wp (bif decide (0 < (pre.length:Int)) then chk ((pre.length:Int) - 1) some else some 0) (fun v=>Wp (bif decide (0 < (pre.length:Int)) then Yy l v some else some default) (fun y20=>
     ((decide (0 < (pre.length:Int))&&decide (y.Box≤y20.Box))=true→¬ Yv s boxes l)∧((decide (0 < (pre.length:Int))&&decide (y.Box≤y20.Box))=false→∀ a∈pre,a.Box < y.Box))):=by
    rcases List.eq_nil_or_concat pre with hp | ⟨pre',z,hp⟩
    ·subst hp
     simp only [List.length_nil]
     exact Gj (Gj ⟨fun h=>by simp at h,fun _ a ha=>(List.not_mem_nil ha).elim⟩)
    ·have hp':pre=pre'++[z]:=by simpa using hp
     have hpl:pre.length=pre'.length+1:=by rw [hp']; simp
     have hd:decide (0 < (pre.length:Int))=true:=decide_eq_true (by omega)
     have hz:l[pre'.length]? = some z:=by rw [e,hp']; simp
     rw [hd]
     simp only [cond_true,Bool.true_and]
     refine R1 ⟨by omega,by omega⟩ (Gj (Yg (m:=pre'.length) (by omega) hz (Gj ⟨fun h hR=>?_,fun h a ha=>?_⟩)))
     ·have:=of_decide_eq_true h
      have hs:=hR.sorted
      rw [e] at hs
      have:=Ga8 hs z (by rw [hp']; simp)
      omega
     ·have hzy:¬ y.Box≤z.Box:=of_decide_eq_false h
      rw [hp'] at ha
      rcases List.mem_append.1 ha with ha | ha
      ·have:=Ga8 (hp' ▸ i2:(pre'++z::[]).Pairwise _) a ha
       omega
      ·rw [List.mem_singleton] at ha; subst ha; omega
   refine H5 (wp_mono hprev (fun v hv=>H5 (wp_mono hv (fun y20 h20=>?_))))
   obtain⟨n1,n2⟩:=h20
   generalize (decide (0 < (pre.length:Int))&&decide (y.Box≤y20.Box))=c at n1 n2
   cases c with
   | true=>
    simp only [Bool.not_true,cond_false,Bool.true_or,cond_true]
    exact H5 (Gj (H5 (Gj (no rfl (n1 rfl)))))
   | false=>
    simp only [Bool.not_false,cond_true,Bool.false_or]
    have hsort:=n2 rfl
    refine H5 (wp_mono (J6e s y.Slot b.Size) (fun r21 h21=>?_))
    cases r21 with
    | false=>
     simp only [Bool.not_false,Bool.not_true,cond_false,Bool.true_or,cond_true]
     refine H5 (Gj (no rfl fun h=>?_))
     obtain⟨b',hb,hs,_⟩:=h.each y hy
     rw [hf] at hb; cases hb
     have:=h21.2 hs; cases this
    | true=>
     have hslot:=h21.1 rfl
     simp only [Bool.not_true,Bool.not_false,cond_true,Bool.false_or]
     have htier : -1000000≤y.Slot.Tier∧y.Slot.Tier≤1000000:=by
      obtain⟨m,c,_,hc,h3⟩:=hslot.col
      have:=hslot.tier
      have:=ht c (List.mem_of_getElem? hc)
      omega
     refine H5 (wp_mono (Jce y.Slot (l.map (·.Slot)) htier) (fun r22 h22=>?_))
     cases r22 with
     | false=>
      refine Hr (fun _=>no rfl fun h=>?_) (fun h=>by cases h)
      obtain⟨b',hb,_,hh⟩:=h.each y hy
      have:=h22.2 hh; cases this
     | true=>
      have hheld:=h22.1 rfl
      refine Hr (fun h=>by cases h) (fun _=>?_)
      refine H5 (Had (m:=pre.length) rfl (by rw [List.length_map]; omega) ?_)
      have htk:(l.map (·.Slot)).take pre.length=pre.map (·.Slot):=by rw [← List.map_take,e,List.take_left']; rfl
      rw [htk]
      refine Y3 (fun pr _=>∀ a∈pr,¬ Hbe y.Slot a) (fun a ha=>(List.not_mem_nil ha).elim) (fun pr a pos u nx2 e2 hI2 hnx2=>?_) (fun u hI2=>hnx _ ⟨fun x hx=>?_,J58 i2 hsort,J58 i3 (fun a ha=>hI2 a.Slot (List.mem_map.2 ⟨a,ha,rfl⟩))⟩)
      ·refine H5 (wp_mono (Jcd y.Slot a) (fun r48 h48=>?_))
       refine Hr (fun h=>no rfl fun hR=>?_) (fun h=>hnx2 _ (fun a' ha'=>?_))
       ·have hm:=h48.1 h
        have hin:a∈pre.map (·.Slot):=by rw [e2]; simp
        obtain⟨z,hz,rfl⟩:=List.mem_map.1 hin
        have ha:=hR.apart
        rw [e] at ha
        exact Ga8 ha z hz hm
       ·rcases List.mem_append.1 ha' with ha' | ha'
        ·exact hI2 a' ha'
        ·rw [List.mem_singleton] at ha'; subst ha'
         intro hm
         have:=h48.2 hm
         rw [this] at h; cases h
      ·rcases List.mem_append.1 hx with hx | hx
       ·exact i1 x hx
       ·rw [List.mem_singleton] at hx; subst hx
        exact⟨b,hf,hslot,hheld⟩
 ·obtain⟨i1,i2,i3⟩:=hI
  refine Y3 (fun pre _=>∀ m c,m < pre.length→s.Columns[m]? = some c→J03 boxes l m c) (fun m c h=>(Nat.not_lt_zero m h).elim) (fun pre y post u nx e hI hnx=>?_) (fun u hI=>Gj ⟨fun _=>⟨i1,i2,i3,fun m c hc=>hI m c (List.getElem?_eq_some_iff.1 hc).1 hc⟩,fun _=>rfl⟩)
  have hc:s.Columns[pre.length]? = some y:=by rw [e]; simp
  refine H5 (wp_mono (Qe6 hc hl) (fun r hr=>?_))
  cases r with
  | false=>exact Hr (fun _=>Gj ⟨fun e=>(by cases e),fun h=>by have:=hr.2 (h.fits _ _ hc); cases this⟩) (fun h=>by cases h)
  | true=>
   refine Hr (fun h=>by cases h) (fun _=>hnx _ (fun m c hm hmc=>?_))
   rw [List.length_append,List.length_singleton] at hm
   rcases Nat.lt_or_ge m pre.length with h | h
   ·exact hI m c h hmc
   ·have:m=pre.length:=by omega
    subst this
    rw [hc] at hmc; cases hmc
    exact hr.1 rfl
section maps
variable {κ ν:Type} [DecidableEq κ]
theorem Q9d (a:κ):Ju.has (Ju.empty:Ju κ ν) a=false:=rfl
theorem R2f (m:Ju κ ν) (a b:κ) (v:ν):Ju.has (Ju.put m a v) b=(decide (a=b)||Ju.has m b):=by
 unfold Ju.has Ju.put
 have h:=H95 (l:=Gfc m.l a v) (a:=b)
 have h2:=H95 (l:=m.l) (a:=b)
 rw [← h,J3d]
 by_cases e:a=b
 ·simp [e]
 ·simp [e,h2]
end maps
theorem J23 {α:Type} {l:List α} {wanted:α→Option Bool} {p:α→Bool} (hw:∀ x∈l,wanted x=some (p x)) (hl:l.length≤1000000) :
  each (fun y i (s:List Int) nx=>jp (fun kj=>bnd (wanted y) fun r=>bif r then (need (decide ((s.length+[(i:Int)].length)*8≤140737488355328∧s.length+[(i:Int)].length≤maxLen)) <| kj (s++[(i:Int)])) else (kj s)) fun(j:List Int)=>nx j)
   (fun s=>some s) l 0 []=some (G8e p l):=by
 refine G83 ?_
 refine Y3 (fun pre s=>s=G8e p pre) rfl (fun pre x post s nx e hs hnx=>?_) (fun s hs=>Gj hs)
 subst hs
 have hpl:pre.length+1≤l.length:=by rw [e]; simp
 refine G7c (fun j=>j=G8e p (pre++[x])) (fun K hK=>?_) (fun j hj=>hnx _ hj)
 refine H2 (hw x (by rw [e]; simp)) (Hr (fun h=>G06 ?_ (hK _ ?_)) (fun h=>hK _ ?_))
 ·have:=Q16 p pre
  exact Ga7 (by rw [List.length_singleton]; omega) (by omega)
 ·rw [J42,h]; rfl
 ·rw [J42,h]; simp
theorem Y58 {α:Type} (p:α→Bool) (x:α) (l:List α):G8e p (x::l)=(if p x then [0] else [])++(G8e p l).map (·+1):=by
 unfold G8e
 rw [List.zipIdx_cons',List.filter_cons]
 have h:(((l.zipIdx.map (Prod.map id (fun n:Nat=>n+1))).filter (fun y:α×Nat=>p y.1)).map (fun y:α×Nat=>(y.2:Int)))=((l.zipIdx.filter (fun y:α×Nat=>p y.1)).map (fun y:α×Nat=>(y.2:Int))).map (·+1):=by
  rw [List.filter_map,List.map_map,List.map_map]
  rfl
 by_cases hx:p x=true
 ·rw [if_pos (show p (x,0).fst=true from hx),if_pos hx,List.map_cons]
  exact congrArg (List.cons _) h
 ·rw [if_neg (show ¬ p (x,0).fst=true from hx),if_neg hx,List.nil_append]
  exact h
theorem Y57 {α:Type} (p:α→Bool) (l:List α):(G8e p l).head? = match l.findIdx? p with
  | some j=>some (j:Int)
  | none=>none:=by
 induction l with
 | nil=>rfl
 | cons x l ih=>
  rw [Y58,List.findIdx?_cons]
  by_cases hx:p x
  ·simp [hx]
  ·simp only [hx,if_false,Bool.false_eq_true,List.nil_append,List.head?_map,ih]
   cases l.findIdx? p <;> simp
theorem Y8d {α:Type} (p:α→Bool) (l:List α):decide (0 < ((G8e p l).length:Int))=l.any p:=by
 by_cases h:∀ x∈l,p x=false
 ·rw [Ja5.2 h]
  refine Eq.symm (List.any_eq_false.2 fun x hx=>?_)
  rw [h x hx]; exact Bool.false_ne_true
 ·have h1:G8e p l≠[]:=fun e=>h (Ja5.1 e)
  have h2:=List.length_pos_iff.2 h1
  rw [decide_eq_true (by omega)]
  refine Eq.symm (List.any_eq_true.2 ?_)
  refine Classical.byContradiction fun hn=>h fun x hx=>?_
  cases hc:p x with
  | false=>rfl
  | true=>exact(hn ⟨x,hx,hc⟩).elim
def H76 (x:G8) (c:G2):Bool:=decide (x.Bay=c.Bay)&&x.Rows.any (fun r=>decide (r=c.Row))
theorem Q0c (x:G8) (c:G2) (hl:x.Rows.length≤1000000):G7a x c=some (H76 x c):=by
 unfold G7a H76
 by_cases h:x.Bay=c.Bay
 ·have hc:G3d x.Rows (fun z0=>G6e z0 c)=some (G8e (fun r=>decide (r=c.Row)) x.Rows):=by
   unfold G3d
   exact J23 (fun x _=>rfl) hl
  rw [decide_eq_true h]
  simp only [cond_true,Bool.true_and]
  rw [hc,J28,Y8d]
 ·rw [decide_eq_false h]
  rfl
def R4 (s:Gk) (c:G2):Int:=J77 (fun x=>H76 x c) s.Covers
theorem Hdc {s:Gk} {m:Nat} {c:G2} (hc:s.Columns[m]? = some c) (hr:∀ x∈s.Covers,x.Rows.length≤1000000) (hl:s.Covers.length≤1000000):Yd s (m:Int)=some (R4 s c):=by
 have hm:=(List.getElem?_eq_some_iff.1 hc).1
 refine G83 ?_
 unfold Yd
 refine Hr (fun h=>?_) (fun _=>?_)
 ·simp only [Bool.or_eq_true,decide_eq_true_eq] at h
  omega
 have hch:Zh s.Covers (fun z0=>G21 z0 s (m:Int))=some (G8e (fun x=>H76 x c) s.Covers):=by
  unfold Zh
  refine J23 (fun x hx=>G83 ?_) hl
  unfold G21
  exact Yg rfl hc (H2 (Q0c x c (hr x hx)) (Gj rfl))
 refine H2 hch ?_
 have hh:=Y57 (fun x=>H76 x c) s.Covers
 unfold R4 J77
 cases hf:s.Covers.findIdx? (fun x=>H76 x c) with
 | none=>
  rw [hf] at hh
  have h0:G8e (fun x=>H76 x c) s.Covers=[]:=List.head?_eq_none_iff.1 hh
  rw [h0]
  exact Gj rfl
 | some j=>
  rw [hf] at hh
  cases hi:G8e (fun x=>H76 x c) s.Covers with
  | nil=>rw [hi] at hh; cases hh
  | cons z r=>
   rw [hi] at hh
   simp only [List.head?_cons,Option.some.injEq] at hh
   subst hh
   refine Hr (fun h=>?_) (fun _=>Yg (m:=0) rfl rfl (Gj rfl))
   have:=of_decide_eq_true h
   simp only [List.length_cons] at this
   omega
def abB (k:Int) (b:Box):Bool:=decide (b.Load≤k)&&decide (k < b.Discharge)
def Q92 (l:List Stowed) (id:Int):Slot×Bool:=match Q91 l id with
 | some x=>(x.Slot,true)
 | none=>(⟨0,0,0⟩,false)
structure Small (s:Gk):Prop where
 right:Gac s=some true
 cols:1≤s.Columns.length∧s.Columns.length≤40
 tiers:∀ c∈s.Columns,c.Tiers≤100
 covs:s.Covers.length≤1000
 rows:∀ x∈s.Covers,x.Rows.length≤1000
def Yaa (s:Gk) (x:Slot):Prop:=∃ (m:Nat) (c:G2),x.G2=(m:Int)∧s.Columns[m]? = some c
structure Qb7 (U:List Int) (m:Ju Int Unit) (l:List Int):Prop where
 nodup:l.Nodup
 sub:∀ a∈l,a∈U
 has:∀ a,Ju.has m a=decide (a∈l)
theorem Qb7.le {U:List Int} {m:Ju Int Unit} {l:List Int} (h:Qb7 U m l):l.length≤U.length:=h.nodup.length_le_of_subset (fun a ha=>h.sub a ha)
theorem Qb7.start {U:List Int}:Qb7 U (Ju.empty:Ju Int Unit) []:=⟨List.nodup_nil,fun a ha=>(List.not_mem_nil ha).elim,fun a=>by simp [Q9d]⟩
theorem Qb7.snoc {U:List Int} {m:Ju Int Unit} {l:List Int} (h:Qb7 U m l) {id:Int} (h1:id ∉ l) (h2:id∈U):Qb7 U (Ju.put m id ()) (l++[id]):=by
 refine⟨?_,fun a ha=>?_,fun a=>?_⟩
 ·rw [List.nodup_append]
  refine⟨h.nodup,by simp,fun a ha b hb=>?_⟩
  rw [List.mem_singleton] at hb; subst hb
  intro e; subst e; exact h1 ha
 ·rcases List.mem_append.1 ha with ha | ha
  ·exact h.sub a ha
  ·rw [List.mem_singleton] at ha; subst ha; exact h2
 ·rw [R2f,h.has,Bool.eq_iff_iff]
  simp only [Bool.or_eq_true,decide_eq_true_eq,List.mem_append,List.mem_singleton]
  exact⟨fun h=>h.elim (fun e=>.inr e.symm) .inl,fun h=>h.elim .inr (fun e=>.inl e.symm)⟩
theorem G2f {l:List Int} (h:l.Pairwise (· < ·)):l.Nodup:=h.imp (fun h=>by omega)
theorem Small.tier {s:Gk} (h:Small s):∀ c∈s.Columns,c.Tiers≤1000000:=fun c hc=>by have:=h.tiers c hc; omega
theorem Q72 {s:Gk} {x:Slot} {size:Int} (h:G62 s x size):Yaa s x:=by
 obtain⟨m,c,h1,h2,_⟩:=h.col
 exact⟨m,c,h1,h2⟩
theorem J72 {s:Gk} {boxes:List Box}:Yv s boxes []:=⟨fun x hx=>(List.not_mem_nil hx).elim,List.Pairwise.nil,List.Pairwise.nil,fun m c _=>by
 unfold J03 Ze
 simp only [List.foldl_nil]
 omega⟩
theorem Hea {a b:List Int} (ha:a.Pairwise (· < ·)) (hb:b.Pairwise (· < ·)) (h:∀ x,x∈a ↔ x∈b):a=b:=
 List.Perm.eq_of_pairwise (le:=fun x y:Int=>x < y) (fun x y _ _ h1 h2=>by omega) ha hb ((List.perm_ext_iff_of_nodup (G2f ha) (G2f hb)).2 h)
structure VInv (s:Gk) (boxes:List Box) (k:Int) (l:List Stowed):Prop where
 right:Yv s boxes l
 mem:∀ x∈l,∃ b∈boxes,b.ID=x.Box∧abB k b=true
theorem VInv.nil {s:Gk} {boxes:List Box} {k:Int}:VInv s boxes k []:=⟨J72,fun x hx=>(List.not_mem_nil hx).elim⟩
def upon (s:Gk) (x y:Slot):Prop:=∃ (m:Nat) (c:G2) (m1:Nat) (c1:G2),x.G2=(m:Int)∧s.Columns[m]? = some c∧y.G2=(m1:Int)∧s.Columns[m1]? = some c1∧c.Deck=false∧c1.Deck=true∧0≤R4 s c∧R4 s c1=R4 s c
def Ydd (s:Gk) (states:List (List Stowed)) (st:List Stowed) (a b:Int):Prop:=
 (Q92 st a).2=true∧((∃ y∈st,y.Box=b∧H9c y.Slot (Q92 st a).1)∨∃ st2∈states,∃ y∈st2,y.Box=b∧upon s (Q92 st a).1 y.Slot)
def J5c (s:Gk) (states:List (List Stowed)) (a b:Int):Prop:=∃ st∈states,Ydd s states st a b
structure Grown (s:Gk) (U:List Int) (states:List (List Stowed)) (l:List Int) (id:Int) (m:Ju Int Unit) (l':List Int):Prop where
 inv:Qb7 U m l'
 sub:∀ a∈l,a∈l'
 has:id∈l'
 closed:∀ a∈l',a ∉ l→∀ b,J5c s states a b→b∈l'
 least:∀ C:Int→Prop,(∀ a b,C a→J5c s states a b→C b)→(∀ a∈l,C a)→C id→∀ a∈l',C a
structure Rch (s:Gk) (U:List Int) (states:List (List Stowed)) (l:List Int) (id:Int) (m:Ju Int Unit) (l':List Int):Prop where
 inv:Qb7 U m l'
 sub:∀ a∈l++[id],a∈l'
 closed:∀ a∈l',a ∉ l→a≠id→∀ b,J5c s states a b→b∈l'
 least:∀ C:Int→Prop,(∀ a b,C a→J5c s states a b→C b)→(∀ a∈l,C a)→C id→∀ a∈l',C a
section
variable {s:Gk} {U:List Int} {states:List (List Stowed)} {l l' l2:List Int} {id y:Int} {m m2:Ju Int Unit}
theorem Rch.start (h:Qb7 U m (l++[id])):Rch s U states l id m (l++[id]):=
 ⟨h,fun a ha=>ha,fun a ha h1 h2=>by
  rcases List.mem_append.1 ha with ha | ha
  ·exact(h1 ha).elim
  ·exact(h2 (List.mem_singleton.1 ha)).elim,fun C _ hl hid a ha=>by
  rcases List.mem_append.1 ha with ha | ha
  ·exact hl a ha
  ·exact List.mem_singleton.1 ha ▸ hid⟩
theorem Rch.step (h:Rch s U states l id m l') (hp:J5c s states id y) (g:Grown s U states l' y m2 l2):Rch s U states l id m2 l2∧(∀ a∈l',a∈l2)∧y∈l2:=
 ⟨⟨g.inv,fun a ha=>g.sub a (h.sub a ha),fun a ha h1 h2 b hb=>by
  by_cases hal:a∈l'
  ·exact g.sub b (h.closed a hal h1 h2 b hb)
  ·exact g.closed a ha hal b hb,fun C hc hl hid=>g.least C hc (h.least C hc hl hid) (hc id y hid hp)⟩,g.sub,g.has⟩
end
structure Ya1 (s:Gk) (before after:List Stowed) (l:List Int):Prop where
 seeds:∀ st∈[before,after],∀ y∈st,Q92 before y.Box≠Q92 after y.Box→y.Box∈l
 closed:∀ a∈l,∀ b,J5c s [before,after] a b→b∈l
 least:∀ C:Int→Prop,(∀ a b,C a→J5c s [before,after] a b→C b)→(∀ st∈[before,after],∀ y∈st,Q92 before y.Box≠Q92 after y.Box→C y.Box)→∀ a∈l,C a
theorem Q81 {α:Type} {a b x:α} (h:x∈[a,b]):x∈[b,a]:=by
 simp only [List.mem_cons,List.not_mem_nil,or_false] at h ⊢
 exact h.symm
theorem J5c.swap {s:Gk} {a b:List Stowed} {x y:Int} (h:J5c s [a,b] x y):J5c s [b,a] x y:=by
 obtain⟨st,hst,h1,h2⟩:=h
 exact⟨st,Q81 hst,h1,h2.imp _root_.id (fun⟨st2,h3,h4⟩=>⟨st2,Q81 h3,h4⟩)⟩
theorem Ya1.le {s:Gk} {before after:List Stowed} {l l':List Int} (h:Ya1 s before after l) (h':Ya1 s after before l'):∀ a∈l,a∈l':=
 h.least (·∈l') (fun a b ha hb=>h'.closed a ha b hb.swap) (fun st hst y hy hne=>h'.seeds st (Q81 hst) y hy (fun e=>hne e.symm))
section lifted
variable {s:Gk} {before after:List Stowed}
end lifted
instance (a b:Slot):Decidable (H9c a b):=by unfold H9c H1a; infer_instance
def H6d (l:List Stowed) (x:Slot):List Int:=(l.filter (fun y=>decide (H9c y.Slot x))).map (·.Box)
theorem Hb4 {l:List Stowed} {x:Slot} {b:Int}:b∈H6d l x ↔ ∃ y∈l,y.Box=b∧H9c y.Slot x:=by
 unfold H6d
 rw [List.mem_map]
 constructor
 ·rintro⟨y,hy,e⟩
  rw [List.mem_filter,decide_eq_true_eq] at hy
  exact⟨y,hy.1,e,hy.2⟩
 ·rintro⟨y,hy,e,h⟩
  exact⟨y,List.mem_filter.2 ⟨hy,decide_eq_true h⟩,e⟩
def Pl (s:Gk) (l:List Stowed) (a b:Int):Prop:=∃ x∈l,x.Box=a∧∃ y∈l,y.Box=b∧(H9c y.Slot x.Slot∨upon s x.Slot y.Slot)
theorem Jaa {l:List Stowed} (h:l.Pairwise (fun a b=>a.Box < b.Box)) {x y:Stowed} (hx:x∈l) (hy:y∈l) (e:x.Box=y.Box):x=y:=by
 obtain⟨i,hi,rfl⟩:=List.mem_iff_getElem.1 hx
 obtain⟨j,hj,rfl⟩:=List.mem_iff_getElem.1 hy
 have hp:=List.pairwise_iff_getElem.1 h
 rcases Nat.lt_trichotomy i j with g | g | g
 ·have:=hp i j hi hj g; omega
 ·subst g; rfl
 ·have:=hp j i hj hi g; omega
structure Brd (s:Gk) (boxes:List Box) (l:List Stowed):Prop where
 ship:J5b s
 right:Yv s boxes l
 rows:∀ x∈s.Covers,x.Rows.length≤1000000
 covs:s.Covers.length≤1000000
 len:l.length≤1000
theorem Brd.col {s:Gk} {boxes:List Box} {l:List Stowed} (h:Brd s boxes l) {x:Stowed} (hx:x∈l):Yaa s x.Slot:=by
 obtain⟨b,_,h1,_⟩:=h.right.each x hx
 exact Q72 h1
structure R39 (s:Gk) (l:List Stowed) (ids:List Int) (r:List Int):Prop where
 sorted:r.Pairwise (· < ·)
 seeds:∀ a∈ids,a∈r
 closed:∀ a∈r,∀ b,Pl s l a b→b∈r
 least:∀ C:Int→Prop,(∀ a b,C a→Pl s l a b→C b)→(∀ a∈ids,C a)→∀ a∈r,C a
theorem R39.eq {s:Gk} {l:List Stowed} {ids r r':List Int} (h:R39 s l ids r) (h':R39 s l ids r'):r=r':=
 Hea h.sorted h'.sorted (fun x=>⟨fun hx=>h.least (·∈r') (fun a b ha hp=>h'.closed a ha b hp) h'.seeds x hx,fun hx=>h'.least (·∈r) (fun a b ha hp=>h.closed a ha b hp) h.seeds x hx⟩)
def Rff (s:Gk) (boxes:List Box) (l:List Stowed) (ids:List Int) (r:List Int×Int):Prop:=
 (¬ (J5b s∧Yv s boxes l)∧r=([],2))∨(J5b s∧Yv s boxes l∧((¬ (∀ a∈ids,a∈l.map (·.Box))∧r=([],6))∨((∀ a∈ids,a∈l.map (·.Box))∧r.2=0∧R39 s l ids r.1)))
theorem Rff.eq {s:Gk} {boxes:List Box} {l:List Stowed} {ids:List Int} {r r':List Int×Int} (h:Rff s boxes l ids r) (h':Rff s boxes l ids r'):r=r':=by
 rcases h with ⟨h1,h2⟩ | ⟨h1,h2,h3⟩ <;> rcases h' with ⟨k1,k2⟩ | ⟨k1,k2,k3⟩
 ·rw [h2,k2]
 ·exact(h1 ⟨k1,k2⟩).elim
 ·exact(k1 ⟨h1,h2⟩).elim
 ·rcases h3 with ⟨h3,h4⟩ | ⟨h3,h4,h5⟩ <;> rcases k3 with ⟨k3,k4⟩ | ⟨k3,k4,k5⟩
  ·rw [h4,k4]
  ·exact(h3 k3).elim
  ·exact(k3 h3).elim
  ·exact Prod.ext (h5.eq k5) (h4.trans k4.symm)
end Go.Proofs.YtidpfkmbfgihlaaGreat
