/-
 What the program says of a ship and of a state,and what has to be lifted.
-/
import Derived.Test.YtpgkkengffpnpaaGreatXP
set_option linter.unusedVariables false
set_option linter.unusedSimpArgs false
set_option linter.unnecessarySimpa false
set_option maxRecDepth 100000
namespace Go.Proofs.YtpgkkengffpnpaaGreat
open Go.RowKit

theorem Jbe {α γ:Type} {l:List α} {i:Nat} {y:α} (h:l[i]? = some y) (k:α→Option γ):Z0 l (i:Int) k=k y:=by
 unfold Z0
 rw [decide_eq_true (by omega:(0:Int)≤(i:Int)),cond_true,show (i:Int).toNat=i by omega,h]; rfl
/-- A column is right. -/
structure ColR (c:G4):Prop where
 plugs:∀ p∈c.Plugs,0≤p∧p < c.Tiers
 sorted:c.Plugs.Pairwise (· < ·)
 place:0≤c.Bay∧c.Bay≤39∧0≤c.Row∧c.Row≤30∧1≤c.Tiers∧c.Tiers≤10∧0≤c.Height∧c.Height≤40000
 load:0≤c.Kilos20∧c.Kilos20≤500000000∧0≤c.Kilos40∧c.Kilos40≤500000000∧0≤c.Lash∧c.Lash≤1000000000000
 at_ : -500000≤c.X∧c.X≤500000 ∧ -500000≤c.Y∧c.Y≤500000 ∧ -500000≤c.Z∧c.Z≤500000
theorem G95 {p:Prop} (h:¬ p):(false=true) ↔ p:=⟨fun e=>Bool.noConfusion e,fun hp=>(h hp).elim⟩
theorem wp_wrp {β:Type} {Q:β→Prop} {z:Int} {k:Int→Option β} (h:Wp (k (IntKind.i64.wrap z)) Q):Wp (wrp z k) Q:=h
theorem pw_snoc {α:Type} {R:α→α→Prop} {l:List α} {x:α} (h:l.Pairwise R) (hx:∀ a∈l,R a x):(l++[x]).Pairwise R:=by
 rw [List.pairwise_append]
 refine⟨h,List.pairwise_singleton ..,fun a ha b hb=>?_⟩
 rw [List.mem_singleton] at hb; subst hb
 exact hx a ha
theorem Rj {α:Type} {P:α→Prop} {l:List α} {x:α} (h1:∀ y∈l,P y) (h2:P x):∀ y∈l++[x],P y:=fun y hy=>by
 rcases List.mem_append.1 hy with hy | hy
 ·exact h1 y hy
 ·rw [List.mem_singleton.1 hy]; exact h2
/-- In a list in order the one before is less. -/
theorem H49 {pre:List Int} {y p:Int} (h:pre.Pairwise (· < ·)) (hp:pre[pre.length - 1]? = some p) (hy:p < y):∀ a∈pre,a < y:=by
 rcases List.eq_nil_or_concat pre with rfl | ⟨q,z,rfl⟩
 ·intro a ha; cases ha
 ·rw [List.concat_eq_append] at *
  have hz:z=p:=by
   rw [List.length_append,List.length_singleton,show q.length+1 - 1=q.length by omega] at hp
   simpa using hp
  subst hz
  intro a ha
  rcases List.mem_append.1 ha with ha | ha
  ·have:=(List.pairwise_append.1 h).2.2 a ha z (by simp)
   omega
  ·rw [List.mem_singleton.1 ha]; exact hy
theorem J14 (l:List Hd):G11 l=some (l.all (fun x=>decide (x.low≤x.n)&&decide (x.n≤x.high))):=by
 refine G09 ?_
 unfold G11
 refine Je (fun pre _=>pre.all (fun x=>decide (x.low≤x.n)&&decide (x.n≤x.high))=true) rfl (fun pre y post s nx e hI hnx=>Hb (fun h=>Gh ?_) (fun h=>hnx _ ?_)) (fun s hI=>Gh hI.symm)
 ·symm
  rw [List.all_eq_false]
  refine⟨y,by rw [e]; simp,?_⟩
  simp only [Bool.or_eq_true,decide_eq_true_eq] at h
  simp only [Bool.and_eq_true,decide_eq_true_eq]
  omega
 ·simp only [Bool.or_eq_false_iff,decide_eq_false_iff_not] at h
  rw [List.all_append,hI]
  simp only [List.all_cons,List.all_nil,Bool.and_true,Bool.true_and,Bool.and_eq_true,decide_eq_true_eq]
  omega
/-- The step of a list of numbers in order: the one before is looked at. -/
theorem J33 {pre post:List Int} {l:List Int} {y:Int} (e:l=pre++y::post) (hp:0 < pre.length):∃ p,l[pre.length - 1]? = some p∧pre[pre.length - 1]? = some p∧p∈pre:=by
 have h1:pre[pre.length - 1]? = some (pre[pre.length - 1]'(by omega)):=List.getElem?_eq_getElem (by omega)
 exact⟨_,by rw [e,List.getElem?_append_left (by omega)]; exact h1,h1,List.getElem_mem _⟩
theorem col_right (c:G4) (hl:c.Plugs.length≤1048576):Wp (G52 c) (fun r=>r=true ↔ ColR c):=by
 unfold G52
 have hw:1≤c.Tiers∧c.Tiers≤10→IntKind.i64.wrap (c.Tiers - 1)=c.Tiers - 1:=fun h=>J2e (by omega) (by omega)
 refine Je (fun pre _=>(∀ p∈pre,0≤p∧p≤IntKind.i64.wrap (c.Tiers - 1))∧pre.Pairwise (· < ·)) ⟨fun p hp=>(List.not_mem_nil hp).elim,List.Pairwise.nil⟩ (fun pre y post s nx e hI hnx=>?_) (fun s hI=>?_)
 ·obtain⟨hI1,hI2⟩:=hI
  have hym:y∈c.Plugs:=by rw [e]; simp
  have hpl:pre.length < c.Plugs.length:=by rw [e]; simp
  refine wp_wrp (Gy (J14 _) ?_)
  simp only [List.all_cons,List.all_nil,Bool.and_true]
  by_cases hy:0≤y∧y≤IntKind.i64.wrap (c.Tiers - 1)
  ·rw [decide_eq_true hy.1,decide_eq_true hy.2]
   simp only [Bool.and_self,Bool.not_true,Bool.not_false,Bool.true_and,Bool.false_or]
   by_cases hp:0 < pre.length
   ·obtain⟨p,hp1,hp2,hp3⟩:=J33 e hp
    have hwi:IntKind.i64.wrap ((pre.length:Int) - 1)=((pre.length - 1:Nat):Int):=by
     rw [J2e (by omega) (by omega)]; omega
    rw [decide_eq_true (by omega:0 < (pre.length:Int)),cond_true]
    refine Gy (congrArg some hwi) (Gy ((Jbe hp1 some).trans rfl) ?_)
    simp only [Bool.true_and]
    refine Hb (fun h=>Gh (G95 fun hc=>?_)) (fun h=>hnx _ ⟨Rj hI1 hy,pw_snoc hI2 (H49 hI2 hp2 (by have:=of_decide_eq_false h; omega))⟩)
    have:=of_decide_eq_true h
    have hs:=hc.sorted
    rw [e] at hs
    have:=(List.pairwise_append.1 hs).2.2 p hp3 y (by simp)
    omega
   ·have h0:pre=[]:=List.eq_nil_of_length_eq_zero (by omega)
    subst h0
    rw [decide_eq_false (by simp:¬ 0 < (([]:List Int).length:Int))]
    refine H4 (Gh (H4 (Gh ?_)))
    simp only [Bool.false_and,cond_false]
    exact hnx _ ⟨Rj hI1 hy,by simp⟩
  ·have hf:(decide (0≤y)&&decide (y≤IntKind.i64.wrap (c.Tiers - 1)))=false:=by
    rw [Bool.and_eq_false_iff,decide_eq_false_iff_not,decide_eq_false_iff_not]
    omega
   rw [hf]
   simp only [Bool.not_false,Bool.not_true,Bool.false_and,cond_false,Bool.true_or,cond_true]
   refine H4 (Gh (H4 (Gh (Gh (G95 fun hc=>hy ?_)))))
   have h1:=hc.plugs y hym
   have h2:=hc.place
   rw [hw (by omega)]
   omega
 ·obtain⟨hI1,hI2⟩:=hI
  refine Gy (J14 _) (Gh ?_)
  simp only [List.all_cons,List.all_nil,Bool.and_true,Bool.and_eq_true,decide_eq_true_eq]
  constructor
  ·rintro⟨a1,a2,a3,a4,a5,a6,a7,a8,a9,a10⟩
   have hw:=hw a3
   exact⟨fun p hp=>by have:=hI1 p hp; omega,hI2,by omega,by omega,by omega⟩
  ·intro h
   obtain⟨_,_,b1,b2,b3⟩:=h
   omega
def dk (b:Bool):Int:=bif b then 1 else 0
def k3 (c:G4):H9:=⟨c.Bay,c.Row,dk c.Deck⟩
def x3 (x:Ga):List H9:=x.Rows.map fun r=>⟨x.Bay,r,2⟩
structure CovR (x:Ga):Prop where
 bay:0≤x.Bay∧x.Bay≤39
 some:x.Rows≠[]
 rows:∀ r∈x.Rows,0≤r∧r≤30
 sorted:x.Rows.Pairwise (· < ·)
/-- A ship is right. -/
structure H59 (s:Gp):Prop where
 num:1≤s.Columns.length∧s.Columns.length≤200∧s.Covers.length≤40
 col:∀ c∈s.Columns,ColR c
 cov:∀ x∈s.Covers,CovR x
 nodup:(s.Columns.map k3++s.Covers.flatMap x3).Nodup
theorem put_l {κ:Type} [DecidableEq κ] {m:H7 κ Int} {l:List κ} (h:H7.l m=tally l) (a:κ):H7.l (H7.put m a (H7.get m a 0+1))=tally (l++[a]):=by
 rw [H21]
 show Gbf (H7.l m) a ((G21 (H7.l m) a).getD 0+1)=_
 rw [h]
theorem get_b {κ:Type} [DecidableEq κ] {m:H7 κ Int} {l:List κ} (h:H7.l m=tally l) (a:κ):0≤H7.get m a 0∧H7.get m a 0≤(l.length:Int):=by
 have:=tally_bound l a
 show 0≤(G21 (H7.l m) a).getD 0∧_
 rw [h]
 exact⟨this.1,by show (G21 (H7.l m) a).getD 0≤_; rw [h]; exact this.2⟩
theorem flat_len (l:List Ga) (h:∀ x∈l,x.Rows.length≤1048576):(l.flatMap x3).length≤1048576*l.length:=by
 induction l with
 | nil=>simp
 | cons x l ih=>
  have h1:=h x (List.mem_cons_self ..)
  have h2:=ih (fun y hy=>h y (List.mem_cons_of_mem _ hy))
  rw [List.flatMap_cons,List.length_append,List.length_cons]
  have:(x3 x).length=x.Rows.length:=by simp [x3]
  omega
theorem J6b (s:Gp) (hp:∀ c∈s.Columns,c.Plugs.length≤1048576) (hr:∀ x∈s.Covers,x.Rows.length≤1048576):Wp (G4d s) (fun r=>r=true ↔ H59 s):=by
 unfold G4d Gcd
 refine Hb (fun hc=>Gh (G95 fun h=>?_)) (fun hc=>?_)
 ·have:=h.num
  simp only [Bool.or_eq_true,decide_eq_true_eq] at hc
  omega
 simp only [Bool.or_eq_false_iff,decide_eq_false_iff_not] at hc
 have hn:1≤s.Columns.length∧s.Columns.length≤200∧s.Covers.length≤40:=by omega
 refine Je (fun pre m=>H7.l m=tally (pre.map k3)∧∀ c∈pre,ColR c) ⟨rfl,fun c hc=>(List.not_mem_nil hc).elim⟩ (fun pre y post m nx e hI hnx=>?_) (fun m hI=>?_)
 ·obtain⟨hI1,hI2⟩:=hI
  have hym:y∈s.Columns:=by rw [e]; simp
  have hpl:pre.length < s.Columns.length:=by rw [e]; simp
  refine G08 (fun j=>j=dk y.Deck) (fun K hK=>Hb (fun h=>hK _ (by rw [h]; rfl)) (fun h=>hK _ (by rw [h]; rfl))) (fun j hj=>?_)
  subst hj
  have hb:=get_b hI1 (k3 y)
  rw [List.length_map] at hb
  refine Gy (x:=H7.get m (k3 y) 0) rfl (Qc ⟨by omega,by omega⟩ (H4 (wp_mono (col_right y (hp y hym)) (fun r hr=>Hb (fun h=>Gh (G95 fun hs=>?_)) (fun h=>hnx _ ⟨?_,Rj hI2 ?_⟩)))))
  ·rw [hr.2 (hs.col y hym)] at h; cases h
  ·rw [List.map_append]; exact put_l hI1 (k3 y)
  ·cases r with
   | true=>exact hr.1 rfl
   | false=>cases h
 obtain⟨hI1,hI2⟩:=hI
 refine Je (fun pre m=>H7.l m=tally (s.Columns.map k3++pre.flatMap x3)∧∀ x∈pre,CovR x) ⟨by simpa using hI1,fun c hc=>(List.not_mem_nil hc).elim⟩ (fun pre y post m nx e hJ hnx=>?_) (fun m hJ=>?_)
 ·obtain⟨hJ1,hJ2⟩:=hJ
  have hym:y∈s.Covers:=by rw [e]; simp
  have hpl:pre.length < s.Covers.length:=by rw [e]; simp
  refine Hb (fun hc=>Gh (G95 fun h=>?_)) (fun hc=>?_)
  ·have h1:=(h.cov y hym).bay
   have h2:=(h.cov y hym).some
   simp only [Bool.or_eq_true,decide_eq_true_eq] at hc
   have:y.Rows.length≠0:=fun h=>h2 (List.length_eq_zero_iff.1 h)
   omega
  simp only [Bool.or_eq_false_iff,decide_eq_false_iff_not] at hc
  have hne:y.Rows≠[]:=fun h=>by rw [h] at hc; simp at hc
  have hfl:=flat_len pre (fun x hx=>hr x (by rw [e]; exact List.mem_append.2 (.inl hx)))
  have hrl:=hr y hym
  refine Je (fun pr m=>H7.l m=tally (s.Columns.map k3++pre.flatMap x3++pr.map (fun r=>(⟨y.Bay,r,2⟩:H9)))∧(∀ r∈pr,0≤r∧r≤30)∧pr.Pairwise (· < ·)) ⟨by simpa using hJ1,fun c hc=>(List.not_mem_nil hc).elim,List.Pairwise.nil⟩ (fun pr r pos m nx' e' hK hnx'=>?_) (fun m hK=>hnx _ ⟨?_,Rj hJ2 ⟨by omega,hne,hK.2.1,hK.2.2⟩⟩)
  ·obtain⟨hK1,hK2,hK3⟩:=hK
   have hrm:r∈y.Rows:=by rw [e']; simp
   have hprl:pr.length < y.Rows.length:=by rw [e']; simp
   have go:0≤r∧r≤30→(∀ a∈pr,a < r)→Wp (bnd (some (H7.get m ⟨y.Bay,r,2⟩ 0)) fun v167=>G0c (v167+1) fun v168=>nx' (H7.put m ⟨y.Bay,r,2⟩ v168)) (fun r=>r=true ↔ H59 s):=fun h1 h2=>by
    have hb:=get_b hK1 ⟨y.Bay,r,2⟩
    simp only [List.length_append,List.length_map] at hb
    refine H4 (Gh (Qc ⟨by omega,by omega⟩ (hnx' _ ⟨?_,Rj hK2 h1,pw_snoc hK3 h2⟩)))
    rw [List.map_append,← List.append_assoc]
    exact put_l hK1 ⟨y.Bay,r,2⟩
   by_cases hrr:0≤r∧r≤30
   ·have hok:(decide (r < 0)||decide (30 < r))=false:=by simp; omega
    simp only [hok,Bool.not_false,Bool.true_and,Bool.false_or]
    by_cases hp0:0 < pr.length
    ·obtain⟨p,hp1,hp2,hp3⟩:=J33 e' hp0
     rw [decide_eq_true (by omega:0 < (pr.length:Int)),cond_true]
     refine H4 (Qc ⟨by omega,by omega⟩ (Gh ?_))
     have hpi:(pr.length:Int) - 1=((pr.length - 1:Nat):Int):=by omega
     rw [hpi]
     refine Gy ((Jbe hp1 some).trans rfl) ?_
     simp only [Bool.true_and]
     refine Hb (fun h=>Gh (G95 fun hc=>?_)) (fun h=>go hrr (H49 hK3 hp2 (by have:=of_decide_eq_false h; omega)))
     have:=of_decide_eq_true h
     have hs:=(hc.cov y hym).sorted
     rw [e'] at hs
     have:=(List.pairwise_append.1 hs).2.2 p hp3 r (by simp)
     omega
    ·have h0:pr=[]:=List.eq_nil_of_length_eq_zero (by omega)
     subst h0
     rw [decide_eq_false (by simp:¬ 0 < (([]:List Int).length:Int))]
     refine H4 (Gh (H4 (Gh ?_)))
     simp only [Bool.false_and,cond_false]
     exact go hrr (fun a ha=>(List.not_mem_nil ha).elim)
   ·have hok:(decide (r < 0)||decide (30 < r))=true:=by simp; omega
    simp only [hok,Bool.not_true,Bool.false_and,cond_false,Bool.true_or,cond_true]
    exact H4 (Gh (H4 (Gh (Gh (G95 fun hc=>hrr ((hc.cov y hym).rows r hrm))))))
  ·rw [List.flatMap_append,← List.append_assoc]
   simpa [x3] using hK.1
 ·obtain⟨hJ1,hJ2⟩:=hJ
  rw [Hc1 (c:=fun x:H9×Int=>decide (1 < x.2))]
  refine Gh ?_
  have hiff:(H7.l m).any (fun x=>decide (1 < x.2))=false ↔ (s.Columns.map k3++s.Covers.flatMap x3).Nodup:=by
   rw [← tally_le_one,hJ1,List.any_eq_false]
   constructor
   ·intro h j a n hj
    have:=h (a,n) (List.mem_of_getElem? hj)
    simp only [decide_eq_true_eq] at this
    omega
   ·intro h x hx
    obtain⟨j,hj⟩:=List.mem_iff_getElem?.1 hx
    have:=h j x.1 x.2 hj
    simp only [decide_eq_true_eq]
    omega
  cases hany:(H7.l m).any (fun x=>decide (1 < x.2)) with
  | true=>
   refine G95 fun h=>?_
   rw [hiff.2 h.nodup] at hany; cases hany
  | false=>exact⟨fun _=>⟨hn,hI2,hJ2,hiff.1 hany⟩,fun _=>rfl⟩
theorem G64 {n k:Nat} (hn:n≤1000001) (hk:k≤1000):decide (n*k≤140737488355328∧n≤maxLen)=true:=by
 have h:n*k≤1000001*1000:=Nat.mul_le_mul hn hk
 have h2:n≤maxLen:=Nat.le_trans hn (by decide)
 exact decide_eq_true ⟨by omega,h2⟩
theorem H56 {α β:Type} {x:α} {k:α→Option β}:bnd (some x) k=k x:=rfl
/-- The place of the first element at which p holds, -1 if there is none. -/
def Hcd {α:Type} (p:α→Bool) (l:List α):Int:=match l.findIdx? p with
 | some j=>(j:Int)
 | none => -1
theorem H10 {α:Type} {p:α→Bool} {f:α→Option Bool} {xs:List α} (hf:∀ x∈xs,f x=some (p x)) :
  each (fun y i (_:Unit) nx=>bnd (f y) fun r=>bif r then some (i:Int) else nx ()) (fun _=>some (-1)) xs 0 ()=some (Hcd p xs):=by
 have key:∀ (xs:List α),(∀ x∈xs,f x=some (p x))→∀ i:Nat,each (fun y i (_:Unit) nx=>bnd (f y) fun r=>bif r then some (i:Int) else nx ()) (fun _=>some (-1)) xs i ()=some (match xs.findIdx? p with
  | some j=>((i+j:Nat):Int)
  | none => -1):=by
  intro xs
  induction xs with
  | nil=>intro _ i; rfl
  | cons x xs ih=>
   intro hf i
   rw [each,hf x (List.mem_cons_self ..),H56,List.findIdx?_cons]
   cases p x with
   | true=>simp
   | false=>
    simp only [cond_false]
    rw [ih (fun y hy=>hf y (List.mem_cons_of_mem _ hy)) (i+1)]
    cases xs.findIdx? p with
    | none=>simp
    | some j=>show some (((i+1+j:Nat)):Int)=some (((i+(j+1):Nat)):Int); rw [show i+1+j=i+(j+1) by omega]
 rw [key xs hf 0]
 unfold Hcd
 cases xs.findIdx? p <;> simp
theorem G01 {α:Type} (p:α→Bool) (l:List α):(Hcd p l = -1∧(∀ x∈l,p x=false)∧l.find? p=none)∨∃ (m:Nat) (x:α),Hcd p l=(m:Int)∧l[m]? = some x∧p x=true∧l.find? p=some x:=by
 unfold Hcd
 cases h:l.findIdx? p with
 | none=>
  have:=List.findIdx?_eq_none_iff.1 h
  exact .inl ⟨rfl,this,List.find?_eq_none.2 (fun x hx=>by rw [this x hx]; simp)⟩
 | some j=>
  obtain⟨hj,h1,h2⟩:=List.findIdx?_eq_some_iff_getElem.1 h
  refine .inr ⟨j,l[j],rfl,by simp [hj],h1,?_⟩
  refine List.find?_eq_some_iff_getElem.2 ⟨h1,j,hj,rfl,fun k hk=>?_⟩
  simpa using h2 k hk
theorem Gf5 {α:Type} {p:α→Bool} {l:List α}:decide (0≤Hcd p l)=l.any p:=by
 rcases G01 p l with ⟨h1,h2,_⟩ | ⟨m,x,h1,h2,h3,_⟩
 ·rw [h1]
  refine Eq.symm (List.any_eq_false.2 fun x hx=>?_)
  rw [h2 x hx]; exact Bool.false_ne_true
 ·rw [h1,decide_eq_true (by omega)]
  exact(List.any_eq_true.2 ⟨x,List.mem_of_getElem? h2,h3⟩).symm
def Q6 (boxes:List G9) (id:Int):Option G9:=boxes.find? (fun b=>decide (b.ID=id))
theorem H0a (boxes:List G9) (id:Int):Zu boxes id=some (match Q6 boxes id with
  | some b=>(b,true)
  | none=>(G9.mk 0 ByteArray.empty 0 false 0 0 0 0 false,false)):=by
 unfold Zu
 have h:Y7 boxes (fun z0=>G62 z0 id)=some (Hcd (fun b:G9=>decide (b.ID=id)) boxes):=H10 (fun x _=>rfl)
 rw [h]
 simp only [H56]
 unfold Q6
 rcases G01 (fun b:G9=>decide (b.ID=id)) boxes with ⟨h1,_,h3⟩ | ⟨m,x,h1,h2,_,h4⟩
 ·rw [h1,h3]; rfl
 ·rw [h1,h4,decide_eq_false (by omega),cond_false]
  unfold Z0
  rw [decide_eq_true (by omega),cond_true,show (m:Int).toNat=m by omega,h2]
  rfl
def Ha3 (l:List Stowed) (id:Int):Option Stowed:=l.find? (fun x=>decide (x.G9=id))
def G66 (size:Int):List Int:=if size=40 then [0] else if size=20 then [1,2] else []
theorem H4a (size:Int):G05 size=some (G66 size):=by
 unfold G05 G66
 by_cases h:size=40
 ·simp [h]
 ·by_cases h2:size=20
  ·simp [h2]
  ·simp [h,h2]
theorem contains8 (l:List Int) (v:Int):Rn l v=some (l.any (fun y=>decide (v=y))):=by
 unfold Rn
 have h:Yr l v=some (Hcd (fun y=>decide (v=y)) l):=by
  unfold Yr
  exact H10 (f:=fun y=>some (decide (v=y))) (fun x _=>rfl)
 rw [h]
 simp only [H56]
 rw [Gf5]
theorem containsSlot (l:List Slot) (v:Slot):R3 l v=some (l.any (fun y=>decide (v=y))):=by
 unfold R3
 have h:Ry l v=some (Hcd (fun y=>decide (v=y)) l):=by
  unfold Ry
  exact H10 (f:=fun y=>some (decide (v=y))) (fun x _=>rfl)
 rw [h]
 simp only [H56]
 rw [Gf5]
/-- There is such a slot in the ship, for boxes of a size. -/
structure Yo (s:Gp) (x:Slot) (size:Int):Prop where
 col:∃ (m:Nat) (c:G4),x.G4=(m:Int)∧s.Columns[m]? = some c∧x.Tier < c.Tiers
 tier:0≤x.Tier
 half:x.Half∈G66 size
theorem J69 (s:Gp) (x:Slot) (size:Int):Wp (G51 s x size) (fun r=>r=true ↔ Yo s x size):=by
 unfold G51
 by_cases h0:0≤x.G4∧x.G4 < (s.Columns.length:Int)
 ·by_cases h1:0≤x.Tier
  ·obtain⟨m,hm⟩:∃ m:Nat,x.G4=(m:Int):=⟨x.G4.toNat,by omega⟩
   have hml:m < s.Columns.length:=by omega
   have hc:s.Columns[m]? = some s.Columns[m]:=by simp [hml]
   have e:(((decide (0≤x.G4))&&(decide (x.G4 < (s.Columns.length:Int))))&&(decide (0≤x.Tier)))=true:=by simp [h0.1,h0.2,h1]
   simp only [e,cond_true,Bool.true_and]
   refine H4 (Ro hm hc (Gh ?_))
   by_cases h2:x.Tier < (s.Columns[m]).Tiers
   ·rw [decide_eq_true h2]
    simp only [cond_true]
    refine Gy (H4a size) (Gy (contains8 _ _) (Gh ?_))
    rw [Bool.true_and,List.any_eq_true]
    constructor
    ·rintro⟨y,hy,he⟩
     have:=of_decide_eq_true he
     subst this
     exact⟨⟨m,_,hm,hc,h2⟩,h1,hy⟩
    ·exact fun h=>⟨_,h.half,by simp⟩
   ·rw [decide_eq_false h2]
    simp only [cond_false,Bool.false_and]
    refine H4 (Gh (H4 (Gh (Gh ⟨fun h=>(by cases h),fun h=>?_⟩))))
    obtain⟨m',c,g1,g2,g3⟩:=h.col
    have:m'=m:=by omega
    subst this
    rw [hc] at g2; cases g2
    exact(h2 g3).elim
  ·simp only [decide_eq_false h1,Bool.and_false,cond_false,Bool.false_and]
   exact H4 (Gh (H4 (Gh (H4 (Gh (Gh ⟨fun h=>(by cases h),fun h=>(h1 h.tier).elim⟩))))))
 ·have e:((decide (0≤x.G4))&&(decide (x.G4 < (s.Columns.length:Int))))=false:=by
   by_cases h:0≤x.G4
   ·have:¬ x.G4 < (s.Columns.length:Int):=fun g=>h0 ⟨h,g⟩
    simp [this]
   ·simp [h]
  simp only [e,Bool.false_and,cond_false]
  refine H4 (Gh (H4 (Gh (H4 (Gh (Gh ⟨fun h=>(by cases h),fun h=>?_⟩))))))
  obtain⟨m,c,g1,g2,_⟩:=h.col
  have:=(List.getElem?_eq_some_iff.1 g2).1
  exact(h0 (by omega)).elim
/-- What holds a slot. -/
def below (l:List Slot) (x:Slot) (half:Int):Prop:=(⟨x.G4,x.Tier - 1,half⟩:Slot)∈l
def H16 (x:Slot) (l:List Slot):Prop:=x.Tier≤0∨below l x x.Half∨(x.Half=0∧below l x 1∧below l x 2)
theorem H9c (half:Int) (l:List Slot) (x:Slot) (ht : -1000000≤x.Tier∧x.Tier≤1000000):Wp (G06 half l x) (fun r=>r=true ↔ below l x half):=by
 unfold G06
 refine Qc ⟨by omega,by omega⟩ (Gy (containsSlot _ _) (Gh ?_))
 rw [List.any_eq_true]
 constructor
 ·rintro⟨y,hy,he⟩
  have:=of_decide_eq_true he
  subst this
  exact hy
 ·exact fun h=>⟨_,h,by simp⟩
theorem slot_held (x:Slot) (l:List Slot) (ht : -1000000≤x.Tier∧x.Tier≤1000000):Wp (G76 x l) (fun r=>r=true ↔ H16 x l):=by
 unfold G76 H16
 refine Hb (fun h=>Gh ⟨fun _=>.inl (of_decide_eq_true h),fun _=>rfl⟩) (fun h=>?_)
 have h0:=of_decide_eq_false h
 refine H4 (wp_mono (H9c x.Half l x ht) (fun r7 h7=>?_))
 cases r7 with
 | true=>
  simp only [Bool.not_true,Bool.false_and,cond_false,Bool.true_or]
  exact H4 (Gh (H4 (Gh (Gh ⟨fun _=>.inr (.inl (h7.1 rfl)),fun _=>rfl⟩))))
 | false=>
  have h7':¬ below l x x.Half:=fun h=>by have:=h7.2 h; cases this
  simp only [Bool.not_false,Bool.true_and,Bool.false_or]
  by_cases hh:x.Half=0
  ·rw [decide_eq_true hh]
   simp only [cond_true,Bool.true_and]
   refine H4 (wp_mono (H9c 1 l x ht) (fun r8 h8=>?_))
   cases r8 with
   | true=>
    simp only [cond_true,Bool.true_and]
    refine H4 (wp_mono (H9c 2 l x ht) (fun r9 h9=>Gh ⟨fun h=>.inr (.inr ⟨hh,h8.1 rfl,h9.1 h⟩),fun h=>?_⟩))
    rcases h with h | h | ⟨_,_,h⟩
    ·exact(h0 h).elim
    ·exact(h7' h).elim
    ·exact h9.2 h
   | false=>
    simp only [cond_false,Bool.false_and]
    refine H4 (Gh (Gh ⟨fun h=>(by cases h),fun h=>?_⟩))
    rcases h with h | h | ⟨_,h,_⟩
    ·exact(h0 h).elim
    ·exact(h7' h).elim
    ·have:=h8.2 h; cases this
  ·rw [decide_eq_false hh]
   simp only [cond_false,Bool.false_and]
   refine H4 (Gh (H4 (Gh (Gh ⟨fun h=>(by cases h),fun h=>?_⟩))))
   rcases h with h | h | ⟨h,_⟩
   ·exact(h0 h).elim
   ·exact(h7' h).elim
   ·exact(hh h).elim
def Ga0 (a b:Int):Prop:=a=b∨a=0∨b=0
theorem J10 (a b:Int):Wp (G2a a b) (fun r=>r=true ↔ Ga0 a b):=by
 unfold G2a Ga0
 refine Gh ?_
 simp [or_assoc]
def H36 (a b:Slot):Prop:=a.G4=b.G4∧a.Tier=b.Tier∧Ga0 a.Half b.Half
theorem slot_meet (a b:Slot):Wp (G75 a b) (fun r=>r=true ↔ H36 a b):=by
 unfold G75 H36
 by_cases h:a.G4=b.G4∧a.Tier=b.Tier
 ·simp only [decide_eq_true h.1,decide_eq_true h.2,Bool.and_self,cond_true,Bool.true_and]
  exact H4 (wp_mono (J10 _ _) (fun r hr=>Gh ⟨fun e=>⟨h.1,h.2,hr.1 e⟩,fun e=>hr.2 e.2.2⟩))
 ·have e:(decide (a.G4=b.G4)&&decide (a.Tier=b.Tier))=false:=by
   by_cases h1:a.G4=b.G4
   ·have:¬ a.Tier=b.Tier:=fun h2=>h ⟨h1,h2⟩
    simp [this]
   ·simp [h1]
  simp only [e,cond_false,Bool.false_and]
  exact H4 (Gh (Gh ⟨fun e=>(by cases e),fun e=>(h ⟨e.1,e.2.1⟩).elim⟩))
def Gf7 (a b:Slot):Prop:=a.G4=b.G4∧b.Tier < a.Tier∧Ga0 a.Half b.Half
theorem slot_over (a b:Slot):Wp (Gac a b) (fun r=>r=true ↔ Gf7 a b):=by
 unfold Gac Gf7
 by_cases h:a.G4=b.G4∧b.Tier < a.Tier
 ·simp only [decide_eq_true h.1,decide_eq_true h.2,Bool.and_self,cond_true,Bool.true_and]
  exact H4 (wp_mono (J10 _ _) (fun r hr=>Gh ⟨fun e=>⟨h.1,h.2,hr.1 e⟩,fun e=>hr.2 e.2.2⟩))
 ·have e:(decide (a.G4=b.G4)&&decide (b.Tier < a.Tier))=false:=by
   by_cases h1:a.G4=b.G4
   ·have:¬ b.Tier < a.Tier:=fun h2=>h ⟨h1,h2⟩
    simp [this]
   ·simp [h1]
  simp only [e,cond_false,Bool.false_and]
  exact H4 (Gh (Gh ⟨fun e=>(by cases e),fun e=>(h ⟨e.1,e.2.1⟩).elim⟩))
/-- The height of what stands in a half of a column. -/
def tallI (b:G9):Int:=if b.High then 2896 else 2591
def G59 (boxes:List G9) (column half:Int) (n:Int) (x:Stowed):Int:=
 if x.Slot.G4=column∧(x.Slot.Half=half∨x.Slot.Half=0) then (match Q6 boxes x.G9 with | some b=>n+tallI b | none=>n) else n
def G30 (boxes:List G9) (l:List Stowed) (column half:Int):Int:=l.foldl (G59 boxes column half) 0
theorem J35 {boxes:List G9} {column half n:Int} {x:Stowed}:n≤G59 boxes column half n x∧G59 boxes column half n x≤n+2896:=by
 unfold G59 tallI
 split
 ·split
  ·split <;> omega
  ·omega
 ·omega
theorem J0d (boxes:List G9) (l:List Stowed) (column half:Int) (hl:l.length≤1000000):G29 boxes l column half=some (G30 boxes l column half):=by
 refine G09 ?_
 unfold G29 G30
 refine Je (fun pre n=>n=pre.foldl (G59 boxes column half) 0∧0≤n∧n≤2896*pre.length) ⟨rfl,Int.le_refl _,by simp⟩ (fun pre y post n nx e hn hnx=>?_) (fun n hn=>Gh hn.1)
 obtain⟨rfl,h1,h2⟩:=hn
 have hp:pre.length+1≤l.length:=by rw [e]; simp
 have ha:=J35 (boxes:=boxes) (column:=column) (half:=half) (n:=pre.foldl (G59 boxes column half) 0) (x:=y)
 have hlen:((pre++[y]).length:Int)=pre.length+1:=by simp
 generalize hg:pre.foldl (G59 boxes column half) 0=n at *
 refine G08 (fun j=>j=G59 boxes column half n y) (fun K hK=>?_) (fun j hj=>hnx _ ⟨by rw [hj,List.foldl_append,hg]; rfl,by omega,by rw [hlen]; omega⟩)
 refine Hb (fun hc=>?_) (fun hc=>hK _ ?_)
 ·have hc':y.Slot.G4=column∧(y.Slot.Half=half∨y.Slot.Half=0):=by simpa using hc
  refine Gy (H0a boxes y.G9) ?_
  cases hf:Q6 boxes y.G9 with
  | none=>exact Hb (fun h=>by cases h) (fun _=>hK _ (by unfold G59; rw [if_pos hc',hf]))
  | some b=>
   refine Hb (fun _=>?_) (fun h=>by cases h)
   have ht:Gaa b=some (tallI b):=by unfold Gaa tallI; cases b.High <;> rfl
   have hadd:G59 boxes column half n y=n+tallI b:=by unfold G59; rw [if_pos hc',hf]
   refine Gy ht (Qc ?_ (hK _ hadd.symm))
   rw [← hadd]
   omega
 ·have hc':¬ (y.Slot.G4=column∧(y.Slot.Half=half∨y.Slot.Half=0)):=by simpa using hc
  unfold G59; rw [if_neg hc']
def H3c (boxes:List G9) (l:List Stowed) (m:Nat) (c:G4):Prop:=c.Height≤0∨(G30 boxes l m 1≤c.Height∧G30 boxes l m 2≤c.Height)
theorem stow_fits {s:Gp} {boxes:List G9} {l:List Stowed} {m:Nat} {c:G4} (hc:s.Columns[m]? = some c) (hl:l.length≤1000000):Wp (G3e s boxes l (m:Int)) (fun r=>r=true ↔ H3c boxes l m c):=by
 unfold G3e H3c
 refine Ro rfl hc ?_
 by_cases h:c.Height≤0
 ·simp only [decide_eq_true h,Bool.not_true,cond_false,Bool.false_and,Bool.true_or]
  exact H4 (Gh (H4 (Gh (Gh ⟨fun _=>.inl h,fun _=>rfl⟩))))
 ·simp only [decide_eq_false h,Bool.not_false,cond_true,Bool.true_and,Bool.false_or]
  refine Gy (J0d boxes l m 1 hl) ?_
  by_cases h1:G30 boxes l m 1≤c.Height
  ·rw [decide_eq_true h1]
   simp only [cond_true,Bool.true_and]
   exact Gy (J0d boxes l m 2 hl) (Gh ⟨fun e=>.inr ⟨h1,of_decide_eq_true e⟩,fun e=>decide_eq_true (e.elim (fun e=>(h e).elim) (·.2))⟩)
  ·rw [decide_eq_false h1]
   simp only [cond_false,Bool.false_and]
   exact H4 (Gh (Gh ⟨fun e=>(by cases e),fun e=>e.elim (fun e=>(h e).elim) (fun e=>(h1 e.1).elim)⟩))
theorem J65 (l:List Stowed) (hl:l.length≤1000000):G4e l=some (l.map (·.Slot)):=by
 refine G09 ?_
 unfold G4e
 refine Je (fun pre s=>s=pre.map (·.Slot)) rfl (fun pre y post s nx e hs hnx=>?_) (fun s hs=>Gh hs)
 subst hs
 have hp:pre.length+1≤l.length:=by rw [e]; simp
 exact Qn (G64 (by simp only [List.length_map,List.length_singleton]; omega) (by omega)) (hnx _ (by simp))
structure Rf (s:Gp) (boxes:List G9) (l:List Stowed):Prop where
 each:∀ x∈l,∃ b,Q6 boxes x.G9=some b∧Yo s x.Slot b.Size∧H16 x.Slot (l.map (·.Slot))
 sorted:l.Pairwise (fun a b=>a.G9 < b.G9)
 apart:l.Pairwise (fun a b=>¬ H36 b.Slot a.Slot)
 fits:∀ m c,s.Columns[m]? = some c→H3c boxes l m c
theorem H86 {α:Type} {R:α→α→Prop} {l:List α} {x:α} (h:l.Pairwise R) (hx:∀ a∈l,R a x):(l++[x]).Pairwise R:=by
 rw [List.pairwise_append]
 refine⟨h,List.pairwise_singleton ..,fun a ha b hb=>?_⟩
 rw [List.mem_singleton] at hb; subst hb
 exact hx a ha
theorem G83 {α:Type} {R:α→α→Prop} {pre post:List α} {y:α} (h:(pre++y::post).Pairwise R):∀ a∈pre,R a y:=fun a ha=>(List.pairwise_append.1 h).2.2 a ha y (List.mem_cons_self ..)
theorem H22 {s:Gp} {boxes:List G9} {l:List Stowed} (hr:G4d s=some true) (ht:∀ c∈s.Columns,c.Tiers≤1000000) (hl:l.length≤1000000):Wp (Q3 s boxes l) (fun r=>r=true ↔ Rf s boxes l):=by
 unfold Q3
 refine Gy hr (Hb (fun h=>by cases h) (fun _=>?_))
 refine Gy (J65 l hl) ?_
 refine Je (fun pre _=>(∀ x∈pre,∃ b,Q6 boxes x.G9=some b∧Yo s x.Slot b.Size∧H16 x.Slot (l.map (·.Slot)))∧pre.Pairwise (fun a b=>a.G9 < b.G9)∧pre.Pairwise (fun a b=>¬ H36 b.Slot a.Slot))
  ⟨fun x hx=>(List.not_mem_nil hx).elim,List.Pairwise.nil,List.Pairwise.nil⟩ (fun pre y post u nx e hI hnx=>?_) (fun u hI=>?_)
 ·obtain⟨i1,i2,i3⟩:=hI
  have hlen:pre.length < l.length:=by rw [e]; simp
  have hy:y∈l:=by rw [e]; simp
  have no:∀ {m:Option Bool},m=some false→¬ Rf s boxes l→Wp m (fun r=>r=true ↔ Rf s boxes l):=fun e h=>by subst e; exact Gh ⟨fun e=>(by cases e),fun e=>(h e).elim⟩
  refine Gy (H0a boxes y.G9) ?_
  cases hf:Q6 boxes y.G9 with
  | none=>
   simp only [Bool.not_false,Bool.not_true,Bool.false_and,cond_false,Bool.true_or,cond_true]
   refine H4 (Gh (H4 (Gh (H4 (Gh (H4 (Gh (no rfl fun h=>?_))))))))
   obtain⟨b,hb,_⟩:=h.each y hy
   rw [hf] at hb; cases hb
  | some b=>
   simp only [Bool.not_true,Bool.not_false,Bool.true_and,Bool.false_or]
   -- the order
   have hprev:Wp (bif decide (0 < (pre.length:Int)) then G0c ((pre.length:Int) - 1) some else some 0) (fun v=>Wp (bif decide (0 < (pre.length:Int)) then Z0 l v some else some default) (fun y20=>
     ((decide (0 < (pre.length:Int))&&decide (y.G9≤y20.G9))=true→¬ Rf s boxes l)∧((decide (0 < (pre.length:Int))&&decide (y.G9≤y20.G9))=false→∀ a∈pre,a.G9 < y.G9))):=by
    rcases List.eq_nil_or_concat pre with hp | ⟨pre',z,hp⟩
    ·subst hp
     simp only [List.length_nil]
     exact Gh (Gh ⟨fun h=>by simp at h,fun _ a ha=>(List.not_mem_nil ha).elim⟩)
    ·have hp':pre=pre'++[z]:=by simpa using hp
     have hpl:pre.length=pre'.length+1:=by rw [hp']; simp
     have hd:decide (0 < (pre.length:Int))=true:=decide_eq_true (by omega)
     have hz:l[pre'.length]? = some z:=by rw [e,hp']; simp
     rw [hd]
     simp only [cond_true,Bool.true_and]
     refine Qc ⟨by omega,by omega⟩ (Gh (Ro (m:=pre'.length) (by omega) hz (Gh ⟨fun h hR=>?_,fun h a ha=>?_⟩)))
     ·have:=of_decide_eq_true h
      have hs:=hR.sorted
      rw [e] at hs
      have:=G83 hs z (by rw [hp']; simp)
      omega
     ·have hzy:¬ y.G9≤z.G9:=of_decide_eq_false h
      rw [hp'] at ha
      rcases List.mem_append.1 ha with ha | ha
      ·have:=G83 (hp' ▸ i2:(pre'++z::[]).Pairwise _) a ha
       omega
      ·rw [List.mem_singleton] at ha; subst ha; omega
   refine H4 (wp_mono hprev (fun v hv=>H4 (wp_mono hv (fun y20 h20=>?_))))
   obtain⟨n1,n2⟩:=h20
   generalize (decide (0 < (pre.length:Int))&&decide (y.G9≤y20.G9))=c at n1 n2
   cases c with
   | true=>
    simp only [Bool.not_true,cond_false,Bool.true_or,cond_true]
    exact H4 (Gh (H4 (Gh (no rfl (n1 rfl)))))
   | false=>
    simp only [Bool.not_false,cond_true,Bool.false_or]
    have hsort:=n2 rfl
    refine H4 (wp_mono (J69 s y.Slot b.Size) (fun r21 h21=>?_))
    cases r21 with
    | false=>
     simp only [Bool.not_false,Bool.not_true,cond_false,Bool.true_or,cond_true]
     refine H4 (Gh (no rfl fun h=>?_))
     obtain⟨b',hb,hs,_⟩:=h.each y hy
     rw [hf] at hb; cases hb
     have:=h21.2 hs; cases this
    | true=>
     have hslot:=h21.1 rfl
     simp only [Bool.not_true,Bool.not_false,cond_true,Bool.false_or]
     have htier : -1000000≤y.Slot.Tier∧y.Slot.Tier≤1000000:=by
      obtain⟨m,c,_,hc,h3⟩:=hslot.col
      have:=hslot.tier
      have:=ht c (List.mem_of_getElem? hc)
      omega
     refine H4 (wp_mono (slot_held y.Slot (l.map (·.Slot)) htier) (fun r22 h22=>?_))
     cases r22 with
     | false=>
      refine Hb (fun _=>no rfl fun h=>?_) (fun h=>by cases h)
      obtain⟨b',hb,_,hh⟩:=h.each y hy
      have:=h22.2 hh; cases this
     | true=>
      have hheld:=h22.1 rfl
      refine Hb (fun h=>by cases h) (fun _=>?_)
      refine H4 (H41 (m:=pre.length) rfl (by rw [List.length_map]; omega) ?_)
      have htk:(l.map (·.Slot)).take pre.length=pre.map (·.Slot):=by rw [← List.map_take,e,List.take_left']; rfl
      rw [htk]
      refine Je (fun pr _=>∀ a∈pr,¬ H36 y.Slot a) (fun a ha=>(List.not_mem_nil ha).elim) (fun pr a pos u nx2 e2 hI2 hnx2=>?_) (fun u hI2=>hnx _ ⟨fun x hx=>?_,H86 i2 hsort,H86 i3 (fun a ha=>hI2 a.Slot (List.mem_map.2 ⟨a,ha,rfl⟩))⟩)
      ·refine H4 (wp_mono (slot_meet y.Slot a) (fun r48 h48=>?_))
       refine Hb (fun h=>no rfl fun hR=>?_) (fun h=>hnx2 _ (fun a' ha'=>?_))
       ·have hm:=h48.1 h
        have hin:a∈pre.map (·.Slot):=by rw [e2]; simp
        obtain⟨z,hz,rfl⟩:=List.mem_map.1 hin
        have ha:=hR.apart
        rw [e] at ha
        exact G83 ha z hz hm
       ·rcases List.mem_append.1 ha' with ha' | ha'
        ·exact hI2 a' ha'
        ·rw [List.mem_singleton] at ha'; subst ha'
         intro hm
         have:=h48.2 hm
         rw [this] at h; cases h
      ·rcases List.mem_append.1 hx with hx | hx
       ·exact i1 x hx
       ·rw [List.mem_singleton] at hx; subst hx
        exact⟨b,hf,hslot,hheld⟩
 ·obtain⟨i1,i2,i3⟩:=hI
  refine Je (fun pre _=>∀ m c,m < pre.length→s.Columns[m]? = some c→H3c boxes l m c) (fun m c h=>(Nat.not_lt_zero m h).elim) (fun pre y post u nx e hI hnx=>?_) (fun u hI=>Gh ⟨fun _=>⟨i1,i2,i3,fun m c hc=>hI m c (List.getElem?_eq_some_iff.1 hc).1 hc⟩,fun _=>rfl⟩)
  have hc:s.Columns[pre.length]? = some y:=by rw [e]; simp
  refine H4 (wp_mono (stow_fits hc hl) (fun r hr=>?_))
  cases r with
  | false=>exact Hb (fun _=>Gh ⟨fun e=>(by cases e),fun h=>by have:=hr.2 (h.fits _ _ hc); cases this⟩) (fun h=>by cases h)
  | true=>
   refine Hb (fun h=>by cases h) (fun _=>hnx _ (fun m c hm hmc=>?_))
   rw [List.length_append,List.length_singleton] at hm
   rcases Nat.lt_or_ge m pre.length with h | h
   ·exact hI m c h hmc
   ·have:m=pre.length:=by omega
    subst this
    rw [hc] at hmc; cases hmc
    exact hr.1 rfl
section maps
variable {κ ν:Type} [DecidableEq κ]
theorem J8b (a:κ):H7.has (H7.empty:H7 κ ν) a=false:=rfl
theorem amap_has_put (m:H7 κ ν) (a b:κ) (v:ν):H7.has (H7.put m a v) b=(decide (a=b)||H7.has m b):=by
 unfold H7.has H7.put
 have h:=Gf4 (l:=Gbf m.l a v) (a:=b)
 have h2:=Gf4 (l:=m.l) (a:=b)
 rw [← h,Hf2]
 by_cases e:a=b
 ·simp [e]
 ·simp [e,h2]
end maps
theorem H53 {α:Type} {l:List α} {wanted:α→Option Bool} {p:α→Bool} (hw:∀ x∈l,wanted x=some (p x)) (hl:l.length≤1000000) :
  each (fun y i (s:List Int) nx=>jp (fun kj=>bnd (wanted y) fun r=>bif r then (need (decide ((s.length+[(i:Int)].length)*8≤140737488355328∧s.length+[(i:Int)].length≤maxLen)) <| kj (s++[(i:Int)])) else (kj s)) fun(j:List Int)=>nx j)
   (fun s=>some s) l 0 []=some (G3c p l):=by
 refine G09 ?_
 refine Je (fun pre s=>s=G3c p pre) rfl (fun pre x post s nx e hs hnx=>?_) (fun s hs=>Gh hs)
 subst hs
 have hpl:pre.length+1≤l.length:=by rw [e]; simp
 refine G08 (fun j=>j=G3c p (pre++[x])) (fun K hK=>?_) (fun j hj=>hnx _ hj)
 refine Gy (hw x (by rw [e]; simp)) (Hb (fun h=>Qn ?_ (hK _ ?_)) (fun h=>hK _ ?_))
 ·have:=J1a p pre
  exact G64 (by rw [List.length_singleton]; omega) (by omega)
 ·rw [H73,h]; rfl
 ·rw [H73,h]; simp
theorem idxs_cons {α:Type} (p:α→Bool) (x:α) (l:List α):G3c p (x::l)=(if p x then [0] else [])++(G3c p l).map (·+1):=by
 unfold G3c
 rw [List.zipIdx_cons',List.filter_cons]
 have h:(((l.zipIdx.map (Prod.map id (fun n:Nat=>n+1))).filter (fun y:α×Nat=>p y.1)).map (fun y:α×Nat=>(y.2:Int)))=((l.zipIdx.filter (fun y:α×Nat=>p y.1)).map (fun y:α×Nat=>(y.2:Int))).map (·+1):=by
  rw [List.filter_map,List.map_map,List.map_map]
  rfl
 by_cases hx:p x=true
 ·rw [if_pos (show p (x,0).fst=true from hx),if_pos hx,List.map_cons]
  exact congrArg (List.cons _) h
 ·rw [if_neg (show ¬ p (x,0).fst=true from hx),if_neg hx,List.nil_append]
  exact h
theorem idxs_head {α:Type} (p:α→Bool) (l:List α):(G3c p l).head? = match l.findIdx? p with
  | some j=>some (j:Int)
  | none=>none:=by
 induction l with
 | nil=>rfl
 | cons x l ih=>
  rw [idxs_cons,List.findIdx?_cons]
  by_cases hx:p x
  ·simp [hx]
  ·simp only [hx,if_false,Bool.false_eq_true,List.nil_append,List.head?_map,ih]
   cases l.findIdx? p <;> simp
theorem idxs_pos {α:Type} (p:α→Bool) (l:List α):decide (0 < ((G3c p l).length:Int))=l.any p:=by
 by_cases h:∀ x∈l,p x=false
 ·rw [Hcc.2 h]
  refine Eq.symm (List.any_eq_false.2 fun x hx=>?_)
  rw [h x hx]; exact Bool.false_ne_true
 ·have h1:G3c p l≠[]:=fun e=>h (Hcc.1 e)
  have h2:=List.length_pos_iff.2 h1
  rw [decide_eq_true (by omega)]
  refine Eq.symm (List.any_eq_true.2 ?_)
  refine Classical.byContradiction fun hn=>h fun x hx=>?_
  cases hc:p x with
  | false=>rfl
  | true=>exact(hn ⟨x,hx,hc⟩).elim
/-- A cover lies over a place. -/
def Gb6 (x:Ga) (c:G4):Bool:=decide (x.Bay=c.Bay)&&x.Rows.any (fun r=>decide (r=c.Row))
theorem J11 (x:Ga) (c:G4) (hl:x.Rows.length≤1000000):G2b x c=some (Gb6 x c):=by
 unfold G2b Gb6
 by_cases h:x.Bay=c.Bay
 ·have hc:Zv x.Rows (fun z0=>G23 z0 c)=some (G3c (fun r=>decide (r=c.Row)) x.Rows):=by
   unfold Zv
   exact H53 (fun x _=>rfl) hl
  rw [decide_eq_true h]
  simp only [cond_true,Bool.true_and]
  rw [hc,H56,idxs_pos]
 ·rw [decide_eq_false h]
  rfl
def Q7 (s:Gp) (c:G4):Int:=Hcd (fun x=>Gb6 x c) s.Covers
theorem H23 {s:Gp} {m:Nat} {c:G4} (hc:s.Columns[m]? = some c) (hr:∀ x∈s.Covers,x.Rows.length≤1000000) (hl:s.Covers.length≤1000000):Y0 s (m:Int)=some (Q7 s c):=by
 have hm:=(List.getElem?_eq_some_iff.1 hc).1
 refine G09 ?_
 unfold Y0
 refine Hb (fun h=>?_) (fun _=>?_)
 ·simp only [Bool.or_eq_true,decide_eq_true_eq] at h
  omega
 have hch:Rz s.Covers (fun z0=>Zb z0 s (m:Int))=some (G3c (fun x=>Gb6 x c) s.Covers):=by
  unfold Rz
  refine H53 (fun x hx=>G09 ?_) hl
  unfold Zb
  exact Ro rfl hc (Gy (J11 x c (hr x hx)) (Gh rfl))
 refine Gy hch ?_
 have hh:=idxs_head (fun x=>Gb6 x c) s.Covers
 unfold Q7 Hcd
 cases hf:s.Covers.findIdx? (fun x=>Gb6 x c) with
 | none=>
  rw [hf] at hh
  have h0:G3c (fun x=>Gb6 x c) s.Covers=[]:=List.head?_eq_none_iff.1 hh
  rw [h0]
  exact Gh rfl
 | some j=>
  rw [hf] at hh
  cases hi:G3c (fun x=>Gb6 x c) s.Covers with
  | nil=>rw [hi] at hh; cases hh
  | cons z r=>
   rw [hi] at hh
   simp only [List.head?_cons,Option.some.injEq] at hh
   subst hh
   refine Hb (fun h=>?_) (fun _=>Ro (m:=0) rfl rfl (Gh rfl))
   have:=of_decide_eq_true h
   simp only [List.length_cons] at this
   omega
/-- Boxes that are on board behind a call. -/
def abB (k:Int) (b:G9):Bool:=decide (b.Load≤k)&&decide (k < b.Discharge)
/-- The slot of a box in a state, and whether it is there. -/
def J82 (l:List Stowed) (id:Int):Slot×Bool:=match Ha3 l id with
 | some x=>(x.Slot,true)
 | none=>(⟨0,0,0⟩,false)
/-- Ships whose covers and columns are few. -/
structure Small (s:Gp):Prop where
 right:G4d s=some true
 cols:1≤s.Columns.length∧s.Columns.length≤40
 tiers:∀ c∈s.Columns,c.Tiers≤100
 covs:s.Covers.length≤1000
 rows:∀ x∈s.Covers,x.Rows.length≤1000
def ColIn (s:Gp) (x:Slot):Prop:=∃ (m:Nat) (c:G4),x.G4=(m:Int)∧s.Columns[m]? = some c
structure J2d (U:List Int) (m:H7 Int Unit) (l:List Int):Prop where
 nodup:l.Nodup
 sub:∀ a∈l,a∈U
 has:∀ a,H7.has m a=decide (a∈l)
theorem J2d.le {U:List Int} {m:H7 Int Unit} {l:List Int} (h:J2d U m l):l.length≤U.length:=h.nodup.length_le_of_subset (fun a ha=>h.sub a ha)
theorem J2d.start {U:List Int}:J2d U (H7.empty:H7 Int Unit) []:=⟨List.nodup_nil,fun a ha=>(List.not_mem_nil ha).elim,fun a=>by simp [J8b]⟩
theorem J2d.snoc {U:List Int} {m:H7 Int Unit} {l:List Int} (h:J2d U m l) {id:Int} (h1:id ∉ l) (h2:id∈U):J2d U (H7.put m id ()) (l++[id]):=by
 refine⟨?_,fun a ha=>?_,fun a=>?_⟩
 ·rw [List.nodup_append]
  refine⟨h.nodup,by simp,fun a ha b hb=>?_⟩
  rw [List.mem_singleton] at hb; subst hb
  intro e; subst e; exact h1 ha
 ·rcases List.mem_append.1 ha with ha | ha
  ·exact h.sub a ha
  ·rw [List.mem_singleton] at ha; subst ha; exact h2
 ·rw [amap_has_put,h.has,Bool.eq_iff_iff]
  simp only [Bool.or_eq_true,decide_eq_true_eq,List.mem_append,List.mem_singleton]
  exact⟨fun h=>h.elim (fun e=>.inr e.symm) .inl,fun h=>h.elim .inr (fun e=>.inl e.symm)⟩
theorem G81 {l:List Int} (h:l.Pairwise (· < ·)):l.Nodup:=h.imp (fun h=>by omega)
theorem Small.tier {s:Gp} (h:Small s):∀ c∈s.Columns,c.Tiers≤1000000:=fun c hc=>by have:=h.tiers c hc; omega
theorem J6a {s:Gp} {x:Slot} {size:Int} (h:Yo s x size):ColIn s x:=by
 obtain⟨m,c,h1,h2,_⟩:=h.col
 exact⟨m,c,h1,h2⟩
theorem J70 {s:Gp} {boxes:List G9}:Rf s boxes []:=⟨fun x hx=>(List.not_mem_nil hx).elim,List.Pairwise.nil,List.Pairwise.nil,fun m c _=>by
 unfold H3c G30
 simp only [List.foldl_nil]
 omega⟩
theorem H2b {a b:List Int} (ha:a.Pairwise (· < ·)) (hb:b.Pairwise (· < ·)) (h:∀ x,x∈a ↔ x∈b):a=b:=
 List.Perm.eq_of_pairwise (le:=fun x y:Int=>x < y) (fun x y _ _ h1 h2=>by omega) ha hb ((List.perm_ext_iff_of_nodup (G81 ha) (G81 hb)).2 h)
/-- A state in the making, behind a call. -/
structure VInv (s:Gp) (boxes:List G9) (k:Int) (l:List Stowed):Prop where
 right:Rf s boxes l
 mem:∀ x∈l,∃ b∈boxes,b.ID=x.G9∧abB k b=true
theorem VInv.nil {s:Gp} {boxes:List G9} {k:Int}:VInv s boxes k []:=⟨J70,fun x hx=>(List.not_mem_nil hx).elim⟩
/-- y stands on deck upon the cover that x stands under. -/
def upon (s:Gp) (x y:Slot):Prop:=∃ (m:Nat) (c:G4) (m1:Nat) (c1:G4),x.G4=(m:Int)∧s.Columns[m]? = some c∧y.G4=(m1:Int)∧s.Columns[m1]? = some c1∧c.Deck=false∧c1.Deck=true∧0≤Q7 s c∧Q7 s c1=Q7 s c
def PullsIn (s:Gp) (states:List (List Stowed)) (st:List Stowed) (a b:Int):Prop:=
 (J82 st a).2=true∧((∃ y∈st,y.G9=b∧Gf7 y.Slot (J82 st a).1)∨∃ st2∈states,∃ y∈st2,y.G9=b∧upon s (J82 st a).1 y.Slot)
/-- To lift a, b has to be lifted. -/
def H89 (s:Gp) (states:List (List Stowed)) (a b:Int):Prop:=∃ st∈states,PullsIn s states st a b
structure Grown (s:Gp) (U:List Int) (states:List (List Stowed)) (l:List Int) (id:Int) (m:H7 Int Unit) (l':List Int):Prop where
 inv:J2d U m l'
 sub:∀ a∈l,a∈l'
 has:id∈l'
 closed:∀ a∈l',a ∉ l→∀ b,H89 s states a b→b∈l'
 least:∀ C:Int→Prop,(∀ a b,C a→H89 s states a b→C b)→(∀ a∈l,C a)→C id→∀ a∈l',C a
structure Rch (s:Gp) (U:List Int) (states:List (List Stowed)) (l:List Int) (id:Int) (m:H7 Int Unit) (l':List Int):Prop where
 inv:J2d U m l'
 sub:∀ a∈l++[id],a∈l'
 closed:∀ a∈l',a ∉ l→a≠id→∀ b,H89 s states a b→b∈l'
 least:∀ C:Int→Prop,(∀ a b,C a→H89 s states a b→C b)→(∀ a∈l,C a)→C id→∀ a∈l',C a
section
variable {s:Gp} {U:List Int} {states:List (List Stowed)} {l l' l2:List Int} {id y:Int} {m m2:H7 Int Unit}
theorem Rch.start (h:J2d U m (l++[id])):Rch s U states l id m (l++[id]):=
 ⟨h,fun a ha=>ha,fun a ha h1 h2=>by
  rcases List.mem_append.1 ha with ha | ha
  ·exact(h1 ha).elim
  ·exact(h2 (List.mem_singleton.1 ha)).elim,fun C _ hl hid a ha=>by
  rcases List.mem_append.1 ha with ha | ha
  ·exact hl a ha
  ·exact List.mem_singleton.1 ha ▸ hid⟩
theorem Rch.step (h:Rch s U states l id m l') (hp:H89 s states id y) (g:Grown s U states l' y m2 l2):Rch s U states l id m2 l2∧(∀ a∈l',a∈l2)∧y∈l2:=
 ⟨⟨g.inv,fun a ha=>g.sub a (h.sub a ha),fun a ha h1 h2 b hb=>by
  by_cases hal:a∈l'
  ·exact g.sub b (h.closed a hal h1 h2 b hb)
  ·exact g.closed a ha hal b hb,fun C hc hl hid=>g.least C hc (h.least C hc hl hid) (hc id y hid hp)⟩,g.sub,g.has⟩
end
structure Least (s:Gp) (before after:List Stowed) (l:List Int):Prop where
 seeds:∀ st∈[before,after],∀ y∈st,J82 before y.G9≠J82 after y.G9→y.G9∈l
 closed:∀ a∈l,∀ b,H89 s [before,after] a b→b∈l
 least:∀ C:Int→Prop,(∀ a b,C a→H89 s [before,after] a b→C b)→(∀ st∈[before,after],∀ y∈st,J82 before y.G9≠J82 after y.G9→C y.G9)→∀ a∈l,C a
theorem J78 {α:Type} {a b x:α} (h:x∈[a,b]):x∈[b,a]:=by
 simp only [List.mem_cons,List.not_mem_nil,or_false] at h ⊢
 exact h.symm
theorem H89.swap {s:Gp} {a b:List Stowed} {x y:Int} (h:H89 s [a,b] x y):H89 s [b,a] x y:=by
 obtain⟨st,hst,h1,h2⟩:=h
 exact⟨st,J78 hst,h1,h2.imp _root_.id (fun⟨st2,h3,h4⟩=>⟨st2,J78 h3,h4⟩)⟩
theorem Least.le {s:Gp} {before after:List Stowed} {l l':List Int} (h:Least s before after l) (h':Least s after before l'):∀ a∈l,a∈l':=
 h.least (·∈l') (fun a b ha hb=>h'.closed a ha b hb.swap) (fun st hst y hy hne=>h'.seeds st (J78 hst) y hy (fun e=>hne e.symm))
/-- What the program says of a state, of any ship. -/
theorem prog_stow {s:Gp} {boxes:List G9} {l:List Stowed} (hp:∀ c∈s.Columns,c.Plugs.length≤1048576) (hr:∀ x∈s.Covers,x.Rows.length≤1048576) (hl:l.length≤1000000) :
  Wp (Q3 s boxes l) (fun r=>r=true ↔ H59 s∧Rf s boxes l):=by
 obtain⟨r,er,hs⟩:=J6b s hp hr
 cases r with
 | true=>
  have hS:=hs.1 rfl
  refine wp_mono (H22 er (fun c hc=>by have:=(hS.col c hc).place; omega) hl) (fun r h=>h.trans ⟨fun h=>⟨hS,h⟩,fun h=>h.2⟩)
 | false=>
  unfold Q3
  refine Gy er (Hb (fun _=>Gh (G95 fun hh=>?_)) (fun h=>by cases h))
  have:=hs.2 hh.1; cases this
section lifted
variable {s:Gp} {before after:List Stowed}
end lifted
/-- A cover of a right ship lies over a place: then it is the one that lies there. -/
theorem cover_one {s:Gp} (hS:H59 s) {c:G4} {i j:Nat} {x y:Ga} (hi:s.Covers[i]? = some x) (hj:s.Covers[j]? = some y) (hx:Gb6 x c=true) (hy:Gb6 y c=true):i=j:=by
 have hn:(s.Covers.flatMap x3).Nodup:=(List.nodup_append.1 hS.nodup).2.1
 have hmem:∀ z:Ga,Gb6 z c=true→(⟨c.Bay,c.Row,2⟩:H9)∈x3 z:=fun z hz=>by
  unfold Gb6 at hz
  simp only [Bool.and_eq_true,decide_eq_true_eq,List.any_eq_true] at hz
  obtain⟨h1,r,h2,h3⟩:=hz
  exact List.mem_map.2 ⟨r,h2,by rw [h1,h3]⟩
 have key:∀ (l:List Ga) (i j:Nat),(l.flatMap x3).Nodup→i < j→∀ x y,l[i]? = some x→l[j]? = some y→Gb6 x c=true→Gb6 y c=true→False:=by
  intro l
  induction l with
  | nil=>intro i j _ _ x y h; simp at h
  | cons z r ih=>
   intro i j hn hij x y hi hj hx hy
   rw [List.flatMap_cons,List.nodup_append] at hn
   cases j with
   | zero=>omega
   | succ j=>
    rw [List.getElem?_cons_succ] at hj
    cases i with
    | zero=>
     rw [List.getElem?_cons_zero] at hi; cases hi
     exact hn.2.2 _ (hmem _ hx) _ (List.mem_flatMap.2 ⟨y,List.mem_of_getElem? hj,hmem y hy⟩) rfl
    | succ i=>
     rw [List.getElem?_cons_succ] at hi
     exact ih i j hn.2.1 (by omega) x y hi hj hx hy
 rcases Nat.lt_trichotomy i j with h | h | h
 ·exact(key _ i j hn h x y hi hj hx hy).elim
 ·exact h
 ·exact(key _ j i hn h y x hj hi hy hx).elim
theorem J1f {s:Gp} (hS:H59 s) {c:G4} {k:Nat} {x:Ga} (hk:s.Covers[k]? = some x):Gb6 x c=true ↔ Q7 s c=(k:Int):=by
 unfold Q7
 rcases G01 (fun x=>Gb6 x c) s.Covers with ⟨h1,h2,_⟩ | ⟨m,y,h1,h2,h3,_⟩
 ·rw [h1]
  constructor
  ·intro h; rw [h2 x (List.mem_of_getElem? hk)] at h; cases h
  ·intro h; omega
 ·rw [h1]
  constructor
  ·intro h; rw [cover_one hS h2 hk h3 h]
  ·intro h
   have:m=k:=by omega
   subst this
   rw [hk] at h2; cases h2; exact h3
theorem H47 (l:List Stowed) (id:Int):Rm l id=some (Hcd (fun x:Stowed=>decide (x.G9=id)) l):=by
 have h:=H10 (p:=fun x:Stowed=>decide (x.G9=id)) (f:=fun z0=>G60 z0 id) (xs:=l) (fun x _=>rfl)
 exact(congrArg (fun m=>bnd m fun r3=>some r3) h).trans rfl
instance (a b:Slot):Decidable (Gf7 a b):=by unfold Gf7 Ga0; infer_instance
/-- The boxes that stand over a slot. -/
def G5d (l:List Stowed) (x:Slot):List Int:=(l.filter (fun y=>decide (Gf7 y.Slot x))).map (·.G9)
theorem G97 {l:List Stowed} {x:Slot} {b:Int}:b∈G5d l x ↔ ∃ y∈l,y.G9=b∧Gf7 y.Slot x:=by
 unfold G5d
 rw [List.mem_map]
 constructor
 ·rintro⟨y,hy,e⟩
  rw [List.mem_filter,decide_eq_true_eq] at hy
  exact⟨y,hy.1,e,hy.2⟩
 ·rintro⟨y,hy,e,h⟩
  exact⟨y,List.mem_filter.2 ⟨hy,decide_eq_true h⟩,e⟩
/-- Lists that a condition chooses. -/
theorem J1e {α β R:Type} {Q:R→Prop} {p:α→Bool} {f:α→β} {b:α→Nat→List β→(List β→Option R)→Option R} {kx:List β→Option R} {l:List α} (hl:l.length≤1000000)
  (hb:∀ x i st nx,x∈l→st.length≤1000000→(p x=true→Wp (nx (st++[f x])) Q)→(p x=false→Wp (nx st) Q)→Wp (b x i st nx) Q) (hk:Wp (kx ((l.filter p).map f)) Q):Wp (each b kx l 0 []) Q:=by
 refine Je (fun pre st=>st=(pre.filter p).map f) rfl (fun pre x post st nx e hI hnx=>?_) (fun st hI=>by rw [hI]; exact hk)
 subst hI
 have hlen:((pre.filter p).map f).length≤pre.length:=by rw [List.length_map]; exact List.length_filter_le _ _
 have hpl:pre.length≤l.length:=by rw [e]; simp
 refine hb x _ _ nx (by rw [e]; simp) (by omega) (fun h=>hnx _ ?_) (fun h=>hnx _ ?_)
 ·rw [List.filter_append,List.map_append,List.filter_cons_of_pos h]; rfl
 ·rw [List.filter_append,List.map_append,List.filter_cons_of_neg (by rw [h]; exact Bool.false_ne_true)]; simp
theorem room8 {β:Type} {st:List β} {y:β} (h:st.length≤1000000):decide ((st.length+[y].length)*8≤140737488355328∧st.length+[y].length≤maxLen)=true:=by
 refine decide_eq_true ⟨?_,?_⟩
 ·rw [List.length_singleton]; omega
 ·rw [List.length_singleton]; simp only [maxLen]; omega
/-- What Above returns. -/
def J8e (l:List Stowed) (id:Int):List Int×Int:=match Ha3 l id with
 | some x=>(G5d l x.Slot,0)
 | none=>([],6)
theorem J67 (l:List Stowed) (id:Int) (hl:l.length≤1000000):G1d l id=some (J8e l id):=by
 refine G09 ?_
 unfold G1d J8e
 refine Gy (H47 l id) ?_
 unfold Ha3
 rcases G01 (fun x:Stowed=>decide (x.G9=id)) l with ⟨h1,_,h3⟩ | ⟨m,x,h1,h2,_,h4⟩
 ·rw [h1,h3]
  exact Hb (fun _=>Gh rfl) (fun h=>absurd (of_decide_eq_false h) (by omega))
 ·rw [h1,h4]
  refine Hb (fun h=>absurd (of_decide_eq_true h) (by omega)) (fun _=>?_)
  refine J1e (p:=fun y=>decide (Gf7 y.Slot x.Slot)) (f:=(·.G9)) hl (fun y i st nx hy hst ht hf=>?_) (Gh rfl)
  refine G08 (fun j=>j=if Gf7 y.Slot x.Slot then st++[y.G9] else st) (fun K hK=>?_) (fun j hj=>?_)
  ·refine Ro rfl h2 (H4 (wp_mono (slot_over y.Slot x.Slot) (fun r hr=>Hb (fun h=>Qn (room8 hst) (hK _ ?_)) (fun h=>hK _ ?_))))
   ·rw [if_pos (hr.1 h)]
   ·rw [if_neg (fun ho=>by rw [hr.2 ho] at h; cases h)]
  ·by_cases ho:Gf7 y.Slot x.Slot
   ·rw [hj,if_pos ho]; exact ht (decide_eq_true ho)
   ·rw [hj,if_neg ho]; exact hf (decide_eq_false ho)
theorem mem_idxs {α:Type} {p:α→Bool} {l:List α} {z:Int}:z∈G3c p l ↔ ∃ (m:Nat) (x:α),z=(m:Int)∧l[m]? = some x∧p x=true:=by
 unfold G3c
 rw [List.mem_map]
 constructor
 ·rintro⟨⟨x,m⟩,hx,rfl⟩
  rw [List.mem_filter] at hx
  exact⟨m,x,rfl,List.mem_zipIdx_iff_getElem?.1 hx.1,hx.2⟩
 ·rintro⟨m,x,rfl,h1,h2⟩
  exact⟨(x,m),List.mem_filter.2 ⟨List.mem_zipIdx_iff_getElem?.2 h1,h2⟩,rfl⟩
theorem ship_upon {s:Gp} {k:Nat} {x:Ga} (hk:s.Covers[k]? = some x) (hr:∀ x∈s.Covers,x.Rows.length≤1000000) (hc:s.Columns.length≤1000000) :
  Gae s (k:Int)=some (G3c (fun c:G4=>c.Deck&&Gb6 x c) s.Columns):=by
 have hlt:=(List.getElem?_eq_some_iff.1 hk).1
 refine G09 ?_
 unfold Gae Gca
 refine H4 (Hb (fun h=>?_) (fun _=>Gy (x:=G3c (fun c:G4=>c.Deck&&Gb6 x c) s.Columns) ?_ (Gh (Gh rfl))))
 ·simp only [Bool.or_eq_true,decide_eq_true_eq] at h; omega
 unfold Qe
 refine H53 (fun c hcm=>G09 ?_) hc
 unfold G41
 cases hd:c.Deck with
 | false=>exact H4 (Gh (H4 (Gh (Gh rfl))))
 | true=>
  refine Gy (x:=x) ?_ (Gy (x:=Gb6 x c) (J11 x c (hr x (List.mem_of_getElem? hk))) (Gh rfl))
  show Z0 s.Covers (k:Int) some=some x
  exact Jbe hk some
theorem Gc1 (l:List Int) (v:Int):Qa l v=some (l.any (fun y=>decide (v=y))):=by
 unfold Qa Yc
 have key:∀ (l:List Int) (i:Nat),∃ j:Int,each (fun(y:Int) (i:Nat) (_:Unit) nx=>bif decide (v=y) then some (i:Int) else nx ()) (fun(_:Unit)=>some (-1:Int)) l i ()=some j∧decide (0≤j)=l.any (fun y=>decide (v=y)):=by
  intro l
  induction l with
  | nil=>intro i; exact⟨-1,rfl,rfl⟩
  | cons x r ih=>
   intro i
   rw [each,List.any_cons]
   cases decide (v=x) with
   | true=>exact⟨(i:Int),rfl,decide_eq_true (by omega)⟩
   | false=>exact ih (i+1)
 obtain⟨j,e1,e2⟩:=key l 0
 have e1':Yc l v=some j:=e1
 unfold Yc at e1'
 rw [e1']
 show some (decide (0≤j))=_
 rw [e2]
theorem J66 {s:Gp} {m:Nat} {c:G4} (hc:s.Columns[m]? = some c) (hr:∀ x∈s.Covers,x.Rows.length≤1000000) (hl:s.Covers.length≤1000000):G4f s (m:Int)=some (if c.Deck=true then -1 else Q7 s c):=by
 refine G09 ?_
 unfold G4f
 refine Ro rfl hc (Hb (fun h=>Gh (by rw [if_pos h])) (fun h=>Gy (H23 hc hr hl) (Gh (by rw [if_neg (by rw [h]; exact Bool.false_ne_true)]))))
/-- The boxes upon a cover. -/
theorem stow_upon {s:Gp} (hS:H59 s) {l:List Stowed} {k:Nat} (hk:k < s.Covers.length) (hr:∀ x∈s.Covers,x.Rows.length≤1000000) (hl:l.length≤1000000) :
  Wp (G72 s l (k:Int)) (fun r=>∀ b,b∈r ↔ ∃ y∈l,y.G9=b∧∃ (m:Nat) (c:G4),y.Slot.G4=(m:Int)∧s.Columns[m]? = some c∧c.Deck=true∧Q7 s c=(k:Int)):=by
 have hk':s.Covers[k]? = some s.Covers[k]:=List.getElem?_eq_getElem hk
 unfold G72
 refine Gy (ship_upon hk' hr (by have:=hS.num.2.1; omega)) ?_
 refine J1e (p:=fun y=>(G3c (fun c:G4=>c.Deck&&Gb6 s.Covers[k] c) s.Columns).any (fun z=>decide (y.Slot.G4=z))) (f:=(·.G9)) hl (fun y i st nx hy hst ht hf=>?_) (Gh (fun b=>?_))
 ·refine G08 (fun j=>j=if (G3c (fun c:G4=>c.Deck&&Gb6 s.Covers[k] c) s.Columns).any (fun z=>decide (y.Slot.G4=z))=true then st++[y.G9] else st) (fun K hK=>?_) (fun j hj=>?_)
  ·refine Gy (Gc1 _ _) (Hb (fun h=>Qn (room8 hst) (hK _ ?_)) (fun h=>hK _ ?_))
   ·rw [if_pos h]
   ·rw [if_neg (by rw [h]; exact Bool.false_ne_true)]
  ·cases h:(G3c (fun c:G4=>c.Deck&&Gb6 s.Covers[k] c) s.Columns).any (fun z=>decide (y.Slot.G4=z)) with
   | true=>rw [h] at hj; rw [hj]; exact ht h
   | false=>rw [h] at hj; rw [hj]; exact hf h
 ·rw [List.mem_map]
  have hiff:∀ y:Stowed,(G3c (fun c:G4=>c.Deck&&Gb6 s.Covers[k] c) s.Columns).any (fun z=>decide (y.Slot.G4=z))=true ↔ ∃ (m:Nat) (c:G4),y.Slot.G4=(m:Int)∧s.Columns[m]? = some c∧c.Deck=true∧Q7 s c=(k:Int):=fun y=>by
   rw [List.any_eq_true]
   constructor
   ·rintro⟨z,hz,e⟩
    obtain⟨m,c,rfl,h1,h2⟩:=mem_idxs.1 hz
    rw [Bool.and_eq_true] at h2
    exact⟨m,c,of_decide_eq_true e,h1,h2.1,(J1f hS hk').1 h2.2⟩
   ·rintro⟨m,c,e,h1,h2,h3⟩
    exact⟨(m:Int),mem_idxs.2 ⟨m,c,rfl,h1,by rw [h2,(J1f hS hk').2 h3]; rfl⟩,decide_eq_true e⟩
  constructor
  ·rintro⟨y,hy,rfl⟩
   rw [List.mem_filter] at hy
   exact⟨y,hy.1,rfl,(hiff y).1 hy.2⟩
  ·rintro⟨y,hy,e,h⟩
   exact⟨y,List.mem_filter.2 ⟨hy,(hiff y).2 h⟩,e⟩
/-- To lift a, b has to be lifted. -/
def Pl (s:Gp) (l:List Stowed) (a b:Int):Prop:=∃ x∈l,x.G9=a∧∃ y∈l,y.G9=b∧(Gf7 y.Slot x.Slot∨upon s x.Slot y.Slot)
structure Grw (s:Gp) (l:List Stowed) (L:List Int) (ids:List Int) (m:H7 Int Unit) (L':List Int):Prop where
 inv:J2d (l.map (·.G9)) m L'
 sub:∀ a∈L,a∈L'
 has:∀ a∈ids,a∈L'
 closed:∀ a∈L',a ∉ L→∀ b,Pl s l a b→b∈L'
 least:∀ C:Int→Prop,(∀ a b,C a→Pl s l a b→C b)→(∀ a∈L,C a)→(∀ a∈ids,C a)→∀ a∈L',C a
theorem H2d {l:List Stowed} (h:l.Pairwise (fun a b=>a.G9 < b.G9)) {x y:Stowed} (hx:x∈l) (hy:y∈l) (e:x.G9=y.G9):x=y:=by
 obtain⟨i,hi,rfl⟩:=List.mem_iff_getElem.1 hx
 obtain⟨j,hj,rfl⟩:=List.mem_iff_getElem.1 hy
 have hp:=List.pairwise_iff_getElem.1 h
 rcases Nat.lt_trichotomy i j with g | g | g
 ·have:=hp i j hi hj g; omega
 ·subst g; rfl
 ·have:=hp j i hj hi g; omega
structure Brd (s:Gp) (boxes:List G9) (l:List Stowed):Prop where
 ship:H59 s
 right:Rf s boxes l
 rows:∀ x∈s.Covers,x.Rows.length≤1000000
 covs:s.Covers.length≤1000000
 len:l.length≤1000
theorem Brd.col {s:Gp} {boxes:List G9} {l:List Stowed} (h:Brd s boxes l) {x:Stowed} (hx:x∈l):ColIn s x.Slot:=by
 obtain⟨b,_,h1,_⟩:=h.right.each x hx
 exact J6a h1
theorem reach_add {s:Gp} {boxes:List G9} {l:List Stowed} (hB:Brd s boxes l):∀ (F:Nat) (ids:List Int) (m:H7 Int Unit) (L:List Int),J2d (l.map (·.G9)) m L→(∀ a∈ids,a∈l.map (·.G9))→l.length+1≤F+L.length →
  Wp (Yq F ids m l s) (fun r=>∃ L',Grw s l L ids r L'):=by
 have hlen:(l.map (·.G9)).length=l.length:=List.length_map ..
 intro F
 induction F with
 | zero=>intro ids m L hi _ hF; have:=hi.le; omega
 | succ F ih=>
  intro ids m L hi hids hF
  show Wp (G43 (Yq F) F ids m l s) _
  unfold G43
  refine Je (fun pre mm=>∃ L1,Grw s l L pre mm L1) ⟨L,hi,fun a h=>h,fun a h=>(List.not_mem_nil h).elim,fun a h hn=>(hn h).elim,fun C _ h _=>h⟩ (fun pre y post mm nx e hI hnx=>?_) (fun mm hI=>Gh hI)
  obtain⟨L1,g1⟩:=hI
  have hy:y∈l.map (·.G9):=hids y (by rw [e]; simp)
  have hL1:L.length≤L1.length:=hi.nodup.length_le_of_subset (fun a ha=>g1.sub a ha)
  refine G08 (fun j=>∃ L',Grw s l L (pre++[y]) j L') (fun K hK=>?_) (fun j hj=>hnx _ hj)
  refine Hb (fun hh=>hK _ ?_) (fun hh=>?_)
  ·rw [g1.inv.has] at hh
   have hm:=of_decide_eq_true hh
   exact⟨L1,g1.inv,g1.sub,Rj g1.has hm,g1.closed,fun C h1 h2 h3=>g1.least C h1 h2 (fun a ha=>h3 a (List.mem_append.2 (.inl ha)))⟩
  rw [g1.inv.has] at hh
  have hm:=of_decide_eq_false hh
  obtain⟨x,hx,hxb⟩:=List.mem_map.1 hy
  obtain⟨x0,hf0⟩:∃ x0,Ha3 l y=some x0:=by
   cases h:Ha3 l y with
   | some x0=>exact⟨x0,rfl⟩
   | none=>exact absurd (decide_eq_true hxb) (by have:=List.find?_eq_none.1 h x hx; simpa using this)
  have hx0m:=List.mem_of_find?_eq_some hf0
  have hx0b:x0.G9=y:=of_decide_eq_true (List.find?_some (p:=fun x:Stowed=>decide (x.G9=y)) hf0)
  have hx0:x0=x:=H2d hB.right.sorted hx0m hx (by rw [hx0b,hxb])
  subst hx0
  have hs1:=g1.inv.snoc hm hy
  refine Gy (J67 l y (by have:=hB.len; omega)) ?_
  have habove:J8e l y=(G5d l x0.Slot,0):=by unfold J8e; rw [hf0]
  rw [habove]
  have hl1:(L1++[y]).length=L1.length+1:=by simp
  refine H4 (wp_mono (ih (G5d l x0.Slot) _ (L1++[y]) hs1 (fun a ha=>by
   obtain⟨z,hz,e,_⟩:=G97.1 ha
   exact List.mem_map.2 ⟨z,hz,e⟩) (by omega)) (fun m2 h2=>?_))
  obtain⟨L2,g2⟩:=h2
  have hL2:(L1++[y]).length≤L2.length:=hs1.nodup.length_le_of_subset (fun a ha=>g2.sub a ha)
  refine Gy (H47 l y) ?_
  rcases G01 (fun x:Stowed=>decide (x.G9=y)) l with ⟨_,h2,_⟩ | ⟨q,x1,h1,h2,h3,_⟩
  ·have:=h2 x0 hx; rw [decide_eq_true hxb] at this; cases this
  have hx1:x1=x0:=H2d hB.right.sorted (List.mem_of_getElem? h2) hx (by rw [of_decide_eq_true h3,hxb])
  subst hx1
  obtain⟨mc,c,hmc,hc⟩:=hB.col hx
  have honly:∀ b,Pl s l y b ↔ b∈G5d l x1.Slot∨∃ z∈l,z.G9=b∧upon s x1.Slot z.Slot:=fun b=>by
   rw [G97]
   constructor
   ·rintro⟨z,hz,e,w,hw,ew,h⟩
    have hzx:z=x1:=H2d hB.right.sorted hz hx (by rw [e,hxb])
    subst hzx
    rcases h with h | h
    ·exact .inl ⟨w,hw,ew,h⟩
    ·exact .inr ⟨w,hw,ew,h⟩
   ·rintro(⟨w,hw,ew,h⟩ | ⟨w,hw,ew,h⟩)
    ·exact⟨x1,hx,hxb,w,hw,ew,.inl h⟩
    ·exact⟨x1,hx,hxb,w,hw,ew,.inr h⟩
  refine Ro h1 h2 ?_
  rw [hmc]
  refine Gy (J66 hc hB.rows hB.covs) (Hb (fun hh=>?_) (fun hh=>hK _ ?_))
  ·have hh:=of_decide_eq_true hh
   by_cases hd:c.Deck=true
   ·rw [if_pos hd] at hh; omega
   rw [if_neg hd] at hh ⊢
   have hd:c.Deck=false:=by simpa using hd
   obtain⟨k,hk,hkl⟩:∃ k:Nat,Q7 s c=(k:Int)∧k < s.Covers.length:=by
    unfold Q7 at hh ⊢
    rcases G01 (fun x=>Gb6 x c) s.Covers with ⟨h1,_,_⟩ | ⟨k,z,h1,h2,_,_⟩
    ·omega
    ·exact⟨k,h1,(List.getElem?_eq_some_iff.1 h2).1⟩
   rw [hk]
   refine H4 (wp_mono (stow_upon hB.ship hkl hB.rows (by have:=hB.len; omega)) (fun up hup=>?_))
   have hupon:∀ z∈l,upon s x1.Slot z.Slot ↔ ∃ (m:Nat) (c':G4),z.Slot.G4=(m:Int)∧s.Columns[m]? = some c'∧c'.Deck=true∧Q7 s c'=(k:Int):=fun z hz=>by
    constructor
    ·rintro⟨m0,c0,m1,c1,e1,e2,e3,e4,_,q2,q3,q4⟩
     have:m0=mc:=by omega
     subst this
     rw [hc] at e2; cases e2
     exact⟨m1,c1,e3,e4,q2,by omega⟩
    ·rintro⟨m1,c1,e3,e4,q2,q4⟩
     exact⟨mc,c,m1,c1,hmc,hc,e3,e4,hd,q2,hh,by omega⟩
   refine H4 (wp_mono (ih up _ L2 g2.inv (fun a ha=>by
    obtain⟨z,hz,e,_⟩:=(hup a).1 ha
    exact List.mem_map.2 ⟨z,hz,e⟩) (by omega)) (fun m3 h3=>hK _ ?_))
   obtain⟨L3,g3⟩:=h3
   refine⟨L3,g3.inv,fun a ha=>g3.sub a (g2.sub a (List.mem_append.2 (.inl (g1.sub a ha)))),Rj (fun a ha=>g3.sub a (g2.sub a (List.mem_append.2 (.inl (g1.has a ha))))) (g3.sub y (g2.sub y (by simp))),fun a ha hn b hb=>?_,fun C h1 h2 h3=>?_⟩
   ·by_cases ha2:a∈L2
    ·by_cases ha1:a∈L1++[y]
     ·rcases List.mem_append.1 ha1 with ha1 | ha1
      ·exact g3.sub b (g2.sub b (List.mem_append.2 (.inl (g1.closed a ha1 hn b hb))))
      ·rw [List.mem_singleton] at ha1; subst ha1
       rcases (honly b).1 hb with h | ⟨z,hz,e,hu⟩
       ·exact g3.sub b (g2.has b h)
       ·exact g3.has b ((hup b).2 ⟨z,hz,e,(hupon z hz).1 hu⟩)
     ·exact g3.sub b (g2.closed a ha2 ha1 b hb)
    ·exact g3.closed a ha ha2 b hb
   ·have hy':C y:=h3 y (by simp)
    have c1:=g1.least C h1 h2 (fun a ha=>h3 a (List.mem_append.2 (.inl ha)))
    have c2:=g2.least C h1 (Rj c1 hy') (fun a ha=>h1 y a hy' ((honly a).2 (.inl ha)))
    exact g3.least C h1 c2 (fun a ha=>by
     obtain⟨z,hz,e,hu⟩:=(hup a).1 ha
     exact h1 y a hy' ((honly a).2 (.inr ⟨z,hz,e,(hupon z hz).2 hu⟩)))
  ·have hh:=of_decide_eq_false hh
   have hno:∀ z,¬ upon s x1.Slot z:=fun z hz=>by
    obtain⟨m0,c0,m1,c1,e1,e2,e3,e4,q1,q2,q3,q4⟩:=hz
    have:m0=mc:=by omega
    subst this
    rw [hc] at e2; cases e2
    rw [if_neg (by rw [q1]; exact Bool.false_ne_true)] at hh
    exact hh q3
   refine⟨L2,g2.inv,fun a ha=>g2.sub a (List.mem_append.2 (.inl (g1.sub a ha))),Rj (fun a ha=>g2.sub a (List.mem_append.2 (.inl (g1.has a ha)))) (g2.sub y (by simp)),fun a ha hn b hb=>?_,fun C h1 h2 h3=>?_⟩
   ·by_cases ha1:a∈L1++[y]
    ·rcases List.mem_append.1 ha1 with ha1 | ha1
     ·exact g2.sub b (List.mem_append.2 (.inl (g1.closed a ha1 hn b hb)))
     ·rw [List.mem_singleton] at ha1; subst ha1
      rcases (honly b).1 hb with h | ⟨z,hz,e,hu⟩
      ·exact g2.has b h
      ·exact(hno _ hu).elim
    ·exact g2.closed a ha ha1 b hb
   ·have hy':C y:=h3 y (by simp)
    exact g2.least C h1 (Rj (g1.least C h1 h2 (fun a ha=>h3 a (List.mem_append.2 (.inl ha)))) hy') (fun a ha=>h1 y a hy' ((honly a).2 (.inl ha)))
/-- The least set of boxes that is closed, in order. -/
structure G1f (s:Gp) (l:List Stowed) (ids:List Int) (r:List Int):Prop where
 sorted:r.Pairwise (· < ·)
 seeds:∀ a∈ids,a∈r
 closed:∀ a∈r,∀ b,Pl s l a b→b∈r
 least:∀ C:Int→Prop,(∀ a b,C a→Pl s l a b→C b)→(∀ a∈ids,C a)→∀ a∈r,C a
theorem G1f.eq {s:Gp} {l:List Stowed} {ids r r':List Int} (h:G1f s l ids r) (h':G1f s l ids r'):r=r':=
 H2b h.sorted h'.sorted (fun x=>⟨fun hx=>h.least (·∈r') (fun a b ha hp=>h'.closed a ha b hp) h'.seeds x hx,fun hx=>h'.least (·∈r) (fun a b ha hp=>h.closed a ha b hp) h.seeds x hx⟩)
/-- What Reach returns, of a state that is right. -/
def ReachR (s:Gp) (boxes:List G9) (l:List Stowed) (ids:List Int) (r:List Int×Int):Prop:=
 (¬ (H59 s∧Rf s boxes l)∧r=([],2))∨(H59 s∧Rf s boxes l∧((¬ (∀ a∈ids,a∈l.map (·.G9))∧r=([],6))∨((∀ a∈ids,a∈l.map (·.G9))∧r.2=0∧G1f s l ids r.1)))
theorem ReachR.eq {s:Gp} {boxes:List G9} {l:List Stowed} {ids:List Int} {r r':List Int×Int} (h:ReachR s boxes l ids r) (h':ReachR s boxes l ids r'):r=r':=by
 rcases h with ⟨h1,h2⟩ | ⟨h1,h2,h3⟩ <;> rcases h' with ⟨k1,k2⟩ | ⟨k1,k2,k3⟩
 ·rw [h2,k2]
 ·exact(h1 ⟨k1,k2⟩).elim
 ·exact(k1 ⟨h1,h2⟩).elim
 ·rcases h3 with ⟨h3,h4⟩ | ⟨h3,h4,h5⟩ <;> rcases k3 with ⟨k3,k4⟩ | ⟨k3,k4,k5⟩
  ·rw [h4,k4]
  ·exact(h3 k3).elim
  ·exact(k3 h3).elim
  ·exact Prod.ext (h5.eq k5) (h4.trans k4.symm)
theorem has_keys (m:H7 Int Unit) (a:Int):a∈(H7.l m).map (·.1) ↔ H7.has m a=true:=by
 unfold H7.has G78
 simp
theorem prog_reach {F:Nat} {s:Gp} {boxes:List G9} {l:List Stowed} {ids:List Int} (hp:∀ c∈s.Columns,c.Plugs.length≤1048576) (hr:∀ x∈s.Covers,x.Rows.length≤1000000) (hc:s.Covers.length≤1000000) (hl:l.length≤1000) (hF:l.length+1≤F) :
  Wp (Rw F s boxes l ids) (ReachR s boxes l ids):=by
 unfold Rw
 refine H4 (wp_mono (Q':=fun r=>r=true ↔ H59 s∧Rf s boxes l) ?_ (fun r4 h4=>Hb (fun h=>Gh (.inl ⟨fun hh=>?_,rfl⟩)) (fun h=>?_)))
 ·unfold Qk
  exact H4 (wp_mono (prog_stow (boxes:=boxes) (l:=l) hp (fun x hx=>by have:=hr x hx; omega) (by omega)) (fun r hr=>Gh hr))
 ·rw [h4.2 hh] at h; cases h
 obtain⟨hS,hR⟩:=h4.1 (by simpa using h)
 have hB:Brd s boxes l:=⟨hS,hR,hr,hc,hl⟩
 refine Je (fun pre _=>∀ a∈pre,a∈l.map (·.G9)) (fun a ha=>(List.not_mem_nil ha).elim) (fun pre y post u nx e hI hnx=>Gy (H47 l y) ?_) (fun u hI=>?_)
 ·rcases G01 (fun x:Stowed=>decide (x.G9=y)) l with ⟨h1,h2,_⟩ | ⟨q,x,h1,h2,h3,_⟩
  ·rw [h1]
   refine Hb (fun _=>Gh (.inr ⟨hS,hR,.inl ⟨fun hh=>?_,rfl⟩⟩)) (fun h=>absurd (of_decide_eq_false h) (by omega))
   obtain⟨x,hx,hb⟩:=List.mem_map.1 (hh y (by rw [e]; simp))
   have:=h2 x hx; rw [decide_eq_true hb] at this; cases this
  ·rw [h1]
   refine Hb (fun h=>absurd (of_decide_eq_true h) (by omega)) (fun _=>hnx _ (Rj hI (List.mem_map.2 ⟨x,List.mem_of_getElem? h2,of_decide_eq_true h3⟩)))
 ·refine H4 (wp_mono (reach_add hB F ids _ [] .start hI (by simp; omega)) (fun m hm=>?_))
  obtain⟨L,g⟩:=hm
  have hn:=m.nd
  have hkl:(H7.l m).length≤l.length:=by
   have:((H7.l m).map (·.1)).length≤(l.map (·.G9)).length:=hn.length_le_of_subset (fun a ha=>by
    rw [has_keys,g.inv.has] at ha
    exact g.inv.sub a (of_decide_eq_true ha))
   simpa using this
  have hse:G3b ((H7.l m).map (·.1))=some (G2e ((H7.l m).map (·.1))):=by
   unfold G3b
   rw [decide_eq_true (show ((H7.l m).map (·.1)).length < 4611686018427387904 by rw [List.length_map]; omega)]
   rfl
  refine Qn (decide_eq_true ⟨by omega,by simp only [maxLen]; omega⟩) (Gy hse (Gh (.inr ⟨hS,hR,.inr ⟨hI,rfl,?_⟩⟩)))
  have hpm:=G6d ((H7.l m).map (·.1))
  have hmem:∀ a,a∈G2e ((H7.l m).map (·.1)) ↔ a∈L:=fun a=>by
   rw [hpm.mem_iff,has_keys,g.inv.has,decide_eq_true_eq]
  refine⟨?_,fun a ha=>(hmem a).2 (g.has a ha),fun a ha b hb=>(hmem b).2 (g.closed a ((hmem a).1 ha) (by simp) b hb),fun C h1 h2 a ha=>g.least C h1 (fun a ha=>(List.not_mem_nil ha).elim) h2 a ((hmem a).1 ha)⟩
  have hnd:(G2e ((H7.l m).map (·.1))).Nodup:=hpm.nodup_iff.2 hn
  exact(List.pairwise_and_iff.2 ⟨G4a _,hnd⟩).imp (fun {a b} h=>by have h1:=h.1; have h2:=h.2; omega)
end Go.Proofs.YtpgkkengffpnpaaGreat
