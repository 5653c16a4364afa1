/-
 What the program says of a ship and of a state,and what has to be lifted.
-/
import Derived.Test.YtpgkkengffpnpaaGreatXP
set_option linter.unusedVariables false
set_option linter.unusedSimpArgs false
set_option linter.unnecessarySimpa false
set_option maxRecDepth 100000
namespace Go.Proofs.YtpgkkengffpnpaaGreat
open Go.RowKit

theorem Jc3 {α γ:Type} {l:List α} {i:Nat} {y:α} (h:l[i]? = some y) (k:α→Option γ):Z2 l (i:Int) k=k y:=by
 unfold Z2
 rw [decide_eq_true (by omega:(0:Int)≤(i:Int)),cond_true,show (i:Int).toNat=i by omega,h]; rfl
/-- A column is right. -/
structure ColR (c:G4):Prop where
 plugs:∀ p∈c.Plugs,0≤p∧p < c.Tiers
 sorted:c.Plugs.Pairwise (· < ·)
 place:0≤c.Bay∧c.Bay≤39∧0≤c.Row∧c.Row≤30∧1≤c.Tiers∧c.Tiers≤10∧0≤c.Height∧c.Height≤40000
 load:0≤c.Kilos20∧c.Kilos20≤500000000∧0≤c.Kilos40∧c.Kilos40≤500000000∧0≤c.Lash∧c.Lash≤1000000000000
 at_ : -500000≤c.X∧c.X≤500000 ∧ -500000≤c.Y∧c.Y≤500000 ∧ -500000≤c.Z∧c.Z≤500000
theorem G98 {p:Prop} (h:¬ p):(false=true) ↔ p:=⟨fun e=>Bool.noConfusion e,fun hp=>(h hp).elim⟩
theorem wp_wrp {β:Type} {Q:β→Prop} {z:Int} {k:Int→Option β} (h:Wp (k (IntKind.i64.wrap z)) Q):Wp (wrp z k) Q:=h
theorem pw_snoc {α:Type} {R:α→α→Prop} {l:List α} {x:α} (h:l.Pairwise R) (hx:∀ a∈l,R a x):(l++[x]).Pairwise R:=by
 rw [List.pairwise_append]
 refine⟨h,List.pairwise_singleton ..,fun a ha b hb=>?_⟩
 rw [List.mem_singleton] at hb; subst hb
 exact hx a ha
theorem Rn {α:Type} {P:α→Prop} {l:List α} {x:α} (h1:∀ y∈l,P y) (h2:P x):∀ y∈l++[x],P y:=fun y hy=>by
 rcases List.mem_append.1 hy with hy | hy
 ·exact h1 y hy
 ·rw [List.mem_singleton.1 hy]; exact h2
/-- In a list in order the one before is less. -/
theorem H49 {pre:List Int} {y p:Int} (h:pre.Pairwise (· < ·)) (hp:pre[pre.length - 1]? = some p) (hy:p < y):∀ a∈pre,a < y:=by
 rcases List.eq_nil_or_concat pre with rfl | ⟨q,z,rfl⟩
 ·intro a ha; cases ha
 ·rw [List.concat_eq_append] at *
  have hz:z=p:=by
   rw [List.length_append,List.length_singleton,show q.length+1 - 1=q.length by omega] at hp
   simpa using hp
  subst hz
  intro a ha
  rcases List.mem_append.1 ha with ha | ha
  ·have:=(List.pairwise_append.1 h).2.2 a ha z (by simp)
   omega
  ·rw [List.mem_singleton.1 ha]; exact hy
theorem J18 (l:List Hd):G12 l=some (l.all (fun x=>decide (x.low≤x.n)&&decide (x.n≤x.high))):=by
 refine Y4 ?_
 unfold G12
 refine Jf (fun pre _=>pre.all (fun x=>decide (x.low≤x.n)&&decide (x.n≤x.high))=true) rfl (fun pre y post s nx e hI hnx=>H7 (fun h=>Gg ?_) (fun h=>hnx _ ?_)) (fun s hI=>Gg hI.symm)
 ·symm
  rw [List.all_eq_false]
  refine⟨y,by rw [e]; simp,?_⟩
  simp only [Bool.or_eq_true,decide_eq_true_eq] at h
  simp only [Bool.and_eq_true,decide_eq_true_eq]
  omega
 ·simp only [Bool.or_eq_false_iff,decide_eq_false_iff_not] at h
  rw [List.all_append,hI]
  simp only [List.all_cons,List.all_nil,Bool.and_true,Bool.true_and,Bool.and_eq_true,decide_eq_true_eq]
  omega
/-- The step of a list of numbers in order: the one before is looked at. -/
theorem J37 {pre post:List Int} {l:List Int} {y:Int} (e:l=pre++y::post) (hp:0 < pre.length):∃ p,l[pre.length - 1]? = some p∧pre[pre.length - 1]? = some p∧p∈pre:=by
 have h1:pre[pre.length - 1]? = some (pre[pre.length - 1]'(by omega)):=List.getElem?_eq_getElem (by omega)
 exact⟨_,by rw [e,List.getElem?_append_left (by omega)]; exact h1,h1,List.getElem_mem _⟩
theorem col_right (c:G4) (hl:c.Plugs.length≤1048576):Wp (G52 c) (fun r=>r=true ↔ ColR c):=by
 unfold G52
 have hw:1≤c.Tiers∧c.Tiers≤10→IntKind.i64.wrap (c.Tiers - 1)=c.Tiers - 1:=fun h=>J32 (by omega) (by omega)
 refine Jf (fun pre _=>(∀ p∈pre,0≤p∧p≤IntKind.i64.wrap (c.Tiers - 1))∧pre.Pairwise (· < ·)) ⟨fun p hp=>(List.not_mem_nil hp).elim,List.Pairwise.nil⟩ (fun pre y post s nx e hI hnx=>?_) (fun s hI=>?_)
 ·obtain⟨hI1,hI2⟩:=hI
  have hym:y∈c.Plugs:=by rw [e]; simp
  have hpl:pre.length < c.Plugs.length:=by rw [e]; simp
  refine wp_wrp (Gs (J18 _) ?_)
  simp only [List.all_cons,List.all_nil,Bool.and_true]
  by_cases hy:0≤y∧y≤IntKind.i64.wrap (c.Tiers - 1)
  ·rw [decide_eq_true hy.1,decide_eq_true hy.2]
   simp only [Bool.and_self,Bool.not_true,Bool.not_false,Bool.true_and,Bool.false_or]
   by_cases hp:0 < pre.length
   ·obtain⟨p,hp1,hp2,hp3⟩:=J37 e hp
    have hwi:IntKind.i64.wrap ((pre.length:Int) - 1)=((pre.length - 1:Nat):Int):=by
     rw [J32 (by omega) (by omega)]; omega
    rw [decide_eq_true (by omega:0 < (pre.length:Int)),cond_true]
    refine Gs (congrArg some hwi) (Gs ((Jc3 hp1 some).trans rfl) ?_)
    simp only [Bool.true_and]
    refine H7 (fun h=>Gg (G98 fun hc=>?_)) (fun h=>hnx _ ⟨Rn hI1 hy,pw_snoc hI2 (H49 hI2 hp2 (by have:=of_decide_eq_false h; omega))⟩)
    have:=of_decide_eq_true h
    have hs:=hc.sorted
    rw [e] at hs
    have:=(List.pairwise_append.1 hs).2.2 p hp3 y (by simp)
    omega
   ·have h0:pre=[]:=List.eq_nil_of_length_eq_zero (by omega)
    subst h0
    rw [decide_eq_false (by simp:¬ 0 < (([]:List Int).length:Int))]
    refine H3 (Gg (H3 (Gg ?_)))
    simp only [Bool.false_and,cond_false]
    exact hnx _ ⟨Rn hI1 hy,by simp⟩
  ·have hf:(decide (0≤y)&&decide (y≤IntKind.i64.wrap (c.Tiers - 1)))=false:=by
    rw [Bool.and_eq_false_iff,decide_eq_false_iff_not,decide_eq_false_iff_not]
    omega
   rw [hf]
   simp only [Bool.not_false,Bool.not_true,Bool.false_and,cond_false,Bool.true_or,cond_true]
   refine H3 (Gg (H3 (Gg (Gg (G98 fun hc=>hy ?_)))))
   have h1:=hc.plugs y hym
   have h2:=hc.place
   rw [hw (by omega)]
   omega
 ·obtain⟨hI1,hI2⟩:=hI
  refine Gs (J18 _) (Gg ?_)
  simp only [List.all_cons,List.all_nil,Bool.and_true,Bool.and_eq_true,decide_eq_true_eq]
  constructor
  ·rintro⟨a1,a2,a3,a4,a5,a6,a7,a8,a9,a10⟩
   have hw:=hw a3
   exact⟨fun p hp=>by have:=hI1 p hp; omega,hI2,by omega,by omega,by omega⟩
  ·intro h
   obtain⟨_,_,b1,b2,b3⟩:=h
   omega
def dk (b:Bool):Int:=bif b then 1 else 0
def k3 (c:G4):Ha:=⟨c.Bay,c.Row,dk c.Deck⟩
def x3 (x:Ga):List Ha:=x.Rows.map fun r=>⟨x.Bay,r,2⟩
structure CovR (x:Ga):Prop where
 bay:0≤x.Bay∧x.Bay≤39
 some:x.Rows≠[]
 rows:∀ r∈x.Rows,0≤r∧r≤30
 sorted:x.Rows.Pairwise (· < ·)
/-- A ship is right. -/
structure H59 (s:Gp):Prop where
 num:1≤s.Columns.length∧s.Columns.length≤200∧s.Covers.length≤40
 col:∀ c∈s.Columns,ColR c
 cov:∀ x∈s.Covers,CovR x
 nodup:(s.Columns.map k3++s.Covers.flatMap x3).Nodup
theorem put_l {κ:Type} [DecidableEq κ] {m:H8 κ Int} {l:List κ} (h:H8.l m=tally l) (a:κ):H8.l (H8.put m a (H8.get m a 0+1))=tally (l++[a]):=by
 rw [H22]
 show Gc1 (H8.l m) a ((G22 (H8.l m) a).getD 0+1)=_
 rw [h]
theorem get_b {κ:Type} [DecidableEq κ] {m:H8 κ Int} {l:List κ} (h:H8.l m=tally l) (a:κ):0≤H8.get m a 0∧H8.get m a 0≤(l.length:Int):=by
 have:=tally_bound l a
 show 0≤(G22 (H8.l m) a).getD 0∧_
 rw [h]
 exact⟨this.1,by show (G22 (H8.l m) a).getD 0≤_; rw [h]; exact this.2⟩
theorem flat_len (l:List Ga) (h:∀ x∈l,x.Rows.length≤1048576):(l.flatMap x3).length≤1048576*l.length:=by
 induction l with
 | nil=>simp
 | cons x l ih=>
  have h1:=h x (List.mem_cons_self ..)
  have h2:=ih (fun y hy=>h y (List.mem_cons_of_mem _ hy))
  rw [List.flatMap_cons,List.length_append,List.length_cons]
  have:(x3 x).length=x.Rows.length:=by simp [x3]
  omega
theorem J70 (s:Gp) (hp:∀ c∈s.Columns,c.Plugs.length≤1048576) (hr:∀ x∈s.Covers,x.Rows.length≤1048576):Wp (G4d s) (fun r=>r=true ↔ H59 s):=by
 unfold G4d Gce
 refine H7 (fun hc=>Gg (G98 fun h=>?_)) (fun hc=>?_)
 ·have:=h.num
  simp only [Bool.or_eq_true,decide_eq_true_eq] at hc
  omega
 simp only [Bool.or_eq_false_iff,decide_eq_false_iff_not] at hc
 have hn:1≤s.Columns.length∧s.Columns.length≤200∧s.Covers.length≤40:=by omega
 refine Jf (fun pre m=>H8.l m=tally (pre.map k3)∧∀ c∈pre,ColR c) ⟨rfl,fun c hc=>(List.not_mem_nil hc).elim⟩ (fun pre y post m nx e hI hnx=>?_) (fun m hI=>?_)
 ·obtain⟨hI1,hI2⟩:=hI
  have hym:y∈s.Columns:=by rw [e]; simp
  have hpl:pre.length < s.Columns.length:=by rw [e]; simp
  refine G09 (fun j=>j=dk y.Deck) (fun K hK=>H7 (fun h=>hK _ (by rw [h]; rfl)) (fun h=>hK _ (by rw [h]; rfl))) (fun j hj=>?_)
  subst hj
  have hb:=get_b hI1 (k3 y)
  rw [List.length_map] at hb
  refine Gs (x:=H8.get m (k3 y) 0) rfl (Q7 ⟨by omega,by omega⟩ (H3 (wp_mono (col_right y (hp y hym)) (fun r hr=>H7 (fun h=>Gg (G98 fun hs=>?_)) (fun h=>hnx _ ⟨?_,Rn hI2 ?_⟩)))))
  ·rw [hr.2 (hs.col y hym)] at h; cases h
  ·rw [List.map_append]; exact put_l hI1 (k3 y)
  ·cases r with
   | true=>exact hr.1 rfl
   | false=>cases h
 obtain⟨hI1,hI2⟩:=hI
 refine Jf (fun pre m=>H8.l m=tally (s.Columns.map k3++pre.flatMap x3)∧∀ x∈pre,CovR x) ⟨by simpa using hI1,fun c hc=>(List.not_mem_nil hc).elim⟩ (fun pre y post m nx e hJ hnx=>?_) (fun m hJ=>?_)
 ·obtain⟨hJ1,hJ2⟩:=hJ
  have hym:y∈s.Covers:=by rw [e]; simp
  have hpl:pre.length < s.Covers.length:=by rw [e]; simp
  refine H7 (fun hc=>Gg (G98 fun h=>?_)) (fun hc=>?_)
  ·have h1:=(h.cov y hym).bay
   have h2:=(h.cov y hym).some
   simp only [Bool.or_eq_true,decide_eq_true_eq] at hc
   have:y.Rows.length≠0:=fun h=>h2 (List.length_eq_zero_iff.1 h)
   omega
  simp only [Bool.or_eq_false_iff,decide_eq_false_iff_not] at hc
  have hne:y.Rows≠[]:=fun h=>by rw [h] at hc; simp at hc
  have hfl:=flat_len pre (fun x hx=>hr x (by rw [e]; exact List.mem_append.2 (.inl hx)))
  have hrl:=hr y hym
  refine Jf (fun pr m=>H8.l m=tally (s.Columns.map k3++pre.flatMap x3++pr.map (fun r=>(⟨y.Bay,r,2⟩:Ha)))∧(∀ r∈pr,0≤r∧r≤30)∧pr.Pairwise (· < ·)) ⟨by simpa using hJ1,fun c hc=>(List.not_mem_nil hc).elim,List.Pairwise.nil⟩ (fun pr r pos m nx' e' hK hnx'=>?_) (fun m hK=>hnx _ ⟨?_,Rn hJ2 ⟨by omega,hne,hK.2.1,hK.2.2⟩⟩)
  ·obtain⟨hK1,hK2,hK3⟩:=hK
   have hrm:r∈y.Rows:=by rw [e']; simp
   have hprl:pr.length < y.Rows.length:=by rw [e']; simp
   have go:0≤r∧r≤30→(∀ a∈pr,a < r)→Wp (bnd (some (H8.get m ⟨y.Bay,r,2⟩ 0)) fun v167=>G0d (v167+1) fun v168=>nx' (H8.put m ⟨y.Bay,r,2⟩ v168)) (fun r=>r=true ↔ H59 s):=fun h1 h2=>by
    have hb:=get_b hK1 ⟨y.Bay,r,2⟩
    simp only [List.length_append,List.length_map] at hb
    refine H3 (Gg (Q7 ⟨by omega,by omega⟩ (hnx' _ ⟨?_,Rn hK2 h1,pw_snoc hK3 h2⟩)))
    rw [List.map_append,← List.append_assoc]
    exact put_l hK1 ⟨y.Bay,r,2⟩
   by_cases hrr:0≤r∧r≤30
   ·have hok:(decide (r < 0)||decide (30 < r))=false:=by simp; omega
    simp only [hok,Bool.not_false,Bool.true_and,Bool.false_or]
    by_cases hp0:0 < pr.length
    ·obtain⟨p,hp1,hp2,hp3⟩:=J37 e' hp0
     rw [decide_eq_true (by omega:0 < (pr.length:Int)),cond_true]
     refine H3 (Q7 ⟨by omega,by omega⟩ (Gg ?_))
     have hpi:(pr.length:Int) - 1=((pr.length - 1:Nat):Int):=by omega
     rw [hpi]
     refine Gs ((Jc3 hp1 some).trans rfl) ?_
     simp only [Bool.true_and]
     refine H7 (fun h=>Gg (G98 fun hc=>?_)) (fun h=>go hrr (H49 hK3 hp2 (by have:=of_decide_eq_false h; omega)))
     have:=of_decide_eq_true h
     have hs:=(hc.cov y hym).sorted
     rw [e'] at hs
     have:=(List.pairwise_append.1 hs).2.2 p hp3 r (by simp)
     omega
    ·have h0:pr=[]:=List.eq_nil_of_length_eq_zero (by omega)
     subst h0
     rw [decide_eq_false (by simp:¬ 0 < (([]:List Int).length:Int))]
     refine H3 (Gg (H3 (Gg ?_)))
     simp only [Bool.false_and,cond_false]
     exact go hrr (fun a ha=>(List.not_mem_nil ha).elim)
   ·have hok:(decide (r < 0)||decide (30 < r))=true:=by simp; omega
    simp only [hok,Bool.not_true,Bool.false_and,cond_false,Bool.true_or,cond_true]
    exact H3 (Gg (H3 (Gg (Gg (G98 fun hc=>hrr ((hc.cov y hym).rows r hrm))))))
  ·rw [List.flatMap_append,← List.append_assoc]
   simpa [x3] using hK.1
 ·obtain⟨hJ1,hJ2⟩:=hJ
  rw [Hc3 (c:=fun x:Ha×Int=>decide (1 < x.2))]
  refine Gg ?_
  have hiff:(H8.l m).any (fun x=>decide (1 < x.2))=false ↔ (s.Columns.map k3++s.Covers.flatMap x3).Nodup:=by
   rw [← tally_le_one,hJ1,List.any_eq_false]
   constructor
   ·intro h j a n hj
    have:=h (a,n) (List.mem_of_getElem? hj)
    simp only [decide_eq_true_eq] at this
    omega
   ·intro h x hx
    obtain⟨j,hj⟩:=List.mem_iff_getElem?.1 hx
    have:=h j x.1 x.2 hj
    simp only [decide_eq_true_eq]
    omega
  cases hany:(H8.l m).any (fun x=>decide (1 < x.2)) with
  | true=>
   refine G98 fun h=>?_
   rw [hiff.2 h.nodup] at hany; cases hany
  | false=>exact⟨fun _=>⟨hn,hI2,hJ2,hiff.1 hany⟩,fun _=>rfl⟩
theorem G64 {n k:Nat} (hn:n≤1000001) (hk:k≤1000):decide (n*k≤140737488355328∧n≤maxLen)=true:=by
 have h:n*k≤1000001*1000:=Nat.mul_le_mul hn hk
 have h2:n≤maxLen:=Nat.le_trans hn (by decide)
 exact decide_eq_true ⟨by omega,h2⟩
theorem H56 {α β:Type} {x:α} {k:α→Option β}:bnd (some x) k=k x:=rfl
/-- The place of the first element at which p holds, -1 if there is none. -/
def Hcf {α:Type} (p:α→Bool) (l:List α):Int:=match l.findIdx? p with
 | some j=>(j:Int)
 | none => -1
theorem H12 {α:Type} {p:α→Bool} {f:α→Option Bool} {xs:List α} (hf:∀ x∈xs,f x=some (p x)) :
  each (fun y i (_:Unit) nx=>bnd (f y) fun r=>bif r then some (i:Int) else nx ()) (fun _=>some (-1)) xs 0 ()=some (Hcf p xs):=by
 have key:∀ (xs:List α),(∀ x∈xs,f x=some (p x))→∀ i:Nat,each (fun y i (_:Unit) nx=>bnd (f y) fun r=>bif r then some (i:Int) else nx ()) (fun _=>some (-1)) xs i ()=some (match xs.findIdx? p with
  | some j=>((i+j:Nat):Int)
  | none => -1):=by
  intro xs
  induction xs with
  | nil=>intro _ i; rfl
  | cons x xs ih=>
   intro hf i
   rw [each,hf x (List.mem_cons_self ..),H56,List.findIdx?_cons]
   cases p x with
   | true=>simp
   | false=>
    simp only [cond_false]
    rw [ih (fun y hy=>hf y (List.mem_cons_of_mem _ hy)) (i+1)]
    cases xs.findIdx? p with
    | none=>simp
    | some j=>show some (((i+1+j:Nat)):Int)=some (((i+(j+1):Nat)):Int); rw [show i+1+j=i+(j+1) by omega]
 rw [key xs hf 0]
 unfold Hcf
 cases xs.findIdx? p <;> simp
theorem G03 {α:Type} (p:α→Bool) (l:List α):(Hcf p l = -1∧(∀ x∈l,p x=false)∧l.find? p=none)∨∃ (m:Nat) (x:α),Hcf p l=(m:Int)∧l[m]? = some x∧p x=true∧l.find? p=some x:=by
 unfold Hcf
 cases h:l.findIdx? p with
 | none=>
  have:=List.findIdx?_eq_none_iff.1 h
  exact .inl ⟨rfl,this,List.find?_eq_none.2 (fun x hx=>by rw [this x hx]; simp)⟩
 | some j=>
  obtain⟨hj,h1,h2⟩:=List.findIdx?_eq_some_iff_getElem.1 h
  refine .inr ⟨j,l[j],rfl,by simp [hj],h1,?_⟩
  refine List.find?_eq_some_iff_getElem.2 ⟨h1,j,hj,rfl,fun k hk=>?_⟩
  simpa using h2 k hk
theorem Gf7 {α:Type} {p:α→Bool} {l:List α}:decide (0≤Hcf p l)=l.any p:=by
 rcases G03 p l with ⟨h1,h2,_⟩ | ⟨m,x,h1,h2,h3,_⟩
 ·rw [h1]
  refine Eq.symm (List.any_eq_false.2 fun x hx=>?_)
  rw [h2 x hx]; exact Bool.false_ne_true
 ·rw [h1,decide_eq_true (by omega)]
  exact(List.any_eq_true.2 ⟨x,List.mem_of_getElem? h2,h3⟩).symm
def Jw (boxes:List G9) (id:Int):Option G9:=boxes.find? (fun b=>decide (b.ID=id))
theorem G70 (boxes:List G9) (id:Int):Zw boxes id=some (match Jw boxes id with
  | some b=>(b,true)
  | none=>(G9.mk 0 ByteArray.empty 0 false 0 0 0 0 false,false)):=by
 unfold Zw
 have h:Y9 boxes (fun z0=>G62 z0 id)=some (Hcf (fun b:G9=>decide (b.ID=id)) boxes):=H12 (fun x _=>rfl)
 rw [h]
 simp only [H56]
 unfold Jw
 rcases G03 (fun b:G9=>decide (b.ID=id)) boxes with ⟨h1,_,h3⟩ | ⟨m,x,h1,h2,_,h4⟩
 ·rw [h1,h3]; rfl
 ·rw [h1,h4,decide_eq_false (by omega),cond_false]
  unfold Z2
  rw [decide_eq_true (by omega),cond_true,show (m:Int).toNat=m by omega,h2]
  rfl
def Ha6 (l:List Stowed) (id:Int):Option Stowed:=l.find? (fun x=>decide (x.G9=id))
def G66 (size:Int):List Int:=if size=40 then [0] else if size=20 then [1,2] else []
theorem H4a (size:Int):G07 size=some (G66 size):=by
 unfold G07 G66
 by_cases h:size=40
 ·simp [h]
 ·by_cases h2:size=20
  ·simp [h2]
  ·simp [h,h2]
theorem contains8 (l:List Int) (v:Int):Rr l v=some (l.any (fun y=>decide (v=y))):=by
 unfold Rr
 have h:Yt l v=some (Hcf (fun y=>decide (v=y)) l):=by
  unfold Yt
  exact H12 (f:=fun y=>some (decide (v=y))) (fun x _=>rfl)
 rw [h]
 simp only [H56]
 rw [Gf7]
theorem containsSlot (l:List Slot) (v:Slot):R6 l v=some (l.any (fun y=>decide (v=y))):=by
 unfold R6
 have h:Y0 l v=some (Hcf (fun y=>decide (v=y)) l):=by
  unfold Y0
  exact H12 (f:=fun y=>some (decide (v=y))) (fun x _=>rfl)
 rw [h]
 simp only [H56]
 rw [Gf7]
/-- There is such a slot in the ship, for boxes of a size. -/
structure Yq (s:Gp) (x:Slot) (size:Int):Prop where
 col:∃ (m:Nat) (c:G4),x.G4=(m:Int)∧s.Columns[m]? = some c∧x.Tier < c.Tiers
 tier:0≤x.Tier
 half:x.Half∈G66 size
theorem J6e (s:Gp) (x:Slot) (size:Int):Wp (G51 s x size) (fun r=>r=true ↔ Yq s x size):=by
 unfold G51
 by_cases h0:0≤x.G4∧x.G4 < (s.Columns.length:Int)
 ·by_cases h1:0≤x.Tier
  ·obtain⟨m,hm⟩:∃ m:Nat,x.G4=(m:Int):=⟨x.G4.toNat,by omega⟩
   have hml:m < s.Columns.length:=by omega
   have hc:s.Columns[m]? = some s.Columns[m]:=by simp [hml]
   have e:(((decide (0≤x.G4))&&(decide (x.G4 < (s.Columns.length:Int))))&&(decide (0≤x.Tier)))=true:=by simp [h0.1,h0.2,h1]
   simp only [e,cond_true,Bool.true_and]
   refine H3 (Rj hm hc (Gg ?_))
   by_cases h2:x.Tier < (s.Columns[m]).Tiers
   ·rw [decide_eq_true h2]
    simp only [cond_true]
    refine Gs (H4a size) (Gs (contains8 _ _) (Gg ?_))
    rw [Bool.true_and,List.any_eq_true]
    constructor
    ·rintro⟨y,hy,he⟩
     have:=of_decide_eq_true he
     subst this
     exact⟨⟨m,_,hm,hc,h2⟩,h1,hy⟩
    ·exact fun h=>⟨_,h.half,by simp⟩
   ·rw [decide_eq_false h2]
    simp only [cond_false,Bool.false_and]
    refine H3 (Gg (H3 (Gg (Gg ⟨fun h=>(by cases h),fun h=>?_⟩))))
    obtain⟨m',c,g1,g2,g3⟩:=h.col
    have:m'=m:=by omega
    subst this
    rw [hc] at g2; cases g2
    exact(h2 g3).elim
  ·simp only [decide_eq_false h1,Bool.and_false,cond_false,Bool.false_and]
   exact H3 (Gg (H3 (Gg (H3 (Gg (Gg ⟨fun h=>(by cases h),fun h=>(h1 h.tier).elim⟩))))))
 ·have e:((decide (0≤x.G4))&&(decide (x.G4 < (s.Columns.length:Int))))=false:=by
   by_cases h:0≤x.G4
   ·have:¬ x.G4 < (s.Columns.length:Int):=fun g=>h0 ⟨h,g⟩
    simp [this]
   ·simp [h]
  simp only [e,Bool.false_and,cond_false]
  refine H3 (Gg (H3 (Gg (H3 (Gg (Gg ⟨fun h=>(by cases h),fun h=>?_⟩))))))
  obtain⟨m,c,g1,g2,_⟩:=h.col
  have:=(List.getElem?_eq_some_iff.1 g2).1
  exact(h0 (by omega)).elim
/-- What holds a slot. -/
def below (l:List Slot) (x:Slot) (half:Int):Prop:=(⟨x.G4,x.Tier - 1,half⟩:Slot)∈l
def H17 (x:Slot) (l:List Slot):Prop:=x.Tier≤0∨below l x x.Half∨(x.Half=0∧below l x 1∧below l x 2)
theorem H9e (half:Int) (l:List Slot) (x:Slot) (ht : -1000000≤x.Tier∧x.Tier≤1000000):Wp (G08 half l x) (fun r=>r=true ↔ below l x half):=by
 unfold G08
 refine Q7 ⟨by omega,by omega⟩ (Gs (containsSlot _ _) (Gg ?_))
 rw [List.any_eq_true]
 constructor
 ·rintro⟨y,hy,he⟩
  have:=of_decide_eq_true he
  subst this
  exact hy
 ·exact fun h=>⟨_,h,by simp⟩
theorem slot_held (x:Slot) (l:List Slot) (ht : -1000000≤x.Tier∧x.Tier≤1000000):Wp (G78 x l) (fun r=>r=true ↔ H17 x l):=by
 unfold G78 H17
 refine H7 (fun h=>Gg ⟨fun _=>.inl (of_decide_eq_true h),fun _=>rfl⟩) (fun h=>?_)
 have h0:=of_decide_eq_false h
 refine H3 (wp_mono (H9e x.Half l x ht) (fun r7 h7=>?_))
 cases r7 with
 | true=>
  simp only [Bool.not_true,Bool.false_and,cond_false,Bool.true_or]
  exact H3 (Gg (H3 (Gg (Gg ⟨fun _=>.inr (.inl (h7.1 rfl)),fun _=>rfl⟩))))
 | false=>
  have h7':¬ below l x x.Half:=fun h=>by have:=h7.2 h; cases this
  simp only [Bool.not_false,Bool.true_and,Bool.false_or]
  by_cases hh:x.Half=0
  ·rw [decide_eq_true hh]
   simp only [cond_true,Bool.true_and]
   refine H3 (wp_mono (H9e 1 l x ht) (fun r8 h8=>?_))
   cases r8 with
   | true=>
    simp only [cond_true,Bool.true_and]
    refine H3 (wp_mono (H9e 2 l x ht) (fun r9 h9=>Gg ⟨fun h=>.inr (.inr ⟨hh,h8.1 rfl,h9.1 h⟩),fun h=>?_⟩))
    rcases h with h | h | ⟨_,_,h⟩
    ·exact(h0 h).elim
    ·exact(h7' h).elim
    ·exact h9.2 h
   | false=>
    simp only [cond_false,Bool.false_and]
    refine H3 (Gg (Gg ⟨fun h=>(by cases h),fun h=>?_⟩))
    rcases h with h | h | ⟨_,h,_⟩
    ·exact(h0 h).elim
    ·exact(h7' h).elim
    ·have:=h8.2 h; cases this
  ·rw [decide_eq_false hh]
   simp only [cond_false,Bool.false_and]
   refine H3 (Gg (H3 (Gg (Gg ⟨fun h=>(by cases h),fun h=>?_⟩))))
   rcases h with h | h | ⟨h,_⟩
   ·exact(h0 h).elim
   ·exact(h7' h).elim
   ·exact(hh h).elim
def Ga2 (a b:Int):Prop:=a=b∨a=0∨b=0
theorem J14 (a b:Int):Wp (G2b a b) (fun r=>r=true ↔ Ga2 a b):=by
 unfold G2b Ga2
 refine Gg ?_
 simp [or_assoc]
def H36 (a b:Slot):Prop:=a.G4=b.G4∧a.Tier=b.Tier∧Ga2 a.Half b.Half
theorem slot_meet (a b:Slot):Wp (G77 a b) (fun r=>r=true ↔ H36 a b):=by
 unfold G77 H36
 by_cases h:a.G4=b.G4∧a.Tier=b.Tier
 ·simp only [decide_eq_true h.1,decide_eq_true h.2,Bool.and_self,cond_true,Bool.true_and]
  exact H3 (wp_mono (J14 _ _) (fun r hr=>Gg ⟨fun e=>⟨h.1,h.2,hr.1 e⟩,fun e=>hr.2 e.2.2⟩))
 ·have e:(decide (a.G4=b.G4)&&decide (a.Tier=b.Tier))=false:=by
   by_cases h1:a.G4=b.G4
   ·have:¬ a.Tier=b.Tier:=fun h2=>h ⟨h1,h2⟩
    simp [this]
   ·simp [h1]
  simp only [e,cond_false,Bool.false_and]
  exact H3 (Gg (Gg ⟨fun e=>(by cases e),fun e=>(h ⟨e.1,e.2.1⟩).elim⟩))
def Gf9 (a b:Slot):Prop:=a.G4=b.G4∧b.Tier < a.Tier∧Ga2 a.Half b.Half
/-- The height of what stands in a half of a column. -/
def tallI (b:G9):Int:=if b.High then 2896 else 2591
def G59 (boxes:List G9) (column half:Int) (n:Int) (x:Stowed):Int:=
 if x.Slot.G4=column∧(x.Slot.Half=half∨x.Slot.Half=0) then (match Jw boxes x.G9 with | some b=>n+tallI b | none=>n) else n
def G31 (boxes:List G9) (l:List Stowed) (column half:Int):Int:=l.foldl (G59 boxes column half) 0
theorem J3a {boxes:List G9} {column half n:Int} {x:Stowed}:n≤G59 boxes column half n x∧G59 boxes column half n x≤n+2896:=by
 unfold G59 tallI
 split
 ·split
  ·split <;> omega
  ·omega
 ·omega
theorem J11 (boxes:List G9) (l:List Stowed) (column half:Int) (hl:l.length≤1000000):G2a boxes l column half=some (G31 boxes l column half):=by
 refine Y4 ?_
 unfold G2a G31
 refine Jf (fun pre n=>n=pre.foldl (G59 boxes column half) 0∧0≤n∧n≤2896*pre.length) ⟨rfl,Int.le_refl _,by simp⟩ (fun pre y post n nx e hn hnx=>?_) (fun n hn=>Gg hn.1)
 obtain⟨rfl,h1,h2⟩:=hn
 have hp:pre.length+1≤l.length:=by rw [e]; simp
 have ha:=J3a (boxes:=boxes) (column:=column) (half:=half) (n:=pre.foldl (G59 boxes column half) 0) (x:=y)
 have hlen:((pre++[y]).length:Int)=pre.length+1:=by simp
 generalize hg:pre.foldl (G59 boxes column half) 0=n at *
 refine G09 (fun j=>j=G59 boxes column half n y) (fun K hK=>?_) (fun j hj=>hnx _ ⟨by rw [hj,List.foldl_append,hg]; rfl,by omega,by rw [hlen]; omega⟩)
 refine H7 (fun hc=>?_) (fun hc=>hK _ ?_)
 ·have hc':y.Slot.G4=column∧(y.Slot.Half=half∨y.Slot.Half=0):=by simpa using hc
  refine Gs (G70 boxes y.G9) ?_
  cases hf:Jw boxes y.G9 with
  | none=>exact H7 (fun h=>by cases h) (fun _=>hK _ (by unfold G59; rw [if_pos hc',hf]))
  | some b=>
   refine H7 (fun _=>?_) (fun h=>by cases h)
   have ht:Gad b=some (tallI b):=by unfold Gad tallI; cases b.High <;> rfl
   have hadd:G59 boxes column half n y=n+tallI b:=by unfold G59; rw [if_pos hc',hf]
   refine Gs ht (Q7 ?_ (hK _ hadd.symm))
   rw [← hadd]
   omega
 ·have hc':¬ (y.Slot.G4=column∧(y.Slot.Half=half∨y.Slot.Half=0)):=by simpa using hc
  unfold G59; rw [if_neg hc']
def H3c (boxes:List G9) (l:List Stowed) (m:Nat) (c:G4):Prop:=c.Height≤0∨(G31 boxes l m 1≤c.Height∧G31 boxes l m 2≤c.Height)
theorem stow_fits {s:Gp} {boxes:List G9} {l:List Stowed} {m:Nat} {c:G4} (hc:s.Columns[m]? = some c) (hl:l.length≤1000000):Wp (G3e s boxes l (m:Int)) (fun r=>r=true ↔ H3c boxes l m c):=by
 unfold G3e H3c
 refine Rj rfl hc ?_
 by_cases h:c.Height≤0
 ·simp only [decide_eq_true h,Bool.not_true,cond_false,Bool.false_and,Bool.true_or]
  exact H3 (Gg (H3 (Gg (Gg ⟨fun _=>.inl h,fun _=>rfl⟩))))
 ·simp only [decide_eq_false h,Bool.not_false,cond_true,Bool.true_and,Bool.false_or]
  refine Gs (J11 boxes l m 1 hl) ?_
  by_cases h1:G31 boxes l m 1≤c.Height
  ·rw [decide_eq_true h1]
   simp only [cond_true,Bool.true_and]
   exact Gs (J11 boxes l m 2 hl) (Gg ⟨fun e=>.inr ⟨h1,of_decide_eq_true e⟩,fun e=>decide_eq_true (e.elim (fun e=>(h e).elim) (·.2))⟩)
  ·rw [decide_eq_false h1]
   simp only [cond_false,Bool.false_and]
   exact H3 (Gg (Gg ⟨fun e=>(by cases e),fun e=>e.elim (fun e=>(h e).elim) (fun e=>(h1 e.1).elim)⟩))
theorem J6a (l:List Stowed) (hl:l.length≤1000000):G4e l=some (l.map (·.Slot)):=by
 refine Y4 ?_
 unfold G4e
 refine Jf (fun pre s=>s=pre.map (·.Slot)) rfl (fun pre y post s nx e hs hnx=>?_) (fun s hs=>Gg hs)
 subst hs
 have hp:pre.length+1≤l.length:=by rw [e]; simp
 exact Qe (G64 (by simp only [List.length_map,List.length_singleton]; omega) (by omega)) (hnx _ (by simp))
structure Ri (s:Gp) (boxes:List G9) (l:List Stowed):Prop where
 each:∀ x∈l,∃ b,Jw boxes x.G9=some b∧Yq s x.Slot b.Size∧H17 x.Slot (l.map (·.Slot))
 sorted:l.Pairwise (fun a b=>a.G9 < b.G9)
 apart:l.Pairwise (fun a b=>¬ H36 b.Slot a.Slot)
 fits:∀ m c,s.Columns[m]? = some c→H3c boxes l m c
theorem H88 {α:Type} {R:α→α→Prop} {l:List α} {x:α} (h:l.Pairwise R) (hx:∀ a∈l,R a x):(l++[x]).Pairwise R:=by
 rw [List.pairwise_append]
 refine⟨h,List.pairwise_singleton ..,fun a ha b hb=>?_⟩
 rw [List.mem_singleton] at hb; subst hb
 exact hx a ha
theorem G85 {α:Type} {R:α→α→Prop} {pre post:List α} {y:α} (h:(pre++y::post).Pairwise R):∀ a∈pre,R a y:=fun a ha=>(List.pairwise_append.1 h).2.2 a ha y (List.mem_cons_self ..)
theorem Gd6 {s:Gp} {boxes:List G9} {l:List Stowed} (hr:G4d s=some true) (ht:∀ c∈s.Columns,c.Tiers≤1000000) (hl:l.length≤1000000):Wp (Q2 s boxes l) (fun r=>r=true ↔ Ri s boxes l):=by
 unfold Q2
 refine Gs hr (H7 (fun h=>by cases h) (fun _=>?_))
 refine Gs (J6a l hl) ?_
 refine Jf (fun pre _=>(∀ x∈pre,∃ b,Jw boxes x.G9=some b∧Yq s x.Slot b.Size∧H17 x.Slot (l.map (·.Slot)))∧pre.Pairwise (fun a b=>a.G9 < b.G9)∧pre.Pairwise (fun a b=>¬ H36 b.Slot a.Slot))
  ⟨fun x hx=>(List.not_mem_nil hx).elim,List.Pairwise.nil,List.Pairwise.nil⟩ (fun pre y post u nx e hI hnx=>?_) (fun u hI=>?_)
 ·obtain⟨i1,i2,i3⟩:=hI
  have hlen:pre.length < l.length:=by rw [e]; simp
  have hy:y∈l:=by rw [e]; simp
  have no:∀ {m:Option Bool},m=some false→¬ Ri s boxes l→Wp m (fun r=>r=true ↔ Ri s boxes l):=fun e h=>by subst e; exact Gg ⟨fun e=>(by cases e),fun e=>(h e).elim⟩
  refine Gs (G70 boxes y.G9) ?_
  cases hf:Jw boxes y.G9 with
  | none=>
   simp only [Bool.not_false,Bool.not_true,Bool.false_and,cond_false,Bool.true_or,cond_true]
   refine H3 (Gg (H3 (Gg (H3 (Gg (H3 (Gg (no rfl fun h=>?_))))))))
   obtain⟨b,hb,_⟩:=h.each y hy
   rw [hf] at hb; cases hb
  | some b=>
   simp only [Bool.not_true,Bool.not_false,Bool.true_and,Bool.false_or]
   -- the order
   have hprev:Wp (bif decide (0 < (pre.length:Int)) then G0d ((pre.length:Int) - 1) some else some 0) (fun v=>Wp (bif decide (0 < (pre.length:Int)) then Z2 l v some else some default) (fun y20=>
     ((decide (0 < (pre.length:Int))&&decide (y.G9≤y20.G9))=true→¬ Ri s boxes l)∧((decide (0 < (pre.length:Int))&&decide (y.G9≤y20.G9))=false→∀ a∈pre,a.G9 < y.G9))):=by
    rcases List.eq_nil_or_concat pre with hp | ⟨pre',z,hp⟩
    ·subst hp
     simp only [List.length_nil]
     exact Gg (Gg ⟨fun h=>by simp at h,fun _ a ha=>(List.not_mem_nil ha).elim⟩)
    ·have hp':pre=pre'++[z]:=by simpa using hp
     have hpl:pre.length=pre'.length+1:=by rw [hp']; simp
     have hd:decide (0 < (pre.length:Int))=true:=decide_eq_true (by omega)
     have hz:l[pre'.length]? = some z:=by rw [e,hp']; simp
     rw [hd]
     simp only [cond_true,Bool.true_and]
     refine Q7 ⟨by omega,by omega⟩ (Gg (Rj (m:=pre'.length) (by omega) hz (Gg ⟨fun h hR=>?_,fun h a ha=>?_⟩)))
     ·have:=of_decide_eq_true h
      have hs:=hR.sorted
      rw [e] at hs
      have:=G85 hs z (by rw [hp']; simp)
      omega
     ·have hzy:¬ y.G9≤z.G9:=of_decide_eq_false h
      rw [hp'] at ha
      rcases List.mem_append.1 ha with ha | ha
      ·have:=G85 (hp' ▸ i2:(pre'++z::[]).Pairwise _) a ha
       omega
      ·rw [List.mem_singleton] at ha; subst ha; omega
   refine H3 (wp_mono hprev (fun v hv=>H3 (wp_mono hv (fun y20 h20=>?_))))
   obtain⟨n1,n2⟩:=h20
   generalize (decide (0 < (pre.length:Int))&&decide (y.G9≤y20.G9))=c at n1 n2
   cases c with
   | true=>
    simp only [Bool.not_true,cond_false,Bool.true_or,cond_true]
    exact H3 (Gg (H3 (Gg (no rfl (n1 rfl)))))
   | false=>
    simp only [Bool.not_false,cond_true,Bool.false_or]
    have hsort:=n2 rfl
    refine H3 (wp_mono (J6e s y.Slot b.Size) (fun r21 h21=>?_))
    cases r21 with
    | false=>
     simp only [Bool.not_false,Bool.not_true,cond_false,Bool.true_or,cond_true]
     refine H3 (Gg (no rfl fun h=>?_))
     obtain⟨b',hb,hs,_⟩:=h.each y hy
     rw [hf] at hb; cases hb
     have:=h21.2 hs; cases this
    | true=>
     have hslot:=h21.1 rfl
     simp only [Bool.not_true,Bool.not_false,cond_true,Bool.false_or]
     have htier : -1000000≤y.Slot.Tier∧y.Slot.Tier≤1000000:=by
      obtain⟨m,c,_,hc,h3⟩:=hslot.col
      have:=hslot.tier
      have:=ht c (List.mem_of_getElem? hc)
      omega
     refine H3 (wp_mono (slot_held y.Slot (l.map (·.Slot)) htier) (fun r22 h22=>?_))
     cases r22 with
     | false=>
      refine H7 (fun _=>no rfl fun h=>?_) (fun h=>by cases h)
      obtain⟨b',hb,_,hh⟩:=h.each y hy
      have:=h22.2 hh; cases this
     | true=>
      have hheld:=h22.1 rfl
      refine H7 (fun h=>by cases h) (fun _=>?_)
      refine H3 (H41 (m:=pre.length) rfl (by rw [List.length_map]; omega) ?_)
      have htk:(l.map (·.Slot)).take pre.length=pre.map (·.Slot):=by rw [← List.map_take,e,List.take_left']; rfl
      rw [htk]
      refine Jf (fun pr _=>∀ a∈pr,¬ H36 y.Slot a) (fun a ha=>(List.not_mem_nil ha).elim) (fun pr a pos u nx2 e2 hI2 hnx2=>?_) (fun u hI2=>hnx _ ⟨fun x hx=>?_,H88 i2 hsort,H88 i3 (fun a ha=>hI2 a.Slot (List.mem_map.2 ⟨a,ha,rfl⟩))⟩)
      ·refine H3 (wp_mono (slot_meet y.Slot a) (fun r48 h48=>?_))
       refine H7 (fun h=>no rfl fun hR=>?_) (fun h=>hnx2 _ (fun a' ha'=>?_))
       ·have hm:=h48.1 h
        have hin:a∈pre.map (·.Slot):=by rw [e2]; simp
        obtain⟨z,hz,rfl⟩:=List.mem_map.1 hin
        have ha:=hR.apart
        rw [e] at ha
        exact G85 ha z hz hm
       ·rcases List.mem_append.1 ha' with ha' | ha'
        ·exact hI2 a' ha'
        ·rw [List.mem_singleton] at ha'; subst ha'
         intro hm
         have:=h48.2 hm
         rw [this] at h; cases h
      ·rcases List.mem_append.1 hx with hx | hx
       ·exact i1 x hx
       ·rw [List.mem_singleton] at hx; subst hx
        exact⟨b,hf,hslot,hheld⟩
 ·obtain⟨i1,i2,i3⟩:=hI
  refine Jf (fun pre _=>∀ m c,m < pre.length→s.Columns[m]? = some c→H3c boxes l m c) (fun m c h=>(Nat.not_lt_zero m h).elim) (fun pre y post u nx e hI hnx=>?_) (fun u hI=>Gg ⟨fun _=>⟨i1,i2,i3,fun m c hc=>hI m c (List.getElem?_eq_some_iff.1 hc).1 hc⟩,fun _=>rfl⟩)
  have hc:s.Columns[pre.length]? = some y:=by rw [e]; simp
  refine H3 (wp_mono (stow_fits hc hl) (fun r hr=>?_))
  cases r with
  | false=>exact H7 (fun _=>Gg ⟨fun e=>(by cases e),fun h=>by have:=hr.2 (h.fits _ _ hc); cases this⟩) (fun h=>by cases h)
  | true=>
   refine H7 (fun h=>by cases h) (fun _=>hnx _ (fun m c hm hmc=>?_))
   rw [List.length_append,List.length_singleton] at hm
   rcases Nat.lt_or_ge m pre.length with h | h
   ·exact hI m c h hmc
   ·have:m=pre.length:=by omega
    subst this
    rw [hc] at hmc; cases hmc
    exact hr.1 rfl
section maps
variable {κ ν:Type} [DecidableEq κ]
theorem J90 (a:κ):H8.has (H8.empty:H8 κ ν) a=false:=rfl
end maps
/-- A cover lies over a place. -/
def Gb9 (x:Ga) (c:G4):Bool:=decide (x.Bay=c.Bay)&&x.Rows.any (fun r=>decide (r=c.Row))
def Q9 (s:Gp) (c:G4):Int:=Hcf (fun x=>Gb9 x c) s.Covers
/-- Boxes that are on board behind a call. -/
def abB (k:Int) (b:G9):Bool:=decide (b.Load≤k)&&decide (k < b.Discharge)
/-- The slot of a box in a state, and whether it is there. -/
def J87 (l:List Stowed) (id:Int):Slot×Bool:=match Ha6 l id with
 | some x=>(x.Slot,true)
 | none=>(⟨0,0,0⟩,false)
/-- Ships whose covers and columns are few. -/
structure Small (s:Gp):Prop where
 right:G4d s=some true
 cols:1≤s.Columns.length∧s.Columns.length≤40
 tiers:∀ c∈s.Columns,c.Tiers≤100
 covs:s.Covers.length≤1000
 rows:∀ x∈s.Covers,x.Rows.length≤1000
def ColIn (s:Gp) (x:Slot):Prop:=∃ (m:Nat) (c:G4),x.G4=(m:Int)∧s.Columns[m]? = some c
structure J31 (U:List Int) (m:H8 Int Unit) (l:List Int):Prop where
 nodup:l.Nodup
 sub:∀ a∈l,a∈U
 has:∀ a,H8.has m a=decide (a∈l)
theorem J31.le {U:List Int} {m:H8 Int Unit} {l:List Int} (h:J31 U m l):l.length≤U.length:=h.nodup.length_le_of_subset (fun a ha=>h.sub a ha)
theorem J31.start {U:List Int}:J31 U (H8.empty:H8 Int Unit) []:=⟨List.nodup_nil,fun a ha=>(List.not_mem_nil ha).elim,fun a=>by simp [J90]⟩
theorem G83 {l:List Int} (h:l.Pairwise (· < ·)):l.Nodup:=h.imp (fun h=>by omega)
theorem Small.tier {s:Gp} (h:Small s):∀ c∈s.Columns,c.Tiers≤1000000:=fun c hc=>by have:=h.tiers c hc; omega
theorem J6f {s:Gp} {x:Slot} {size:Int} (h:Yq s x size):ColIn s x:=by
 obtain⟨m,c,h1,h2,_⟩:=h.col
 exact⟨m,c,h1,h2⟩
theorem Ha1 {s:Gp} {boxes:List G9}:Ri s boxes []:=⟨fun x hx=>(List.not_mem_nil hx).elim,List.Pairwise.nil,List.Pairwise.nil,fun m c _=>by
 unfold H3c G31
 simp only [List.foldl_nil]
 omega⟩
theorem H2b {a b:List Int} (ha:a.Pairwise (· < ·)) (hb:b.Pairwise (· < ·)) (h:∀ x,x∈a ↔ x∈b):a=b:=
 List.Perm.eq_of_pairwise (le:=fun x y:Int=>x < y) (fun x y _ _ h1 h2=>by omega) ha hb ((List.perm_ext_iff_of_nodup (G83 ha) (G83 hb)).2 h)
/-- A state in the making, behind a call. -/
structure VInv (s:Gp) (boxes:List G9) (k:Int) (l:List Stowed):Prop where
 right:Ri s boxes l
 mem:∀ x∈l,∃ b∈boxes,b.ID=x.G9∧abB k b=true
theorem VInv.nil {s:Gp} {boxes:List G9} {k:Int}:VInv s boxes k []:=⟨Ha1,fun x hx=>(List.not_mem_nil hx).elim⟩
/-- y stands on deck upon the cover that x stands under. -/
def upon (s:Gp) (x y:Slot):Prop:=∃ (m:Nat) (c:G4) (m1:Nat) (c1:G4),x.G4=(m:Int)∧s.Columns[m]? = some c∧y.G4=(m1:Int)∧s.Columns[m1]? = some c1∧c.Deck=false∧c1.Deck=true∧0≤Q9 s c∧Q9 s c1=Q9 s c
def PullsIn (s:Gp) (states:List (List Stowed)) (st:List Stowed) (a b:Int):Prop:=
 (J87 st a).2=true∧((∃ y∈st,y.G9=b∧Gf9 y.Slot (J87 st a).1)∨∃ st2∈states,∃ y∈st2,y.G9=b∧upon s (J87 st a).1 y.Slot)
/-- To lift a, b has to be lifted. -/
def H8b (s:Gp) (states:List (List Stowed)) (a b:Int):Prop:=∃ st∈states,PullsIn s states st a b
structure Grown (s:Gp) (U:List Int) (states:List (List Stowed)) (l:List Int) (id:Int) (m:H8 Int Unit) (l':List Int):Prop where
 inv:J31 U m l'
 sub:∀ a∈l,a∈l'
 has:id∈l'
 closed:∀ a∈l',a ∉ l→∀ b,H8b s states a b→b∈l'
 least:∀ C:Int→Prop,(∀ a b,C a→H8b s states a b→C b)→(∀ a∈l,C a)→C id→∀ a∈l',C a
structure Rch (s:Gp) (U:List Int) (states:List (List Stowed)) (l:List Int) (id:Int) (m:H8 Int Unit) (l':List Int):Prop where
 inv:J31 U m l'
 sub:∀ a∈l++[id],a∈l'
 closed:∀ a∈l',a ∉ l→a≠id→∀ b,H8b s states a b→b∈l'
 least:∀ C:Int→Prop,(∀ a b,C a→H8b s states a b→C b)→(∀ a∈l,C a)→C id→∀ a∈l',C a
section
variable {s:Gp} {U:List Int} {states:List (List Stowed)} {l l' l2:List Int} {id y:Int} {m m2:H8 Int Unit}
theorem Rch.start (h:J31 U m (l++[id])):Rch s U states l id m (l++[id]):=
 ⟨h,fun a ha=>ha,fun a ha h1 h2=>by
  rcases List.mem_append.1 ha with ha | ha
  ·exact(h1 ha).elim
  ·exact(h2 (List.mem_singleton.1 ha)).elim,fun C _ hl hid a ha=>by
  rcases List.mem_append.1 ha with ha | ha
  ·exact hl a ha
  ·exact List.mem_singleton.1 ha ▸ hid⟩
theorem Rch.step (h:Rch s U states l id m l') (hp:H8b s states id y) (g:Grown s U states l' y m2 l2):Rch s U states l id m2 l2∧(∀ a∈l',a∈l2)∧y∈l2:=
 ⟨⟨g.inv,fun a ha=>g.sub a (h.sub a ha),fun a ha h1 h2 b hb=>by
  by_cases hal:a∈l'
  ·exact g.sub b (h.closed a hal h1 h2 b hb)
  ·exact g.closed a ha hal b hb,fun C hc hl hid=>g.least C hc (h.least C hc hl hid) (hc id y hid hp)⟩,g.sub,g.has⟩
end
structure Least (s:Gp) (before after:List Stowed) (l:List Int):Prop where
 seeds:∀ st∈[before,after],∀ y∈st,J87 before y.G9≠J87 after y.G9→y.G9∈l
 closed:∀ a∈l,∀ b,H8b s [before,after] a b→b∈l
 least:∀ C:Int→Prop,(∀ a b,C a→H8b s [before,after] a b→C b)→(∀ st∈[before,after],∀ y∈st,J87 before y.G9≠J87 after y.G9→C y.G9)→∀ a∈l,C a
theorem J7d {α:Type} {a b x:α} (h:x∈[a,b]):x∈[b,a]:=by
 simp only [List.mem_cons,List.not_mem_nil,or_false] at h ⊢
 exact h.symm
theorem H8b.swap {s:Gp} {a b:List Stowed} {x y:Int} (h:H8b s [a,b] x y):H8b s [b,a] x y:=by
 obtain⟨st,hst,h1,h2⟩:=h
 exact⟨st,J7d hst,h1,h2.imp _root_.id (fun⟨st2,h3,h4⟩=>⟨st2,J7d h3,h4⟩)⟩
theorem Least.le {s:Gp} {before after:List Stowed} {l l':List Int} (h:Least s before after l) (h':Least s after before l'):∀ a∈l,a∈l':=
 h.least (·∈l') (fun a b ha hb=>h'.closed a ha b hb.swap) (fun st hst y hy hne=>h'.seeds st (J7d hst) y hy (fun e=>hne e.symm))
section lifted
variable {s:Gp} {before after:List Stowed}
end lifted
instance (a b:Slot):Decidable (Gf9 a b):=by unfold Gf9 Ga2; infer_instance
/-- To lift a, b has to be lifted. -/
def Pl (s:Gp) (l:List Stowed) (a b:Int):Prop:=∃ x∈l,x.G9=a∧∃ y∈l,y.G9=b∧(Gf9 y.Slot x.Slot∨upon s x.Slot y.Slot)
structure Brd (s:Gp) (boxes:List G9) (l:List Stowed):Prop where
 ship:H59 s
 right:Ri s boxes l
 rows:∀ x∈s.Covers,x.Rows.length≤1000000
 covs:s.Covers.length≤1000000
 len:l.length≤1000
theorem Brd.col {s:Gp} {boxes:List G9} {l:List Stowed} (h:Brd s boxes l) {x:Stowed} (hx:x∈l):ColIn s x.Slot:=by
 obtain⟨b,_,h1,_⟩:=h.right.each x hx
 exact J6f h1
/-- The least set of boxes that is closed, in order. -/
structure G20 (s:Gp) (l:List Stowed) (ids:List Int) (r:List Int):Prop where
 sorted:r.Pairwise (· < ·)
 seeds:∀ a∈ids,a∈r
 closed:∀ a∈r,∀ b,Pl s l a b→b∈r
 least:∀ C:Int→Prop,(∀ a b,C a→Pl s l a b→C b)→(∀ a∈ids,C a)→∀ a∈r,C a
theorem G20.eq {s:Gp} {l:List Stowed} {ids r r':List Int} (h:G20 s l ids r) (h':G20 s l ids r'):r=r':=
 H2b h.sorted h'.sorted (fun x=>⟨fun hx=>h.least (·∈r') (fun a b ha hp=>h'.closed a ha b hp) h'.seeds x hx,fun hx=>h'.least (·∈r) (fun a b ha hp=>h.closed a ha b hp) h.seeds x hx⟩)
/-- What Reach returns, of a state that is right. -/
def ReachR (s:Gp) (boxes:List G9) (l:List Stowed) (ids:List Int) (r:List Int×Int):Prop:=
 (¬ (H59 s∧Ri s boxes l)∧r=([],2))∨(H59 s∧Ri s boxes l∧((¬ (∀ a∈ids,a∈l.map (·.G9))∧r=([],6))∨((∀ a∈ids,a∈l.map (·.G9))∧r.2=0∧G20 s l ids r.1)))
theorem ReachR.eq {s:Gp} {boxes:List G9} {l:List Stowed} {ids:List Int} {r r':List Int×Int} (h:ReachR s boxes l ids r) (h':ReachR s boxes l ids r'):r=r':=by
 rcases h with ⟨h1,h2⟩ | ⟨h1,h2,h3⟩ <;> rcases h' with ⟨k1,k2⟩ | ⟨k1,k2,k3⟩
 ·rw [h2,k2]
 ·exact(h1 ⟨k1,k2⟩).elim
 ·exact(k1 ⟨h1,h2⟩).elim
 ·rcases h3 with ⟨h3,h4⟩ | ⟨h3,h4,h5⟩ <;> rcases k3 with ⟨k3,k4⟩ | ⟨k3,k4,k5⟩
  ·rw [h4,k4]
  ·exact(h3 k3).elim
  ·exact(k3 h3).elim
  ·exact Prod.ext (h5.eq k5) (h4.trans k4.symm)
end Go.Proofs.YtpgkkengffpnpaaGreat
