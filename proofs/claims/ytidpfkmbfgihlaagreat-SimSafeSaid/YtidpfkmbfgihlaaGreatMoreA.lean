/- What the program says of a ship and of a state,and what has -/
import Derived.Test.YtidpfkmbfgihlaaGreatXR
set_option linter.unusedVariables false
set_option maxRecDepth 100000
namespace Go.Proofs.YtidpfkmbfgihlaaGreat
open Go.RowKit
theorem R35 {α γ:Type} {l:List α} {i:Nat} {y:α} (h:l[i]? = some y) (k:α→Option γ):Z3 l (i:Int) k=k y:=by
 unfold Z3
 rw [M1 (by omega:(0:Int)≤(i:Int)),cond_true,show (i:Int).toNat=i by omega,h]; rfl
structure Yf5 (c:G2):Prop where
 plugs:∀ p∈c.Plugs,0≤p∧p < c.Tiers
 sorted:c.Plugs.Pairwise (· < ·)
 place:0≤c.Bay∧c.Bay≤39∧0≤c.Row∧c.Row≤30∧1≤c.Tiers∧c.Tiers≤10∧0≤c.Height∧c.Height≤40000
 load:0≤c.Kilos20∧c.Kilos20≤500000000∧0≤c.Kilos40∧c.Kilos40≤500000000∧0≤c.Lash∧c.Lash≤1000000000000
 at_ : -500000≤c.X∧c.X≤500000 ∧ -500000≤c.Y∧c.Y≤500000 ∧ -500000≤c.Z∧c.Z≤500000
theorem H42 {p:Prop} (h:¬ p):(false=true) ↔ p:=⟨fun e=>Bool.noConfusion e,fun hp=>(h hp).elim⟩
theorem Z14 {β:Type} {Q:β→Prop} {z:Int} {k:Int→Option β} (h:Wp (k (IntKind.i64.wrap z)) Q):Wp (wrp z k) Q:=h
theorem R2d {α:Type} {R:α→α→Prop} {l:List α} {x:α} (h:l.Pairwise R) (hx:∀ a∈l,R a x):(l++[x]).Pairwise R:=by
 rw [List.pairwise_append]
 refine⟨h,List.pairwise_singleton ..,fun a ha b hb=>?_⟩
 rw [Mn] at hb; subst hb
 exact hx a ha
theorem H64 {α:Type} {P:α→Prop} {l:List α} {x:α} (h1:∀ y∈l,P y) (h2:P x):∀ y∈l++[x],P y:=fun y hy=>by
 rcases Mk.1 hy with hy | hy
 ·exact h1 y hy
 ·rw [Mn.1 hy]; exact h2
theorem J1c {pre:List Int} {y p:Int} (h:pre.Pairwise (· < ·)) (hp:pre[pre.length - 1]? = some p) (hy:p < y):∀ a∈pre,a < y:=by
 rcases List.eq_nil_or_concat pre with rfl | ⟨q,z,rfl⟩
 ·intro a ha; cases ha
 ·rw [List.concat_eq_append] at *
  have hz:z=p:=by
   rw [Mf,Mg,show q.length+1 - 1=q.length by omega] at hp
   simpa using hp
  subst hz
  intro a ha
  rcases Mk.1 ha with ha | ha
  ·have:=(List.pairwise_append.1 h).2.2 a ha z (by simp)
   omega
  ·rw [Mn.1 ha]; exact hy
theorem Q1c (l:List Hn):G5c l=some (l.all (fun x=>decide (x.low≤x.n)&&decide (x.n≤x.high))):=by
 refine G30 ?_
 unfold G5c
 refine Rc (fun pre _=>pre.all (fun x=>decide (x.low≤x.n)&&decide (x.n≤x.high))=true) rfl (fun pre y post s nx e hI h0=>He (fun h=>Gg ?_) (fun h=>h0 _ ?_)) (fun s hI=>Gg hI.symm)
 ·symm
  rw [List.all_eq_false]
  refine⟨y,by rw [e]; simp,?_⟩
  simp only [Mq,Mi] at h
  simp only [Mh,Mi]
  omega
 ·simp only [Mr,decide_eq_false_iff_not] at h
  rw [List.all_append,hI]
  simp only [List.all_cons,List.all_nil,Bool.and_true,Bool.true_and,Mh,Mi]
  omega
theorem Q41 {pre post:List Int} {l:List Int} {y:Int} (e:l=pre++y::post) (hp:0 < pre.length):∃ p,l[pre.length - 1]? = some p∧pre[pre.length - 1]? = some p∧p∈pre:=by
 have h1:pre[pre.length - 1]? = some (pre[pre.length - 1]'(by omega)):=M4 (by omega)
 exact⟨_,by rw [e,Ma (by omega)]; exact h1,h1,List.getElem_mem _⟩
theorem Y70 (c:G2) (hl:c.Plugs.length≤1048576):Wp (Gb6 c) (fun r=>r=true ↔ Yf5 c):=by
 unfold Gb6
 have hw:1≤c.Tiers∧c.Tiers≤10→IntKind.i64.wrap (c.Tiers - 1)=c.Tiers - 1:=fun h=>Q3c (by omega) (by omega)
 refine Rc (fun pre _=>(∀ p∈pre,0≤p∧p≤IntKind.i64.wrap (c.Tiers - 1))∧pre.Pairwise (· < ·)) ⟨fun p hp=>(M7 hp).elim,List.Pairwise.nil⟩ (fun pre y post s nx e hI h5=>?_) (fun s hI=>?_)
 ·obtain⟨h3,h4⟩:=hI
  have h6:y∈c.Plugs:=by rw [e]; simp
  have b0:pre.length < c.Plugs.length:=by rw [e]; simp
  refine Z14 (Gs (Q1c _) ?_)
  simp only [List.all_cons,List.all_nil,Bool.and_true]
  by_cases hy:0≤y∧y≤IntKind.i64.wrap (c.Tiers - 1)
  ·rw [M1 hy.1,M1 hy.2]
   simp only [Bool.and_self,Bool.not_true,Bool.not_false,Bool.true_and,Bool.false_or]
   by_cases hp:0 < pre.length
   ·obtain⟨p,h7,h8,h9⟩:=Q41 e hp
    have a0:IntKind.i64.wrap ((pre.length:Int) - 1)=((pre.length - 1:Nat):Int):=by
     rw [Q3c (by omega) (by omega)]; omega
    rw [M1 (by omega:0 < (pre.length:Int)),cond_true]
    refine Gs (congrArg some a0) (Gs ((R35 h7 some).trans rfl) ?_)
    simp only [Bool.true_and]
    refine He (fun h=>Gg (H42 fun hc=>?_)) (fun h=>h5 _ ⟨H64 h3 hy,R2d h4 (J1c h4 h8 (by have:=M0 h; omega))⟩)
    have:=Kz h
    have hs:=hc.sorted
    rw [e] at hs
    have:=(List.pairwise_append.1 hs).2.2 p h9 y (by simp)
    omega
   ·have h0:pre=[]:=Ku (by omega)
    subst h0
    rw [M2 (by simp:¬ 0 < (([]:List Int).length:Int))]
    refine Gy (Gg (Gy (Gg ?_)))
    simp only [Bool.false_and,cond_false]
    exact h5 _ ⟨H64 h3 hy,by simp⟩
  ·have hf:(decide (0≤y)&&decide (y≤IntKind.i64.wrap (c.Tiers - 1)))=false:=by
    rw [Bool.and_eq_false_iff,decide_eq_false_iff_not,decide_eq_false_iff_not]
    omega
   rw [hf]
   simp only [Bool.not_false,Bool.not_true,Bool.false_and,cond_false,Bool.true_or,cond_true]
   refine Gy (Gg (Gy (Gg (Gg (H42 fun hc=>hy ?_)))))
   have h1:=hc.plugs y h6
   have h2:=hc.place
   rw [hw (by omega)]
   omega
 ·obtain⟨h3,h4⟩:=hI
  refine Gs (Q1c _) (Gg ?_)
  simp only [List.all_cons,List.all_nil,Bool.and_true,Mh,Mi]
  constructor
  ·rintro⟨a1,a2,a3,a4,a5,a6,a7,a8,a9,a10⟩
   have hw:=hw a3
   exact⟨fun p hp=>by have:=h3 p hp; omega,h4,by omega,by omega,by omega⟩
  ·intro h
   obtain⟨_,_,b1,b2,b3⟩:=h
   omega
def dk (b:Bool):Int:=bif b then 1 else 0
def k3 (c:G2):Hh:=⟨c.Bay,c.Row,dk c.Deck⟩
def x3 (x:G8):List Hh:=x.Rows.map fun r=>⟨x.Bay,r,2⟩
structure CovR (x:G8):Prop where
 bay:0≤x.Bay∧x.Bay≤39
 some:x.Rows≠[]
 rows:∀ r∈x.Rows,0≤r∧r≤30
 sorted:x.Rows.Pairwise (· < ·)
structure J63 (s:Gk):Prop where
 num:1≤s.Columns.length∧s.Columns.length≤200∧s.Covers.length≤40
 col:∀ c∈s.Columns,Yf5 c
 cov:∀ x∈s.Covers,CovR x
 nodup:(s.Columns.map k3++s.Covers.flatMap x3).Nodup
theorem Z06 {κ:Type} [DecidableEq κ] {m:Jv κ Int} {l:List κ} (h:Jv.l m=tally l) (a:κ):Jv.l (Jv.put m a (Jv.get m a 0+1))=tally (l++[a]):=by
 rw [He1]
 show H02 (Jv.l m) a ((G31 (Jv.l m) a).getD 0+1)=_
 rw [h]
theorem Z0a {κ:Type} [DecidableEq κ] {m:Jv κ Int} {l:List κ} (h:Jv.l m=tally l) (a:κ):0≤Jv.get m a 0∧Jv.get m a 0≤(l.length:Int):=by
 have:=R74 l a
 show 0≤(G31 (Jv.l m) a).getD 0∧_
 rw [h]
 exact⟨this.1,by show (G31 (Jv.l m) a).getD 0≤_; rw [h]; exact this.2⟩
theorem Ya4 (l:List G8) (h:∀ x∈l,x.Rows.length≤1048576):(l.flatMap x3).length≤1048576*l.length:=by
 induction l with
 | nil=>simp
 | cons x l ih=>
  have h1:=h x (List.mem_cons_self ..)
  have h2:=ih (fun y hy=>h y (List.mem_cons_of_mem _ hy))
  rw [List.flatMap_cons,Mf,Mb]
  have:(x3 x).length=x.Rows.length:=by simp [x3]
  omega
theorem Q80 (s:Gk) (hp:∀ c∈s.Columns,c.Plugs.length≤1048576) (hr:∀ x∈s.Covers,x.Rows.length≤1048576):Wp (Gb1 s) (fun r=>r=true ↔ J63 s):=by
 unfold Gb1 H5f
 refine He (fun hc=>Gg (H42 fun h=>?_)) (fun hc=>?_)
 ·have:=h.num
  simp only [Mq,Mi] at hc
  omega
 simp only [Mr,decide_eq_false_iff_not] at hc
 have hn:1≤s.Columns.length∧s.Columns.length≤200∧s.Covers.length≤40:=by omega
 refine Rc (fun pre m=>Jv.l m=tally (pre.map k3)∧∀ c∈pre,Yf5 c) ⟨rfl,fun c hc=>(M7 hc).elim⟩ (fun pre y post m nx e hI h6=>?_) (fun m hI=>?_)
 ·obtain⟨h5,h7⟩:=hI
  have h3:y∈s.Columns:=by rw [e]; simp
  have a6:pre.length < s.Columns.length:=by rw [e]; simp
  refine G51 (fun j=>j=dk y.Deck) (fun K hK=>He (fun h=>hK _ (by rw [h]; rfl)) (fun h=>hK _ (by rw [h]; rfl))) (fun j hj=>?_)
  subst hj
  have hb:=Z0a h5 (k3 y)
  rw [Mj] at hb
  refine Gs (x:=Jv.get m (k3 y) 0) rfl (Qy ⟨by omega,by omega⟩ (Gy (wp_mono (Y70 y (hp y h3)) (fun r hr=>He (fun h=>Gg (H42 fun hs=>?_)) (fun h=>h6 _ ⟨?_,H64 h7 ?_⟩)))))
  ·rw [hr.2 (hs.col y h3)] at h; cases h
  ·rw [List.map_append]; exact Z06 h5 (k3 y)
  ·cases r with
   | true=>exact hr.1 rfl
   | false=>cases h
 obtain⟨h5,h7⟩:=hI
 refine Rc (fun pre m=>Jv.l m=tally (s.Columns.map k3++pre.flatMap x3)∧∀ x∈pre,CovR x) ⟨by simpa using h5,fun c hc=>(M7 hc).elim⟩ (fun pre y post m nx e hJ h6=>?_) (fun m hJ=>?_)
 ·obtain⟨h8,h9⟩:=hJ
  have h3:y∈s.Covers:=by rw [e]; simp
  have a6:pre.length < s.Covers.length:=by rw [e]; simp
  refine He (fun hc=>Gg (H42 fun h=>?_)) (fun hc=>?_)
  ·have h1:=(h.cov y h3).bay
   have h2:=(h.cov y h3).some
   simp only [Mq,Mi] at hc
   have:y.Rows.length≠0:=fun h=>h2 (List.length_eq_zero_iff.1 h)
   omega
  simp only [Mr,decide_eq_false_iff_not] at hc
  have a7:y.Rows≠[]:=fun h=>by rw [h] at hc; simp at hc
  have b6:=Ya4 pre (fun x hx=>hr x (by rw [e]; exact Mk.2 (.inl hx)))
  have b7:=hr y h3
  refine Rc (fun pr m=>Jv.l m=tally (s.Columns.map k3++pre.flatMap x3++pr.map (fun r=>(⟨y.Bay,r,2⟩:Hh)))∧(∀ r∈pr,0≤r∧r≤30)∧pr.Pairwise (· < ·)) ⟨by simpa using h8,fun c hc=>(M7 hc).elim,List.Pairwise.nil⟩ (fun pr r pos m nx' e' hK a5=>?_) (fun m hK=>h6 _ ⟨?_,H64 h9 ⟨by omega,a7,hK.2.1,hK.2.2⟩⟩)
  ·obtain⟨a3,a8,a4⟩:=hK
   have a9:r∈y.Rows:=by rw [e']; simp
   have b5:pr.length < y.Rows.length:=by rw [e']; simp
   have go:0≤r∧r≤30→(∀ a∈pr,a < r)→Wp (bnd (some (Jv.get m ⟨y.Bay,r,2⟩ 0)) fun v167=>chk (v167+1) fun v168=>nx' (Jv.put m ⟨y.Bay,r,2⟩ v168)) (fun r=>r=true ↔ J63 s):=fun h1 h2=>by
    have hb:=Z0a a3 ⟨y.Bay,r,2⟩
    simp only [Mf,Mj] at hb
    refine Gy (Gg (Qy ⟨by omega,by omega⟩ (a5 _ ⟨?_,H64 a8 h1,R2d a4 h2⟩)))
    rw [List.map_append,← List.append_assoc]
    exact Z06 a3 ⟨y.Bay,r,2⟩
   by_cases a0:0≤r∧r≤30
   ·have a1:(decide (r < 0)||decide (30 < r))=false:=by simp; omega
    simp only [a1,Bool.not_false,Bool.true_and,Bool.false_or]
    by_cases b0:0 < pr.length
    ·obtain⟨p,b1,b2,b3⟩:=Q41 e' b0
     rw [M1 (by omega:0 < (pr.length:Int)),cond_true]
     refine Gy (Qy ⟨by omega,by omega⟩ (Gg ?_))
     have b4:(pr.length:Int) - 1=((pr.length - 1:Nat):Int):=by omega
     rw [b4]
     refine Gs ((R35 b1 some).trans rfl) ?_
     simp only [Bool.true_and]
     refine He (fun h=>Gg (H42 fun hc=>?_)) (fun h=>go a0 (J1c a4 b2 (by have:=M0 h; omega)))
     have:=Kz h
     have hs:=(hc.cov y h3).sorted
     rw [e'] at hs
     have:=(List.pairwise_append.1 hs).2.2 p b3 r (by simp)
     omega
    ·have h0:pr=[]:=Ku (by omega)
     subst h0
     rw [M2 (by simp:¬ 0 < (([]:List Int).length:Int))]
     refine Gy (Gg (Gy (Gg ?_)))
     simp only [Bool.false_and,cond_false]
     exact go a0 (fun a ha=>(M7 ha).elim)
   ·have a1:(decide (r < 0)||decide (30 < r))=true:=by simp; omega
    simp only [a1,Bool.not_true,Bool.false_and,cond_false,Bool.true_or,cond_true]
    exact Gy (Gg (Gy (Gg (Gg (H42 fun hc=>a0 ((hc.cov y h3).rows r a9))))))
  ·rw [List.flatMap_append,← List.append_assoc]
   simpa [x3] using hK.1
 ·obtain⟨h8,h9⟩:=hJ
  rw [Ja5 (c:=fun x:Hh×Int=>decide (1 < x.2))]
  refine Gg ?_
  have a2:(Jv.l m).any (fun x=>decide (1 < x.2))=false ↔ (s.Columns.map k3++s.Covers.flatMap x3).Nodup:=by
   rw [← R28,h8,List.any_eq_false]
   constructor
   ·intro h j a n hj
    have:=h (a,n) (M6 hj)
    simp only [Mi] at this
    omega
   ·intro h x hx
    obtain⟨j,hj⟩:=List.mem_iff_getElem?.1 hx
    have:=h j x.1 x.2 hj
    simp only [Mi]
    omega
  cases h4:(Jv.l m).any (fun x=>decide (1 < x.2)) with
  | true=>
   refine H42 fun h=>?_
   rw [a2.2 h.nodup] at h4; cases h4
  | false=>exact⟨fun _=>⟨hn,h7,h9,a2.1 h4⟩,fun _=>rfl⟩
theorem G82 {n k:Nat} (hn:n≤1000001) (hk:k≤1000):decide (n*k≤140737488355328∧n≤maxLen)=true:=by
 have h:n*k≤1000001*1000:=Nat.mul_le_mul hn hk
 have h2:n≤maxLen:=Nat.le_trans hn (by decide)
 exact M1 ⟨by omega,h2⟩
theorem J2c {α β:Type} {x:α} {k:α→Option β}:bnd (some x) k=k x:=rfl
def J54 {α:Type} (p:α→Bool) (l:List α):Int:=match l.findIdx? p with
 | some j=>(j:Int)
 | none => -1
theorem H7d {α:Type} {p:α→Bool} {f:α→Option Bool} {xs:List α} (hf:∀ x∈xs,f x=some (p x)) :
  each (fun y i (_:Unit) nx=>bnd (f y) fun r=>bif r then some (i:Int) else nx ()) (fun _=>some (-1)) xs 0 ()=some (J54 p xs):=by
 have key:∀ (xs:List α),(∀ x∈xs,f x=some (p x))→∀ i:Nat,each (fun y i (_:Unit) nx=>bnd (f y) fun r=>bif r then some (i:Int) else nx ()) (fun _=>some (-1)) xs i ()=some (match xs.findIdx? p with
  | some j=>((i+j:Nat):Int)
  | none => -1):=by
  intro xs
  induction xs with
  | nil=>intro _ i; rfl
  | cons x xs ih=>
   intro hf i
   rw [each,hf x (List.mem_cons_self ..),J2c,List.findIdx?_cons]
   cases p x with
   | true=>simp
   | false=>
    simp only [cond_false]
    rw [ih (fun y hy=>hf y (List.mem_cons_of_mem _ hy)) (i+1)]
    cases xs.findIdx? p with
    | none=>simp
    | some j=>show some (((i+1+j:Nat)):Int)=some (((i+(j+1):Nat)):Int); rw [show i+1+j=i+(j+1) by omega]
 rw [key xs hf 0]
 unfold J54
 cases xs.findIdx? p <;> simp
theorem H14 {α:Type} (p:α→Bool) (l:List α):(J54 p l = -1∧(∀ x∈l,p x=false)∧l.find? p=none)∨∃ (m:Nat) (x:α),J54 p l=(m:Int)∧l[m]? = some x∧p x=true∧l.find? p=some x:=by
 unfold J54
 cases h:l.findIdx? p with
 | none=>
  have:=List.findIdx?_eq_none_iff.1 h
  exact .inl ⟨rfl,this,List.find?_eq_none.2 (fun x hx=>by rw [this x hx]; simp)⟩
 | some j=>
  obtain⟨hj,h1,h2⟩:=List.findIdx?_eq_some_iff_getElem.1 h
  refine .inr ⟨j,l[j],rfl,by simp [hj],h1,?_⟩
  refine List.find?_eq_some_iff_getElem.2 ⟨h1,j,hj,rfl,fun k hk=>?_⟩
  simpa using h2 k hk
theorem H2e {α:Type} {p:α→Bool} {l:List α}:decide (0≤J54 p l)=l.any p:=by
 rcases H14 p l with ⟨h1,h2,_⟩ | ⟨m,x,h1,h2,h3,_⟩
 ·rw [h1]
  refine Eq.symm (List.any_eq_false.2 fun x hx=>?_)
  rw [h2 x hx]; exact Bool.false_ne_true
 ·rw [h1,M1 (by omega)]
  exact(List.any_eq_true.2 ⟨x,M6 h2,h3⟩).symm
def Qj (boxes:List Box) (id:Int):Option Box:=boxes.find? (fun b=>decide (b.ID=id))
theorem Hb7 (boxes:List Box) (id:Int):G40 boxes id=some (match Qj boxes id with
  | some b=>(b,true)
  | none=>(Box.mk 0 ByteArray.empty 0 false 0 0 0 0 false,false)):=by
 unfold G40
 have h:Zs boxes (fun z0=>Gc9 z0 id)=some (J54 (fun b:Box=>decide (b.ID=id)) boxes):=H7d (fun x _=>rfl)
 rw [h]
 simp only [J2c]
 unfold Qj
 rcases H14 (fun b:Box=>decide (b.ID=id)) boxes with ⟨h1,_,h3⟩ | ⟨m,x,h1,h2,_,h4⟩
 ·rw [h1,h3]; rfl
 ·rw [h1,h4,M2 (by omega),cond_false]
  unfold Z3
  rw [M1 (by omega),cond_true,show (m:Int).toNat=m by omega,h2]
  rfl
def Q9d (l:List Stowed) (id:Int):Option Stowed:=l.find? (fun x=>decide (x.Box=id))
def H9f (size:Int):List Int:=if size=40 then [0] else if size=20 then [1,2] else []
theorem Q16 (size:Int):G4d size=some (H9f size):=by
 unfold G4d H9f
 by_cases h:size=40
 ·simp [h]
 ·by_cases h2:size=20
  ·simp [h2]
  ·simp [h,h2]
theorem Y6e (l:List Int) (v:Int):Zb l v=some (l.any (fun y=>decide (v=y))):=by
 unfold Zb
 have h:G0b l v=some (J54 (fun y=>decide (v=y)) l):=by
  unfold G0b
  exact H7d (f:=fun y=>some (decide (v=y))) (fun x _=>rfl)
 rw [h]
 simp only [J2c]
 rw [H2e]
theorem R3b (l:List Slot) (v:Slot):Qi l v=some (l.any (fun y=>decide (v=y))):=by
 unfold Qi
 have h:Yp l v=some (J54 (fun y=>decide (v=y)) l):=by
  unfold Yp
  exact H7d (f:=fun y=>some (decide (v=y))) (fun x _=>rfl)
 rw [h]
 simp only [J2c]
 rw [H2e]
structure G69 (s:Gk) (x:Slot) (size:Int):Prop where
 col:∃ (m:Nat) (c:G2),x.G2=(m:Int)∧s.Columns[m]? = some c∧x.Tier < c.Tiers
 tier:0≤x.Tier
 half:x.Half∈H9f size
theorem J76 (s:Gk) (x:Slot) (size:Int):Wp (G41 s x size) (fun r=>r=true ↔ G69 s x size):=by
 unfold G41
 by_cases h0:0≤x.G2∧x.G2 < (s.Columns.length:Int)
 ·by_cases h1:0≤x.Tier
  ·obtain⟨m,hm⟩:∃ m:Nat,x.G2=(m:Int):=⟨x.G2.toNat,by omega⟩
   have h3:m < s.Columns.length:=by omega
   have hc:s.Columns[m]? = some s.Columns[m]:=by simp [h3]
   have e:(((decide (0≤x.G2))&&(decide (x.G2 < (s.Columns.length:Int))))&&(decide (0≤x.Tier)))=true:=by simp [h0.1,h0.2,h1]
   simp only [e,cond_true,Bool.true_and]
   refine Gy (Ya hm hc (Gg ?_))
   by_cases h2:x.Tier < (s.Columns[m]).Tiers
   ·rw [M1 h2]
    simp only [cond_true]
    refine Gs (Q16 size) (Gs (Y6e _ _) (Gg ?_))
    rw [Bool.true_and,List.any_eq_true]
    constructor
    ·rintro⟨y,hy,he⟩
     have:=Kz he
     subst this
     exact⟨⟨m,_,hm,hc,h2⟩,h1,hy⟩
    ·exact fun h=>⟨_,h.half,by simp⟩
   ·rw [M2 h2]
    simp only [cond_false,Bool.false_and]
    refine Gy (Gg (Gy (Gg (Gg ⟨fun h=>(by cases h),fun h=>?_⟩))))
    obtain⟨m',c,g1,g2,g3⟩:=h.col
    have:m'=m:=by omega
    subst this
    rw [hc] at g2; cases g2
    exact(h2 g3).elim
  ·simp only [M2 h1,Bool.and_false,cond_false,Bool.false_and]
   exact Gy (Gg (Gy (Gg (Gy (Gg (Gg ⟨fun h=>(by cases h),fun h=>(h1 h.tier).elim⟩))))))
 ·have e:((decide (0≤x.G2))&&(decide (x.G2 < (s.Columns.length:Int))))=false:=by
   by_cases h:0≤x.G2
   ·have:¬ x.G2 < (s.Columns.length:Int):=fun g=>h0 ⟨h,g⟩
    simp [this]
   ·simp [h]
  simp only [e,Bool.false_and,cond_false]
  refine Gy (Gg (Gy (Gg (Gy (Gg (Gg ⟨fun h=>(by cases h),fun h=>?_⟩))))))
  obtain⟨m,c,g1,g2,_⟩:=h.col
  have:=(M3 g2).1
  exact(h0 (by omega)).elim
def below (l:List Slot) (x:Slot) (half:Int):Prop:=(⟨x.G2,x.Tier - 1,half⟩:Slot)∈l
def H3f (x:Slot) (l:List Slot):Prop:=x.Tier≤0∨below l x x.Half∨(x.Half=0∧below l x 1∧below l x 2)
theorem J77 (half:Int) (l:List Slot) (x:Slot) (ht : -1000000≤x.Tier∧x.Tier≤1000000):Wp (Zg half l x) (fun r=>r=true ↔ below l x half):=by
 unfold Zg
 refine Qy ⟨by omega,by omega⟩ (Gs (R3b _ _) (Gg ?_))
 rw [List.any_eq_true]
 constructor
 ·rintro⟨y,hy,he⟩
  have:=Kz he
  subst this
  exact hy
 ·exact fun h=>⟨_,h,by simp⟩
theorem Jd7 (x:Slot) (l:List Slot) (ht : -1000000≤x.Tier∧x.Tier≤1000000):Wp (G25 x l) (fun r=>r=true ↔ H3f x l):=by
 unfold G25 H3f
 refine He (fun h=>Gg ⟨fun _=>.inl (Kz h),fun _=>rfl⟩) (fun h=>?_)
 have h0:=M0 h
 refine Gy (wp_mono (J77 x.Half l x ht) (fun r7 h7=>?_))
 cases r7 with
 | true=>
  simp only [Bool.not_true,Bool.false_and,cond_false,Bool.true_or]
  exact Gy (Gg (Gy (Gg (Gg ⟨fun _=>.inr (.inl (h7.1 rfl)),fun _=>rfl⟩))))
 | false=>
  have h1:¬ below l x x.Half:=fun h=>by have:=h7.2 h; cases this
  simp only [Bool.not_false,Bool.true_and,Bool.false_or]
  by_cases hh:x.Half=0
  ·rw [M1 hh]
   simp only [cond_true,Bool.true_and]
   refine Gy (wp_mono (J77 1 l x ht) (fun r8 h8=>?_))
   cases r8 with
   | true=>
    simp only [cond_true,Bool.true_and]
    refine Gy (wp_mono (J77 2 l x ht) (fun r9 h9=>Gg ⟨fun h=>.inr (.inr ⟨hh,h8.1 rfl,h9.1 h⟩),fun h=>?_⟩))
    rcases h with h | h | ⟨_,_,h⟩
    ·exact(h0 h).elim
    ·exact(h1 h).elim
    ·exact h9.2 h
   | false=>
    simp only [cond_false,Bool.false_and]
    refine Gy (Gg (Gg ⟨fun h=>(by cases h),fun h=>?_⟩))
    rcases h with h | h | ⟨_,h,_⟩
    ·exact(h0 h).elim
    ·exact(h1 h).elim
    ·have:=h8.2 h; cases this
  ·rw [M2 hh]
   simp only [cond_false,Bool.false_and]
   refine Gy (Gg (Gy (Gg (Gg ⟨fun h=>(by cases h),fun h=>?_⟩))))
   rcases h with h | h | ⟨h,_⟩
   ·exact(h0 h).elim
   ·exact(h1 h).elim
   ·exact(hh h).elim
def H20 (a b:Int):Prop:=a=b∨a=0∨b=0
theorem Q15 (a b:Int):Wp (G7f a b) (fun r=>r=true ↔ H20 a b):=by
 unfold G7f H20
 refine Gg ?_
 simp [or_assoc]
def Hc7 (a b:Slot):Prop:=a.G2=b.G2∧a.Tier=b.Tier∧H20 a.Half b.Half
theorem Jd6 (a b:Slot):Wp (G9a a b) (fun r=>r=true ↔ Hc7 a b):=by
 unfold G9a Hc7
 by_cases h:a.G2=b.G2∧a.Tier=b.Tier
 ·simp only [M1 h.1,M1 h.2,Bool.and_self,cond_true,Bool.true_and]
  exact Gy (wp_mono (Q15 _ _) (fun r hr=>Gg ⟨fun e=>⟨h.1,h.2,hr.1 e⟩,fun e=>hr.2 e.2.2⟩))
 ·have e:(decide (a.G2=b.G2)&&decide (a.Tier=b.Tier))=false:=by
   by_cases h1:a.G2=b.G2
   ·have:¬ a.Tier=b.Tier:=fun h2=>h ⟨h1,h2⟩
    simp [this]
   ·simp [h1]
  simp only [e,cond_false,Bool.false_and]
  exact Gy (Gg (Gg ⟨fun e=>(by cases e),fun e=>(h ⟨e.1,e.2.1⟩).elim⟩))
def Ha3 (a b:Slot):Prop:=a.G2=b.G2∧b.Tier < a.Tier∧H20 a.Half b.Half
theorem Qf3 (a b:Slot):Wp (Ge7 a b) (fun r=>r=true ↔ Ha3 a b):=by
 unfold Ge7 Ha3
 by_cases h:a.G2=b.G2∧b.Tier < a.Tier
 ·simp only [M1 h.1,M1 h.2,Bool.and_self,cond_true,Bool.true_and]
  exact Gy (wp_mono (Q15 _ _) (fun r hr=>Gg ⟨fun e=>⟨h.1,h.2,hr.1 e⟩,fun e=>hr.2 e.2.2⟩))
 ·have e:(decide (a.G2=b.G2)&&decide (b.Tier < a.Tier))=false:=by
   by_cases h1:a.G2=b.G2
   ·have:¬ b.Tier < a.Tier:=fun h2=>h ⟨h1,h2⟩
    simp [this]
   ·simp [h1]
  simp only [e,cond_false,Bool.false_and]
  exact Gy (Gg (Gg ⟨fun e=>(by cases e),fun e=>(h ⟨e.1,e.2.1⟩).elim⟩))
def H70 (b:Box):Int:=if b.High then 2896 else 2591
def Gd5 (boxes:List Box) (column half:Int) (n:Int) (x:Stowed):Int:=
 if x.Slot.G2=column∧(x.Slot.Half=half∨x.Slot.Half=0) then (match Qj boxes x.Box with | some b=>n+H70 b | none=>n) else n
def Zi (boxes:List Box) (l:List Stowed) (column half:Int):Int:=l.foldl (Gd5 boxes column half) 0
theorem Q43 {boxes:List Box} {column half n:Int} {x:Stowed}:n≤Gd5 boxes column half n x∧Gd5 boxes column half n x≤n+2896:=by
 unfold Gd5 H70
 split
 ·split
  ·split <;> omega
  ·omega
 ·omega
theorem Q0f (boxes:List Box) (l:List Stowed) (column half:Int) (hl:l.length≤1000000):G7e boxes l column half=some (Zi boxes l column half):=by
 refine G30 ?_
 unfold G7e Zi
 refine Rc (fun pre n=>n=pre.foldl (Gd5 boxes column half) 0∧0≤n∧n≤2896*pre.length) ⟨rfl,Int.le_refl _,by simp⟩ (fun pre y post n nx e hn h5=>?_) (fun n hn=>Gg hn.1)
 obtain⟨rfl,h1,h2⟩:=hn
 have hp:pre.length+1≤l.length:=by rw [e]; simp
 have ha:=Q43 (boxes:=boxes) (column:=column) (half:=half) (n:=pre.foldl (Gd5 boxes column half) 0) (x:=y)
 have h4:((pre++[y]).length:Int)=pre.length+1:=by simp
 generalize hg:pre.foldl (Gd5 boxes column half) 0=n at *
 refine G51 (fun j=>j=Gd5 boxes column half n y) (fun K hK=>?_) (fun j hj=>h5 _ ⟨by rw [hj,List.foldl_append,hg]; rfl,by omega,by rw [h4]; omega⟩)
 refine He (fun hc=>?_) (fun hc=>hK _ ?_)
 ·have h0:y.Slot.G2=column∧(y.Slot.Half=half∨y.Slot.Half=0):=by simpa using hc
  refine Gs (Hb7 boxes y.Box) ?_
  cases hf:Qj boxes y.Box with
  | none=>exact He (fun h=>by cases h) (fun _=>hK _ (by unfold Gd5; rw [if_pos h0,hf]))
  | some b=>
   refine He (fun _=>?_) (fun h=>by cases h)
   have ht:H35 b=some (H70 b):=by unfold H35 H70; cases b.High <;> rfl
   have h3:Gd5 boxes column half n y=n+H70 b:=by unfold Gd5; rw [if_pos h0,hf]
   refine Gs ht (Qy ?_ (hK _ h3.symm))
   rw [← h3]
   omega
 ·have h0:¬ (y.Slot.G2=column∧(y.Slot.Half=half∨y.Slot.Half=0)):=by simpa using hc
  unfold Gd5; rw [if_neg h0]
def J08 (boxes:List Box) (l:List Stowed) (m:Nat) (c:G2):Prop:=c.Height≤0∨(Zi boxes l m 1≤c.Height∧Zi boxes l m 2≤c.Height)
theorem Qf1 {s:Gk} {boxes:List Box} {l:List Stowed} {m:Nat} {c:G2} (hc:s.Columns[m]? = some c) (hl:l.length≤1000000):Wp (G97 s boxes l (m:Int)) (fun r=>r=true ↔ J08 boxes l m c):=by
 unfold G97 J08
 refine Ya rfl hc ?_
 by_cases h:c.Height≤0
 ·simp only [M1 h,Bool.not_true,cond_false,Bool.false_and,Bool.true_or]
  exact Gy (Gg (Gy (Gg (Gg ⟨fun _=>.inl h,fun _=>rfl⟩))))
 ·simp only [M2 h,Bool.not_false,cond_true,Bool.true_and,Bool.false_or]
  refine Gs (Q0f boxes l m 1 hl) ?_
  by_cases h1:Zi boxes l m 1≤c.Height
  ·rw [M1 h1]
   simp only [cond_true,Bool.true_and]
   exact Gs (Q0f boxes l m 2 hl) (Gg ⟨fun e=>.inr ⟨h1,Kz e⟩,fun e=>M1 (e.elim (fun e=>(h e).elim) (·.2))⟩)
  ·rw [M2 h1]
   simp only [cond_false,Bool.false_and]
   exact Gy (Gg (Gg ⟨fun e=>(by cases e),fun e=>e.elim (fun e=>(h e).elim) (fun e=>(h1 e.1).elim)⟩))
theorem Q78 (l:List Stowed) (hl:l.length≤1000000):Gb2 l=some (l.map (·.Slot)):=by
 refine G30 ?_
 unfold Gb2
 refine Rc (fun pre s=>s=pre.map (·.Slot)) rfl (fun pre y post s nx e hs h0=>?_) (fun s hs=>Gg hs)
 subst hs
 have hp:pre.length+1≤l.length:=by rw [e]; simp
 exact G00 (G82 (by simp only [Mj,Mg]; omega) (by omega)) (h0 _ (by simp))
structure Yz (s:Gk) (boxes:List Box) (l:List Stowed):Prop where
 each:∀ x∈l,∃ b,Qj boxes x.Box=some b∧G69 s x.Slot b.Size∧H3f x.Slot (l.map (·.Slot))
 sorted:l.Pairwise (fun a b=>a.Box < b.Box)
 apart:l.Pairwise (fun a b=>¬ Hc7 b.Slot a.Slot)
 fits:∀ m c,s.Columns[m]? = some c→J08 boxes l m c
theorem J60 {α:Type} {R:α→α→Prop} {l:List α} {x:α} (h:l.Pairwise R) (hx:∀ a∈l,R a x):(l++[x]).Pairwise R:=by
 rw [List.pairwise_append]
 refine⟨h,List.pairwise_singleton ..,fun a ha b hb=>?_⟩
 rw [Mn] at hb; subst hb
 exact hx a ha
theorem Gad {α:Type} {R:α→α→Prop} {pre post:List α} {y:α} (h:(pre++y::post).Pairwise R):∀ a∈pre,R a y:=fun a ha=>(List.pairwise_append.1 h).2.2 a ha y (List.mem_cons_self ..)
theorem H0f {s:Gk} {boxes:List Box} {l:List Stowed} (hr:Gb1 s=some true) (ht:∀ c∈s.Columns,c.Tiers≤1000000) (hl:l.length≤1000000):Wp (Yo s boxes l) (fun r=>r=true ↔ Yz s boxes l):=by
 unfold Yo
 refine Gs hr (He (fun h=>by cases h) (fun _=>?_))
 refine Gs (Q78 l hl) ?_
 refine Rc (fun pre _=>(∀ x∈pre,∃ b,Qj boxes x.Box=some b∧G69 s x.Slot b.Size∧H3f x.Slot (l.map (·.Slot)))∧pre.Pairwise (fun a b=>a.Box < b.Box)∧pre.Pairwise (fun a b=>¬ Hc7 b.Slot a.Slot))
  ⟨fun x hx=>(M7 hx).elim,List.Pairwise.nil,List.Pairwise.nil⟩ (fun pre y post u nx e hI h4=>?_) (fun u hI=>?_)
 ·obtain⟨i1,i2,i3⟩:=hI
  have a8:pre.length < l.length:=by rw [e]; simp
  have hy:y∈l:=by rw [e]; simp
  have no:∀ {m:Option Bool},m=some false→¬ Yz s boxes l→Wp m (fun r=>r=true ↔ Yz s boxes l):=fun e h=>by subst e; exact Gg ⟨fun e=>(by cases e),fun e=>(h e).elim⟩
  refine Gs (Hb7 boxes y.Box) ?_
  cases hf:Qj boxes y.Box with
  | none=>
   simp only [Bool.not_false,Bool.not_true,Bool.false_and,cond_false,Bool.true_or,cond_true]
   refine Gy (Gg (Gy (Gg (Gy (Gg (Gy (Gg (no rfl fun h=>?_))))))))
   obtain⟨b,hb,_⟩:=h.each y hy
   rw [hf] at hb; cases hb
  | some b=>
   simp only [Bool.not_true,Bool.not_false,Bool.true_and,Bool.false_or]
   -- the order
   have h7:Wp (bif decide (0 < (pre.length:Int)) then chk ((pre.length:Int) - 1) some else some 0) (fun v=>Wp (bif decide (0 < (pre.length:Int)) then Z3 l v some else some default) (fun y20=>
     ((decide (0 < (pre.length:Int))&&decide (y.Box≤y20.Box))=true→¬ Yz s boxes l)∧((decide (0 < (pre.length:Int))&&decide (y.Box≤y20.Box))=false→∀ a∈pre,a.Box < y.Box))):=by
    rcases List.eq_nil_or_concat pre with hp | ⟨pre',z,hp⟩
    ·subst hp
     simp only [List.length_nil]
     exact Gg (Gg ⟨fun h=>by simp at h,fun _ a ha=>(M7 ha).elim⟩)
    ·have h2:pre=pre'++[z]:=by simpa using hp
     have a9:pre.length=pre'.length+1:=by rw [h2]; simp
     have hd:decide (0 < (pre.length:Int))=true:=M1 (by omega)
     have hz:l[pre'.length]? = some z:=by rw [e,h2]; simp
     rw [hd]
     simp only [cond_true,Bool.true_and]
     refine Qy ⟨by omega,by omega⟩ (Gg (Ya (m:=pre'.length) (by omega) hz (Gg ⟨fun h hR=>?_,fun h a ha=>?_⟩)))
     ·have:=Kz h
      have hs:=hR.sorted
      rw [e] at hs
      have:=Gad hs z (by rw [h2]; simp)
      omega
     ·have b0:¬ y.Box≤z.Box:=M0 h
      rw [h2] at ha
      rcases Mk.1 ha with ha | ha
      ·have:=Gad (h2 ▸ i2:(pre'++z::[]).Pairwise _) a ha
       omega
      ·rw [Mn] at ha; subst ha; omega
   refine Gy (wp_mono h7 (fun v hv=>Gy (wp_mono hv (fun y20 a5=>?_))))
   obtain⟨n1,n2⟩:=a5
   generalize (decide (0 < (pre.length:Int))&&decide (y.Box≤y20.Box))=c at n1 n2
   cases c with
   | true=>
    simp only [Bool.not_true,cond_false,Bool.true_or,cond_true]
    exact Gy (Gg (Gy (Gg (no rfl (n1 rfl)))))
   | false=>
    simp only [Bool.not_false,cond_true,Bool.false_or]
    have h8:=n2 rfl
    refine Gy (wp_mono (J76 s y.Slot b.Size) (fun r21 a1=>?_))
    cases r21 with
    | false=>
     simp only [Bool.not_false,Bool.not_true,cond_false,Bool.true_or,cond_true]
     refine Gy (Gg (no rfl fun h=>?_))
     obtain⟨b',hb,hs,_⟩:=h.each y hy
     rw [hf] at hb; cases hb
     have:=a1.2 hs; cases this
    | true=>
     have h1:=a1.1 rfl
     simp only [Bool.not_true,Bool.not_false,cond_true,Bool.false_or]
     have h9 : -1000000≤y.Slot.Tier∧y.Slot.Tier≤1000000:=by
      obtain⟨m,c,_,hc,h3⟩:=h1.col
      have:=h1.tier
      have:=ht c (M6 hc)
      omega
     refine Gy (wp_mono (Jd7 y.Slot (l.map (·.Slot)) h9) (fun r22 a2=>?_))
     cases r22 with
     | false=>
      refine He (fun _=>no rfl fun h=>?_) (fun h=>by cases h)
      obtain⟨b',hb,_,hh⟩:=h.each y hy
      have:=a2.2 hh; cases this
     | true=>
      have a0:=a2.1 rfl
      refine He (fun h=>by cases h) (fun _=>?_)
      refine Gy (H67 (m:=pre.length) rfl (by rw [Mj]; omega) ?_)
      have a6:(l.map (·.Slot)).take pre.length=pre.map (·.Slot):=by rw [← List.map_take,e,List.take_left']; rfl
      rw [a6]
      refine Rc (fun pr _=>∀ a∈pr,¬ Hc7 y.Slot a) (fun a ha=>(M7 ha).elim) (fun pr a pos u nx2 e2 h5 a4=>?_) (fun u h5=>h4 _ ⟨fun x hx=>?_,J60 i2 h8,J60 i3 (fun a ha=>h5 a.Slot (Mm.2 ⟨a,ha,rfl⟩))⟩)
      ·refine Gy (wp_mono (Jd6 y.Slot a) (fun r48 a3=>?_))
       refine He (fun h=>no rfl fun hR=>?_) (fun h=>a4 _ (fun a' h0=>?_))
       ·have hm:=a3.1 h
        have a7:a∈pre.map (·.Slot):=by rw [e2]; simp
        obtain⟨z,hz,rfl⟩:=Mm.1 a7
        have ha:=hR.apart
        rw [e] at ha
        exact Gad ha z hz hm
       ·rcases Mk.1 h0 with h0 | h0
        ·exact h5 a' h0
        ·rw [Mn] at h0; subst h0
         intro hm
         have:=a3.2 hm
         rw [this] at h; cases h
      ·rcases Mk.1 hx with hx | hx
       ·exact i1 x hx
       ·rw [Mn] at hx; subst hx
        exact⟨b,hf,h1,a0⟩
 ·obtain⟨i1,i2,i3⟩:=hI
  refine Rc (fun pre _=>∀ m c,m < pre.length→s.Columns[m]? = some c→J08 boxes l m c) (fun m c h=>(Nat.not_lt_zero m h).elim) (fun pre y post u nx e hI h4=>?_) (fun u hI=>Gg ⟨fun _=>⟨i1,i2,i3,fun m c hc=>hI m c (M3 hc).1 hc⟩,fun _=>rfl⟩)
  have hc:s.Columns[pre.length]? = some y:=by rw [e]; simp
  refine Gy (wp_mono (Qf1 hc hl) (fun r hr=>?_))
  cases r with
  | false=>exact He (fun _=>Gg ⟨fun e=>(by cases e),fun h=>by have:=hr.2 (h.fits _ _ hc); cases this⟩) (fun h=>by cases h)
  | true=>
   refine He (fun h=>by cases h) (fun _=>h4 _ (fun m c hm h6=>?_))
   rw [Mf,Mg] at hm
   rcases Kx m pre.length with h | h
   ·exact hI m c h h6
   ·have:m=pre.length:=by omega
    subst this
    rw [hc] at h6; cases h6
    exact hr.1 rfl
section maps
variable {κ ν:Type} [DecidableEq κ]
end maps
theorem J27 {α:Type} {l:List α} {wanted:α→Option Bool} {p:α→Bool} (hw:∀ x∈l,wanted x=some (p x)) (hl:l.length≤1000000) :
  each (fun y i (s:List Int) nx=>jp (fun kj=>bnd (wanted y) fun r=>bif r then (need (decide ((s.length+[(i:Int)].length)*8≤140737488355328∧s.length+[(i:Int)].length≤maxLen)) <| kj (s++[(i:Int)])) else (kj s)) fun(j:List Int)=>nx j)
   (fun s=>some s) l 0 []=some (G92 p l):=by
 refine G30 ?_
 refine Rc (fun pre s=>s=G92 p pre) rfl (fun pre x post s nx e hs h0=>?_) (fun s hs=>Gg hs)
 subst hs
 have h1:pre.length+1≤l.length:=by rw [e]; simp
 refine G51 (fun j=>j=G92 p (pre++[x])) (fun K hK=>?_) (fun j hj=>h0 _ hj)
 refine Gs (hw x (by rw [e]; simp)) (He (fun h=>G00 ?_ (hK _ ?_)) (fun h=>hK _ ?_))
 ·have:=Q23 p pre
  exact G82 (by rw [Mg]; omega) (by omega)
 ·rw [J46,h]; rfl
 ·rw [J46,h]; simp
theorem Y6a {α:Type} (p:α→Bool) (x:α) (l:List α):G92 p (x::l)=(if p x then [0] else [])++(G92 p l).map (·+1):=by
 unfold G92
 rw [List.zipIdx_cons',List.filter_cons]
 have h:(((l.zipIdx.map (Prod.map id (fun n:Nat=>n+1))).filter (fun y:α×Nat=>p y.1)).map (fun y:α×Nat=>(y.2:Int)))=((l.zipIdx.filter (fun y:α×Nat=>p y.1)).map (fun y:α×Nat=>(y.2:Int))).map (·+1):=by
  rw [List.filter_map,List.map_map,List.map_map]
  rfl
 by_cases hx:p x=true
 ·rw [if_pos (show p (x,0).fst=true from hx),if_pos hx,List.map_cons]
  exact congrArg (List.cons _) h
 ·rw [if_neg (show ¬ p (x,0).fst=true from hx),if_neg hx,List.nil_append]
  exact h
theorem Y69 {α:Type} (p:α→Bool) (l:List α):(G92 p l).head? = match l.findIdx? p with
  | some j=>some (j:Int)
  | none=>none:=by
 induction l with
 | nil=>rfl
 | cons x l ih=>
  rw [Y6a,List.findIdx?_cons]
  by_cases hx:p x
  ·simp [hx]
  ·simp only [hx,if_false,Bool.false_eq_true,List.nil_append,List.head?_map,ih]
   cases l.findIdx? p <;> simp
theorem Ya3 {α:Type} (p:α→Bool) (l:List α):decide (0 < ((G92 p l).length:Int))=l.any p:=by
 by_cases h:∀ x∈l,p x=false
 ·rw [Jb2.2 h]
  refine Eq.symm (List.any_eq_false.2 fun x hx=>?_)
  rw [h x hx]; exact Bool.false_ne_true
 ·have h1:G92 p l≠[]:=fun e=>h (Jb2.1 e)
  have h2:=List.length_pos_iff.2 h1
  rw [M1 (by omega)]
  refine Eq.symm (List.any_eq_true.2 ?_)
  refine Classical.byContradiction fun hn=>h fun x hx=>?_
  cases hc:p x with
  | false=>rfl
  | true=>exact(hn ⟨x,hx,hc⟩).elim
def H7e (x:G8) (c:G2):Bool:=decide (x.Bay=c.Bay)&&x.Rows.any (fun r=>decide (r=c.Row))
theorem Q18 (x:G8) (c:G2) (hl:x.Rows.length≤1000000):G80 x c=some (H7e x c):=by
 unfold G80 H7e
 by_cases h:x.Bay=c.Bay
 ·have hc:G45 x.Rows (fun z0=>G75 z0 c)=some (G92 (fun r=>decide (r=c.Row)) x.Rows):=by
   unfold G45
   exact J27 (fun x _=>rfl) hl
  rw [M1 h]
  simp only [cond_true,Bool.true_and]
  rw [hc,J2c,Ya3]
 ·rw [M2 h]
  rfl
def R4 (s:Gk) (c:G2):Int:=J54 (fun x=>H7e x c) s.Covers
theorem H53 {s:Gk} {m:Nat} {c:G2} (hc:s.Columns[m]? = some c) (hr:∀ x∈s.Covers,x.Rows.length≤1000000) (hl:s.Covers.length≤1000000):Yg s (m:Int)=some (R4 s c):=by
 have hm:=(M3 hc).1
 refine G30 ?_
 unfold Yg
 refine He (fun h=>?_) (fun _=>?_)
 ·simp only [Mq,Mi] at h
  omega
 have h1:Zm s.Covers (fun z0=>G28 z0 s (m:Int))=some (G92 (fun x=>H7e x c) s.Covers):=by
  unfold Zm
  refine J27 (fun x hx=>G30 ?_) hl
  unfold G28
  exact Ya rfl hc (Gs (Q18 x c (hr x hx)) (Gg rfl))
 refine Gs h1 ?_
 have hh:=Y69 (fun x=>H7e x c) s.Covers
 unfold R4 J54
 cases hf:s.Covers.findIdx? (fun x=>H7e x c) with
 | none=>
  rw [hf] at hh
  have h0:G92 (fun x=>H7e x c) s.Covers=[]:=List.head?_eq_none_iff.1 hh
  rw [h0]
  exact Gg rfl
 | some j=>
  rw [hf] at hh
  cases hi:G92 (fun x=>H7e x c) s.Covers with
  | nil=>rw [hi] at hh; cases hh
  | cons z r=>
   rw [hi] at hh
   simp only [List.head?_cons,Option.some.injEq] at hh
   subst hh
   refine He (fun h=>?_) (fun _=>Ya (m:=0) rfl rfl (Gg rfl))
   have:=Kz h
   simp only [Mb] at this
   omega
def abB (k:Int) (b:Box):Bool:=decide (b.Load≤k)&&decide (k < b.Discharge)
def Q9e (l:List Stowed) (id:Int):Slot×Bool:=match Q9d l id with
 | some x=>(x.Slot,true)
 | none=>(⟨0,0,0⟩,false)
structure Small (s:Gk):Prop where
 right:Gb1 s=some true
 cols:1≤s.Columns.length∧s.Columns.length≤40
 tiers:∀ c∈s.Columns,c.Tiers≤100
 covs:s.Covers.length≤1000
 rows:∀ x∈s.Covers,x.Rows.length≤1000
def Yc0 (s:Gk) (x:Slot):Prop:=∃ (m:Nat) (c:G2),x.G2=(m:Int)∧s.Columns[m]? = some c
structure Qc3 (U:List Int) (m:Jv Int Unit) (l:List Int):Prop where
 nodup:l.Nodup
 sub:∀ a∈l,a∈U
 has:∀ a,Jv.has m a=decide (a∈l)
theorem Qc3.le {U:List Int} {m:Jv Int Unit} {l:List Int} (h:Qc3 U m l):l.length≤U.length:=h.nodup.length_le_of_subset (fun a ha=>h.sub a ha)
theorem G36 {l:List Int} (h:l.Pairwise (· < ·)):l.Nodup:=h.imp (fun h=>by omega)
theorem Small.tier {s:Gk} (h:Small s):∀ c∈s.Columns,c.Tiers≤1000000:=fun c hc=>by have:=h.tiers c hc; omega
theorem Q7e {s:Gk} {x:Slot} {size:Int} (h:G69 s x size):Yc0 s x:=by
 obtain⟨m,c,h1,h2,_⟩:=h.col
 exact⟨m,c,h1,h2⟩
theorem J7b {s:Gk} {boxes:List Box}:Yz s boxes []:=⟨fun x hx=>(M7 hx).elim,List.Pairwise.nil,List.Pairwise.nil,fun m c _=>by
 unfold J08 Zi
 simp only [List.foldl_nil]
 omega⟩
theorem H54 {a b:List Int} (ha:a.Pairwise (· < ·)) (hb:b.Pairwise (· < ·)) (h:∀ x,x∈a ↔ x∈b):a=b:=
 List.Perm.eq_of_pairwise (le:=fun x y:Int=>x < y) (fun x y _ _ h1 h2=>by omega) ha hb ((List.perm_ext_iff_of_nodup (G36 ha) (G36 hb)).2 h)
structure VInv (s:Gk) (boxes:List Box) (k:Int) (l:List Stowed):Prop where
 right:Yz s boxes l
 mem:∀ x∈l,∃ b∈boxes,b.ID=x.Box∧abB k b=true
theorem VInv.nil {s:Gk} {boxes:List Box} {k:Int}:VInv s boxes k []:=⟨J7b,fun x hx=>(M7 hx).elim⟩
def upon (s:Gk) (x y:Slot):Prop:=∃ (m:Nat) (c:G2) (m1:Nat) (c1:G2),x.G2=(m:Int)∧s.Columns[m]? = some c∧y.G2=(m1:Int)∧s.Columns[m1]? = some c1∧c.Deck=false∧c1.Deck=true∧0≤R4 s c∧R4 s c1=R4 s c
def Yee (s:Gk) (states:List (List Stowed)) (st:List Stowed) (a b:Int):Prop:=
 (Q9e st a).2=true∧((∃ y∈st,y.Box=b∧Ha3 y.Slot (Q9e st a).1)∨∃ st2∈states,∃ y∈st2,y.Box=b∧upon s (Q9e st a).1 y.Slot)
def J64 (s:Gk) (states:List (List Stowed)) (a b:Int):Prop:=∃ st∈states,Yee s states st a b
section
variable {s:Gk} {U:List Int} {states:List (List Stowed)} {l l' l2:List Int} {id y:Int} {m m2:Jv Int Unit}
end
structure Yb7 (s:Gk) (bf af:List Stowed) (l:List Int):Prop where
 seeds:∀ st∈[bf,af],∀ y∈st,Q9e bf y.Box≠Q9e af y.Box→y.Box∈l
 closed:∀ a∈l,∀ b,J64 s [bf,af] a b→b∈l
 least:∀ C:Int→Prop,(∀ a b,C a→J64 s [bf,af] a b→C b)→(∀ st∈[bf,af],∀ y∈st,Q9e bf y.Box≠Q9e af y.Box→C y.Box)→∀ a∈l,C a
theorem Q8d {α:Type} {a b x:α} (h:x∈[a,b]):x∈[b,a]:=by
 simp only [Mo,M7,or_false] at h ⊢
 exact h.symm
theorem J64.swap {s:Gk} {a b:List Stowed} {x y:Int} (h:J64 s [a,b] x y):J64 s [b,a] x y:=by
 obtain⟨st,h0,h1,h2⟩:=h
 exact⟨st,Q8d h0,h1,h2.imp _root_.id (fun⟨st2,h3,h4⟩=>⟨st2,Q8d h3,h4⟩)⟩
theorem Yb7.le {s:Gk} {bf af:List Stowed} {l l':List Int} (h:Yb7 s bf af l) (h':Yb7 s af bf l'):∀ a∈l,a∈l':=
 h.least (·∈l') (fun a b ha hb=>h'.closed a ha b hb.swap) (fun st h0 y hy h1=>h'.seeds st (Q8d h0) y hy (fun e=>h1 e.symm))
section lf
variable {s:Gk} {bf af:List Stowed}
end lf
theorem Y6d {s:Gk} (hS:J63 s) {c:G2} {i j:Nat} {x y:G8} (hi:s.Covers[i]? = some x) (hj:s.Covers[j]? = some y) (hx:H7e x c=true) (hy:H7e y c=true):i=j:=by
 have hn:(s.Covers.flatMap x3).Nodup:=(List.nodup_append.1 hS.nodup).2.1
 have h0:∀ z:G8,H7e z c=true→(⟨c.Bay,c.Row,2⟩:Hh)∈x3 z:=fun z hz=>by
  unfold H7e at hz
  simp only [Mh,Mi,List.any_eq_true] at hz
  obtain⟨h1,r,h2,h3⟩:=hz
  exact Mm.2 ⟨r,h2,by rw [h1,h3]⟩
 have key:∀ (l:List G8) (i j:Nat),(l.flatMap x3).Nodup→i < j→∀ x y,l[i]? = some x→l[j]? = some y→H7e x c=true→H7e y c=true→False:=by
  intro l
  induction l with
  | nil=>intro i j _ _ x y h; simp at h
  | cons z r ih=>
   intro i j hn h4 x y hi hj hx hy
   rw [List.flatMap_cons,List.nodup_append] at hn
   cases j with
   | zero=>omega
   | succ j=>
    rw [List.getElem?_cons_succ] at hj
    cases i with
    | zero=>
     rw [List.getElem?_cons_zero] at hi; cases hi
     exact hn.2.2 _ (h0 _ hx) _ (List.mem_flatMap.2 ⟨y,M6 hj,h0 y hy⟩) rfl
    | succ i=>
     rw [List.getElem?_cons_succ] at hi
     exact ih i j hn.2.1 (by omega) x y hi hj hx hy
 rcases Nat.lt_trichotomy i j with h | h | h
 ·exact(key _ i j hn h x y hi hj hx hy).elim
 ·exact h
 ·exact(key _ j i hn h y x hj hi hy hx).elim
theorem Q28 {s:Gk} (hS:J63 s) {c:G2} {k:Nat} {x:G8} (hk:s.Covers[k]? = some x):H7e x c=true ↔ R4 s c=(k:Int):=by
 unfold R4
 rcases H14 (fun x=>H7e x c) s.Covers with ⟨h1,h2,_⟩ | ⟨m,y,h1,h2,h3,_⟩
 ·rw [h1]
  constructor
  ·intro h; rw [h2 x (M6 hk)] at h; cases h
  ·intro h; omega
 ·rw [h1]
  constructor
  ·intro h; rw [Y6d hS h2 hk h3 h]
  ·intro h
   have:m=k:=by omega
   subst this
   rw [hk] at h2; cases h2; exact h3
theorem Q79 (l:List Stowed) (id:Int):G3e l id=some (J54 (fun x:Stowed=>decide (x.Box=id)) l):=by
 have h:=H7d (p:=fun x:Stowed=>decide (x.Box=id)) (f:=fun z0=>Gc7 z0 id) (xs:=l) (fun x _=>rfl)
 exact(congrArg (fun m=>bnd m fun r3=>some r3) h).trans rfl
instance (a b:Slot):Decidable (Ha3 a b):=by unfold Ha3 H20; infer_instance
def H75 (l:List Stowed) (x:Slot):List Int:=(l.filter (fun y=>decide (Ha3 y.Slot x))).map (·.Box)
theorem Hbb {l:List Stowed} {x:Slot} {b:Int}:b∈H75 l x ↔ ∃ y∈l,y.Box=b∧Ha3 y.Slot x:=by
 unfold H75
 rw [Mm]
 constructor
 ·rintro⟨y,hy,e⟩
  rw [Mp,Mi] at hy
  exact⟨y,hy.1,e,hy.2⟩
 ·rintro⟨y,hy,e,h⟩
  exact⟨y,Mp.2 ⟨hy,M1 h⟩,e⟩
theorem Q27 {α β R:Type} {Q:R→Prop} {p:α→Bool} {f:α→β} {b:α→Nat→List β→(List β→Option R)→Option R} {kx:List β→Option R} {l:List α} (hl:l.length≤1000000)
  (hb:∀ x i st nx,x∈l→st.length≤1000000→(p x=true→Wp (nx (st++[f x])) Q)→(p x=false→Wp (nx st) Q)→Wp (b x i st nx) Q) (hk:Wp (kx ((l.filter p).map f)) Q):Wp (each b kx l 0 []) Q:=by
 refine Rc (fun pre st=>st=(pre.filter p).map f) rfl (fun pre x post st nx e hI h0=>?_) (fun st hI=>by rw [hI]; exact hk)
 subst hI
 have h1:((pre.filter p).map f).length≤pre.length:=by rw [Mj]; exact Kw _ _
 have h2:pre.length≤l.length:=by rw [e]; simp
 refine hb x _ _ nx (by rw [e]; simp) (by omega) (fun h=>h0 _ ?_) (fun h=>h0 _ ?_)
 ·rw [List.filter_append,List.map_append,List.filter_cons_of_pos h]; rfl
 ·rw [List.filter_append,List.map_append,List.filter_cons_of_neg (by rw [h]; exact Bool.false_ne_true)]; simp
theorem Z05 {β:Type} {st:List β} {y:β} (h:st.length≤1000000):decide ((st.length+[y].length)*8≤140737488355328∧st.length+[y].length≤maxLen)=true:=by
 refine M1 ⟨?_,?_⟩
 ·rw [Mg]; omega
 ·rw [Mg]; simp only [maxLen]; omega
def Y0d (l:List Stowed) (id:Int):List Int×Int:=match Q9d l id with
 | some x=>(H75 l x.Slot,0)
 | none=>([],6)
theorem Re9 (l:List Stowed) (id:Int) (hl:l.length≤1000000):Gb4 l id=some (Y0d l id):=by
 refine G30 ?_
 unfold Gb4 Y0d
 refine Gs (Q79 l id) ?_
 unfold Q9d
 rcases H14 (fun x:Stowed=>decide (x.Box=id)) l with ⟨h1,_,h3⟩ | ⟨m,x,h1,h2,_,h4⟩
 ·rw [h1,h3]
  exact He (fun _=>Gg rfl) (fun h=>absurd (M0 h) (by omega))
 ·rw [h1,h4]
  refine He (fun h=>absurd (Kz h) (by omega)) (fun _=>?_)
  refine Q27 (p:=fun y=>decide (Ha3 y.Slot x.Slot)) (f:=(·.Box)) hl (fun y i st nx hy h0 ht hf=>?_) (Gg rfl)
  refine G51 (fun j=>j=if Ha3 y.Slot x.Slot then st++[y.Box] else st) (fun K hK=>?_) (fun j hj=>?_)
  ·refine Ya rfl h2 (Gy (wp_mono (Qf3 y.Slot x.Slot) (fun r hr=>He (fun h=>G00 (Z05 h0) (hK _ ?_)) (fun h=>hK _ ?_))))
   ·rw [if_pos (hr.1 h)]
   ·rw [if_neg (fun ho=>by rw [hr.2 ho] at h; cases h)]
  ·by_cases ho:Ha3 y.Slot x.Slot
   ·rw [hj,if_pos ho]; exact ht (M1 ho)
   ·rw [hj,if_neg ho]; exact hf (M2 ho)
theorem R85 {α:Type} {p:α→Bool} {l:List α} {z:Int}:z∈G92 p l ↔ ∃ (m:Nat) (x:α),z=(m:Int)∧l[m]? = some x∧p x=true:=by
 unfold G92
 rw [Mm]
 constructor
 ·rintro⟨⟨x,m⟩,hx,rfl⟩
  rw [Mp] at hx
  exact⟨m,x,rfl,List.mem_zipIdx_iff_getElem?.1 hx.1,hx.2⟩
 ·rintro⟨m,x,rfl,h1,h2⟩
  exact⟨(x,m),Mp.2 ⟨List.mem_zipIdx_iff_getElem?.2 h1,h2⟩,rfl⟩
theorem Y56 {s:Gk} {k:Nat} {x:G8} (hk:s.Covers[k]? = some x) (hr:∀ x∈s.Covers,x.Rows.length≤1000000) (hc:s.Columns.length≤1000000) :
  H3c s (k:Int)=some (G92 (fun c:G2=>c.Deck&&H7e x c) s.Columns):=by
 have h0:=(M3 hk).1
 refine G30 ?_
 unfold H3c H5e
 refine Gy (He (fun h=>?_) (fun _=>Gs (x:=G92 (fun c:G2=>c.Deck&&H7e x c) s.Columns) ?_ (Gg (Gg rfl))))
 ·simp only [Mq,Mi] at h; omega
 unfold Rb
 refine J27 (fun c h1=>G30 ?_) hc
 unfold Ga4
 cases hd:c.Deck with
 | false=>exact Gy (Gg (Gy (Gg (Gg rfl))))
 | true=>
  refine Gs (x:=x) ?_ (Gs (x:=H7e x c) (Q18 x c (hr x (M6 hk))) (Gg rfl))
  show Z3 s.Covers (k:Int) some=some x
  exact R35 hk some
theorem H55 (l:List Int) (v:Int):J3 l v=some (l.any (fun y=>decide (v=y))):=by
 unfold J3 Zz
 have key:∀ (l:List Int) (i:Nat),∃ j:Int,each (fun(y:Int) (i:Nat) (_:Unit) nx=>bif decide (v=y) then some (i:Int) else nx ()) (fun(_:Unit)=>some (-1:Int)) l i ()=some j∧decide (0≤j)=l.any (fun y=>decide (v=y)):=by
  intro l
  induction l with
  | nil=>intro i; exact⟨-1,rfl,rfl⟩
  | cons x r ih=>
   intro i
   rw [each,List.any_cons]
   cases decide (v=x) with
   | true=>exact⟨(i:Int),rfl,M1 (by omega)⟩
   | false=>exact ih (i+1)
 obtain⟨j,e1,e2⟩:=key l 0
 have e1':Zz l v=some j:=e1
 unfold Zz at e1'
 rw [e1']
 show some (decide (0≤j))=_
 rw [e2]
theorem Re8 {s:Gk} {m:Nat} {c:G2} (hc:s.Columns[m]? = some c) (hr:∀ x∈s.Covers,x.Rows.length≤1000000) (hl:s.Covers.length≤1000000):Gfa s (m:Int)=some (if c.Deck=true then -1 else R4 s c):=by
 refine G30 ?_
 unfold Gfa
 refine Ya rfl hc (He (fun h=>Gg (by rw [if_pos h])) (fun h=>Gs (H53 hc hr hl) (Gg (by rw [if_neg (by rw [h]; exact Bool.false_ne_true)]))))
theorem Y53 {s:Gk} (hS:J63 s) {l:List Stowed} {k:Nat} (hk:k < s.Covers.length) (hr:∀ x∈s.Covers,x.Rows.length≤1000000) (hl:l.length≤1000000) :
  Wp (H34 s l (k:Int)) (fun r=>∀ b,b∈r ↔ ∃ y∈l,y.Box=b∧∃ (m:Nat) (c:G2),y.Slot.G2=(m:Int)∧s.Columns[m]? = some c∧c.Deck=true∧R4 s c=(k:Int)):=by
 have h0:s.Covers[k]? = some s.Covers[k]:=M4 hk
 unfold H34
 refine Gs (Y56 h0 hr (by have:=hS.num.2.1; omega)) ?_
 refine Q27 (p:=fun y=>(G92 (fun c:G2=>c.Deck&&H7e s.Covers[k] c) s.Columns).any (fun z=>decide (y.Slot.G2=z))) (f:=(·.Box)) hl (fun y i st nx hy h5 ht hf=>?_) (Gg (fun b=>?_))
 ·refine G51 (fun j=>j=if (G92 (fun c:G2=>c.Deck&&H7e s.Covers[k] c) s.Columns).any (fun z=>decide (y.Slot.G2=z))=true then st++[y.Box] else st) (fun K hK=>?_) (fun j hj=>?_)
  ·refine Gs (H55 _ _) (He (fun h=>G00 (Z05 h5) (hK _ ?_)) (fun h=>hK _ ?_))
   ·rw [if_pos h]
   ·rw [if_neg (by rw [h]; exact Bool.false_ne_true)]
  ·cases h:(G92 (fun c:G2=>c.Deck&&H7e s.Covers[k] c) s.Columns).any (fun z=>decide (y.Slot.G2=z)) with
   | true=>rw [h] at hj; rw [hj]; exact ht h
   | false=>rw [h] at hj; rw [hj]; exact hf h
 ·rw [Mm]
  have h4:∀ y:Stowed,(G92 (fun c:G2=>c.Deck&&H7e s.Covers[k] c) s.Columns).any (fun z=>decide (y.Slot.G2=z))=true ↔ ∃ (m:Nat) (c:G2),y.Slot.G2=(m:Int)∧s.Columns[m]? = some c∧c.Deck=true∧R4 s c=(k:Int):=fun y=>by
   rw [List.any_eq_true]
   constructor
   ·rintro⟨z,hz,e⟩
    obtain⟨m,c,rfl,h1,h2⟩:=R85.1 hz
    rw [Mh] at h2
    exact⟨m,c,Kz e,h1,h2.1,(Q28 hS h0).1 h2.2⟩
   ·rintro⟨m,c,e,h1,h2,h3⟩
    exact⟨(m:Int),R85.2 ⟨m,c,rfl,h1,by rw [h2,(Q28 hS h0).2 h3]; rfl⟩,M1 e⟩
  constructor
  ·rintro⟨y,hy,rfl⟩
   rw [Mp] at hy
   exact⟨y,hy.1,rfl,(h4 y).1 hy.2⟩
  ·rintro⟨y,hy,e,h⟩
   exact⟨y,Mp.2 ⟨hy,(h4 y).2 h⟩,e⟩
theorem Jb6 {l:List Stowed} (h:l.Pairwise (fun a b=>a.Box < b.Box)) {x y:Stowed} (hx:x∈l) (hy:y∈l) (e:x.Box=y.Box):x=y:=by
 obtain⟨i,hi,rfl⟩:=List.mem_iff_getElem.1 hx
 obtain⟨j,hj,rfl⟩:=List.mem_iff_getElem.1 hy
 have hp:=List.pairwise_iff_getElem.1 h
 rcases Nat.lt_trichotomy i j with g | g | g
 ·have:=hp i j hi hj g; omega
 ·subst g; rfl
 ·have:=hp j i hj hi g; omega
structure Brd (s:Gk) (boxes:List Box) (l:List Stowed):Prop where
 ship:J63 s
 right:Yz s boxes l
 rows:∀ x∈s.Covers,x.Rows.length≤1000000
 covs:s.Covers.length≤1000000
 len:l.length≤1000
theorem Brd.col {s:Gk} {boxes:List Box} {l:List Stowed} (h:Brd s boxes l) {x:Stowed} (hx:x∈l):Yc0 s x.Slot:=by
 obtain⟨b,_,h1,_⟩:=h.right.each x hx
 exact Q7e h1
end Go.Proofs.YtidpfkmbfgihlaaGreat
