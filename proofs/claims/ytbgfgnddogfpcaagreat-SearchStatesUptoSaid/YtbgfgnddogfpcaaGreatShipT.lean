/- When a ship is right: -/
import Derived.Test.YtbgfgnddogfpcaaGreatXR
import Derived.Test.YtbgfgnddogfpcaaGreatLentT
set_option maxRecDepth 100000
set_option linter.unusedVariables false
namespace Go.Proofs.YtbgfgnddogfpcaaGreat
open Go.RowKit

structure J8b (c:G5):Prop where
 plugs:∀ p∈c.Plugs,0<=p/\p < c.AC
 sorted:c.Plugs.Pairwise (· < ·)
 place:0<=c.Bay/\c.Bay<=39/\0<=c.Row/\c.Row<=30/\1<=c.AC/\c.AC<=10/\0<=c.Height/\c.Height<=40000
 load:0<=c.AQ/\c.AQ<=500000000/\0<=c.AU/\c.AU<=500000000/\0<=c.BH/\c.BH<=1000000000000
 at_ : -500000<=c.X/\c.X<=500000 /\ -500000<=c.Y/\c.Y<=500000 /\ -500000<=c.Z/\c.Z<=500000
theorem Za {p:Prop} (h:¬ p):(false=true) ↔ p:=⟨fun e=>Bool.noConfusion e,fun hp=>(h hp).elim⟩
theorem Q81 {U:Type} {Q:U->Prop} {z:Int} {k:Int->Option U} (h:Wp (k (IntKind.i64.wrap z)) Q):Wp (wrp z k) Q:=h
variable {W:Type} {l:List W} {x:W}
theorem yR {R:W->W->Prop} (h:l.Pairwise R) (hx:∀ a∈l,R a x):(l++[x]).Pairwise R:=by
 rw [List.pairwise_append];refine⟨h,List.pairwise_singleton ..,fun a ha b hb=>?_⟩;rw [Pu] at hb; subst hb;exact hx a ha
theorem bT {P:W->Prop} (h1:∀ y∈l,P y) (h2:P x):∀ y∈l++[x],P y:=fun y hy=>by
 rcases Ps.1 hy with hy | hy
 .exact h1 y hy
 .rw [Pu.1 hy]; exact h2
theorem sA {pre:AE} {y p:Int} (h:pre.Pairwise (· < ·)) (hp:pre[pre.length - 1]? = some p) (hy:p < y):∀ a∈pre,a < y:=by
 rcases List.eq_nil_or_concat pre with rfl | ⟨q,z,rfl⟩
 .intro a ha; cases ha
 .rw [List.concat_eq_append] at *;have hz:z=p:=by
   rw [Pn,Po,show q.length+1 - 1=q.length by omega] at hp;simpa using hp
  subst hz;intro a ha;rcases Ps.1 ha with ha | ha
  .have:=(List.pairwise_append.1 h).2.2 a ha z (by simp);omega
  .rw [Pu.1 ha]; exact hy
theorem ZK (l:List Hx):fI l=some (l.all (fun x=>decide (x.low<=x.n)&&decide (x.n<=x.high))):=by
 refine Zs ?_;unfold fI;refine Q6 (fun pre _=>pre.all (fun x=>decide (x.low<=x.n)&&decide (x.n<=x.high))=true) rfl (fun pre y post s nx e hI h0=>Ja (fun h=>Gt ?_) (fun h=>h0 _ ?_)) (fun s hI=>Gt hI.symm)
 .symm;rw [List.all_eq_false];refine⟨y,by rw [e]; simp,?_⟩;simp only [Px,Pq] at h;simp only [Pp,Pq];omega
 .simp only [Py,decide_eq_false_iff_not] at h;rw [List.all_append,hI];simp only [List.all_cons,List.all_nil,Bool.and_true,Bool.true_and,Pp,Pq];omega
theorem G1a {pre post:AE} {l:AE} {y:Int} (e:l=pre++y::post) (hp:0 < pre.length):∃ p,l[pre.length - 1]? = some p/\pre[pre.length - 1]? = some p/\p∈pre:=by
 have h1:pre[pre.length - 1]? = some (pre[pre.length - 1]'(by omega)):=Pb (by omega);exact⟨_,by rw [e,Ph (by omega)]; exact h1,h1,List.getElem_mem _⟩
theorem J7b (c:G5) (hl:c.Plugs.length<=1048576):Wp (iT c) (fun r=>r=true ↔ J8b c):=by
 unfold iT;have hw:1<=c.AC/\c.AC<=10->IntKind.i64.wrap (c.AC - 1)=c.AC - 1:=fun h=>dM (by omega) (by omega);refine Q6 (fun pre _=>(∀ p∈pre,0<=p/\p<=IntKind.i64.wrap (c.AC - 1))/\pre.Pairwise (· < ·)) ⟨fun p hp=>(Pe hp).elim,List.Pairwise.nil⟩ (fun pre y post s nx e hI h5=>?_) (fun s hI=>?_)
 .obtain⟨h3,h4⟩:=hI;have h6:y∈c.Plugs:=by rw [e]; simp
  have b0:pre.length < c.Plugs.length:=by rw [e]; simp
  refine Q81 (H2 (ZK _) ?_);simp only [List.all_cons,List.all_nil,Bool.and_true];by_cases hy:0<=y/\y<=IntKind.i64.wrap (c.AC - 1)
  .rw [P8 hy.1,P8 hy.2];simp only [Bool.and_self,Bool.not_true,Bool.not_false,Bool.true_and,Bool.false_or];by_cases hp:0 < pre.length
   .obtain⟨p,h7,h8,h9⟩:=G1a e hp;have a0:IntKind.i64.wrap ((pre.length:Int) - 1)=((pre.length - 1:Nat):Int):=by
     rw [dM (by omega) (by omega)]; omega
    rw [P8 (by omega:0 < (pre.length:Int)),cond_true];refine H2 (congrArg some a0) (H2 ((Zu h7 some).trans rfl) ?_);simp only [Bool.true_and];refine Ja (fun h=>Gt (Za fun hc=>?_)) (fun h=>h5 _ ⟨bT h3 hy,yR h4 (sA h4 h8 (by have:=P7 h; omega))⟩);have:=P6 h;have hs:=hc.sorted;rw [e] at hs;have:=(List.pairwise_append.1 hs).2.2 p h9 y (by simp);omega
   .have h0:pre=[]:=P1 (by omega);subst h0;rw [P9 (by simp:¬ 0 < (([]:AE).length:Int))];refine Hq (Gt (Hq (Gt ?_)));simp only [Bool.false_and,cond_false];exact h5 _ ⟨bT h3 hy,by simp⟩
  .have hf:(decide (0<=y)&&decide (y<=IntKind.i64.wrap (c.AC - 1)))=false:=by
    rw [Bool.and_eq_false_iff,decide_eq_false_iff_not,decide_eq_false_iff_not];omega
   rw [hf];simp only [Bool.not_false,Bool.not_true,Bool.false_and,cond_false,Bool.true_or,cond_true];refine Hq (Gt (Hq (Gt (Gt (Za fun hc=>hy ?_)))));have h1:=hc.plugs y h6;have h2:=hc.place;rw [hw (by omega)];omega
 .obtain⟨h3,h4⟩:=hI;refine H2 (ZK _) (Gt ?_);simp only [List.all_cons,List.all_nil,Bool.and_true,Pp,Pq];constructor
  .rintro⟨a1,a2,a3,a4,a5,a6,a7,a8,a9,a10⟩;have hw:=hw a3;exact⟨fun p hp=>by have:=h3 p hp; omega,h4,by omega,by omega,by omega⟩
  .intro h;obtain⟨_,_,b1,b2,b3⟩:=h;omega
theorem Q1b (c:G5) (hl:c.Plugs.length<=1048576):Wp (Zg c) (fun r=>r=true ↔ J8b c):=by
 unfold Zg;refine Q6 (fun pre _=>(∀ p∈pre,0<=p/\p < c.AC)/\pre.Pairwise (· < ·)) ⟨fun p hp=>(Pe hp).elim,List.Pairwise.nil⟩ (fun pre y post s nx e hI h4=>?_) (fun s hI=>?_)
 .obtain⟨h1,h2⟩:=hI;have h5:y∈c.Plugs:=by rw [e]; simp
  have a0:pre.length < c.Plugs.length:=by rw [e]; simp
  refine Ja (fun h=>Gt (Za fun hc=>?_)) (fun h=>?_)
  .simp only [Px,Pq] at h;have:=hc.plugs y h5;omega
  .simp only [Py,decide_eq_false_iff_not] at h;have hy:0<=y/\y < c.AC:=by omega
   by_cases hp:0 < pre.length
   .obtain⟨p,h6,h7,h8⟩:=G1a e hp;rw [P8 (by omega:0 < (pre.length:Int)),cond_true];refine Hq (bW ⟨by omega,by omega⟩ (Gt ?_));have h9:(pre.length:Int) - 1=((pre.length - 1:Nat):Int):=by omega
    rw [h9];refine H2 ((Zu h6 some).trans rfl) ?_;simp only [Bool.true_and];refine Ja (fun h=>Gt (Za fun hc=>?_)) (fun h=>h4 _ ⟨bT h1 hy,yR h2 (sA h2 h7 (by have:=P7 h; omega))⟩);have:=P6 h;have hs:=hc.sorted;rw [e] at hs;have:=(List.pairwise_append.1 hs).2.2 p h8 y (by simp);omega
   .have h0:pre=[]:=P1 (by omega);subst h0;rw [P9 (by simp:¬ 0 < (([]:AE).length:Int))];refine Hq (Gt (Hq (Gt ?_)));simp only [Bool.false_and,cond_false];exact h4 _ ⟨bT h1 hy,by simp⟩
 .obtain⟨h1,h2⟩:=hI;have h3:∀ n a b:Int,J6 n a b=some (decide (a<=n)&&decide (n<=b)):=fun _ _ _=>rfl;have cnd:∀ (b:Bool) (n a z:Int),∃ r,(bif b then J6 n a z else some default)=some r/\(b&&r)=(b&&(decide (a<=n)&&decide (n<=z))):=fun b n a z=>by
   cases b
   .exact⟨_,rfl,rfl⟩
   .exact⟨_,rfl,rfl⟩
  refine H2 (h3 _ _ _) ?_;obtain⟨r1,e1,q1⟩:=cnd (decide (-500000<=c.X)&&decide (c.X<=500000)) c.Y (-500000) 500000;refine H2 e1 ?_;rw [q1];obtain⟨r2,e2,q2⟩:=cnd (decide (-500000<=c.X)&&decide (c.X<=500000)&&(decide (-500000<=c.Y)&&decide (c.Y<=500000))) c.Z (-500000) 500000;refine H2 e2 (H2 (h3 _ _ _) ?_);rw [q2];obtain⟨r3,e3,q3⟩:=cnd (decide (0<=c.AQ)&&decide (c.AQ<=500000000)) c.AU 0 500000000;refine H2 e3 ?_;rw [q3];obtain⟨r4,e4,q4⟩:=cnd (decide (0<=c.AQ)&&decide (c.AQ<=500000000)&&(decide (0<=c.AU)&&decide (c.AU<=500000000))) c.BH 0 1000000000000;refine H2 e4 (H2 (h3 _ _ _) ?_);rw [q4];obtain⟨r5,e5,q5⟩:=cnd (decide (0<=c.Bay)&&decide (c.Bay<=39)) c.Row 0 30;refine H2 e5 ?_;rw [q5];obtain⟨r6,e6,q6⟩:=cnd (decide (0<=c.Bay)&&decide (c.Bay<=39)&&(decide (0<=c.Row)&&decide (c.Row<=30))) c.AC 1 10;refine H2 e6 ?_;rw [q6];obtain⟨r7,e7,q7⟩:=cnd (decide (0<=c.Bay)&&decide (c.Bay<=39)&&(decide (0<=c.Row)&&decide (c.Row<=30))&&(decide (1<=c.AC)&&decide (c.AC<=10))) c.Height 0 40000;refine H2 e7 ?_;rw [q7];refine Gt ?_;simp only [Pp,Pq];constructor
  .rintro⟨⟨⟨⟨⟨a1,a2⟩,a3⟩,a4⟩,⟨b1,b2⟩,b3⟩,⟨d1,d2⟩,d3⟩;exact⟨h1,h2,by omega,by omega,by omega⟩
  .intro h;obtain⟨_,_,b1,b2,b3⟩:=h;omega

def dk (b:Bool):Int:=bif b then 1 else 0
def k3 (c:G5):Hh:=⟨c.Bay,c.Row,dk c.BD⟩
def x3 (x:H3):List Hh:=x.Rows.map fun r=>⟨x.Bay,r,2⟩
structure Qa3 (x:H3):Prop where
 bay:0<=x.Bay/\x.Bay<=39
 some:x.Rows≠[]
 rows:∀ r∈x.Rows,0<=r/\r<=30
 sorted:x.Rows.Pairwise (· < ·)
structure G03 (s:Gf):Prop where
 num:1<=s.Columns.length/\s.Columns.length<=200/\s.Covers.length<=40
 col:∀ c∈s.Columns,J8b c
 cov:∀ x∈s.Covers,Qa3 x
 nodup:(s.Columns.map k3++s.Covers.flatMap x3).Nodup
theorem Q69 {B:Type} [DecidableEq B] {m:Hk B Int} {l:List B} (h:Hk.l m=tally l) (a:B):Hk.l (Hk.put m a (Hk.get m a 0+1))=tally (l++[a]):=by
 rw [vE];show rE (Hk.l m) a ((iA (Hk.l m) a).getD 0+1)=_
 rw [h]
theorem Q70 {B:Type} [DecidableEq B] {m:Hk B Int} {l:List B} (h:Hk.l m=tally l) (a:B):0<=Hk.get m a 0/\Hk.get m a 0<=(l.length:Int):=by
 have:=H5f l a;show 0<=(iA (Hk.l m) a).getD 0/\_
 rw [h];exact⟨this.1,by show (iA (Hk.l m) a).getD 0<=_; rw [h]; exact this.2⟩
theorem Jbf (l:List H3) (h:∀ x∈l,x.Rows.length<=1048576):(l.flatMap x3).length<=1048576*l.length:=by
 induction l with
 | nil=>simp
 | cons x l ih=>
  have h1:=h x (List.mem_cons_self ..);have h2:=ih (fun y hy=>h y (List.mem_cons_of_mem _ hy));rw [List.flatMap_cons,Pn,Pi];have:(x3 x).length=x.Rows.length:=by simp [x3]
  omega
theorem G47 (s:Gf) (hp:∀ c∈s.Columns,c.Plugs.length<=1048576) (hr:∀ x∈s.Covers,x.Rows.length<=1048576):Wp (Z8 s) (fun r=>r=true ↔ G03 s):=by
 unfold Z8 pH;refine Ja (fun hc=>Gt (Za fun h=>?_)) (fun hc=>?_)
 .have:=h.num;simp only [Px,Pq] at hc;omega
 simp only [Py,decide_eq_false_iff_not] at hc;have hn:1<=s.Columns.length/\s.Columns.length<=200/\s.Covers.length<=40:=by omega
 refine Q6 (fun pre m=>Hk.l m=tally (pre.map k3)/\∀ c∈pre,J8b c) ⟨rfl,fun c hc=>(Pe hc).elim⟩ (fun pre y post m nx e hI h6=>?_) (fun m hI=>?_)
 .obtain⟨h5,h7⟩:=hI;have h3:y∈s.Columns:=by rw [e]; simp
  have a6:pre.length < s.Columns.length:=by rw [e]; simp
  refine oM (fun j=>j=dk y.BD) (fun K hK=>Ja (fun h=>hK _ (by rw [h]; rfl)) (fun h=>hK _ (by rw [h]; rfl))) (fun j hj=>?_);subst hj;have hb:=Q70 h5 (k3 y);rw [Pr] at hb;refine H2 (x:=Hk.get m (k3 y) 0) rfl (bW ⟨by omega,by omega⟩ (Hq (wp_mono (J7b y (hp y h3)) (fun r hr=>Ja (fun h=>Gt (Za fun hs=>?_)) (fun h=>h6 _ ⟨?_,bT h7 ?_⟩)))))
  .rw [hr.2 (hs.col y h3)] at h; cases h
  .rw [List.map_append]; exact Q69 h5 (k3 y)
  .cases r with
   | true=>exact hr.1 rfl
   | false=>cases h
 obtain⟨h5,h7⟩:=hI;refine Q6 (fun pre m=>Hk.l m=tally (s.Columns.map k3++pre.flatMap x3)/\∀ x∈pre,Qa3 x) ⟨by simpa using h5,fun c hc=>(Pe hc).elim⟩ (fun pre y post m nx e hJ h6=>?_) (fun m hJ=>?_)
 .obtain⟨h8,h9⟩:=hJ;have h3:y∈s.Covers:=by rw [e]; simp
  have a6:pre.length < s.Covers.length:=by rw [e]; simp
  refine Ja (fun hc=>Gt (Za fun h=>?_)) (fun hc=>?_)
  .have h1:=(h.cov y h3).bay;have h2:=(h.cov y h3).some;simp only [Px,Pq] at hc;have:y.Rows.length≠0:=fun h=>h2 (List.length_eq_zero_iff.1 h);omega
  simp only [Py,decide_eq_false_iff_not] at hc;have a7:y.Rows≠[]:=fun h=>by rw [h] at hc; simp at hc
  have b6:=Jbf pre (fun x hx=>hr x (by rw [e]; exact Ps.2 (.inl hx)));have b7:=hr y h3;refine Q6 (fun pr m=>Hk.l m=tally (s.Columns.map k3++pre.flatMap x3++pr.map (fun r=>(⟨y.Bay,r,2⟩:Hh)))/\(∀ r∈pr,0<=r/\r<=30)/\pr.Pairwise (· < ·)) ⟨by simpa using h8,fun c hc=>(Pe hc).elim,List.Pairwise.nil⟩ (fun pr r pos m nx' e' hK a5=>?_) (fun m hK=>h6 _ ⟨?_,bT h9 ⟨by omega,a7,hK.2.1,hK.2.2⟩⟩)
  .obtain⟨a3,a8,a4⟩:=hK;have a9:r∈y.Rows:=by rw [e']; simp
   have b5:pr.length < y.Rows.length:=by rw [e']; simp
   have go:0<=r/\r<=30->(∀ a∈pr,a < r)->Wp (bnd (some (Hk.get m ⟨y.Bay,r,2⟩ 0)) fun v167=>chk (v167+1) fun v168=>nx' (Hk.put m ⟨y.Bay,r,2⟩ v168)) (fun r=>r=true ↔ G03 s):=fun h1 h2=>by
    have hb:=Q70 a3 ⟨y.Bay,r,2⟩;simp only [Pn,Pr] at hb;refine Hq (Gt (bW ⟨by omega,by omega⟩ (a5 _ ⟨?_,bT a8 h1,yR a4 h2⟩)));rw [List.map_append,<- List.append_assoc];exact Q69 a3 ⟨y.Bay,r,2⟩
   by_cases a0:0<=r/\r<=30
   .have a1:(decide (r < 0)||decide (30 < r))=false:=by simp; omega
    simp only [a1,Bool.not_false,Bool.true_and,Bool.false_or];by_cases b0:0 < pr.length
    .obtain⟨p,b1,b2,b3⟩:=G1a e' b0;rw [P8 (by omega:0 < (pr.length:Int)),cond_true];refine Hq (bW ⟨by omega,by omega⟩ (Gt ?_));have b4:(pr.length:Int) - 1=((pr.length - 1:Nat):Int):=by omega
     rw [b4];refine H2 ((Zu b1 some).trans rfl) ?_;simp only [Bool.true_and];refine Ja (fun h=>Gt (Za fun hc=>?_)) (fun h=>go a0 (sA a4 b2 (by have:=P7 h; omega)));have:=P6 h;have hs:=(hc.cov y h3).sorted;rw [e'] at hs;have:=(List.pairwise_append.1 hs).2.2 p b3 r (by simp);omega
    .have h0:pr=[]:=P1 (by omega);subst h0;rw [P9 (by simp:¬ 0 < (([]:AE).length:Int))];refine Hq (Gt (Hq (Gt ?_)));simp only [Bool.false_and,cond_false];exact go a0 (fun a ha=>(Pe ha).elim)
   .have a1:(decide (r < 0)||decide (30 < r))=true:=by simp; omega
    simp only [a1,Bool.not_true,Bool.false_and,cond_false,Bool.true_or,cond_true];exact Hq (Gt (Hq (Gt (Gt (Za fun hc=>a0 ((hc.cov y h3).rows r a9))))))
  .rw [List.flatMap_append,<- List.append_assoc];simpa [x3] using hK.1
 .obtain⟨h8,h9⟩:=hJ;rw [JE (c:=fun x:Hh×Int=>decide (1 < x.2))];refine Gt ?_;have a2:(Hk.l m).any (fun x=>decide (1 < x.2))=false ↔ (s.Columns.map k3++s.Covers.flatMap x3).Nodup:=by
   rw [<- Gf8,h8,List.any_eq_false];constructor
   .intro h j a n hj;have:=h (a,n) (Pd hj);simp only [Pq] at this;omega
   .intro h x hx;obtain⟨j,hj⟩:=List.mem_iff_getElem?.1 hx;have:=h j x.1 x.2 hj;simp only [Pq];omega
  cases h4:(Hk.l m).any (fun x=>decide (1 < x.2)) with
  | true=>
   refine Za fun h=>?_;rw [a2.2 h.nodup] at h4; cases h4
  | false=>exact⟨fun _=>⟨hn,h7,h9,a2.1 h4⟩,fun _=>rfl⟩

theorem J0d (rows:AE) (row:Int):Rf rows row=some (rows.any (fun r=>decide (r=row))):=by
 refine Zs ?_;unfold Rf;refine Q6 (fun pre _=>pre.any (fun r=>decide (r=row))=false) rfl (fun pre y post s nx e hI h0=>Ja (fun h=>Gt ?_) (fun h=>h0 _ ?_)) (fun s hI=>Gt hI.symm)
 .symm;exact List.any_eq_true.2 ⟨y,by rw [e]; simp,h⟩
 .rw [List.any_append,hI];simp only [List.any_cons,List.any_nil,Bool.or_false,Bool.false_or,h]
theorem J07 (h:l.Nodup) (hx:x ∉ l):(l++[x]).Nodup:=by
 rw [List.nodup_append];refine⟨h,by simp,fun a ha b hb=>?_⟩;rw [Pu.1 hb];exact fun e=>hx (e ▸ ha)
theorem Qdb {a b:G5}:k3 a=k3 b ↔ a.Bay=b.Bay/\a.Row=b.Row/\a.BD=b.BD:=by
 unfold k3;rw [Hh.mk.injEq];have:dk a.BD=dk b.BD ↔ a.BD=b.BD:=by cases a.BD <;> cases b.BD <;> decide
 rw [this]
theorem RH {F:Nat} (s:Gf) (hp:∀ c∈s.Columns,c.Plugs.length<=1048576) (hr:∀ x∈s.Covers,x.Rows.length<=1048576):Wp (Rz F s) (fun r=>r=true ↔ G03 s):=by
 unfold Rz;refine H2 (x:=decide (1<=(s.Columns.length:Int))&&decide ((s.Columns.length:Int)<=200)) rfl (Ja (fun hc=>Gt (Za fun h=>?_)) (fun hc=>?_))
 .have:=h.num;simp only [Px,Bool.not_eq_true',Bool.and_eq_false_iff,Pq,decide_eq_false_iff_not] at hc;omega
 simp only [Py,Bool.not_eq_false',Pp,Pq,decide_eq_false_iff_not] at hc;have hn:1<=s.Columns.length/\s.Columns.length<=200/\s.Covers.length<=40:=by omega
 refine Q6 (fun pre _=>(pre.map k3).Nodup/\∀ c∈pre,J8b c) ⟨List.nodup_nil,fun c hc=>(Pe hc).elim⟩ (fun pre y post u nx e hI a0=>?_) (fun u hI=>?_)
 .obtain⟨a1,a2⟩:=hI;have h5:y∈s.Columns:=by rw [e]; simp
  have a9:pre.length < s.Columns.length:=by rw [e]; simp
  refine Hq (wp_mono (Q1b y (hp y h5)) (fun r hr=>Ja (fun h=>Gt (Za fun hs=>?_)) (fun h=>?_)))
  .rw [hr.2 (hs.col y h5)] at h; cases h
  have b0:J8b y:=by
   cases r with
   | true=>exact hr.1 rfl
   | false=>cases h
  refine Yt (P8 (by omega)) ?_;rw [show (pre.length:Int).toNat=pre.length by omega];refine HR (fun i _=>∀ (k:Nat) c,k < i->pre[k]? = some c->k3 c≠k3 y) (fun k c hk=>by omega) (fun i u nx2 hi hJ h9=>?_) (fun u hJ=>a0 _ ⟨?_,bT a2 b0⟩)
  .have hx:pre[i]? = some (pre[i]'hi):=Pb hi;have h6:s.Columns[i]? = some (pre[i]'hi):=by rw [e,Ph hi]; exact hx
   generalize pre[i]'hi=z at hx h6;rw [Zu h6];have h4:∃ b,(bif decide (z.Bay=y.Bay) then Jw s.Columns (i:Int) some else some default)=some b/\(decide (z.Bay=y.Bay)&&decide (b.Row=y.Row))=(decide (z.Bay=y.Bay)&&decide (z.Row=y.Row)):=by
    cases decide (z.Bay=y.Bay)
    .exact⟨_,rfl,rfl⟩
    .exact⟨z,Zu h6 some,rfl⟩
   obtain⟨b,e1,q1⟩:=h4;refine H2 e1 ?_;rw [q1];have h4:∃ b,(bif (decide (z.Bay=y.Bay)&&decide (z.Row=y.Row)) then Jw s.Columns (i:Int) some else some default)=some b/\((decide (z.Bay=y.Bay)&&decide (z.Row=y.Row))&&(b.BD==y.BD))=((decide (z.Bay=y.Bay)&&decide (z.Row=y.Row))&&(z.BD==y.BD)):=by
    cases (decide (z.Bay=y.Bay)&&decide (z.Row=y.Row))
    .exact⟨_,rfl,rfl⟩
    .exact⟨z,Zu h6 some,rfl⟩
   obtain⟨b2,e2,q2⟩:=h4;refine H2 e2 ?_;rw [q2];have hk:((decide (z.Bay=y.Bay)&&decide (z.Row=y.Row))&&(z.BD==y.BD))=true ↔ k3 z=k3 y:=by
    rw [Qdb];simp only [Pp,Pq,beq_iff_eq,and_assoc]
   refine Ja (fun h=>Gt (Za fun hs=>?_)) (fun h=>h9 _ (fun k c b1 h7=>?_))
   .have h1:=hs.nodup;rw [e,List.map_append] at h1;have h2:=(List.nodup_append.1 (List.nodup_append.1 h1).1).2.2 (k3 z) (Pt.2 ⟨z,Pd hx,rfl⟩) (k3 y) (by simp);exact h2 (hk.1 h)
   .by_cases a3:k < i
    .exact hJ k c a3 h7
    .have:k=i:=by omega
     subst this;rw [hx] at h7;cases h7;intro h3;rw [hk.2 h3] at h; cases h
  .rw [List.map_append];refine J07 a1 (fun hm=>?_);obtain⟨c,hc,h3⟩:=Pt.1 hm;obtain⟨k,hk⟩:=List.mem_iff_getElem?.1 hc;exact hJ k c (Pa hk).1 hk h3
 obtain⟨a1,a2⟩:=hI;refine Q6 (fun pre _=>(pre.flatMap x3).Nodup/\∀ x∈pre,Qa3 x) ⟨List.nodup_nil,fun c hc=>(Pe hc).elim⟩ (fun pre y post u nx e hJ a0=>?_) (fun u hJ=>Gt ⟨fun _=>⟨hn,a2,hJ.2,?_⟩,fun _=>rfl⟩)
 .obtain⟨b3,b4⟩:=hJ;have h5:y∈s.Covers:=by rw [e]; simp
  have a9:pre.length < s.Covers.length:=by rw [e]; simp
  refine H2 (x:=decide (0<=y.Bay)&&decide (y.Bay<=39)) rfl (Ja (fun hc=>Gt (Za fun h=>?_)) (fun hc=>?_))
  .have h1:=(h.cov y h5).bay;have h2:=(h.cov y h5).some;simp only [Px,Bool.not_eq_true',Bool.and_eq_false_iff,Pq,decide_eq_false_iff_not] at hc;have:y.Rows.length≠0:=fun h=>h2 (List.length_eq_zero_iff.1 h);omega
  simp only [Py,Bool.not_eq_false',Pp,Pq,decide_eq_false_iff_not] at hc;have b5:y.Rows≠[]:=fun h=>by rw [h] at hc; simp at hc
  refine Q6 (fun pr _=>(∀ r∈pr,0<=r/\r<=30)/\pr.Pairwise (· < ·)/\∀ r∈pr,(⟨y.Bay,r,2⟩:Hh) ∉ pre.flatMap x3) ⟨fun c hc=>(Pe hc).elim,List.Pairwise.nil,fun c hc=>(Pe hc).elim⟩ (fun pr r pos u nx' e' hK a8=>?_) (fun u hK=>a0 _ ⟨?_,bT b4 ⟨hc.1,b5,hK.1,hK.2.1⟩⟩)
  .obtain⟨b6,a6,b7⟩:=hK;have a7:r∈y.Rows:=by rw [e']; simp
   have c3:pr.length < y.Rows.length:=by rw [e']; simp
   have c4:=hr y h5;refine H2 (x:=decide (0<=r)&&decide (r<=30)) rfl ?_;have go:0<=r/\r<=30->(∀ a∈pr,a < r)->Wp (need (decide ((pre.length:Int)<=9223372036854775807)) <|
       upto (fun i84 (s84:Unit) nx84=>
        Jw s.Covers (i84:Int) fun y89=>
        bnd (bif decide (y89.Bay=y.Bay) then Jw s.Covers (i84:Int) some else some default) fun y91=>
        bnd (bif decide (y89.Bay=y.Bay) then Rf y91.Rows r else some default) fun r92=>
        bif ((decide (y89.Bay=y.Bay))&&r92) then
        (some false)
        else
        (nx84 ()))
       (fun(s84:Unit)=>
        nx' ()) (pre.length:Int).toNat 0 ()) (fun r=>r=true ↔ G03 s):=fun h1 h2=>by
    refine Yt (P8 (by omega)) ?_;rw [show (pre.length:Int).toNat=pre.length by omega];refine HR (fun i _=>∀ (k:Nat) x,k < i->pre[k]? = some x->(⟨y.Bay,r,2⟩:Hh) ∉ x3 x) (fun k c hk=>by omega) (fun i u nx2 hi hJ h9=>?_) (fun u hJ=>a8 _ ⟨bT b6 h1,yR a6 h2,bT b7 (fun hm=>?_)⟩)
    .have hx:pre[i]? = some (pre[i]'hi):=Pb hi;have h6:s.Covers[i]? = some (pre[i]'hi):=by rw [e,Ph hi]; exact hx
     generalize pre[i]'hi=z at hx h6;rw [Zu h6];have h4:∃ b c,(bif decide (z.Bay=y.Bay) then Jw s.Covers (i:Int) some else some default)=some b/\(bif decide (z.Bay=y.Bay) then Rf b.Rows r else some default)=some c/\(decide (z.Bay=y.Bay)&&c)=(decide (z.Bay=y.Bay)&&z.Rows.any (fun q=>decide (q=r))):=by
      cases decide (z.Bay=y.Bay)
      .exact⟨_,_,rfl,rfl,rfl⟩
      .exact⟨z,_,Zu h6 some,J0d _ _,rfl⟩
     obtain⟨b,c,e1,e2,q1⟩:=h4;refine H2 e1 (H2 e2 ?_);rw [q1];have hk:(decide (z.Bay=y.Bay)&&z.Rows.any (fun q=>decide (q=r)))=true ↔ (⟨y.Bay,r,2⟩:Hh)∈x3 z:=by
      unfold x3;simp only [Pp,Pq,List.any_eq_true,Pt,Hh.mk.injEq];constructor
      .rintro⟨h1,q,h2,h3⟩; exact⟨q,h2,h1,h3,trivial⟩
      .rintro⟨q,h2,h1,h3,_⟩; exact⟨h1,q,h2,h3⟩
     refine Ja (fun h=>Gt (Za fun hs=>?_)) (fun h=>h9 _ (fun k c b1 h7=>?_))
     .have h1:=(List.nodup_append.1 hs.nodup).2.1;rw [e,List.flatMap_append,List.flatMap_cons] at h1;have h2:=(List.nodup_append.1 h1).2.2 ⟨y.Bay,r,2⟩ (List.mem_flatMap.2 ⟨z,Pd hx,hk.1 h⟩) ⟨y.Bay,r,2⟩ (Ps.2 (.inl (Pt.2 ⟨r,a7,rfl⟩)));exact h2 rfl
     .by_cases a3:k < i
      .exact hJ k c a3 h7
      .have:k=i:=by omega
       subst this;rw [hx] at h7;cases h7;intro h3;rw [hk.2 h3] at h; cases h
    .obtain⟨x,hx,hm⟩:=List.mem_flatMap.1 hm;obtain⟨k,hk⟩:=List.mem_iff_getElem?.1 hx;exact hJ k x (Pa hk).1 hk hm
   by_cases a4:0<=r/\r<=30
   .have a5:(decide (0<=r)&&decide (r<=30))=true:=by simp; omega
    simp only [a5,Bool.not_true,Bool.not_false,Bool.true_and,Bool.false_or];by_cases b8:0 < pr.length
    .obtain⟨p,b9,c0,c1⟩:=G1a e' b8;rw [P8 (by omega:0 < (pr.length:Int)),cond_true];refine Hq (bW ⟨by omega,by omega⟩ (Gt ?_));have c2:(pr.length:Int) - 1=((pr.length - 1:Nat):Int):=by omega
     rw [c2];refine H2 ((Zu b9 some).trans rfl) ?_;simp only [Bool.true_and];refine Ja (fun h=>Gt (Za fun hc=>?_)) (fun h=>go a4 (sA a6 c0 (by have:=P7 h; omega)));have:=P6 h;have hs:=(hc.cov y h5).sorted;rw [e'] at hs;have:=(List.pairwise_append.1 hs).2.2 p c1 r (by simp);omega
    .have h0:pr=[]:=P1 (by omega);subst h0;rw [P9 (by simp:¬ 0 < (([]:AE).length:Int))];refine Hq (Gt (Hq (Gt ?_)));simp only [Bool.false_and,cond_false];exact go a4 (fun a ha=>(Pe ha).elim)
   .have a5:(decide (0<=r)&&decide (r<=30))=false:=by
     rw [Bool.and_eq_false_iff,decide_eq_false_iff_not,decide_eq_false_iff_not]; omega
    simp only [a5,Bool.not_true,Bool.not_false,Bool.false_and,cond_false,Bool.true_or,cond_true];exact Hq (Gt (Hq (Gt (Gt (Za fun hc=>a4 ((hc.cov y h5).rows r a7))))))
  .rw [List.flatMap_append,List.flatMap_cons,List.flatMap_nil,List.append_nil];refine List.nodup_append.2 ⟨b3,?_,fun a ha b hb h8=>?_⟩
   .refine List.pairwise_map.2 (hK.2.1.imp (fun {a b} h he=>?_));rw [Hh.mk.injEq] at he;omega
   .obtain⟨r,hr,rfl⟩:=Pt.1 hb;subst h8;exact hK.2.2 r hr ha
 .refine List.nodup_append.2 ⟨a1,hJ.1,fun a ha b hb h8=>?_⟩;obtain⟨c,_,rfl⟩:=Pt.1 ha;obtain⟨x,_,hb⟩:=List.mem_flatMap.1 hb;obtain⟨r,_,rfl⟩:=Pt.1 hb;unfold k3 dk at h8;rw [Hh.mk.injEq] at h8;cases hd:c.BD <;> rw [hd] at h8 <;> simp at h8
end Go.Proofs.YtbgfgnddogfpcaaGreat
