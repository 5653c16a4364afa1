/- When a ship is right: -/
import Derived.Test.YtkiekighbhnolaaGreatXP
import Derived.Test.YtkiekighbhnolaaGreatLentM
set_option maxRecDepth 100000
set_option linter.unusedVariables false
namespace Go.Proofs.YtkiekighbhnolaaGreat
open Go.RowKit

structure Q28 (c:G5):Prop where
 plugs:∀ p∈c.Plugs,0<=p/\p < c.AP
 sorted:c.Plugs.Pairwise (· < ·)
 place:0<=c.Bay/\c.Bay<=39/\0<=c.Row/\c.Row<=30/\1<=c.AP/\c.AP<=10/\0<=c.Height/\c.Height<=40000
 load:0<=c.AR/\c.AR<=500000000/\0<=c.AX/\c.AX<=500000000/\0<=c.BC/\c.BC<=1000000000000
 at_ : -500000<=c.X/\c.X<=500000 /\ -500000<=c.Y/\c.Y<=500000 /\ -500000<=c.Z/\c.Z<=500000
theorem Rb {p:Prop} (h:¬ p):(false=true) ↔ p:=⟨fun e=>Bool.noConfusion e,fun hp=>(h hp).elim⟩
theorem Qe6 {β:Type} {Q:β->Prop} {z:Int} {k:Int->Option β} (h:Wp (k (IntKind.i64.wrap z)) Q):Wp (wrp z k) Q:=h
variable {J:Type} {l:List J} {x:J}
theorem oN {R:J->J->Prop} (h:l.Pairwise R) (hx:∀ a∈l,R a x):(l++[x]).Pairwise R:=by
 rw [List.pairwise_append];refine⟨h,List.pairwise_singleton ..,fun a ha b hb=>?_⟩;rw [Sd] at hb; subst hb;exact hx a ha
theorem Q2 {P:J->Prop} (h1:∀ y∈l,P y) (h2:P x):∀ y∈l++[x],P y:=fun y hy=>by
 rcases Sb.1 hy with hy | hy
 .exact h1 y hy
 .rw [Sd.1 hy]; exact h2
theorem qO {pre:AE} {y p:Int} (h:pre.Pairwise (· < ·)) (hp:pre[pre.length - 1]? = some p) (hy:p < y):∀ a∈pre,a < y:=by
 rcases List.eq_nil_or_concat pre with rfl | ⟨q,z,rfl⟩
 .intro a ha; cases ha
 .rw [List.concat_eq_append] at *;have hz:z=p:=by
   rw [S6,S7,show q.length+1 - 1=q.length by omega] at hp;simpa using hp
  subst hz;intro a ha;rcases Sb.1 ha with ha | ha
  .have:=(List.pairwise_append.1 h).2.2 a ha z (by simp);omega
  .rw [Sd.1 ha]; exact hy
theorem G72 (l:List Hy):hP l=some (l.all (fun x=>decide (x.low<=x.n)&&decide (x.n<=x.high))):=by
 refine Ys ?_;unfold hP;refine Jw (fun pre _=>pre.all (fun x=>decide (x.low<=x.n)&&decide (x.n<=x.high))=true) rfl (fun pre y post s nx e hI h0=>H7 (fun h=>Gg ?_) (fun h=>h0 _ ?_)) (fun s hI=>Gg hI.symm)
 .symm;rw [List.all_eq_false];refine⟨y,by rw [e]; simp,?_⟩;simp only [Sg,S9] at h;simp only [S8,S9];omega
 .simp only [Sh,decide_eq_false_iff_not] at h;rw [List.all_append,hI];simp only [List.all_cons,List.all_nil,Bool.and_true,Bool.true_and,S8,S9];omega
theorem Ga4 {pre post:AE} {l:AE} {y:Int} (e:l=pre++y::post) (hp:0 < pre.length):∃ p,l[pre.length - 1]? = some p/\pre[pre.length - 1]? = some p/\p∈pre:=by
 have h1:pre[pre.length - 1]? = some (pre[pre.length - 1]'(by omega)):=Pv (by omega);exact⟨_,by rw [e,S1 (by omega)]; exact h1,h1,List.getElem_mem _⟩
theorem Q1b (c:G5) (hl:c.Plugs.length<=1048576):Wp (kW c) (fun r=>r=true ↔ Q28 c):=by
 unfold kW;have hw:1<=c.AP/\c.AP<=10->IntKind.i64.wrap (c.AP - 1)=c.AP - 1:=fun h=>fJ (by omega) (by omega);refine Jw (fun pre _=>(∀ p∈pre,0<=p/\p<=IntKind.i64.wrap (c.AP - 1))/\pre.Pairwise (· < ·)) ⟨fun p hp=>(Py hp).elim,List.Pairwise.nil⟩ (fun pre y post s nx e hI h5=>?_) (fun s hI=>?_)
 .obtain⟨h3,h4⟩:=hI;have h6:y∈c.Plugs:=by rw [e]; simp
  have b0:pre.length < c.Plugs.length:=by rw [e]; simp
  refine Qe6 (Gt (G72 _) ?_);simp only [List.all_cons,List.all_nil,Bool.and_true];by_cases hy:0<=y/\y<=IntKind.i64.wrap (c.AP - 1)
  .rw [Ps hy.1,Ps hy.2];simp only [Bool.and_self,Bool.not_true,Bool.not_false,Bool.true_and,Bool.false_or];by_cases hp:0 < pre.length
   .obtain⟨p,h7,h8,h9⟩:=Ga4 e hp;have a0:IntKind.i64.wrap ((pre.length:Int) - 1)=((pre.length - 1:Nat):Int):=by
     rw [fJ (by omega) (by omega)]; omega
    rw [Ps (by omega:0 < (pre.length:Int)),cond_true];refine Gt (congrArg some a0) (Gt ((Qk h7 some).trans rfl) ?_);simp only [Bool.true_and];refine H7 (fun h=>Gg (Rb fun hc=>?_)) (fun h=>h5 _ ⟨Q2 h3 hy,oN h4 (qO h4 h8 (by have:=Pr h; omega))⟩);have:=Pq h;have hs:=hc.sorted;rw [e] at hs;have:=(List.pairwise_append.1 hs).2.2 p h9 y (by simp);omega
   .have h0:pre=[]:=Pk (by omega);subst h0;rw [Pt (by simp:¬ 0 < (([]:AE).length:Int))];refine H6 (Gg (H6 (Gg ?_)));simp only [Bool.false_and,cond_false];exact h5 _ ⟨Q2 h3 hy,by simp⟩
  .have hf:(decide (0<=y)&&decide (y<=IntKind.i64.wrap (c.AP - 1)))=false:=by
    rw [Bool.and_eq_false_iff,decide_eq_false_iff_not,decide_eq_false_iff_not];omega
   rw [hf];simp only [Bool.not_false,Bool.not_true,Bool.false_and,cond_false,Bool.true_or,cond_true];refine H6 (Gg (H6 (Gg (Gg (Rb fun hc=>hy ?_)))));have h1:=hc.plugs y h6;have h2:=hc.place;rw [hw (by omega)];omega
 .obtain⟨h3,h4⟩:=hI;refine Gt (G72 _) (Gg ?_);simp only [List.all_cons,List.all_nil,Bool.and_true,S8,S9];constructor
  .rintro⟨a1,a2,a3,a4,a5,a6,a7,a8,a9,a10⟩;have hw:=hw a3;exact⟨fun p hp=>by have:=h3 p hp; omega,h4,by omega,by omega,by omega⟩
  .intro h;obtain⟨_,_,b1,b2,b3⟩:=h;omega
theorem Qa3 (c:G5) (hl:c.Plugs.length<=1048576):Wp (aH c) (fun r=>r=true ↔ Q28 c):=by
 unfold aH;refine Jw (fun pre _=>(∀ p∈pre,0<=p/\p < c.AP)/\pre.Pairwise (· < ·)) ⟨fun p hp=>(Py hp).elim,List.Pairwise.nil⟩ (fun pre y post s nx e hI h4=>?_) (fun s hI=>?_)
 .obtain⟨h1,h2⟩:=hI;have h5:y∈c.Plugs:=by rw [e]; simp
  have a0:pre.length < c.Plugs.length:=by rw [e]; simp
  refine H7 (fun h=>Gg (Rb fun hc=>?_)) (fun h=>?_)
  .simp only [Sg,S9] at h;have:=hc.plugs y h5;omega
  .simp only [Sh,decide_eq_false_iff_not] at h;have hy:0<=y/\y < c.AP:=by omega
   by_cases hp:0 < pre.length
   .obtain⟨p,h6,h7,h8⟩:=Ga4 e hp;rw [Ps (by omega:0 < (pre.length:Int)),cond_true];refine H6 (aT ⟨by omega,by omega⟩ (Gg ?_));have h9:(pre.length:Int) - 1=((pre.length - 1:Nat):Int):=by omega
    rw [h9];refine Gt ((Qk h6 some).trans rfl) ?_;simp only [Bool.true_and];refine H7 (fun h=>Gg (Rb fun hc=>?_)) (fun h=>h4 _ ⟨Q2 h1 hy,oN h2 (qO h2 h7 (by have:=Pr h; omega))⟩);have:=Pq h;have hs:=hc.sorted;rw [e] at hs;have:=(List.pairwise_append.1 hs).2.2 p h8 y (by simp);omega
   .have h0:pre=[]:=Pk (by omega);subst h0;rw [Pt (by simp:¬ 0 < (([]:AE).length:Int))];refine H6 (Gg (H6 (Gg ?_)));simp only [Bool.false_and,cond_false];exact h4 _ ⟨Q2 h1 hy,by simp⟩
 .obtain⟨h1,h2⟩:=hI;have h3:∀ n a b:Int,J8 n a b=some (decide (a<=n)&&decide (n<=b)):=fun _ _ _=>rfl;have cnd:∀ (b:Bool) (n a z:Int),∃ r,(bif b then J8 n a z else some default)=some r/\(b&&r)=(b&&(decide (a<=n)&&decide (n<=z))):=fun b n a z=>by
   cases b
   .exact⟨_,rfl,rfl⟩
   .exact⟨_,rfl,rfl⟩
  refine Gt (h3 _ _ _) ?_;obtain⟨r1,e1,q1⟩:=cnd (decide (-500000<=c.X)&&decide (c.X<=500000)) c.Y (-500000) 500000;refine Gt e1 ?_;rw [q1];obtain⟨r2,e2,q2⟩:=cnd (decide (-500000<=c.X)&&decide (c.X<=500000)&&(decide (-500000<=c.Y)&&decide (c.Y<=500000))) c.Z (-500000) 500000;refine Gt e2 (Gt (h3 _ _ _) ?_);rw [q2];obtain⟨r3,e3,q3⟩:=cnd (decide (0<=c.AR)&&decide (c.AR<=500000000)) c.AX 0 500000000;refine Gt e3 ?_;rw [q3];obtain⟨r4,e4,q4⟩:=cnd (decide (0<=c.AR)&&decide (c.AR<=500000000)&&(decide (0<=c.AX)&&decide (c.AX<=500000000))) c.BC 0 1000000000000;refine Gt e4 (Gt (h3 _ _ _) ?_);rw [q4];obtain⟨r5,e5,q5⟩:=cnd (decide (0<=c.Bay)&&decide (c.Bay<=39)) c.Row 0 30;refine Gt e5 ?_;rw [q5];obtain⟨r6,e6,q6⟩:=cnd (decide (0<=c.Bay)&&decide (c.Bay<=39)&&(decide (0<=c.Row)&&decide (c.Row<=30))) c.AP 1 10;refine Gt e6 ?_;rw [q6];obtain⟨r7,e7,q7⟩:=cnd (decide (0<=c.Bay)&&decide (c.Bay<=39)&&(decide (0<=c.Row)&&decide (c.Row<=30))&&(decide (1<=c.AP)&&decide (c.AP<=10))) c.Height 0 40000;refine Gt e7 ?_;rw [q7];refine Gg ?_;simp only [S8,S9];constructor
  .rintro⟨⟨⟨⟨⟨a1,a2⟩,a3⟩,a4⟩,⟨b1,b2⟩,b3⟩,⟨d1,d2⟩,d3⟩;exact⟨h1,h2,by omega,by omega,by omega⟩
  .intro h;obtain⟨_,_,b1,b2,b3⟩:=h;omega

def dk (b:Bool):Int:=bif b then 1 else 0
def k3 (c:G5):Ho:=⟨c.Bay,c.Row,dk c.AO⟩
def x3 (x:Gv):List Ho:=x.Rows.map fun r=>⟨x.Bay,r,2⟩
structure R06 (x:Gv):Prop where
 bay:0<=x.Bay/\x.Bay<=39
 some:x.Rows≠[]
 rows:∀ r∈x.Rows,0<=r/\r<=30
 sorted:x.Rows.Pairwise (· < ·)
structure qV (s:Ge):Prop where
 num:1<=s.Columns.length/\s.Columns.length<=200/\s.Covers.length<=40
 col:∀ c∈s.Columns,Q28 c
 cov:∀ x∈s.Covers,R06 x
 nodup:(s.Columns.map k3++s.Covers.flatMap x3).Nodup
theorem Qd9 {W:Type} [DecidableEq W] {m:Ht W Int} {l:List W} (h:Ht.l m=tally l) (a:W):Ht.l (Ht.put m a (Ht.get m a 0+1))=tally (l++[a]):=by
 rw [zL];show pA (Ht.l m) a ((gV (Ht.l m) a).getD 0+1)=_
 rw [h]
theorem Qdd {W:Type} [DecidableEq W] {m:Ht W Int} {l:List W} (h:Ht.l m=tally l) (a:W):0<=Ht.get m a 0/\Ht.get m a 0<=(l.length:Int):=by
 have:=Hf2 l a;show 0<=(gV (Ht.l m) a).getD 0/\_
 rw [h];exact⟨this.1,by show (gV (Ht.l m) a).getD 0<=_; rw [h]; exact this.2⟩
theorem Q5c (l:List Gv) (h:∀ x∈l,x.Rows.length<=1048576):(l.flatMap x3).length<=1048576*l.length:=by
 induction l with
 | nil=>simp
 | cons x l ih=>
  have h1:=h x (List.mem_cons_self ..);have h2:=ih (fun y hy=>h y (List.mem_cons_of_mem _ hy));rw [List.flatMap_cons,S6,S2];have:(x3 x).length=x.Rows.length:=by simp [x3]
  omega
theorem zP (s:Ge) (hp:∀ c∈s.Columns,c.Plugs.length<=1048576) (hr:∀ x∈s.Covers,x.Rows.length<=1048576):Wp (aY s) (fun r=>r=true ↔ qV s):=by
 unfold aY sW;refine H7 (fun hc=>Gg (Rb fun h=>?_)) (fun hc=>?_)
 .have:=h.num;simp only [Sg,S9] at hc;omega
 simp only [Sh,decide_eq_false_iff_not] at hc;have hn:1<=s.Columns.length/\s.Columns.length<=200/\s.Covers.length<=40:=by omega
 refine Jw (fun pre m=>Ht.l m=tally (pre.map k3)/\∀ c∈pre,Q28 c) ⟨rfl,fun c hc=>(Py hc).elim⟩ (fun pre y post m nx e hI h6=>?_) (fun m hI=>?_)
 .obtain⟨h5,h7⟩:=hI;have h3:y∈s.Columns:=by rw [e]; simp
  have a6:pre.length < s.Columns.length:=by rw [e]; simp
  refine gR (fun j=>j=dk y.AO) (fun K hK=>H7 (fun h=>hK _ (by rw [h]; rfl)) (fun h=>hK _ (by rw [h]; rfl))) (fun j hj=>?_);subst hj;have hb:=Qdd h5 (k3 y);rw [Sa] at hb;refine Gt (x:=Ht.get m (k3 y) 0) rfl (aT ⟨by omega,by omega⟩ (H6 (wp_mono (Q1b y (hp y h3)) (fun r hr=>H7 (fun h=>Gg (Rb fun hs=>?_)) (fun h=>h6 _ ⟨?_,Q2 h7 ?_⟩)))))
  .rw [hr.2 (hs.col y h3)] at h; cases h
  .rw [List.map_append]; exact Qd9 h5 (k3 y)
  .cases r with
   | true=>exact hr.1 rfl
   | false=>cases h
 obtain⟨h5,h7⟩:=hI;refine Jw (fun pre m=>Ht.l m=tally (s.Columns.map k3++pre.flatMap x3)/\∀ x∈pre,R06 x) ⟨by simpa using h5,fun c hc=>(Py hc).elim⟩ (fun pre y post m nx e hJ h6=>?_) (fun m hJ=>?_)
 .obtain⟨h8,h9⟩:=hJ;have h3:y∈s.Covers:=by rw [e]; simp
  have a6:pre.length < s.Covers.length:=by rw [e]; simp
  refine H7 (fun hc=>Gg (Rb fun h=>?_)) (fun hc=>?_)
  .have h1:=(h.cov y h3).bay;have h2:=(h.cov y h3).some;simp only [Sg,S9] at hc;have:y.Rows.length≠0:=fun h=>h2 (List.length_eq_zero_iff.1 h);omega
  simp only [Sh,decide_eq_false_iff_not] at hc;have a7:y.Rows≠[]:=fun h=>by rw [h] at hc; simp at hc
  have b6:=Q5c pre (fun x hx=>hr x (by rw [e]; exact Sb.2 (.inl hx)));have b7:=hr y h3;refine Jw (fun pr m=>Ht.l m=tally (s.Columns.map k3++pre.flatMap x3++pr.map (fun r=>(⟨y.Bay,r,2⟩:Ho)))/\(∀ r∈pr,0<=r/\r<=30)/\pr.Pairwise (· < ·)) ⟨by simpa using h8,fun c hc=>(Py hc).elim,List.Pairwise.nil⟩ (fun pr r pos m nx' e' hK a5=>?_) (fun m hK=>h6 _ ⟨?_,Q2 h9 ⟨by omega,a7,hK.2.1,hK.2.2⟩⟩)
  .obtain⟨a3,a8,a4⟩:=hK;have a9:r∈y.Rows:=by rw [e']; simp
   have b5:pr.length < y.Rows.length:=by rw [e']; simp
   have go:0<=r/\r<=30->(∀ a∈pr,a < r)->Wp (bnd (some (Ht.get m ⟨y.Bay,r,2⟩ 0)) fun v167=>chk (v167+1) fun v168=>nx' (Ht.put m ⟨y.Bay,r,2⟩ v168)) (fun r=>r=true ↔ qV s):=fun h1 h2=>by
    have hb:=Qdd a3 ⟨y.Bay,r,2⟩;simp only [S6,Sa] at hb;refine H6 (Gg (aT ⟨by omega,by omega⟩ (a5 _ ⟨?_,Q2 a8 h1,oN a4 h2⟩)));rw [List.map_append,<- List.append_assoc];exact Qd9 a3 ⟨y.Bay,r,2⟩
   by_cases a0:0<=r/\r<=30
   .have a1:(decide (r < 0)||decide (30 < r))=false:=by simp; omega
    simp only [a1,Bool.not_false,Bool.true_and,Bool.false_or];by_cases b0:0 < pr.length
    .obtain⟨p,b1,b2,b3⟩:=Ga4 e' b0;rw [Ps (by omega:0 < (pr.length:Int)),cond_true];refine H6 (aT ⟨by omega,by omega⟩ (Gg ?_));have b4:(pr.length:Int) - 1=((pr.length - 1:Nat):Int):=by omega
     rw [b4];refine Gt ((Qk b1 some).trans rfl) ?_;simp only [Bool.true_and];refine H7 (fun h=>Gg (Rb fun hc=>?_)) (fun h=>go a0 (qO a4 b2 (by have:=Pr h; omega)));have:=Pq h;have hs:=(hc.cov y h3).sorted;rw [e'] at hs;have:=(List.pairwise_append.1 hs).2.2 p b3 r (by simp);omega
    .have h0:pr=[]:=Pk (by omega);subst h0;rw [Pt (by simp:¬ 0 < (([]:AE).length:Int))];refine H6 (Gg (H6 (Gg ?_)));simp only [Bool.false_and,cond_false];exact go a0 (fun a ha=>(Py ha).elim)
   .have a1:(decide (r < 0)||decide (30 < r))=true:=by simp; omega
    simp only [a1,Bool.not_true,Bool.false_and,cond_false,Bool.true_or,cond_true];exact H6 (Gg (H6 (Gg (Gg (Rb fun hc=>a0 ((hc.cov y h3).rows r a9))))))
  .rw [List.flatMap_append,<- List.append_assoc];simpa [x3] using hK.1
 .obtain⟨h8,h9⟩:=hJ;rw [G00 (c:=fun x:Ho×Int=>decide (1 < x.2))];refine Gg ?_;have a2:(Ht.l m).any (fun x=>decide (1 < x.2))=false ↔ (s.Columns.map k3++s.Covers.flatMap x3).Nodup:=by
   rw [<- H75,h8,List.any_eq_false];constructor
   .intro h j a n hj;have:=h (a,n) (Px hj);simp only [S9] at this;omega
   .intro h x hx;obtain⟨j,hj⟩:=List.mem_iff_getElem?.1 hx;have:=h j x.1 x.2 hj;simp only [S9];omega
  cases h4:(Ht.l m).any (fun x=>decide (1 < x.2)) with
  | true=>
   refine Rb fun h=>?_;rw [a2.2 h.nodup] at h4; cases h4
  | false=>exact⟨fun _=>⟨hn,h7,h9,a2.1 h4⟩,fun _=>rfl⟩

theorem Ge1 (rows:AE) (row:Int):Qu rows row=some (rows.any (fun r=>decide (r=row))):=by
 refine Ys ?_;unfold Qu;refine Jw (fun pre _=>pre.any (fun r=>decide (r=row))=false) rfl (fun pre y post s nx e hI h0=>H7 (fun h=>Gg ?_) (fun h=>h0 _ ?_)) (fun s hI=>Gg hI.symm)
 .symm;exact List.any_eq_true.2 ⟨y,by rw [e]; simp,h⟩
 .rw [List.any_append,hI];simp only [List.any_cons,List.any_nil,Bool.or_false,Bool.false_or,h]
theorem Gdb (h:l.Nodup) (hx:x ∉ l):(l++[x]).Nodup:=by
 rw [List.nodup_append];refine⟨h,by simp,fun a ha b hb=>?_⟩;rw [Sd.1 hb];exact fun e=>hx (e ▸ ha)
theorem R39 {a b:G5}:k3 a=k3 b ↔ a.Bay=b.Bay/\a.Row=b.Row/\a.AO=b.AO:=by
 unfold k3;rw [Ho.mk.injEq];have:dk a.AO=dk b.AO ↔ a.AO=b.AO:=by cases a.AO <;> cases b.AO <;> decide
 rw [this]
theorem G2f {F:Nat} (s:Ge) (hp:∀ c∈s.Columns,c.Plugs.length<=1048576) (hr:∀ x∈s.Covers,x.Rows.length<=1048576):Wp (Rj F s) (fun r=>r=true ↔ qV s):=by
 unfold Rj;refine Gt (x:=decide (1<=(s.Columns.length:Int))&&decide ((s.Columns.length:Int)<=200)) rfl (H7 (fun hc=>Gg (Rb fun h=>?_)) (fun hc=>?_))
 .have:=h.num;simp only [Sg,Bool.not_eq_true',Bool.and_eq_false_iff,S9,decide_eq_false_iff_not] at hc;omega
 simp only [Sh,Bool.not_eq_false',S8,S9,decide_eq_false_iff_not] at hc;have hn:1<=s.Columns.length/\s.Columns.length<=200/\s.Covers.length<=40:=by omega
 refine Jw (fun pre _=>(pre.map k3).Nodup/\∀ c∈pre,Q28 c) ⟨List.nodup_nil,fun c hc=>(Py hc).elim⟩ (fun pre y post u nx e hI a0=>?_) (fun u hI=>?_)
 .obtain⟨a1,a2⟩:=hI;have h5:y∈s.Columns:=by rw [e]; simp
  have a9:pre.length < s.Columns.length:=by rw [e]; simp
  refine H6 (wp_mono (Qa3 y (hp y h5)) (fun r hr=>H7 (fun h=>Gg (Rb fun hs=>?_)) (fun h=>?_)))
  .rw [hr.2 (hs.col y h5)] at h; cases h
  have b0:Q28 y:=by
   cases r with
   | true=>exact hr.1 rfl
   | false=>cases h
  refine Qs (Ps (by omega)) ?_;rw [show (pre.length:Int).toNat=pre.length by omega];refine kO (fun i _=>∀ (k:Nat) c,k < i->pre[k]? = some c->k3 c≠k3 y) (fun k c hk=>by omega) (fun i u nx2 hi hJ h9=>?_) (fun u hJ=>a0 _ ⟨?_,Q2 a2 b0⟩)
  .have hx:pre[i]? = some (pre[i]'hi):=Pv hi;have h6:s.Columns[i]? = some (pre[i]'hi):=by rw [e,S1 hi]; exact hx
   generalize pre[i]'hi=z at hx h6;rw [Qk h6];have h4:∃ b,(bif decide (z.Bay=y.Bay) then Jk s.Columns (i:Int) some else some default)=some b/\(decide (z.Bay=y.Bay)&&decide (b.Row=y.Row))=(decide (z.Bay=y.Bay)&&decide (z.Row=y.Row)):=by
    cases decide (z.Bay=y.Bay)
    .exact⟨_,rfl,rfl⟩
    .exact⟨z,Qk h6 some,rfl⟩
   obtain⟨b,e1,q1⟩:=h4;refine Gt e1 ?_;rw [q1];have h4:∃ b,(bif (decide (z.Bay=y.Bay)&&decide (z.Row=y.Row)) then Jk s.Columns (i:Int) some else some default)=some b/\((decide (z.Bay=y.Bay)&&decide (z.Row=y.Row))&&(b.AO==y.AO))=((decide (z.Bay=y.Bay)&&decide (z.Row=y.Row))&&(z.AO==y.AO)):=by
    cases (decide (z.Bay=y.Bay)&&decide (z.Row=y.Row))
    .exact⟨_,rfl,rfl⟩
    .exact⟨z,Qk h6 some,rfl⟩
   obtain⟨b2,e2,q2⟩:=h4;refine Gt e2 ?_;rw [q2];have hk:((decide (z.Bay=y.Bay)&&decide (z.Row=y.Row))&&(z.AO==y.AO))=true ↔ k3 z=k3 y:=by
    rw [R39];simp only [S8,S9,beq_iff_eq,and_assoc]
   refine H7 (fun h=>Gg (Rb fun hs=>?_)) (fun h=>h9 _ (fun k c b1 h7=>?_))
   .have h1:=hs.nodup;rw [e,List.map_append] at h1;have h2:=(List.nodup_append.1 (List.nodup_append.1 h1).1).2.2 (k3 z) (Sc.2 ⟨z,Px hx,rfl⟩) (k3 y) (by simp);exact h2 (hk.1 h)
   .by_cases a3:k < i
    .exact hJ k c a3 h7
    .have:k=i:=by omega
     subst this;rw [hx] at h7;cases h7;intro h3;rw [hk.2 h3] at h; cases h
  .rw [List.map_append];refine Gdb a1 (fun hm=>?_);obtain⟨c,hc,h3⟩:=Sc.1 hm;obtain⟨k,hk⟩:=List.mem_iff_getElem?.1 hc;exact hJ k c (Pu hk).1 hk h3
 obtain⟨a1,a2⟩:=hI;refine Jw (fun pre _=>(pre.flatMap x3).Nodup/\∀ x∈pre,R06 x) ⟨List.nodup_nil,fun c hc=>(Py hc).elim⟩ (fun pre y post u nx e hJ a0=>?_) (fun u hJ=>Gg ⟨fun _=>⟨hn,a2,hJ.2,?_⟩,fun _=>rfl⟩)
 .obtain⟨b3,b4⟩:=hJ;have h5:y∈s.Covers:=by rw [e]; simp
  have a9:pre.length < s.Covers.length:=by rw [e]; simp
  refine Gt (x:=decide (0<=y.Bay)&&decide (y.Bay<=39)) rfl (H7 (fun hc=>Gg (Rb fun h=>?_)) (fun hc=>?_))
  .have h1:=(h.cov y h5).bay;have h2:=(h.cov y h5).some;simp only [Sg,Bool.not_eq_true',Bool.and_eq_false_iff,S9,decide_eq_false_iff_not] at hc;have:y.Rows.length≠0:=fun h=>h2 (List.length_eq_zero_iff.1 h);omega
  simp only [Sh,Bool.not_eq_false',S8,S9,decide_eq_false_iff_not] at hc;have b5:y.Rows≠[]:=fun h=>by rw [h] at hc; simp at hc
  refine Jw (fun pr _=>(∀ r∈pr,0<=r/\r<=30)/\pr.Pairwise (· < ·)/\∀ r∈pr,(⟨y.Bay,r,2⟩:Ho) ∉ pre.flatMap x3) ⟨fun c hc=>(Py hc).elim,List.Pairwise.nil,fun c hc=>(Py hc).elim⟩ (fun pr r pos u nx' e' hK a8=>?_) (fun u hK=>a0 _ ⟨?_,Q2 b4 ⟨hc.1,b5,hK.1,hK.2.1⟩⟩)
  .obtain⟨b6,a6,b7⟩:=hK;have a7:r∈y.Rows:=by rw [e']; simp
   have c3:pr.length < y.Rows.length:=by rw [e']; simp
   have c4:=hr y h5;refine Gt (x:=decide (0<=r)&&decide (r<=30)) rfl ?_;have go:0<=r/\r<=30->(∀ a∈pr,a < r)->Wp (need (decide ((pre.length:Int)<=9223372036854775807)) <|
       upto (fun i84 (s84:Unit) nx84=>
        Jk s.Covers (i84:Int) fun y89=>
        bnd (bif decide (y89.Bay=y.Bay) then Jk s.Covers (i84:Int) some else some default) fun y91=>
        bnd (bif decide (y89.Bay=y.Bay) then Qu y91.Rows r else some default) fun r92=>
        bif ((decide (y89.Bay=y.Bay))&&r92) then
        (some false)
        else
        (nx84 ()))
       (fun(s84:Unit)=>
        nx' ()) (pre.length:Int).toNat 0 ()) (fun r=>r=true ↔ qV s):=fun h1 h2=>by
    refine Qs (Ps (by omega)) ?_;rw [show (pre.length:Int).toNat=pre.length by omega];refine kO (fun i _=>∀ (k:Nat) x,k < i->pre[k]? = some x->(⟨y.Bay,r,2⟩:Ho) ∉ x3 x) (fun k c hk=>by omega) (fun i u nx2 hi hJ h9=>?_) (fun u hJ=>a8 _ ⟨Q2 b6 h1,oN a6 h2,Q2 b7 (fun hm=>?_)⟩)
    .have hx:pre[i]? = some (pre[i]'hi):=Pv hi;have h6:s.Covers[i]? = some (pre[i]'hi):=by rw [e,S1 hi]; exact hx
     generalize pre[i]'hi=z at hx h6;rw [Qk h6];have h4:∃ b c,(bif decide (z.Bay=y.Bay) then Jk s.Covers (i:Int) some else some default)=some b/\(bif decide (z.Bay=y.Bay) then Qu b.Rows r else some default)=some c/\(decide (z.Bay=y.Bay)&&c)=(decide (z.Bay=y.Bay)&&z.Rows.any (fun q=>decide (q=r))):=by
      cases decide (z.Bay=y.Bay)
      .exact⟨_,_,rfl,rfl,rfl⟩
      .exact⟨z,_,Qk h6 some,Ge1 _ _,rfl⟩
     obtain⟨b,c,e1,e2,q1⟩:=h4;refine Gt e1 (Gt e2 ?_);rw [q1];have hk:(decide (z.Bay=y.Bay)&&z.Rows.any (fun q=>decide (q=r)))=true ↔ (⟨y.Bay,r,2⟩:Ho)∈x3 z:=by
      unfold x3;simp only [S8,S9,List.any_eq_true,Sc,Ho.mk.injEq];constructor
      .rintro⟨h1,q,h2,h3⟩; exact⟨q,h2,h1,h3,trivial⟩
      .rintro⟨q,h2,h1,h3,_⟩; exact⟨h1,q,h2,h3⟩
     refine H7 (fun h=>Gg (Rb fun hs=>?_)) (fun h=>h9 _ (fun k c b1 h7=>?_))
     .have h1:=(List.nodup_append.1 hs.nodup).2.1;rw [e,List.flatMap_append,List.flatMap_cons] at h1;have h2:=(List.nodup_append.1 h1).2.2 ⟨y.Bay,r,2⟩ (List.mem_flatMap.2 ⟨z,Px hx,hk.1 h⟩) ⟨y.Bay,r,2⟩ (Sb.2 (.inl (Sc.2 ⟨r,a7,rfl⟩)));exact h2 rfl
     .by_cases a3:k < i
      .exact hJ k c a3 h7
      .have:k=i:=by omega
       subst this;rw [hx] at h7;cases h7;intro h3;rw [hk.2 h3] at h; cases h
    .obtain⟨x,hx,hm⟩:=List.mem_flatMap.1 hm;obtain⟨k,hk⟩:=List.mem_iff_getElem?.1 hx;exact hJ k x (Pu hk).1 hk hm
   by_cases a4:0<=r/\r<=30
   .have a5:(decide (0<=r)&&decide (r<=30))=true:=by simp; omega
    simp only [a5,Bool.not_true,Bool.not_false,Bool.true_and,Bool.false_or];by_cases b8:0 < pr.length
    .obtain⟨p,b9,c0,c1⟩:=Ga4 e' b8;rw [Ps (by omega:0 < (pr.length:Int)),cond_true];refine H6 (aT ⟨by omega,by omega⟩ (Gg ?_));have c2:(pr.length:Int) - 1=((pr.length - 1:Nat):Int):=by omega
     rw [c2];refine Gt ((Qk b9 some).trans rfl) ?_;simp only [Bool.true_and];refine H7 (fun h=>Gg (Rb fun hc=>?_)) (fun h=>go a4 (qO a6 c0 (by have:=Pr h; omega)));have:=Pq h;have hs:=(hc.cov y h5).sorted;rw [e'] at hs;have:=(List.pairwise_append.1 hs).2.2 p c1 r (by simp);omega
    .have h0:pr=[]:=Pk (by omega);subst h0;rw [Pt (by simp:¬ 0 < (([]:AE).length:Int))];refine H6 (Gg (H6 (Gg ?_)));simp only [Bool.false_and,cond_false];exact go a4 (fun a ha=>(Py ha).elim)
   .have a5:(decide (0<=r)&&decide (r<=30))=false:=by
     rw [Bool.and_eq_false_iff,decide_eq_false_iff_not,decide_eq_false_iff_not]; omega
    simp only [a5,Bool.not_true,Bool.not_false,Bool.false_and,cond_false,Bool.true_or,cond_true];exact H6 (Gg (H6 (Gg (Gg (Rb fun hc=>a4 ((hc.cov y h5).rows r a7))))))
  .rw [List.flatMap_append,List.flatMap_cons,List.flatMap_nil,List.append_nil];refine List.nodup_append.2 ⟨b3,?_,fun a ha b hb h8=>?_⟩
   .refine List.pairwise_map.2 (hK.2.1.imp (fun {a b} h he=>?_));rw [Ho.mk.injEq] at he;omega
   .obtain⟨r,hr,rfl⟩:=Sc.1 hb;subst h8;exact hK.2.2 r hr ha
 .refine List.nodup_append.2 ⟨a1,hJ.1,fun a ha b hb h8=>?_⟩;obtain⟨c,_,rfl⟩:=Sc.1 ha;obtain⟨x,_,hb⟩:=List.mem_flatMap.1 hb;obtain⟨r,_,rfl⟩:=Sc.1 hb;unfold k3 dk at h8;rw [Ho.mk.injEq] at h8;cases hd:c.AO <;> rw [hd] at h8 <;> simp at h8
end Go.Proofs.YtkiekighbhnolaaGreat
