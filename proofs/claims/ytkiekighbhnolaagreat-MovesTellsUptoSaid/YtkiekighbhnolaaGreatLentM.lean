/- What the functions return that lend and check arguments. -/
import Derived.Test.YtkiekighbhnolaaGreatXL
import Derived.Test.YtkiekighbhnolaaGreatWp
set_option maxRecDepth 100000
set_option linter.unusedVariables false
namespace Go.Proofs.YtkiekighbhnolaaGreat
open Go.RowKit

variable {n:Nat}
theorem pC {k:Nat} (hn:n<=10000001) (hk:k<=1000):decide (n*k<=140737488355328/\n<=maxLen)=true:=by
 refine Ps ⟨?_,by unfold maxLen; omega⟩;exact Nat.le_trans (Nat.mul_le_mul hn hk) (by omega)
theorem Qd8 {k:Nat} (hn:n<=10000001) (hk:k<=1000):decide (k*n<=281474976710656/\n<=maxLen)=true:=by
 refine Ps ⟨?_,by unfold maxLen; omega⟩;exact Nat.le_trans (Nat.mul_le_mul hk hn) (by omega)
theorem Ja2 {z:Int} (h:z=(n:Int)):xU z=some n:=by
 subst h;unfold xU;rw [Ps (by omega:(0:Int)<=(n:Int))];simp
section generic
variable {J β:Type}
theorem pP {x:J} {k:J->Option β}:bnd (some x) k=k x:=rfl
def marks (mv:Nat->J):List J:=(List.range 12).map mv
variable {i:Nat} {mv:Nat->J}
theorem Gde (h:i < 12):(marks mv)[i]? = some (mv i):=by
 unfold marks;rw [S3,List.getElem?_range h]; rfl
theorem G38:(marks mv).length=12:=by simp [marks]
theorem Ja5 (h:i < 12):(marks mv).take (i+1)=(marks mv).take i++[mv i]:=by
 rw [List.take_add_one,Gde h]; rfl
variable {mk:Int->Option β} {by_:Nat}
theorem J17 {mv:Nat->β} (of:β->J) (h0:∀ i:Nat,i < 12->mk (i:Int)=some (mv i)) (h1:by_<=1000) {n:Nat} {s0:List J} (hn:s0.length=n) (hl:n<=1048576) :
  (need (decide ((12:Int)<=9223372036854775807)) <| upto (fun i (s:List J) nx=>bnd (mk (i:Int)) fun r=>need (decide ((s.length+[of r].length)*by_<=140737488355328/\s.length+[of r].length<=maxLen)) <| nx (s++[of r])) (fun s=>bnd (oP (n:Int) s.length) fun m=>some (s.take m,s.drop m)) (12:Int).toNat 0 s0)=some (s0,(marks mv).map of):=by
 refine Ys (Qs rfl ?_);refine kO (fun i s=>s=s0++((marks mv).map of).take i) (by simp) (fun i s nx hi hI h2=>?_) (fun s hI=>?_)
 .have hi:i < 12:=hi;subst hI;have h4:(s0++((marks mv).map of).take i).length<=n+12:=by
   rw [S6,List.length_take]; omega
  refine Gt (h0 i hi) (Qs (pC (by rw [S7]; omega) h1) (h2 _ ?_));rw [<- List.map_take,<- List.map_take,Ja5 hi,List.map_append,List.append_assoc];rfl
 .have h3:(12:Int).toNat=12:=rfl;rw [h3,List.take_of_length_le (by rw [Sa,G38]; omega)] at hI;subst hI;refine H6 (Gac (m:=n) rfl (by rw [S6]; omega) (Gg ?_));rw [<- hn,List.take_left,List.drop_left]
variable {l:List J}
theorem yA {mk:Int->Option J} (h1:∀ i:Nat,i < 12->mk (i:Int)=some (mv i)) (h0:by_<=1000) (hl:l.length<=1048576) :
  (chk ((l.length:Int)+12) fun v3=>bnd (xU v3) fun m4=>need (decide (by_*m4<=281474976710656/\m4<=maxLen)) <| need (decide ((([]:List J).length+l.length)*by_<=140737488355328/\([]:List J).length+l.length<=maxLen)) <|
   need (decide ((12:Int)<=9223372036854775807)) <| upto (fun i (s:List J) nx=>bnd (mk (i:Int)) fun r=>need (decide ((s.length+[r].length)*by_<=140737488355328/\s.length+[r].length<=maxLen)) <| nx (s++[r])) (fun s=>bnd (oP (l.length:Int) s.length) fun m=>some (s.take m,s.drop m)) (12:Int).toNat 0 (([]:List J)++l))=some (l,marks mv):=by
 refine Ys (aT ⟨by omega,by omega⟩ (Gt (Ja2 (n:=l.length+12) (by omega)) (Qs (Qd8 (by omega) h0) (Qs (pC (by rw [List.length_nil]; omega) h0) ⟨_,J17 (fun x=>x) h1 h0 (s0:=([]:List J)++l) (n:=l.length) (by simp) hl,?_⟩))));rw [List.map_id'',List.nil_append];exact fun _=>rfl
theorem tY {lx:β->Option J} {lv:β->J} {mv:Nat->β} (of:β->J) (h1:∀ i:Nat,i < 12->mk (i:Int)=some (mv i)) (h0:by_<=1000) {l:List β} (h2:∀ x∈l,lx x=some (lv x)) (hl:l.length<=1048576) :
  (chk ((l.length:Int)+12) fun v3=>bnd (xU v3) fun m4=>need (decide (by_*m4<=281474976710656/\m4<=maxLen)) <|
   each (fun y (i:Nat) (s:List J) nx=>bnd (lx y) fun r=>need (decide ((s.length+[r].length)*by_<=140737488355328/\s.length+[r].length<=maxLen)) <| nx (s++[r]))
   (fun(s0:List J)=>need (decide ((12:Int)<=9223372036854775807)) <| upto (fun i (s:List J) nx=>bnd (mk (i:Int)) fun r=>need (decide ((s.length+[of r].length)*by_<=140737488355328/\s.length+[of r].length<=maxLen)) <| nx (s++[of r])) (fun s=>bnd (oP (l.length:Int) s.length) fun m=>some (s.take m,s.drop m)) (12:Int).toNat 0 s0) l 0 [])=some (l.map lv,(marks mv).map of):=by
 refine Ys (aT ⟨by omega,by omega⟩ (Gt (Ja2 (n:=l.length+12) (by omega)) (Qs (Qd8 (by omega) h0) ?_)));refine Jw (fun pre s=>s=pre.map lv) rfl (fun pre y post s nx e hI h3=>?_) (fun s hI=>?_)
 .subst hI;have hp:pre.length < l.length:=by rw [e]; simp
  refine Gt (h2 y (by rw [e]; simp)) (Qs (pC (by rw [S7,Sa]; omega) h0) (h3 _ ?_));rw [List.map_append]; rfl
 .subst hI;exact⟨_,J17 of h1 h0 (by simp) hl,rfl⟩
theorem Jdd [Inhabited J] [Inhabited β] {mv:Nat->β} (h3:∀ i:Nat,i < 12->mk (i:Int)=some (mv i)) {l:List β} (hl:l.length<=1048576) {xs:List J} {ys:List J} (hx:xs.length=l.length) (hy:ys.length=12)
  {body:J->Nat->Unit->(Unit->Option Bool)->Option Bool}
  (h1:∀ (i:Nat) y z nx,i < l.length->xs[i]? = some y->l[i]? = some z->body y i () nx=nx ())
  (h2:∀ (i:Nat) y nx,i < 12->ys[i]? = some y->body y (l.length+i) () nx=nx ()) :
  (bif decide ((((xs,ys):Ln J).1.length:Int)≠(l.length:Int)) then some false else (chk ((l.length:Int)+12) fun v6=>bnd (oP v6 (((xs,ys):Ln J).1++((xs,ys):Ln J).2).length) fun m7=>each body (fun(_:Unit)=>some true) ((((xs,ys):Ln J).1++((xs,ys):Ln J).2).take m7) 0 ()))=some true:=by
 have hd:decide ((((xs,ys):Ln J).1.length:Int)≠(l.length:Int))=false:=Pt (by simp only [ne_eq,Decidable.not_not]; omega);rw [hd,cond_false];refine Ys (aT ⟨by omega,by omega⟩ (H6 (Gac (m:=l.length+12) (by omega) (by simp only [S6]; omega) ?_)));have ht:(((xs,ys):Ln J).1++((xs,ys):Ln J).2).take (l.length+12)=xs++ys:=List.take_of_length_le (by simp only [S6]; omega);rw [ht];refine Jw (fun _ _=>True) trivial (fun pre y post s nx e _ h0=>?_) (fun s _=>Gg);have hg:(xs++ys)[pre.length]? = some y:=by rw [e]; simp
 rcases Po pre.length l.length with h | h
 .rw [S1 (by omega)] at hg;rw [h1 pre.length y _ nx h hg (Pv h)];exact h0 _ trivial
 .rw [S0 (by omega)] at hg;have hp:pre.length < l.length+12:=by
   have:=congrArg List.length e;simp only [S6,S2] at this;omega
  have:=h2 (pre.length - l.length) y nx (by omega) (by rw [<- hx]; exact hg);rw [show l.length+(pre.length - l.length)=pre.length by omega] at this;rw [this];exact h0 _ trivial
theorem yB [DecidableEq J] [Inhabited J] {mk:Int->Option J} (h0:∀ i:Nat,i < 12->mk (i:Int)=some (mv i)) (hl:l.length<=1048576) :
  (bif decide ((((l,marks mv):Ln J).1.length:Int)≠(l.length:Int)) then some false else (chk ((l.length:Int)+12) fun v6=>bnd (oP v6 (((l,marks mv):Ln J).1++((l,marks mv):Ln J).2).length) fun m7=>
   each (fun y29 i29 (s29:Unit) nx29=>
    bnd (bif decide ((i29:Int) < (l.length:Int)) then Jk l (i29:Int) some else some default) fun y34=>
    bnd (bif ((!((decide ((i29:Int) < (l.length:Int)))&&(!(decide (y29=y34)))))&&(decide ((l.length:Int)<=(i29:Int)))) then chk ((i29:Int) - (l.length:Int)) some else some 0) fun v35=>
    bnd (bif ((!((decide ((i29:Int) < (l.length:Int)))&&(!(decide (y29=y34)))))&&(decide ((l.length:Int)<=(i29:Int)))) then mk v35 else some default) fun r36=>
    bif (((decide ((i29:Int) < (l.length:Int)))&&(!(decide (y29=y34))))||((decide ((l.length:Int)<=(i29:Int)))&&(!(decide (y29=r36))))) then (some false) else (nx29 ()))
   (fun(_:Unit)=>some true) ((((l,marks mv):Ln J).1++((l,marks mv):Ln J).2).take m7) 0 ()))=some true:=by
 refine Jdd h0 hl rfl G38 (fun i y z nx hi hy hz=>?_) (fun i y nx hi hy=>?_)
 .rw [hy] at hz;cases hz;have hg:Jk l (i:Int) some=some y:=by
   unfold Jk;rw [Ps (by omega:(0:Int)<=(i:Int)),cond_true,show (i:Int).toNat=i by omega,hy]; rfl
  rw [Ps (by omega:(i:Int) < (l.length:Int)),cond_true,hg];simp only [bnd,decide_true,Bool.not_true,Bool.and_false,Bool.not_false,Bool.true_and,Bool.false_or];rw [Pt (by omega:¬ (l.length:Int)<=(i:Int))];rfl
 .rw [Gde hi] at hy;cases hy;have hc:((l.length+i:Nat):Int) - (l.length:Int)=(i:Int):=by omega
  rw [Pt (by omega:¬ ((l.length+i:Nat):Int) < (l.length:Int)),cond_false,hc,Ps (by omega:(l.length:Int)<=((l.length+i:Nat):Int))];have hk:chk (i:Int) some=some (i:Int):=Ys (aT ⟨by omega,by omega⟩ Gg);simp only [bnd,Bool.false_and,Bool.not_false,Bool.and_self,cond_true,hk,h0 i hi,decide_true,Bool.not_true,Bool.and_false,Bool.or_self,cond_false]
theorem uB [Inhabited J] [Inhabited β] {mv:Nat->β} (h2:∀ i:Nat,i < 12->mk (i:Int)=some (mv i)) {lv of:β->J} {pl:J->β} {keep:J->β->Option Bool} {same:β->β->Option Bool} {l:List β} (hl:l.length<=1048576)
  (h0:∀ x∈l,keep (lv x) x=some true) (h1:∀ i:Nat,i < 12->same (pl (of (mv i))) (mv i)=some true) :
  (bif decide ((((l.map lv,(marks mv).map of):Ln J).1.length:Int)≠(l.length:Int)) then some false else (chk ((l.length:Int)+12) fun v6=>bnd (oP v6 (((l.map lv,(marks mv).map of):Ln J).1++((l.map lv,(marks mv).map of):Ln J).2).length) fun m7=>
   each (fun y33 i33 (s33:Unit) nx33=>
    bnd (bif decide ((i33:Int) < (l.length:Int)) then Jk l (i33:Int) some else some default) fun y38=>
    bnd (bif decide ((i33:Int) < (l.length:Int)) then keep y33 y38 else some default) fun r39=>
    bnd (bif ((!((decide ((i33:Int) < (l.length:Int)))&&(!r39)))&&(decide ((l.length:Int)<=(i33:Int)))) then chk ((i33:Int) - (l.length:Int)) some else some 0) fun v40=>
    bnd (bif ((!((decide ((i33:Int) < (l.length:Int)))&&(!r39)))&&(decide ((l.length:Int)<=(i33:Int)))) then mk v40 else some default) fun r41=>
    bnd (bif ((!((decide ((i33:Int) < (l.length:Int)))&&(!r39)))&&(decide ((l.length:Int)<=(i33:Int)))) then same (pl y33) r41 else some default) fun r42=>
    bif (((decide ((i33:Int) < (l.length:Int)))&&(!r39))||((decide ((l.length:Int)<=(i33:Int)))&&(!r42))) then (some false) else (nx33 ()))
   (fun(_:Unit)=>some true) ((((l.map lv,(marks mv).map of):Ln J).1++((l.map lv,(marks mv).map of):Ln J).2).take m7) 0 ()))=some true:=by
 refine Jdd h2 hl (by simp) (by simp [G38]) (fun i y z nx hi hy hz=>?_) (fun i y nx hi hy=>?_)
 .rw [S3,hz] at hy;cases hy;have hg:Jk l (i:Int) some=some z:=by
   unfold Jk;rw [Ps (by omega:(0:Int)<=(i:Int)),cond_true,show (i:Int).toNat=i by omega,hz]; rfl
  rw [Ps (by omega:(i:Int) < (l.length:Int)),cond_true,hg];simp only [bnd,cond_true,h0 z (Px hz),Bool.not_true,Bool.and_false,Bool.not_false,Bool.true_and,Bool.false_or];rw [Pt (by omega:¬ (l.length:Int)<=(i:Int))];rfl
 .rw [S3,Gde hi] at hy;cases hy;have hc:((l.length+i:Nat):Int) - (l.length:Int)=(i:Int):=by omega
  rw [Pt (by omega:¬ ((l.length+i:Nat):Int) < (l.length:Int)),cond_false,hc,Ps (by omega:(l.length:Int)<=((l.length+i:Nat):Int))];have hk:chk (i:Int) some=some (i:Int):=Ys (aT ⟨by omega,by omega⟩ Gg);simp only [bnd,cond_false,Bool.false_and,Bool.not_false,Bool.and_self,cond_true,hk,h2 i hi,h1 i hi,Bool.not_true,Bool.and_false,Bool.or_self]
theorem oK {body:J->Nat->Unit->(Unit->Option Bool)->Option Bool} (h:∀ (i:Nat) y nx,l[i]? = some y->body y i () nx=nx ()) :
  (bif decide ((l.length:Int)≠(l.length:Int)) then some false else each body (fun(_:Unit)=>some true) l 0 ())=some true:=by
 rw [Pt (by simp),cond_false];refine Ys (Jw (fun _ _=>True) trivial (fun pre y post s nx e _ h0=>?_) (fun s _=>Gg));rw [h pre.length y nx (by rw [e]; simp)];exact h0 _ trivial
theorem Qk {W:Type} {y:J} (h:l[i]? = some y) (k:J->Option W):Jk l (i:Int) k=k y:=by
 unfold Jk;rw [Ps (by omega:(0:Int)<=(i:Int)),cond_true,show (i:Int).toNat=i by omega,h]; rfl
end generic

def mkN (i:Nat):Int:=8000024+(i:Int)
theorem mark_eq (i:Nat) (h:i < 12):Hw 1 (i:Int)=some (mkN i):=by
 refine Ys ?_;unfold Hw mkN;exact aT ⟨by decide,by decide⟩ (aT ⟨by decide,by decide⟩ (aT ⟨by omega,by omega⟩ (Gg (by omega))))
theorem lQ (a:AE):Qj a a=some true:=by
 unfold Qj;exact oK (fun i y nx h=>by rw [Qk h]; simp)
theorem H2a (a:List Row):dQ a a=some true:=by
 unfold dQ;exact oK (fun i y nx h=>by rw [Qk h]; simp)
theorem G93 (a:List Frame):bR a a=some true:=by
 unfold bR;exact oK (fun i y nx h=>by rw [Qk h]; simp)
abbrev JJ:=mkN
theorem Ja3 (i:Nat) (h:i < 12):Hw 1 (i:Int)=some (JJ i):=mark_eq i h
theorem wL {l:AE} (hl:l.length<=1048576):Rz l=some (l,marks JJ):=by
 unfold Rz;exact yA Ja3 (by omega) hl
theorem wN {l:AE} (hl:l.length<=1048576):Jq (l,marks JJ) l=some true:=by
 unfold Jq;exact yB Ja3 hl
def G35 (i:Nat):Row:=(Ye 1 (i:Int)).getD default
theorem Q55 (i:Nat) (h:i < 12):Ye 1 (i:Int)=some (G35 i):=by
 unfold G35 Ye;rw [mark_eq i h]; rfl
theorem J30 {l:List Row} (hl:l.length<=1048576):dR l=some (l,marks G35):=by
 unfold dR;exact yA Q55 (by omega) hl
theorem J35 {l:List Row} (hl:l.length<=1048576):aO (l,marks G35) l=some true:=by
 unfold aO;exact yB Q55 hl
def xV (i:Nat):Frame:=(Rn 1 (i:Int)).getD default
theorem J0e (i:Nat) (h:i < 12):Rn 1 (i:Int)=some (xV i):=by
 unfold xV Rn;rw [mark_eq i h]; rfl
theorem H33 {l:List Frame} (hl:l.length<=1048576):bW l=some (l,marks xV):=by
 unfold bW;exact yA J0e (by omega) hl
theorem H38 {l:List Frame} (hl:l.length<=1048576):Ze (l,marks xV) l=some true:=by
 unfold Ze;exact yB J0e hl
def Ga6 (i:Nat):Box:=(Yf 1 (i:Int)).getD default
theorem Jd9 (i:Nat) (h:i < 12):Yf 1 (i:Int)=some (Ga6 i):=by
 unfold Ga6 Yf;rw [mark_eq i h]; rfl
theorem H94 {l:AK} (hl:l.length<=1048576):dB l=some (l,marks Ga6):=by
 unfold dB;exact yA Jd9 (by omega) hl
theorem H98 {l:AK} (hl:l.length<=1048576):dD (l,marks Ga6) l=some true:=by
 unfold dD;exact yB Jd9 hl
def tC (i:Nat):G2:=(Qx 1 (i:Int)).getD default
theorem G36 (i:Nat) (h:i < 12):Qx 1 (i:Int)=some (tC i):=by
 unfold tC Qx;rw [mark_eq i h]; rfl
theorem H04 {l:AG} (hl:l.length<=1048576):bF l=some (l,marks tC):=by
 unfold bF;exact yA G36 (by omega) hl
theorem H06 {l:AG} (hl:l.length<=1048576):Yz (l,marks tC) l=some true:=by
 unfold Yz;exact yB G36 hl
def Ga5 (i:Nat):Move:=(R9 1 (i:Int)).getD default
theorem Jd8 (i:Nat) (h:i < 12):R9 1 (i:Int)=some (Ga5 i):=by
 unfold Ga5 R9;rw [mark_eq i h]; rfl
theorem H92 {l:AH} (hl:l.length<=1048576):dA l=some (l,marks Ga5):=by
 unfold dA;exact yA Jd8 (by omega) hl
theorem H96 {l:AH} (hl:l.length<=1048576):dC (l,marks Ga5) l=some true:=by
 unfold dC;exact yB Jd8 hl
def pJ (i:Nat):G5:=(Rc 1 (i:Int)).getD default
theorem H53 (i:Nat) (h:i < 12):Rc 1 (i:Int)=some (pJ i):=by
 unfold pJ Rc;rw [mark_eq i h]; rfl
def iM (x:G5):H3:={ H3.of x with Plugs:=(x.Plugs,marks JJ) }
theorem H35 {x:G5} (h:x.Plugs.length<=1048576):Zd x=some (iM x):=by
 unfold Zd;rw [wL h]; rfl
theorem rK (a:G5):Q9 a a=some true:=by
 unfold Q9;simp [lQ,bnd]
theorem H3a {x:G5} (h:x.Plugs.length<=1048576):Y8 (iM x) x=some true:=by
 have e1:Q9 (H3.pl (iM x)) x=some true:=rK x;have e2:Jq (iM x).Plugs x.Plugs=some true:=wN h;unfold Y8;show bnd (Q9 (H3.pl (iM x)) x) (fun r3=>bnd (bif r3 then Jq (iM x).Plugs x.Plugs else some default) fun r4=>some (r3&&r4))=some true
 rw [e1,pP,cond_true,e2,pP]; rfl
theorem H05 {l:List G5} (hl:l.length<=1048576) (h:∀ x∈l,x.Plugs.length<=1048576):Yy l=some (l.map iM,(marks pJ).map H3.of):=by
 unfold Yy;exact tY H3.of H53 (by omega) (fun x hx=>H35 (h x hx)) hl
theorem G43 (a:List G5):bE a a=some true:=by
 unfold bE;exact oK (fun i y nx h=>by rw [Qk h,rK]; rfl)
theorem H07 {l:List G5} (hl:l.length<=1048576) (h:∀ x∈l,x.Plugs.length<=1048576):Z0 (l.map iM,(marks pJ).map H3.of) l=some true:=by
 unfold Z0;exact uB (keep:=Y8) (same:=Q9) (pl:=H3.pl) H53 hl (fun x hx=>H3a (h x hx)) (fun i hi=>rK (pJ i))
theorem Q0c (l:List G5):(l.map iM).map H3.pl=l:=by
 rw [List.map_map];exact(List.map_congr_left (fun x _=>rfl)).trans (List.map_id l)
def tT (i:Nat):Gv:=(Ro 1 (i:Int)).getD default
theorem J0f (i:Nat) (h:i < 12):Ro 1 (i:Int)=some (tT i):=by
 unfold tT Ro;rw [mark_eq i h]; rfl
def mI (x:Gv):Hi:={ Hi.of x with Rows:=(x.Rows,marks JJ) }
theorem H93 {x:Gv} (h:x.Rows.length<=1048576):Zx x=some (mI x):=by
 unfold Zx;rw [wL h]; rfl
theorem uK (a:Gv):Qd a a=some true:=by
 unfold Qd;simp [lQ,bnd]
theorem H97 {x:Gv} (h:x.Rows.length<=1048576):Yo (mI x) x=some true:=by
 have e1:Qd (Hi.pl (mI x)) x=some true:=uK x;have e2:Jq (mI x).Rows x.Rows=some true:=wN h;unfold Yo;show bnd (Qd (Hi.pl (mI x)) x) (fun r3=>bnd (bif r3 then Jq (mI x).Rows x.Rows else some default) fun r4=>some (r3&&r4))=some true
 rw [e1,pP,cond_true,e2,pP]; rfl
theorem H34 {l:List Gv} (hl:l.length<=1048576) (h:∀ x∈l,x.Rows.length<=1048576):Zc l=some (l.map mI,(marks tT).map Hi.of):=by
 unfold Zc;exact tY Hi.of J0f (by omega) (fun x hx=>H93 (h x hx)) hl
theorem G94 (a:List Gv):bS a a=some true:=by
 unfold bS;exact oK (fun i y nx h=>by rw [Qk h,uK]; rfl)
theorem H39 {l:List Gv} (hl:l.length<=1048576) (h:∀ x∈l,x.Rows.length<=1048576):Zf (l.map mI,(marks tT).map Hi.of) l=some true:=by
 unfold Zf;exact uB (keep:=Yo) (same:=Qd) (pl:=Hi.pl) J0f hl (fun x hx=>H97 (h x hx)) (fun i hi=>uK (tT i))
theorem Q4e (l:List Gv):(l.map mI).map Hi.pl=l:=by
 rw [List.map_map];exact(List.map_congr_left (fun x _=>rfl)).trans (List.map_id l)
def zW (i:Nat):Hz:=(Rx 1 (i:Int)).getD default
theorem Jd7 (i:Nat) (h:i < 12):Rx 1 (i:Int)=some (zW i):=by
 unfold zW Rx;rw [mark_eq i h]; rfl
def rF (x:Hz):J2:={ J2.of x with Steps:=(x.Steps,marks JJ) }
theorem J2e {x:Hz} (h:x.Steps.length<=1048576):aK x=some (rF x):=by
 unfold aK;rw [wL h]; rfl
theorem xA (a:Hz):Qi a a=some true:=by
 unfold Qi;simp [lQ,bnd]
theorem J33 {x:Hz} (h:x.Steps.length<=1048576):Yu (rF x) x=some true:=by
 have e1:Qi (J2.pl (rF x)) x=some true:=xA x;have e2:Jq (rF x).Steps x.Steps=some true:=wN h;unfold Yu;show bnd (Qi (J2.pl (rF x)) x) (fun r3=>bnd (bif r3 then Jq (rF x).Steps x.Steps else some default) fun r4=>some (r3&&r4))=some true
 rw [e1,pP,cond_true,e2,pP]; rfl
theorem H91 {l:List Hz} (hl:l.length<=1048576) (h:∀ x∈l,x.Steps.length<=1048576):Zw l=some (l.map rF,(marks zW).map J2.of):=by
 unfold Zw;exact tY J2.of Jd7 (by omega) (fun x hx=>J2e (h x hx)) hl
theorem Gf5 (a:List Hz):cY a a=some true:=by
 unfold cY;exact oK (fun i y nx h=>by rw [Qk h,xA]; rfl)
theorem H95 {l:List Hz} (hl:l.length<=1048576) (h:∀ x∈l,x.Steps.length<=1048576):Zy (l.map rF,(marks zW).map J2.of) l=some true:=by
 unfold Zy;exact uB (keep:=Yu) (same:=Qi) (pl:=J2.pl) Jd7 hl (fun x hx=>J33 (h x hx)) (fun i hi=>xA (zW i))
theorem Qa6 (l:List Hz):(l.map rF).map J2.pl=l:=by
 rw [List.map_map];exact(List.map_congr_left (fun x _=>rfl)).trans (List.map_id l)
structure pQ (s:Ge):Prop where
 cols:s.Columns.length<=1048576
 plugs:∀ c∈s.Columns,c.Plugs.length<=1048576
 covs:s.Covers.length<=1048576
 crows:∀ x∈s.Covers,x.Rows.length<=1048576
 rows:s.Rows.length<=1048576
 frames:s.Frames.length<=1048576
 tanks:s.Tanks.length<=1048576
 steps:∀ x∈s.Tanks,x.Steps.length<=1048576
def wU (s:Ge):Rs:=⟨(s.Columns.map iM,(marks pJ).map H3.of),(s.Covers.map mI,(marks tT).map Hi.of),s.Light,(s.Rows,marks G35),(s.Frames,marks xV),(s.Tanks.map rF,(marks zW).map J2.of),s.Gj⟩
theorem J2f {s:Ge} (h:pQ s):aL s=some (wU s):=by
 unfold aL;rw [H05 h.cols h.plugs,H34 h.covs h.crows,J30 h.rows,H33 h.frames,H91 h.tanks h.steps];rfl
theorem Ja0 (s:Ge):Ge.mk ((wU s).Columns.1.map H3.pl) ((wU s).Covers.1.map Hi.pl) (wU s).Light (wU s).Rows.1 (wU s).Frames.1 ((wU s).Tanks.1.map J2.pl) (wU s).Gj=s:=by
 show Ge.mk ((s.Columns.map iM).map H3.pl) ((s.Covers.map mI).map Hi.pl) s.Light s.Rows s.Frames ((s.Tanks.map rF).map J2.pl) s.Gj=s
 rw [Q0c,Q4e,Qa6]
theorem H29 (s:Ge):aI s s=some true:=by
 unfold aI;simp [G43,G94,H2a,G93,Gf5,bnd]
theorem J34 {s:Ge} (h:pQ s):aN (wU s) s=some true:=by
 have e1:=H07 h.cols h.plugs;have e2:=H39 h.covs h.crows;have e3:=J35 h.rows;have e4:=H38 h.frames;have e5:=H95 h.tanks h.steps;unfold aN;rw [Ja0,H29,pP,cond_true];show bnd (Z0 (s.Columns.map iM,(marks pJ).map H3.of) s.Columns) _=_
 rw [e1,pP,Bool.and_self,cond_true];show bnd (Zf (s.Covers.map mI,(marks tT).map Hi.of) s.Covers) _=_
 rw [e2,pP,Bool.and_self,cond_true];show bnd (aO (s.Rows,marks G35) s.Rows) _=_
 rw [e3,pP,Bool.and_self,cond_true];show bnd (Ze (s.Frames,marks xV) s.Frames) _=_
 rw [e4,pP,Bool.and_self,cond_true];show bnd (Zy (s.Tanks.map rF,(marks zW).map J2.of) s.Tanks) _=_
 rw [e5,pP];rfl
end Go.Proofs.YtkiekighbhnolaaGreat
