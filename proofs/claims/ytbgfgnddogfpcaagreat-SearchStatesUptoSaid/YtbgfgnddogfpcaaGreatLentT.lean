/- What the functions return that lend and check arguments. -/
import Derived.Test.YtbgfgnddogfpcaaGreatXL
set_option maxRecDepth 100000
set_option linter.unusedVariables false
namespace Go.Proofs.YtbgfgnddogfpcaaGreat
open Go.RowKit
variable {n:Nat}
theorem J2f {k:Nat} (hn:n<=10000001) (hk:k<=1000):decide (n*k<=140737488355328/\n<=maxLen)=true:=by
 refine P8 ⟨?_,by unfold maxLen; omega⟩;exact Nat.le_trans (Nat.mul_le_mul hn hk) (by omega)
theorem Q68 {k:Nat} (hn:n<=10000001) (hk:k<=1000):decide (k*n<=281474976710656/\n<=maxLen)=true:=by
 refine P8 ⟨?_,by unfold maxLen; omega⟩;exact Nat.le_trans (Nat.mul_le_mul hk hn) (by omega)
theorem Jb5 {z:Int} (h:z=(n:Int)):mH z=some n:=by
 subst h;unfold mH;rw [P8 (by omega:(0:Int)<=(n:Int))];simp
section generic
variable {W U:Type}
theorem RV {x:W} {k:W->Option U}:bnd (some x) k=k x:=rfl
def marks (mv:Nat->W):List W:=(List.range 12).map mv
variable {i:Nat} {mv:Nat->W}
theorem G56 (h:i < 12):(marks mv)[i]? = some (mv i):=by
 unfold marks;rw [Pj,List.getElem?_range h]; rfl
theorem RL:(marks mv).length=12:=by simp [marks]
theorem J0a (h:i < 12):(marks mv).take (i+1)=(marks mv).take i++[mv i]:=by
 rw [List.take_add_one,G56 h]; rfl
variable {mk:Int->Option U} {by_:Nat}
theorem H7f {mv:Nat->U} (of:U->W) (h0:∀ i:Nat,i < 12->mk (i:Int)=some (mv i)) (h1:by_<=1000) {n:Nat} {s0:List W} (hn:s0.length=n) (hl:n<=1048576) :
  (need (decide ((12:Int)<=9223372036854775807)) <| upto (fun i (s:List W) nx=>bnd (mk (i:Int)) fun r=>need (decide ((s.length+[of r].length)*by_<=140737488355328/\s.length+[of r].length<=maxLen)) <| nx (s++[of r])) (fun s=>bnd (fC (n:Int) s.length) fun m=>some (s.take m,s.drop m)) (12:Int).toNat 0 s0)=some (s0,(marks mv).map of):=by
 refine Zs (Yt rfl ?_);refine HR (fun i s=>s=s0++((marks mv).map of).take i) (by simp) (fun i s nx hi hI h2=>?_) (fun s hI=>?_)
 .have hi:i < 12:=hi;subst hI;have h4:(s0++((marks mv).map of).take i).length<=n+12:=by
   rw [Pn,List.length_take]; omega
  refine H2 (h0 i hi) (Yt (J2f (by rw [Po]; omega) h1) (h2 _ ?_));rw [<- List.map_take,<- List.map_take,J0a hi,List.map_append,List.append_assoc];rfl
 .have h3:(12:Int).toNat=12:=rfl;rw [h3,List.take_of_length_le (by rw [Pr,RL]; omega)] at hI;subst hI;refine Hq (HS (m:=n) rfl (by rw [Pn]; omega) (Gt ?_));rw [<- hn,List.take_left,List.drop_left]
variable {l:List W}
theorem JS {mk:Int->Option W} (h1:∀ i:Nat,i < 12->mk (i:Int)=some (mv i)) (h0:by_<=1000) (hl:l.length<=1048576) :
  (chk ((l.length:Int)+12) fun v3=>bnd (mH v3) fun m4=>need (decide (by_*m4<=281474976710656/\m4<=maxLen)) <| need (decide ((([]:List W).length+l.length)*by_<=140737488355328/\([]:List W).length+l.length<=maxLen)) <|
   need (decide ((12:Int)<=9223372036854775807)) <| upto (fun i (s:List W) nx=>bnd (mk (i:Int)) fun r=>need (decide ((s.length+[r].length)*by_<=140737488355328/\s.length+[r].length<=maxLen)) <| nx (s++[r])) (fun s=>bnd (fC (l.length:Int) s.length) fun m=>some (s.take m,s.drop m)) (12:Int).toNat 0 (([]:List W)++l))=some (l,marks mv):=by
 refine Zs (bW ⟨by omega,by omega⟩ (H2 (Jb5 (n:=l.length+12) (by omega)) (Yt (Q68 (by omega) h0) (Yt (J2f (by rw [List.length_nil]; omega) h0) ⟨_,H7f (fun x=>x) h1 h0 (s0:=([]:List W)++l) (n:=l.length) (by simp) hl,?_⟩))));rw [List.map_id'',List.nil_append];exact fun _=>rfl
theorem HB {lx:U->Option W} {lv:U->W} {mv:Nat->U} (of:U->W) (h1:∀ i:Nat,i < 12->mk (i:Int)=some (mv i)) (h0:by_<=1000) {l:List U} (h2:∀ x∈l,lx x=some (lv x)) (hl:l.length<=1048576) :
  (chk ((l.length:Int)+12) fun v3=>bnd (mH v3) fun m4=>need (decide (by_*m4<=281474976710656/\m4<=maxLen)) <|
   each (fun y (i:Nat) (s:List W) nx=>bnd (lx y) fun r=>need (decide ((s.length+[r].length)*by_<=140737488355328/\s.length+[r].length<=maxLen)) <| nx (s++[r]))
   (fun(s0:List W)=>need (decide ((12:Int)<=9223372036854775807)) <| upto (fun i (s:List W) nx=>bnd (mk (i:Int)) fun r=>need (decide ((s.length+[of r].length)*by_<=140737488355328/\s.length+[of r].length<=maxLen)) <| nx (s++[of r])) (fun s=>bnd (fC (l.length:Int) s.length) fun m=>some (s.take m,s.drop m)) (12:Int).toNat 0 s0) l 0 [])=some (l.map lv,(marks mv).map of):=by
 refine Zs (bW ⟨by omega,by omega⟩ (H2 (Jb5 (n:=l.length+12) (by omega)) (Yt (Q68 (by omega) h0) ?_)));refine Q6 (fun pre s=>s=pre.map lv) rfl (fun pre y post s nx e hI h3=>?_) (fun s hI=>?_)
 .subst hI;have hp:pre.length < l.length:=by rw [e]; simp
  refine H2 (h2 y (by rw [e]; simp)) (Yt (J2f (by rw [Po,Pr]; omega) h0) (h3 _ ?_));rw [List.map_append]; rfl
 .subst hI;exact⟨_,H7f of h1 h0 (by simp) hl,rfl⟩
theorem J3f [Inhabited W] [Inhabited U] {mv:Nat->U} (h3:∀ i:Nat,i < 12->mk (i:Int)=some (mv i)) {l:List U} (hl:l.length<=1048576) {xs:List W} {ys:List W} (hx:xs.length=l.length) (hy:ys.length=12)
  {body:W->Nat->Unit->(Unit->Option Bool)->Option Bool}
  (h1:∀ (i:Nat) y z nx,i < l.length->xs[i]? = some y->l[i]? = some z->body y i () nx=nx ())
  (h2:∀ (i:Nat) y nx,i < 12->ys[i]? = some y->body y (l.length+i) () nx=nx ()) :
  (bif decide ((((xs,ys):Ln W).1.length:Int)≠(l.length:Int)) then some false else (chk ((l.length:Int)+12) fun v6=>bnd (fC v6 (((xs,ys):Ln W).1++((xs,ys):Ln W).2).length) fun m7=>each body (fun(_:Unit)=>some true) ((((xs,ys):Ln W).1++((xs,ys):Ln W).2).take m7) 0 ()))=some true:=by
 have hd:decide ((((xs,ys):Ln W).1.length:Int)≠(l.length:Int))=false:=P9 (by simp only [ne_eq,Decidable.not_not]; omega);rw [hd,cond_false];refine Zs (bW ⟨by omega,by omega⟩ (Hq (HS (m:=l.length+12) (by omega) (by simp only [Pn]; omega) ?_)));have ht:(((xs,ys):Ln W).1++((xs,ys):Ln W).2).take (l.length+12)=xs++ys:=List.take_of_length_le (by simp only [Pn]; omega);rw [ht];refine Q6 (fun _ _=>True) trivial (fun pre y post s nx e _ h0=>?_) (fun s _=>Gt);have hg:(xs++ys)[pre.length]? = some y:=by rw [e]; simp
 rcases P4 pre.length l.length with h | h
 .rw [Ph (by omega)] at hg;rw [h1 pre.length y _ nx h hg (Pb h)];exact h0 _ trivial
 .rw [Pg (by omega)] at hg;have hp:pre.length < l.length+12:=by
   have:=congrArg List.length e;simp only [Pn,Pi] at this;omega
  have:=h2 (pre.length - l.length) y nx (by omega) (by rw [<- hx]; exact hg);rw [show l.length+(pre.length - l.length)=pre.length by omega] at this;rw [this];exact h0 _ trivial
theorem JT [DecidableEq W] [Inhabited W] {mk:Int->Option W} (h0:∀ i:Nat,i < 12->mk (i:Int)=some (mv i)) (hl:l.length<=1048576) :
  (bif decide ((((l,marks mv):Ln W).1.length:Int)≠(l.length:Int)) then some false else (chk ((l.length:Int)+12) fun v6=>bnd (fC v6 (((l,marks mv):Ln W).1++((l,marks mv):Ln W).2).length) fun m7=>
   each (fun y29 i29 (s29:Unit) nx29=>
    bnd (bif decide ((i29:Int) < (l.length:Int)) then Jw l (i29:Int) some else some default) fun y34=>
    bnd (bif ((!((decide ((i29:Int) < (l.length:Int)))&&(!(decide (y29=y34)))))&&(decide ((l.length:Int)<=(i29:Int)))) then chk ((i29:Int) - (l.length:Int)) some else some 0) fun v35=>
    bnd (bif ((!((decide ((i29:Int) < (l.length:Int)))&&(!(decide (y29=y34)))))&&(decide ((l.length:Int)<=(i29:Int)))) then mk v35 else some default) fun r36=>
    bif (((decide ((i29:Int) < (l.length:Int)))&&(!(decide (y29=y34))))||((decide ((l.length:Int)<=(i29:Int)))&&(!(decide (y29=r36))))) then (some false) else (nx29 ()))
   (fun(_:Unit)=>some true) ((((l,marks mv):Ln W).1++((l,marks mv):Ln W).2).take m7) 0 ()))=some true:=by
 refine J3f h0 hl rfl RL (fun i y z nx hi hy hz=>?_) (fun i y nx hi hy=>?_)
 .rw [hy] at hz;cases hz;have hg:Jw l (i:Int) some=some y:=by
   unfold Jw;rw [P8 (by omega:(0:Int)<=(i:Int)),cond_true,show (i:Int).toNat=i by omega,hy]; rfl
  rw [P8 (by omega:(i:Int) < (l.length:Int)),cond_true,hg];simp only [bnd,decide_true,Bool.not_true,Bool.and_false,Bool.not_false,Bool.true_and,Bool.false_or];rw [P9 (by omega:¬ (l.length:Int)<=(i:Int))];rfl
 .rw [G56 hi] at hy;cases hy;have hc:((l.length+i:Nat):Int) - (l.length:Int)=(i:Int):=by omega
  rw [P9 (by omega:¬ ((l.length+i:Nat):Int) < (l.length:Int)),cond_false,hc,P8 (by omega:(l.length:Int)<=((l.length+i:Nat):Int))];have hk:chk (i:Int) some=some (i:Int):=Zs (bW ⟨by omega,by omega⟩ Gt);simp only [bnd,Bool.false_and,Bool.not_false,Bool.and_self,cond_true,hk,h0 i hi,decide_true,Bool.not_true,Bool.and_false,Bool.or_self,cond_false]
theorem HD [Inhabited W] [Inhabited U] {mv:Nat->U} (h2:∀ i:Nat,i < 12->mk (i:Int)=some (mv i)) {lv of:U->W} {pl:W->U} {keep:W->U->Option Bool} {same:U->U->Option Bool} {l:List U} (hl:l.length<=1048576)
  (h0:∀ x∈l,keep (lv x) x=some true) (h1:∀ i:Nat,i < 12->same (pl (of (mv i))) (mv i)=some true) :
  (bif decide ((((l.map lv,(marks mv).map of):Ln W).1.length:Int)≠(l.length:Int)) then some false else (chk ((l.length:Int)+12) fun v6=>bnd (fC v6 (((l.map lv,(marks mv).map of):Ln W).1++((l.map lv,(marks mv).map of):Ln W).2).length) fun m7=>
   each (fun y33 i33 (s33:Unit) nx33=>
    bnd (bif decide ((i33:Int) < (l.length:Int)) then Jw l (i33:Int) some else some default) fun y38=>
    bnd (bif decide ((i33:Int) < (l.length:Int)) then keep y33 y38 else some default) fun r39=>
    bnd (bif ((!((decide ((i33:Int) < (l.length:Int)))&&(!r39)))&&(decide ((l.length:Int)<=(i33:Int)))) then chk ((i33:Int) - (l.length:Int)) some else some 0) fun v40=>
    bnd (bif ((!((decide ((i33:Int) < (l.length:Int)))&&(!r39)))&&(decide ((l.length:Int)<=(i33:Int)))) then mk v40 else some default) fun r41=>
    bnd (bif ((!((decide ((i33:Int) < (l.length:Int)))&&(!r39)))&&(decide ((l.length:Int)<=(i33:Int)))) then same (pl y33) r41 else some default) fun r42=>
    bif (((decide ((i33:Int) < (l.length:Int)))&&(!r39))||((decide ((l.length:Int)<=(i33:Int)))&&(!r42))) then (some false) else (nx33 ()))
   (fun(_:Unit)=>some true) ((((l.map lv,(marks mv).map of):Ln W).1++((l.map lv,(marks mv).map of):Ln W).2).take m7) 0 ()))=some true:=by
 refine J3f h2 hl (by simp) (by simp [RL]) (fun i y z nx hi hy hz=>?_) (fun i y nx hi hy=>?_)
 .rw [Pj,hz] at hy;cases hy;have hg:Jw l (i:Int) some=some z:=by
   unfold Jw;rw [P8 (by omega:(0:Int)<=(i:Int)),cond_true,show (i:Int).toNat=i by omega,hz]; rfl
  rw [P8 (by omega:(i:Int) < (l.length:Int)),cond_true,hg];simp only [bnd,cond_true,h0 z (Pd hz),Bool.not_true,Bool.and_false,Bool.not_false,Bool.true_and,Bool.false_or];rw [P9 (by omega:¬ (l.length:Int)<=(i:Int))];rfl
 .rw [Pj,G56 hi] at hy;cases hy;have hc:((l.length+i:Nat):Int) - (l.length:Int)=(i:Int):=by omega
  rw [P9 (by omega:¬ ((l.length+i:Nat):Int) < (l.length:Int)),cond_false,hc,P8 (by omega:(l.length:Int)<=((l.length+i:Nat):Int))];have hk:chk (i:Int) some=some (i:Int):=Zs (bW ⟨by omega,by omega⟩ Gt);simp only [bnd,cond_false,Bool.false_and,Bool.not_false,Bool.and_self,cond_true,hk,h2 i hi,h1 i hi,Bool.not_true,Bool.and_false,Bool.or_self]
theorem sC {body:W->Nat->Unit->(Unit->Option Bool)->Option Bool} (h:∀ (i:Nat) y nx,l[i]? = some y->body y i () nx=nx ()) :
  (bif decide ((l.length:Int)≠(l.length:Int)) then some false else each body (fun(_:Unit)=>some true) l 0 ())=some true:=by
 rw [P9 (by simp),cond_false];refine Zs (Q6 (fun _ _=>True) trivial (fun pre y post s nx e _ h0=>?_) (fun s _=>Gt));rw [h pre.length y nx (by rw [e]; simp)];exact h0 _ trivial
theorem Zu {B:Type} {y:W} (h:l[i]? = some y) (k:W->Option B):Jw l (i:Int) k=k y:=by
 unfold Jw;rw [P8 (by omega:(0:Int)<=(i:Int)),cond_true,show (i:Int).toNat=i by omega,h]; rfl
end generic
def mkN (i:Nat):Int:=8000024+(i:Int)
theorem mark_eq (i:Nat) (h:i < 12):Hr 1 (i:Int)=some (mkN i):=by
 refine Zs ?_;unfold Hr mkN;exact bW ⟨by decide,by decide⟩ (bW ⟨by decide,by decide⟩ (bW ⟨by omega,by omega⟩ (Gt (by omega))))
theorem tH (a:AE):Qv a a=some true:=by
 unfold Qv;exact sC (fun i y nx h=>by rw [Zu h]; simp)
theorem Gac (a:List Row):Zi a a=some true:=by
 unfold Zi;exact sC (fun i y nx h=>by rw [Zu h]; simp)
theorem G0d (a:List Frame):Ym a a=some true:=by
 unfold Ym;exact sC (fun i y nx h=>by rw [Zu h]; simp)
abbrev RK:=mkN
theorem Jb7 (i:Nat) (h:i < 12):Hr 1 (i:Int)=some (RK i):=mark_eq i h
theorem sQ {l:AE} (hl:l.length<=1048576):Qw l=some (l,marks RK):=by
 unfold Qw;exact JS Jb7 (by omega) hl
theorem sS {l:AE} (hl:l.length<=1048576):Jg (l,marks RK) l=some true:=by
 unfold Jg;exact JT Jb7 hl
def RJ (i:Nat):Row:=(Y0 1 (i:Int)).getD default
theorem Jb6 (i:Nat) (h:i < 12):Y0 1 (i:Int)=some (RJ i):=by
 unfold RJ Y0;rw [mark_eq i h]; rfl
theorem H96 {l:List Row} (hl:l.length<=1048576):Zm l=some (l,marks RJ):=by
 unfold Zm;exact JS Jb6 (by omega) hl
theorem H99 {l:List Row} (hl:l.length<=1048576):Yc (l,marks RJ) l=some true:=by
 unfold Yc;exact JT Jb6 hl
def uA (i:Nat):Frame:=(R9 1 (i:Int)).getD default
theorem H77 (i:Nat) (h:i < 12):R9 1 (i:Int)=some (uA i):=by
 unfold uA R9;rw [mark_eq i h]; rfl
theorem Gb2 {l:List Frame} (hl:l.length<=1048576):Yo l=some (l,marks uA):=by
 unfold Yo;exact JS H77 (by omega) hl
theorem Gb5 {l:List Frame} (hl:l.length<=1048576):Rs (l,marks uA) l=some true:=by
 unfold Rs;exact JT H77 hl
def G1b (i:Nat):Box:=(Y1 1 (i:Int)).getD default
theorem J3b (i:Nat) (h:i < 12):Y1 1 (i:Int)=some (G1b i):=by
 unfold G1b Y1;rw [mark_eq i h]; rfl
theorem H15 {l:AH} (hl:l.length<=1048576):Z6 l=some (l,marks G1b):=by
 unfold Z6;exact JS J3b (by omega) hl
theorem H18 {l:AH} (hl:l.length<=1048576):Z7 (l,marks G1b) l=some true:=by
 unfold Z7;exact JT J3b hl
def mR (i:Nat):G5:=(R2 1 (i:Int)).getD default
theorem Gd1 (i:Nat) (h:i < 12):R2 1 (i:Int)=some (mR i):=by
 unfold mR R2;rw [mark_eq i h]; rfl
def fX (x:G5):H1:={ H1.of x with Plugs:=(x.Plugs,marks RK) }
theorem Gb4 {x:G5} (h:x.Plugs.length<=1048576):Yq x=some (fX x):=by
 unfold Yq;rw [sQ h]; rfl
theorem oH (a:G5):Jz a a=some true:=by
 unfold Jz;simp [tH,bnd]
theorem Gb7 {x:G5} (h:x.Plugs.length<=1048576):Ru (fX x) x=some true:=by
 have e1:Jz (H1.pl (fX x)) x=some true:=oH x;have e2:Jg (fX x).Plugs x.Plugs=some true:=sS h;unfold Ru;show bnd (Jz (H1.pl (fX x)) x) (fun r3=>bnd (bif r3 then Jg (fX x).Plugs x.Plugs else some default) fun r4=>some (r3&&r4))=some true
 rw [e1,RV,cond_true,e2,RV]; rfl
theorem G7c {l:List G5} (hl:l.length<=1048576) (h:∀ x∈l,x.Plugs.length<=1048576):Yh l=some (l.map fX,(marks mR).map H1.of):=by
 unfold Yh;exact HB H1.of Gd1 (by omega) (fun x hx=>Gb4 (h x hx)) hl
theorem YA (a:List G5):Yg a a=some true:=by
 unfold Yg;exact sC (fun i y nx h=>by rw [Zu h,oH]; rfl)
theorem G7e {l:List G5} (hl:l.length<=1048576) (h:∀ x∈l,x.Plugs.length<=1048576):Ri (l.map fX,(marks mR).map H1.of) l=some true:=by
 unfold Ri;exact HD (keep:=Ru) (same:=Jz) (pl:=H1.pl) Gd1 hl (fun x hx=>Gb7 (h x hx)) (fun i hi=>oH (mR i))
theorem J6d (l:List G5):(l.map fX).map H1.pl=l:=by
 rw [List.map_map];exact(List.map_congr_left (fun x _=>rfl)).trans (List.map_id l)
def qC (i:Nat):H3:=(Ra 1 (i:Int)).getD default
theorem H78 (i:Nat) (h:i < 12):Ra 1 (i:Int)=some (qC i):=by
 unfold qC Ra;rw [mark_eq i h]; rfl
def kF (x:H3):Hd:={ Hd.of x with Rows:=(x.Rows,marks RK) }
theorem H14 {x:H3} (h:x.Rows.length<=1048576):Z5 x=some (kF x):=by
 unfold Z5;rw [sQ h]; rfl
theorem qN (a:H3):Q5 a a=some true:=by
 unfold Q5;simp [tH,bnd]
theorem H17 {x:H3} (h:x.Rows.length<=1048576):Y6 (kF x) x=some true:=by
 have e1:Q5 (Hd.pl (kF x)) x=some true:=qN x;have e2:Jg (kF x).Rows x.Rows=some true:=sS h;unfold Y6;show bnd (Q5 (Hd.pl (kF x)) x) (fun r3=>bnd (bif r3 then Jg (kF x).Rows x.Rows else some default) fun r4=>some (r3&&r4))=some true
 rw [e1,RV,cond_true,e2,RV]; rfl
theorem Gb3 {l:List H3} (hl:l.length<=1048576) (h:∀ x∈l,x.Rows.length<=1048576):Yp l=some (l.map kF,(marks qC).map Hd.of):=by
 unfold Yp;exact HB Hd.of H78 (by omega) (fun x hx=>H14 (h x hx)) hl
theorem G0e (a:List H3):Yn a a=some true:=by
 unfold Yn;exact sC (fun i y nx h=>by rw [Zu h,qN]; rfl)
theorem Gb6 {l:List H3} (hl:l.length<=1048576) (h:∀ x∈l,x.Rows.length<=1048576):Rt (l.map kF,(marks qC).map Hd.of) l=some true:=by
 unfold Rt;exact HD (keep:=Y6) (same:=Q5) (pl:=Hd.pl) H78 hl (fun x hx=>H17 (h x hx)) (fun i hi=>qN (qC i))
theorem Jb1 (l:List H3):(l.map kF).map Hd.pl=l:=by
 rw [List.map_map];exact(List.map_congr_left (fun x _=>rfl)).trans (List.map_id l)
def vO (i:Nat):Hf:=(Rg 1 (i:Int)).getD default
theorem J3a (i:Nat) (h:i < 12):Rg 1 (i:Int)=some (vO i):=by
 unfold vO Rg;rw [mark_eq i h]; rfl
def oF (x:Hf):Hu:={ Hu.of x with Steps:=(x.Steps,marks RK) }
theorem H94 {x:Hf} (h:x.Steps.length<=1048576):Zj x=some (oF x):=by
 unfold Zj;rw [sQ h]; rfl
theorem tG (a:Hf):Q9 a a=some true:=by
 unfold Q9;simp [tH,bnd]
theorem H97 {x:Hf} (h:x.Steps.length<=1048576):Yb (oF x) x=some true:=by
 have e1:Q9 (Hu.pl (oF x)) x=some true:=tG x;have e2:Jg (oF x).Steps x.Steps=some true:=sS h;unfold Yb;show bnd (Q9 (Hu.pl (oF x)) x) (fun r3=>bnd (bif r3 then Jg (oF x).Steps x.Steps else some default) fun r4=>some (r3&&r4))=some true
 rw [e1,RV,cond_true,e2,RV]; rfl
theorem H13 {l:List Hf} (hl:l.length<=1048576) (h:∀ x∈l,x.Steps.length<=1048576):Z4 l=some (l.map oF,(marks vO).map Hu.of):=by
 unfold Z4;exact HB Hu.of J3a (by omega) (fun x hx=>H94 (h x hx)) hl
theorem G71 (a:List Hf):Z3 a a=some true:=by
 unfold Z3;exact sC (fun i y nx h=>by rw [Zu h,tG]; rfl)
theorem H16 {l:List Hf} (hl:l.length<=1048576) (h:∀ x∈l,x.Steps.length<=1048576):Y5 (l.map oF,(marks vO).map Hu.of) l=some true:=by
 unfold Y5;exact HD (keep:=Yb) (same:=Q9) (pl:=Hu.pl) J3a hl (fun x hx=>H97 (h x hx)) (fun i hi=>tG (vO i))
theorem Q1f (l:List Hf):(l.map oF).map Hu.pl=l:=by
 rw [List.map_map];exact(List.map_congr_left (fun x _=>rfl)).trans (List.map_id l)
structure pO (s:Gf):Prop where
 cols:s.Columns.length<=1048576
 plugs:∀ c∈s.Columns,c.Plugs.length<=1048576
 covs:s.Covers.length<=1048576
 crows:∀ x∈s.Covers,x.Rows.length<=1048576
 rows:s.Rows.length<=1048576
 frames:s.Frames.length<=1048576
 tanks:s.Tanks.length<=1048576
 steps:∀ x∈s.Tanks,x.Steps.length<=1048576
def vQ (s:Gf):Yv:=⟨(s.Columns.map fX,(marks mR).map H1.of),(s.Covers.map kF,(marks qC).map Hd.of),s.Light,(s.Rows,marks RJ),(s.Frames,marks uA),(s.Tanks.map oF,(marks vO).map Hu.of),s.Gk⟩
theorem H95 {s:Gf} (h:pO s):Zk s=some (vQ s):=by
 unfold Zk;rw [G7c h.cols h.plugs,Gb3 h.covs h.crows,H96 h.rows,Gb2 h.frames,H13 h.tanks h.steps];rfl
theorem Jb0 (s:Gf):Gf.mk ((vQ s).Columns.1.map H1.pl) ((vQ s).Covers.1.map Hd.pl) (vQ s).Light (vQ s).Rows.1 (vQ s).Frames.1 ((vQ s).Tanks.1.map Hu.pl) (vQ s).Gk=s:=by
 show Gf.mk ((s.Columns.map fX).map H1.pl) ((s.Covers.map kF).map Hd.pl) s.Light s.Rows s.Frames ((s.Tanks.map oF).map Hu.pl) s.Gk=s
 rw [J6d,Jb1,Q1f]
theorem Gab (s:Gf):Zh s s=some true:=by
 unfold Zh;simp [YA,G0e,Gac,G0d,G71,bnd]
theorem H98 {s:Gf} (h:pO s):Zn (vQ s) s=some true:=by
 have e1:=G7e h.cols h.plugs;have e2:=Gb6 h.covs h.crows;have e3:=H99 h.rows;have e4:=Gb5 h.frames;have e5:=H16 h.tanks h.steps;unfold Zn;rw [Jb0,Gab,RV,cond_true];show bnd (Ri (s.Columns.map fX,(marks mR).map H1.of) s.Columns) _=_
 rw [e1,RV,Bool.and_self,cond_true];show bnd (Rt (s.Covers.map kF,(marks qC).map Hd.of) s.Covers) _=_
 rw [e2,RV,Bool.and_self,cond_true];show bnd (Yc (s.Rows,marks RJ) s.Rows) _=_
 rw [e3,RV,Bool.and_self,cond_true];show bnd (Rs (s.Frames,marks uA) s.Frames) _=_
 rw [e4,RV,Bool.and_self,cond_true];show bnd (Y5 (s.Tanks.map oF,(marks vO).map Hu.of) s.Tanks) _=_
 rw [e5,RV];rfl
end Go.Proofs.YtbgfgnddogfpcaaGreat
