/- What the functions return that lend and check arguments. -/
import Derived.Test.YthkihfoleenlmaaGreatXL
import Derived.Test.YthkihfoleenlmaaGreatWp
set_option maxRecDepth 100000
set_option linter.unusedVariables false
namespace Go.Proofs.YthkihfoleenlmaaGreat
open Go.RowKit
theorem G29 {n k:Nat} (hn:n≤10000001) (hk:k≤1000):decide (n*k≤140737488355328∧n≤maxLen)=true:=by
  refine Nr ⟨?_,by unfold maxLen; omega⟩
  exact Nat.le_trans (Nat.mul_le_mul hn hk) (by omega)
theorem J4c {n k:Nat} (hn:n≤10000001) (hk:k≤1000):decide (k*n≤281474976710656∧n≤maxLen)=true:=by
  refine Nr ⟨?_,by unfold maxLen; omega⟩
  exact Nat.le_trans (Nat.mul_le_mul hk hn) (by omega)
theorem Hbe {n:Nat} {z:Int} (h:z=(n:Int)):iM z=some n:=by
  subst h
  unfold iM
  rw [Nr (by omega:(0:Int)≤(n:Int))]
  simp
section generic
variable {α β:Type}
theorem sX {x:α} {k:α→Option β}:bnd (some x) k=k x:=rfl
def marks (mv:Nat→α):List α:=(List.range 12).map mv
theorem YC {mv:Nat→α} {i:Nat} (h:i < 12):(marks mv)[i]? = some (mv i):=by
  unfold marks
  rw [P2,List.getElem?_range h]; rfl
theorem zT {mv:Nat→α}:(marks mv).length=12:=by simp [marks]
theorem H2e {mv:Nat→α} {i:Nat} (h:i < 12):(marks mv).take (i+1)=(marks mv).take i++[mv i]:=by
  rw [List.take_add_one,YC h]; rfl
theorem Gc4 {mk:Int→Option β} {mv:Nat→β} (of:β→α) (h0:∀ i:Nat,i < 12→mk (i:Int)=some (mv i)) {by_:Nat} (h1:by_≤1000) {n:Nat} {s0:List α} (hn:s0.length=n) (hl:n≤1048576) :
    (need (decide ((12:Int)≤9223372036854775807)) <| upto (fun i (s:List α) nx=>bnd (mk (i:Int)) fun r=>need (decide ((s.length+[of r].length)*by_≤140737488355328∧s.length+[of r].length≤maxLen)) <| nx (s++[of r])) (fun s=>bnd (cN (n:Int) s.length) fun m=>some (s.take m,s.drop m)) (12:Int).toNat 0 s0)=some (s0,(marks mv).map of):=by
  refine gA (Z0 rfl ?_)
  refine xG (fun i s=>s=s0++((marks mv).map of).take i) (by simp) (fun i s nx hi hI h2=>?_) (fun s hI=>?_)
  · have hi:i < 12:=hi
    subst hI
    have h4:(s0++((marks mv).map of).take i).length≤n+12:=by
      rw [P5,List.length_take]; omega
    refine Hh (h0 i hi) (Z0 (G29 (by rw [P6]; omega) h1) (h2 _ ?_))
    rw [← List.map_take,← List.map_take,H2e hi,List.map_append,List.append_assoc]
    rfl
  · have h3:(12:Int).toNat=12:=rfl
    rw [h3,List.take_of_length_le (by rw [P9,zT]; omega)] at hI
    subst hI
    refine Jp (tD (m:=n) rfl (by rw [P5]; omega) (H4 ?_))
    rw [← hn,List.take_left,List.drop_left]
theorem yC {mk:Int→Option α} {mv:Nat→α} (h1:∀ i:Nat,i < 12→mk (i:Int)=some (mv i)) {by_:Nat} (h0:by_≤1000) {l:List α} (hl:l.length≤1048576) :
    (chk ((l.length:Int)+12) fun v3=>bnd (iM v3) fun m4=>need (decide (by_*m4≤281474976710656∧m4≤maxLen)) <| need (decide ((([]:List α).length+l.length)*by_≤140737488355328∧([]:List α).length+l.length≤maxLen)) <|
      need (decide ((12:Int)≤9223372036854775807)) <| upto (fun i (s:List α) nx=>bnd (mk (i:Int)) fun r=>need (decide ((s.length+[r].length)*by_≤140737488355328∧s.length+[r].length≤maxLen)) <| nx (s++[r])) (fun s=>bnd (cN (l.length:Int) s.length) fun m=>some (s.take m,s.drop m)) (12:Int).toNat 0 (([]:List α)++l))=some (l,marks mv):=by
  refine gA (Ji ⟨by omega,by omega⟩ (Hh (Hbe (n:=l.length+12) (by omega)) (Z0 (J4c (by omega) h0) (Z0 (G29 (by rw [List.length_nil]; omega) h0) ⟨_,Gc4 (fun x=>x) h1 h0 (s0:=([]:List α)++l) (n:=l.length) (by simp) hl,?_⟩))))
  rw [List.map_id'',List.nil_append]
  exact fun _=>rfl
theorem wT {lx:β→Option α} {lv:β→α} {mk:Int→Option β} {mv:Nat→β} (of:β→α) (h1:∀ i:Nat,i < 12→mk (i:Int)=some (mv i)) {by_:Nat} (h0:by_≤1000) {l:List β} (h2:∀ x∈l,lx x=some (lv x)) (hl:l.length≤1048576) :
    (chk ((l.length:Int)+12) fun v3=>bnd (iM v3) fun m4=>need (decide (by_*m4≤281474976710656∧m4≤maxLen)) <|
      each (fun y (i:Nat) (s:List α) nx=>bnd (lx y) fun r=>need (decide ((s.length+[r].length)*by_≤140737488355328∧s.length+[r].length≤maxLen)) <| nx (s++[r]))
      (fun(s0:List α)=>need (decide ((12:Int)≤9223372036854775807)) <| upto (fun i (s:List α) nx=>bnd (mk (i:Int)) fun r=>need (decide ((s.length+[of r].length)*by_≤140737488355328∧s.length+[of r].length≤maxLen)) <| nx (s++[of r])) (fun s=>bnd (cN (l.length:Int) s.length) fun m=>some (s.take m,s.drop m)) (12:Int).toNat 0 s0) l 0 [])=some (l.map lv,(marks mv).map of):=by
  refine gA (Ji ⟨by omega,by omega⟩ (Hh (Hbe (n:=l.length+12) (by omega)) (Z0 (J4c (by omega) h0) ?_)))
  refine Rv (fun pre s=>s=pre.map lv) rfl (fun pre y post s nx e hI h3=>?_) (fun s hI=>?_)
  · subst hI
    have hp:pre.length < l.length:=by rw [e]; simp
    refine Hh (h2 y (by rw [e]; simp)) (Z0 (G29 (by rw [P6,P9]; omega) h0) (h3 _ ?_))
    rw [List.map_append]; rfl
  · subst hI
    exact⟨_,Gc4 of h1 h0 (by simp) hl,rfl⟩
theorem H63 [Inhabited α] [Inhabited β] {mk:Int→Option β} {mv:Nat→β} (h3:∀ i:Nat,i < 12→mk (i:Int)=some (mv i)) {l:List β} (hl:l.length≤1048576) {xs:List α} {ys:List α} (hx:xs.length=l.length) (hy:ys.length=12)
    {body:α→Nat→Unit→(Unit→Option Bool)→Option Bool}
    (h1:∀ (i:Nat) y z nx,i < l.length→xs[i]? = some y→l[i]? = some z→body y i () nx=nx ())
    (h2:∀ (i:Nat) y nx,i < 12→ys[i]? = some y→body y (l.length+i) () nx=nx ()) :
    (bif decide ((((xs,ys):Ln α).1.length:Int)≠(l.length:Int)) then some false else (chk ((l.length:Int)+12) fun v6=>bnd (cN v6 (((xs,ys):Ln α).1++((xs,ys):Ln α).2).length) fun m7=>each body (fun(_:Unit)=>some true) ((((xs,ys):Ln α).1++((xs,ys):Ln α).2).take m7) 0 ()))=some true:=by
  have hd:decide ((((xs,ys):Ln α).1.length:Int)≠(l.length:Int))=false:=Ns (by simp only [ne_eq,Decidable.not_not]; omega)
  rw [hd,cond_false]
  refine gA (Ji ⟨by omega,by omega⟩ (Jp (tD (m:=l.length+12) (by omega) (by simp only [P5]; omega) ?_)))
  have ht:(((xs,ys):Ln α).1++((xs,ys):Ln α).2).take (l.length+12)=xs++ys:=List.take_of_length_le (by simp only [P5]; omega)
  rw [ht]
  refine Rv (fun _ _=>True) trivial (fun pre y post s nx e _ h0=>?_) (fun s _=>H4 rfl)
  have hg:(xs++ys)[pre.length]? = some y:=by rw [e]; simp
  rcases Nm pre.length l.length with h | h
  · rw [P0 (by omega)] at hg
    rw [h1 pre.length y _ nx h hg (Nu h)]
    exact h0 _ trivial
  · rw [Nz (by omega)] at hg
    have hp:pre.length < l.length+12:=by
      have:=congrArg List.length e
      simp only [P5,P1] at this
      omega
    have:=h2 (pre.length - l.length) y nx (by omega) (by rw [← hx]; exact hg)
    rw [show l.length+(pre.length - l.length)=pre.length by omega] at this
    rw [this]
    exact h0 _ trivial
theorem yD [DecidableEq α] [Inhabited α] {mk:Int→Option α} {mv:Nat→α} (h0:∀ i:Nat,i < 12→mk (i:Int)=some (mv i)) {l:List α} (hl:l.length≤1048576) :
    (bif decide ((((l,marks mv):Ln α).1.length:Int)≠(l.length:Int)) then some false else (chk ((l.length:Int)+12) fun v6=>bnd (cN v6 (((l,marks mv):Ln α).1++((l,marks mv):Ln α).2).length) fun m7=>
      each (fun y29 i29 (s29:Unit) nx29=>
        bnd (bif decide ((i29:Int) < (l.length:Int)) then Jx l (i29:Int) some else some default) fun y34=>
        bnd (bif ((!((decide ((i29:Int) < (l.length:Int)))&&(!(decide (y29=y34)))))&&(decide ((l.length:Int)≤(i29:Int)))) then chk ((i29:Int) - (l.length:Int)) some else some 0) fun v35=>
        bnd (bif ((!((decide ((i29:Int) < (l.length:Int)))&&(!(decide (y29=y34)))))&&(decide ((l.length:Int)≤(i29:Int)))) then mk v35 else some default) fun r36=>
        bif (((decide ((i29:Int) < (l.length:Int)))&&(!(decide (y29=y34))))||((decide ((l.length:Int)≤(i29:Int)))&&(!(decide (y29=r36))))) then (some false) else (nx29 ()))
      (fun(_:Unit)=>some true) ((((l,marks mv):Ln α).1++((l,marks mv):Ln α).2).take m7) 0 ()))=some true:=by
  refine H63 h0 hl rfl zT (fun i y z nx hi hy hz=>?_) (fun i y nx hi hy=>?_)
  · rw [hy] at hz
    cases hz
    have hg:Jx l (i:Int) some=some y:=by
      unfold Jx
      rw [Nr (by omega:(0:Int)≤(i:Int)),cond_true,show (i:Int).toNat=i by omega,hy]; rfl
    rw [Nr (by omega:(i:Int) < (l.length:Int)),cond_true,hg]
    simp only [bnd,decide_true,Bool.not_true,Bool.and_false,Bool.not_false,Bool.true_and,Bool.false_or]
    rw [Ns (by omega:¬ (l.length:Int)≤(i:Int))]
    rfl
  · rw [YC hi] at hy
    cases hy
    have hc:((l.length+i:Nat):Int) - (l.length:Int)=(i:Int):=by omega
    rw [Ns (by omega:¬ ((l.length+i:Nat):Int) < (l.length:Int)),cond_false,hc,Nr (by omega:(l.length:Int)≤((l.length+i:Nat):Int))]
    have hk:chk (i:Int) some=some (i:Int):=gA (Ji ⟨by omega,by omega⟩ (H4 rfl))
    simp only [bnd,Bool.false_and,Bool.not_false,Bool.and_self,cond_true,hk,h0 i hi,decide_true,Bool.not_true,Bool.and_false,Bool.or_self,cond_false]
theorem wV [Inhabited α] [Inhabited β] {mk:Int→Option β} {mv:Nat→β} (h2:∀ i:Nat,i < 12→mk (i:Int)=some (mv i)) {lv of:β→α} {pl:α→β} {keep:α→β→Option Bool} {same:β→β→Option Bool} {l:List β} (hl:l.length≤1048576)
    (h0:∀ x∈l,keep (lv x) x=some true) (h1:∀ i:Nat,i < 12→same (pl (of (mv i))) (mv i)=some true) :
    (bif decide ((((l.map lv,(marks mv).map of):Ln α).1.length:Int)≠(l.length:Int)) then some false else (chk ((l.length:Int)+12) fun v6=>bnd (cN v6 (((l.map lv,(marks mv).map of):Ln α).1++((l.map lv,(marks mv).map of):Ln α).2).length) fun m7=>
      each (fun y33 i33 (s33:Unit) nx33=>
        bnd (bif decide ((i33:Int) < (l.length:Int)) then Jx l (i33:Int) some else some default) fun y38=>
        bnd (bif decide ((i33:Int) < (l.length:Int)) then keep y33 y38 else some default) fun r39=>
        bnd (bif ((!((decide ((i33:Int) < (l.length:Int)))&&(!r39)))&&(decide ((l.length:Int)≤(i33:Int)))) then chk ((i33:Int) - (l.length:Int)) some else some 0) fun v40=>
        bnd (bif ((!((decide ((i33:Int) < (l.length:Int)))&&(!r39)))&&(decide ((l.length:Int)≤(i33:Int)))) then mk v40 else some default) fun r41=>
        bnd (bif ((!((decide ((i33:Int) < (l.length:Int)))&&(!r39)))&&(decide ((l.length:Int)≤(i33:Int)))) then same (pl y33) r41 else some default) fun r42=>
        bif (((decide ((i33:Int) < (l.length:Int)))&&(!r39))||((decide ((l.length:Int)≤(i33:Int)))&&(!r42))) then (some false) else (nx33 ()))
      (fun(_:Unit)=>some true) ((((l.map lv,(marks mv).map of):Ln α).1++((l.map lv,(marks mv).map of):Ln α).2).take m7) 0 ()))=some true:=by
  refine H63 h2 hl (by simp) (by simp [zT]) (fun i y z nx hi hy hz=>?_) (fun i y nx hi hy=>?_)
  · rw [P2,hz] at hy
    cases hy
    have hg:Jx l (i:Int) some=some z:=by
      unfold Jx
      rw [Nr (by omega:(0:Int)≤(i:Int)),cond_true,show (i:Int).toNat=i by omega,hz]; rfl
    rw [Nr (by omega:(i:Int) < (l.length:Int)),cond_true,hg]
    simp only [bnd,cond_true,h0 z (Nw hz),Bool.not_true,Bool.and_false,Bool.not_false,Bool.true_and,Bool.false_or]
    rw [Ns (by omega:¬ (l.length:Int)≤(i:Int))]
    rfl
  · rw [P2,YC hi] at hy
    cases hy
    have hc:((l.length+i:Nat):Int) - (l.length:Int)=(i:Int):=by omega
    rw [Ns (by omega:¬ ((l.length+i:Nat):Int) < (l.length:Int)),cond_false,hc,Nr (by omega:(l.length:Int)≤((l.length+i:Nat):Int))]
    have hk:chk (i:Int) some=some (i:Int):=gA (Ji ⟨by omega,by omega⟩ (H4 rfl))
    simp only [bnd,cond_false,Bool.false_and,Bool.not_false,Bool.and_self,cond_true,hk,h2 i hi,h1 i hi,Bool.not_true,Bool.and_false,Bool.or_self]
theorem pM {l:List α} {body:α→Nat→Unit→(Unit→Option Bool)→Option Bool} (h:∀ (i:Nat) y nx,l[i]? = some y→body y i () nx=nx ()) :
    (bif decide ((l.length:Int)≠(l.length:Int)) then some false else each body (fun(_:Unit)=>some true) l 0 ())=some true:=by
  rw [Ns (by simp),cond_false]
  refine gA (Rv (fun _ _=>True) trivial (fun pre y post s nx e _ h0=>?_) (fun s _=>H4 rfl))
  rw [h pre.length y nx (by rw [e]; simp)]
  exact h0 _ trivial
theorem cO {γ:Type} {l:List α} {i:Nat} {y:α} (h:l[i]? = some y) (k:α→Option γ):Jx l (i:Int) k=k y:=by
  unfold Jx
  rw [Nr (by omega:(0:Int)≤(i:Int)),cond_true,show (i:Int).toNat=i by omega,h]; rfl
end generic
def mkN (i:Nat):Int:=8000024+(i:Int)
theorem mark_eq (i:Nat) (h:i < 12):Hi 1 (i:Int)=some (mkN i):=by
  refine gA ?_
  unfold Hi mkN
  exact Ji ⟨by decide,by decide⟩ (Ji ⟨by decide,by decide⟩ (Ji ⟨by omega,by omega⟩ (H4 (by omega))))
theorem qC (a:List Int):Qo a a=some true:=by
  unfold Qo
  exact pM (fun i y nx h=>by rw [cO h]; simp)
theorem G14 (a:List Row):Z8 a a=some true:=by
  unfold Z8
  exact pM (fun i y nx h=>by rw [cO h]; simp)
theorem QD (a:List Frame):Yg a a=some true:=by
  unfold Yg
  exact pM (fun i y nx h=>by rw [cO h]; simp)
abbrev zS:=mkN
theorem Hc1 (i:Nat) (h:i < 12):Hi 1 (i:Int)=some (zS i):=mark_eq i h
theorem uP {l:List Int} (hl:l.length≤1048576):Rb l=some (l,marks zS):=by
  unfold Rb
  exact yC Hc1 (by omega) hl
theorem uQ {l:List Int} (hl:l.length≤1048576):Jh (l,marks zS) l=some true:=by
  unfold Jh
  exact yD Hc1 hl
def zR (i:Nat):Row:=(Rt 1 (i:Int)).getD default
theorem Hc0 (i:Nat) (h:i < 12):Rt 1 (i:Int)=some (zR i):=by
  unfold zR Rt
  rw [mark_eq i h]; rfl
theorem Gd8 {l:List Row} (hl:l.length≤1048576):Zb l=some (l,marks zR):=by
  unfold Zb
  exact yC Hc0 (by omega) hl
theorem Gdb {l:List Row} (hl:l.length≤1048576):Y9 (l,marks zR) l=some true:=by
  unfold Y9
  exact yD Hc0 hl
def qR (i:Nat):Frame:=(Qz 1 (i:Int)).getD default
theorem Gbc (i:Nat) (h:i < 12):Qz 1 (i:Int)=some (qR i):=by
  unfold qR Qz
  rw [mark_eq i h]; rfl
theorem G16 {l:List Frame} (hl:l.length≤1048576):Yi l=some (l,marks qR):=by
  unfold Yi
  exact yC Gbc (by omega) hl
theorem G19 {l:List Frame} (hl:l.length≤1048576):Rn (l,marks qR) l=some true:=by
  unfold Rn
  exact yD Gbc hl
def QM (i:Nat):Box:=(Ru 1 (i:Int)).getD default
theorem H5e (i:Nat) (h:i < 12):Ru 1 (i:Int)=some (QM i):=by
  unfold QM Ru
  rw [mark_eq i h]; rfl
theorem G6a {l:List Box} (hl:l.length≤1048576):Yy l=some (l,marks QM):=by
  unfold Yy
  exact yC H5e (by omega) hl
theorem G6d {l:List Box} (hl:l.length≤1048576):Yz (l,marks QM) l=some true:=by
  unfold Yz
  exact yD H5e hl
def kG (i:Nat):Gc:=(Qt 1 (i:Int)).getD default
theorem G2f (i:Nat) (h:i < 12):Qt 1 (i:Int)=some (kG i):=by
  unfold kG Qt
  rw [mark_eq i h]; rfl
def eK (x:Gc):Gu:={ Gu.of x with Plugs:=(x.Plugs,marks zS) }
theorem G18 {x:Gc} (h:x.Plugs.length≤1048576):Yk x=some (eK x):=by
  unfold Yk
  rw [uP h]; rfl
theorem lK (a:Gc):Ju a a=some true:=by
  unfold Ju
  simp [qC,bnd]
theorem G1b {x:Gc} (h:x.Plugs.length≤1048576):Rq (eK x) x=some true:=by
  have e1:Ju (Gu.pl (eK x)) x=some true:=lK x
  have e2:Jh (eK x).Plugs x.Plugs=some true:=uQ h
  unfold Rq
  show bnd (Ju (Gu.pl (eK x)) x) (fun r3=>bnd (bif r3 then Jh (eK x).Plugs x.Plugs else some default) fun r4=>some (r3&&r4))=some true
  rw [e1,sX,cond_true,e2,sX]; rfl
theorem ZI {l:List Gc} (hl:l.length≤1048576) (h:∀ x∈l,x.Plugs.length≤1048576):Yc l=some (l.map eK,(marks kG).map Gu.of):=by
  unfold Yc
  exact wT Gu.of G2f (by omega) (fun x hx=>G18 (h x hx)) hl
theorem GJ (a:List Gc):Yb a a=some true:=by
  unfold Yb
  exact pM (fun i y nx h=>by rw [cO h,lK]; rfl)
theorem ZJ {l:List Gc} (hl:l.length≤1048576) (h:∀ x∈l,x.Plugs.length≤1048576):Rc (l.map eK,(marks kG).map Gu.of) l=some true:=by
  unfold Rc
  exact wV (keep:=Rq) (same:=Ju) (pl:=Gu.pl) G2f hl (fun x hx=>G1b (h x hx)) (fun i hi=>lK (kG i))
theorem H85 (l:List Gc):(l.map eK).map Gu.pl=l:=by
  rw [List.map_map]
  exact(List.map_congr_left (fun x _=>rfl)).trans (List.map_id l)
def nP (i:Nat):Gz:=(R0 1 (i:Int)).getD default
theorem Gbd (i:Nat) (h:i < 12):R0 1 (i:Int)=some (nP i):=by
  unfold nP R0
  rw [mark_eq i h]; rfl
def gW (x:Gz):H9:={ H9.of x with Rows:=(x.Rows,marks zS) }
theorem G69 {x:Gz} (h:x.Rows.length≤1048576):Yx x=some (gW x):=by
  unfold Yx
  rw [uP h]; rfl
theorem oB (a:Gz):Jz a a=some true:=by
  unfold Jz
  simp [qC,bnd]
theorem G6c {x:Gz} (h:x.Rows.length≤1048576):Rz (gW x) x=some true:=by
  have e1:Jz (H9.pl (gW x)) x=some true:=oB x
  have e2:Jh (gW x).Rows x.Rows=some true:=uQ h
  unfold Rz
  show bnd (Jz (H9.pl (gW x)) x) (fun r3=>bnd (bif r3 then Jh (gW x).Rows x.Rows else some default) fun r4=>some (r3&&r4))=some true
  rw [e1,sX,cond_true,e2,sX]; rfl
theorem G17 {l:List Gz} (hl:l.length≤1048576) (h:∀ x∈l,x.Rows.length≤1048576):Yj l=some (l.map gW,(marks nP).map H9.of):=by
  unfold Yj
  exact wT H9.of Gbd (by omega) (fun x hx=>G69 (h x hx)) hl
theorem QE (a:List Gz):Yh a a=some true:=by
  unfold Yh
  exact pM (fun i y nx h=>by rw [cO h,oB]; rfl)
theorem G1a {l:List Gz} (hl:l.length≤1048576) (h:∀ x∈l,x.Rows.length≤1048576):Ro (l.map gW,(marks nP).map H9.of) l=some true:=by
  unfold Ro
  exact wV (keep:=Rz) (same:=Jz) (pl:=H9.pl) Gbd hl (fun x hx=>G6c (h x hx)) (fun i hi=>oB (nP i))
theorem Hb7 (l:List Gz):(l.map gW).map H9.pl=l:=by
  rw [List.map_map]
  exact(List.map_congr_left (fun x _=>rfl)).trans (List.map_id l)
def sE (i:Nat):He:=(Ra 1 (i:Int)).getD default
theorem H5d (i:Nat) (h:i < 12):Ra 1 (i:Int)=some (sE i):=by
  unfold sE Ra
  rw [mark_eq i h]; rfl
def lI (x:He):Hk:={ Hk.of x with Steps:=(x.Steps,marks zS) }
theorem Gd6 {x:He} (h:x.Steps.length≤1048576):Z9 x=some (lI x):=by
  unfold Z9
  rw [uP h]; rfl
theorem qB (a:He):Q7 a a=some true:=by
  unfold Q7
  simp [qC,bnd]
theorem Gd9 {x:He} (h:x.Steps.length≤1048576):Y8 (lI x) x=some true:=by
  have e1:Q7 (Hk.pl (lI x)) x=some true:=qB x
  have e2:Jh (lI x).Steps x.Steps=some true:=uQ h
  unfold Y8
  show bnd (Q7 (Hk.pl (lI x)) x) (fun r3=>bnd (bif r3 then Jh (lI x).Steps x.Steps else some default) fun r4=>some (r3&&r4))=some true
  rw [e1,sX,cond_true,e2,sX]; rfl
theorem G68 {l:List He} (hl:l.length≤1048576) (h:∀ x∈l,x.Steps.length≤1048576):Yw l=some (l.map lI,(marks sE).map Hk.of):=by
  unfold Yw
  exact wT Hk.of H5d (by omega) (fun x hx=>Gd6 (h x hx)) hl
theorem YX (a:List He):Yv a a=some true:=by
  unfold Yv
  exact pM (fun i y nx h=>by rw [cO h,qB]; rfl)
theorem G6b {l:List He} (hl:l.length≤1048576) (h:∀ x∈l,x.Steps.length≤1048576):Ry (l.map lI,(marks sE).map Hk.of) l=some true:=by
  unfold Ry
  exact wV (keep:=Y8) (same:=Q7) (pl:=Hk.pl) H5d hl (fun x hx=>Gd9 (h x hx)) (fun i hi=>qB (sE i))
theorem J20 (l:List He):(l.map lI).map Hk.pl=l:=by
  rw [List.map_map]
  exact(List.map_congr_left (fun x _=>rfl)).trans (List.map_id l)
structure vJ (s:H2):Prop where
  cols:s.Columns.length≤1048576
  plugs:∀ c∈s.Columns,c.Plugs.length≤1048576
  covs:s.Covers.length≤1048576
  crows:∀ x∈s.Covers,x.Rows.length≤1048576
  rows:s.Rows.length≤1048576
  frames:s.Frames.length≤1048576
  tanks:s.Tanks.length≤1048576
  steps:∀ x∈s.Tanks,x.Steps.length≤1048576
def sI (s:H2):Yq:=⟨(s.Columns.map eK,(marks kG).map Gu.of),(s.Covers.map gW,(marks nP).map H9.of),s.Light,(s.Rows,marks zR),(s.Frames,marks qR),(s.Tanks.map lI,(marks sE).map Hk.of),s.Gp⟩
theorem Gd7 {s:H2} (h:vJ s):Za s=some (sI s):=by
  unfold Za
  rw [ZI h.cols h.plugs,G17 h.covs h.crows,Gd8 h.rows,G16 h.frames,G68 h.tanks h.steps]
  rfl
theorem Hb6 (s:H2):H2.mk ((sI s).Columns.1.map Gu.pl) ((sI s).Covers.1.map H9.pl) (sI s).Light (sI s).Rows.1 (sI s).Frames.1 ((sI s).Tanks.1.map Hk.pl) (sI s).Gp=s:=by
  show H2.mk ((s.Columns.map eK).map Gu.pl) ((s.Covers.map gW).map H9.pl) s.Light s.Rows s.Frames ((s.Tanks.map lI).map Hk.pl) s.Gp=s
  rw [H85,Hb7,J20]
theorem G13 (s:H2):Z7 s s=some true:=by
  unfold Z7
  simp [GJ,QE,G14,QD,YX,bnd]
theorem Gda {s:H2} (h:vJ s):Zc (sI s) s=some true:=by
  have e1:=ZJ h.cols h.plugs
  have e2:=G1a h.covs h.crows
  have e3:=Gdb h.rows
  have e4:=G19 h.frames
  have e5:=G6b h.tanks h.steps
  unfold Zc
  rw [Hb6,G13,sX,cond_true]
  show bnd (Rc (s.Columns.map eK,(marks kG).map Gu.of) s.Columns) _=_
  rw [e1,sX,Bool.and_self,cond_true]
  show bnd (Ro (s.Covers.map gW,(marks nP).map H9.of) s.Covers) _=_
  rw [e2,sX,Bool.and_self,cond_true]
  show bnd (Y9 (s.Rows,marks zR) s.Rows) _=_
  rw [e3,sX,Bool.and_self,cond_true]
  show bnd (Rn (s.Frames,marks qR) s.Frames) _=_
  rw [e4,sX,Bool.and_self,cond_true]
  show bnd (Ry (s.Tanks.map lI,(marks sE).map Hk.of) s.Tanks) _=_
  rw [e5,sX]
  rfl
end Go.Proofs.YthkihfoleenlmaaGreat
