/-
 What the functions return that lend and check arguments.
-/
import Derived.Test.YtecjdioomlhhiaaGreatXL
import Derived.Test.YtecjdioomlhhiaaGreatWp
set_option maxRecDepth 100000
set_option linter.unusedVariables false
namespace Go.Proofs.YtecjdioomlhhiaaGreat
open Go.RowKit

theorem R58 {n k:Nat} (hn:n≤10000001) (hk:k≤1000):decide (n*k≤140737488355328∧n≤maxLen)=true:=by
 refine decide_eq_true ⟨?_,by unfold maxLen; omega⟩
 exact Nat.le_trans (Nat.mul_le_mul hn hk) (by omega)
theorem Y1d {n k:Nat} (hn:n≤10000001) (hk:k≤1000):decide (k*n≤281474976710656∧n≤maxLen)=true:=by
 refine decide_eq_true ⟨?_,by unfold maxLen; omega⟩
 exact Nat.le_trans (Nat.mul_le_mul hk hn) (by omega)
theorem Rd2 {n:Nat} {z:Int} (h:z=(n:Int)):H60 z=some n:=by
 subst h
 unfold H60
 rw [decide_eq_true (by omega:(0:Int)≤(n:Int))]
 simp
section generic
variable {α β:Type}
theorem H76 {x:α} {k:α→Option β}:bnd (some x) k=k x:=rfl
def marks (mv:Nat→α):List α:=(List.range 12).map mv
theorem Jf8 {mv:Nat→α} {i:Nat} (h:i < 12):(marks mv)[i]? = some (mv i):=by
 unfold marks
 rw [List.getElem?_map,List.getElem?_range h]; rfl
theorem H87 {mv:Nat→α}:(marks mv).length=12:=by simp [marks]
theorem R3b {mv:Nat→α} {i:Nat} (h:i < 12):(marks mv).take (i+1)=(marks mv).take i++[mv i]:=by
 rw [List.take_add_one,Jf8 h]; rfl
theorem Qda {mk:Int→Option β} {mv:Nat→β} (of:β→α) (hmk:∀ i:Nat,i < 12→mk (i:Int)=some (mv i)) {by_:Nat} (hby:by_≤1000) {n:Nat} {s0:List α} (hn:s0.length=n) (hl:n≤1048576) :
  (need (decide ((12:Int)≤9223372036854775807)) <| upto (fun i (s:List α) nx=>bnd (mk (i:Int)) fun r=>need (decide ((s.length+[of r].length)*by_≤140737488355328∧s.length+[of r].length≤maxLen)) <| nx (s++[of r])) (fun s=>bnd (G5e (n:Int) s.length) fun m=>some (s.take m,s.drop m)) (12:Int).toNat 0 s0)=some (s0,(marks mv).map of):=by
 refine G03 (Y2 rfl ?_)
 refine Hf3 (fun i s=>s=s0++((marks mv).map of).take i) (by simp) (fun i s nx hi hI hnx=>?_) (fun s hI=>?_)
 ·have hi:i < 12:=hi
  subst hI
  have hle:(s0++((marks mv).map of).take i).length≤n+12:=by
   rw [List.length_append,List.length_take]; omega
  refine Gy (hmk i hi) (Y2 (R58 (by rw [List.length_singleton]; omega) hby) (hnx _ ?_))
  rw [← List.map_take,← List.map_take,R3b hi,List.map_append,List.append_assoc]
  rfl
 ·have h12:(12:Int).toNat=12:=rfl
  rw [h12,List.take_of_length_le (by rw [List.length_map,H87]; omega)] at hI
  subst hI
  refine H6 (Jba (m:=n) rfl (by rw [List.length_append]; omega) (Gj ?_))
  rw [← hn,List.take_left,List.drop_left]
theorem Hde {mk:Int→Option α} {mv:Nat→α} (hmk:∀ i:Nat,i < 12→mk (i:Int)=some (mv i)) {by_:Nat} (hby:by_≤1000) {l:List α} (hl:l.length≤1048576) :
  (chk ((l.length:Int)+12) fun v3=>bnd (H60 v3) fun m4=>need (decide (by_*m4≤281474976710656∧m4≤maxLen)) <| need (decide ((([]:List α).length+l.length)*by_≤140737488355328∧([]:List α).length+l.length≤maxLen)) <|
   need (decide ((12:Int)≤9223372036854775807)) <| upto (fun i (s:List α) nx=>bnd (mk (i:Int)) fun r=>need (decide ((s.length+[r].length)*by_≤140737488355328∧s.length+[r].length≤maxLen)) <| nx (s++[r])) (fun s=>bnd (G5e (l.length:Int) s.length) fun m=>some (s.take m,s.drop m)) (12:Int).toNat 0 (([]:List α)++l))=some (l,marks mv):=by
 refine G03 (Yb ⟨by omega,by omega⟩ (Gy (Rd2 (n:=l.length+12) (by omega)) (Y2 (Y1d (by omega) hby) (Y2 (R58 (by rw [List.length_nil]; omega) hby) ⟨_,Qda (fun x=>x) hmk hby (s0:=([]:List α)++l) (n:=l.length) (by simp) hl,?_⟩))))
 rw [List.map_id'',List.nil_append]
 exact fun _=>rfl
theorem J2c {lx:β→Option α} {lv:β→α} {mk:Int→Option β} {mv:Nat→β} (of:β→α) (hmk:∀ i:Nat,i < 12→mk (i:Int)=some (mv i)) {by_:Nat} (hby:by_≤1000) {l:List β} (hlx:∀ x∈l,lx x=some (lv x)) (hl:l.length≤1048576) :
  (chk ((l.length:Int)+12) fun v3=>bnd (H60 v3) fun m4=>need (decide (by_*m4≤281474976710656∧m4≤maxLen)) <|
   each (fun y (i:Nat) (s:List α) nx=>bnd (lx y) fun r=>need (decide ((s.length+[r].length)*by_≤140737488355328∧s.length+[r].length≤maxLen)) <| nx (s++[r]))
   (fun(s0:List α)=>need (decide ((12:Int)≤9223372036854775807)) <| upto (fun i (s:List α) nx=>bnd (mk (i:Int)) fun r=>need (decide ((s.length+[of r].length)*by_≤140737488355328∧s.length+[of r].length≤maxLen)) <| nx (s++[of r])) (fun s=>bnd (G5e (l.length:Int) s.length) fun m=>some (s.take m,s.drop m)) (12:Int).toNat 0 s0) l 0 [])=some (l.map lv,(marks mv).map of):=by
 refine G03 (Yb ⟨by omega,by omega⟩ (Gy (Rd2 (n:=l.length+12) (by omega)) (Y2 (Y1d (by omega) hby) ?_)))
 refine Qp (fun pre s=>s=pre.map lv) rfl (fun pre y post s nx e hI hnx=>?_) (fun s hI=>?_)
 ·subst hI
  have hp:pre.length < l.length:=by rw [e]; simp
  refine Gy (hlx y (by rw [e]; simp)) (Y2 (R58 (by rw [List.length_singleton,List.length_map]; omega) hby) (hnx _ ?_))
  rw [List.map_append]; rfl
 ·subst hI
  exact⟨_,Qda of hmk hby (by simp) hl,rfl⟩
theorem R69 [Inhabited α] [Inhabited β] {mk:Int→Option β} {mv:Nat→β} (hmk:∀ i:Nat,i < 12→mk (i:Int)=some (mv i)) {l:List β} (hl:l.length≤1048576) {xs:List α} {ys:List α} (hx:xs.length=l.length) (hy:ys.length=12)
  {body:α→Nat→Unit→(Unit→Option Bool)→Option Bool}
  (h1:∀ (i:Nat) y z nx,i < l.length→xs[i]? = some y→l[i]? = some z→body y i () nx=nx ())
  (h2:∀ (i:Nat) y nx,i < 12→ys[i]? = some y→body y (l.length+i) () nx=nx ()) :
  (bif decide ((((xs,ys):Ln α).1.length:Int)≠(l.length:Int)) then some false else (chk ((l.length:Int)+12) fun v6=>bnd (G5e v6 (((xs,ys):Ln α).1++((xs,ys):Ln α).2).length) fun m7=>each body (fun(_:Unit)=>some true) ((((xs,ys):Ln α).1++((xs,ys):Ln α).2).take m7) 0 ()))=some true:=by
 have hd:decide ((((xs,ys):Ln α).1.length:Int)≠(l.length:Int))=false:=decide_eq_false (by simp only [ne_eq,Decidable.not_not]; omega)
 rw [hd,cond_false]
 refine G03 (Yb ⟨by omega,by omega⟩ (H6 (Jba (m:=l.length+12) (by omega) (by simp only [List.length_append]; omega) ?_)))
 have ht:(((xs,ys):Ln α).1++((xs,ys):Ln α).2).take (l.length+12)=xs++ys:=List.take_of_length_le (by simp only [List.length_append]; omega)
 rw [ht]
 refine Qp (fun _ _=>True) trivial (fun pre y post s nx e _ hnx=>?_) (fun s _=>Gj rfl)
 have hg:(xs++ys)[pre.length]? = some y:=by rw [e]; simp
 rcases Nat.lt_or_ge pre.length l.length with h | h
 ·rw [List.getElem?_append_left (by omega)] at hg
  rw [h1 pre.length y _ nx h hg (List.getElem?_eq_getElem h)]
  exact hnx _ trivial
 ·rw [List.getElem?_append_right (by omega)] at hg
  have hp:pre.length < l.length+12:=by
   have:=congrArg List.length e
   simp only [List.length_append,List.length_cons] at this
   omega
  have:=h2 (pre.length - l.length) y nx (by omega) (by rw [← hx]; exact hg)
  rw [show l.length+(pre.length - l.length)=pre.length by omega] at this
  rw [this]
  exact hnx _ trivial
theorem Hdf [DecidableEq α] [Inhabited α] {mk:Int→Option α} {mv:Nat→α} (hmk:∀ i:Nat,i < 12→mk (i:Int)=some (mv i)) {l:List α} (hl:l.length≤1048576) :
  (bif decide ((((l,marks mv):Ln α).1.length:Int)≠(l.length:Int)) then some false else (chk ((l.length:Int)+12) fun v6=>bnd (G5e v6 (((l,marks mv):Ln α).1++((l,marks mv):Ln α).2).length) fun m7=>
   each (fun y29 i29 (s29:Unit) nx29=>
    bnd (bif decide ((i29:Int) < (l.length:Int)) then Qq l (i29:Int) some else some default) fun y34=>
    bnd (bif ((!((decide ((i29:Int) < (l.length:Int)))&&(!(decide (y29=y34)))))&&(decide ((l.length:Int)≤(i29:Int)))) then chk ((i29:Int) - (l.length:Int)) some else some 0) fun v35=>
    bnd (bif ((!((decide ((i29:Int) < (l.length:Int)))&&(!(decide (y29=y34)))))&&(decide ((l.length:Int)≤(i29:Int)))) then mk v35 else some default) fun r36=>
    bif (((decide ((i29:Int) < (l.length:Int)))&&(!(decide (y29=y34))))||((decide ((l.length:Int)≤(i29:Int)))&&(!(decide (y29=r36))))) then (some false) else (nx29 ()))
   (fun(_:Unit)=>some true) ((((l,marks mv):Ln α).1++((l,marks mv):Ln α).2).take m7) 0 ()))=some true:=by
 refine R69 hmk hl rfl H87 (fun i y z nx hi hy hz=>?_) (fun i y nx hi hy=>?_)
 ·rw [hy] at hz
  cases hz
  have hg:Qq l (i:Int) some=some y:=by
   unfold Qq
   rw [decide_eq_true (by omega:(0:Int)≤(i:Int)),cond_true,show (i:Int).toNat=i by omega,hy]; rfl
  rw [decide_eq_true (by omega:(i:Int) < (l.length:Int)),cond_true,hg]
  simp only [bnd,decide_true,Bool.not_true,Bool.and_false,Bool.not_false,Bool.true_and,Bool.false_or]
  rw [decide_eq_false (by omega:¬ (l.length:Int)≤(i:Int))]
  rfl
 ·rw [Jf8 hi] at hy
  cases hy
  have hc:((l.length+i:Nat):Int) - (l.length:Int)=(i:Int):=by omega
  rw [decide_eq_false (by omega:¬ ((l.length+i:Nat):Int) < (l.length:Int)),cond_false,hc,decide_eq_true (by omega:(l.length:Int)≤((l.length+i:Nat):Int))]
  have hk:chk (i:Int) some=some (i:Int):=G03 (Yb ⟨by omega,by omega⟩ (Gj rfl))
  simp only [bnd,Bool.false_and,Bool.not_false,Bool.and_self,cond_true,hk,hmk i hi,decide_true,Bool.not_true,Bool.and_false,Bool.or_self,cond_false]
theorem J2e [Inhabited α] [Inhabited β] {mk:Int→Option β} {mv:Nat→β} (hmk:∀ i:Nat,i < 12→mk (i:Int)=some (mv i)) {lv of:β→α} {pl:α→β} {keep:α→β→Option Bool} {same:β→β→Option Bool} {l:List β} (hl:l.length≤1048576)
  (hkeep:∀ x∈l,keep (lv x) x=some true) (hsame:∀ i:Nat,i < 12→same (pl (of (mv i))) (mv i)=some true) :
  (bif decide ((((l.map lv,(marks mv).map of):Ln α).1.length:Int)≠(l.length:Int)) then some false else (chk ((l.length:Int)+12) fun v6=>bnd (G5e v6 (((l.map lv,(marks mv).map of):Ln α).1++((l.map lv,(marks mv).map of):Ln α).2).length) fun m7=>
   each (fun y33 i33 (s33:Unit) nx33=>
    bnd (bif decide ((i33:Int) < (l.length:Int)) then Qq l (i33:Int) some else some default) fun y38=>
    bnd (bif decide ((i33:Int) < (l.length:Int)) then keep y33 y38 else some default) fun r39=>
    bnd (bif ((!((decide ((i33:Int) < (l.length:Int)))&&(!r39)))&&(decide ((l.length:Int)≤(i33:Int)))) then chk ((i33:Int) - (l.length:Int)) some else some 0) fun v40=>
    bnd (bif ((!((decide ((i33:Int) < (l.length:Int)))&&(!r39)))&&(decide ((l.length:Int)≤(i33:Int)))) then mk v40 else some default) fun r41=>
    bnd (bif ((!((decide ((i33:Int) < (l.length:Int)))&&(!r39)))&&(decide ((l.length:Int)≤(i33:Int)))) then same (pl y33) r41 else some default) fun r42=>
    bif (((decide ((i33:Int) < (l.length:Int)))&&(!r39))||((decide ((l.length:Int)≤(i33:Int)))&&(!r42))) then (some false) else (nx33 ()))
   (fun(_:Unit)=>some true) ((((l.map lv,(marks mv).map of):Ln α).1++((l.map lv,(marks mv).map of):Ln α).2).take m7) 0 ()))=some true:=by
 refine R69 hmk hl (by simp) (by simp [H87]) (fun i y z nx hi hy hz=>?_) (fun i y nx hi hy=>?_)
 ·rw [List.getElem?_map,hz] at hy
  cases hy
  have hg:Qq l (i:Int) some=some z:=by
   unfold Qq
   rw [decide_eq_true (by omega:(0:Int)≤(i:Int)),cond_true,show (i:Int).toNat=i by omega,hz]; rfl
  rw [decide_eq_true (by omega:(i:Int) < (l.length:Int)),cond_true,hg]
  simp only [bnd,cond_true,hkeep z (List.mem_of_getElem? hz),Bool.not_true,Bool.and_false,Bool.not_false,Bool.true_and,Bool.false_or]
  rw [decide_eq_false (by omega:¬ (l.length:Int)≤(i:Int))]
  rfl
 ·rw [List.getElem?_map,Jf8 hi] at hy
  cases hy
  have hc:((l.length+i:Nat):Int) - (l.length:Int)=(i:Int):=by omega
  rw [decide_eq_false (by omega:¬ ((l.length+i:Nat):Int) < (l.length:Int)),cond_false,hc,decide_eq_true (by omega:(l.length:Int)≤((l.length+i:Nat):Int))]
  have hk:chk (i:Int) some=some (i:Int):=G03 (Yb ⟨by omega,by omega⟩ (Gj rfl))
  simp only [bnd,cond_false,Bool.false_and,Bool.not_false,Bool.and_self,cond_true,hk,hmk i hi,hsame i hi,Bool.not_true,Bool.and_false,Bool.or_self]
theorem Hac {l:List α} {body:α→Nat→Unit→(Unit→Option Bool)→Option Bool} (h:∀ (i:Nat) y nx,l[i]? = some y→body y i () nx=nx ()) :
  (bif decide ((l.length:Int)≠(l.length:Int)) then some false else each body (fun(_:Unit)=>some true) l 0 ())=some true:=by
 rw [decide_eq_false (by simp),cond_false]
 refine G03 (Qp (fun _ _=>True) trivial (fun pre y post s nx e _ hnx=>?_) (fun s _=>Gj rfl))
 rw [h pre.length y nx (by rw [e]; simp)]
 exact hnx _ trivial
theorem Y9 {γ:Type} {l:List α} {i:Nat} {y:α} (h:l[i]? = some y) (k:α→Option γ):Qq l (i:Int) k=k y:=by
 unfold Qq
 rw [decide_eq_true (by omega:(0:Int)≤(i:Int)),cond_true,show (i:Int).toNat=i by omega,h]; rfl
end generic

def mkN (i:Nat):Int:=8000024+(i:Int)
theorem mark_eq (i:Nat) (h:i < 12):Ja 1 (i:Int)=some (mkN i):=by
 refine G03 ?_
 unfold Ja mkN
 exact Yb ⟨by decide,by decide⟩ (Yb ⟨by decide,by decide⟩ (Yb ⟨by omega,by omega⟩ (Gj (by omega))))
theorem Ga8 (a:List Int):Ji a a=some true:=by
 unfold Ji
 exact Hac (fun i y nx h=>by rw [Y9 h]; simp)
theorem Q31 (a:List Row):Zr a a=some true:=by
 unfold Zr
 exact Hac (fun i y nx h=>by rw [Y9 h]; simp)
theorem Ja6 (a:List Frame):Yv a a=some true:=by
 unfold Yv
 exact Hac (fun i y nx h=>by rw [Y9 h]; simp)
abbrev J29:=mkN
theorem Rd4 (i:Nat) (h:i < 12):Ja 1 (i:Int)=some (J29 i):=mark_eq i h
theorem H6a {l:List Int} (hl:l.length≤1048576):Q0 l=some (l,marks J29):=by
 unfold Q0
 exact Hde Rd4 (by omega) hl
theorem H6c {l:List Int} (hl:l.length≤1048576):J7 (l,marks J29) l=some true:=by
 unfold J7
 exact Hdf Rd4 hl
def J66 (i:Nat):Row:=(Rk 1 (i:Int)).getD default
theorem Rd3 (i:Nat) (h:i < 12):Rk 1 (i:Int)=some (J66 i):=by
 unfold J66 Rk
 rw [mark_eq i h]; rfl
theorem Qeb {l:List Row} (hl:l.length≤1048576):Zv l=some (l,marks J66):=by
 unfold Zv
 exact Hde Rd3 (by omega) hl
theorem Qee {l:List Row} (hl:l.length≤1048576):Y8 (l,marks J66) l=some true:=by
 unfold Y8
 exact Hdf Rd3 hl
def H86 (i:Nat):Frame:=(Qx 1 (i:Int)).getD default
theorem Qd4 (i:Nat) (h:i < 12):Qx 1 (i:Int)=some (H86 i):=by
 unfold H86 Qx
 rw [mark_eq i h]; rfl
theorem Q38 {l:List Frame} (hl:l.length≤1048576):Yx l=some (l,marks H86):=by
 unfold Yx
 exact Hde Qd4 (by omega) hl
theorem Q3b {l:List Frame} (hl:l.length≤1048576):Rg (l,marks H86) l=some true:=by
 unfold Rg
 exact Hdf Qd4 hl
def Jb2 (i:Nat):Box:=(Rm 1 (i:Int)).getD default
theorem R63 (i:Nat) (h:i < 12):Rm 1 (i:Int)=some (Jb2 i):=by
 unfold Jb2 Rm
 rw [mark_eq i h]; rfl
theorem Q8d {l:List Box} (hl:l.length≤1048576):Zd l=some (l,marks Jb2):=by
 unfold Zd
 exact Hde R63 (by omega) hl
theorem Q90 {l:List Box} (hl:l.length≤1048576):Ze (l,marks Jb2) l=some true:=by
 unfold Ze
 exact Hdf R63 hl
def H85 (i:Nat):Stowed:=(Jk 1 (i:Int)).getD default
theorem Q55 (i:Nat) (h:i < 12):Jk 1 (i:Int)=some (H85 i):=by
 unfold H85 Jk
 rw [mark_eq i h]; rfl
theorem Q19 {l:List Stowed} (hl:l.length≤1048576):Qn l=some (l,marks H85):=by
 unfold Qn
 exact Hde Q55 (by omega) hl
theorem Q1c {l:List Stowed} (hl:l.length≤1048576):Yh (l,marks H85) l=some true:=by
 unfold Yh
 exact Hdf Q55 hl
def Gf0 (i:Nat):G3:=(Qs 1 (i:Int)).getD default
theorem Q56 (i:Nat) (h:i < 12):Qs 1 (i:Int)=some (Gf0 i):=by
 unfold Gf0 Qs
 rw [mark_eq i h]; rfl
def G6a (x:G3):Gv:={ Gv.of x with Plugs:=(x.Plugs,marks J29) }
theorem Q3a {x:G3} (h:x.Plugs.length≤1048576):Yz x=some (G6a x):=by
 unfold Yz
 rw [H6a h]; rfl
theorem H0d (a:G3):Jm a a=some true:=by
 unfold Jm
 simp [Ga8,bnd]
theorem Q3d {x:G3} (h:x.Plugs.length≤1048576):Ri (G6a x) x=some true:=by
 have e1:Jm (Gv.pl (G6a x)) x=some true:=H0d x
 have e2:J7 (G6a x).Plugs x.Plugs=some true:=H6c h
 unfold Ri
 show bnd (Jm (Gv.pl (G6a x)) x) (fun r3=>bnd (bif r3 then J7 (G6a x).Plugs x.Plugs else some default) fun r4=>some (r3&&r4))=some true
 rw [e1,H76,cond_true,e2,H76]; rfl
theorem Q1a {l:List G3} (hl:l.length≤1048576) (h:∀ x∈l,x.Plugs.length≤1048576):Yg l=some (l.map G6a,(marks Gf0).map Gv.of):=by
 unfold Yg
 exact J2c Gv.of Q56 (by omega) (fun x hx=>Q3a (h x hx)) hl
theorem J6c (a:List G3):Ye a a=some true:=by
 unfold Ye
 exact Hac (fun i y nx h=>by rw [Y9 h,H0d]; rfl)
theorem Q1d {l:List G3} (hl:l.length≤1048576) (h:∀ x∈l,x.Plugs.length≤1048576):Rb (l.map G6a,(marks Gf0).map Gv.of) l=some true:=by
 unfold Rb
 exact J2e (keep:=Ri) (same:=Jm) (pl:=Gv.pl) Q56 hl (fun x hx=>Q3d (h x hx)) (fun i hi=>H0d (Gf0 i))
theorem R98 (l:List G3):(l.map G6a).map Gv.pl=l:=by
 rw [List.map_map]
 exact(List.map_congr_left (fun x _=>rfl)).trans (List.map_id l)
def H33 (i:Nat):G9:=(Qy 1 (i:Int)).getD default
theorem Qd5 (i:Nat) (h:i < 12):Qy 1 (i:Int)=some (H33 i):=by
 unfold H33 Qy
 rw [mark_eq i h]; rfl
def Gb4 (x:G9):H3:={ H3.of x with Rows:=(x.Rows,marks J29) }
theorem Q8c {x:G9} (h:x.Rows.length≤1048576):Zc x=some (Gb4 x):=by
 unfold Zc
 rw [H6a h]; rfl
theorem H3a (a:G9):Jv a a=some true:=by
 unfold Jv
 simp [Ga8,bnd]
theorem Q8f {x:G9} (h:x.Rows.length≤1048576):Rt (Gb4 x) x=some true:=by
 have e1:Jv (H3.pl (Gb4 x)) x=some true:=H3a x
 have e2:J7 (Gb4 x).Rows x.Rows=some true:=H6c h
 unfold Rt
 show bnd (Jv (H3.pl (Gb4 x)) x) (fun r3=>bnd (bif r3 then J7 (Gb4 x).Rows x.Rows else some default) fun r4=>some (r3&&r4))=some true
 rw [e1,H76,cond_true,e2,H76]; rfl
theorem Q39 {l:List G9} (hl:l.length≤1048576) (h:∀ x∈l,x.Rows.length≤1048576):Yy l=some (l.map Gb4,(marks H33).map H3.of):=by
 unfold Yy
 exact J2c H3.of Qd5 (by omega) (fun x hx=>Q8c (h x hx)) hl
theorem Ja7 (a:List G9):Yw a a=some true:=by
 unfold Yw
 exact Hac (fun i y nx h=>by rw [Y9 h,H3a]; rfl)
theorem Q3c {l:List G9} (hl:l.length≤1048576) (h:∀ x∈l,x.Rows.length≤1048576):Rh (l.map Gb4,(marks H33).map H3.of) l=some true:=by
 unfold Rh
 exact J2e (keep:=Rt) (same:=Jv) (pl:=H3.pl) Qd5 hl (fun x hx=>Q8f (h x hx)) (fun i hi=>H3a (H33 i))
theorem Rcd (l:List G9):(l.map Gb4).map H3.pl=l:=by
 rw [List.map_map]
 exact(List.map_congr_left (fun x _=>rfl)).trans (List.map_id l)
def Hb1 (i:Nat):Gg:=(R9 1 (i:Int)).getD default
theorem R62 (i:Nat) (h:i < 12):R9 1 (i:Int)=some (Hb1 i):=by
 unfold Hb1 R9
 rw [mark_eq i h]; rfl
def H0a (x:Gg):H9:={ H9.of x with Steps:=(x.Steps,marks J29) }
theorem Qe9 {x:Gg} (h:x.Steps.length≤1048576):Zt x=some (H0a x):=by
 unfold Zt
 rw [H6a h]; rfl
theorem H78 (a:Gg):Jz a a=some true:=by
 unfold Jz
 simp [Ga8,bnd]
theorem Qec {x:Gg} (h:x.Steps.length≤1048576):Y7 (H0a x) x=some true:=by
 have e1:Jz (H9.pl (H0a x)) x=some true:=H78 x
 have e2:J7 (H0a x).Steps x.Steps=some true:=H6c h
 unfold Y7
 show bnd (Jz (H9.pl (H0a x)) x) (fun r3=>bnd (bif r3 then J7 (H0a x).Steps x.Steps else some default) fun r4=>some (r3&&r4))=some true
 rw [e1,H76,cond_true,e2,H76]; rfl
theorem Q8b {l:List Gg} (hl:l.length≤1048576) (h:∀ x∈l,x.Steps.length≤1048576):Zb l=some (l.map H0a,(marks Hb1).map H9.of):=by
 unfold Zb
 exact J2c H9.of R62 (by omega) (fun x hx=>Qe9 (h x hx)) hl
theorem Q0f (a:List Gg):Za a a=some true:=by
 unfold Za
 exact Hac (fun i y nx h=>by rw [Y9 h,H78]; rfl)
theorem Q8e {l:List Gg} (hl:l.length≤1048576) (h:∀ x∈l,x.Steps.length≤1048576):Rs (l.map H0a,(marks Hb1).map H9.of) l=some true:=by
 unfold Rs
 exact J2e (keep:=Y7) (same:=Jz) (pl:=H9.pl) R62 hl (fun x hx=>Qec (h x hx)) (fun i hi=>H78 (Hb1 i))
theorem Rf9 (l:List Gg):(l.map H0a).map H9.pl=l:=by
 rw [List.map_map]
 exact(List.map_congr_left (fun x _=>rfl)).trans (List.map_id l)
structure J02 (s:H0):Prop where
 cols:s.Columns.length≤1048576
 plugs:∀ c∈s.Columns,c.Plugs.length≤1048576
 covs:s.Covers.length≤1048576
 crows:∀ x∈s.Covers,x.Rows.length≤1048576
 rows:s.Rows.length≤1048576
 frames:s.Frames.length≤1048576
 tanks:s.Tanks.length≤1048576
 steps:∀ x∈s.Tanks,x.Steps.length≤1048576
def Hb2 (s:H0):Rv:=⟨(s.Columns.map G6a,(marks Gf0).map Gv.of),(s.Covers.map Gb4,(marks H33).map H3.of),s.Light,(s.Rows,marks J66),(s.Frames,marks H86),(s.Tanks.map H0a,(marks Hb1).map H9.of),s.G1⟩
theorem Qea {s:H0} (h:J02 s):Zu s=some (Hb2 s):=by
 unfold Zu
 rw [Q1a h.cols h.plugs,Q39 h.covs h.crows,Qeb h.rows,Q38 h.frames,Q8b h.tanks h.steps]
 rfl
theorem Rcc (s:H0):H0.mk ((Hb2 s).Columns.1.map Gv.pl) ((Hb2 s).Covers.1.map H3.pl) (Hb2 s).Light (Hb2 s).Rows.1 (Hb2 s).Frames.1 ((Hb2 s).Tanks.1.map H9.pl) (Hb2 s).G1=s:=by
 show H0.mk ((s.Columns.map G6a).map Gv.pl) ((s.Covers.map Gb4).map H3.pl) s.Light s.Rows s.Frames ((s.Tanks.map H0a).map H9.pl) s.G1=s
 rw [R98,Rcd,Rf9]
theorem Q30 (s:H0):Zq s s=some true:=by
 unfold Zq
 simp [J6c,Ja7,Q31,Ja6,Q0f,bnd]
theorem Qed {s:H0} (h:J02 s):Zw (Hb2 s) s=some true:=by
 have e1:=Q1d h.cols h.plugs
 have e2:=Q3c h.covs h.crows
 have e3:=Qee h.rows
 have e4:=Q3b h.frames
 have e5:=Q8e h.tanks h.steps
 unfold Zw
 rw [Rcc,Q30,H76,cond_true]
 show bnd (Rb (s.Columns.map G6a,(marks Gf0).map Gv.of) s.Columns) _=_
 rw [e1,H76,Bool.and_self,cond_true]
 show bnd (Rh (s.Covers.map Gb4,(marks H33).map H3.of) s.Covers) _=_
 rw [e2,H76,Bool.and_self,cond_true]
 show bnd (Y8 (s.Rows,marks J66) s.Rows) _=_
 rw [e3,H76,Bool.and_self,cond_true]
 show bnd (Rg (s.Frames,marks H86) s.Frames) _=_
 rw [e4,H76,Bool.and_self,cond_true]
 show bnd (Rs (s.Tanks.map H0a,(marks Hb1).map H9.of) s.Tanks) _=_
 rw [e5,H76]
 rfl
end Go.Proofs.YtecjdioomlhhiaaGreat
