/-
 What the functions return that lend and check arguments.
-/
import Derived.Test.YtjkmmenifdklmaaGreatXL
import Derived.Test.YtjkmmenifdklmaaGreatWp
set_option maxRecDepth 100000
set_option linter.unusedVariables false
namespace Go.Proofs.YtjkmmenifdklmaaGreat
open Go.RowKit

theorem roomS {n k:Nat} (hn:n≤10000001) (hk:k≤1000):decide (n*k≤140737488355328∧n≤maxLen)=true:=by
 refine decide_eq_true ⟨?_,by unfold maxLen; omega⟩
 exact Nat.le_trans (Nat.mul_le_mul hn hk) (by omega)
theorem roomM {n k:Nat} (hn:n≤10000001) (hk:k≤1000):decide (k*n≤281474976710656∧n≤maxLen)=true:=by
 refine decide_eq_true ⟨?_,by unfold maxLen; omega⟩
 exact Nat.le_trans (Nat.mul_le_mul hk hn) (by omega)
theorem natOfI {n:Nat} {z:Int} (h:z=(n:Int)):Gcd z=some n:=by
 subst h
 unfold Gcd
 rw [decide_eq_true (by omega:(0:Int)≤(n:Int))]
 simp
section generic
variable {α β:Type}
theorem H75 {x:α} {k:α→Option β}:bnd (some x) k=k x:=rfl
/-- The marks behind a lent slice. -/
def marks (mv:Nat→α):List α:=(List.range 12).map mv
theorem Jab {mv:Nat→α} {i:Nat} (h:i < 12):(marks mv)[i]? = some (mv i):=by
 unfold marks
 rw [List.getElem?_map,List.getElem?_range h]; rfl
theorem J2c {mv:Nat→α}:(marks mv).length=12:=by simp [marks]
theorem marks_take {mv:Nat→α} {i:Nat} (h:i < 12):(marks mv).take (i+1)=(marks mv).take i++[mv i]:=by
 rw [List.take_add_one,Jab h]; rfl
theorem lentTail {mk:Int→Option β} {mv:Nat→β} (of:β→α) (hmk:∀ i:Nat,i < 12→mk (i:Int)=some (mv i)) {by_:Nat} (hby:by_≤1000) {n:Nat} {s0:List α} (hn:s0.length=n) (hl:n≤1048576) :
  (need (decide ((12:Int)≤9223372036854775807)) <| upto (fun i (s:List α) nx=>bnd (mk (i:Int)) fun r=>need (decide ((s.length+[of r].length)*by_≤140737488355328∧s.length+[of r].length≤maxLen)) <| nx (s++[of r])) (fun s=>bnd (G36 (n:Int) s.length) fun m=>some (s.take m,s.drop m)) (12:Int).toNat 0 s0)=some (s0,(marks mv).map of):=by
 refine G1e (G04 rfl ?_)
 refine J71 (fun i s=>s=s0++((marks mv).map of).take i) (by simp) (fun i s nx hi hI hnx=>?_) (fun s hI=>?_)
 ·have hi:i < 12:=hi
  subst hI
  have hle:(s0++((marks mv).map of).take i).length≤n+12:=by
   rw [List.length_append,List.length_take]; omega
  refine H2 (hmk i hi) (G04 (roomS (by rw [List.length_singleton]; omega) hby) (hnx _ ?_))
  rw [← List.map_take,← List.map_take,marks_take hi,List.map_append,List.append_assoc]
  rfl
 ·have h12:(12:Int).toNat=12:=rfl
  rw [h12,List.take_of_length_le (by rw [List.length_map,J2c]; omega)] at hI
  subst hI
  refine Hj (J7f (m:=n) rfl (by rw [List.length_append]; omega) (Gt ?_))
  rw [← hn,List.take_left,List.drop_left]
theorem H9a {mk:Int→Option α} {mv:Nat→α} (hmk:∀ i:Nat,i < 12→mk (i:Int)=some (mv i)) {by_:Nat} (hby:by_≤1000) {l:List α} (hl:l.length≤1048576) :
  (G1f ((l.length:Int)+12) fun v3=>bnd (Gcd v3) fun m4=>need (decide (by_*m4≤281474976710656∧m4≤maxLen)) <| need (decide ((([]:List α).length+l.length)*by_≤140737488355328∧([]:List α).length+l.length≤maxLen)) <|
   need (decide ((12:Int)≤9223372036854775807)) <| upto (fun i (s:List α) nx=>bnd (mk (i:Int)) fun r=>need (decide ((s.length+[r].length)*by_≤140737488355328∧s.length+[r].length≤maxLen)) <| nx (s++[r])) (fun s=>bnd (G36 (l.length:Int) s.length) fun m=>some (s.take m,s.drop m)) (12:Int).toNat 0 (([]:List α)++l))=some (l,marks mv):=by
 refine G1e (G2d ⟨by omega,by omega⟩ (H2 (natOfI (n:=l.length+12) (by omega)) (G04 (roomM (by omega) hby) (G04 (roomS (by rw [List.length_nil]; omega) hby) ⟨_,lentTail (fun x=>x) hmk hby (s0:=([]:List α)++l) (n:=l.length) (by simp) hl,?_⟩))))
 rw [List.map_id'',List.nil_append]
 exact fun _=>rfl
theorem Hee {lx:β→Option α} {lv:β→α} {mk:Int→Option β} {mv:Nat→β} (of:β→α) (hmk:∀ i:Nat,i < 12→mk (i:Int)=some (mv i)) {by_:Nat} (hby:by_≤1000) {l:List β} (hlx:∀ x∈l,lx x=some (lv x)) (hl:l.length≤1048576) :
  (G1f ((l.length:Int)+12) fun v3=>bnd (Gcd v3) fun m4=>need (decide (by_*m4≤281474976710656∧m4≤maxLen)) <|
   each (fun y (i:Nat) (s:List α) nx=>bnd (lx y) fun r=>need (decide ((s.length+[r].length)*by_≤140737488355328∧s.length+[r].length≤maxLen)) <| nx (s++[r]))
   (fun(s0:List α)=>need (decide ((12:Int)≤9223372036854775807)) <| upto (fun i (s:List α) nx=>bnd (mk (i:Int)) fun r=>need (decide ((s.length+[of r].length)*by_≤140737488355328∧s.length+[of r].length≤maxLen)) <| nx (s++[of r])) (fun s=>bnd (G36 (l.length:Int) s.length) fun m=>some (s.take m,s.drop m)) (12:Int).toNat 0 s0) l 0 [])=some (l.map lv,(marks mv).map of):=by
 refine G1e (G2d ⟨by omega,by omega⟩ (H2 (natOfI (n:=l.length+12) (by omega)) (G04 (roomM (by omega) hby) ?_)))
 refine Qk (fun pre s=>s=pre.map lv) rfl (fun pre y post s nx e hI hnx=>?_) (fun s hI=>?_)
 ·subst hI
  have hp:pre.length < l.length:=by rw [e]; simp
  refine H2 (hlx y (by rw [e]; simp)) (G04 (roomS (by rw [List.length_singleton,List.length_map]; omega) hby) (hnx _ ?_))
  rw [List.map_append]; rfl
 ·subst hI
  exact⟨_,lentTail of hmk hby (by simp) hl,rfl⟩
/-- Each element is what it was: the checks pass. -/
theorem keptGen [Inhabited α] [Inhabited β] {mk:Int→Option β} {mv:Nat→β} (hmk:∀ i:Nat,i < 12→mk (i:Int)=some (mv i)) {l:List β} (hl:l.length≤1048576) {xs:List α} {ys:List α} (hx:xs.length=l.length) (hy:ys.length=12)
  {body:α→Nat→Unit→(Unit→Option Bool)→Option Bool}
  (h1:∀ (i:Nat) y z nx,i < l.length→xs[i]? = some y→l[i]? = some z→body y i () nx=nx ())
  (h2:∀ (i:Nat) y nx,i < 12→ys[i]? = some y→body y (l.length+i) () nx=nx ()) :
  (bif decide ((((xs,ys):Ln α).1.length:Int)≠(l.length:Int)) then some false else (G1f ((l.length:Int)+12) fun v6=>bnd (G36 v6 (((xs,ys):Ln α).1++((xs,ys):Ln α).2).length) fun m7=>each body (fun(_:Unit)=>some true) ((((xs,ys):Ln α).1++((xs,ys):Ln α).2).take m7) 0 ()))=some true:=by
 have hd:decide ((((xs,ys):Ln α).1.length:Int)≠(l.length:Int))=false:=decide_eq_false (by simp only [ne_eq,Decidable.not_not]; omega)
 rw [hd,cond_false]
 refine G1e (G2d ⟨by omega,by omega⟩ (Hj (J7f (m:=l.length+12) (by omega) (by simp only [List.length_append]; omega) ?_)))
 have ht:(((xs,ys):Ln α).1++((xs,ys):Ln α).2).take (l.length+12)=xs++ys:=List.take_of_length_le (by simp only [List.length_append]; omega)
 rw [ht]
 refine Qk (fun _ _=>True) trivial (fun pre y post s nx e _ hnx=>?_) (fun s _=>Gt rfl)
 have hg:(xs++ys)[pre.length]? = some y:=by rw [e]; simp
 rcases Nat.lt_or_ge pre.length l.length with h | h
 ·rw [List.getElem?_append_left (by omega)] at hg
  rw [h1 pre.length y _ nx h hg (List.getElem?_eq_getElem h)]
  exact hnx _ trivial
 ·rw [List.getElem?_append_right (by omega)] at hg
  have hp:pre.length < l.length+12:=by
   have:=congrArg List.length e
   simp only [List.length_append,List.length_cons] at this
   omega
  have:=h2 (pre.length - l.length) y nx (by omega) (by rw [← hx]; exact hg)
  rw [show l.length+(pre.length - l.length)=pre.length by omega] at this
  rw [this]
  exact hnx _ trivial
theorem H9b [DecidableEq α] [Inhabited α] {mk:Int→Option α} {mv:Nat→α} (hmk:∀ i:Nat,i < 12→mk (i:Int)=some (mv i)) {l:List α} (hl:l.length≤1048576) :
  (bif decide ((((l,marks mv):Ln α).1.length:Int)≠(l.length:Int)) then some false else (G1f ((l.length:Int)+12) fun v6=>bnd (G36 v6 (((l,marks mv):Ln α).1++((l,marks mv):Ln α).2).length) fun m7=>
   each (fun y29 i29 (s29:Unit) nx29=>
    bnd (bif decide ((i29:Int) < (l.length:Int)) then Qm l (i29:Int) some else some default) fun y34=>
    bnd (bif ((!((decide ((i29:Int) < (l.length:Int)))&&(!(decide (y29=y34)))))&&(decide ((l.length:Int)≤(i29:Int)))) then G1f ((i29:Int) - (l.length:Int)) some else some 0) fun v35=>
    bnd (bif ((!((decide ((i29:Int) < (l.length:Int)))&&(!(decide (y29=y34)))))&&(decide ((l.length:Int)≤(i29:Int)))) then mk v35 else some default) fun r36=>
    bif (((decide ((i29:Int) < (l.length:Int)))&&(!(decide (y29=y34))))||((decide ((l.length:Int)≤(i29:Int)))&&(!(decide (y29=r36))))) then (some false) else (nx29 ()))
   (fun(_:Unit)=>some true) ((((l,marks mv):Ln α).1++((l,marks mv):Ln α).2).take m7) 0 ()))=some true:=by
 refine keptGen hmk hl rfl J2c (fun i y z nx hi hy hz=>?_) (fun i y nx hi hy=>?_)
 ·rw [hy] at hz
  cases hz
  have hg:Qm l (i:Int) some=some y:=by
   unfold Qm
   rw [decide_eq_true (by omega:(0:Int)≤(i:Int)),cond_true,show (i:Int).toNat=i by omega,hy]; rfl
  rw [decide_eq_true (by omega:(i:Int) < (l.length:Int)),cond_true,hg]
  simp only [bnd,decide_true,Bool.not_true,Bool.and_false,Bool.not_false,Bool.true_and,Bool.false_or]
  rw [decide_eq_false (by omega:¬ (l.length:Int)≤(i:Int))]
  rfl
 ·rw [Jab hi] at hy
  cases hy
  have hc:((l.length+i:Nat):Int) - (l.length:Int)=(i:Int):=by omega
  rw [decide_eq_false (by omega:¬ ((l.length+i:Nat):Int) < (l.length:Int)),cond_false,hc,decide_eq_true (by omega:(l.length:Int)≤((l.length+i:Nat):Int))]
  have hk:G1f (i:Int) some=some (i:Int):=G1e (G2d ⟨by omega,by omega⟩ (Gt rfl))
  simp only [bnd,Bool.false_and,Bool.not_false,Bool.and_self,cond_true,hk,hmk i hi,decide_true,Bool.not_true,Bool.and_false,Bool.or_self,cond_false]
theorem Hf0 [Inhabited α] [Inhabited β] {mk:Int→Option β} {mv:Nat→β} (hmk:∀ i:Nat,i < 12→mk (i:Int)=some (mv i)) {lv of:β→α} {pl:α→β} {keep:α→β→Option Bool} {same:β→β→Option Bool} {l:List β} (hl:l.length≤1048576)
  (hkeep:∀ x∈l,keep (lv x) x=some true) (hsame:∀ i:Nat,i < 12→same (pl (of (mv i))) (mv i)=some true) :
  (bif decide ((((l.map lv,(marks mv).map of):Ln α).1.length:Int)≠(l.length:Int)) then some false else (G1f ((l.length:Int)+12) fun v6=>bnd (G36 v6 (((l.map lv,(marks mv).map of):Ln α).1++((l.map lv,(marks mv).map of):Ln α).2).length) fun m7=>
   each (fun y33 i33 (s33:Unit) nx33=>
    bnd (bif decide ((i33:Int) < (l.length:Int)) then Qm l (i33:Int) some else some default) fun y38=>
    bnd (bif decide ((i33:Int) < (l.length:Int)) then keep y33 y38 else some default) fun r39=>
    bnd (bif ((!((decide ((i33:Int) < (l.length:Int)))&&(!r39)))&&(decide ((l.length:Int)≤(i33:Int)))) then G1f ((i33:Int) - (l.length:Int)) some else some 0) fun v40=>
    bnd (bif ((!((decide ((i33:Int) < (l.length:Int)))&&(!r39)))&&(decide ((l.length:Int)≤(i33:Int)))) then mk v40 else some default) fun r41=>
    bnd (bif ((!((decide ((i33:Int) < (l.length:Int)))&&(!r39)))&&(decide ((l.length:Int)≤(i33:Int)))) then same (pl y33) r41 else some default) fun r42=>
    bif (((decide ((i33:Int) < (l.length:Int)))&&(!r39))||((decide ((l.length:Int)≤(i33:Int)))&&(!r42))) then (some false) else (nx33 ()))
   (fun(_:Unit)=>some true) ((((l.map lv,(marks mv).map of):Ln α).1++((l.map lv,(marks mv).map of):Ln α).2).take m7) 0 ()))=some true:=by
 refine keptGen hmk hl (by simp) (by simp [J2c]) (fun i y z nx hi hy hz=>?_) (fun i y nx hi hy=>?_)
 ·rw [List.getElem?_map,hz] at hy
  cases hy
  have hg:Qm l (i:Int) some=some z:=by
   unfold Qm
   rw [decide_eq_true (by omega:(0:Int)≤(i:Int)),cond_true,show (i:Int).toNat=i by omega,hz]; rfl
  rw [decide_eq_true (by omega:(i:Int) < (l.length:Int)),cond_true,hg]
  simp only [bnd,cond_true,hkeep z (List.mem_of_getElem? hz),Bool.not_true,Bool.and_false,Bool.not_false,Bool.true_and,Bool.false_or]
  rw [decide_eq_false (by omega:¬ (l.length:Int)≤(i:Int))]
  rfl
 ·rw [List.getElem?_map,Jab hi] at hy
  cases hy
  have hc:((l.length+i:Nat):Int) - (l.length:Int)=(i:Int):=by omega
  rw [decide_eq_false (by omega:¬ ((l.length+i:Nat):Int) < (l.length:Int)),cond_false,hc,decide_eq_true (by omega:(l.length:Int)≤((l.length+i:Nat):Int))]
  have hk:G1f (i:Int) some=some (i:Int):=G1e (G2d ⟨by omega,by omega⟩ (Gt rfl))
  simp only [bnd,cond_false,Bool.false_and,Bool.not_false,Bool.and_self,cond_true,hk,hmk i hi,hsame i hi,Bool.not_true,Bool.and_false,Bool.or_self]
/-- A list is the same as itself. -/
theorem Hb4 {l:List α} {body:α→Nat→Unit→(Unit→Option Bool)→Option Bool} (h:∀ (i:Nat) y nx,l[i]? = some y→body y i () nx=nx ()) :
  (bif decide ((l.length:Int)≠(l.length:Int)) then some false else each body (fun(_:Unit)=>some true) l 0 ())=some true:=by
 rw [decide_eq_false (by simp),cond_false]
 refine G1e (Qk (fun _ _=>True) trivial (fun pre y post s nx e _ hnx=>?_) (fun s _=>Gt rfl))
 rw [h pre.length y nx (by rw [e]; simp)]
 exact hnx _ trivial
theorem Yg {γ:Type} {l:List α} {i:Nat} {y:α} (h:l[i]? = some y) (k:α→Option γ):Qm l (i:Int) k=k y:=by
 unfold Qm
 rw [decide_eq_true (by omega:(0:Int)≤(i:Int)),cond_true,show (i:Int).toNat=i by omega,h]; rfl
end generic

/-- The marks' numbers. -/
def mkN (i:Nat):Int:=8000024+(i:Int)
theorem mark_eq (i:Nat) (h:i < 12):Jf 1 (i:Int)=some (mkN i):=by
 refine G1e ?_
 unfold Jf mkN
 exact G2d ⟨by decide,by decide⟩ (G2d ⟨by decide,by decide⟩ (G2d ⟨by omega,by omega⟩ (Gt (by omega))))
theorem G80 (a:List Int):Jc a a=some true:=by
 unfold Jc
 exact Hb4 (fun i y nx h=>by rw [Yg h]; simp)
theorem SameRows_self (a:List Row):Ys a a=some true:=by
 unfold Ys
 exact Hb4 (fun i y nx h=>by rw [Yg h]; simp)
theorem J6a (a:List Frame):Rw a a=some true:=by
 unfold Rw
 exact Hb4 (fun i y nx h=>by rw [Yg h]; simp)
abbrev J2b:=mkN
theorem mkInts (i:Nat) (h:i < 12):Jf 1 (i:Int)=some (J2b i):=mark_eq i h
theorem H35 {l:List Int} (hl:l.length≤1048576):Qe l=some (l,marks J2b):=by
 unfold Qe
 exact H9a mkInts (by omega) hl
theorem H36 {l:List Int} (hl:l.length≤1048576):J3 (l,marks J2b) l=some true:=by
 unfold J3
 exact H9b mkInts hl
def J2a (i:Nat):Row:=(R3 1 (i:Int)).getD default
theorem mkRows (i:Nat) (h:i < 12):R3 1 (i:Int)=some (J2a i):=by
 unfold J2a R3
 rw [mark_eq i h]; rfl
theorem LentRows_eq {l:List Row} (hl:l.length≤1048576):Yv l=some (l,marks J2a):=by
 unfold Yv
 exact H9a mkRows (by omega) hl
theorem KeptRows_eq {l:List Row} (hl:l.length≤1048576):Ri (l,marks J2a) l=some true:=by
 unfold Ri
 exact H9b mkRows hl
def H4b (i:Nat):Frame:=(Qn 1 (i:Int)).getD default
theorem mkFrames (i:Nat) (h:i < 12):Qn 1 (i:Int)=some (H4b i):=by
 unfold H4b Qn
 rw [mark_eq i h]; rfl
theorem LentFrames_eq {l:List Frame} (hl:l.length≤1048576):Ry l=some (l,marks H4b):=by
 unfold Ry
 exact H9a mkFrames (by omega) hl
theorem KeptFrames_eq {l:List Frame} (hl:l.length≤1048576):R0 (l,marks H4b) l=some true:=by
 unfold R0
 exact H9b mkFrames hl
def J77 (i:Nat):Gh:=(R4 1 (i:Int)).getD default
theorem mkBoxes (i:Nat) (h:i < 12):R4 1 (i:Int)=some (J77 i):=by
 unfold J77 R4
 rw [mark_eq i h]; rfl
theorem LentBoxes_eq {l:List Gh} (hl:l.length≤1048576):Yd l=some (l,marks J77):=by
 unfold Yd
 exact H9a mkBoxes (by omega) hl
theorem KeptBoxes_eq {l:List Gh} (hl:l.length≤1048576):Ye (l,marks J77) l=some true:=by
 unfold Ye
 exact H9b mkBoxes hl
def Hb9 (i:Nat):Stowed:=(Qg 1 (i:Int)).getD default
theorem mkStoweds (i:Nat) (h:i < 12):Qg 1 (i:Int)=some (Hb9 i):=by
 unfold Hb9 Qg
 rw [mark_eq i h]; rfl
theorem Jc6 {l:List Stowed} (hl:l.length≤1048576):Ro l=some (l,marks Hb9):=by
 unfold Ro
 exact H9a mkStoweds (by omega) hl
theorem Jc8 {l:List Stowed} (hl:l.length≤1048576):Rr (l,marks Hb9) l=some true:=by
 unfold Rr
 exact H9b mkStoweds hl
def Gbd (i:Nat):G4:=(Qh 1 (i:Int)).getD default
theorem mkColumns (i:Nat) (h:i < 12):Qh 1 (i:Int)=some (Gbd i):=by
 unfold Gbd Qh
 rw [mark_eq i h]; rfl
def G49 (x:G4):Gw:={ Gw.of x with Plugs:=(x.Plugs,marks J2b) }
theorem LentColumn_eq {x:G4} (h:x.Plugs.length≤1048576):Y0 x=some (G49 x):=by
 unfold Y0
 rw [H35 h]; rfl
theorem Gdc (a:G4):Jg a a=some true:=by
 unfold Jg
 simp [G80,bnd]
theorem KeptColumn_eq {x:G4} (h:x.Plugs.length≤1048576):R2 (G49 x) x=some true:=by
 have e1:Jg (Gw.pl (G49 x)) x=some true:=Gdc x
 have e2:J3 (G49 x).Plugs x.Plugs=some true:=H36 h
 unfold R2
 show bnd (Jg (Gw.pl (G49 x)) x) (fun r3=>bnd (bif r3 then J3 (G49 x).Plugs x.Plugs else some default) fun r4=>some (r3&&r4))=some true
 rw [e1,H75,cond_true,e2,H75]; rfl
theorem Jc7 {l:List G4} (hl:l.length≤1048576) (h:∀ x∈l,x.Plugs.length≤1048576):Rq l=some (l.map G49,(marks Gbd).map Gw.of):=by
 unfold Rq
 exact Hee Gw.of mkColumns (by omega) (fun x hx=>LentColumn_eq (h x hx)) hl
theorem J34 (a:List G4):Rn a a=some true:=by
 unfold Rn
 exact Hb4 (fun i y nx h=>by rw [Yg h,Gdc]; rfl)
theorem Jc9 {l:List G4} (hl:l.length≤1048576) (h:∀ x∈l,x.Plugs.length≤1048576):Qv (l.map G49,(marks Gbd).map Gw.of) l=some true:=by
 unfold Qv
 exact Hf0 (keep:=R2) (same:=Jg) (pl:=Gw.pl) mkColumns hl (fun x hx=>KeptColumn_eq (h x hx)) (fun i hi=>Gdc (Gbd i))
theorem plColumns (l:List G4):(l.map G49).map Gw.pl=l:=by
 rw [List.map_map]
 exact(List.map_congr_left (fun x _=>rfl)).trans (List.map_id l)
def H04 (i:Nat):Gc:=(Qo 1 (i:Int)).getD default
theorem mkCovers (i:Nat) (h:i < 12):Qo 1 (i:Int)=some (H04 i):=by
 unfold H04 Qo
 rw [mark_eq i h]; rfl
def G8e (x:Gc):H7:={ H7.of x with Rows:=(x.Rows,marks J2b) }
theorem LentCover_eq {x:Gc} (h:x.Rows.length≤1048576):Yc x=some (G8e x):=by
 unfold Yc
 rw [H35 h]; rfl
theorem H0a (a:Gc):Jp a a=some true:=by
 unfold Jp
 simp [G80,bnd]
theorem KeptCover_eq {x:Gc} (h:x.Rows.length≤1048576):R8 (G8e x) x=some true:=by
 have e1:Jp (H7.pl (G8e x)) x=some true:=H0a x
 have e2:J3 (G8e x).Rows x.Rows=some true:=H36 h
 unfold R8
 show bnd (Jp (H7.pl (G8e x)) x) (fun r3=>bnd (bif r3 then J3 (G8e x).Rows x.Rows else some default) fun r4=>some (r3&&r4))=some true
 rw [e1,H75,cond_true,e2,H75]; rfl
theorem LentCovers_eq {l:List Gc} (hl:l.length≤1048576) (h:∀ x∈l,x.Rows.length≤1048576):Rz l=some (l.map G8e,(marks H04).map H7.of):=by
 unfold Rz
 exact Hee H7.of mkCovers (by omega) (fun x hx=>LentCover_eq (h x hx)) hl
theorem J6b (a:List Gc):Rx a a=some true:=by
 unfold Rx
 exact Hb4 (fun i y nx h=>by rw [Yg h,H0a]; rfl)
theorem KeptCovers_eq {l:List Gc} (hl:l.length≤1048576) (h:∀ x∈l,x.Rows.length≤1048576):R1 (l.map G8e,(marks H04).map H7.of) l=some true:=by
 unfold R1
 exact Hf0 (keep:=R8) (same:=Jp) (pl:=H7.pl) mkCovers hl (fun x hx=>KeptCover_eq (h x hx)) (fun i hi=>H0a (H04 i))
theorem plCovers (l:List Gc):(l.map G8e).map H7.pl=l:=by
 rw [List.map_map]
 exact(List.map_congr_left (fun x _=>rfl)).trans (List.map_id l)
def H70 (i:Nat):Gj:=(Qu 1 (i:Int)).getD default
theorem mkTanks (i:Nat) (h:i < 12):Qu 1 (i:Int)=some (H70 i):=by
 unfold H70 Qu
 rw [mark_eq i h]; rfl
def Gd9 (x:Gj):Hb:={ Hb.of x with Steps:=(x.Steps,marks J2b) }
theorem LentTank_eq {x:Gj} (h:x.Steps.length≤1048576):Yt x=some (Gd9 x):=by
 unfold Yt
 rw [H35 h]; rfl
theorem H3e (a:Gj):Ju a a=some true:=by
 unfold Ju
 simp [G80,bnd]
theorem KeptTank_eq {x:Gj} (h:x.Steps.length≤1048576):Rh (Gd9 x) x=some true:=by
 have e1:Ju (Hb.pl (Gd9 x)) x=some true:=H3e x
 have e2:J3 (Gd9 x).Steps x.Steps=some true:=H36 h
 unfold Rh
 show bnd (Ju (Hb.pl (Gd9 x)) x) (fun r3=>bnd (bif r3 then J3 (Gd9 x).Steps x.Steps else some default) fun r4=>some (r3&&r4))=some true
 rw [e1,H75,cond_true,e2,H75]; rfl
theorem LentTanks_eq {l:List Gj} (hl:l.length≤1048576) (h:∀ x∈l,x.Steps.length≤1048576):Yb l=some (l.map Gd9,(marks H70).map Hb.of):=by
 unfold Yb
 exact Hee Hb.of mkTanks (by omega) (fun x hx=>LentTank_eq (h x hx)) hl
theorem Jbc (a:List Gj):Ya a a=some true:=by
 unfold Ya
 exact Hb4 (fun i y nx h=>by rw [Yg h,H3e]; rfl)
theorem KeptTanks_eq {l:List Gj} (hl:l.length≤1048576) (h:∀ x∈l,x.Steps.length≤1048576):R7 (l.map Gd9,(marks H70).map Hb.of) l=some true:=by
 unfold R7
 exact Hf0 (keep:=Rh) (same:=Ju) (pl:=Hb.pl) mkTanks hl (fun x hx=>KeptTank_eq (h x hx)) (fun i hi=>H3e (H70 i))
theorem plTanks (l:List Gj):(l.map Gd9).map Hb.pl=l:=by
 rw [List.map_map]
 exact(List.map_congr_left (fun x _=>rfl)).trans (List.map_id l)
/-- No list of a ship is longer than it may be. -/
structure Hc1 (s:H4):Prop where
 cols:s.Columns.length≤1048576
 plugs:∀ c∈s.Columns,c.Plugs.length≤1048576
 covs:s.Covers.length≤1048576
 crows:∀ x∈s.Covers,x.Rows.length≤1048576
 rows:s.Rows.length≤1048576
 frames:s.Frames.length≤1048576
 tanks:s.Tanks.length≤1048576
 steps:∀ x∈s.Tanks,x.Steps.length≤1048576
def H71 (s:H4):Rk:=⟨(s.Columns.map G49,(marks Gbd).map Gw.of),(s.Covers.map G8e,(marks H04).map H7.of),s.Light,(s.Rows,marks J2a),(s.Frames,marks H4b),(s.Tanks.map Gd9,(marks H70).map Hb.of),s.G2⟩
theorem LentShip_eq {s:H4} (h:Hc1 s):Yu s=some (H71 s):=by
 unfold Yu
 rw [Jc7 h.cols h.plugs,LentCovers_eq h.covs h.crows,LentRows_eq h.rows,LentFrames_eq h.frames,LentTanks_eq h.tanks h.steps]
 rfl
theorem plShip (s:H4):H4.mk ((H71 s).Columns.1.map Gw.pl) ((H71 s).Covers.1.map H7.pl) (H71 s).Light (H71 s).Rows.1 (H71 s).Frames.1 ((H71 s).Tanks.1.map Hb.pl) (H71 s).G2=s:=by
 show H4.mk ((s.Columns.map G49).map Gw.pl) ((s.Covers.map G8e).map H7.pl) s.Light s.Rows s.Frames ((s.Tanks.map Gd9).map Hb.pl) s.G2=s
 rw [plColumns,plCovers,plTanks]
theorem SameShip_self (s:H4):Yr s s=some true:=by
 unfold Yr
 simp [J34,J6b,SameRows_self,J6a,Jbc,bnd]
theorem KeptShip_eq {s:H4} (h:Hc1 s):Yw (H71 s) s=some true:=by
 have e1:=Jc9 h.cols h.plugs
 have e2:=KeptCovers_eq h.covs h.crows
 have e3:=KeptRows_eq h.rows
 have e4:=KeptFrames_eq h.frames
 have e5:=KeptTanks_eq h.tanks h.steps
 unfold Yw
 rw [plShip,SameShip_self,H75,cond_true]
 show bnd (Qv (s.Columns.map G49,(marks Gbd).map Gw.of) s.Columns) _=_
 rw [e1,H75,Bool.and_self,cond_true]
 show bnd (R1 (s.Covers.map G8e,(marks H04).map H7.of) s.Covers) _=_
 rw [e2,H75,Bool.and_self,cond_true]
 show bnd (Ri (s.Rows,marks J2a) s.Rows) _=_
 rw [e3,H75,Bool.and_self,cond_true]
 show bnd (R0 (s.Frames,marks H4b) s.Frames) _=_
 rw [e4,H75,Bool.and_self,cond_true]
 show bnd (R7 (s.Tanks.map Gd9,(marks H70).map Hb.of) s.Tanks) _=_
 rw [e5,H75]
 rfl
end Go.Proofs.YtjkmmenifdklmaaGreat
